/- The pure statement of FnExactCountPatterns. No condition. -/
import Derived.Test.YtckdinepbgilfaaGCP1
section
namespace Go.Proofs.Ytckdinepbgilfaa.P
open Go.RowKit Go.Proofs.YtckdinepbgilfaaW.PrintWords Go.Proofs.YtckdinepbgilfaaW.PrintLast Go.Proofs.YtckdinepbgilfaaW.PrintMore
attribute [local go_sem] max2_int min2_int max_two min_two max_three min_three max_four min_four   -- for this text's walks alone
set_option linter.unusedVariables false
set_option linter.unusedSimpArgs false

/-! ### laws_FnExactCountPatterns: function 9 -/
def laws_FnExactCountPatterns.f (k : Nat) (a0 : Int) (a1 : Int) (a2 : Int) : Option (Bool) := (spec_CountPatterns.f k a0 a1 a2).bind fun bt293 => ((impl_CountPatterns.f k a0 a1 a2).bind fun bt295 => (if bt295.1 = bt293.1 then (if bt295.2 = bt293.2 then (some true) else (some false)) else (some false)))
theorem laws_FnExactCountPatterns.mono : ∀ a0 a1 a2 k, LeO (laws_FnExactCountPatterns.f k a0 a1 a2) (laws_FnExactCountPatterns.f (k + 1) a0 a1 a2) := by
  intro a0 a1 a2 k
  unfold laws_FnExactCountPatterns.f
  repeat' first
      | (with_reducible exact impl_CountPatterns.mono _ _ _ _)
      | (with_reducible exact spec_CountPatterns.mono _ _ _ _)
      | (with_reducible exact LeO.refl _)
      | (with_reducible exact LeO.none _)
      | (with_reducible refine LeO.ite ?_ ?_)
      | (with_reducible refine LeO.bind ?_ (fun _ => ?_))
      | exact impl_CountPatterns.mono _ _ _ _
      | exact spec_CountPatterns.mono _ _ _ _
      | exact LeO.none _
      | refine LeO.ite ?_ ?_
      | refine LeO.bind ?_ (fun _ => ?_)
set_option maxHeartbeats 8000000 in
set_option maxRecDepth 100000 in
theorem laws_FnExactCountPatterns.calls (k : Nat) (a0 : Int) (a1 : Int) (a2 : Int) (r : Bool) (w : World) (hT : r = true) (h : laws_FnExactCountPatterns.f k a0 a1 a2 = some r) :
    Calls Try.prog 9 #[.int .i64 a0, .int .i64 a1, .int .i64 a2] w fun e w' => e = .returned (.bool r) ∧ Below w.heap.size w w' := by
  have HT := Aside0.mk hT
  clear hT
  have HB := Aside0.mk (Below.refl w.heap.size w)
  have H : ((spec_CountPatterns.f k a0 a1 a2).bind fun bt293 => ((impl_CountPatterns.f k a0 a1 a2).bind fun bt295 => (if bt295.1 = bt293.1 then (if bt295.2 = bt293.2 then (some true) else (some false)) else (some false)))) = some r := h
  clear h
  replace H := Option.bind_eq_some_iff.mp H
  obtain ⟨⟨t293, t294⟩, A40, H⟩ := H
  replace H : ((impl_CountPatterns.f k a0 a1 a2).bind fun bt295 => (if bt295.1 = t293 then (if bt295.2 = t294 then (some true) else (some false)) else (some false))) = some r := H
  have A4 := Aside0.mk A40
  clear A40
  replace H := Option.bind_eq_some_iff.mp H
  obtain ⟨⟨t295, t296⟩, A50, H⟩ := H
  replace H : (if t295 = t293 then (if t296 = t294 then (some true) else (some false)) else (some false)) = some r := H
  have A5 := Aside0.mk A50
  clear A50
  by_cases c6 : t295 = t293
  · rw [if_pos c6] at H
    have c6b0 : (t295 == t293) = true := beq_iff_eq.mpr c6
    have c6b1 : (t295 != t293) = false := bne_eq_false_iff_eq.mpr c6
    clear c6
    by_cases c7 : t296 = t294
    · rw [if_pos c7] at H
      have c7b0 : (t296 == t294) = true := beq_iff_eq.mpr c7
      have c7b1 : (t296 != t294) = false := bne_eq_false_iff_eq.mpr c7
      clear c7
      obtain rfl := Option.some.inj H
      go_enter Try.func9, Try.ntmps9
      go_wp2_with (first | ((with_reducible refine gate_callee (f := 31) rfl ?_); refine goesL_ (some 15) rfl rfl Try.func31 (by kernel_rfl) rfl #[.int .i64 a0, .int .i64 a1, .int .i64 a2] rfl (by (try simp only [List.map_toArray, List.map_cons, List.map_nil]); first | done | rfl | (simp only [List.length_drop, List.length_take]; rfl)) ?_; (with_reducible refine (spec_CountPatterns.calls k a0 a1 a2 t293 t294 _ A4.out).mono ?_); rintro e w8 ⟨rfl, hb⟩; refine ⟨_, rfl, ?_⟩; have n0_ := Aside0.mk (below_step (by repeat (first | (with_reducible first | exact HB.out | apply below_alloc | apply pw_below_drewN | apply below_drew1) | exact HB.out)) hb); clear HB; have HB := n0_; clear n0_; (try clear hb); (try clear hb2); (try clear hk); (try clear hi)) | ((with_reducible refine gate_callee (f := 32) rfl ?_); refine goesL_ (some 22) rfl rfl Try.func32 (by kernel_rfl) rfl #[.int .i64 a0, .int .i64 a1, .int .i64 a2] rfl (by (try simp only [List.map_toArray, List.map_cons, List.map_nil]); first | done | rfl | (simp only [List.length_drop, List.length_take]; rfl)) ?_; (with_reducible refine (impl_CountPatterns.calls k a0 a1 a2 t295 t296 _ A5.out).mono ?_); rintro e w9 ⟨rfl, hb⟩; refine ⟨_, rfl, ?_⟩; have n0_ := Aside0.mk (below_step (by repeat (first | (with_reducible first | exact HB.out | apply below_alloc | apply pw_below_drewN | apply below_drew1) | exact HB.out)) hb); clear HB; have HB := n0_; clear n0_; (try clear hb); (try clear hb2); (try clear hk); (try clear hi)))
      go_ret
      exact ⟨by first | rfl | (simp [errW_none, errW_some] <;> rfl) | (simp [*, errW_none, errW_some] <;> rfl), by repeat (first | (with_reducible first | exact HB.out | apply below_alloc | apply pw_below_drewN | apply below_drew1) | exact HB.out)⟩
    · rw [if_neg c7] at H
      have c7b0 : (t296 == t294) = false := beq_eq_false_iff_ne.mpr c7
      have c7b1 : (t296 != t294) = true := bne_iff_ne.mpr c7
      exact absurd ((Option.some.inj H).trans HT.out) (by decide)
  · rw [if_neg c6] at H
    have c6b0 : (t295 == t293) = false := beq_eq_false_iff_ne.mpr c6
    have c6b1 : (t295 != t293) = true := bne_iff_ne.mpr c6
    exact absurd ((Option.some.inj H).trans HT.out) (by decide)

/-- THE ONE PURE STATEMENT of laws_FnExactCountPatterns. -/
def laws_FnExactCountPatterns.Pure : Prop := ∀ (a0 : Int) (a1 : Int) (a2 : Int), (Lit.int .i64 a0).wf = true → (Lit.int .i64 a1).wf = true → (Lit.int .i64 a2).wf = true → ∃ k, laws_FnExactCountPatterns.f k a0 a1 a2 = some true
theorem laws_FnExactCountPatterns.walk (P : laws_FnExactCountPatterns.Pure) (a0 : Int) (a1 : Int) (a2 : Int) (w : World)  (w0 : (Lit.int .i64 a0).wf = true) (w1 : (Lit.int .i64 a1).wf = true) (w2 : (Lit.int .i64 a2).wf = true) :
    Calls Try.prog 9 #[.int .i64 a0, .int .i64 a1, .int .i64 a2] w fun e w' => e = .returned (.bool true) ∧ Below w.heap.size w w' := by
  obtain ⟨k, h⟩ := P a0 a1 a2 w0 w1 w2
  refine (laws_FnExactCountPatterns.calls k a0 a1 a2 true w  rfl h).mono ?_
  rintro e w' ⟨rfl, hd⟩
  exact ⟨rfl, hd⟩

end Go.Proofs.Ytckdinepbgilfaa.P
end

section
namespace Go.Proofs.Ytckdinepbgilfaa.Pure
open Go.RowKit Go.Proofs.Ytckdinepbgilfaa.P Go.Proofs.YtckdinepbgilfaaW.PrintWords Go.Proofs.YtckdinepbgilfaaW.PrintLast Go.Proofs.YtckdinepbgilfaaW.PrintMore
set_option linter.unusedVariables false
set_option linter.unusedSimpArgs false

theorem bothCountPatterns (d n leap : Int) : ∃ r, Ev (fun k => spec_CountPatterns.f k d n leap) r ∧ Ev (fun k => impl_CountPatterns.f k d n leap) r := by
  cases h : askedN d n leap with
  | false =>
    refine ⟨(0, 2), ?_, ?_⟩
    · unfold spec_CountPatterns.f
      exact Ev.bindc (spec_l14Asked_eq d n leap) (Ev.ite_neg (by rw [h]; decide) (Ev.now _))
    · unfold impl_CountPatterns.f
      exact Ev.bindc (impl_countOk_eq d n leap) (Ev.ite_neg (by rw [h]; decide) (Ev.now _))
  | true =>
    obtain ⟨hd, hn, hl⟩ := askedN_ok h
    obtain ⟨D, rfl⟩ := Int.eq_ofNat_of_zero_le (show 0 ≤ d by omega)
    obtain ⟨L, rfl⟩ := Int.eq_ofNat_of_zero_le (show 0 ≤ n by omega)
    have e : wrap64 ((L : Int) - 1) = ((L - 1 : Nat) : Int) := by rw [w64 (by omega) (by omega)]; omega
    have wl := wlN_len D leap (L - 1)
    refine ⟨(rd (wlN D leap (L - 1)) 0, 0), ?_, ?_⟩
    · unfold spec_CountPatterns.f
      rw [e]
      exact Ev.bindc (spec_l14Asked_eq _ _ _) (Ev.ite_pos h (Ev.bind (spec_l14Ways_ev D (L - 1) leap (by omega) (by omega)) (Ev.ite_pos (by omega) (Ev.now _))))
    · unfold impl_CountPatterns.f
      rw [e]
      refine Ev.bindc (impl_countOk_eq _ _ _) (Ev.ite_pos h (Ev.bind (impl_patternCounts_ev D L leap (by omega) (by omega) (by omega)) ?_))
      rw [wtN_len, wtN_at D leap L (L - 1) (by omega)]
      exact Ev.ite_pos (by omega) (Ev.ite_pos (by omega) (Ev.ite_pos (by omega) (Ev.now _)))
theorem FnExactCountPatterns : laws_FnExactCountPatterns.Pure := by
  intro d n leap _ _ _
  refine Ev.out (r := true) ?_
  unfold laws_FnExactCountPatterns.f
  obtain ⟨r, es, ei⟩ := bothCountPatterns d n leap
  exact Ev.bind es (Ev.bind ei (Ev.ite_pos rfl (Ev.ite_pos rfl (Ev.now _))))

end Go.Proofs.Ytckdinepbgilfaa.Pure
end
