/- What the plain side tells for FnExactRangesOf: both give the same rows. No condition. -/
import Derived.Test.YtckdinepbgilfaaGRO1
section
namespace Go.Proofs.Ytckdinepbgilfaa.P
open Go.RowKit Go.Proofs.YtckdinepbgilfaaW.PrintWords Go.Proofs.YtckdinepbgilfaaW.PrintLast Go.Proofs.YtckdinepbgilfaaW.PrintMore
attribute [local go_sem] max2_int min2_int max_two min_two max_three min_three max_four min_four   -- for this text's walks alone
set_option linter.unusedVariables false
set_option linter.unusedSimpArgs false

/-! ### laws_FnExactRangesOf: function 12 (given) -/
/-- What the plain side tells: both give the same list, and what the laws' helpers say of it. -/
def laws_FnExactRangesOf.Pure : Prop := ∀ (a0 : Int) (a1 : Int) (a2 : Int) (a3 : Int), (Lit.int .i64 a0).wf = true → (Lit.int .i64 a1).wf = true → (Lit.int .i64 a2).wf = true → (Lit.int .i64 a3).wf = true → ∃ (k : Nat) (R : List (List Int)) (c v : Int) (M : List (List Int)), spec_RangesOf.f k a0 a1 a2 a3 = some (R, c) ∧ impl_RangesOf.f k a0 a1 a2 a3 = some (R, c) ∧ laws_eqInt64SS.f k R R = some true ∧ laws_markInt64SS.f k R 1 = some (v, M) ∧ laws_heldInt64SS.f k M 1 = some v ∧ 0 ≤ v
set_option maxHeartbeats 8000000 in
set_option maxRecDepth 100000 in
theorem laws_FnExactRangesOf.walk (P : laws_FnExactRangesOf.Pure) (a0 : Int) (a1 : Int) (a2 : Int) (a3 : Int) (w : World) (w0 : (Lit.int .i64 a0).wf = true) (w1 : (Lit.int .i64 a1).wf = true) (w2 : (Lit.int .i64 a2).wf = true) (w3 : (Lit.int .i64 a3).wf = true) :
    Calls Try.prog 12 #[.int .i64 a0, .int .i64 a1, .int .i64 a2, .int .i64 a3] w fun e w' => e = .returned (.bool true) ∧ Below w.heap.size w w' := by
  obtain ⟨k, R, c, v, M, h1, h2, h3, h4, h5, h6⟩ := P a0 a1 a2 a3 w0 w1 w2 w3
  clear P w0 w1 w2 w3
  have H1 := Aside0.mk h1
  have H2 := Aside0.mk h2
  have H3 := Aside0.mk h3
  have H4 := Aside0.mk h4
  have H5 := Aside0.mk h5
  clear h1 h2 h3 h4 h5
  have v0 : decide (v < 0) = false := decide_eq_false (by omega)
  clear h6
  have HB := Aside0.mk (Below.refl w.heap.size w)
  go_enter Try.func12, Try.ntmps12
  go_wp2_with (first
    | ((with_reducible refine gate_callee (f := 40) rfl ?_); refine goesL_ (some 22) rfl rfl Try.func40 (by kernel_rfl) rfl #[.int .i64 a0, .int .i64 a1, .int .i64 a2, .int .i64 a3] rfl (by (try simp only [List.map_toArray, List.map_cons, List.map_nil]); first | done | rfl) ?_; (with_reducible refine (spec_RangesOf.calls k a0 a1 a2 a3 R c _ H1.out).mono ?_); rintro e ww ⟨vw, rfl, hS, hb⟩; refine ⟨_, rfl, ?_⟩; obtain ⟨Aw, cw, ew⟩ := Kd.S_slice hS; subst ew; have n0_ := Aside0.mk (Kd.S_lower hS (below_size (by repeat (first | (with_reducible first | exact HB.out | apply below_alloc | apply pw_below_drewN | apply below_drew1) | exact HB.out)))); have n1_ := Aside0.mk (below_step (by repeat (first | (with_reducible first | exact HB.out | apply below_alloc | apply pw_below_drewN | apply below_drew1) | exact HB.out)) hb); clear HB hS hb; have HW := n0_; have HB := n1_; clear n0_ n1_ H1)
    | ((with_reducible refine gate_callee (f := 41) rfl ?_); refine goesL_ (some _) rfl rfl Try.func41 (by kernel_rfl) rfl #[.int .i64 a0, .int .i64 a1, .int .i64 a2, .int .i64 a3] rfl (by (try simp only [List.map_toArray, List.map_cons, List.map_nil]); first | done | rfl) ?_; (have hm_ := HM.out); (with_reducible refine (impl_RangesOf.calls k a0 a1 a2 a3 R c _ H2.out).mono ?_); rintro e ww ⟨vh, rfl, hS, hb⟩; refine ⟨_, rfl, ?_⟩; obtain ⟨Ah, ch, eh⟩ := Kd.S_slice hS; subst eh; clear hm_; have n0_ := Aside0.mk hS; have n1_ := Aside0.mk (below_step (by repeat (first | (with_reducible first | exact HB.out | apply below_alloc | apply pw_below_drewN | apply below_drew1) | exact HB.out)) hb); have n2_ := Aside0.mk (Kd.S_below (by (with_reducible repeat (first | apply Kd.S_alloc | apply Kd.S_drewN | apply Kd.S_drew)); exact HW.out) hb); have n3_ := Aside0.mk (Kd.S_below (by (with_reducible repeat (first | apply Kd.S_alloc | apply Kd.S_drewN | apply Kd.S_drew)); exact HM.out) hb); clear HB HW HM hS hb; have HH := n0_; have HB := n1_; have HW := n2_; have HM := n3_; clear n0_ n1_ n2_ n3_)
    | ((with_reducible refine gate_callee (f := 41) rfl ?_); refine goesL_ (some _) rfl rfl Try.func41 (by kernel_rfl) rfl #[.int .i64 a0, .int .i64 a1, .int .i64 a2, .int .i64 a3] rfl (by (try simp only [List.map_toArray, List.map_cons, List.map_nil]); first | done | rfl) ?_; (with_reducible refine (impl_RangesOf.calls k a0 a1 a2 a3 R c _ H2.out).mono ?_); rintro e ww ⟨vg, rfl, hS, hb⟩; refine ⟨_, rfl, ?_⟩; obtain ⟨Ag, cg, eg⟩ := Kd.S_slice hS; subst eg; obtain ⟨N, hN1, hN2, hN3⟩ : ∃ N, Kd.S (Kd.slice 2 (Kd.int .i64)) 29 ww w.heap.size (fun k_ => N ≤ k_) (.slice Ag R.length cg) R ∧ Kd.S (Kd.slice 2 (Kd.int .i64)) 29 ww w.heap.size (fun k_ => k_ < N) (.slice Aw R.length cw) R ∧ Below w.heap.size w ww := ⟨_, Kd.S_lower (Kd.S_mono (Kd.S_bound hS) (fun k_ h_ => h_.2.1)) (below_size (by repeat (first | (with_reducible first | exact HB.out | apply below_alloc | apply pw_below_drewN | apply below_drew1) | exact HB.out))), Kd.S_below (Kd.S_mono (Kd.S_bound (by (with_reducible repeat (first | apply Kd.S_alloc | apply Kd.S_drewN | apply Kd.S_drew)); exact HW.out)) (fun k_ h_ => h_.2.2.1)) hb, below_step (by repeat (first | (with_reducible first | exact HB.out | apply below_alloc | apply pw_below_drewN | apply below_drew1) | exact HB.out)) hb⟩; clear HB HW hS hb; have HG := Aside0.mk hN1; have HW := Aside0.mk hN2; have HB := Aside0.mk hN3; clear hN1 hN2 hN3)
    | ((with_reducible refine gate_callee (f := 42) rfl ?_); refine goesL_ (some _) rfl rfl Try.func42 (by kernel_rfl) rfl #[.slice Ag R.length cg, .slice Aw R.length cw] rfl (by (try simp only [List.map_toArray, List.map_cons, List.map_nil]); first | done | rfl) ?_; (with_reducible refine (laws_eqInt64SS.calls k _ _ R _ _ R true _ ?side1 ?side2 ?side3 ?side4 H3.out).mono ?_); (case side1 => repeat (first | exact (Kd.S_reads' HG.out).2.2 | (with_reducible refine Kd.C_alloc ?_ _) | (with_reducible refine Kd.C_drewN ?_ _) | (with_reducible refine Kd.C_drew ?_))); (case side2 => exact (Kd.S_reads' HG.out).2.1); (case side3 => repeat (first | exact (Kd.S_reads' HW.out).2.2 | (with_reducible refine Kd.C_alloc ?_ _) | (with_reducible refine Kd.C_drewN ?_ _) | (with_reducible refine Kd.C_drew ?_))); (case side4 => exact (Kd.S_reads' HW.out).2.1); rintro e w' ⟨rfl, ⟨nd, rfl⟩⟩; refine ⟨_, rfl, ?_⟩)
    | ((with_reducible refine gate_callee (f := 42) rfl ?_); refine goesL_ (some _) rfl rfl Try.func42 (by kernel_rfl) rfl #[.slice Ah R.length ch, .slice Aw R.length cw] rfl (by (try simp only [List.map_toArray, List.map_cons, List.map_nil]); first | done | rfl) ?_; (with_reducible refine (laws_eqInt64SS.calls k _ _ R _ _ R true _ ?side1 ?side2 ?side3 ?side4 H3.out).mono ?_); (case side1 => repeat (first | exact (Kd.S_reads' HH.out).2.2 | (with_reducible refine Kd.C_alloc ?_ _) | (with_reducible refine Kd.C_drewN ?_ _) | (with_reducible refine Kd.C_drew ?_))); (case side2 => exact (Kd.S_reads' HH.out).2.1); (case side3 => repeat (first | exact (Kd.S_reads' HW.out).2.2 | (with_reducible refine Kd.C_alloc ?_ _) | (with_reducible refine Kd.C_drewN ?_ _) | (with_reducible refine Kd.C_drew ?_))); (case side4 => exact (Kd.S_reads' HW.out).2.1); rintro e w' ⟨rfl, ⟨nd, rfl⟩⟩; refine ⟨_, rfl, ?_⟩)
    | ((with_reducible refine gate_callee (f := 43) rfl ?_); refine goesL_ (some _) rfl rfl Try.func43 (by kernel_rfl) rfl #[.slice Ag R.length cg, .int .i64 1] rfl (by (try simp only [List.map_toArray, List.map_cons, List.map_nil]); first | done | rfl) ?_; (with_reducible refine (laws_markInt64SS.calls k (fun k_ => N ≤ k_) (.slice Ag R.length cg) R 1 v M w _ ?side1 ?side2 H4.out).mono ?_); (case side1 => repeat (first | (with_reducible first | exact HB.out | apply below_alloc | apply pw_below_drewN | apply below_drew1) | exact HB.out)); (case side2 => (with_reducible repeat (first | apply Kd.S_alloc | apply Kd.S_drewN | apply Kd.S_drew)); exact HG.out); rintro e ww ⟨rfl, hy0, hb, hkp⟩; refine ⟨_, rfl, ?_⟩; have n0_ := Aside0.mk (Kd.S_kept (by (with_reducible repeat (first | apply Kd.S_alloc | apply Kd.S_drewN | apply Kd.S_drew)); exact HW.out) hkp (fun k_ h_ hs_ => Nat.not_le.2 h_ hs_)); have HL := Aside0.mk (Kd.S_reads' hy0).1; clear HW HG HB; have HW := n0_; have HM := Aside0.mk hy0; have HB := Aside0.mk hb; clear n0_ hy0 hb hkp)
    | ((with_reducible refine gate_callee (f := 44) rfl ?_); refine goesL_ (some _) rfl rfl Try.func44 (by kernel_rfl) rfl #[.slice Ag M.length cg, .int .i64 1] rfl (by (try simp only [List.map_toArray, List.map_cons, List.map_nil]); first | done | (rw [show M.length = R.length from HL.out.symm] <;> rfl) | rfl) ?_; (with_reducible refine (laws_heldInt64SS.calls k _ _ M 1 v _ ?side1 ?side2 H5.out).mono ?_); (case side1 => repeat (first | exact (Kd.S_reads' HM.out).2.2 | (with_reducible refine Kd.C_alloc ?_ _) | (with_reducible refine Kd.C_drewN ?_ _) | (with_reducible refine Kd.C_drew ?_))); (case side2 => rw [← HL.out]; exact (Kd.S_reads' HM.out).2.1); rintro e w' ⟨rfl, ⟨nd, rfl⟩⟩; refine ⟨_, rfl, ?_⟩))
  go_ret
  exact ⟨by first | rfl | (simp; done) | (simp [*]; done), by repeat (first | (with_reducible first | exact HB.out | apply below_alloc | apply pw_below_drewN | apply below_drew1) | exact HB.out)⟩

end Go.Proofs.Ytckdinepbgilfaa.P
end

section
namespace Go.Proofs.Ytckdinepbgilfaa.Pure
open Go.RowKit Go.Proofs.Ytckdinepbgilfaa.P Go.Proofs.YtckdinepbgilfaaW.PrintWords Go.Proofs.YtckdinepbgilfaaW.PrintLast Go.Proofs.YtckdinepbgilfaaW.PrintMore
set_option linter.unusedVariables false
set_option linter.unusedSimpArgs false

def rgE (lo hi ce s x : Int) : List Int := [wrap64 (ce - (wrap64 (Int.tdiv (wrap64 ((wrap64 (ce - lo)) * x)) s))), wrap64 (ce + (wrap64 (Int.tdiv (wrap64 ((wrap64 (hi - ce)) * x)) s)))]
def rgM (lo hi ce s : Int) : Nat → Nat → List (List Int)
  | 0, _ => []
  | d + 1, i => rgE lo hi ce s i :: rgM lo hi ce s d (i + 1)
theorem rgM_len (lo hi ce s : Int) : ∀ d i, (rgM lo hi ce s d i).length = d
  | 0, _ => rfl
  | d + 1, i => by simp [rgM, rgM_len lo hi ce s d (i + 1)]
theorem rgM_two (lo hi ce s : Int) : ∀ d i, ∀ l ∈ rgM lo hi ce s d i, l.length = 2
  | 0, _, l, h => by simp [rgM] at h
  | d + 1, i, l, h => by
    rw [rgM, List.mem_cons] at h
    rcases h with rfl | h
    · rfl
    · exact rgM_two lo hi ce s d (i + 1) l h
theorem spec_l13Ranges_l0 (lo hi ce : Int) (s : Nat) (h1 : 1 ≤ s) (h8 : s ≤ 8) : ∀ (d i : Nat) (acc : List (List Int)), s + 1 - i = d → i ≤ s + 1 → acc.length ≤ i → Ev (fun k => spec_l13Ranges.l0 k lo hi ce s acc i) (acc ++ rgM lo hi ce s d i) := by
  intro d
  induction d with
  | zero =>
    intro i acc hd hi' ha
    refine Ev.succ ?_
    simp only [spec_l13Ranges.l0]
    refine Ev.ite_neg (by omega) ?_
    rw [rgM, List.append_nil]
    exact Ev.now _
  | succ d ih =>
    intro i acc hd hi' ha
    refine Ev.succ ?_
    simp only [spec_l13Ranges.l0]
    rw [w64 (x := (i : Int) + 1) (by omega) (by omega)]
    refine Ev.ite_pos (by omega) (Ev.ite_neg (by omega) (Ev.ite_pos (by omega) ?_))
    have := ih (i + 1) (acc ++ [rgE lo hi ce s i]) (by omega) (by omega) (by simp; omega)
    rw [List.append_assoc] at this
    exact this
theorem impl_RangesOf_l0 (lo hi ce : Int) (s : Nat) (h1 : 1 ≤ s) (h8 : s ≤ 8) : ∀ (d i : Nat) (acc : List (List Int)), s + 1 - i = d → i ≤ s + 1 → acc.length ≤ i → Ev (fun k => impl_RangesOf.l0 k lo hi ce s acc i) (acc ++ rgM lo hi ce s d i, 0) := by
  intro d
  induction d with
  | zero =>
    intro i acc hd hi' ha
    refine Ev.succ ?_
    simp only [impl_RangesOf.l0]
    refine Ev.ite_neg (by omega) ?_
    rw [rgM, List.append_nil]
    exact Ev.now _
  | succ d ih =>
    intro i acc hd hi' ha
    refine Ev.succ ?_
    simp only [impl_RangesOf.l0]
    rw [w64 (x := (i : Int) + 1) (by omega) (by omega)]
    refine Ev.ite_pos (by omega) (Ev.ite_neg (by omega) (Ev.ite_pos (by omega) ?_))
    have := ih (i + 1) (acc ++ [rgE lo hi ce s i]) (by omega) (by omega) (by simp; omega)
    rw [List.append_assoc] at this
    exact this
theorem bothRangesOf (lo hi ce s : Int) : ∃ (R : List (List Int)) (c : Int), R.length ≤ 8 ∧ (∀ l ∈ R, l.length = 2) ∧ Ev (fun k => spec_RangesOf.f k lo hi ce s) (R, c) ∧ Ev (fun k => impl_RangesOf.f k lo hi ce s) (R, c) := by
  by_cases g1 : -12 ≤ lo ∧ lo ≤ 23
  · by_cases g2 : lo ≤ hi ∧ hi ≤ 23
    · by_cases g3 : lo ≤ ce ∧ ce ≤ hi
      · by_cases g4 : 1 ≤ s ∧ s ≤ 8
        · obtain ⟨n, rfl⟩ := Int.eq_ofNat_of_zero_le (show 0 ≤ s by omega)
          have es := spec_l13Ranges_l0 lo hi ce n (by omega) (by omega) n 1 [] (by omega) (by omega) (by simp)
          have ei := impl_RangesOf_l0 lo hi ce n (by omega) (by omega) n 1 [] (by omega) (by omega) (by simp)
          rw [List.nil_append] at es ei
          refine ⟨rgM lo hi ce n n 1, 0, by rw [rgM_len]; omega, rgM_two lo hi ce n n 1, ?_, ?_⟩
          · unfold spec_RangesOf.f spec_l03Pitch.f spec_l13Ranges.f
            rw [spec_l00In_eq, spec_l00In_eq, spec_l00In_eq, spec_l00In_eq]
            refine Ev.bindc rfl (Ev.ite_pos (by simpa using g1) (Ev.bindc rfl (Ev.ite_pos (by simpa using g2) (Ev.bindc rfl (Ev.ite_pos (by simpa using g3) (Ev.bindc rfl (Ev.ite_pos (by simpa using g4) (Ev.bind es (Ev.now _)))))))))
          · unfold impl_RangesOf.f impl_rangeOk.f impl_pitchOk.f
            rw [impl_within_eq, impl_within_eq, impl_within_eq, impl_within_eq]
            have q : (decide ((1 : Int) ≤ n) && decide ((n : Int) ≤ 8)) = true := by simpa using g4
            refine Ev.bindc (a := true) (by simp [g1, g2]) (Ev.ite_pos rfl (Ev.bindc rfl (Ev.ite_pos (by simpa using g3) (Ev.bindc rfl (Ev.succ ?_)))))
            rw [q]
            simp only [impl_RangesOf.j0]
            exact Ev.ite_neg (by decide) ei
        · refine ⟨[], 2, by simp, by simp, ?_, ?_⟩
          · unfold spec_RangesOf.f spec_l03Pitch.f
            rw [spec_l00In_eq, spec_l00In_eq, spec_l00In_eq, spec_l00In_eq]
            exact Ev.bindc rfl (Ev.ite_pos (by simpa using g1) (Ev.bindc rfl (Ev.ite_pos (by simpa using g2) (Ev.bindc rfl (Ev.ite_pos (by simpa using g3) (Ev.bindc rfl (Ev.ite_neg (by simpa using g4) (Ev.now _))))))))
          · unfold impl_RangesOf.f impl_rangeOk.f impl_pitchOk.f
            rw [impl_within_eq, impl_within_eq, impl_within_eq, impl_within_eq]
            have q : (decide ((1 : Int) ≤ s) && decide (s ≤ 8)) = false := by
              rw [← Bool.decide_and]
              exact decide_eq_false g4
            refine Ev.bindc (a := true) (by simp [g1, g2]) (Ev.ite_pos rfl (Ev.bindc rfl (Ev.ite_pos (by simpa using g3) (Ev.bindc rfl (Ev.succ ?_)))))
            rw [q]
            simp only [impl_RangesOf.j0]
            exact Ev.ite_pos rfl (Ev.now _)
      · refine ⟨[], 2, by simp, by simp, ?_, ?_⟩
        · unfold spec_RangesOf.f spec_l03Pitch.f
          rw [spec_l00In_eq, spec_l00In_eq, spec_l00In_eq]
          exact Ev.bindc rfl (Ev.ite_pos (by simpa using g1) (Ev.bindc rfl (Ev.ite_pos (by simpa using g2) (Ev.bindc rfl (Ev.ite_neg (by simpa using g3) (Ev.now _))))))
        · unfold impl_RangesOf.f impl_rangeOk.f impl_pitchOk.f
          rw [impl_within_eq, impl_within_eq, impl_within_eq]
          refine Ev.bindc (a := true) (by simp [g1, g2]) (Ev.ite_pos rfl (Ev.bindc rfl (Ev.ite_neg (by simpa using g3) (Ev.succ ?_))))
          simp only [impl_RangesOf.j0]
          exact Ev.ite_pos trivial (Ev.now _)
    · refine ⟨[], 2, by simp, by simp, ?_, ?_⟩
      · unfold spec_RangesOf.f spec_l03Pitch.f
        rw [spec_l00In_eq, spec_l00In_eq]
        exact Ev.bindc rfl (Ev.ite_pos (by simpa using g1) (Ev.bindc rfl (Ev.ite_neg (by simpa using g2) (Ev.now _))))
      · unfold impl_RangesOf.f impl_rangeOk.f impl_pitchOk.f
        rw [impl_within_eq, impl_within_eq]
        have q : (decide (lo ≤ hi) && decide (hi ≤ 23)) = false := by
          rw [← Bool.decide_and]
          exact decide_eq_false g2
        refine Ev.bindc (a := false) (by rw [q]; simp [g1]) (Ev.ite_neg (by decide) (Ev.succ ?_))
        simp only [impl_RangesOf.j0]
        exact Ev.ite_pos trivial (Ev.now _)
  · have q : (decide (-12 ≤ lo) && decide (lo ≤ 23)) = false := by
      rw [← Bool.decide_and]
      exact decide_eq_false g1
    refine ⟨[], 2, by simp, by simp, ?_, ?_⟩
    · unfold spec_RangesOf.f spec_l03Pitch.f
      rw [spec_l00In_eq]
      exact Ev.bindc rfl (Ev.ite_neg (by simpa using g1) (Ev.now _))
    · unfold impl_RangesOf.f impl_rangeOk.f impl_pitchOk.f
      rw [impl_within_eq]
      refine Ev.bindc (a := false) (by rw [q]; rfl) (Ev.ite_neg (by decide) (Ev.succ ?_))
      simp only [impl_RangesOf.j0]
      exact Ev.ite_pos trivial (Ev.now _)
def marksL : List (List Int) → Int → List (List Int)
  | [], _ => []
  | l :: r, v => marks 2 v :: marksL r (v + 2)
theorem marksL_len : ∀ l v, (marksL l v).length = l.length
  | [], _ => rfl
  | _ :: r, v => by simp [marksL, marksL_len r (v + 2)]
theorem rdL_mid (pre suf : List (List Int)) (l : List Int) : rd_L1 (pre ++ l :: suf) (pre.length : Int) = l := by simp [rd_L1]
theorem setL_mid (pre suf : List (List Int)) (l l' : List Int) : (pre ++ l :: suf).set pre.length l' = pre ++ l' :: suf := by simp
theorem markInt64SS_l0 : ∀ (rest pre : List (List Int)) (v : Int), (∀ l ∈ rest, l.length = 2) → pre.length + rest.length ≤ 100 → 0 ≤ v → v ≤ 1000 + 2 * pre.length → Ev (fun k => laws_markInt64SS.l0 k (pre ++ rest) v pre.length) (v + 2 * rest.length, pre ++ marksL rest v)
  | [], pre, v, _, h, h0, h1 => by
    refine Ev.succ ?_
    simp only [laws_markInt64SS.l0]
    rw [List.append_nil]
    refine Ev.ite_neg (by omega) ?_
    simpa [marksL] using Ev.now (v, pre)
  | l :: rest, pre, v, hl, h, h0, h1 => by
    have l2 := hl l (List.mem_cons_self)
    have hlen : (pre ++ l :: rest).length = pre.length + rest.length + 1 := by simp; omega
    have hlen2 : pre.length + (rest.length + 1) ≤ 100 := by simpa using h
    refine Ev.succ ?_
    simp only [laws_markInt64SS.l0]
    rw [w64 (x := (pre.length : Int) + 1) (by omega) (by omega), rdL_mid]
    refine Ev.ite_pos (by omega) (Ev.ite_pos (by omega) (Ev.bind (markInt64S_ev l v (by omega) h0 (by omega)) ?_))
    rw [Int.toNat_natCast, setL_mid, l2]
    have ih := markInt64SS_l0 rest (pre ++ [marks 2 v]) (v + 2) (fun x hx => hl x (List.mem_cons_of_mem _ hx)) (by simp; omega) (by omega) (by simp; omega)
    have e1 : (((pre ++ [marks 2 v]).length : Nat) : Int) = (pre.length : Int) + 1 := by simp
    have e2 : (v + 2) + 2 * (rest.length : Int) = v + 2 * ((l :: rest).length : Int) := by simp; omega
    rw [e1, e2, List.append_assoc, List.append_assoc] at ih
    exact ih
theorem heldInt64SS_l0 : ∀ (rest pre : List (List Int)) (v : Int), pre.length + rest.length ≤ 100 → 0 ≤ v → v ≤ 1000 + 2 * pre.length → Ev (fun k => laws_heldInt64SS.l0 k (pre ++ marksL rest v) v pre.length) (v + 2 * rest.length)
  | [], pre, v, h, h0, h1 => by
    refine Ev.succ ?_
    simp only [laws_heldInt64SS.l0]
    rw [marksL, List.append_nil]
    refine Ev.ite_neg (by omega) ?_
    simpa using Ev.now v
  | l :: rest, pre, v, h, h0, h1 => by
    have hlen : (pre ++ marksL (l :: rest) v).length = pre.length + rest.length + 1 := by rw [List.length_append, marksL_len]; simp; omega
    have hlen2 : pre.length + (rest.length + 1) ≤ 100 := by simpa using h
    refine Ev.succ ?_
    simp only [laws_heldInt64SS.l0]
    rw [w64 (x := (pre.length : Int) + 1) (by omega) (by omega)]
    have e0 : rd_L1 (pre ++ marksL (l :: rest) v) (pre.length : Int) = marks 2 v := rdL_mid pre _ _
    rw [e0]
    refine Ev.ite_pos (by omega) (Ev.ite_pos (by omega) (Ev.bind (heldInt64S_ev 2 v (by omega) h0 (by omega)) (Ev.ite_neg (by omega) ?_)))
    have ih := heldInt64SS_l0 rest (pre ++ [marks 2 v]) (v + 2) (by simp; omega) (by omega) (by simp; omega)
    have e1 : (((pre ++ [marks 2 v]).length : Nat) : Int) = (pre.length : Int) + 1 := by simp
    have e2 : (v + 2) + 2 * (rest.length : Int) = v + 2 * ((l :: rest).length : Int) := by simp; omega
    rw [e1, e2, List.append_assoc] at ih
    exact ih
theorem eqTwo_l0 (l : List (List Int)) (hl : l.length ≤ 1048576) (hr : ∀ j, j < l.length → (rd_L1 l j).length ≤ 1048576) : ∀ (d i : Nat), l.length - i = d → Ev (fun k => laws_eqInt64SS.l0 k l l i) true := by
  intro d
  induction d with
  | zero =>
    intro i hd
    refine Ev.succ ?_
    simp only [laws_eqInt64SS.l0]
    exact Ev.ite_neg (by omega) (Ev.now _)
  | succ d ih =>
    intro i hd
    refine Ev.succ ?_
    simp only [laws_eqInt64SS.l0]
    rw [w64 (x := (i : Int) + 1) (by omega) (by omega)]
    exact Ev.ite_pos (by omega) (Ev.ite_pos (by omega) (Ev.ite_pos (by omega) (Ev.bind (eqInt64S_self _ (by have := hr i (by omega); omega)) (Ev.ite_pos rfl (by simpa using ih (i + 1) (by omega))))))
theorem FnExactRangesOf : laws_FnExactRangesOf.Pure := by
  intro a b c s _ _ _ _
  obtain ⟨R, q, hl, h2, ⟨k1, e1⟩, ⟨k2, e2⟩⟩ := bothRangesOf a b c s
  have hr : ∀ j, j < R.length → (rd_L1 R j).length ≤ 1048576 := by
    intro j hj
    have : rd_L1 R (j : Int) = R[j] := by simp [rd_L1, hj]
    rw [this, h2 _ (List.getElem_mem hj)]
    decide
  have e3' : Ev (fun k => laws_eqInt64SS.f k R R) true := by
    unfold laws_eqInt64SS.f
    exact Ev.ite_pos rfl (by simpa using eqTwo_l0 R (by omega) hr R.length 0 (by omega))
  obtain ⟨k3, e3⟩ := e3'
  obtain ⟨k4, e4⟩ := markInt64SS_l0 R [] 1 h2 (by simp; omega) (by omega) (by omega)
  obtain ⟨k5, e5⟩ := heldInt64SS_l0 R [] 1 (by simp; omega) (by omega) (by omega)
  refine ⟨k1 + k2 + k3 + k4 + k5, R, q, 1 + 2 * R.length, marksL R 1, e1 _ (by omega), e2 _ (by omega), e3 _ (by omega), ?_, ?_, by omega⟩
  · have := e4 (k1 + k2 + k3 + k4 + k5) (by omega)
    simpa [laws_markInt64SS.f] using this
  · have := e5 (k1 + k2 + k3 + k4 + k5) (by omega)
    simpa [laws_heldInt64SS.f] using this

end Go.Proofs.Ytckdinepbgilfaa.Pure
end
