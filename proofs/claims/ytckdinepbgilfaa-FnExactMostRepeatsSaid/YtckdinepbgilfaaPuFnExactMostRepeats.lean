/- The pure statement of FnExactMostRepeats. No condition. -/
import Derived.Test.YtckdinepbgilfaaLCopy
import Derived.Test.YtckdinepbgilfaaLEv
import Derived.Test.YtckdinepbgilfaaLMax
import Derived.Test.YtckdinepbgilfaaLPitches
import Derived.Test.YtckdinepbgilfaaQImplMostrepeats
import Derived.Test.YtckdinepbgilfaaQImplMostrepeats46
import Derived.Test.YtckdinepbgilfaaQLawsFnexactmostrepeats
import Derived.Test.YtckdinepbgilfaaQSpecL15Repeats
import Derived.Test.YtckdinepbgilfaaQSpecMostrepeats
namespace Go.Proofs.Ytckdinepbgilfaa.Pure
open Go.RowKit Go.Proofs.Ytckdinepbgilfaa.P Go.Proofs.YtckdinepbgilfaaW.PrintWords Go.Proofs.YtckdinepbgilfaaW.PrintLast Go.Proofs.YtckdinepbgilfaaW.PrintMore
set_option linter.unusedVariables false
set_option linter.unusedSimpArgs false

def repM (l : List Int) : Nat → Nat → Int → Int → Int
  | 0, _, m, _ => m
  | d + 1, i, m, r => if rd l i = rd l ((i : Int) - 1) then repM l d (i + 1) (max m (r + 1)) (r + 1) else repM l d (i + 1) (max m 0) 0
theorem spec_l15Repeats_l0 (l : List Int) (hl : l.length ≤ 64) : ∀ (d i : Nat) (m r : Int), l.length - i = d → 1 ≤ i → 0 ≤ r → r ≤ i → Ev (fun k => spec_l15Repeats.l0 k l m r i) (repM l d i m r) := by
  intro d
  induction d with
  | zero =>
    intro i m r hd hi h0 h1
    refine Ev.succ ?_
    simp only [spec_l15Repeats.l0]
    refine Ev.ite_neg (by omega) ?_
    exact Ev.now _
  | succ d ih =>
    intro i m r hd hi h0 h1
    refine Ev.succ ?_
    simp only [spec_l15Repeats.l0]
    refine Ev.ite_pos (by omega) ?_
    refine Ev.ite_pos (by omega) ?_
    rw [w64 (x := (i : Int) - 1) (by omega) (by omega), w64 (x := (i : Int) + 1) (by omega) (by omega), w64 (x := r + 1) (by omega) (by omega)]
    refine Ev.ite_pos (by omega) ?_
    refine Ev.ite_pos (by omega) ?_
    by_cases he : rd l i = rd l ((i : Int) - 1)
    · refine Ev.ite_pos he ?_
      refine Ev.bindc (spec_l00Max_eq _ _) ?_
      have := ih (i + 1) (max m (r + 1)) (r + 1) (by omega) (by omega) (by omega) (by omega)
      simpa [repM, he] using this
    · refine Ev.ite_neg he ?_
      refine Ev.bindc (spec_l00Max_eq _ _) ?_
      have := ih (i + 1) (max m 0) 0 (by omega) (by omega) (by omega) (by omega)
      simpa [repM, he] using this
theorem impl_mostRepeats_l0 (l : List Int) (hl : l.length ≤ 64) : ∀ (d i : Nat) (m r : Int), l.length - i = d → 1 ≤ i → 0 ≤ r → r ≤ i → Ev (fun k => impl_mostRepeats.l0 k l m r i) (repM l d i m r) := by
  intro d
  induction d with
  | zero =>
    intro i m r hd hi h0 h1
    refine Ev.succ ?_
    simp only [impl_mostRepeats.l0]
    refine Ev.ite_neg (by omega) ?_
    exact Ev.now _
  | succ d ih =>
    intro i m r hd hi h0 h1
    refine Ev.succ ?_
    simp only [impl_mostRepeats.l0]
    refine Ev.ite_pos (by omega) ?_
    refine Ev.ite_pos (by omega) ?_
    rw [w64 (x := (i : Int) - 1) (by omega) (by omega), w64 (x := (i : Int) + 1) (by omega) (by omega), w64 (x := r + 1) (by omega) (by omega)]
    refine Ev.ite_pos (by omega) ?_
    refine Ev.ite_pos (by omega) ?_
    by_cases he : rd l i = rd l ((i : Int) - 1)
    · refine Ev.ite_pos he ?_
      have := ih (i + 1) (max m (r + 1)) (r + 1) (by omega) (by omega) (by omega) (by omega)
      simpa [repM, he, mx_eq] using this
    · refine Ev.ite_neg he ?_
      have := ih (i + 1) (max m 0) 0 (by omega) (by omega) (by omega) (by omega)
      simpa [repM, he, mx_eq] using this
def repR (l : List Int) : Int × Int := if pitchesB l then (repM l (l.length - 1) 1 0 0, 0) else (0, 7)
theorem spec_MostRepeats_ev (l : List Int) (hl : l.length ≤ 9223372036854775807) : Ev (fun k => spec_MostRepeats.f k l) (repR l) := by
  unfold spec_MostRepeats.f repR
  refine Ev.bind (spec_l05Pitches_ev l hl) ?_
  cases h : pitchesB l with
  | true =>
    refine Ev.ite_pos rfl (Ev.bind (a := repM l (l.length - 1) 1 0 0) ?_ (Ev.now _))
    unfold spec_l15Repeats.f
    simpa using spec_l15Repeats_l0 l (pitchesB_len h) (l.length - 1) 1 0 0 (by omega) (by omega) (by omega) (by omega)
  | false => exact Ev.ite_neg (by decide) (Ev.now _)
theorem impl_MostRepeats_ev (l : List Int) (hl : l.length ≤ 9223372036854775807) : Ev (fun k => impl_MostRepeats.f k l) (repR l) := by
  unfold impl_MostRepeats.f repR
  refine Ev.bindc (impl_pitchesOk_eq l) ?_
  cases h : pitchesB l with
  | true =>
    refine Ev.ite_pos rfl (Ev.bind (a := repM l (l.length - 1) 1 0 0) ?_ (Ev.now _))
    unfold impl_mostRepeats.f
    simpa using impl_mostRepeats_l0 l (pitchesB_len h) (l.length - 1) 1 0 0 (by omega) (by omega) (by omega) (by omega)
  | false => exact Ev.ite_neg (by decide) (Ev.now _)
theorem FnExactMostRepeats : laws_FnExactMostRepeats.Pure := by
  intro l ⟨hl, hw⟩
  refine Ev.out (r := true) ?_
  unfold laws_FnExactMostRepeats.f
  by_cases h : (l.length : Int) > 1048576
  · exact Ev.ite_pos h (Ev.now _)
  refine Ev.ite_neg h ?_
  have hs := toInt64S_ev l (by omega)
  refine Ev.bind hs ?_
  refine Ev.bind (spec_MostRepeats_ev l (by omega)) ?_
  refine Ev.bind hs ?_
  refine Ev.bind (impl_MostRepeats_ev l (by omega)) ?_
  refine Ev.ite_pos rfl ?_
  refine Ev.succ ?_
  simp only [laws_FnExactMostRepeats.j0]
  refine Ev.ite_neg (by simp) ?_
  refine Ev.bind hs ?_
  refine Ev.bind (eqInt64S_self l (by omega)) ?_
  exact Ev.ite_pos rfl (Ev.now _)

end Go.Proofs.Ytckdinepbgilfaa.Pure
