/- The pure statement of FnExactContainsPart. No condition. -/
import Derived.Test.YtckdinepbgilfaaLCopy
import Derived.Test.YtckdinepbgilfaaLEv
import Derived.Test.YtckdinepbgilfaaLHas
import Derived.Test.YtckdinepbgilfaaLPitches
import Derived.Test.YtckdinepbgilfaaQImplContainspart
import Derived.Test.YtckdinepbgilfaaQLawsFnexactcontainspart
import Derived.Test.YtckdinepbgilfaaQSpecContainspart
namespace Go.Proofs.Ytckdinepbgilfaa.Pure
open Go.RowKit Go.Proofs.Ytckdinepbgilfaa.P Go.Proofs.YtckdinepbgilfaaW.PrintWords Go.Proofs.YtckdinepbgilfaaW.PrintLast Go.Proofs.YtckdinepbgilfaaW.PrintMore
set_option linter.unusedVariables false
set_option linter.unusedSimpArgs false

def contR (a b : List Int) : Bool := pitchesB a && pitchesB b && hasB a b
theorem spec_ContainsPart_ev (a b : List Int) (ha : a.length ≤ 9223372036854775807) (hb : b.length ≤ 9223372036854775807) : Ev (fun k => spec_ContainsPart.f k a b) (contR a b) := by
  unfold spec_ContainsPart.f contR
  refine Ev.bind (spec_l05Pitches_ev a ha) ?_
  cases h : pitchesB a with
  | true =>
    refine Ev.ite_pos rfl ?_
    refine Ev.bind (spec_l05Pitches_ev b hb) ?_
    cases h' : pitchesB b with
    | true => exact Ev.ite_pos rfl (Ev.bind (spec_l15Has_ev a b (pitchesB_len h) (pitchesB_len h')) (Ev.now _))
    | false => exact Ev.ite_neg (by decide) (Ev.now _)
  | false => exact Ev.ite_neg (by decide) (Ev.now _)
theorem impl_ContainsPart_ev (a b : List Int) : Ev (fun k => impl_ContainsPart.f k a b) (contR a b) := by
  unfold impl_ContainsPart.f contR
  refine Ev.bindc (impl_pitchesOk_eq a) ?_
  cases h : pitchesB a with
  | true =>
    refine Ev.ite_pos rfl ?_
    refine Ev.bindc (impl_pitchesOk_eq b) ?_
    cases h' : pitchesB b with
    | true =>
      refine Ev.ite_pos rfl (Ev.bind (impl_occurrences_ev a b (pitchesB_len h) (pitchesB_len h')) ?_)
      rw [occM_len]
      exact Ev.now _
    | false => exact Ev.ite_neg (by decide) (Ev.now _)
  | false => exact Ev.ite_neg (by decide) (Ev.now _)
theorem FnExactContainsPart : laws_FnExactContainsPart.Pure := by
  intro a b ⟨ha, _⟩ ⟨hb, _⟩
  refine Ev.out (r := true) ?_
  unfold laws_FnExactContainsPart.f
  by_cases h : (a.length : Int) > 1048576
  · exact Ev.ite_pos h (Ev.now _)
  refine Ev.ite_neg h ?_
  by_cases h' : (b.length : Int) > 1048576
  · exact Ev.ite_pos h' (Ev.now _)
  refine Ev.ite_neg h' ?_
  have hs := toInt64S_ev a (by omega)
  have hs' := toInt64S_ev b (by omega)
  refine Ev.bind hs ?_
  refine Ev.bind hs' ?_
  refine Ev.bind (spec_ContainsPart_ev a b (by omega) (by omega)) ?_
  refine Ev.bind hs ?_
  refine Ev.bind hs' ?_
  refine Ev.bind (impl_ContainsPart_ev a b) ?_
  refine Ev.ite_neg (by simp) ?_
  refine Ev.bind hs ?_
  refine Ev.bind (eqInt64S_self a (by omega)) ?_
  refine Ev.ite_pos rfl ?_
  refine Ev.bind hs' ?_
  refine Ev.bind (eqInt64S_self b (by omega)) ?_
  exact Ev.ite_pos rfl (Ev.now _)

end Go.Proofs.Ytckdinepbgilfaa.Pure
