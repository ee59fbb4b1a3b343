/- The pure statement of FnExactLeapsOf. No condition. -/
import Derived.Test.YtckdinepbgilfaaLCopy
import Derived.Test.YtckdinepbgilfaaLEv
import Derived.Test.YtckdinepbgilfaaLLeaps
import Derived.Test.YtckdinepbgilfaaLPitches
import Derived.Test.YtckdinepbgilfaaQImplLeapsof34
import Derived.Test.YtckdinepbgilfaaQLawsFnexactleapsof
import Derived.Test.YtckdinepbgilfaaQSpecLeapsof
namespace Go.Proofs.Ytckdinepbgilfaa.Pure
open Go.RowKit Go.Proofs.Ytckdinepbgilfaa.P Go.Proofs.YtckdinepbgilfaaW.PrintWords Go.Proofs.YtckdinepbgilfaaW.PrintLast Go.Proofs.YtckdinepbgilfaaW.PrintMore
set_option linter.unusedVariables false
set_option linter.unusedSimpArgs false

def leapsR (l : List Int) : Int × Int := if pitchesB l then (leapsM l (l.length - 1) 1 0, 0) else (0, 7)
theorem spec_LeapsOf_ev (l : List Int) (hl : l.length ≤ 9223372036854775807) : Ev (fun k => spec_LeapsOf.f k l) (leapsR l) := by
  unfold spec_LeapsOf.f leapsR
  refine Ev.bind (spec_l05Pitches_ev l hl) ?_
  cases h : pitchesB l with
  | true => exact Ev.ite_pos rfl (Ev.bind (spec_l15Leaps_ev l h) (Ev.now _))
  | false => exact Ev.ite_neg (by decide) (Ev.now _)
theorem impl_LeapsOf_ev (l : List Int) (hl : l.length ≤ 9223372036854775807) : Ev (fun k => impl_LeapsOf.f k l) (leapsR l) := by
  unfold impl_LeapsOf.f leapsR
  refine Ev.bindc (impl_pitchesOk_eq l) ?_
  cases h : pitchesB l with
  | true => exact Ev.ite_pos rfl (Ev.bind (impl_leapsOf_ev l h) (Ev.now _))
  | false => exact Ev.ite_neg (by decide) (Ev.now _)
theorem FnExactLeapsOf : laws_FnExactLeapsOf.Pure := by
  intro l ⟨hl, hw⟩
  refine Ev.out (r := true) ?_
  unfold laws_FnExactLeapsOf.f
  by_cases h : (l.length : Int) > 1048576
  · exact Ev.ite_pos h (Ev.now _)
  refine Ev.ite_neg h ?_
  have hs := toInt64S_ev l (by omega)
  refine Ev.bind hs ?_
  refine Ev.bind (spec_LeapsOf_ev l (by omega)) ?_
  refine Ev.bind hs ?_
  refine Ev.bind (impl_LeapsOf_ev l (by omega)) ?_
  refine Ev.ite_pos rfl ?_
  refine Ev.succ ?_
  simp only [laws_FnExactLeapsOf.j0]
  refine Ev.ite_neg (by simp) ?_
  refine Ev.bind hs ?_
  refine Ev.bind (eqInt64S_self l (by omega)) ?_
  exact Ev.ite_pos rfl (Ev.now _)

end Go.Proofs.Ytckdinepbgilfaa.Pure
