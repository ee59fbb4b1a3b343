/- The pure statement of FnExactValidStrings: the reference and the program tell alike of every list. No condition. -/
import Derived.Test.YtckdinepbgilfaaLCopy
import Derived.Test.YtckdinepbgilfaaLEv
import Derived.Test.YtckdinepbgilfaaLStrings
import Derived.Test.YtckdinepbgilfaaQLawsFnexactvalidstrings
namespace Go.Proofs.Ytckdinepbgilfaa.Pure
open Go.RowKit Go.Proofs.Ytckdinepbgilfaa.P Go.Proofs.YtckdinepbgilfaaW.PrintWords Go.Proofs.YtckdinepbgilfaaW.PrintLast Go.Proofs.YtckdinepbgilfaaW.PrintMore
set_option linter.unusedVariables false
set_option linter.unusedSimpArgs false

theorem FnExactValidStrings : laws_FnExactValidStrings.Pure := by
  intro l ⟨hl, hw⟩
  refine Ev.out (r := true) ?_
  unfold laws_FnExactValidStrings.f
  by_cases h : (l.length : Int) > 1048576
  · exact Ev.ite_pos h (Ev.now _)
  refine Ev.ite_neg h ?_
  have hs := toInt64S_ev l (by omega)
  refine Ev.bind hs ?_
  refine Ev.bind (spec_ValidStrings_ev l) ?_
  refine Ev.bind hs ?_
  refine Ev.bind (impl_ValidStrings_ev l) ?_
  refine Ev.ite_neg (by simp) ?_
  refine Ev.bind hs ?_
  refine Ev.bind (eqInt64S_self l (by omega)) ?_
  exact Ev.ite_pos rfl (Ev.now _)

end Go.Proofs.Ytckdinepbgilfaa.Pure
