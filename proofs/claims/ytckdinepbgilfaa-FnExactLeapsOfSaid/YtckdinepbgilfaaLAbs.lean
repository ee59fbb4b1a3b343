/- The absolute value: the program's word. Plain Lean. -/
import Derived.Test.YtckdinepbgilfaaLEv
import Derived.Test.YtckdinepbgilfaaQImplAbs
namespace Go.Proofs.Ytckdinepbgilfaa.P
open Go.RowKit Go.Proofs.Ytckdinepbgilfaa.P Go.Proofs.YtckdinepbgilfaaW.PrintWords Go.Proofs.YtckdinepbgilfaaW.PrintLast Go.Proofs.YtckdinepbgilfaaW.PrintMore
set_option linter.unusedVariables false
set_option linter.unusedSimpArgs false

theorem impl_abs_eq (a : Int) (h0 : -9223372036854775807 ≤ a) (h1 : a ≤ 9223372036854775807) : impl_abs.f a = some (max a (-a)) := by
  unfold impl_abs.f
  rw [w64 (x := -a) (by omega) (by omega), mx_eq]

end Go.Proofs.Ytckdinepbgilfaa.P
