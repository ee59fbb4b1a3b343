/- Texts of this seat, merged: QSpecL15Ok, QSpecSatisfies, Open, LEv, LIn, LInB, LInP, QLawsHeldint64S, QLawsMarkint64S, LCopy, LDropAt, LSInP, LPitches, LWithin, LIInP, LRangeOk, LAskOk, LEvAnd, LAbs, LIdx, LHasOne, LName, LIName, LInc, LRises, LScale, LIScale, LTn, LRaga, LRdL. -/
import Derived.Deep.Slices
import Derived.WideShapes
import Derived.ChangeShapes
import Derived.ChangeMaps5
import Derived.ChangeSame
import Derived.Test.YtinlejhffokbaaaGSAT1
import Derived.Test.YtinlejhffokbaaaGSAT2
import Derived.Test.YtinlejhffokbaaaGSAT3
import Derived.Test.YtinlejhffokbaaaGSAT4
import Derived.Test.YtinlejhffokbaaaGSAT5
import Derived.Test.YtinlejhffokbaaaGSAT6
section
namespace Go.Proofs.Ytinlejhffokbaaa.P
open Go.RowKit Go.Proofs.YtinlejhffokbaaaW.PrintWords Go.Proofs.YtinlejhffokbaaaW.PrintLast Go.Proofs.YtinlejhffokbaaaW.PrintMore
attribute [local go_sem] max2_int min2_int max_two min_two max_three min_three max_four min_four   -- for this text's walks alone
set_option linter.unusedVariables false
set_option linter.unusedSimpArgs false
/-! ### spec_l15Ok: function 94 -/
def spec_l15Ok.K0 : Array Bool := #[n_,n_,n_,n_,n_,n_,n_,n_,n_,n_,n_,n_,n_,n_,n_,n_,n_,n_,n_,n_,n_,n_,n_,n_,n_,n_,n_,n_,n_,n_,n_,n_,n_,n_,n_,n_,n_,n_,n_,n_,n_,n_,n_,n_,n_,n_,n_,n_,n_,n_,n_,n_,n_,n_,n_,n_,n_,n_,n_,n_,n_,n_,n_,n_,n_,n_]
def spec_l15Ok.K1 : Array Bool := #[y_,n_,n_,n_,n_,n_,n_,n_,n_,n_,n_,n_,n_,n_,n_,n_,n_,n_,n_,n_,n_,n_,n_,n_,n_,n_,n_,n_,n_,n_,n_,n_,n_,n_,n_,n_,n_,n_,n_,n_,n_,n_,n_,n_,n_,n_,n_,n_,n_,n_,n_,n_,n_,n_,n_,n_,n_,n_,n_,n_,n_,n_,n_,n_,n_,n_]
def spec_l15Ok.K2 : Array Bool := #[y_,y_,n_,n_,n_,n_,n_,n_,n_,n_,n_,n_,n_,n_,n_,n_,n_,n_,n_,n_,n_,n_,n_,n_,n_,n_,n_,n_,n_,n_,n_,n_,n_,n_,n_,n_,n_,n_,n_,n_,n_,n_,n_,n_,n_,n_,n_,n_,n_,n_,n_,n_,n_,n_,n_,n_,n_,n_,n_,n_,n_,n_,n_,n_,n_,n_]
def spec_l15Ok.K3 : Array Bool := #[y_,y_,y_,n_,n_,n_,n_,n_,n_,n_,n_,n_,n_,n_,n_,n_,n_,n_,n_,n_,n_,n_,n_,n_,n_,n_,n_,n_,n_,n_,n_,n_,n_,n_,n_,n_,n_,n_,n_,n_,n_,n_,n_,n_,n_,n_,n_,n_,n_,n_,n_,n_,n_,n_,n_,n_,n_,n_,n_,n_,n_,n_,n_,n_,n_,n_]
def spec_l15Ok.K4 : Array Bool := #[y_,y_,y_,y_,n_,n_,n_,n_,n_,n_,n_,n_,n_,n_,n_,n_,n_,n_,n_,n_,n_,n_,n_,n_,n_,n_,n_,n_,n_,n_,n_,n_,n_,n_,n_,n_,n_,n_,n_,n_,n_,n_,n_,n_,n_,n_,n_,n_,n_,n_,n_,n_,n_,n_,n_,n_,n_,n_,n_,n_,n_,n_,n_,n_,n_,n_]
def spec_l15Ok.K5 : Array Bool := #[y_,y_,y_,y_,y_,n_,n_,n_,n_,n_,n_,n_,n_,n_,n_,n_,n_,n_,n_,n_,n_,n_,n_,n_,n_,n_,n_,n_,n_,n_,n_,n_,n_,n_,n_,n_,n_,n_,n_,n_,n_,n_,n_,n_,n_,n_,n_,n_,n_,n_,n_,n_,n_,n_,n_,n_,n_,n_,n_,n_,n_,n_,n_,n_,n_,n_]
def spec_l15Ok.K6 : Array Bool := #[y_,y_,y_,y_,y_,y_,n_,n_,n_,n_,n_,n_,n_,n_,n_,n_,n_,n_,n_,n_,n_,n_,n_,n_,n_,n_,n_,n_,n_,n_,n_,n_,n_,n_,n_,n_,n_,n_,n_,n_,n_,n_,n_,n_,n_,n_,n_,n_,n_,n_,n_,n_,n_,n_,n_,n_,n_,n_,n_,n_,n_,n_,n_,n_,n_,n_]
def spec_l15Ok.K7 : Array Bool := #[y_,y_,y_,y_,y_,y_,y_,n_,n_,n_,n_,n_,n_,n_,n_,n_,n_,n_,n_,n_,n_,n_,n_,n_,n_,n_,n_,n_,n_,n_,n_,n_,n_,n_,n_,n_,n_,n_,n_,n_,n_,n_,n_,n_,n_,n_,n_,n_,n_,n_,n_,n_,n_,n_,n_,n_,n_,n_,n_,n_,n_,n_,n_,n_,n_,n_]
def spec_l15Ok.K8 : Array Bool := #[y_,y_,y_,y_,y_,y_,y_,y_,n_,n_,n_,n_,n_,n_,n_,n_,n_,n_,n_,n_,n_,n_,n_,n_,n_,n_,n_,n_,n_,n_,n_,n_,n_,n_,n_,n_,n_,n_,n_,n_,n_,n_,n_,n_,n_,n_,n_,n_,n_,n_,n_,n_,n_,n_,n_,n_,n_,n_,n_,n_,n_,n_,n_,n_,n_,n_]
def spec_l15Ok.K9 : Array Bool := #[y_,y_,y_,y_,y_,y_,y_,y_,y_,n_,n_,n_,n_,n_,n_,n_,n_,n_,n_,n_,n_,n_,n_,n_,n_,n_,n_,n_,n_,n_,n_,n_,n_,n_,n_,n_,n_,n_,n_,n_,n_,n_,n_,n_,n_,n_,n_,n_,n_,n_,n_,n_,n_,n_,n_,n_,n_,n_,n_,n_,n_,n_,n_,n_,n_,n_]
def spec_l15Ok.K10 : Array Bool := #[y_,y_,y_,y_,y_,y_,y_,y_,y_,y_,n_,n_,n_,n_,n_,n_,n_,n_,n_,n_,n_,n_,n_,n_,n_,n_,n_,n_,n_,n_,n_,n_,n_,n_,n_,n_,n_,n_,n_,n_,n_,n_,n_,n_,n_,n_,n_,n_,n_,n_,n_,n_,n_,n_,n_,n_,n_,n_,n_,n_,n_,n_,n_,n_,n_,n_]
def spec_l15Ok.K11 : Array Bool := #[y_,y_,y_,y_,y_,y_,y_,y_,y_,y_,y_,n_,n_,n_,n_,n_,n_,n_,n_,n_,n_,n_,n_,n_,n_,n_,n_,n_,n_,n_,n_,n_,n_,n_,n_,n_,n_,n_,n_,n_,n_,n_,n_,n_,n_,n_,n_,n_,n_,n_,n_,n_,n_,n_,n_,n_,n_,n_,n_,n_,n_,n_,n_,n_,n_,n_]
def spec_l15Ok.K12 : Array Bool := #[y_,y_,y_,y_,y_,y_,y_,y_,y_,y_,y_,y_,n_,n_,n_,n_,n_,n_,n_,n_,n_,n_,n_,n_,n_,n_,n_,n_,n_,n_,n_,n_,n_,n_,n_,n_,n_,n_,n_,n_,n_,n_,n_,n_,n_,n_,n_,n_,n_,n_,n_,n_,n_,n_,n_,n_,n_,n_,n_,n_,n_,n_,n_,n_,n_,n_]
def spec_l15Ok.K13 : Array Bool := #[y_,y_,y_,y_,y_,y_,y_,y_,y_,y_,y_,y_,y_,n_,n_,n_,n_,n_,n_,n_,n_,n_,n_,n_,n_,n_,n_,n_,n_,n_,n_,n_,n_,n_,n_,n_,n_,n_,n_,n_,n_,n_,n_,n_,n_,n_,n_,n_,n_,n_,n_,n_,n_,n_,n_,n_,n_,n_,n_,n_,n_,n_,n_,n_,n_,n_]
def spec_l15Ok.K14 : Array Bool := #[y_,y_,y_,y_,y_,y_,y_,y_,y_,y_,y_,y_,y_,y_,n_,n_,n_,n_,n_,n_,n_,n_,n_,n_,n_,n_,n_,n_,n_,n_,n_,n_,n_,n_,n_,n_,n_,n_,n_,n_,n_,n_,n_,n_,n_,n_,n_,n_,n_,n_,n_,n_,n_,n_,n_,n_,n_,n_,n_,n_,n_,n_,n_,n_,n_,n_]
def spec_l15Ok.K15 : Array Bool := #[y_,y_,y_,y_,y_,y_,y_,y_,y_,y_,y_,y_,y_,y_,y_,n_,n_,n_,n_,n_,n_,n_,n_,n_,n_,n_,n_,n_,n_,n_,n_,n_,n_,n_,n_,n_,n_,n_,n_,n_,n_,n_,n_,n_,n_,n_,n_,n_,n_,n_,n_,n_,n_,n_,n_,n_,n_,n_,n_,n_,n_,n_,n_,n_,n_,n_]
def spec_l15Ok.K16 : Array Bool := #[y_,y_,y_,y_,y_,y_,y_,y_,y_,y_,y_,y_,y_,y_,y_,y_,n_,n_,n_,n_,n_,n_,n_,n_,n_,n_,n_,n_,n_,n_,n_,n_,n_,n_,n_,n_,n_,n_,n_,n_,n_,n_,n_,n_,n_,n_,n_,n_,n_,n_,n_,n_,n_,n_,n_,n_,n_,n_,n_,n_,n_,n_,n_,n_,n_,n_]
def spec_l15Ok.K17 : Array Bool := #[y_,y_,y_,y_,y_,y_,y_,y_,y_,y_,y_,y_,y_,y_,y_,y_,y_,n_,n_,n_,n_,n_,n_,n_,n_,n_,n_,n_,n_,n_,n_,n_,n_,n_,n_,n_,n_,n_,n_,n_,n_,n_,n_,n_,n_,n_,n_,n_,n_,n_,n_,n_,n_,n_,n_,n_,n_,n_,n_,n_,n_,n_,n_,n_,n_,n_]
def spec_l15Ok.K18 : Array Bool := #[y_,y_,y_,y_,y_,y_,y_,y_,y_,y_,y_,y_,y_,y_,y_,y_,y_,y_,n_,n_,n_,n_,n_,n_,n_,n_,n_,n_,n_,n_,n_,n_,n_,n_,n_,n_,n_,n_,n_,n_,n_,n_,n_,n_,n_,n_,n_,n_,n_,n_,n_,n_,n_,n_,n_,n_,n_,n_,n_,n_,n_,n_,n_,n_,n_,n_]
def spec_l15Ok.K19 : Array Bool := #[y_,y_,y_,y_,y_,y_,y_,y_,y_,y_,y_,y_,y_,y_,y_,y_,y_,y_,n_,y_,n_,n_,n_,n_,n_,n_,n_,n_,n_,n_,n_,n_,n_,n_,n_,n_,n_,n_,n_,n_,n_,n_,n_,n_,n_,n_,n_,n_,n_,n_,n_,n_,n_,n_,n_,n_,n_,n_,n_,n_,n_,n_,n_,n_,n_,n_]
def spec_l15Ok.K20 : Array Bool := #[y_,y_,y_,y_,y_,y_,y_,y_,y_,y_,y_,y_,y_,y_,y_,y_,y_,y_,n_,y_,y_,n_,n_,n_,n_,n_,n_,n_,n_,n_,n_,n_,n_,n_,n_,n_,n_,n_,n_,n_,n_,n_,n_,n_,n_,n_,n_,n_,n_,n_,n_,n_,n_,n_,n_,n_,n_,n_,n_,n_,n_,n_,n_,n_,n_,n_]
def spec_l15Ok.K21 : Array Bool := #[y_,y_,y_,y_,y_,y_,y_,y_,y_,y_,y_,y_,y_,y_,y_,y_,y_,y_,n_,y_,y_,y_,n_,n_,n_,n_,n_,n_,n_,n_,n_,n_,n_,n_,n_,n_,n_,n_,n_,n_,n_,n_,n_,n_,n_,n_,n_,n_,n_,n_,n_,n_,n_,n_,n_,n_,n_,n_,n_,n_,n_,n_,n_,n_,n_,n_]
def spec_l15Ok.K22 : Array Bool := #[y_,y_,y_,y_,y_,y_,y_,y_,y_,y_,y_,y_,y_,y_,y_,y_,y_,y_,y_,y_,y_,y_,n_,n_,n_,n_,n_,n_,n_,n_,n_,n_,n_,n_,n_,n_,n_,n_,n_,n_,n_,n_,n_,n_,n_,n_,n_,n_,n_,n_,n_,n_,n_,n_,n_,n_,n_,n_,n_,n_,n_,n_,n_,n_,n_,n_]
def spec_l15Ok.K23 : Array Bool := #[y_,y_,y_,y_,y_,y_,y_,y_,y_,y_,y_,y_,y_,y_,y_,y_,y_,y_,y_,y_,y_,y_,y_,n_,n_,n_,n_,n_,n_,n_,n_,n_,n_,n_,n_,n_,n_,n_,n_,n_,n_,n_,n_,n_,n_,n_,n_,n_,n_,n_,n_,n_,n_,n_,n_,n_,n_,n_,n_,n_,n_,n_,n_,n_,n_,n_]
def spec_l15Ok.K24 : Array Bool := #[y_,y_,y_,y_,y_,y_,y_,y_,y_,y_,y_,y_,y_,y_,y_,y_,y_,y_,y_,y_,y_,y_,y_,y_,n_,n_,n_,n_,n_,n_,n_,n_,n_,n_,n_,n_,n_,n_,n_,n_,n_,n_,n_,n_,n_,n_,n_,n_,n_,n_,n_,n_,n_,n_,n_,n_,n_,n_,n_,n_,n_,n_,n_,n_,n_,n_]
def spec_l15Ok.K25 : Array Bool := #[y_,y_,y_,y_,y_,y_,y_,y_,y_,y_,y_,y_,y_,y_,y_,y_,y_,y_,y_,y_,y_,y_,y_,y_,y_,n_,n_,n_,n_,n_,n_,n_,n_,n_,n_,n_,n_,n_,n_,n_,n_,n_,n_,n_,n_,n_,n_,n_,n_,n_,n_,n_,n_,n_,n_,n_,n_,n_,n_,n_,n_,n_,n_,n_,n_,n_]
def spec_l15Ok.K26 : Array Bool := #[y_,y_,y_,y_,y_,y_,y_,y_,y_,y_,y_,y_,y_,y_,y_,y_,y_,y_,y_,y_,y_,y_,y_,y_,y_,y_,n_,n_,n_,n_,n_,n_,n_,n_,n_,n_,n_,n_,n_,n_,n_,n_,n_,n_,n_,n_,n_,n_,n_,n_,n_,n_,n_,n_,n_,n_,n_,n_,n_,n_,n_,n_,n_,n_,n_,n_]
def spec_l15Ok.K27 : Array Bool := #[y_,y_,y_,y_,y_,y_,y_,y_,y_,y_,y_,y_,y_,y_,y_,y_,y_,y_,y_,y_,y_,y_,y_,y_,y_,y_,y_,n_,n_,n_,n_,n_,n_,n_,n_,n_,n_,n_,n_,n_,n_,n_,n_,n_,n_,n_,n_,n_,n_,n_,n_,n_,n_,n_,n_,n_,n_,n_,n_,n_,n_,n_,n_,n_,n_,n_]
def spec_l15Ok.K28 : Array Bool := #[y_,y_,y_,y_,y_,y_,y_,y_,y_,y_,y_,y_,y_,y_,y_,y_,y_,y_,y_,y_,y_,y_,y_,y_,y_,y_,y_,y_,n_,n_,n_,n_,n_,n_,n_,n_,n_,n_,n_,n_,n_,n_,n_,n_,n_,n_,n_,n_,n_,n_,n_,n_,n_,n_,n_,n_,n_,n_,n_,n_,n_,n_,n_,n_,n_,n_]
def spec_l15Ok.K29 : Array Bool := #[y_,y_,y_,y_,y_,y_,y_,y_,y_,y_,y_,y_,y_,y_,y_,y_,y_,y_,y_,y_,y_,y_,y_,y_,y_,y_,y_,y_,y_,n_,n_,n_,n_,n_,n_,n_,n_,n_,n_,n_,n_,n_,n_,n_,n_,n_,n_,n_,n_,n_,n_,n_,n_,n_,n_,n_,n_,n_,n_,n_,n_,n_,n_,n_,n_,n_]
def spec_l15Ok.K30 : Array Bool := #[y_,y_,y_,y_,y_,y_,y_,y_,y_,y_,y_,y_,y_,y_,y_,y_,y_,y_,y_,y_,y_,y_,y_,y_,y_,y_,y_,y_,y_,y_,n_,n_,n_,n_,n_,n_,n_,n_,n_,n_,n_,n_,n_,n_,n_,n_,n_,n_,n_,n_,n_,n_,n_,n_,n_,n_,n_,n_,n_,n_,n_,n_,n_,n_,n_,n_]
def spec_l15Ok.K31 : Array Bool := #[y_,y_,y_,y_,y_,y_,y_,y_,y_,y_,y_,y_,y_,y_,y_,y_,y_,y_,y_,y_,y_,y_,y_,y_,y_,y_,y_,y_,y_,y_,n_,y_,n_,n_,n_,n_,n_,n_,n_,n_,n_,n_,n_,n_,n_,n_,n_,n_,n_,n_,n_,n_,n_,n_,n_,n_,n_,n_,n_,n_,n_,n_,n_,n_,n_,n_]
def spec_l15Ok.K32 : Array Bool := #[y_,y_,y_,y_,y_,y_,y_,y_,y_,y_,y_,y_,y_,y_,y_,y_,y_,y_,y_,y_,y_,y_,y_,y_,y_,y_,y_,y_,y_,y_,n_,y_,y_,n_,n_,n_,n_,n_,n_,n_,n_,n_,n_,n_,n_,n_,n_,n_,n_,n_,n_,n_,n_,n_,n_,n_,n_,n_,n_,n_,n_,n_,n_,n_,n_,n_]
def spec_l15Ok.K33 : Array Bool := #[y_,y_,y_,y_,y_,y_,y_,y_,y_,y_,y_,y_,y_,y_,y_,y_,y_,y_,y_,y_,y_,y_,y_,y_,y_,y_,y_,y_,y_,y_,n_,y_,y_,y_,n_,n_,n_,n_,n_,n_,n_,n_,n_,n_,n_,n_,n_,n_,n_,n_,n_,n_,n_,n_,n_,n_,n_,n_,n_,n_,n_,n_,n_,n_,n_,n_]
def spec_l15Ok.K34 : Array Bool := #[y_,y_,y_,y_,y_,y_,y_,y_,y_,y_,y_,y_,y_,y_,y_,y_,y_,y_,y_,y_,y_,y_,y_,y_,y_,y_,y_,y_,y_,y_,n_,y_,y_,y_,n_,y_,n_,n_,n_,n_,n_,n_,n_,n_,n_,n_,n_,n_,n_,n_,n_,n_,n_,n_,n_,n_,n_,n_,n_,n_,n_,n_,n_,n_,n_,n_]
def spec_l15Ok.K35 : Array Bool := #[y_,y_,y_,y_,y_,y_,y_,y_,y_,y_,y_,y_,y_,y_,y_,y_,y_,y_,y_,y_,y_,y_,y_,y_,y_,y_,y_,y_,y_,y_,n_,y_,y_,y_,n_,y_,y_,n_,n_,n_,n_,n_,n_,n_,n_,n_,n_,n_,n_,n_,n_,n_,n_,n_,n_,n_,n_,n_,n_,n_,n_,n_,n_,n_,n_,n_]
def spec_l15Ok.K36 : Array Bool := #[y_,y_,y_,y_,y_,y_,y_,y_,y_,y_,y_,y_,y_,y_,y_,y_,y_,y_,y_,y_,y_,y_,y_,y_,y_,y_,y_,y_,y_,y_,n_,y_,y_,y_,n_,y_,y_,y_,n_,n_,n_,n_,n_,n_,n_,n_,n_,n_,n_,n_,n_,n_,n_,n_,n_,n_,n_,n_,n_,n_,n_,n_,n_,n_,n_,n_]
def spec_l15Ok.K37 : Array Bool := #[y_,y_,y_,y_,y_,y_,y_,y_,y_,y_,y_,y_,y_,y_,y_,y_,y_,y_,y_,y_,y_,y_,y_,y_,y_,y_,y_,y_,y_,y_,y_,y_,y_,y_,n_,y_,y_,y_,n_,n_,n_,n_,n_,n_,n_,n_,n_,n_,n_,n_,n_,n_,n_,n_,n_,n_,n_,n_,n_,n_,n_,n_,n_,n_,n_,n_]
def spec_l15Ok.K38 : Array Bool := #[y_,y_,y_,y_,y_,y_,y_,y_,y_,y_,y_,y_,y_,y_,y_,y_,y_,y_,y_,y_,y_,y_,y_,y_,y_,y_,y_,y_,y_,y_,y_,y_,y_,y_,y_,y_,y_,y_,n_,n_,n_,n_,n_,n_,n_,n_,n_,n_,n_,n_,n_,n_,n_,n_,n_,n_,n_,n_,n_,n_,n_,n_,n_,n_,n_,n_]
def spec_l15Ok.K39 : Array Bool := #[y_,y_,y_,y_,y_,y_,y_,y_,y_,y_,y_,y_,y_,y_,y_,y_,y_,y_,y_,y_,y_,y_,y_,y_,y_,y_,y_,y_,y_,y_,y_,y_,y_,y_,y_,y_,y_,y_,y_,n_,n_,n_,n_,n_,n_,n_,n_,n_,n_,n_,n_,n_,n_,n_,n_,n_,n_,n_,n_,n_,n_,n_,n_,n_,n_,n_]
def spec_l15Ok.K40 : Array Bool := #[y_,y_,y_,y_,y_,y_,y_,y_,y_,y_,y_,y_,y_,y_,y_,y_,y_,y_,y_,y_,y_,y_,y_,y_,y_,y_,y_,y_,y_,y_,y_,y_,y_,y_,y_,y_,y_,y_,y_,y_,n_,n_,n_,n_,n_,n_,n_,n_,n_,n_,n_,n_,n_,n_,n_,n_,n_,n_,n_,n_,n_,n_,n_,n_,n_,n_]
def spec_l15Ok.K41 : Array Bool := #[y_,y_,y_,y_,y_,y_,y_,y_,y_,y_,y_,y_,y_,y_,y_,y_,y_,y_,y_,y_,y_,y_,y_,y_,y_,y_,y_,y_,y_,y_,y_,y_,y_,y_,y_,y_,y_,y_,y_,y_,y_,n_,n_,n_,n_,n_,n_,n_,n_,n_,n_,n_,n_,n_,n_,n_,n_,n_,n_,n_,n_,n_,n_,n_,n_,n_]
def spec_l15Ok.K42 : Array Bool := #[y_,y_,y_,y_,y_,y_,y_,y_,y_,y_,y_,y_,y_,y_,y_,y_,y_,y_,y_,y_,y_,y_,y_,y_,y_,y_,y_,y_,y_,y_,y_,y_,y_,y_,y_,y_,y_,y_,y_,y_,y_,y_,n_,n_,n_,n_,n_,n_,n_,n_,n_,n_,n_,n_,n_,n_,n_,n_,n_,n_,n_,n_,n_,n_,n_,n_]
def spec_l15Ok.K43 : Array Bool := #[y_,y_,y_,y_,y_,y_,y_,y_,y_,y_,y_,y_,y_,y_,y_,y_,y_,y_,y_,y_,y_,y_,y_,y_,y_,y_,y_,y_,y_,y_,y_,y_,y_,y_,y_,y_,y_,y_,y_,y_,y_,y_,y_,n_,n_,n_,n_,n_,n_,n_,n_,n_,n_,n_,n_,n_,n_,n_,n_,n_,n_,n_,n_,n_,n_,n_]
def spec_l15Ok.K44 : Array Bool := #[y_,y_,y_,y_,y_,y_,y_,y_,y_,y_,y_,y_,y_,y_,y_,y_,y_,y_,y_,y_,y_,y_,y_,y_,y_,y_,y_,y_,y_,y_,y_,y_,y_,y_,y_,y_,y_,y_,y_,y_,y_,y_,y_,y_,n_,n_,n_,n_,n_,n_,n_,n_,n_,n_,n_,n_,n_,n_,n_,n_,n_,n_,n_,n_,n_,n_]
def spec_l15Ok.K45 : Array Bool := #[y_,y_,y_,y_,y_,y_,y_,y_,y_,y_,y_,y_,y_,y_,y_,y_,y_,y_,y_,y_,y_,y_,y_,y_,y_,y_,y_,y_,y_,y_,y_,y_,y_,y_,y_,y_,y_,y_,y_,y_,y_,y_,y_,y_,y_,n_,n_,n_,n_,n_,n_,n_,n_,n_,n_,n_,n_,n_,n_,n_,n_,n_,n_,n_,n_,n_]
def spec_l15Ok.K46 : Array Bool := #[y_,y_,y_,y_,y_,y_,y_,y_,y_,y_,y_,y_,y_,y_,y_,y_,y_,y_,y_,y_,y_,y_,y_,y_,y_,y_,y_,y_,y_,y_,y_,y_,y_,y_,y_,y_,y_,y_,y_,y_,y_,y_,y_,y_,y_,y_,n_,n_,n_,n_,n_,n_,n_,n_,n_,n_,n_,n_,n_,n_,n_,n_,n_,n_,n_,n_]
def spec_l15Ok.K47 : Array Bool := #[y_,y_,y_,y_,y_,y_,y_,y_,y_,y_,y_,y_,y_,y_,y_,y_,y_,y_,y_,y_,y_,y_,y_,y_,y_,y_,y_,y_,y_,y_,y_,y_,y_,y_,y_,y_,y_,y_,y_,y_,y_,y_,y_,y_,y_,y_,n_,y_,n_,n_,n_,n_,n_,n_,n_,n_,n_,n_,n_,n_,n_,n_,n_,n_,n_,n_]
def spec_l15Ok.K48 : Array Bool := #[y_,y_,y_,y_,y_,y_,y_,y_,y_,y_,y_,y_,y_,y_,y_,y_,y_,y_,y_,y_,y_,y_,y_,y_,y_,y_,y_,y_,y_,y_,y_,y_,y_,y_,y_,y_,y_,y_,y_,y_,y_,y_,y_,y_,y_,y_,n_,y_,y_,n_,n_,n_,n_,n_,n_,n_,n_,n_,n_,n_,n_,n_,n_,n_,n_,n_]
def spec_l15Ok.K49 : Array Bool := #[y_,y_,y_,y_,y_,y_,y_,y_,y_,y_,y_,y_,y_,y_,y_,y_,y_,y_,y_,y_,y_,y_,y_,y_,y_,y_,y_,y_,y_,y_,y_,y_,y_,y_,y_,y_,y_,y_,y_,y_,y_,y_,y_,y_,y_,y_,n_,y_,y_,y_,n_,n_,n_,n_,n_,n_,n_,n_,n_,n_,n_,n_,n_,n_,n_,n_]
def spec_l15Ok.K50 : Array Bool := #[y_,y_,y_,y_,y_,y_,y_,y_,y_,y_,y_,y_,y_,y_,y_,y_,y_,y_,y_,y_,y_,y_,y_,y_,y_,y_,y_,y_,y_,y_,y_,y_,y_,y_,y_,y_,y_,y_,y_,y_,y_,y_,y_,y_,y_,y_,n_,y_,y_,y_,n_,y_,n_,n_,n_,n_,n_,n_,n_,n_,n_,n_,n_,n_,n_,n_]
def spec_l15Ok.K51 : Array Bool := #[y_,y_,y_,y_,y_,y_,y_,y_,y_,y_,y_,y_,y_,y_,y_,y_,y_,y_,y_,y_,y_,y_,y_,y_,y_,y_,y_,y_,y_,y_,y_,y_,y_,y_,y_,y_,y_,y_,y_,y_,y_,y_,y_,y_,y_,y_,n_,y_,y_,y_,n_,y_,y_,n_,n_,n_,n_,n_,n_,n_,n_,n_,n_,n_,n_,n_]
def spec_l15Ok.K52 : Array Bool := #[y_,y_,y_,y_,y_,y_,y_,y_,y_,y_,y_,y_,y_,y_,y_,y_,y_,y_,y_,y_,y_,y_,y_,y_,y_,y_,y_,y_,y_,y_,y_,y_,y_,y_,y_,y_,y_,y_,y_,y_,y_,y_,y_,y_,y_,y_,n_,y_,y_,y_,n_,y_,y_,y_,n_,n_,n_,n_,n_,n_,n_,n_,n_,n_,n_,n_]
def spec_l15Ok.K53 : Array Bool := #[y_,y_,y_,y_,y_,y_,y_,y_,y_,y_,y_,y_,y_,y_,y_,y_,y_,y_,y_,y_,y_,y_,y_,y_,y_,y_,y_,y_,y_,y_,y_,y_,y_,y_,y_,y_,y_,y_,y_,y_,y_,y_,y_,y_,y_,y_,y_,y_,y_,y_,n_,y_,y_,y_,n_,n_,n_,n_,n_,n_,n_,n_,n_,n_,n_,n_]
def spec_l15Ok.K54 : Array Bool := #[y_,y_,y_,y_,y_,y_,y_,y_,y_,y_,y_,y_,y_,y_,y_,y_,y_,y_,y_,y_,y_,y_,y_,y_,y_,y_,y_,y_,y_,y_,y_,y_,y_,y_,y_,y_,y_,y_,y_,y_,y_,y_,y_,y_,y_,y_,y_,y_,y_,y_,y_,y_,y_,y_,n_,n_,n_,n_,n_,n_,n_,n_,n_,n_,n_,n_]
def spec_l15Ok.K55 : Array Bool := #[y_,y_,y_,y_,y_,y_,y_,y_,y_,y_,y_,y_,y_,y_,y_,y_,y_,y_,y_,y_,y_,y_,y_,y_,y_,y_,y_,y_,y_,y_,y_,y_,y_,y_,y_,y_,y_,y_,y_,y_,y_,y_,y_,y_,y_,y_,y_,y_,y_,y_,y_,y_,y_,y_,y_,n_,n_,n_,n_,n_,n_,n_,n_,n_,n_,n_]
def spec_l15Ok.K56 : Array Bool := #[y_,y_,y_,y_,y_,y_,y_,y_,y_,y_,y_,y_,y_,y_,y_,y_,y_,y_,y_,y_,y_,y_,y_,y_,y_,y_,y_,y_,y_,y_,y_,y_,y_,y_,y_,y_,y_,y_,y_,y_,y_,y_,y_,y_,y_,y_,y_,y_,y_,y_,y_,y_,y_,y_,y_,y_,n_,n_,n_,n_,n_,n_,n_,n_,n_,n_]
def spec_l15Ok.K57 : Array Bool := #[y_,y_,y_,y_,y_,y_,y_,y_,y_,y_,y_,y_,y_,y_,y_,y_,y_,y_,y_,y_,y_,y_,y_,y_,y_,y_,y_,y_,y_,y_,y_,y_,y_,y_,y_,y_,y_,y_,y_,y_,y_,y_,y_,y_,y_,y_,y_,y_,y_,y_,y_,y_,y_,y_,y_,y_,y_,n_,n_,n_,n_,n_,n_,n_,n_,n_]
def spec_l15Ok.K58 : Array Bool := #[y_,y_,y_,y_,y_,y_,y_,y_,y_,y_,y_,y_,y_,y_,y_,y_,y_,y_,y_,y_,y_,y_,y_,y_,y_,y_,y_,y_,y_,y_,y_,y_,y_,y_,y_,y_,y_,y_,y_,y_,y_,y_,y_,y_,y_,y_,y_,y_,y_,y_,y_,y_,y_,y_,y_,y_,y_,y_,n_,n_,n_,n_,n_,n_,n_,n_]
def spec_l15Ok.K59 : Array Bool := #[y_,y_,y_,y_,y_,y_,y_,y_,y_,y_,y_,y_,y_,y_,y_,y_,y_,y_,y_,y_,y_,y_,y_,y_,y_,y_,y_,y_,y_,y_,y_,y_,y_,y_,y_,y_,y_,y_,y_,y_,y_,y_,y_,y_,y_,y_,y_,y_,y_,y_,y_,y_,y_,y_,y_,y_,y_,y_,y_,n_,n_,n_,n_,n_,n_,n_]
def spec_l15Ok.K60 : Array Bool := #[y_,y_,y_,y_,y_,y_,y_,y_,y_,y_,y_,y_,y_,y_,y_,y_,y_,y_,y_,y_,y_,y_,y_,y_,y_,y_,y_,y_,y_,y_,y_,y_,y_,y_,y_,y_,y_,y_,y_,y_,y_,y_,y_,y_,y_,y_,y_,y_,y_,y_,y_,y_,y_,y_,y_,y_,y_,y_,y_,y_,n_,n_,n_,n_,n_,n_]
def spec_l15Ok.K61 : Array Bool := #[y_,y_,y_,y_,y_,y_,y_,y_,y_,y_,y_,y_,y_,y_,y_,y_,y_,y_,y_,y_,y_,y_,y_,y_,y_,y_,y_,y_,y_,y_,y_,y_,y_,y_,y_,y_,y_,y_,y_,y_,y_,y_,y_,y_,y_,y_,y_,y_,y_,y_,y_,y_,y_,y_,y_,y_,y_,y_,y_,y_,y_,n_,n_,n_,n_,n_]
def spec_l15Ok.K62 : Array Bool := #[y_,y_,y_,y_,y_,y_,y_,y_,y_,y_,y_,y_,y_,y_,y_,y_,y_,y_,y_,y_,y_,y_,y_,y_,y_,y_,y_,y_,y_,y_,y_,y_,y_,y_,y_,y_,y_,y_,y_,y_,y_,y_,y_,y_,y_,y_,y_,y_,y_,y_,y_,y_,y_,y_,y_,y_,y_,y_,y_,y_,y_,y_,n_,n_,n_,n_]
def spec_l15Ok.K63 : Array Bool := #[y_,y_,y_,y_,y_,y_,y_,y_,y_,y_,y_,y_,y_,y_,y_,y_,y_,y_,y_,y_,y_,y_,y_,y_,y_,y_,y_,y_,y_,y_,y_,y_,y_,y_,y_,y_,y_,y_,y_,y_,y_,y_,y_,y_,y_,y_,y_,y_,y_,y_,y_,y_,y_,y_,y_,y_,y_,y_,y_,y_,y_,y_,y_,n_,n_,n_]
def spec_l15Ok.K64 : Array Bool := #[y_,y_,y_,y_,y_,y_,y_,y_,y_,y_,y_,y_,y_,y_,y_,y_,y_,y_,y_,y_,y_,y_,y_,y_,y_,y_,y_,y_,y_,y_,y_,y_,y_,y_,y_,y_,y_,y_,y_,y_,y_,y_,y_,y_,y_,y_,y_,y_,y_,y_,y_,y_,y_,y_,y_,y_,y_,y_,y_,y_,y_,y_,y_,y_,n_,n_]
def spec_l15Ok.K65 : Array Bool := #[y_,y_,y_,y_,y_,y_,y_,y_,y_,y_,y_,y_,y_,y_,y_,y_,y_,y_,y_,y_,y_,y_,y_,y_,y_,y_,y_,y_,y_,y_,y_,y_,y_,y_,y_,y_,y_,y_,y_,y_,y_,y_,y_,y_,y_,y_,y_,y_,y_,y_,y_,y_,y_,y_,y_,y_,y_,y_,y_,y_,y_,y_,y_,y_,y_,n_]
def spec_l15Ok.K66 : Array Bool := #[y_,y_,y_,y_,y_,y_,y_,y_,y_,y_,y_,y_,y_,y_,y_,y_,y_,y_,y_,y_,y_,y_,y_,y_,y_,y_,y_,y_,y_,y_,y_,y_,y_,y_,y_,y_,y_,y_,y_,y_,y_,y_,y_,y_,y_,y_,y_,y_,y_,y_,y_,y_,y_,y_,y_,y_,y_,y_,y_,y_,y_,y_,y_,y_,y_,y_]
def spec_l15Ok.K67 : Array Bool := #[y_,y_,y_,y_,y_,y_,y_,y_,y_,y_,y_,y_,y_,y_,y_,y_,y_,y_,y_,y_,y_,y_,y_,y_,y_,y_,y_,y_,y_,y_,y_,y_,y_,y_,y_,y_,y_,y_,y_,y_,y_,y_,y_,y_,y_,y_,y_,n_,n_,n_,n_,n_,n_,n_,n_,n_,n_,n_,n_,n_,n_,n_,n_,n_,n_,n_]
def spec_l15Ok.K68 : Array Bool := #[y_,y_,y_,y_,y_,y_,y_,y_,y_,y_,y_,y_,y_,y_,y_,y_,y_,y_,y_,y_,y_,y_,y_,y_,y_,y_,y_,y_,y_,y_,y_,y_,y_,y_,y_,y_,y_,y_,y_,y_,y_,y_,y_,y_,y_,y_,y_,y_,n_,n_,n_,n_,n_,n_,n_,n_,n_,n_,n_,n_,n_,n_,n_,n_,n_,n_]
def spec_l15Ok.K69 : Array Bool := #[y_,y_,y_,y_,y_,y_,y_,y_,y_,y_,y_,y_,y_,y_,y_,y_,y_,y_,y_,y_,y_,y_,y_,y_,y_,y_,y_,y_,y_,y_,y_,y_,y_,y_,y_,y_,y_,y_,y_,y_,y_,y_,y_,y_,y_,y_,y_,y_,y_,n_,n_,n_,n_,n_,n_,n_,n_,n_,n_,n_,n_,n_,n_,n_,n_,n_]
def spec_l15Ok.K70 : Array Bool := #[y_,y_,y_,y_,y_,y_,y_,y_,y_,y_,y_,y_,y_,y_,y_,y_,y_,y_,y_,y_,y_,y_,y_,y_,y_,y_,y_,y_,y_,y_,y_,y_,y_,y_,y_,y_,y_,y_,y_,y_,y_,y_,y_,y_,y_,y_,y_,y_,y_,y_,n_,n_,n_,n_,n_,n_,n_,n_,n_,n_,n_,n_,n_,n_,n_,n_]
def spec_l15Ok.K71 : Array Bool := #[y_,y_,y_,y_,y_,y_,y_,y_,y_,y_,y_,y_,y_,y_,y_,y_,y_,y_,y_,y_,y_,y_,y_,y_,y_,y_,y_,y_,y_,y_,y_,y_,y_,y_,y_,y_,y_,y_,y_,y_,y_,y_,y_,y_,y_,y_,y_,y_,y_,y_,y_,n_,n_,n_,n_,n_,n_,n_,n_,n_,n_,n_,n_,n_,n_,n_]
def spec_l15Ok.K72 : Array Bool := #[y_,y_,y_,y_,y_,y_,y_,y_,y_,y_,y_,y_,y_,y_,y_,y_,y_,y_,y_,y_,y_,y_,y_,y_,y_,y_,y_,y_,y_,y_,y_,y_,y_,y_,y_,y_,y_,y_,y_,y_,y_,y_,y_,y_,y_,y_,y_,y_,y_,y_,y_,y_,n_,n_,n_,n_,n_,n_,n_,n_,n_,n_,n_,n_,n_,n_]
def spec_l15Ok.K73 : Array Bool := #[y_,y_,y_,y_,y_,y_,y_,y_,y_,y_,y_,y_,y_,y_,y_,y_,y_,y_,y_,y_,y_,y_,y_,y_,y_,y_,y_,y_,y_,y_,y_,y_,y_,y_,y_,y_,y_,y_,y_,y_,y_,y_,y_,y_,y_,y_,y_,y_,y_,y_,y_,y_,y_,n_,n_,n_,n_,n_,n_,n_,n_,n_,n_,n_,n_,n_]
def spec_l15Ok.K74 : Array Bool := #[y_,y_,y_,y_,y_,y_,y_,y_,y_,y_,y_,y_,y_,y_,y_,y_,y_,y_,y_,y_,y_,y_,y_,y_,y_,y_,y_,y_,y_,y_,y_,n_,n_,n_,n_,n_,n_,n_,n_,n_,n_,n_,n_,n_,n_,n_,n_,n_,n_,n_,n_,n_,n_,n_,n_,n_,n_,n_,n_,n_,n_,n_,n_,n_,n_,n_]
def spec_l15Ok.K75 : Array Bool := #[y_,y_,y_,y_,y_,y_,y_,y_,y_,y_,y_,y_,y_,y_,y_,y_,y_,y_,y_,y_,y_,y_,y_,y_,y_,y_,y_,y_,y_,y_,y_,y_,n_,n_,n_,n_,n_,n_,n_,n_,n_,n_,n_,n_,n_,n_,n_,n_,n_,n_,n_,n_,n_,n_,n_,n_,n_,n_,n_,n_,n_,n_,n_,n_,n_,n_]
def spec_l15Ok.K76 : Array Bool := #[y_,y_,y_,y_,y_,y_,y_,y_,y_,y_,y_,y_,y_,y_,y_,y_,y_,y_,y_,y_,y_,y_,y_,y_,y_,y_,y_,y_,y_,y_,y_,y_,y_,n_,n_,n_,n_,n_,n_,n_,n_,n_,n_,n_,n_,n_,n_,n_,n_,n_,n_,n_,n_,n_,n_,n_,n_,n_,n_,n_,n_,n_,n_,n_,n_,n_]
def spec_l15Ok.K77 : Array Bool := #[y_,y_,y_,y_,y_,y_,y_,y_,y_,y_,y_,y_,y_,y_,y_,y_,y_,y_,y_,y_,y_,y_,y_,y_,y_,y_,y_,y_,y_,y_,y_,y_,y_,y_,n_,n_,n_,n_,n_,n_,n_,n_,n_,n_,n_,n_,n_,n_,n_,n_,n_,n_,n_,n_,n_,n_,n_,n_,n_,n_,n_,n_,n_,n_,n_,n_]
def spec_l15Ok.K78 : Array Bool := #[y_,y_,y_,y_,y_,y_,y_,y_,y_,y_,y_,y_,y_,y_,y_,y_,y_,y_,y_,y_,y_,y_,y_,y_,y_,y_,y_,y_,y_,y_,y_,y_,y_,y_,y_,n_,n_,n_,n_,n_,n_,n_,n_,n_,n_,n_,n_,n_,n_,n_,n_,n_,n_,n_,n_,n_,n_,n_,n_,n_,n_,n_,n_,n_,n_,n_]
def spec_l15Ok.K79 : Array Bool := #[y_,y_,y_,y_,y_,y_,y_,y_,y_,y_,y_,y_,y_,y_,y_,y_,y_,y_,y_,y_,y_,y_,y_,y_,y_,y_,y_,y_,y_,y_,y_,y_,y_,y_,y_,y_,n_,n_,n_,n_,n_,n_,n_,n_,n_,n_,n_,n_,n_,n_,n_,n_,n_,n_,n_,n_,n_,n_,n_,n_,n_,n_,n_,n_,n_,n_]
def spec_l15Ok.K80 : Array Bool := #[y_,y_,y_,y_,y_,y_,y_,y_,y_,y_,y_,y_,y_,y_,y_,y_,y_,y_,y_,y_,y_,y_,y_,y_,y_,y_,y_,y_,y_,y_,y_,y_,y_,y_,y_,y_,y_,n_,n_,n_,n_,n_,n_,n_,n_,n_,n_,n_,n_,n_,n_,n_,n_,n_,n_,n_,n_,n_,n_,n_,n_,n_,n_,n_,n_,n_]
def spec_l15Ok.K81 : Array Bool := #[y_,y_,y_,y_,y_,y_,y_,y_,y_,y_,y_,y_,y_,y_,y_,y_,y_,y_,y_,n_,n_,n_,n_,n_,n_,n_,n_,n_,n_,n_,n_,n_,n_,n_,n_,n_,n_,n_,n_,n_,n_,n_,n_,n_,n_,n_,n_,n_,n_,n_,n_,n_,n_,n_,n_,n_,n_,n_,n_,n_,n_,n_,n_,n_,n_,n_]
def spec_l15Ok.K82 : Array Bool := #[y_,y_,y_,y_,y_,y_,y_,y_,y_,y_,y_,y_,y_,y_,y_,y_,y_,y_,y_,y_,n_,n_,n_,n_,n_,n_,n_,n_,n_,n_,n_,n_,n_,n_,n_,n_,n_,n_,n_,n_,n_,n_,n_,n_,n_,n_,n_,n_,n_,n_,n_,n_,n_,n_,n_,n_,n_,n_,n_,n_,n_,n_,n_,n_,n_,n_]
def spec_l15Ok.K83 : Array Bool := #[y_,y_,y_,y_,y_,y_,y_,y_,y_,y_,y_,y_,y_,y_,y_,y_,y_,y_,y_,y_,y_,n_,n_,n_,n_,n_,n_,n_,n_,n_,n_,n_,n_,n_,n_,n_,n_,n_,n_,n_,n_,n_,n_,n_,n_,n_,n_,n_,n_,n_,n_,n_,n_,n_,n_,n_,n_,n_,n_,n_,n_,n_,n_,n_,n_,n_]
mutual
def spec_l15Ok.j0 : Nat → Bool → Int → Int → Int → Int → Int → List (List Int) → Int → Option (Bool)
 | 0, _, _, _, _, _, _, _, _ => none
 | k + 1, x69, x521000, x521001, x521002, x521003, x521004, x521005, x521006 => if x69 = true then (some false) else (spec_l15Ok.l0 k 0 x521000 x521001 x521002 x521003 x521004 x521005 x521006)
def spec_l15Ok.l0 : Nat → Int → Int → Int → Int → Int → Int → List (List Int) → Int → Option (Bool)
 | 0, _, _, _, _, _, _, _, _ => none
 | k + 1, x3, x521000, x521001, x521002, x521003, x521004, x521005, x521006 => if x3 < (x521005.length : Int) then (if 0 ≤ x3 then ((spec_l00In.f ((rd_L1 x521005 x3).length : Int) 1 8).bind fun t528 => (if t528 = true then ((spec_l05Pitches.f k (rd_L1 x521005 x3)).bind fun t530 => (if t530 = true then (spec_l15Ok.l0 k (wrap64 (x3 + 1)) x521000 x521001 x521002 x521003 x521004 x521005 x521006) else (some false))) else (some false))) else (none)) else (some (decide ((x521005.length : Int) ≤ 4)))
end
def spec_l15Ok.f (k : Nat) (a0_0 : Int) (a0_1 : Int) (a0_2 : Int) (a0_3 : Int) (a0_4 : Int) (l0_5 : List (List Int)) (a0_6 : Int) : Option (Bool) := (spec_l00In.f a0_0 1 16).bind fun t521 => (if t521 = true then ((spec_l03Pitch.f a0_3).bind fun t522 => (if t522 = true then ((spec_l00In.f a0_4 a0_3 23).bind fun t523 => (if t523 = true then ((spec_l00In.f a0_1 a0_3 a0_4).bind fun t524 => (if t524 = true then ((spec_l00In.f a0_2 a0_3 a0_4).bind fun t525 => (if t525 = true then ((spec_l00In.f a0_6 0 16).bind fun t526 => (spec_l15Ok.j0 k (!t526) a0_0 a0_1 a0_2 a0_3 a0_4 l0_5 a0_6)) else (spec_l15Ok.j0 k true a0_0 a0_1 a0_2 a0_3 a0_4 l0_5 a0_6))) else (spec_l15Ok.j0 k true a0_0 a0_1 a0_2 a0_3 a0_4 l0_5 a0_6))) else (spec_l15Ok.j0 k true a0_0 a0_1 a0_2 a0_3 a0_4 l0_5 a0_6))) else (spec_l15Ok.j0 k true a0_0 a0_1 a0_2 a0_3 a0_4 l0_5 a0_6))) else (spec_l15Ok.j0 k true a0_0 a0_1 a0_2 a0_3 a0_4 l0_5 a0_6))
def spec_l15Ok.T1 : Bool × List (List Nat × List Nat) := (true, [([], []), ([0], [0]), ([1], [1]), ([2], [2]), ([3], [3]), ([4], [4]), ([5, 4], [5]), ([6], [6]), ([7, 6], [6, 7]), ([8, 6], [6, 8]), ([9, 6], [6, 9]), ([10, 6, 6], [6, 10]), ([11, 6], [6, 11]), ([6, 12], [6, 12]), ([13, 11], [13]), ([14], [14]), ([15, 14], [14, 15]), ([16, 14], [14, 16]), ([17, 14], [14, 17]), ([14], [14]), ([19, 14], [14, 19]), ([20, 14], [14, 20]), ([21, 14], [14, 21]), ([18, 22, 14, 14], [14, 18, 22]), ([23, 14], [14, 23]), ([14, 24], [14, 24]), ([25, 23], [25]), ([26], [26]), ([27, 26], [26, 27]), ([28, 26], [26, 28]), ([29, 26], [26, 29]), ([26], [26]), ([31, 26], [26, 31]), ([32, 26], [26, 32]), ([33, 26], [26, 33]), ([26], [26]), ([35, 26], [26, 35]), ([36, 26], [26, 36]), ([37, 26], [26, 37]), ([30, 34, 38, 26, 26], [26, 30, 34, 38]), ([39, 26], [26, 39]), ([26, 40], [26, 40]), ([41, 39], [41]), ([42], [42]), ([43, 42], [42, 43]), ([44, 42], [42, 44]), ([45, 42], [42, 45]), ([42], [42]), ([47, 42], [42, 47]), ([48, 42], [42, 48]), ([49, 42], [42, 49]), ([42], [42]), ([51, 42], [42, 51]), ([52, 42], [42, 52]), ([53, 42], [42, 53]), ([46, 50, 54, 42, 42], [42, 46, 50, 54]), ([55, 42], [42, 55]), ([42, 56], [42, 56]), ([57, 55], [57]), ([58], [58]), ([59, 58], [58, 59]), ([60, 58], [58, 60]), ([61, 58], [58, 61]), ([62, 58, 58], [58, 62]), ([63, 58], [58, 63]), ([58, 64], [58, 64])])
def spec_l15Ok.B1 : List Nat := [0, 1, 3, 7, 15, 31, 63, 127, 255, 511, 1023, 2047, 4095, 8191, 16383, 32767, 65535, 131071, 262143, 32767, 557055, 1605631, 3702783, 8388607, 16777215, 33554431, 67108863, 134217727, 268435455, 536870911, 1073741823, 134217727, 2281701375, 6576668671, 15166603263, 134217727, 34493956095, 103213432831, 240652386303, 549755813887, 1099511627775, 2199023255551, 4398046511103, 8796093022207, 17592186044415, 35184372088831, 70368744177663, 8796093022207, 149533581377535, 431008558088191, 993958511509503, 8796093022207, 2260595906707455, 6764195534077951, 15771394788818943, 36028797018963967, 72057594037927935, 144115188075855871, 288230376151711743, 576460752303423487, 1152921504606846975, 2305843009213693951, 4611686018427387903, 9223372036854775807, 18446744073709551615, 36893488147419103231]
theorem spec_l15Ok.tab1 : rtab .any (opsOf Try.f94 1) = spec_l15Ok.T1 := by kernel_rfl
theorem spec_l15Ok.bits1 : waitsOk spec_l15Ok.T1.2 spec_l15Ok.B1 = true := by kernel_rfl
set_option maxHeartbeats 8000000 in
set_option maxRecDepth 100000 in
theorem spec_l15Ok.calls (k : Nat) (g0 : Nat) (a0_0 : Int) (a0_1 : Int) (a0_2 : Int) (a0_3 : Int) (a0_4 : Int) (A0_5 : Option Addr) (c0_5 : Nat) (l0_5 : List (List Int)) (a0_6 : Int) (r : Bool) (w : World) (hp0 : w.heap[g0]? = some (.cells #[.int .i64 a0_0, .int .i64 a0_1, .int .i64 a0_2, .int .i64 a0_3, .int .i64 a0_4, .slice A0_5 l0_5.length c0_5, .int .i64 a0_6] 62 (0, 0))) (hr0_5 : Kd.C (Kd.slice 2 (Kd.int .i64)) w A0_5 l0_5.length l0_5) (hc0_5 : l0_5.length ≤ c0_5) (h : spec_l15Ok.f k a0_0 a0_1 a0_2 a0_3 a0_4 l0_5 a0_6 = some r) :
  Calls Try.prog 94 #[.pointer (some ⟨g0, 0, none⟩)] w fun e w' => e = .returned (.bool r) ∧ Below w.heap.size w w' := by
 have HR0_5 := Aside0.mk hr0_5
 have HC0_5 := Aside0.mk hc0_5
 clear hr0_5 hc0_5
 have HB := Aside0.mk (Below.refl w.heap.size w)
 have HBX0 := Aside0.mk hp0
 have HBP0 := Aside0.mk hp0
 clear hp0
 have H : ((spec_l00In.f a0_0 1 16).bind fun t521 => (if t521 = true then ((spec_l03Pitch.f a0_3).bind fun t522 => (if t522 = true then ((spec_l00In.f a0_4 a0_3 23).bind fun t523 => (if t523 = true then ((spec_l00In.f a0_1 a0_3 a0_4).bind fun t524 => (if t524 = true then ((spec_l00In.f a0_2 a0_3 a0_4).bind fun t525 => (if t525 = true then ((spec_l00In.f a0_6 0 16).bind fun t526 => (spec_l15Ok.j0 k (!t526) a0_0 a0_1 a0_2 a0_3 a0_4 l0_5 a0_6)) else (spec_l15Ok.j0 k true a0_0 a0_1 a0_2 a0_3 a0_4 l0_5 a0_6))) else (spec_l15Ok.j0 k true a0_0 a0_1 a0_2 a0_3 a0_4 l0_5 a0_6))) else (spec_l15Ok.j0 k true a0_0 a0_1 a0_2 a0_3 a0_4 l0_5 a0_6))) else (spec_l15Ok.j0 k true a0_0 a0_1 a0_2 a0_3 a0_4 l0_5 a0_6))) else (spec_l15Ok.j0 k true a0_0 a0_1 a0_2 a0_3 a0_4 l0_5 a0_6))) = some r := h
 clear h
 have HC2 := Aside0.mk H
 clear H
 go_enter Try.func94, Try.ntmps94
 go_upto_region 1 with (fail)
 go_cut [69] (fun v69 wc => ∃ (kq : Nat) (x69_1 : Bool), v69 = .bool x69_1 ∧ Aside0 (spec_l15Ok.j0 kq x69_1 a0_0 a0_1 a0_2 a0_3 a0_4 l0_5 a0_6 = some r) ∧ Aside0 (kq ≤ k) ∧ Aside0 (wc.heap[g0]? = some (.cells #[.int .i64 a0_0, .int .i64 a0_1, .int .i64 a0_2, .int .i64 a0_3, .int .i64 a0_4, (.slice A0_5 l0_5.length c0_5), .int .i64 a0_6] 62 (0, 0))) ∧ Aside0 (Below w.heap.size w wc))
 case first =>
  have H := HC2.out
  clear HC2
  replace H := Option.bind_eq_some_iff.mp H
  obtain ⟨t521, A30, H⟩ := H
  replace H : (if t521 = true then ((spec_l03Pitch.f a0_3).bind fun t522 => (if t522 = true then ((spec_l00In.f a0_4 a0_3 23).bind fun t523 => (if t523 = true then ((spec_l00In.f a0_1 a0_3 a0_4).bind fun t524 => (if t524 = true then ((spec_l00In.f a0_2 a0_3 a0_4).bind fun t525 => (if t525 = true then ((spec_l00In.f a0_6 0 16).bind fun t526 => (spec_l15Ok.j0 k (!t526) a0_0 a0_1 a0_2 a0_3 a0_4 l0_5 a0_6)) else (spec_l15Ok.j0 k true a0_0 a0_1 a0_2 a0_3 a0_4 l0_5 a0_6))) else (spec_l15Ok.j0 k true a0_0 a0_1 a0_2 a0_3 a0_4 l0_5 a0_6))) else (spec_l15Ok.j0 k true a0_0 a0_1 a0_2 a0_3 a0_4 l0_5 a0_6))) else (spec_l15Ok.j0 k true a0_0 a0_1 a0_2 a0_3 a0_4 l0_5 a0_6))) else (spec_l15Ok.j0 k true a0_0 a0_1 a0_2 a0_3 a0_4 l0_5 a0_6)) = some r := H
  have A3 := Aside0.mk A30
  clear A30
  by_cases c4 : t521 = true
  ·subst c4
   have H1 : ((spec_l03Pitch.f a0_3).bind fun t522 => (if t522 = true then ((spec_l00In.f a0_4 a0_3 23).bind fun t523 => (if t523 = true then ((spec_l00In.f a0_1 a0_3 a0_4).bind fun t524 => (if t524 = true then ((spec_l00In.f a0_2 a0_3 a0_4).bind fun t525 => (if t525 = true then ((spec_l00In.f a0_6 0 16).bind fun t526 => (spec_l15Ok.j0 k (!t526) a0_0 a0_1 a0_2 a0_3 a0_4 l0_5 a0_6)) else (spec_l15Ok.j0 k true a0_0 a0_1 a0_2 a0_3 a0_4 l0_5 a0_6))) else (spec_l15Ok.j0 k true a0_0 a0_1 a0_2 a0_3 a0_4 l0_5 a0_6))) else (spec_l15Ok.j0 k true a0_0 a0_1 a0_2 a0_3 a0_4 l0_5 a0_6))) else (spec_l15Ok.j0 k true a0_0 a0_1 a0_2 a0_3 a0_4 l0_5 a0_6))) = some r := by rw [if_pos rfl] at H; exact H
   clear H
   have H := H1
   clear H1
   replace H := Option.bind_eq_some_iff.mp H
   obtain ⟨t522, A50, H⟩ := H
   replace H : (if t522 = true then ((spec_l00In.f a0_4 a0_3 23).bind fun t523 => (if t523 = true then ((spec_l00In.f a0_1 a0_3 a0_4).bind fun t524 => (if t524 = true then ((spec_l00In.f a0_2 a0_3 a0_4).bind fun t525 => (if t525 = true then ((spec_l00In.f a0_6 0 16).bind fun t526 => (spec_l15Ok.j0 k (!t526) a0_0 a0_1 a0_2 a0_3 a0_4 l0_5 a0_6)) else (spec_l15Ok.j0 k true a0_0 a0_1 a0_2 a0_3 a0_4 l0_5 a0_6))) else (spec_l15Ok.j0 k true a0_0 a0_1 a0_2 a0_3 a0_4 l0_5 a0_6))) else (spec_l15Ok.j0 k true a0_0 a0_1 a0_2 a0_3 a0_4 l0_5 a0_6))) else (spec_l15Ok.j0 k true a0_0 a0_1 a0_2 a0_3 a0_4 l0_5 a0_6)) = some r := H
   have A5 := Aside0.mk A50
   clear A50
   by_cases c6 : t522 = true
   ·subst c6
    have H1 : ((spec_l00In.f a0_4 a0_3 23).bind fun t523 => (if t523 = true then ((spec_l00In.f a0_1 a0_3 a0_4).bind fun t524 => (if t524 = true then ((spec_l00In.f a0_2 a0_3 a0_4).bind fun t525 => (if t525 = true then ((spec_l00In.f a0_6 0 16).bind fun t526 => (spec_l15Ok.j0 k (!t526) a0_0 a0_1 a0_2 a0_3 a0_4 l0_5 a0_6)) else (spec_l15Ok.j0 k true a0_0 a0_1 a0_2 a0_3 a0_4 l0_5 a0_6))) else (spec_l15Ok.j0 k true a0_0 a0_1 a0_2 a0_3 a0_4 l0_5 a0_6))) else (spec_l15Ok.j0 k true a0_0 a0_1 a0_2 a0_3 a0_4 l0_5 a0_6))) = some r := by rw [if_pos rfl] at H; exact H
    clear H; have H := H1; clear H1
    replace H := Option.bind_eq_some_iff.mp H
    obtain ⟨t523, A70, H⟩ := H
    replace H : (if t523 = true then ((spec_l00In.f a0_1 a0_3 a0_4).bind fun t524 => (if t524 = true then ((spec_l00In.f a0_2 a0_3 a0_4).bind fun t525 => (if t525 = true then ((spec_l00In.f a0_6 0 16).bind fun t526 => (spec_l15Ok.j0 k (!t526) a0_0 a0_1 a0_2 a0_3 a0_4 l0_5 a0_6)) else (spec_l15Ok.j0 k true a0_0 a0_1 a0_2 a0_3 a0_4 l0_5 a0_6))) else (spec_l15Ok.j0 k true a0_0 a0_1 a0_2 a0_3 a0_4 l0_5 a0_6))) else (spec_l15Ok.j0 k true a0_0 a0_1 a0_2 a0_3 a0_4 l0_5 a0_6)) = some r := H
    have A7 := Aside0.mk A70; clear A70
    by_cases c8 : t523 = true
    ·subst c8
     have H1 : ((spec_l00In.f a0_1 a0_3 a0_4).bind fun t524 => (if t524 = true then ((spec_l00In.f a0_2 a0_3 a0_4).bind fun t525 => (if t525 = true then ((spec_l00In.f a0_6 0 16).bind fun t526 => (spec_l15Ok.j0 k (!t526) a0_0 a0_1 a0_2 a0_3 a0_4 l0_5 a0_6)) else (spec_l15Ok.j0 k true a0_0 a0_1 a0_2 a0_3 a0_4 l0_5 a0_6))) else (spec_l15Ok.j0 k true a0_0 a0_1 a0_2 a0_3 a0_4 l0_5 a0_6))) = some r := by rw [if_pos rfl] at H; exact H
     clear H; have H := H1; clear H1
     replace H := Option.bind_eq_some_iff.mp H
     obtain ⟨t524, A90, H⟩ := H
     replace H : (if t524 = true then ((spec_l00In.f a0_2 a0_3 a0_4).bind fun t525 => (if t525 = true then ((spec_l00In.f a0_6 0 16).bind fun t526 => (spec_l15Ok.j0 k (!t526) a0_0 a0_1 a0_2 a0_3 a0_4 l0_5 a0_6)) else (spec_l15Ok.j0 k true a0_0 a0_1 a0_2 a0_3 a0_4 l0_5 a0_6))) else (spec_l15Ok.j0 k true a0_0 a0_1 a0_2 a0_3 a0_4 l0_5 a0_6)) = some r := H
     have A9 := Aside0.mk A90; clear A90
     by_cases c10 : t524 = true
     ·subst c10
      have H1 : ((spec_l00In.f a0_2 a0_3 a0_4).bind fun t525 => (if t525 = true then ((spec_l00In.f a0_6 0 16).bind fun t526 => (spec_l15Ok.j0 k (!t526) a0_0 a0_1 a0_2 a0_3 a0_4 l0_5 a0_6)) else (spec_l15Ok.j0 k true a0_0 a0_1 a0_2 a0_3 a0_4 l0_5 a0_6))) = some r := by rw [if_pos rfl] at H; exact H
      clear H; have H := H1; clear H1
      replace H := Option.bind_eq_some_iff.mp H
      obtain ⟨t525, A110, H⟩ := H
      replace H : (if t525 = true then ((spec_l00In.f a0_6 0 16).bind fun t526 => (spec_l15Ok.j0 k (!t526) a0_0 a0_1 a0_2 a0_3 a0_4 l0_5 a0_6)) else (spec_l15Ok.j0 k true a0_0 a0_1 a0_2 a0_3 a0_4 l0_5 a0_6)) = some r := H
      have A11 := Aside0.mk A110; clear A110
      by_cases c12 : t525 = true
      ·subst c12
       have H1 : ((spec_l00In.f a0_6 0 16).bind fun t526 => (spec_l15Ok.j0 k (!t526) a0_0 a0_1 a0_2 a0_3 a0_4 l0_5 a0_6)) = some r := by rw [if_pos rfl] at H; exact H
       clear H; have H := H1; clear H1
       replace H := Option.bind_eq_some_iff.mp H
       obtain ⟨t526, A130, H⟩ := H
       replace H : (spec_l15Ok.j0 k (!t526) a0_0 a0_1 a0_2 a0_3 a0_4 l0_5 a0_6) = some r := H
       have A13 := Aside0.mk A130; clear A130
       have H' := Aside0.mk H
       clear H
       try go_wp2
       have n0_ := Aside0.mk (below_drew1 HB.out)
       clear HB; have HB := n0_; clear n0_
       refine start_ (n := 66) (S := fun w' => w'.cell? ⟨g0, 0, none⟩ = some (.int .i64 a0_0) ∧ w'.cell? ⟨g0, 1, none⟩ = some (.int .i64 a0_1) ∧ w'.cell? ⟨g0, 2, none⟩ = some (.int .i64 a0_2) ∧ w'.cell? ⟨g0, 3, none⟩ = some (.int .i64 a0_3) ∧ w'.cell? ⟨g0, 4, none⟩ = some (.int .i64 a0_4) ∧ w'.cell? ⟨g0, 5, none⟩ = some (.slice A0_5 l0_5.length c0_5) ∧ w'.cell? ⟨g0, 6, none⟩ = some (.int .i64 a0_6)) (ds := []) spec_l15Ok.K0 (by kernel_rfl) rfl rfl ⟨(blk_cell HBX0.out 0).trans rfl, (blk_cell HBX0.out 1).trans rfl, (blk_cell HBX0.out 2).trans rfl, (blk_cell HBX0.out 3).trans rfl, (blk_cell HBX0.out 4).trans rfl, (blk_cell HBX0.out 5).trans rfl, (blk_cell HBX0.out 6).trans rfl⟩ (fun hHeld => ?_); refine with_tabW spec_l15Ok.tab1 spec_l15Ok.bits1 (fun HT_ HW_ => ?_)
       generalize w.drew = w14 at HBX0 HB hHeld ⊢
       refine pu_ HT_ 0 4 spec_l15Ok.K1 ?_; refine pu_ HT_ 1 5 spec_l15Ok.K2 ?_; refine pu_ HT_ 2 6 spec_l15Ok.K3 ?_; refine tk_ HT_ HW_ hHeld 3 7 spec_l15Ok.K4 ?_
       refine one_ (i := 4) (N := some 8) spec_l15Ok.K5 rfl rfl (one_of HT_.out (by kernel_rfl)) (by decide) (fun K hK => ?_)
       refine goes_ Try.func58 (by kernel_rfl) rfl #[.int .i64 a0_0, .int .i64 1, .int .i64 16] (by rfl) rfl rfl av_ ?_
       with_reducible refine (spec_l00In.calls a0_0 1 16 true _ A3.out).mono ?_
       rintro e w' ⟨rfl, ⟨nd, rfl⟩⟩
       refine ⟨_, rfl, ?_⟩
       refine hK.out _ _ hHeld (fun hHeld => ?_)
       clear hK K; refine norm_ (a' := ?_) ?_ ?_; rotate_left
       ·show Act.put _ (some 8) _ = _
        go_simp
        rfl
       refine pu_ HT_ 5 9 spec_l15Ok.K6 ?_; refine pu_ HT_ 6 10 spec_l15Ok.K7 ?_; refine pu_ HT_ 7 11 spec_l15Ok.K8 ?_; refine pu_ HT_ 8 12 spec_l15Ok.K9 ?_; refine pu_ HT_ 9 13 spec_l15Ok.K10 ?_; refine tk_ HT_ HW_ hHeld 10 14 spec_l15Ok.K11 ?_
       refine one_ (i := 11) (N := some 15) spec_l15Ok.K12 rfl rfl (one_of HT_.out (by kernel_rfl)) (by decide) (fun K hK => ?_)
       refine goes_ Try.func86 (by kernel_rfl) rfl #[.int .i64 a0_3] (by rfl) rfl rfl av_ ?_
       with_reducible refine (spec_l03Pitch.calls a0_3 true _ A5.out).mono ?_
       rintro e w' ⟨rfl, ⟨nd, rfl⟩⟩
       refine ⟨_, rfl, ?_⟩
       refine hK.out _ _ hHeld (fun hHeld => ?_)
       clear hK K; refine norm_ (a' := ?_) ?_ ?_; rotate_left
       ·show Act.put _ (some 15) _ = _
        go_simp
        rfl
       refine pu_ HT_ 12 16 spec_l15Ok.K13 ?_; refine pu_ HT_ 13 17 spec_l15Ok.K14 ?_; refine pu_ HT_ 14 18 spec_l15Ok.K15 ?_; refine pu_ HT_ 15 19 spec_l15Ok.K16 ?_; refine pu_ HT_ 16 20 spec_l15Ok.K17 ?_; refine pu_ HT_ 17 21 spec_l15Ok.K18 ?_; refine pu_ HT_ 19 23 spec_l15Ok.K19 ?_; refine pu_ HT_ 20 24 spec_l15Ok.K20 ?_; refine pu_ HT_ 21 25 spec_l15Ok.K21 ?_; refine tk_ HT_ HW_ hHeld 18 22 spec_l15Ok.K22 ?_; refine tk_ HT_ HW_ hHeld 22 26 spec_l15Ok.K23 ?_
       refine one_ (i := 23) (N := some 27) spec_l15Ok.K24 rfl rfl (one_of HT_.out (by kernel_rfl)) (by decide) (fun K hK => ?_)
       refine goes_ Try.func58 (by kernel_rfl) rfl #[.int .i64 a0_4, .int .i64 a0_3, .int .i64 23] (by rfl) rfl rfl av_ ?_
       with_reducible refine (spec_l00In.calls a0_4 a0_3 23 true _ A7.out).mono ?_
       rintro e w' ⟨rfl, ⟨nd, rfl⟩⟩
       refine ⟨_, rfl, ?_⟩
       refine hK.out _ _ hHeld (fun hHeld => ?_)
       clear hK K; refine norm_ (a' := ?_) ?_ ?_; rotate_left
       ·show Act.put _ (some 27) _ = _
        go_simp
        rfl
       refine pu_ HT_ 24 28 spec_l15Ok.K25 ?_; refine pu_ HT_ 25 29 spec_l15Ok.K26 ?_; refine pu_ HT_ 26 30 spec_l15Ok.K27 ?_; refine pu_ HT_ 27 31 spec_l15Ok.K28 ?_; refine pu_ HT_ 28 32 spec_l15Ok.K29 ?_; refine pu_ HT_ 29 33 spec_l15Ok.K30 ?_; refine pu_ HT_ 31 35 spec_l15Ok.K31 ?_; refine pu_ HT_ 32 36 spec_l15Ok.K32 ?_; refine pu_ HT_ 33 37 spec_l15Ok.K33 ?_; refine pu_ HT_ 35 39 spec_l15Ok.K34 ?_; refine pu_ HT_ 36 40 spec_l15Ok.K35 ?_; refine pu_ HT_ 37 41 spec_l15Ok.K36 ?_; refine tk_ HT_ HW_ hHeld 30 34 spec_l15Ok.K37 ?_; refine tk_ HT_ HW_ hHeld 34 38 spec_l15Ok.K38 ?_; refine tk_ HT_ HW_ hHeld 38 42 spec_l15Ok.K39 ?_
       refine one_ (i := 39) (N := some 43) spec_l15Ok.K40 rfl rfl (one_of HT_.out (by kernel_rfl)) (by decide) (fun K hK => ?_)
       refine goes_ Try.func58 (by kernel_rfl) rfl #[.int .i64 a0_1, .int .i64 a0_3, .int .i64 a0_4] (by rfl) rfl rfl av_ ?_
       with_reducible refine (spec_l00In.calls a0_1 a0_3 a0_4 true _ A9.out).mono ?_
       rintro e w' ⟨rfl, ⟨nd, rfl⟩⟩
       refine ⟨_, rfl, ?_⟩
       refine hK.out _ _ hHeld (fun hHeld => ?_)
       clear hK K; refine norm_ (a' := ?_) ?_ ?_; rotate_left
       ·show Act.put _ (some 43) _ = _
        go_simp
        rfl
       refine pu_ HT_ 40 44 spec_l15Ok.K41 ?_; refine pu_ HT_ 41 45 spec_l15Ok.K42 ?_; refine pu_ HT_ 42 46 spec_l15Ok.K43 ?_; refine pu_ HT_ 43 47 spec_l15Ok.K44 ?_; refine pu_ HT_ 44 48 spec_l15Ok.K45 ?_; refine pu_ HT_ 45 49 spec_l15Ok.K46 ?_; refine pu_ HT_ 47 51 spec_l15Ok.K47 ?_; refine pu_ HT_ 48 52 spec_l15Ok.K48 ?_; refine pu_ HT_ 49 53 spec_l15Ok.K49 ?_; refine pu_ HT_ 51 55 spec_l15Ok.K50 ?_; refine pu_ HT_ 52 56 spec_l15Ok.K51 ?_; refine pu_ HT_ 53 57 spec_l15Ok.K52 ?_; refine tk_ HT_ HW_ hHeld 46 50 spec_l15Ok.K53 ?_; refine tk_ HT_ HW_ hHeld 50 54 spec_l15Ok.K54 ?_; refine tk_ HT_ HW_ hHeld 54 58 spec_l15Ok.K55 ?_
       refine one_ (i := 55) (N := some 59) spec_l15Ok.K56 rfl rfl (one_of HT_.out (by kernel_rfl)) (by decide) (fun K hK => ?_)
       refine goes_ Try.func58 (by kernel_rfl) rfl #[.int .i64 a0_2, .int .i64 a0_3, .int .i64 a0_4] (by rfl) rfl rfl av_ ?_
       with_reducible refine (spec_l00In.calls a0_2 a0_3 a0_4 true _ A11.out).mono ?_
       rintro e w' ⟨rfl, ⟨nd, rfl⟩⟩
       refine ⟨_, rfl, ?_⟩
       refine hK.out _ _ hHeld (fun hHeld => ?_)
       clear hK K; refine norm_ (a' := ?_) ?_ ?_; rotate_left
       ·show Act.put _ (some 59) _ = _
        go_simp
        rfl
       refine pu_ HT_ 56 60 spec_l15Ok.K57 ?_; refine pu_ HT_ 57 61 spec_l15Ok.K58 ?_; refine pu_ HT_ 58 62 spec_l15Ok.K59 ?_; refine pu_ HT_ 59 63 spec_l15Ok.K60 ?_; refine pu_ HT_ 60 64 spec_l15Ok.K61 ?_; refine pu_ HT_ 61 65 spec_l15Ok.K62 ?_; refine tk_ HT_ HW_ hHeld 62 66 spec_l15Ok.K63 ?_
       refine one_ (i := 63) (N := some 67) spec_l15Ok.K64 rfl rfl (one_of HT_.out (by kernel_rfl)) (by decide) (fun K hK => ?_)
       refine goes_ Try.func58 (by kernel_rfl) rfl #[.int .i64 a0_6, .int .i64 0, .int .i64 16] (by rfl) rfl rfl av_ ?_
       with_reducible refine (spec_l00In.calls a0_6 0 16 t526 _ A13.out).mono ?_
       rintro e w' ⟨rfl, ⟨nd, rfl⟩⟩
       refine ⟨_, rfl, ?_⟩
       refine hK.out _ _ hHeld (fun hHeld => ?_)
       clear hK K; refine norm_ (a' := ?_) ?_ ?_; rotate_left
       ·show Act.put _ (some 67) _ = _
        go_simp
        rfl
       refine pu_ HT_ 64 68 spec_l15Ok.K65 ?_; refine pu_ HT_ 65 69 spec_l15Ok.K66 ?_
       refine done_ (done_of HT_.out (by kernel_rfl)) ?_
       try go_wp2
       go_meet
       case rel => exact ⟨_, (!t526), sv_, H', ⟨by first | omega | exact Nat.le_refl _⟩, ⟨by exact blk_below HBP0.out (bb_ HB.out)⟩, ⟨bb_ HB.out⟩⟩
      ·replace c12 := Bool.eq_false_iff.mpr c12
       subst c12
       have H1 : (spec_l15Ok.j0 k true a0_0 a0_1 a0_2 a0_3 a0_4 l0_5 a0_6) = some r := by rw [if_neg (show ¬ (false = true) by decide)] at H; exact H
       clear H; have H := H1; clear H1
       have H' := Aside0.mk H
       clear H
       try go_wp2
       have n0_ := Aside0.mk (below_drew1 HB.out)
       clear HB; have HB := n0_; clear n0_
       refine start_ (n := 66) (S := fun w' => w'.cell? ⟨g0, 0, none⟩ = some (.int .i64 a0_0) ∧ w'.cell? ⟨g0, 1, none⟩ = some (.int .i64 a0_1) ∧ w'.cell? ⟨g0, 2, none⟩ = some (.int .i64 a0_2) ∧ w'.cell? ⟨g0, 3, none⟩ = some (.int .i64 a0_3) ∧ w'.cell? ⟨g0, 4, none⟩ = some (.int .i64 a0_4) ∧ w'.cell? ⟨g0, 5, none⟩ = some (.slice A0_5 l0_5.length c0_5) ∧ w'.cell? ⟨g0, 6, none⟩ = some (.int .i64 a0_6)) (ds := []) spec_l15Ok.K0 (by kernel_rfl) rfl rfl ⟨(blk_cell HBX0.out 0).trans rfl, (blk_cell HBX0.out 1).trans rfl, (blk_cell HBX0.out 2).trans rfl, (blk_cell HBX0.out 3).trans rfl, (blk_cell HBX0.out 4).trans rfl, (blk_cell HBX0.out 5).trans rfl, (blk_cell HBX0.out 6).trans rfl⟩ (fun hHeld => ?_); refine with_tabW spec_l15Ok.tab1 spec_l15Ok.bits1 (fun HT_ HW_ => ?_)
       generalize w.drew = w15 at HBX0 HB hHeld ⊢
       refine pu_ HT_ 0 4 spec_l15Ok.K1 ?_; refine pu_ HT_ 1 5 spec_l15Ok.K2 ?_; refine pu_ HT_ 2 6 spec_l15Ok.K3 ?_; refine tk_ HT_ HW_ hHeld 3 7 spec_l15Ok.K4 ?_
       refine one_ (i := 4) (N := some 8) spec_l15Ok.K5 rfl rfl (one_of HT_.out (by kernel_rfl)) (by decide) (fun K hK => ?_)
       refine goes_ Try.func58 (by kernel_rfl) rfl #[.int .i64 a0_0, .int .i64 1, .int .i64 16] (by rfl) rfl rfl av_ ?_
       with_reducible refine (spec_l00In.calls a0_0 1 16 true _ A3.out).mono ?_
       rintro e w' ⟨rfl, ⟨nd, rfl⟩⟩
       refine ⟨_, rfl, ?_⟩
       refine hK.out _ _ hHeld (fun hHeld => ?_)
       clear hK K; refine norm_ (a' := ?_) ?_ ?_; rotate_left
       ·show Act.put _ (some 8) _ = _
        go_simp
        rfl
       refine pu_ HT_ 5 9 spec_l15Ok.K6 ?_; refine pu_ HT_ 6 10 spec_l15Ok.K7 ?_; refine pu_ HT_ 7 11 spec_l15Ok.K8 ?_; refine pu_ HT_ 8 12 spec_l15Ok.K9 ?_; refine pu_ HT_ 9 13 spec_l15Ok.K10 ?_; refine tk_ HT_ HW_ hHeld 10 14 spec_l15Ok.K11 ?_
       refine one_ (i := 11) (N := some 15) spec_l15Ok.K12 rfl rfl (one_of HT_.out (by kernel_rfl)) (by decide) (fun K hK => ?_)
       refine goes_ Try.func86 (by kernel_rfl) rfl #[.int .i64 a0_3] (by rfl) rfl rfl av_ ?_
       with_reducible refine (spec_l03Pitch.calls a0_3 true _ A5.out).mono ?_
       rintro e w' ⟨rfl, ⟨nd, rfl⟩⟩
       refine ⟨_, rfl, ?_⟩
       refine hK.out _ _ hHeld (fun hHeld => ?_)
       clear hK K; refine norm_ (a' := ?_) ?_ ?_; rotate_left
       ·show Act.put _ (some 15) _ = _
        go_simp
        rfl
       refine pu_ HT_ 12 16 spec_l15Ok.K13 ?_; refine pu_ HT_ 13 17 spec_l15Ok.K14 ?_; refine pu_ HT_ 14 18 spec_l15Ok.K15 ?_; refine pu_ HT_ 15 19 spec_l15Ok.K16 ?_; refine pu_ HT_ 16 20 spec_l15Ok.K17 ?_; refine pu_ HT_ 17 21 spec_l15Ok.K18 ?_; refine pu_ HT_ 19 23 spec_l15Ok.K19 ?_; refine pu_ HT_ 20 24 spec_l15Ok.K20 ?_; refine pu_ HT_ 21 25 spec_l15Ok.K21 ?_; refine tk_ HT_ HW_ hHeld 18 22 spec_l15Ok.K22 ?_; refine tk_ HT_ HW_ hHeld 22 26 spec_l15Ok.K23 ?_
       refine one_ (i := 23) (N := some 27) spec_l15Ok.K24 rfl rfl (one_of HT_.out (by kernel_rfl)) (by decide) (fun K hK => ?_)
       refine goes_ Try.func58 (by kernel_rfl) rfl #[.int .i64 a0_4, .int .i64 a0_3, .int .i64 23] (by rfl) rfl rfl av_ ?_
       with_reducible refine (spec_l00In.calls a0_4 a0_3 23 true _ A7.out).mono ?_
       rintro e w' ⟨rfl, ⟨nd, rfl⟩⟩
       refine ⟨_, rfl, ?_⟩
       refine hK.out _ _ hHeld (fun hHeld => ?_)
       clear hK K; refine norm_ (a' := ?_) ?_ ?_; rotate_left
       ·show Act.put _ (some 27) _ = _
        go_simp
        rfl
       refine pu_ HT_ 24 28 spec_l15Ok.K25 ?_; refine pu_ HT_ 25 29 spec_l15Ok.K26 ?_; refine pu_ HT_ 26 30 spec_l15Ok.K27 ?_; refine pu_ HT_ 27 31 spec_l15Ok.K28 ?_; refine pu_ HT_ 28 32 spec_l15Ok.K29 ?_; refine pu_ HT_ 29 33 spec_l15Ok.K30 ?_; refine pu_ HT_ 31 35 spec_l15Ok.K31 ?_; refine pu_ HT_ 32 36 spec_l15Ok.K32 ?_; refine pu_ HT_ 33 37 spec_l15Ok.K33 ?_; refine pu_ HT_ 35 39 spec_l15Ok.K34 ?_; refine pu_ HT_ 36 40 spec_l15Ok.K35 ?_; refine pu_ HT_ 37 41 spec_l15Ok.K36 ?_; refine tk_ HT_ HW_ hHeld 30 34 spec_l15Ok.K37 ?_; refine tk_ HT_ HW_ hHeld 34 38 spec_l15Ok.K38 ?_; refine tk_ HT_ HW_ hHeld 38 42 spec_l15Ok.K39 ?_
       refine one_ (i := 39) (N := some 43) spec_l15Ok.K40 rfl rfl (one_of HT_.out (by kernel_rfl)) (by decide) (fun K hK => ?_)
       refine goes_ Try.func58 (by kernel_rfl) rfl #[.int .i64 a0_1, .int .i64 a0_3, .int .i64 a0_4] (by rfl) rfl rfl av_ ?_
       with_reducible refine (spec_l00In.calls a0_1 a0_3 a0_4 true _ A9.out).mono ?_
       rintro e w' ⟨rfl, ⟨nd, rfl⟩⟩
       refine ⟨_, rfl, ?_⟩
       refine hK.out _ _ hHeld (fun hHeld => ?_)
       clear hK K; refine norm_ (a' := ?_) ?_ ?_; rotate_left
       ·show Act.put _ (some 43) _ = _
        go_simp
        rfl
       refine pu_ HT_ 40 44 spec_l15Ok.K41 ?_; refine pu_ HT_ 41 45 spec_l15Ok.K42 ?_; refine pu_ HT_ 42 46 spec_l15Ok.K43 ?_; refine pu_ HT_ 43 47 spec_l15Ok.K44 ?_; refine pu_ HT_ 44 48 spec_l15Ok.K45 ?_; refine pu_ HT_ 45 49 spec_l15Ok.K46 ?_; refine pu_ HT_ 47 51 spec_l15Ok.K47 ?_; refine pu_ HT_ 48 52 spec_l15Ok.K48 ?_; refine pu_ HT_ 49 53 spec_l15Ok.K49 ?_; refine pu_ HT_ 51 55 spec_l15Ok.K50 ?_; refine pu_ HT_ 52 56 spec_l15Ok.K51 ?_; refine pu_ HT_ 53 57 spec_l15Ok.K52 ?_; refine tk_ HT_ HW_ hHeld 46 50 spec_l15Ok.K53 ?_; refine tk_ HT_ HW_ hHeld 50 54 spec_l15Ok.K54 ?_; refine tk_ HT_ HW_ hHeld 54 58 spec_l15Ok.K55 ?_
       refine one_ (i := 55) (N := some 59) spec_l15Ok.K56 rfl rfl (one_of HT_.out (by kernel_rfl)) (by decide) (fun K hK => ?_)
       refine goes_ Try.func58 (by kernel_rfl) rfl #[.int .i64 a0_2, .int .i64 a0_3, .int .i64 a0_4] (by rfl) rfl rfl av_ ?_
       with_reducible refine (spec_l00In.calls a0_2 a0_3 a0_4 false _ A11.out).mono ?_
       rintro e w' ⟨rfl, ⟨nd, rfl⟩⟩
       refine ⟨_, rfl, ?_⟩
       refine hK.out _ _ hHeld (fun hHeld => ?_)
       clear hK K; refine norm_ (a' := ?_) ?_ ?_; rotate_left
       ·show Act.put _ (some 59) _ = _
        go_simp
        rfl
       refine pu_ HT_ 56 60 spec_l15Ok.K57 ?_; refine pu_ HT_ 57 61 spec_l15Ok.K58 ?_; refine pu_ HT_ 58 62 spec_l15Ok.K59 ?_; refine un_ HT_ 59 63 spec_l15Ok.K60 ?_; refine un_ HT_ 60 64 spec_l15Ok.K61 ?_; refine un_ HT_ 61 65 spec_l15Ok.K62 ?_; refine un_ HT_ 62 66 spec_l15Ok.K63 ?_; refine un_ HT_ 63 67 spec_l15Ok.K64 ?_; refine un_ HT_ 64 68 spec_l15Ok.K65 ?_; refine pu_ HT_ 65 69 spec_l15Ok.K66 ?_
       refine done_ (done_of HT_.out (by kernel_rfl)) ?_
       try go_wp2
       go_meet
       case rel => exact ⟨_, (true), sv_, H', ⟨by first | omega | exact Nat.le_refl _⟩, ⟨by exact blk_below HBP0.out (bb_ HB.out)⟩, ⟨bb_ HB.out⟩⟩
     ·replace c10 := Bool.eq_false_iff.mpr c10
      subst c10
      have H1 : (spec_l15Ok.j0 k true a0_0 a0_1 a0_2 a0_3 a0_4 l0_5 a0_6) = some r := by rw [if_neg (show ¬ (false = true) by decide)] at H; exact H
      clear H; have H := H1; clear H1
      have H' := Aside0.mk H
      clear H
      try go_wp2
      have n0_ := Aside0.mk (below_drew1 HB.out)
      clear HB; have HB := n0_; clear n0_
      refine start_ (n := 66) (S := fun w' => w'.cell? ⟨g0, 0, none⟩ = some (.int .i64 a0_0) ∧ w'.cell? ⟨g0, 1, none⟩ = some (.int .i64 a0_1) ∧ w'.cell? ⟨g0, 2, none⟩ = some (.int .i64 a0_2) ∧ w'.cell? ⟨g0, 3, none⟩ = some (.int .i64 a0_3) ∧ w'.cell? ⟨g0, 4, none⟩ = some (.int .i64 a0_4) ∧ w'.cell? ⟨g0, 5, none⟩ = some (.slice A0_5 l0_5.length c0_5) ∧ w'.cell? ⟨g0, 6, none⟩ = some (.int .i64 a0_6)) (ds := []) spec_l15Ok.K0 (by kernel_rfl) rfl rfl ⟨(blk_cell HBX0.out 0).trans rfl, (blk_cell HBX0.out 1).trans rfl, (blk_cell HBX0.out 2).trans rfl, (blk_cell HBX0.out 3).trans rfl, (blk_cell HBX0.out 4).trans rfl, (blk_cell HBX0.out 5).trans rfl, (blk_cell HBX0.out 6).trans rfl⟩ (fun hHeld => ?_); refine with_tabW spec_l15Ok.tab1 spec_l15Ok.bits1 (fun HT_ HW_ => ?_)
      generalize w.drew = w16 at HBX0 HB hHeld ⊢
      refine pu_ HT_ 0 4 spec_l15Ok.K1 ?_; refine pu_ HT_ 1 5 spec_l15Ok.K2 ?_; refine pu_ HT_ 2 6 spec_l15Ok.K3 ?_; refine tk_ HT_ HW_ hHeld 3 7 spec_l15Ok.K4 ?_
      refine one_ (i := 4) (N := some 8) spec_l15Ok.K5 rfl rfl (one_of HT_.out (by kernel_rfl)) (by decide) (fun K hK => ?_)
      refine goes_ Try.func58 (by kernel_rfl) rfl #[.int .i64 a0_0, .int .i64 1, .int .i64 16] (by rfl) rfl rfl av_ ?_
      with_reducible refine (spec_l00In.calls a0_0 1 16 true _ A3.out).mono ?_
      rintro e w' ⟨rfl, ⟨nd, rfl⟩⟩
      refine ⟨_, rfl, ?_⟩
      refine hK.out _ _ hHeld (fun hHeld => ?_)
      clear hK K; refine norm_ (a' := ?_) ?_ ?_; rotate_left
      ·show Act.put _ (some 8) _ = _
       go_simp
       rfl
      refine pu_ HT_ 5 9 spec_l15Ok.K6 ?_; refine pu_ HT_ 6 10 spec_l15Ok.K7 ?_; refine pu_ HT_ 7 11 spec_l15Ok.K8 ?_; refine pu_ HT_ 8 12 spec_l15Ok.K9 ?_; refine pu_ HT_ 9 13 spec_l15Ok.K10 ?_; refine tk_ HT_ HW_ hHeld 10 14 spec_l15Ok.K11 ?_
      refine one_ (i := 11) (N := some 15) spec_l15Ok.K12 rfl rfl (one_of HT_.out (by kernel_rfl)) (by decide) (fun K hK => ?_)
      refine goes_ Try.func86 (by kernel_rfl) rfl #[.int .i64 a0_3] (by rfl) rfl rfl av_ ?_
      with_reducible refine (spec_l03Pitch.calls a0_3 true _ A5.out).mono ?_
      rintro e w' ⟨rfl, ⟨nd, rfl⟩⟩
      refine ⟨_, rfl, ?_⟩
      refine hK.out _ _ hHeld (fun hHeld => ?_)
      clear hK K; refine norm_ (a' := ?_) ?_ ?_; rotate_left
      ·show Act.put _ (some 15) _ = _
       go_simp
       rfl
      refine pu_ HT_ 12 16 spec_l15Ok.K13 ?_; refine pu_ HT_ 13 17 spec_l15Ok.K14 ?_; refine pu_ HT_ 14 18 spec_l15Ok.K15 ?_; refine pu_ HT_ 15 19 spec_l15Ok.K16 ?_; refine pu_ HT_ 16 20 spec_l15Ok.K17 ?_; refine pu_ HT_ 17 21 spec_l15Ok.K18 ?_; refine pu_ HT_ 19 23 spec_l15Ok.K19 ?_; refine pu_ HT_ 20 24 spec_l15Ok.K20 ?_; refine pu_ HT_ 21 25 spec_l15Ok.K21 ?_; refine tk_ HT_ HW_ hHeld 18 22 spec_l15Ok.K22 ?_; refine tk_ HT_ HW_ hHeld 22 26 spec_l15Ok.K23 ?_
      refine one_ (i := 23) (N := some 27) spec_l15Ok.K24 rfl rfl (one_of HT_.out (by kernel_rfl)) (by decide) (fun K hK => ?_)
      refine goes_ Try.func58 (by kernel_rfl) rfl #[.int .i64 a0_4, .int .i64 a0_3, .int .i64 23] (by rfl) rfl rfl av_ ?_
      with_reducible refine (spec_l00In.calls a0_4 a0_3 23 true _ A7.out).mono ?_
      rintro e w' ⟨rfl, ⟨nd, rfl⟩⟩
      refine ⟨_, rfl, ?_⟩
      refine hK.out _ _ hHeld (fun hHeld => ?_)
      clear hK K; refine norm_ (a' := ?_) ?_ ?_; rotate_left
      ·show Act.put _ (some 27) _ = _
       go_simp
       rfl
      refine pu_ HT_ 24 28 spec_l15Ok.K25 ?_; refine pu_ HT_ 25 29 spec_l15Ok.K26 ?_; refine pu_ HT_ 26 30 spec_l15Ok.K27 ?_; refine pu_ HT_ 27 31 spec_l15Ok.K28 ?_; refine pu_ HT_ 28 32 spec_l15Ok.K29 ?_; refine pu_ HT_ 29 33 spec_l15Ok.K30 ?_; refine pu_ HT_ 31 35 spec_l15Ok.K31 ?_; refine pu_ HT_ 32 36 spec_l15Ok.K32 ?_; refine pu_ HT_ 33 37 spec_l15Ok.K33 ?_; refine pu_ HT_ 35 39 spec_l15Ok.K34 ?_; refine pu_ HT_ 36 40 spec_l15Ok.K35 ?_; refine pu_ HT_ 37 41 spec_l15Ok.K36 ?_; refine tk_ HT_ HW_ hHeld 30 34 spec_l15Ok.K37 ?_; refine tk_ HT_ HW_ hHeld 34 38 spec_l15Ok.K38 ?_; refine tk_ HT_ HW_ hHeld 38 42 spec_l15Ok.K39 ?_
      refine one_ (i := 39) (N := some 43) spec_l15Ok.K40 rfl rfl (one_of HT_.out (by kernel_rfl)) (by decide) (fun K hK => ?_)
      refine goes_ Try.func58 (by kernel_rfl) rfl #[.int .i64 a0_1, .int .i64 a0_3, .int .i64 a0_4] (by rfl) rfl rfl av_ ?_
      with_reducible refine (spec_l00In.calls a0_1 a0_3 a0_4 false _ A9.out).mono ?_
      rintro e w' ⟨rfl, ⟨nd, rfl⟩⟩
      refine ⟨_, rfl, ?_⟩
      refine hK.out _ _ hHeld (fun hHeld => ?_)
      clear hK K; refine norm_ (a' := ?_) ?_ ?_; rotate_left
      ·show Act.put _ (some 43) _ = _
       go_simp
       rfl
      refine pu_ HT_ 40 44 spec_l15Ok.K41 ?_; refine pu_ HT_ 41 45 spec_l15Ok.K42 ?_; refine pu_ HT_ 42 46 spec_l15Ok.K43 ?_; refine un_ HT_ 43 47 spec_l15Ok.K44 ?_; refine un_ HT_ 44 48 spec_l15Ok.K45 ?_; refine un_ HT_ 45 49 spec_l15Ok.K46 ?_; refine un_ HT_ 46 50 spec_l15Ok.K67 ?_; refine un_ HT_ 47 51 spec_l15Ok.K68 ?_; refine un_ HT_ 48 52 spec_l15Ok.K69 ?_; refine un_ HT_ 49 53 spec_l15Ok.K70 ?_; refine un_ HT_ 50 54 spec_l15Ok.K71 ?_; refine un_ HT_ 51 55 spec_l15Ok.K72 ?_; refine un_ HT_ 52 56 spec_l15Ok.K73 ?_; refine un_ HT_ 53 57 spec_l15Ok.K54 ?_; refine un_ HT_ 54 58 spec_l15Ok.K55 ?_; refine un_ HT_ 55 59 spec_l15Ok.K56 ?_; refine un_ HT_ 56 60 spec_l15Ok.K57 ?_; refine pu_ HT_ 57 61 spec_l15Ok.K58 ?_; refine pu_ HT_ 58 62 spec_l15Ok.K59 ?_; refine un_ HT_ 59 63 spec_l15Ok.K60 ?_; refine un_ HT_ 60 64 spec_l15Ok.K61 ?_; refine un_ HT_ 61 65 spec_l15Ok.K62 ?_; refine un_ HT_ 62 66 spec_l15Ok.K63 ?_; refine un_ HT_ 63 67 spec_l15Ok.K64 ?_; refine un_ HT_ 64 68 spec_l15Ok.K65 ?_; refine pu_ HT_ 65 69 spec_l15Ok.K66 ?_
      refine done_ (done_of HT_.out (by kernel_rfl)) ?_
      try go_wp2
      go_meet
      case rel => exact ⟨_, (true), sv_, H', ⟨by first | omega | exact Nat.le_refl _⟩, ⟨by exact blk_below HBP0.out (bb_ HB.out)⟩, ⟨bb_ HB.out⟩⟩
    ·replace c8 := Bool.eq_false_iff.mpr c8
     subst c8
     have H1 : (spec_l15Ok.j0 k true a0_0 a0_1 a0_2 a0_3 a0_4 l0_5 a0_6) = some r := by rw [if_neg (show ¬ (false = true) by decide)] at H; exact H
     clear H; have H := H1; clear H1
     have H' := Aside0.mk H
     clear H
     try go_wp2
     have n0_ := Aside0.mk (below_drew1 HB.out)
     clear HB; have HB := n0_; clear n0_
     refine start_ (n := 66) (S := fun w' => w'.cell? ⟨g0, 0, none⟩ = some (.int .i64 a0_0) ∧ w'.cell? ⟨g0, 1, none⟩ = some (.int .i64 a0_1) ∧ w'.cell? ⟨g0, 2, none⟩ = some (.int .i64 a0_2) ∧ w'.cell? ⟨g0, 3, none⟩ = some (.int .i64 a0_3) ∧ w'.cell? ⟨g0, 4, none⟩ = some (.int .i64 a0_4) ∧ w'.cell? ⟨g0, 5, none⟩ = some (.slice A0_5 l0_5.length c0_5) ∧ w'.cell? ⟨g0, 6, none⟩ = some (.int .i64 a0_6)) (ds := []) spec_l15Ok.K0 (by kernel_rfl) rfl rfl ⟨(blk_cell HBX0.out 0).trans rfl, (blk_cell HBX0.out 1).trans rfl, (blk_cell HBX0.out 2).trans rfl, (blk_cell HBX0.out 3).trans rfl, (blk_cell HBX0.out 4).trans rfl, (blk_cell HBX0.out 5).trans rfl, (blk_cell HBX0.out 6).trans rfl⟩ (fun hHeld => ?_); refine with_tabW spec_l15Ok.tab1 spec_l15Ok.bits1 (fun HT_ HW_ => ?_)
     generalize w.drew = w17 at HBX0 HB hHeld ⊢
     refine pu_ HT_ 0 4 spec_l15Ok.K1 ?_; refine pu_ HT_ 1 5 spec_l15Ok.K2 ?_; refine pu_ HT_ 2 6 spec_l15Ok.K3 ?_; refine tk_ HT_ HW_ hHeld 3 7 spec_l15Ok.K4 ?_
     refine one_ (i := 4) (N := some 8) spec_l15Ok.K5 rfl rfl (one_of HT_.out (by kernel_rfl)) (by decide) (fun K hK => ?_)
     refine goes_ Try.func58 (by kernel_rfl) rfl #[.int .i64 a0_0, .int .i64 1, .int .i64 16] (by rfl) rfl rfl av_ ?_
     with_reducible refine (spec_l00In.calls a0_0 1 16 true _ A3.out).mono ?_
     rintro e w' ⟨rfl, ⟨nd, rfl⟩⟩
     refine ⟨_, rfl, ?_⟩
     refine hK.out _ _ hHeld (fun hHeld => ?_)
     clear hK K; refine norm_ (a' := ?_) ?_ ?_; rotate_left
     ·show Act.put _ (some 8) _ = _
      go_simp
      rfl
     refine pu_ HT_ 5 9 spec_l15Ok.K6 ?_; refine pu_ HT_ 6 10 spec_l15Ok.K7 ?_; refine pu_ HT_ 7 11 spec_l15Ok.K8 ?_; refine pu_ HT_ 8 12 spec_l15Ok.K9 ?_; refine pu_ HT_ 9 13 spec_l15Ok.K10 ?_; refine tk_ HT_ HW_ hHeld 10 14 spec_l15Ok.K11 ?_
     refine one_ (i := 11) (N := some 15) spec_l15Ok.K12 rfl rfl (one_of HT_.out (by kernel_rfl)) (by decide) (fun K hK => ?_)
     refine goes_ Try.func86 (by kernel_rfl) rfl #[.int .i64 a0_3] (by rfl) rfl rfl av_ ?_
     with_reducible refine (spec_l03Pitch.calls a0_3 true _ A5.out).mono ?_
     rintro e w' ⟨rfl, ⟨nd, rfl⟩⟩
     refine ⟨_, rfl, ?_⟩
     refine hK.out _ _ hHeld (fun hHeld => ?_)
     clear hK K; refine norm_ (a' := ?_) ?_ ?_; rotate_left
     ·show Act.put _ (some 15) _ = _
      go_simp
      rfl
     refine pu_ HT_ 12 16 spec_l15Ok.K13 ?_; refine pu_ HT_ 13 17 spec_l15Ok.K14 ?_; refine pu_ HT_ 14 18 spec_l15Ok.K15 ?_; refine pu_ HT_ 15 19 spec_l15Ok.K16 ?_; refine pu_ HT_ 16 20 spec_l15Ok.K17 ?_; refine pu_ HT_ 17 21 spec_l15Ok.K18 ?_; refine pu_ HT_ 19 23 spec_l15Ok.K19 ?_; refine pu_ HT_ 20 24 spec_l15Ok.K20 ?_; refine pu_ HT_ 21 25 spec_l15Ok.K21 ?_; refine tk_ HT_ HW_ hHeld 18 22 spec_l15Ok.K22 ?_; refine tk_ HT_ HW_ hHeld 22 26 spec_l15Ok.K23 ?_
     refine one_ (i := 23) (N := some 27) spec_l15Ok.K24 rfl rfl (one_of HT_.out (by kernel_rfl)) (by decide) (fun K hK => ?_)
     refine goes_ Try.func58 (by kernel_rfl) rfl #[.int .i64 a0_4, .int .i64 a0_3, .int .i64 23] (by rfl) rfl rfl av_ ?_
     with_reducible refine (spec_l00In.calls a0_4 a0_3 23 false _ A7.out).mono ?_
     rintro e w' ⟨rfl, ⟨nd, rfl⟩⟩
     refine ⟨_, rfl, ?_⟩
     refine hK.out _ _ hHeld (fun hHeld => ?_)
     clear hK K; refine norm_ (a' := ?_) ?_ ?_; rotate_left
     ·show Act.put _ (some 27) _ = _
      go_simp
      rfl
     refine pu_ HT_ 24 28 spec_l15Ok.K25 ?_; refine pu_ HT_ 25 29 spec_l15Ok.K26 ?_; refine pu_ HT_ 26 30 spec_l15Ok.K27 ?_; refine un_ HT_ 27 31 spec_l15Ok.K28 ?_; refine un_ HT_ 28 32 spec_l15Ok.K29 ?_; refine un_ HT_ 29 33 spec_l15Ok.K30 ?_; refine un_ HT_ 30 34 spec_l15Ok.K74 ?_; refine un_ HT_ 31 35 spec_l15Ok.K75 ?_; refine un_ HT_ 32 36 spec_l15Ok.K76 ?_; refine un_ HT_ 33 37 spec_l15Ok.K77 ?_; refine un_ HT_ 34 38 spec_l15Ok.K78 ?_; refine un_ HT_ 35 39 spec_l15Ok.K79 ?_; refine un_ HT_ 36 40 spec_l15Ok.K80 ?_; refine un_ HT_ 37 41 spec_l15Ok.K38 ?_; refine un_ HT_ 38 42 spec_l15Ok.K39 ?_; refine un_ HT_ 39 43 spec_l15Ok.K40 ?_; refine un_ HT_ 40 44 spec_l15Ok.K41 ?_; refine pu_ HT_ 41 45 spec_l15Ok.K42 ?_; refine pu_ HT_ 42 46 spec_l15Ok.K43 ?_; refine un_ HT_ 43 47 spec_l15Ok.K44 ?_; refine un_ HT_ 44 48 spec_l15Ok.K45 ?_; refine un_ HT_ 45 49 spec_l15Ok.K46 ?_; refine un_ HT_ 46 50 spec_l15Ok.K67 ?_; refine un_ HT_ 47 51 spec_l15Ok.K68 ?_; refine un_ HT_ 48 52 spec_l15Ok.K69 ?_; refine un_ HT_ 49 53 spec_l15Ok.K70 ?_; refine un_ HT_ 50 54 spec_l15Ok.K71 ?_; refine un_ HT_ 51 55 spec_l15Ok.K72 ?_; refine un_ HT_ 52 56 spec_l15Ok.K73 ?_; refine un_ HT_ 53 57 spec_l15Ok.K54 ?_; refine un_ HT_ 54 58 spec_l15Ok.K55 ?_; refine un_ HT_ 55 59 spec_l15Ok.K56 ?_; refine un_ HT_ 56 60 spec_l15Ok.K57 ?_; refine pu_ HT_ 57 61 spec_l15Ok.K58 ?_; refine pu_ HT_ 58 62 spec_l15Ok.K59 ?_; refine un_ HT_ 59 63 spec_l15Ok.K60 ?_; refine un_ HT_ 60 64 spec_l15Ok.K61 ?_; refine un_ HT_ 61 65 spec_l15Ok.K62 ?_; refine un_ HT_ 62 66 spec_l15Ok.K63 ?_; refine un_ HT_ 63 67 spec_l15Ok.K64 ?_; refine un_ HT_ 64 68 spec_l15Ok.K65 ?_; refine pu_ HT_ 65 69 spec_l15Ok.K66 ?_
     refine done_ (done_of HT_.out (by kernel_rfl)) ?_
     try go_wp2
     go_meet
     case rel => exact ⟨_, (true), sv_, H', ⟨by first | omega | exact Nat.le_refl _⟩, ⟨by exact blk_below HBP0.out (bb_ HB.out)⟩, ⟨bb_ HB.out⟩⟩
   ·replace c6 := Bool.eq_false_iff.mpr c6
    subst c6
    have H1 : (spec_l15Ok.j0 k true a0_0 a0_1 a0_2 a0_3 a0_4 l0_5 a0_6) = some r := by rw [if_neg (show ¬ (false = true) by decide)] at H; exact H
    clear H; have H := H1; clear H1
    have H' := Aside0.mk H
    clear H
    try go_wp2
    have n0_ := Aside0.mk (below_drew1 HB.out)
    clear HB; have HB := n0_; clear n0_
    refine start_ (n := 66) (S := fun w' => w'.cell? ⟨g0, 0, none⟩ = some (.int .i64 a0_0) ∧ w'.cell? ⟨g0, 1, none⟩ = some (.int .i64 a0_1) ∧ w'.cell? ⟨g0, 2, none⟩ = some (.int .i64 a0_2) ∧ w'.cell? ⟨g0, 3, none⟩ = some (.int .i64 a0_3) ∧ w'.cell? ⟨g0, 4, none⟩ = some (.int .i64 a0_4) ∧ w'.cell? ⟨g0, 5, none⟩ = some (.slice A0_5 l0_5.length c0_5) ∧ w'.cell? ⟨g0, 6, none⟩ = some (.int .i64 a0_6)) (ds := []) spec_l15Ok.K0 (by kernel_rfl) rfl rfl ⟨(blk_cell HBX0.out 0).trans rfl, (blk_cell HBX0.out 1).trans rfl, (blk_cell HBX0.out 2).trans rfl, (blk_cell HBX0.out 3).trans rfl, (blk_cell HBX0.out 4).trans rfl, (blk_cell HBX0.out 5).trans rfl, (blk_cell HBX0.out 6).trans rfl⟩ (fun hHeld => ?_); refine with_tabW spec_l15Ok.tab1 spec_l15Ok.bits1 (fun HT_ HW_ => ?_)
    generalize w.drew = w18 at HBX0 HB hHeld ⊢
    refine pu_ HT_ 0 4 spec_l15Ok.K1 ?_; refine pu_ HT_ 1 5 spec_l15Ok.K2 ?_; refine pu_ HT_ 2 6 spec_l15Ok.K3 ?_; refine tk_ HT_ HW_ hHeld 3 7 spec_l15Ok.K4 ?_
    refine one_ (i := 4) (N := some 8) spec_l15Ok.K5 rfl rfl (one_of HT_.out (by kernel_rfl)) (by decide) (fun K hK => ?_)
    refine goes_ Try.func58 (by kernel_rfl) rfl #[.int .i64 a0_0, .int .i64 1, .int .i64 16] (by rfl) rfl rfl av_ ?_
    with_reducible refine (spec_l00In.calls a0_0 1 16 true _ A3.out).mono ?_
    rintro e w' ⟨rfl, ⟨nd, rfl⟩⟩
    refine ⟨_, rfl, ?_⟩
    refine hK.out _ _ hHeld (fun hHeld => ?_)
    clear hK K; refine norm_ (a' := ?_) ?_ ?_; rotate_left
    ·show Act.put _ (some 8) _ = _
     go_simp
     rfl
    refine pu_ HT_ 5 9 spec_l15Ok.K6 ?_; refine pu_ HT_ 6 10 spec_l15Ok.K7 ?_; refine pu_ HT_ 7 11 spec_l15Ok.K8 ?_; refine pu_ HT_ 8 12 spec_l15Ok.K9 ?_; refine pu_ HT_ 9 13 spec_l15Ok.K10 ?_; refine tk_ HT_ HW_ hHeld 10 14 spec_l15Ok.K11 ?_
    refine one_ (i := 11) (N := some 15) spec_l15Ok.K12 rfl rfl (one_of HT_.out (by kernel_rfl)) (by decide) (fun K hK => ?_)
    refine goes_ Try.func86 (by kernel_rfl) rfl #[.int .i64 a0_3] (by rfl) rfl rfl av_ ?_
    with_reducible refine (spec_l03Pitch.calls a0_3 false _ A5.out).mono ?_
    rintro e w' ⟨rfl, ⟨nd, rfl⟩⟩
    refine ⟨_, rfl, ?_⟩
    refine hK.out _ _ hHeld (fun hHeld => ?_)
    clear hK K; refine norm_ (a' := ?_) ?_ ?_; rotate_left
    ·show Act.put _ (some 15) _ = _
     go_simp
     rfl
    refine pu_ HT_ 12 16 spec_l15Ok.K13 ?_; refine pu_ HT_ 13 17 spec_l15Ok.K14 ?_; refine pu_ HT_ 14 18 spec_l15Ok.K15 ?_; refine un_ HT_ 15 19 spec_l15Ok.K16 ?_; refine un_ HT_ 16 20 spec_l15Ok.K17 ?_; refine un_ HT_ 17 21 spec_l15Ok.K18 ?_; refine un_ HT_ 18 22 spec_l15Ok.K81 ?_; refine un_ HT_ 19 23 spec_l15Ok.K82 ?_; refine un_ HT_ 20 24 spec_l15Ok.K83 ?_; refine un_ HT_ 21 25 spec_l15Ok.K22 ?_; refine un_ HT_ 22 26 spec_l15Ok.K23 ?_; refine un_ HT_ 23 27 spec_l15Ok.K24 ?_; refine un_ HT_ 24 28 spec_l15Ok.K25 ?_; refine pu_ HT_ 25 29 spec_l15Ok.K26 ?_; refine pu_ HT_ 26 30 spec_l15Ok.K27 ?_; refine un_ HT_ 27 31 spec_l15Ok.K28 ?_; refine un_ HT_ 28 32 spec_l15Ok.K29 ?_; refine un_ HT_ 29 33 spec_l15Ok.K30 ?_; refine un_ HT_ 30 34 spec_l15Ok.K74 ?_; refine un_ HT_ 31 35 spec_l15Ok.K75 ?_; refine un_ HT_ 32 36 spec_l15Ok.K76 ?_; refine un_ HT_ 33 37 spec_l15Ok.K77 ?_; refine un_ HT_ 34 38 spec_l15Ok.K78 ?_; refine un_ HT_ 35 39 spec_l15Ok.K79 ?_; refine un_ HT_ 36 40 spec_l15Ok.K80 ?_; refine un_ HT_ 37 41 spec_l15Ok.K38 ?_; refine un_ HT_ 38 42 spec_l15Ok.K39 ?_; refine un_ HT_ 39 43 spec_l15Ok.K40 ?_; refine un_ HT_ 40 44 spec_l15Ok.K41 ?_; refine pu_ HT_ 41 45 spec_l15Ok.K42 ?_; refine pu_ HT_ 42 46 spec_l15Ok.K43 ?_; refine un_ HT_ 43 47 spec_l15Ok.K44 ?_; refine un_ HT_ 44 48 spec_l15Ok.K45 ?_; refine un_ HT_ 45 49 spec_l15Ok.K46 ?_; refine un_ HT_ 46 50 spec_l15Ok.K67 ?_; refine un_ HT_ 47 51 spec_l15Ok.K68 ?_; refine un_ HT_ 48 52 spec_l15Ok.K69 ?_; refine un_ HT_ 49 53 spec_l15Ok.K70 ?_; refine un_ HT_ 50 54 spec_l15Ok.K71 ?_; refine un_ HT_ 51 55 spec_l15Ok.K72 ?_; refine un_ HT_ 52 56 spec_l15Ok.K73 ?_; refine un_ HT_ 53 57 spec_l15Ok.K54 ?_; refine un_ HT_ 54 58 spec_l15Ok.K55 ?_; refine un_ HT_ 55 59 spec_l15Ok.K56 ?_; refine un_ HT_ 56 60 spec_l15Ok.K57 ?_; refine pu_ HT_ 57 61 spec_l15Ok.K58 ?_; refine pu_ HT_ 58 62 spec_l15Ok.K59 ?_; refine un_ HT_ 59 63 spec_l15Ok.K60 ?_; refine un_ HT_ 60 64 spec_l15Ok.K61 ?_; refine un_ HT_ 61 65 spec_l15Ok.K62 ?_; refine un_ HT_ 62 66 spec_l15Ok.K63 ?_; refine un_ HT_ 63 67 spec_l15Ok.K64 ?_; refine un_ HT_ 64 68 spec_l15Ok.K65 ?_; refine pu_ HT_ 65 69 spec_l15Ok.K66 ?_
    refine done_ (done_of HT_.out (by kernel_rfl)) ?_
    try go_wp2
    go_meet
    case rel => exact ⟨_, (true), sv_, H', ⟨by first | omega | exact Nat.le_refl _⟩, ⟨by exact blk_below HBP0.out (bb_ HB.out)⟩, ⟨bb_ HB.out⟩⟩
  ·replace c4 := Bool.eq_false_iff.mpr c4
   subst c4
   have H1 : (spec_l15Ok.j0 k true a0_0 a0_1 a0_2 a0_3 a0_4 l0_5 a0_6) = some r := by rw [if_neg (show ¬ (false = true) by decide)] at H; exact H
   clear H
   have H := H1
   clear H1
   have H' := Aside0.mk H
   clear H
   try go_wp2
   have n0_ := Aside0.mk (below_drew1 HB.out)
   clear HB
   have HB := n0_
   clear n0_
   refine start_ (n := 66) (S := fun w' => w'.cell? ⟨g0, 0, none⟩ = some (.int .i64 a0_0) ∧ w'.cell? ⟨g0, 1, none⟩ = some (.int .i64 a0_1) ∧ w'.cell? ⟨g0, 2, none⟩ = some (.int .i64 a0_2) ∧ w'.cell? ⟨g0, 3, none⟩ = some (.int .i64 a0_3) ∧ w'.cell? ⟨g0, 4, none⟩ = some (.int .i64 a0_4) ∧ w'.cell? ⟨g0, 5, none⟩ = some (.slice A0_5 l0_5.length c0_5) ∧ w'.cell? ⟨g0, 6, none⟩ = some (.int .i64 a0_6)) (ds := []) spec_l15Ok.K0 (by kernel_rfl) rfl rfl ⟨(blk_cell HBX0.out 0).trans rfl, (blk_cell HBX0.out 1).trans rfl, (blk_cell HBX0.out 2).trans rfl, (blk_cell HBX0.out 3).trans rfl, (blk_cell HBX0.out 4).trans rfl, (blk_cell HBX0.out 5).trans rfl, (blk_cell HBX0.out 6).trans rfl⟩ (fun hHeld => ?_); refine with_tabW spec_l15Ok.tab1 spec_l15Ok.bits1 (fun HT_ HW_ => ?_)
   generalize w.drew = w19 at HBX0 HB hHeld ⊢
   refine pu_ HT_ 0 4 spec_l15Ok.K1 ?_; refine pu_ HT_ 1 5 spec_l15Ok.K2 ?_; refine pu_ HT_ 2 6 spec_l15Ok.K3 ?_; refine tk_ HT_ HW_ hHeld 3 7 spec_l15Ok.K4 ?_
   refine one_ (i := 4) (N := some 8) spec_l15Ok.K5 rfl rfl (one_of HT_.out (by kernel_rfl)) (by decide) (fun K hK => ?_)
   refine goes_ Try.func58 (by kernel_rfl) rfl #[.int .i64 a0_0, .int .i64 1, .int .i64 16] (by rfl) rfl rfl av_ ?_
   with_reducible refine (spec_l00In.calls a0_0 1 16 false _ A3.out).mono ?_
   rintro e w' ⟨rfl, ⟨nd, rfl⟩⟩
   refine ⟨_, rfl, ?_⟩
   refine hK.out _ _ hHeld (fun hHeld => ?_)
   clear hK K
   refine norm_ (a' := ?_) ?_ ?_
   rotate_left
   ·show Act.put _ (some 8) _ = _
    go_simp
    rfl
   refine pu_ HT_ 5 9 spec_l15Ok.K6 ?_; refine pu_ HT_ 6 10 spec_l15Ok.K7 ?_; refine un_ HT_ 7 11 spec_l15Ok.K8 ?_; refine un_ HT_ 8 12 spec_l15Ok.K9 ?_; refine un_ HT_ 9 13 spec_l15Ok.K10 ?_; refine un_ HT_ 10 14 spec_l15Ok.K11 ?_; refine un_ HT_ 11 15 spec_l15Ok.K12 ?_; refine un_ HT_ 12 16 spec_l15Ok.K13 ?_; refine pu_ HT_ 13 17 spec_l15Ok.K14 ?_; refine pu_ HT_ 14 18 spec_l15Ok.K15 ?_; refine un_ HT_ 15 19 spec_l15Ok.K16 ?_; refine un_ HT_ 16 20 spec_l15Ok.K17 ?_; refine un_ HT_ 17 21 spec_l15Ok.K18 ?_; refine un_ HT_ 18 22 spec_l15Ok.K81 ?_; refine un_ HT_ 19 23 spec_l15Ok.K82 ?_; refine un_ HT_ 20 24 spec_l15Ok.K83 ?_; refine un_ HT_ 21 25 spec_l15Ok.K22 ?_; refine un_ HT_ 22 26 spec_l15Ok.K23 ?_; refine un_ HT_ 23 27 spec_l15Ok.K24 ?_; refine un_ HT_ 24 28 spec_l15Ok.K25 ?_; refine pu_ HT_ 25 29 spec_l15Ok.K26 ?_; refine pu_ HT_ 26 30 spec_l15Ok.K27 ?_; refine un_ HT_ 27 31 spec_l15Ok.K28 ?_; refine un_ HT_ 28 32 spec_l15Ok.K29 ?_; refine un_ HT_ 29 33 spec_l15Ok.K30 ?_; refine un_ HT_ 30 34 spec_l15Ok.K74 ?_; refine un_ HT_ 31 35 spec_l15Ok.K75 ?_; refine un_ HT_ 32 36 spec_l15Ok.K76 ?_; refine un_ HT_ 33 37 spec_l15Ok.K77 ?_; refine un_ HT_ 34 38 spec_l15Ok.K78 ?_; refine un_ HT_ 35 39 spec_l15Ok.K79 ?_; refine un_ HT_ 36 40 spec_l15Ok.K80 ?_; refine un_ HT_ 37 41 spec_l15Ok.K38 ?_; refine un_ HT_ 38 42 spec_l15Ok.K39 ?_; refine un_ HT_ 39 43 spec_l15Ok.K40 ?_; refine un_ HT_ 40 44 spec_l15Ok.K41 ?_; refine pu_ HT_ 41 45 spec_l15Ok.K42 ?_; refine pu_ HT_ 42 46 spec_l15Ok.K43 ?_; refine un_ HT_ 43 47 spec_l15Ok.K44 ?_; refine un_ HT_ 44 48 spec_l15Ok.K45 ?_; refine un_ HT_ 45 49 spec_l15Ok.K46 ?_; refine un_ HT_ 46 50 spec_l15Ok.K67 ?_; refine un_ HT_ 47 51 spec_l15Ok.K68 ?_; refine un_ HT_ 48 52 spec_l15Ok.K69 ?_; refine un_ HT_ 49 53 spec_l15Ok.K70 ?_; refine un_ HT_ 50 54 spec_l15Ok.K71 ?_; refine un_ HT_ 51 55 spec_l15Ok.K72 ?_; refine un_ HT_ 52 56 spec_l15Ok.K73 ?_; refine un_ HT_ 53 57 spec_l15Ok.K54 ?_; refine un_ HT_ 54 58 spec_l15Ok.K55 ?_; refine un_ HT_ 55 59 spec_l15Ok.K56 ?_; refine un_ HT_ 56 60 spec_l15Ok.K57 ?_; refine pu_ HT_ 57 61 spec_l15Ok.K58 ?_; refine pu_ HT_ 58 62 spec_l15Ok.K59 ?_; refine un_ HT_ 59 63 spec_l15Ok.K60 ?_; refine un_ HT_ 60 64 spec_l15Ok.K61 ?_; refine un_ HT_ 61 65 spec_l15Ok.K62 ?_; refine un_ HT_ 62 66 spec_l15Ok.K63 ?_; refine un_ HT_ 63 67 spec_l15Ok.K64 ?_; refine un_ HT_ 64 68 spec_l15Ok.K65 ?_; refine pu_ HT_ 65 69 spec_l15Ok.K66 ?_
   refine done_ (done_of HT_.out (by kernel_rfl)) ?_
   try go_wp2
   go_meet
   case rel => exact ⟨_, (true), sv_, H', ⟨by first | omega | exact Nat.le_refl _⟩, ⟨by exact blk_below HBP0.out (bb_ HB.out)⟩, ⟨bb_ HB.out⟩⟩
 case rest =>
  clear HC2
  (try clear p2); (try clear c4); (try clear c5)
  obtain ⟨kq, x69_1, rfl, HA, HJ1, HBX0, HB⟩ := hcut
  cases kq with
  | zero => exact absurd HA.out (by simp [spec_l15Ok.j0])
  | succ kj1 =>
   have H := HA.out
   clear HA
   simp only [spec_l15Ok.j0] at H
   by_cases c20 : x69_1 = true
   ·subst c20
    have H1 : (some false) = some r := by rw [if_pos rfl] at H; exact H
    clear H; have H := H1; clear H1
    obtain rfl := Option.some.inj H
    go_wp2
    go_ret
    exact ⟨by first | rfl | (simp [errW_none, errW_some] <;> rfl) | (simp [*, errW_none, errW_some] <;> rfl), bb_ HB.out⟩
   ·replace c20 := Bool.eq_false_iff.mpr c20
    subst c20
    have H1 : (spec_l15Ok.l0 kj1 0 a0_0 a0_1 a0_2 a0_3 a0_4 l0_5 a0_6) = some r := by rw [if_neg (show ¬ (false = true) by decide)] at H; exact H
    clear H; have H := H1; clear H1
    have H' := Aside0.mk H
    clear H
    go_wp2
    go_loopg [3] kj1 (fun kq v3 w' => ∃ (x3_2 : Int), v3 = .int .i64 x3_2 ∧ Aside0 (spec_l15Ok.l0 kq x3_2 a0_0 a0_1 a0_2 a0_3 a0_4 l0_5 a0_6 = some r) ∧ Aside0 (kq ≤ kj1) ∧ Aside0 (w'.heap[g0]? = some (.cells #[.int .i64 a0_0, .int .i64 a0_1, .int .i64 a0_2, .int .i64 a0_3, .int .i64 a0_4, (.slice A0_5 l0_5.length c0_5), .int .i64 a0_6] 62 (0, 0))) ∧ Aside0 (Below w.heap.size w w'))
    case atStart => exact ⟨(0), sv_, H', ⟨Nat.le_refl _⟩, ⟨by exact blk_below HBP0.out (bb_ HB.out)⟩, ⟨bb_ HB.out⟩⟩
    case round =>
     clear H'
     (try clear c2); (try clear p2); (try clear c4); (try clear c5); (try clear c20); (try clear p2); obtain ⟨x3_2, rfl, HA, HK2, HBX0, HB⟩ := hrel
     cases gk with
     | zero => exact absurd HA.out (by simp [spec_l15Ok.l0])
     | succ k2 =>
      have H := HA.out; clear HA
      simp only [spec_l15Ok.l0] at H
      by_cases c21 : x3_2 < (l0_5.length : Int)
      ·rw [if_pos c21] at H
       have c21b0 : decide (x3_2 < (l0_5.length : Int)) = true := decide_eq_true c21
       clear c21
       by_cases c22 : 0 ≤ x3_2
       ·rw [if_pos c22] at H
        have c22b0 : decide (0 ≤ x3_2) = true := decide_eq_true c22
        clear c22
        replace H := Option.bind_eq_some_iff.mp H
        obtain ⟨t528, A230, H⟩ := H
        replace H : (if t528 = true then ((spec_l05Pitches.f k2 (rd_L1 l0_5 x3_2)).bind fun t530 => (if t530 = true then (spec_l15Ok.l0 k2 (wrap64 (x3_2 + 1)) a0_0 a0_1 a0_2 a0_3 a0_4 l0_5 a0_6) else (some false))) else (some false)) = some r := H
        have A23 := Aside0.mk A230; clear A230
        by_cases c24 : t528 = true
        ·subst c24
         have H1 : ((spec_l05Pitches.f k2 (rd_L1 l0_5 x3_2)).bind fun t530 => (if t530 = true then (spec_l15Ok.l0 k2 (wrap64 (x3_2 + 1)) a0_0 a0_1 a0_2 a0_3 a0_4 l0_5 a0_6) else (some false))) = some r := by rw [if_pos rfl] at H; exact H
         clear H; have H := H1; clear H1
         replace H := Option.bind_eq_some_iff.mp H
         obtain ⟨t530, A250, H⟩ := H
         replace H : (if t530 = true then (spec_l15Ok.l0 k2 (wrap64 (x3_2 + 1)) a0_0 a0_1 a0_2 a0_3 a0_4 l0_5 a0_6) else (some false)) = some r := H
         have A25 := Aside0.mk A250; clear A250
         by_cases c26 : t530 = true
         ·subst c26
          have H1 : (spec_l15Ok.l0 k2 (wrap64 (x3_2 + 1)) a0_0 a0_1 a0_2 a0_3 a0_4 l0_5 a0_6) = some r := by rw [if_pos rfl] at H; exact H
          clear H; have H := H1; clear H1
          have H' := Aside0.mk H
          clear H
          have hcz27_0 : w.cell? ⟨g0, 0, none⟩ = some (.int .i64 a0_0) := (blk_cell HBP0.out 0).trans rfl
          have hcz27_1 : w.cell? ⟨g0, 1, none⟩ = some (.int .i64 a0_1) := (blk_cell HBP0.out 1).trans rfl
          have hcz27_2 : w.cell? ⟨g0, 2, none⟩ = some (.int .i64 a0_2) := (blk_cell HBP0.out 2).trans rfl
          have hcz27_3 : w.cell? ⟨g0, 3, none⟩ = some (.int .i64 a0_3) := (blk_cell HBP0.out 3).trans rfl
          have hcz27_4 : w.cell? ⟨g0, 4, none⟩ = some (.int .i64 a0_4) := (blk_cell HBP0.out 4).trans rfl
          have hcz27_5 : w.cell? ⟨g0, 5, none⟩ = some (.slice A0_5 l0_5.length c0_5) := (blk_cell HBP0.out 5).trans rfl
          have hcz27_6 : w.cell? ⟨g0, 6, none⟩ = some (.int .i64 a0_6) := (blk_cell HBP0.out 6).trans rfl
          replace hcz27_0 := (wc_ HB.out hcz27_0 :)
          replace hcz27_1 := (wc_ HB.out hcz27_1 :)
          replace hcz27_2 := (wc_ HB.out hcz27_2 :)
          replace hcz27_3 := (wc_ HB.out hcz27_3 :)
          replace hcz27_4 := (wc_ HB.out hcz27_4 :)
          replace hcz27_5 := (wc_ HB.out hcz27_5 :)
          replace hcz27_6 := (wc_ HB.out hcz27_6 :)
          have p527 : 0 ≤ (x3_2 : Int) := da_
          have q527 : x3_2 < (l0_5.length : Int) := da_
          obtain ⟨ad527, A527_0, c527_0, e527, hx527_0, hl527_0, hi527_0⟩ := at_L1 HR0_5.out x3_2 p527 q527; cases e527
          replace hx527_0 := (wc_ HB.out hx527_0 :)
          have HR527_0 := Aside0.mk hi527_0; have HC527_0 := Aside0.mk hl527_0; clear hi527_0 hl527_0; replace p527 := eq_true p527; replace q527 := eq_true q527
          go_wp2_with (first | ((with_reducible refine gate_callee (f := 58) rfl ?_); refine goesL_ (some 87) rfl rfl Try.func58 (by kernel_rfl) rfl #[.int .i64 ((rd_L1 l0_5 x3_2).length : Int), .int .i64 1, .int .i64 8] rfl av_ ?_; (with_reducible refine (spec_l00In.calls ((rd_L1 l0_5 x3_2).length : Int) 1 8 true _ A23.out).mono ?_); rintro e w' ⟨rfl, ⟨nd, rfl⟩⟩; refine ⟨_, rfl, ?_⟩; have p529 : 0 ≤ (x3_2 : Int) := da_; have q529 : x3_2 < (l0_5.length : Int) := da_; obtain ⟨ad529, A529_0, c529_0, e529, hx529_0, hl529_0, hi529_0⟩ := at_L1 HR0_5.out x3_2 p529 q529; obtain rfl : ad527 = ad529 := (by injection e529); replace hx529_0 := (wc_ HB.out hx529_0 :); have HR529_0 := Aside0.mk hi529_0; have HC529_0 := Aside0.mk hl529_0; clear hi529_0 hl529_0; replace p529 := eq_true p529; replace q529 := eq_true q529; have ea_ := Option.some.inj (hx527_0.symm.trans hx529_0); injection ea_ with ea_ en_ ec_; subst ea_; subst ec_; clear en_) | (go_at_call 75; (with_reducible refine (spec_l05Pitches.calls k2 _ _ (rd_L1 l0_5 x3_2) true _ ?side1 ?side2 A25.out).mono ?_); (case side1 => repeat (first | exact (Kd.C_below HR529_0.out (bb_ HB.out)) | (with_reducible refine Kd.C_alloc ?_ _) | (with_reducible refine Kd.C_drewN ?_ _) | (with_reducible refine Kd.C_drew ?_))); (case side2 => exact HC529_0.out); rintro e w' ⟨rfl, ⟨nd, rfl⟩⟩))
          go_roundg k2
          case measure => have := HJ1.out; have := HK2.out; omega
          case rel => exact ⟨(wrap64 (x3_2 + 1)), sv_, H', ⟨by have := HJ1.out; have := HK2.out; omega⟩, ⟨by exact blk_below HBP0.out (bb_ HB.out)⟩, ⟨bb_ HB.out⟩⟩
         ·replace c26 := Bool.eq_false_iff.mpr c26
          subst c26
          have H1 : (some false) = some r := by rw [if_neg (show ¬ (false = true) by decide)] at H; exact H
          clear H; have H := H1; clear H1
          obtain rfl := Option.some.inj H
          have hcz28_0 : w.cell? ⟨g0, 0, none⟩ = some (.int .i64 a0_0) := (blk_cell HBP0.out 0).trans rfl
          have hcz28_1 : w.cell? ⟨g0, 1, none⟩ = some (.int .i64 a0_1) := (blk_cell HBP0.out 1).trans rfl
          have hcz28_2 : w.cell? ⟨g0, 2, none⟩ = some (.int .i64 a0_2) := (blk_cell HBP0.out 2).trans rfl
          have hcz28_3 : w.cell? ⟨g0, 3, none⟩ = some (.int .i64 a0_3) := (blk_cell HBP0.out 3).trans rfl
          have hcz28_4 : w.cell? ⟨g0, 4, none⟩ = some (.int .i64 a0_4) := (blk_cell HBP0.out 4).trans rfl
          have hcz28_5 : w.cell? ⟨g0, 5, none⟩ = some (.slice A0_5 l0_5.length c0_5) := (blk_cell HBP0.out 5).trans rfl
          have hcz28_6 : w.cell? ⟨g0, 6, none⟩ = some (.int .i64 a0_6) := (blk_cell HBP0.out 6).trans rfl
          replace hcz28_0 := (wc_ HB.out hcz28_0 :)
          replace hcz28_1 := (wc_ HB.out hcz28_1 :)
          replace hcz28_2 := (wc_ HB.out hcz28_2 :)
          replace hcz28_3 := (wc_ HB.out hcz28_3 :)
          replace hcz28_4 := (wc_ HB.out hcz28_4 :)
          replace hcz28_5 := (wc_ HB.out hcz28_5 :)
          replace hcz28_6 := (wc_ HB.out hcz28_6 :)
          have p527 : 0 ≤ (x3_2 : Int) := da_
          have q527 : x3_2 < (l0_5.length : Int) := da_
          obtain ⟨ad527, A527_0, c527_0, e527, hx527_0, hl527_0, hi527_0⟩ := at_L1 HR0_5.out x3_2 p527 q527; cases e527
          replace hx527_0 := (wc_ HB.out hx527_0 :)
          have HR527_0 := Aside0.mk hi527_0; have HC527_0 := Aside0.mk hl527_0; clear hi527_0 hl527_0; replace p527 := eq_true p527; replace q527 := eq_true q527
          go_wp2_with (first | ((with_reducible refine gate_callee (f := 58) rfl ?_); refine goesL_ (some 87) rfl rfl Try.func58 (by kernel_rfl) rfl #[.int .i64 ((rd_L1 l0_5 x3_2).length : Int), .int .i64 1, .int .i64 8] rfl av_ ?_; (with_reducible refine (spec_l00In.calls ((rd_L1 l0_5 x3_2).length : Int) 1 8 true _ A23.out).mono ?_); rintro e w' ⟨rfl, ⟨nd, rfl⟩⟩; refine ⟨_, rfl, ?_⟩; have p529 : 0 ≤ (x3_2 : Int) := da_; have q529 : x3_2 < (l0_5.length : Int) := da_; obtain ⟨ad529, A529_0, c529_0, e529, hx529_0, hl529_0, hi529_0⟩ := at_L1 HR0_5.out x3_2 p529 q529; obtain rfl : ad527 = ad529 := (by injection e529); replace hx529_0 := (wc_ HB.out hx529_0 :); have HR529_0 := Aside0.mk hi529_0; have HC529_0 := Aside0.mk hl529_0; clear hi529_0 hl529_0; replace p529 := eq_true p529; replace q529 := eq_true q529; have ea_ := Option.some.inj (hx527_0.symm.trans hx529_0); injection ea_ with ea_ en_ ec_; subst ea_; subst ec_; clear en_) | (go_at_call 75; (with_reducible refine (spec_l05Pitches.calls k2 _ _ (rd_L1 l0_5 x3_2) false _ ?side1 ?side2 A25.out).mono ?_); (case side1 => repeat (first | exact (Kd.C_below HR529_0.out (bb_ HB.out)) | (with_reducible refine Kd.C_alloc ?_ _) | (with_reducible refine Kd.C_drewN ?_ _) | (with_reducible refine Kd.C_drew ?_))); (case side2 => exact HC529_0.out); rintro e w' ⟨rfl, ⟨nd, rfl⟩⟩))
          go_ret
          exact ⟨by first | rfl | (simp [errW_none, errW_some] <;> rfl) | (simp [*, errW_none, errW_some] <;> rfl), bb_ HB.out⟩
        ·replace c24 := Bool.eq_false_iff.mpr c24
         subst c24
         have H1 : (some false) = some r := by rw [if_neg (show ¬ (false = true) by decide)] at H; exact H
         clear H; have H := H1; clear H1
         obtain rfl := Option.some.inj H
         have hcz29_0 : w.cell? ⟨g0, 0, none⟩ = some (.int .i64 a0_0) := (blk_cell HBP0.out 0).trans rfl
         have hcz29_1 : w.cell? ⟨g0, 1, none⟩ = some (.int .i64 a0_1) := (blk_cell HBP0.out 1).trans rfl
         have hcz29_2 : w.cell? ⟨g0, 2, none⟩ = some (.int .i64 a0_2) := (blk_cell HBP0.out 2).trans rfl
         have hcz29_3 : w.cell? ⟨g0, 3, none⟩ = some (.int .i64 a0_3) := (blk_cell HBP0.out 3).trans rfl
         have hcz29_4 : w.cell? ⟨g0, 4, none⟩ = some (.int .i64 a0_4) := (blk_cell HBP0.out 4).trans rfl
         have hcz29_5 : w.cell? ⟨g0, 5, none⟩ = some (.slice A0_5 l0_5.length c0_5) := (blk_cell HBP0.out 5).trans rfl
         have hcz29_6 : w.cell? ⟨g0, 6, none⟩ = some (.int .i64 a0_6) := (blk_cell HBP0.out 6).trans rfl
         replace hcz29_0 := (wc_ HB.out hcz29_0 :)
         replace hcz29_1 := (wc_ HB.out hcz29_1 :)
         replace hcz29_2 := (wc_ HB.out hcz29_2 :)
         replace hcz29_3 := (wc_ HB.out hcz29_3 :)
         replace hcz29_4 := (wc_ HB.out hcz29_4 :)
         replace hcz29_5 := (wc_ HB.out hcz29_5 :)
         replace hcz29_6 := (wc_ HB.out hcz29_6 :)
         have p527 : 0 ≤ (x3_2 : Int) := da_
         have q527 : x3_2 < (l0_5.length : Int) := da_
         obtain ⟨ad527, A527_0, c527_0, e527, hx527_0, hl527_0, hi527_0⟩ := at_L1 HR0_5.out x3_2 p527 q527; cases e527
         replace hx527_0 := (wc_ HB.out hx527_0 :)
         have HR527_0 := Aside0.mk hi527_0; have HC527_0 := Aside0.mk hl527_0; clear hi527_0 hl527_0; replace p527 := eq_true p527; replace q527 := eq_true q527
         go_wp2_with (first | ((with_reducible refine gate_callee (f := 58) rfl ?_); refine goesL_ (some 87) rfl rfl Try.func58 (by kernel_rfl) rfl #[.int .i64 ((rd_L1 l0_5 x3_2).length : Int), .int .i64 1, .int .i64 8] rfl av_ ?_; (with_reducible refine (spec_l00In.calls ((rd_L1 l0_5 x3_2).length : Int) 1 8 false _ A23.out).mono ?_); rintro e w' ⟨rfl, ⟨nd, rfl⟩⟩; refine ⟨_, rfl, ?_⟩))
         go_ret
         exact ⟨by first | rfl | (simp [errW_none, errW_some] <;> rfl) | (simp [*, errW_none, errW_some] <;> rfl), bb_ HB.out⟩
       ·rw [if_neg c22] at H
        exact absurd H (by simp)
      ·rw [if_neg c21] at H
       have c21b0 : decide (x3_2 < (l0_5.length : Int)) = false := decide_eq_false c21
       clear c21
       obtain rfl := Option.some.inj H
       have hcz30_0 : w.cell? ⟨g0, 0, none⟩ = some (.int .i64 a0_0) := (blk_cell HBP0.out 0).trans rfl
       have hcz30_1 : w.cell? ⟨g0, 1, none⟩ = some (.int .i64 a0_1) := (blk_cell HBP0.out 1).trans rfl
       have hcz30_2 : w.cell? ⟨g0, 2, none⟩ = some (.int .i64 a0_2) := (blk_cell HBP0.out 2).trans rfl
       have hcz30_3 : w.cell? ⟨g0, 3, none⟩ = some (.int .i64 a0_3) := (blk_cell HBP0.out 3).trans rfl
       have hcz30_4 : w.cell? ⟨g0, 4, none⟩ = some (.int .i64 a0_4) := (blk_cell HBP0.out 4).trans rfl
       have hcz30_5 : w.cell? ⟨g0, 5, none⟩ = some (.slice A0_5 l0_5.length c0_5) := (blk_cell HBP0.out 5).trans rfl
       have hcz30_6 : w.cell? ⟨g0, 6, none⟩ = some (.int .i64 a0_6) := (blk_cell HBP0.out 6).trans rfl
       replace hcz30_0 := (wc_ HB.out hcz30_0 :)
       replace hcz30_1 := (wc_ HB.out hcz30_1 :)
       replace hcz30_2 := (wc_ HB.out hcz30_2 :)
       replace hcz30_3 := (wc_ HB.out hcz30_3 :)
       replace hcz30_4 := (wc_ HB.out hcz30_4 :)
       replace hcz30_5 := (wc_ HB.out hcz30_5 :)
       replace hcz30_6 := (wc_ HB.out hcz30_6 :)
       go_wp2
       go_ret
       exact ⟨by first | rfl | (simp [errW_none, errW_some] <;> rfl) | (simp [*, errW_none, errW_some] <;> rfl), bb_ HB.out⟩
/-! ### spec_Satisfies: function 42 -/
def spec_Satisfies.f (k : Nat) (a0_0 : ByteArray) (l0_1 : List Int) (l0_2 : List Int) (a0_3 : Int) (a0_4 : Int) (l0_5 : List (List Int)) (a1_0 : Int) (a1_1 : Int) (a1_2 : Int) (a1_3 : Int) (a1_4 : Int) (l1_5 : List (List Int)) (a1_6 : Int) (l2 : List Int) : Option (Bool) := (spec_l05Ok.f k a0_0 l0_1 l0_2 a0_3 a0_4 l0_5).bind fun t559 => (if t559 = true then ((spec_l15Ok.f k a1_0 a1_1 a1_2 a1_3 a1_4 l1_5 a1_6).bind fun t560 => (if t560 = true then ((spec_l05Pitches.f k l2).bind fun t561 => (if t561 = true then ((spec_l15Is.f k a0_0 l0_1 l0_2 a0_3 a0_4 l0_5 a1_0 a1_1 a1_2 a1_3 a1_4 l1_5 a1_6 l2).bind fun t562 => (some t562)) else (some false))) else (some false))) else (some false))
set_option maxHeartbeats 8000000 in
set_option maxRecDepth 100000 in
theorem spec_Satisfies.calls (k : Nat) (a0_0 : ByteArray) (A0_1 : Option Addr) (c0_1 : Nat) (l0_1 : List Int) (A0_2 : Option Addr) (c0_2 : Nat) (l0_2 : List Int) (a0_3 : Int) (a0_4 : Int) (A0_5 : Option Addr) (c0_5 : Nat) (l0_5 : List (List Int)) (a1_0 : Int) (a1_1 : Int) (a1_2 : Int) (a1_3 : Int) (a1_4 : Int) (A1_5 : Option Addr) (c1_5 : Nat) (l1_5 : List (List Int)) (a1_6 : Int) (A2 : Option Addr) (c2 : Nat) (l2 : List Int) (r : Bool) (w : World) (hr0_1 : Kd.C (Kd.int .i64) w A0_1 l0_1.length l0_1) (hc0_1 : l0_1.length ≤ c0_1) (hr0_2 : Kd.C (Kd.int .i64) w A0_2 l0_2.length l0_2) (hc0_2 : l0_2.length ≤ c0_2) (hr0_5 : Kd.C (Kd.slice 2 (Kd.int .i64)) w A0_5 l0_5.length l0_5) (hc0_5 : l0_5.length ≤ c0_5) (hr1_5 : Kd.C (Kd.slice 2 (Kd.int .i64)) w A1_5 l1_5.length l1_5) (hc1_5 : l1_5.length ≤ c1_5) (hr2 : Kd.C (Kd.int .i64) w A2 l2.length l2) (hc2 : l2.length ≤ c2) (h : spec_Satisfies.f k a0_0 l0_1 l0_2 a0_3 a0_4 l0_5 a1_0 a1_1 a1_2 a1_3 a1_4 l1_5 a1_6 l2 = some r) :
  Calls Try.prog 42 #[.agg #[.string a0_0, .slice A0_1 l0_1.length c0_1, .slice A0_2 l0_2.length c0_2, .int .i64 a0_3, .int .i64 a0_4, .slice A0_5 l0_5.length c0_5], .agg #[.int .i64 a1_0, .int .i64 a1_1, .int .i64 a1_2, .int .i64 a1_3, .int .i64 a1_4, .slice A1_5 l1_5.length c1_5, .int .i64 a1_6], .slice A2 l2.length c2] w fun e w' => e = .returned (.bool r) ∧ Below w.heap.size w w' := by
 have hu29 := Try.underlying29
 have hu62 := Try.underlying62
 have HR0_1 := Aside0.mk hr0_1
 have HC0_1 := Aside0.mk hc0_1
 clear hr0_1 hc0_1
 have HR0_2 := Aside0.mk hr0_2
 have HC0_2 := Aside0.mk hc0_2
 clear hr0_2 hc0_2
 have HR0_5 := Aside0.mk hr0_5
 have HC0_5 := Aside0.mk hc0_5
 clear hr0_5 hc0_5
 have HR1_5 := Aside0.mk hr1_5
 have HC1_5 := Aside0.mk hc1_5
 clear hr1_5 hc1_5
 have HR2 := Aside0.mk hr2
 have HC2 := Aside0.mk hc2
 clear hr2 hc2
 have HB := Aside0.mk (Below.refl w.heap.size w)
 have H : ((spec_l05Ok.f k a0_0 l0_1 l0_2 a0_3 a0_4 l0_5).bind fun t559 => (if t559 = true then ((spec_l15Ok.f k a1_0 a1_1 a1_2 a1_3 a1_4 l1_5 a1_6).bind fun t560 => (if t560 = true then ((spec_l05Pitches.f k l2).bind fun t561 => (if t561 = true then ((spec_l15Is.f k a0_0 l0_1 l0_2 a0_3 a0_4 l0_5 a1_0 a1_1 a1_2 a1_3 a1_4 l1_5 a1_6 l2).bind fun t562 => (some t562)) else (some false))) else (some false))) else (some false))) = some r := h
 clear h
 replace H := Option.bind_eq_some_iff.mp H
 obtain ⟨t559, A40, H⟩ := H
 replace H : (if t559 = true then ((spec_l15Ok.f k a1_0 a1_1 a1_2 a1_3 a1_4 l1_5 a1_6).bind fun t560 => (if t560 = true then ((spec_l05Pitches.f k l2).bind fun t561 => (if t561 = true then ((spec_l15Is.f k a0_0 l0_1 l0_2 a0_3 a0_4 l0_5 a1_0 a1_1 a1_2 a1_3 a1_4 l1_5 a1_6 l2).bind fun t562 => (some t562)) else (some false))) else (some false))) else (some false)) = some r := H
 have A4 := Aside0.mk A40
 clear A40
 by_cases c5 : t559 = true
 ·subst c5
  have H1 : ((spec_l15Ok.f k a1_0 a1_1 a1_2 a1_3 a1_4 l1_5 a1_6).bind fun t560 => (if t560 = true then ((spec_l05Pitches.f k l2).bind fun t561 => (if t561 = true then ((spec_l15Is.f k a0_0 l0_1 l0_2 a0_3 a0_4 l0_5 a1_0 a1_1 a1_2 a1_3 a1_4 l1_5 a1_6 l2).bind fun t562 => (some t562)) else (some false))) else (some false))) = some r := by rw [if_pos rfl] at H; exact H
  clear H
  have H := H1
  clear H1
  replace H := Option.bind_eq_some_iff.mp H
  obtain ⟨t560, A60, H⟩ := H
  replace H : (if t560 = true then ((spec_l05Pitches.f k l2).bind fun t561 => (if t561 = true then ((spec_l15Is.f k a0_0 l0_1 l0_2 a0_3 a0_4 l0_5 a1_0 a1_1 a1_2 a1_3 a1_4 l1_5 a1_6 l2).bind fun t562 => (some t562)) else (some false))) else (some false)) = some r := H
  have A6 := Aside0.mk A60
  clear A60
  by_cases c7 : t560 = true
  ·subst c7
   have H1 : ((spec_l05Pitches.f k l2).bind fun t561 => (if t561 = true then ((spec_l15Is.f k a0_0 l0_1 l0_2 a0_3 a0_4 l0_5 a1_0 a1_1 a1_2 a1_3 a1_4 l1_5 a1_6 l2).bind fun t562 => (some t562)) else (some false))) = some r := by rw [if_pos rfl] at H; exact H
   clear H
   have H := H1
   clear H1
   replace H := Option.bind_eq_some_iff.mp H
   obtain ⟨t561, A80, H⟩ := H
   replace H : (if t561 = true then ((spec_l15Is.f k a0_0 l0_1 l0_2 a0_3 a0_4 l0_5 a1_0 a1_1 a1_2 a1_3 a1_4 l1_5 a1_6 l2).bind fun t562 => (some t562)) else (some false)) = some r := H
   have A8 := Aside0.mk A80
   clear A80
   by_cases c9 : t561 = true
   ·subst c9
    have H1 : ((spec_l15Is.f k a0_0 l0_1 l0_2 a0_3 a0_4 l0_5 a1_0 a1_1 a1_2 a1_3 a1_4 l1_5 a1_6 l2).bind fun t562 => (some t562)) = some r := by rw [if_pos rfl] at H; exact H
    clear H
    have H := H1
    clear H1
    replace H := Option.bind_eq_some_iff.mp H
    obtain ⟨t562, A100, H⟩ := H
    replace H : (some t562) = some r := H
    have A10 := Aside0.mk A100
    clear A100
    obtain rfl := Option.some.inj H
    go_enter Try.func42, Try.ntmps42
    go_wp2_with (first | ((with_reducible refine gate_dst (N := 3) rfl ?_); refine box_event ?hg (N := 3) ?hd (cs := #[.string a0_0, .slice A0_1 l0_1.length c0_1, .slice A0_2 l0_2.length c0_2, .int .i64 a0_3, .int .i64 a0_4, .slice A0_5 l0_5.length c0_5]) (t := 29) ?hr ?_; (case hd => rfl); (case hg => rfl); (case hr => first | (go_simp; done) | (go_simp; rfl)); intro gb557 hg w11 hbox hb; have n0_ := Aside0.mk (below_step (ba_ HB.out) hb); have n1_ := Aside0.mk (hbox); have n2_ := Aside0.mk ((by rw [hg]; exact (below_size (ba_ HB.out)) : w.heap.size ≤ gb557)); have n3_ := Aside0.mk ((by rw [hg]; exact (below_size (ba_ HB.out)) : w.heap.size ≤ gb557)); clear HB; have HB := n0_; have BK557 := n1_; have GW557 := n2_; have GE557 := n3_; clear n0_ n1_ n2_ n3_; clear hb hbox hg) | ((with_reducible refine gate_dst (N := 4) rfl ?_); refine box_event ?hg (N := 4) ?hd (cs := #[.int .i64 a1_0, .int .i64 a1_1, .int .i64 a1_2, .int .i64 a1_3, .int .i64 a1_4, .slice A1_5 l1_5.length c1_5, .int .i64 a1_6]) (t := 62) ?hr ?_; (case hd => rfl); (case hg => rfl); (case hr => first | (go_simp; done) | (go_simp; rfl)); intro gb558 hg w12 hbox hb; have n0_ := Aside0.mk (blk_below (g := gb557) (o := .cells #[.string a0_0, .slice A0_1 l0_1.length c0_1, .slice A0_2 l0_2.length c0_2, .int .i64 a0_3, .int .i64 a0_4, .slice A0_5 l0_5.length c0_5] 29 (0, 0)) (by repeat first | exact BK557.out | refine blk_drewN ?_ _ | refine blk_drew ?_ | refine blk_alloc ?_ _) hb); have n1_ := Aside0.mk (below_step (bg_ HB.out GE557.out) hb); have n2_ := Aside0.mk (hbox); have n3_ := Aside0.mk ((by rw [hg]; exact (below_size (bg_ HB.out GE557.out)) : w.heap.size ≤ gb558)); have n4_ := Aside0.mk ((by rw [hg]; exact (below_size (bg_ HB.out GE557.out)) : w.heap.size ≤ gb558)); have n5_ := Aside0.mk ((by rw [hg]; exact Nat.ne_of_lt (blk_lt (g := gb557) (o := .cells #[.string a0_0, .slice A0_1 l0_1.length c0_1, .slice A0_2 l0_2.length c0_2, .int .i64 a0_3, .int .i64 a0_4, .slice A0_5 l0_5.length c0_5] 29 (0, 0)) (by repeat first | exact BK557.out | refine blk_drewN ?_ _ | refine blk_drew ?_ | refine blk_alloc ?_ _)) : gb557 ≠ gb558)); have n6_ := Aside0.mk ((by rw [hg]; exact Nat.ne_of_gt (blk_lt (g := gb557) (o := .cells #[.string a0_0, .slice A0_1 l0_1.length c0_1, .slice A0_2 l0_2.length c0_2, .int .i64 a0_3, .int .i64 a0_4, .slice A0_5 l0_5.length c0_5] 29 (0, 0)) (by repeat first | exact BK557.out | refine blk_drewN ?_ _ | refine blk_drew ?_ | refine blk_alloc ?_ _)) : gb558 ≠ gb557)); clear BK557; clear HB; have BK557 := n0_; have HB := n1_; have BK558 := n2_; have GW558 := n3_; have GE558 := n4_; have NB557_558 := n5_; have NB558_557 := n6_; clear n0_ n1_ n2_ n3_ n4_ n5_ n6_; clear hb hbox hg) | ((with_reducible refine gate_callee (f := 84) rfl ?_); refine goesL_ (some 7) rfl rfl Try.func84 (by kernel_rfl) rfl #[.pointer (some ⟨gb557, 0, none⟩)] rfl av_ ?_; (with_reducible refine (spec_l05Ok.calls k gb557 a0_0 A0_1 c0_1 l0_1 A0_2 c0_2 l0_2 a0_3 a0_4 A0_5 c0_5 l0_5 true _ ?side1 ?side2 ?side3 ?side4 ?side5 ?side6 ?side7 A4.out).mono ?_); (case side1 => exact bk_ BK557.out); (case side2 => exact (Kd.C_below HR0_1.out HB.out)); (case side3 => exact HC0_1.out); (case side4 => exact (Kd.C_below HR0_2.out HB.out)); (case side5 => exact HC0_2.out); (case side6 => exact (Kd.C_below HR0_5.out HB.out)); (case side7 => exact HC0_5.out); rintro e w' ⟨rfl, ⟨nd, rfl⟩⟩; refine ⟨_, rfl, ?_⟩) | (go_at_call 94; (with_reducible refine (spec_l15Ok.calls k gb558 a1_0 a1_1 a1_2 a1_3 a1_4 A1_5 c1_5 l1_5 a1_6 true _ ?side1 ?side2 ?side3 A6.out).mono ?_); (case side1 => exact bk_ BK558.out); (case side2 => repeat (first | exact (Kd.C_below HR1_5.out (bh_ HB.out GE557.out GE558.out)) | (with_reducible refine Kd.C_alloc ?_ _) | (with_reducible refine Kd.C_drewN ?_ _) | (with_reducible refine Kd.C_drew ?_))); (case side3 => exact HC1_5.out); rintro e w13 ⟨rfl, hb⟩; have n0_ := Aside0.mk (blk_below (g := gb557) (o := .cells #[.string a0_0, .slice A0_1 l0_1.length c0_1, .slice A0_2 l0_2.length c0_2, .int .i64 a0_3, .int .i64 a0_4, .slice A0_5 l0_5.length c0_5] 29 (0, 0)) (by repeat first | exact BK557.out | refine blk_drewN ?_ _ | refine blk_drew ?_ | refine blk_alloc ?_ _) hb); have n1_ := Aside0.mk (blk_below (g := gb558) (o := .cells #[.int .i64 a1_0, .int .i64 a1_1, .int .i64 a1_2, .int .i64 a1_3, .int .i64 a1_4, .slice A1_5 l1_5.length c1_5, .int .i64 a1_6] 62 (0, 0)) (by repeat first | exact BK558.out | refine blk_drewN ?_ _ | refine blk_drew ?_ | refine blk_alloc ?_ _) hb); have n2_ := Aside0.mk (below_step (bh_ HB.out GE557.out GE558.out) hb); clear BK557; clear BK558; clear HB; have BK557 := n0_; have BK558 := n1_; have HB := n2_; clear n0_ n1_ n2_; (try clear hb); (try clear hb2); (try clear hk); (try clear hi)) | (go_at_call 75; (with_reducible refine (spec_l05Pitches.calls k _ _ l2 true _ ?side1 ?side2 A8.out).mono ?_); (case side1 => exact (Kd.C_below HR2.out HB.out)); (case side2 => exact HC2.out); rintro e w' ⟨rfl, ⟨nd, rfl⟩⟩) | (go_at_call 95; (with_reducible refine (spec_l15Is.calls k gb557 a0_0 A0_1 c0_1 l0_1 A0_2 c0_2 l0_2 a0_3 a0_4 A0_5 c0_5 l0_5 gb558 a1_0 a1_1 a1_2 a1_3 a1_4 A1_5 c1_5 l1_5 a1_6 _ _ l2 t562 _ ?side1 ?side2 ?side3 ?side4 ?side5 ?side6 ?side7 ?side8 ?side9 ?side10 ?side11 ?side12 A10.out).mono ?_); (case side1 => exact bk_ BK557.out); (case side2 => repeat (first | exact (Kd.C_below HR0_1.out (bh_ HB.out GE557.out GE558.out)) | (with_reducible refine Kd.C_alloc ?_ _) | (with_reducible refine Kd.C_drewN ?_ _) | (with_reducible refine Kd.C_drew ?_))); (case side3 => exact HC0_1.out); (case side4 => repeat (first | exact (Kd.C_below HR0_2.out (bh_ HB.out GE557.out GE558.out)) | (with_reducible refine Kd.C_alloc ?_ _) | (with_reducible refine Kd.C_drewN ?_ _) | (with_reducible refine Kd.C_drew ?_))); (case side5 => exact HC0_2.out); (case side6 => repeat (first | exact (Kd.C_below HR0_5.out (bh_ HB.out GE557.out GE558.out)) | (with_reducible refine Kd.C_alloc ?_ _) | (with_reducible refine Kd.C_drewN ?_ _) | (with_reducible refine Kd.C_drew ?_))); (case side7 => exact HC0_5.out); (case side8 => exact bk_ BK558.out); (case side9 => repeat (first | exact (Kd.C_below HR1_5.out (bh_ HB.out GE557.out GE558.out)) | (with_reducible refine Kd.C_alloc ?_ _) | (with_reducible refine Kd.C_drewN ?_ _) | (with_reducible refine Kd.C_drew ?_))); (case side10 => exact HC1_5.out); (case side11 => repeat (first | exact (Kd.C_below HR2.out (bh_ HB.out GE557.out GE558.out)) | (with_reducible refine Kd.C_alloc ?_ _) | (with_reducible refine Kd.C_drewN ?_ _) | (with_reducible refine Kd.C_drew ?_))); (case side12 => exact HC2.out); rintro e w' ⟨rfl, ⟨nd, rfl⟩⟩))
    go_ret
    exact ⟨by first | rfl | (simp [errW_none, errW_some] <;> rfl) | (simp [*, errW_none, errW_some] <;> rfl), bh_ HB.out GE557.out GE558.out⟩
   ·replace c9 := Bool.eq_false_iff.mpr c9
    subst c9
    have H1 : (some false) = some r := by rw [if_neg (show ¬ (false = true) by decide)] at H; exact H
    clear H
    have H := H1
    clear H1
    obtain rfl := Option.some.inj H
    go_enter Try.func42, Try.ntmps42
    go_wp2_with (first | ((with_reducible refine gate_dst (N := 3) rfl ?_); refine box_event ?hg (N := 3) ?hd (cs := #[.string a0_0, .slice A0_1 l0_1.length c0_1, .slice A0_2 l0_2.length c0_2, .int .i64 a0_3, .int .i64 a0_4, .slice A0_5 l0_5.length c0_5]) (t := 29) ?hr ?_; (case hd => rfl); (case hg => rfl); (case hr => first | (go_simp; done) | (go_simp; rfl)); intro gb557 hg w14 hbox hb; have n0_ := Aside0.mk (below_step (ba_ HB.out) hb); have n1_ := Aside0.mk (hbox); have n2_ := Aside0.mk ((by rw [hg]; exact (below_size (ba_ HB.out)) : w.heap.size ≤ gb557)); have n3_ := Aside0.mk ((by rw [hg]; exact (below_size (ba_ HB.out)) : w.heap.size ≤ gb557)); clear HB; have HB := n0_; have BK557 := n1_; have GW557 := n2_; have GE557 := n3_; clear n0_ n1_ n2_ n3_; clear hb hbox hg) | ((with_reducible refine gate_dst (N := 4) rfl ?_); refine box_event ?hg (N := 4) ?hd (cs := #[.int .i64 a1_0, .int .i64 a1_1, .int .i64 a1_2, .int .i64 a1_3, .int .i64 a1_4, .slice A1_5 l1_5.length c1_5, .int .i64 a1_6]) (t := 62) ?hr ?_; (case hd => rfl); (case hg => rfl); (case hr => first | (go_simp; done) | (go_simp; rfl)); intro gb558 hg w15 hbox hb; have n0_ := Aside0.mk (blk_below (g := gb557) (o := .cells #[.string a0_0, .slice A0_1 l0_1.length c0_1, .slice A0_2 l0_2.length c0_2, .int .i64 a0_3, .int .i64 a0_4, .slice A0_5 l0_5.length c0_5] 29 (0, 0)) (by repeat first | exact BK557.out | refine blk_drewN ?_ _ | refine blk_drew ?_ | refine blk_alloc ?_ _) hb); have n1_ := Aside0.mk (below_step (bg_ HB.out GE557.out) hb); have n2_ := Aside0.mk (hbox); have n3_ := Aside0.mk ((by rw [hg]; exact (below_size (bg_ HB.out GE557.out)) : w.heap.size ≤ gb558)); have n4_ := Aside0.mk ((by rw [hg]; exact (below_size (bg_ HB.out GE557.out)) : w.heap.size ≤ gb558)); have n5_ := Aside0.mk ((by rw [hg]; exact Nat.ne_of_lt (blk_lt (g := gb557) (o := .cells #[.string a0_0, .slice A0_1 l0_1.length c0_1, .slice A0_2 l0_2.length c0_2, .int .i64 a0_3, .int .i64 a0_4, .slice A0_5 l0_5.length c0_5] 29 (0, 0)) (by repeat first | exact BK557.out | refine blk_drewN ?_ _ | refine blk_drew ?_ | refine blk_alloc ?_ _)) : gb557 ≠ gb558)); have n6_ := Aside0.mk ((by rw [hg]; exact Nat.ne_of_gt (blk_lt (g := gb557) (o := .cells #[.string a0_0, .slice A0_1 l0_1.length c0_1, .slice A0_2 l0_2.length c0_2, .int .i64 a0_3, .int .i64 a0_4, .slice A0_5 l0_5.length c0_5] 29 (0, 0)) (by repeat first | exact BK557.out | refine blk_drewN ?_ _ | refine blk_drew ?_ | refine blk_alloc ?_ _)) : gb558 ≠ gb557)); clear BK557; clear HB; have BK557 := n0_; have HB := n1_; have BK558 := n2_; have GW558 := n3_; have GE558 := n4_; have NB557_558 := n5_; have NB558_557 := n6_; clear n0_ n1_ n2_ n3_ n4_ n5_ n6_; clear hb hbox hg) | ((with_reducible refine gate_callee (f := 84) rfl ?_); refine goesL_ (some 7) rfl rfl Try.func84 (by kernel_rfl) rfl #[.pointer (some ⟨gb557, 0, none⟩)] rfl av_ ?_; (with_reducible refine (spec_l05Ok.calls k gb557 a0_0 A0_1 c0_1 l0_1 A0_2 c0_2 l0_2 a0_3 a0_4 A0_5 c0_5 l0_5 true _ ?side1 ?side2 ?side3 ?side4 ?side5 ?side6 ?side7 A4.out).mono ?_); (case side1 => exact bk_ BK557.out); (case side2 => exact (Kd.C_below HR0_1.out HB.out)); (case side3 => exact HC0_1.out); (case side4 => exact (Kd.C_below HR0_2.out HB.out)); (case side5 => exact HC0_2.out); (case side6 => exact (Kd.C_below HR0_5.out HB.out)); (case side7 => exact HC0_5.out); rintro e w' ⟨rfl, ⟨nd, rfl⟩⟩; refine ⟨_, rfl, ?_⟩) | (go_at_call 94; (with_reducible refine (spec_l15Ok.calls k gb558 a1_0 a1_1 a1_2 a1_3 a1_4 A1_5 c1_5 l1_5 a1_6 true _ ?side1 ?side2 ?side3 A6.out).mono ?_); (case side1 => exact bk_ BK558.out); (case side2 => repeat (first | exact (Kd.C_below HR1_5.out (bh_ HB.out GE557.out GE558.out)) | (with_reducible refine Kd.C_alloc ?_ _) | (with_reducible refine Kd.C_drewN ?_ _) | (with_reducible refine Kd.C_drew ?_))); (case side3 => exact HC1_5.out); rintro e w16 ⟨rfl, hb⟩; have n0_ := Aside0.mk (blk_below (g := gb557) (o := .cells #[.string a0_0, .slice A0_1 l0_1.length c0_1, .slice A0_2 l0_2.length c0_2, .int .i64 a0_3, .int .i64 a0_4, .slice A0_5 l0_5.length c0_5] 29 (0, 0)) (by repeat first | exact BK557.out | refine blk_drewN ?_ _ | refine blk_drew ?_ | refine blk_alloc ?_ _) hb); have n1_ := Aside0.mk (blk_below (g := gb558) (o := .cells #[.int .i64 a1_0, .int .i64 a1_1, .int .i64 a1_2, .int .i64 a1_3, .int .i64 a1_4, .slice A1_5 l1_5.length c1_5, .int .i64 a1_6] 62 (0, 0)) (by repeat first | exact BK558.out | refine blk_drewN ?_ _ | refine blk_drew ?_ | refine blk_alloc ?_ _) hb); have n2_ := Aside0.mk (below_step (bh_ HB.out GE557.out GE558.out) hb); clear BK557; clear BK558; clear HB; have BK557 := n0_; have BK558 := n1_; have HB := n2_; clear n0_ n1_ n2_; (try clear hb); (try clear hb2); (try clear hk); (try clear hi)) | (go_at_call 75; (with_reducible refine (spec_l05Pitches.calls k _ _ l2 false _ ?side1 ?side2 A8.out).mono ?_); (case side1 => exact (Kd.C_below HR2.out HB.out)); (case side2 => exact HC2.out); rintro e w' ⟨rfl, ⟨nd, rfl⟩⟩))
    go_ret
    exact ⟨by first | rfl | (simp [errW_none, errW_some] <;> rfl) | (simp [*, errW_none, errW_some] <;> rfl), bh_ HB.out GE557.out GE558.out⟩
  ·replace c7 := Bool.eq_false_iff.mpr c7
   subst c7
   have H1 : (some false) = some r := by rw [if_neg (show ¬ (false = true) by decide)] at H; exact H
   clear H
   have H := H1
   clear H1
   obtain rfl := Option.some.inj H
   go_enter Try.func42, Try.ntmps42
   go_wp2_with (first | ((with_reducible refine gate_dst (N := 3) rfl ?_); refine box_event ?hg (N := 3) ?hd (cs := #[.string a0_0, .slice A0_1 l0_1.length c0_1, .slice A0_2 l0_2.length c0_2, .int .i64 a0_3, .int .i64 a0_4, .slice A0_5 l0_5.length c0_5]) (t := 29) ?hr ?_; (case hd => rfl); (case hg => rfl); (case hr => first | (go_simp; done) | (go_simp; rfl)); intro gb557 hg w17 hbox hb; have n0_ := Aside0.mk (below_step (ba_ HB.out) hb); have n1_ := Aside0.mk (hbox); have n2_ := Aside0.mk ((by rw [hg]; exact (below_size (ba_ HB.out)) : w.heap.size ≤ gb557)); have n3_ := Aside0.mk ((by rw [hg]; exact (below_size (ba_ HB.out)) : w.heap.size ≤ gb557)); clear HB; have HB := n0_; have BK557 := n1_; have GW557 := n2_; have GE557 := n3_; clear n0_ n1_ n2_ n3_; clear hb hbox hg) | ((with_reducible refine gate_dst (N := 4) rfl ?_); refine box_event ?hg (N := 4) ?hd (cs := #[.int .i64 a1_0, .int .i64 a1_1, .int .i64 a1_2, .int .i64 a1_3, .int .i64 a1_4, .slice A1_5 l1_5.length c1_5, .int .i64 a1_6]) (t := 62) ?hr ?_; (case hd => rfl); (case hg => rfl); (case hr => first | (go_simp; done) | (go_simp; rfl)); intro gb558 hg w18 hbox hb; have n0_ := Aside0.mk (blk_below (g := gb557) (o := .cells #[.string a0_0, .slice A0_1 l0_1.length c0_1, .slice A0_2 l0_2.length c0_2, .int .i64 a0_3, .int .i64 a0_4, .slice A0_5 l0_5.length c0_5] 29 (0, 0)) (by repeat first | exact BK557.out | refine blk_drewN ?_ _ | refine blk_drew ?_ | refine blk_alloc ?_ _) hb); have n1_ := Aside0.mk (below_step (bg_ HB.out GE557.out) hb); have n2_ := Aside0.mk (hbox); have n3_ := Aside0.mk ((by rw [hg]; exact (below_size (bg_ HB.out GE557.out)) : w.heap.size ≤ gb558)); have n4_ := Aside0.mk ((by rw [hg]; exact (below_size (bg_ HB.out GE557.out)) : w.heap.size ≤ gb558)); have n5_ := Aside0.mk ((by rw [hg]; exact Nat.ne_of_lt (blk_lt (g := gb557) (o := .cells #[.string a0_0, .slice A0_1 l0_1.length c0_1, .slice A0_2 l0_2.length c0_2, .int .i64 a0_3, .int .i64 a0_4, .slice A0_5 l0_5.length c0_5] 29 (0, 0)) (by repeat first | exact BK557.out | refine blk_drewN ?_ _ | refine blk_drew ?_ | refine blk_alloc ?_ _)) : gb557 ≠ gb558)); have n6_ := Aside0.mk ((by rw [hg]; exact Nat.ne_of_gt (blk_lt (g := gb557) (o := .cells #[.string a0_0, .slice A0_1 l0_1.length c0_1, .slice A0_2 l0_2.length c0_2, .int .i64 a0_3, .int .i64 a0_4, .slice A0_5 l0_5.length c0_5] 29 (0, 0)) (by repeat first | exact BK557.out | refine blk_drewN ?_ _ | refine blk_drew ?_ | refine blk_alloc ?_ _)) : gb558 ≠ gb557)); clear BK557; clear HB; have BK557 := n0_; have HB := n1_; have BK558 := n2_; have GW558 := n3_; have GE558 := n4_; have NB557_558 := n5_; have NB558_557 := n6_; clear n0_ n1_ n2_ n3_ n4_ n5_ n6_; clear hb hbox hg) | ((with_reducible refine gate_callee (f := 84) rfl ?_); refine goesL_ (some 7) rfl rfl Try.func84 (by kernel_rfl) rfl #[.pointer (some ⟨gb557, 0, none⟩)] rfl av_ ?_; (with_reducible refine (spec_l05Ok.calls k gb557 a0_0 A0_1 c0_1 l0_1 A0_2 c0_2 l0_2 a0_3 a0_4 A0_5 c0_5 l0_5 true _ ?side1 ?side2 ?side3 ?side4 ?side5 ?side6 ?side7 A4.out).mono ?_); (case side1 => exact bk_ BK557.out); (case side2 => exact (Kd.C_below HR0_1.out HB.out)); (case side3 => exact HC0_1.out); (case side4 => exact (Kd.C_below HR0_2.out HB.out)); (case side5 => exact HC0_2.out); (case side6 => exact (Kd.C_below HR0_5.out HB.out)); (case side7 => exact HC0_5.out); rintro e w' ⟨rfl, ⟨nd, rfl⟩⟩; refine ⟨_, rfl, ?_⟩) | (go_at_call 94; (with_reducible refine (spec_l15Ok.calls k gb558 a1_0 a1_1 a1_2 a1_3 a1_4 A1_5 c1_5 l1_5 a1_6 false _ ?side1 ?side2 ?side3 A6.out).mono ?_); (case side1 => exact bk_ BK558.out); (case side2 => repeat (first | exact (Kd.C_below HR1_5.out (bh_ HB.out GE557.out GE558.out)) | (with_reducible refine Kd.C_alloc ?_ _) | (with_reducible refine Kd.C_drewN ?_ _) | (with_reducible refine Kd.C_drew ?_))); (case side3 => exact HC1_5.out); rintro e w19 ⟨rfl, hb⟩; have n0_ := Aside0.mk (blk_below (g := gb557) (o := .cells #[.string a0_0, .slice A0_1 l0_1.length c0_1, .slice A0_2 l0_2.length c0_2, .int .i64 a0_3, .int .i64 a0_4, .slice A0_5 l0_5.length c0_5] 29 (0, 0)) (by repeat first | exact BK557.out | refine blk_drewN ?_ _ | refine blk_drew ?_ | refine blk_alloc ?_ _) hb); have n1_ := Aside0.mk (blk_below (g := gb558) (o := .cells #[.int .i64 a1_0, .int .i64 a1_1, .int .i64 a1_2, .int .i64 a1_3, .int .i64 a1_4, .slice A1_5 l1_5.length c1_5, .int .i64 a1_6] 62 (0, 0)) (by repeat first | exact BK558.out | refine blk_drewN ?_ _ | refine blk_drew ?_ | refine blk_alloc ?_ _) hb); have n2_ := Aside0.mk (below_step (bh_ HB.out GE557.out GE558.out) hb); clear BK557; clear BK558; clear HB; have BK557 := n0_; have BK558 := n1_; have HB := n2_; clear n0_ n1_ n2_; (try clear hb); (try clear hb2); (try clear hk); (try clear hi)))
   go_ret
   exact ⟨by first | rfl | (simp [errW_none, errW_some] <;> rfl) | (simp [*, errW_none, errW_some] <;> rfl), bh_ HB.out GE557.out GE558.out⟩
 ·replace c5 := Bool.eq_false_iff.mpr c5
  subst c5
  have H1 : (some false) = some r := by rw [if_neg (show ¬ (false = true) by decide)] at H; exact H
  clear H
  have H := H1
  clear H1
  obtain rfl := Option.some.inj H
  go_enter Try.func42, Try.ntmps42
  go_wp2_with (first | ((with_reducible refine gate_dst (N := 3) rfl ?_); refine box_event ?hg (N := 3) ?hd (cs := #[.string a0_0, .slice A0_1 l0_1.length c0_1, .slice A0_2 l0_2.length c0_2, .int .i64 a0_3, .int .i64 a0_4, .slice A0_5 l0_5.length c0_5]) (t := 29) ?hr ?_; (case hd => rfl); (case hg => rfl); (case hr => first | (go_simp; done) | (go_simp; rfl)); intro gb557 hg w20 hbox hb; have n0_ := Aside0.mk (below_step (ba_ HB.out) hb); have n1_ := Aside0.mk (hbox); have n2_ := Aside0.mk ((by rw [hg]; exact (below_size (ba_ HB.out)) : w.heap.size ≤ gb557)); have n3_ := Aside0.mk ((by rw [hg]; exact (below_size (ba_ HB.out)) : w.heap.size ≤ gb557)); clear HB; have HB := n0_; have BK557 := n1_; have GW557 := n2_; have GE557 := n3_; clear n0_ n1_ n2_ n3_; clear hb hbox hg) | ((with_reducible refine gate_dst (N := 4) rfl ?_); refine box_event ?hg (N := 4) ?hd (cs := #[.int .i64 a1_0, .int .i64 a1_1, .int .i64 a1_2, .int .i64 a1_3, .int .i64 a1_4, .slice A1_5 l1_5.length c1_5, .int .i64 a1_6]) (t := 62) ?hr ?_; (case hd => rfl); (case hg => rfl); (case hr => first | (go_simp; done) | (go_simp; rfl)); intro gb558 hg w21 hbox hb; have n0_ := Aside0.mk (blk_below (g := gb557) (o := .cells #[.string a0_0, .slice A0_1 l0_1.length c0_1, .slice A0_2 l0_2.length c0_2, .int .i64 a0_3, .int .i64 a0_4, .slice A0_5 l0_5.length c0_5] 29 (0, 0)) (by repeat first | exact BK557.out | refine blk_drewN ?_ _ | refine blk_drew ?_ | refine blk_alloc ?_ _) hb); have n1_ := Aside0.mk (below_step (bg_ HB.out GE557.out) hb); have n2_ := Aside0.mk (hbox); have n3_ := Aside0.mk ((by rw [hg]; exact (below_size (bg_ HB.out GE557.out)) : w.heap.size ≤ gb558)); have n4_ := Aside0.mk ((by rw [hg]; exact (below_size (bg_ HB.out GE557.out)) : w.heap.size ≤ gb558)); have n5_ := Aside0.mk ((by rw [hg]; exact Nat.ne_of_lt (blk_lt (g := gb557) (o := .cells #[.string a0_0, .slice A0_1 l0_1.length c0_1, .slice A0_2 l0_2.length c0_2, .int .i64 a0_3, .int .i64 a0_4, .slice A0_5 l0_5.length c0_5] 29 (0, 0)) (by repeat first | exact BK557.out | refine blk_drewN ?_ _ | refine blk_drew ?_ | refine blk_alloc ?_ _)) : gb557 ≠ gb558)); have n6_ := Aside0.mk ((by rw [hg]; exact Nat.ne_of_gt (blk_lt (g := gb557) (o := .cells #[.string a0_0, .slice A0_1 l0_1.length c0_1, .slice A0_2 l0_2.length c0_2, .int .i64 a0_3, .int .i64 a0_4, .slice A0_5 l0_5.length c0_5] 29 (0, 0)) (by repeat first | exact BK557.out | refine blk_drewN ?_ _ | refine blk_drew ?_ | refine blk_alloc ?_ _)) : gb558 ≠ gb557)); clear BK557; clear HB; have BK557 := n0_; have HB := n1_; have BK558 := n2_; have GW558 := n3_; have GE558 := n4_; have NB557_558 := n5_; have NB558_557 := n6_; clear n0_ n1_ n2_ n3_ n4_ n5_ n6_; clear hb hbox hg) | ((with_reducible refine gate_callee (f := 84) rfl ?_); refine goesL_ (some 7) rfl rfl Try.func84 (by kernel_rfl) rfl #[.pointer (some ⟨gb557, 0, none⟩)] rfl av_ ?_; (with_reducible refine (spec_l05Ok.calls k gb557 a0_0 A0_1 c0_1 l0_1 A0_2 c0_2 l0_2 a0_3 a0_4 A0_5 c0_5 l0_5 false _ ?side1 ?side2 ?side3 ?side4 ?side5 ?side6 ?side7 A4.out).mono ?_); (case side1 => exact bk_ BK557.out); (case side2 => exact (Kd.C_below HR0_1.out HB.out)); (case side3 => exact HC0_1.out); (case side4 => exact (Kd.C_below HR0_2.out HB.out)); (case side5 => exact HC0_2.out); (case side6 => exact (Kd.C_below HR0_5.out HB.out)); (case side7 => exact HC0_5.out); rintro e w' ⟨rfl, ⟨nd, rfl⟩⟩; refine ⟨_, rfl, ?_⟩))
  go_ret
  exact ⟨by first | rfl | (simp [errW_none, errW_some] <;> rfl) | (simp [*, errW_none, errW_some] <;> rfl), bh_ HB.out GE557.out GE558.out⟩
end Go.Proofs.Ytinlejhffokbaaa.P
end

section
/- How the arguments of this seat's laws read, as the kinds of the printed words: an argument that the row reads has the cells of its kind, and its numbers, texts and lengths are in bounds. No condition. -/
namespace Go.Proofs.Ytinlejhffokbaaa.P
open Go.RowKit Go.ChangeShapes Go.WideShapes Go.Proofs.YtinlejhffokbaaaW.PrintWords Go.Proofs.YtinlejhffokbaaaW.PrintLast
set_option linter.unusedVariables false

section
variable {H : Type} {enc : TypeId × Value → H} {P : Program} {w : World} {held : Bool}

theorem list_choose {α : Type} (p : Nat → α → Prop) : ∀ n, (∀ i, i < n → ∃ y, p i y) → ∃ ys : List α, ys.length = n ∧ ∀ (i : Nat) (y : α), ys[i]? = some y → p i y := by
  intro n
  induction n with
  | zero => exact fun _ => ⟨[], rfl, fun i y h => by simp at h⟩
  | succ n ih =>
    intro h
    obtain ⟨ys, hl, hp⟩ := ih (fun i hi => h i (by omega))
    obtain ⟨z, hz⟩ := h n (by omega)
    refine ⟨ys ++ [z], by simp [hl], fun i y hy => ?_⟩
    rcases Nat.lt_or_ge i ys.length with hi | hi
    · rw [List.getElem?_append_left hi] at hy
      exact hp i y hy
    · rw [List.getElem?_append_right hi] at hy
      have h0 : i - ys.length = 0 := by
        rcases Nat.eq_zero_or_pos (i - ys.length) with h1 | h1
        · exact h1
        · rw [List.getElem?_eq_none (by simp; omega)] at hy
          cases hy
      rw [h0] at hy
      simp only [List.getElem?_cons_zero, Option.some.injEq] at hy
      subst hy
      have : i = n := by omega
      subst this
      exact hz

theorem len_cons {n : Nat} {cs : List Value} (h : cs.length = n + 1) : ∃ c t, cs = c :: t ∧ t.length = n := by
  cases cs with
  | nil => simp at h
  | cons c t => exact ⟨c, t, rfl, by simpa using h⟩

theorem opn_int {t : TypeId} {k : IntKind} (ht : P.underlying t = some (.int k)) {fuel : Nat} {cs : List Value} {x : DataW H × List MemPlace} (h : DataW.trod enc P w 0 (fun _ => true) held fuel t cs = some x) :
    ∃ y : Int, (Kd.int k).K w y cs ∧ (Lit.int k y).wf = true := by
  obtain ⟨n, hcs, _, hw⟩ := DataW.trod_int ht h
  exact ⟨n, hcs, hw⟩

theorem opn_string {t : TypeId} (ht : P.underlying t = some .string) {fuel : Nat} {cs : List Value} {x : DataW H × List MemPlace} (h : DataW.trod enc P w 0 (fun _ => true) held fuel t cs = some x) :
    ∃ y : ByteArray, Kd.string.K w y cs ∧ y.size ≤ maxLen := by
  obtain ⟨s, hcs, _, hs⟩ := DataW.trod_string ht h
  exact ⟨s, hcs, hs⟩

theorem opn_slice {α : Type} (d : Kd α) (ok : α → Prop) {t e : TypeId} (ht : P.underlying t = some (.slice e)) (ce : P.cellsOf e = d.sz)
    (hE : ∀ {fuel : Nat} {cs : List Value} {x : DataW H × List MemPlace}, DataW.trod enc P w 0 (fun _ => true) held fuel e cs = some x → ∃ y : α, d.K w y cs ∧ ok y)
    {fuel : Nat} {cs : List Value} {x : DataW H × List MemPlace} (h : DataW.trod enc P w 0 (fun _ => true) held fuel t cs = some x) :
    ∃ ys : List α, (Kd.slice e d).K w ys cs ∧ ys.length ≤ maxLen ∧ ∀ y ∈ ys, ok y := by
  rcases Go.Deep.open_slice ht h with ⟨rfl, _⟩ | ⟨a, len, cap, m, n, D, Pl, rfl, hb, hl, hm, hmm, rfl, hx⟩
  · exact ⟨[], ⟨none, 0, rfl, Nat.le_refl _, rfl, by simp, fun h => absurd h (Nat.lt_irrefl 0)⟩, Nat.zero_le _, by simp⟩
  · simp only [if_true] at hmm
    subst hmm
    obtain ⟨ys, hyl, hy⟩ := list_choose (fun i (y : α) => (∃ cs', w.cells? 0 (a.add (i * P.cellsOf e)) (P.cellsOf e) = some cs' ∧ d.K w y cs') ∧ ok y) len (fun i hi => by
      obtain ⟨cs', h1, h2⟩ := hx i (by omega)
      obtain ⟨y, hk, ho⟩ := hE h2
      exact ⟨y, ⟨cs', h1, hk⟩, ho⟩)
    subst hyl
    refine ⟨ys, ⟨some a, m, rfl, hl, rfl, Nat.le_trans hl (by unfold maxLen at hm; exact hm), fun _ => ⟨a, rfl, fun j p hp => ?_⟩⟩, Nat.le_trans hl hm, fun y hmem => ?_⟩
    · obtain ⟨⟨cs', h1, hk⟩, _⟩ := hy j p hp
      obtain ⟨_, hlen, hcell⟩ := World.cells?_some h1
      rw [ce] at hlen hcell
      refine ⟨cs', hlen, hk, fun i u hu => ?_⟩
      have hi : i < d.sz := by
        rw [← hlen]
        exact (List.getElem?_eq_some_iff.1 hu).1
      have := hcell i hi
      rw [Go.Deep.add_add] at this
      rw [this, hu]
    · obtain ⟨i, hi⟩ := List.getElem?_of_mem hmem
      exact (hy i y hi).2
end
theorem opn_L22 {H : Type} {enc : TypeId × Value → H} {w : World} {held : Bool} {fuel : Nat} {cs : List Value} {x : DataW H × List MemPlace} (h : DataW.trod enc Try.prog w 0 (fun _ => true) held fuel 22 cs = some x) :
    ∃ y : List Int, (Kd.slice 2 (Kd.int .i64)).K w y cs ∧ y.length ≤ maxLen ∧ ∀ y0 ∈ y, (Lit.int .i64 y0).wf = true :=
  opn_slice (Kd.int .i64) (fun y0 => (Lit.int .i64 y0).wf = true) Try.underlying22 (show Try.prog.cellsOf 2 = _ by kernel_rfl) (fun h => (opn_int Try.underlying2) h) h
theorem opn_L23 {H : Type} {enc : TypeId × Value → H} {w : World} {held : Bool} {fuel : Nat} {cs : List Value} {x : DataW H × List MemPlace} (h : DataW.trod enc Try.prog w 0 (fun _ => true) held fuel 23 cs = some x) :
    ∃ y : List (List Int), (Kd.slice 22 (Kd.slice 2 (Kd.int .i64))).K w y cs ∧ y.length ≤ maxLen ∧ ∀ y0 ∈ y, (y0.length ≤ maxLen ∧ ∀ y1 ∈ y0, (Lit.int .i64 y1).wf = true) :=
  opn_slice (Kd.slice 2 (Kd.int .i64)) (fun y0 => (y0.length ≤ maxLen ∧ ∀ y1 ∈ y0, (Lit.int .i64 y1).wf = true)) Try.underlying23 (show Try.prog.cellsOf 22 = _ by kernel_rfl) (fun h => opn_L22 h) h
theorem opn_S25 {H : Type} {enc : TypeId × Value → H} {w : World} {held : Bool} {fuel : Nat} {cs : List Value} {x : DataW H × List MemPlace} (h : DataW.trod enc Try.prog w 0 (fun _ => true) held fuel 25 cs = some x) :
    ∃ y : S25, k25.K w y cs ∧ y.f0.size ≤ maxLen ∧ (y.f1.length ≤ maxLen ∧ ∀ y0 ∈ y.f1, (Lit.int .i64 y0).wf = true) ∧ (y.f2.length ≤ maxLen ∧ ∀ y0 ∈ y.f2, (Lit.int .i64 y0).wf = true) ∧ (Lit.int .i64 y.f3).wf = true ∧ (Lit.int .i64 y.f4).wf = true ∧ (y.f5.length ≤ maxLen ∧ ∀ y0 ∈ y.f5, (y0.length ≤ maxLen ∧ ∀ y1 ∈ y0, (Lit.int .i64 y1).wf = true)) := by
  obtain ⟨xs, n, _, _, hl, hlen, hf⟩ := DataW.trod_struct Try.underlying25 h
  rw [show Try.prog.cellsOf 25 = 6 from by kernel_rfl] at hl
  obtain ⟨c0, t0, rfl, hl0⟩ := len_cons hl
  obtain ⟨c1, t1, rfl, hl1⟩ := len_cons hl0
  obtain ⟨c2, t2, rfl, hl2⟩ := len_cons hl1
  obtain ⟨c3, t3, rfl, hl3⟩ := len_cons hl2
  obtain ⟨c4, t4, rfl, hl4⟩ := len_cons hl3
  obtain ⟨c5, t5, rfl, hl5⟩ := len_cons hl4
  obtain rfl := List.eq_nil_of_length_eq_zero hl5
  have h0 := hf 0 _ rfl
  rw [List.getElem?_eq_getElem (show 0 < xs.length by rw [hlen]; decide)] at h0
  obtain ⟨y0, k0, w0⟩ := (opn_string Try.underlying9) (show DataW.trod enc Try.prog w 0 (fun _ => true) held n 9 [c0] = some _ from by simpa [show Try.prog.cellsOf 9 = 1 from by kernel_rfl] using h0)
  have h1 := hf 1 _ rfl
  rw [List.getElem?_eq_getElem (show 1 < xs.length by rw [hlen]; decide)] at h1
  obtain ⟨y1, k1, w1⟩ := opn_L22 (show DataW.trod enc Try.prog w 0 (fun _ => true) held n 22 [c1] = some _ from by simpa [show Try.prog.cellsOf 22 = 1 from by kernel_rfl] using h1)
  have h2 := hf 2 _ rfl
  rw [List.getElem?_eq_getElem (show 2 < xs.length by rw [hlen]; decide)] at h2
  obtain ⟨y2, k2, w2⟩ := opn_L22 (show DataW.trod enc Try.prog w 0 (fun _ => true) held n 22 [c2] = some _ from by simpa [show Try.prog.cellsOf 22 = 1 from by kernel_rfl] using h2)
  have h3 := hf 3 _ rfl
  rw [List.getElem?_eq_getElem (show 3 < xs.length by rw [hlen]; decide)] at h3
  obtain ⟨y3, k3, w3⟩ := (opn_int Try.underlying2) (show DataW.trod enc Try.prog w 0 (fun _ => true) held n 2 [c3] = some _ from by simpa [show Try.prog.cellsOf 2 = 1 from by kernel_rfl] using h3)
  have h4 := hf 4 _ rfl
  rw [List.getElem?_eq_getElem (show 4 < xs.length by rw [hlen]; decide)] at h4
  obtain ⟨y4, k4, w4⟩ := (opn_int Try.underlying2) (show DataW.trod enc Try.prog w 0 (fun _ => true) held n 2 [c4] = some _ from by simpa [show Try.prog.cellsOf 2 = 1 from by kernel_rfl] using h4)
  have h5 := hf 5 _ rfl
  rw [List.getElem?_eq_getElem (show 5 < xs.length by rw [hlen]; decide)] at h5
  obtain ⟨y5, k5, w5⟩ := opn_L23 (show DataW.trod enc Try.prog w 0 (fun _ => true) held n 23 [c5] = some _ from by simpa [show Try.prog.cellsOf 23 = 1 from by kernel_rfl] using h5)
  exact ⟨⟨y0, y1, y2, y3, y4, y5⟩, ⟨[c0], [c1, c2, c3, c4, c5], rfl, k0, ⟨[c1], [c2, c3, c4, c5], rfl, k1, ⟨[c2], [c3, c4, c5], rfl, k2, ⟨[c3], [c4, c5], rfl, k3, ⟨[c4], [c5], rfl, k4, k5⟩⟩⟩⟩⟩, w0, w1, w2, w3, w4, w5⟩
theorem opn_S59 {H : Type} {enc : TypeId × Value → H} {w : World} {held : Bool} {fuel : Nat} {cs : List Value} {x : DataW H × List MemPlace} (h : DataW.trod enc Try.prog w 0 (fun _ => true) held fuel 59 cs = some x) :
    ∃ y : S59, k59.K w y cs ∧ (Lit.int .i64 y.f0).wf = true ∧ (Lit.int .i64 y.f1).wf = true ∧ (Lit.int .i64 y.f2).wf = true ∧ (Lit.int .i64 y.f3).wf = true ∧ (Lit.int .i64 y.f4).wf = true ∧ (y.f5.length ≤ maxLen ∧ ∀ y0 ∈ y.f5, (y0.length ≤ maxLen ∧ ∀ y1 ∈ y0, (Lit.int .i64 y1).wf = true)) ∧ (Lit.int .i64 y.f6).wf = true := by
  obtain ⟨xs, n, _, _, hl, hlen, hf⟩ := DataW.trod_struct Try.underlying59 h
  rw [show Try.prog.cellsOf 59 = 7 from by kernel_rfl] at hl
  obtain ⟨c0, t0, rfl, hl0⟩ := len_cons hl
  obtain ⟨c1, t1, rfl, hl1⟩ := len_cons hl0
  obtain ⟨c2, t2, rfl, hl2⟩ := len_cons hl1
  obtain ⟨c3, t3, rfl, hl3⟩ := len_cons hl2
  obtain ⟨c4, t4, rfl, hl4⟩ := len_cons hl3
  obtain ⟨c5, t5, rfl, hl5⟩ := len_cons hl4
  obtain ⟨c6, t6, rfl, hl6⟩ := len_cons hl5
  obtain rfl := List.eq_nil_of_length_eq_zero hl6
  have h0 := hf 0 _ rfl
  rw [List.getElem?_eq_getElem (show 0 < xs.length by rw [hlen]; decide)] at h0
  obtain ⟨y0, k0, w0⟩ := (opn_int Try.underlying2) (show DataW.trod enc Try.prog w 0 (fun _ => true) held n 2 [c0] = some _ from by simpa [show Try.prog.cellsOf 2 = 1 from by kernel_rfl] using h0)
  have h1 := hf 1 _ rfl
  rw [List.getElem?_eq_getElem (show 1 < xs.length by rw [hlen]; decide)] at h1
  obtain ⟨y1, k1, w1⟩ := (opn_int Try.underlying2) (show DataW.trod enc Try.prog w 0 (fun _ => true) held n 2 [c1] = some _ from by simpa [show Try.prog.cellsOf 2 = 1 from by kernel_rfl] using h1)
  have h2 := hf 2 _ rfl
  rw [List.getElem?_eq_getElem (show 2 < xs.length by rw [hlen]; decide)] at h2
  obtain ⟨y2, k2, w2⟩ := (opn_int Try.underlying2) (show DataW.trod enc Try.prog w 0 (fun _ => true) held n 2 [c2] = some _ from by simpa [show Try.prog.cellsOf 2 = 1 from by kernel_rfl] using h2)
  have h3 := hf 3 _ rfl
  rw [List.getElem?_eq_getElem (show 3 < xs.length by rw [hlen]; decide)] at h3
  obtain ⟨y3, k3, w3⟩ := (opn_int Try.underlying2) (show DataW.trod enc Try.prog w 0 (fun _ => true) held n 2 [c3] = some _ from by simpa [show Try.prog.cellsOf 2 = 1 from by kernel_rfl] using h3)
  have h4 := hf 4 _ rfl
  rw [List.getElem?_eq_getElem (show 4 < xs.length by rw [hlen]; decide)] at h4
  obtain ⟨y4, k4, w4⟩ := (opn_int Try.underlying2) (show DataW.trod enc Try.prog w 0 (fun _ => true) held n 2 [c4] = some _ from by simpa [show Try.prog.cellsOf 2 = 1 from by kernel_rfl] using h4)
  have h5 := hf 5 _ rfl
  rw [List.getElem?_eq_getElem (show 5 < xs.length by rw [hlen]; decide)] at h5
  obtain ⟨y5, k5, w5⟩ := opn_L23 (show DataW.trod enc Try.prog w 0 (fun _ => true) held n 23 [c5] = some _ from by simpa [show Try.prog.cellsOf 23 = 1 from by kernel_rfl] using h5)
  have h6 := hf 6 _ rfl
  rw [List.getElem?_eq_getElem (show 6 < xs.length by rw [hlen]; decide)] at h6
  obtain ⟨y6, k6, w6⟩ := (opn_int Try.underlying2) (show DataW.trod enc Try.prog w 0 (fun _ => true) held n 2 [c6] = some _ from by simpa [show Try.prog.cellsOf 2 = 1 from by kernel_rfl] using h6)
  exact ⟨⟨y0, y1, y2, y3, y4, y5, y6⟩, ⟨[c0], [c1, c2, c3, c4, c5, c6], rfl, k0, ⟨[c1], [c2, c3, c4, c5, c6], rfl, k1, ⟨[c2], [c3, c4, c5, c6], rfl, k2, ⟨[c3], [c4, c5, c6], rfl, k3, ⟨[c4], [c5, c6], rfl, k4, ⟨[c5], [c6], rfl, k5, k6⟩⟩⟩⟩⟩⟩, w0, w1, w2, w3, w4, w5, w6⟩
end Go.Proofs.Ytinlejhffokbaaa.P
end

section
namespace Go.Proofs.Ytinlejhffokbaaa.P
open Go.RowKit Go.Proofs.Ytinlejhffokbaaa.P Go.Proofs.YtinlejhffokbaaaW.PrintWords Go.Proofs.YtinlejhffokbaaaW.PrintLast Go.Proofs.YtinlejhffokbaaaW.PrintMore
set_option linter.unusedVariables false
set_option linter.unusedSimpArgs false
theorem Ev.succ {α : Type} {g : Nat → Option α} {r : α} (h : Ev (fun k => g (k + 1)) r) : Ev g r := Ev.step (f := fun k => g (k + 1)) (fun _ => rfl) h
theorem Ev.ite_pos {α : Type} {c : Prop} [Decidable c] {f g : Nat → Option α} {r : α} (hc : c) (h : Ev f r) : Ev (fun k => if c then f k else g k) r := Ev.congr (fun _ => if_pos hc) h
theorem Ev.ite_neg {α : Type} {c : Prop} [Decidable c] {f g : Nat → Option α} {r : α} (hc : ¬ c) (h : Ev g r) : Ev (fun k => if c then f k else g k) r := Ev.congr (fun _ => if_neg hc) h
theorem Ev.bindc {α β : Type} {o : Option α} {f : Nat → α → Option β} {a : α} {r : β} (ho : o = some a) (h : Ev (fun k => f k a) r) : Ev (fun k => o.bind (f k)) r := Ev.congr (fun _ => by rw [ho]; rfl) h
theorem Ev.both {α : Type} {g : Nat → Option α} {r q : α} (h : Ev g r) (h' : Ev g q) : r = q := by
  obtain ⟨a, ha⟩ := h
  obtain ⟨b, hb⟩ := h'
  have h1 := ha (max a b) (Nat.le_max_left _ _)
  have h2 := hb (max a b) (Nat.le_max_right _ _)
  rw [h1] at h2
  exact Option.some.inj h2
theorem Ev.cast {α : Type} {g : Nat → Option α} {r q : α} (h : Ev g r) (e : r = q) : Ev g q := e ▸ h
theorem Ev.out {α : Type} {g : Nat → Option α} {r : α} (h : Ev g r) : ∃ k, g k = some r := h.rounds

/-- A sum, a difference that needs no wrap. -/
theorem w64 {x : Int} (h0 : -9223372036854775808 ≤ x) (h1 : x ≤ 9223372036854775807) : wrap64 x = x := by unfold wrap64; omega
theorem mx_eq (a b : Int) : mx a b = max a b := by unfold mx; split <;> omega
theorem spec_l00In_eq (n a b : Int) : spec_l00In.f n a b = some (decide (a ≤ n) && decide (n ≤ b)) := by
  unfold spec_l00In.f
  by_cases h : n ≥ a
  · have : a ≤ n := h
    simp [this]
  · have : ¬ a ≤ n := h
    simp [this]
def inB (n a b : Int) : Bool := decide (a ≤ n) && decide (n ≤ b)
def inP (n : Int) : Bool := decide (-12 ≤ n) && decide (n ≤ 23)
end Go.Proofs.Ytinlejhffokbaaa.P
end

section
namespace Go.Proofs.Ytinlejhffokbaaa.P
open Go.RowKit Go.Proofs.YtinlejhffokbaaaW.PrintWords Go.Proofs.YtinlejhffokbaaaW.PrintLast Go.Proofs.YtinlejhffokbaaaW.PrintMore
attribute [local go_sem] max2_int min2_int max_two min_two max_three min_three max_four min_four   -- for this text's walks alone
set_option linter.unusedVariables false
set_option linter.unusedSimpArgs false
/-! ### laws_heldInt64S: function 21 -/
def laws_heldInt64S.l0 : Nat → List Int → Int → Int → Option (Int)
 | 0, _, _, _ => none
 | k + 1, x0, x1, x5 => if x5 < (x0.length : Int) then (if 0 ≤ x5 then (if (rd x0 x5) = x1 then (laws_heldInt64S.l0 k x0 (wrap64 (x1 + 1)) (wrap64 (x5 + 1))) else (some (-1))) else (none)) else (some x1)
/-! ### laws_markInt64S: function 20 -/
def laws_markInt64S.l0 : Nat → List Int → Int → Int → Option (Int × List Int)
 | 0, _, _, _ => none
 | k + 1, x0, x1, x5 => if x5 < (x0.length : Int) then (if 0 ≤ x5 then (laws_markInt64S.l0 k (x0.set (x5 : Int).toNat x1) (wrap64 (x1 + 1)) (wrap64 (x5 + 1))) else (none)) else (some (x1, x0))
end Go.Proofs.Ytinlejhffokbaaa.P
end

section
namespace Go.Proofs.Ytinlejhffokbaaa.P
open Go.RowKit Go.Proofs.Ytinlejhffokbaaa.P Go.Proofs.YtinlejhffokbaaaW.PrintWords Go.Proofs.YtinlejhffokbaaaW.PrintLast Go.Proofs.YtinlejhffokbaaaW.PrintMore
set_option linter.unusedVariables false
set_option linter.unusedSimpArgs false
theorem set_at {l : List Int} {i : Nat} {v : Int} {m : List Int} (h : i < l.length) (e : l.take i = m) : (l.set i v).take (i + 1) = m ++ [v] := by
  rw [List.take_succ_eq_append_getElem (by simpa using h)]
  simp [List.take_set_of_le, e]
theorem rd_at {l : List Int} {i : Nat} (h : i < l.length) : rd l (i : Int) = l[i] := by simp [rd, h]

theorem toInt64S_l0 (l : List Int) (hl : l.length ≤ 9223372036854775807) : ∀ (d i : Nat) (m : List Int), l.length - i = d → i ≤ l.length → m.length = l.length → m.take i = l.take i → Ev (fun k => laws_toInt64S.l0 k l m i) l := by
  intro d
  induction d with
  | zero =>
    intro i m hd hi hm ht
    have : i = l.length := by omega
    subst this
    refine Ev.succ ?_
    simp only [laws_toInt64S.l0]
    refine Ev.ite_neg (by omega) ?_
    rw [List.take_of_length_le (by omega), List.take_of_length_le (Nat.le_refl _)] at ht
    rw [ht]
    exact Ev.now _
  | succ d ih =>
    intro i m hd hi hm ht
    refine Ev.succ ?_
    simp only [laws_toInt64S.l0]
    refine Ev.ite_pos (by omega) ?_
    refine Ev.ite_pos (by omega) ?_
    refine Ev.ite_pos (by omega) ?_
    rw [w64 (x := (i : Int) + 1) (by omega) (by omega), rd_at (show i < l.length by omega), Int.toNat_natCast]
    have := ih (i + 1) (m.set i l[i]) (by omega) (by omega) (by simpa using hm) (by
      rw [set_at (by omega) ht, ← List.take_succ_eq_append_getElem (by omega)])
    simpa using this
theorem toInt64S_ev (l : List Int) (h : l.length ≤ 35184372088832) : Ev (fun k => laws_toInt64S.f k l) l := by
  unfold laws_toInt64S.f
  refine Ev.ite_pos (by omega) ?_
  refine Ev.ite_pos (by omega) ?_
  exact toInt64S_l0 l (by omega) l.length 0 _ (by omega) (by omega) (by simp) (by simp)

theorem eqInt64S_l0 (a b : List Int) (hl : a.length ≤ 9223372036854775807) (hab : a.length = b.length) : ∀ (d i : Nat), a.length - i = d → i ≤ a.length → a.take i = b.take i → Ev (fun k => laws_eqInt64S.l0 k a b i) (decide (a = b)) := by
  intro d
  induction d with
  | zero =>
    intro i hd hi ht
    refine Ev.succ ?_
    simp only [laws_eqInt64S.l0]
    refine Ev.ite_neg (by omega) ?_
    rw [List.take_of_length_le (by omega), List.take_of_length_le (by omega)] at ht
    simpa [ht] using Ev.now true
  | succ d ih =>
    intro i hd hi ht
    refine Ev.succ ?_
    simp only [laws_eqInt64S.l0]
    refine Ev.ite_pos (by omega) ?_
    refine Ev.ite_pos (by omega) ?_
    refine Ev.ite_pos (by omega) ?_
    by_cases he : rd a i = rd b i
    · refine Ev.ite_pos he ?_
      rw [w64 (x := (i : Int) + 1) (by omega) (by omega)]
      rw [rd_at (show i < a.length by omega), rd_at (show i < b.length by omega)] at he
      have := ih (i + 1) (by omega) (by omega) (by
        rw [List.take_succ_eq_append_getElem (by omega), List.take_succ_eq_append_getElem (by omega), ht, he])
      simpa using this
    · refine Ev.ite_neg he ?_
      have : ¬ a = b := fun e => he (by rw [e])
      simpa [this] using Ev.now false
theorem eqInt64S_ev (a b : List Int) (hl : a.length ≤ 9223372036854775807) : Ev (fun k => laws_eqInt64S.f k a b) (decide (a = b)) := by
  unfold laws_eqInt64S.f
  by_cases h : a.length = b.length
  · refine Ev.ite_pos (by omega) ?_
    exact eqInt64S_l0 a b hl h a.length 0 (by omega) (by omega) (by simp)
  · refine Ev.ite_neg (by omega) ?_
    have : ¬ a = b := fun e => h (by rw [e])
    simpa [this] using Ev.now false
theorem eqInt64S_self (a : List Int) (hl : a.length ≤ 9223372036854775807) : Ev (fun k => laws_eqInt64S.f k a a) true := by simpa using eqInt64S_ev a a hl

theorem all_drop_at {l : List Int} {i : Nat} (q : Int → Bool) (h : i < l.length) : (l.drop i).all q = (q (rd l i) && (l.drop (i + 1)).all q) := by
  rw [List.drop_eq_getElem_cons h, List.all_cons, rd_at h]
theorem spec_l03Pitch_eq (n : Int) : spec_l03Pitch.f n = some (inP n) := by
  unfold spec_l03Pitch.f
  rw [spec_l00In_eq]
  rfl
def pitchesB (l : List Int) : Bool := decide (l.length ≤ 64) && l.all inP
theorem spec_l05Pitches_l0 (l : List Int) (hl : l.length ≤ 9223372036854775807) : ∀ (d i : Nat), l.length - i = d → i ≤ l.length → Ev (fun k => spec_l05Pitches.l0 k l i) ((l.drop i).all inP && decide (l.length ≤ 64)) := by
  intro d
  induction d with
  | zero =>
    intro i hd hi
    refine Ev.succ ?_
    simp only [spec_l05Pitches.l0]
    refine Ev.ite_neg (by omega) ?_
    rw [List.drop_of_length_le (by omega)]
    refine Ev.cast (Ev.now _) ?_
    simp
    omega
  | succ d ih =>
    intro i hd hi
    refine Ev.succ ?_
    simp only [spec_l05Pitches.l0]
    refine Ev.ite_pos (by omega) ?_
    refine Ev.ite_pos (by omega) ?_
    refine Ev.bindc (spec_l03Pitch_eq _) ?_
    rw [all_drop_at inP (by omega)]
    cases hq : inP (rd l i) with
    | true =>
      refine Ev.ite_pos rfl ?_
      rw [w64 (x := (i : Int) + 1) (by omega) (by omega)]
      simpa using ih (i + 1) (by omega) (by omega)
    | false =>
      refine Ev.ite_neg (by decide) ?_
      simpa using Ev.now false
theorem spec_l05Pitches_ev (l : List Int) (hl : l.length ≤ 9223372036854775807) : Ev (fun k => spec_l05Pitches.f k l) (pitchesB l) := by
  unfold spec_l05Pitches.f pitchesB
  have := spec_l05Pitches_l0 l hl l.length 0 (by omega) (by omega)
  rw [Bool.and_comm]
  simpa using this
theorem impl_pitchesOk_eq (l : List Int) : impl_pitchesOk.f l = some (pitchesB l) := by
  unfold impl_pitchesOk.f impl_allWithin.f pitchesB
  by_cases h : l.length ≤ 64
  · have h' : (l.length : Int) ≤ 64 := by omega
    simp only [h', h, if_true, decide_true, Bool.true_and]
    rfl
  · have h' : ¬ (l.length : Int) ≤ 64 := by omega
    simp [h]
    omega
theorem impl_within_eq (n a b : Int) : impl_within.f n a b = some (decide (a ≤ n) && decide (n ≤ b)) := by
  unfold impl_within.f
  by_cases h : n ≥ a
  · have : a ≤ n := h
    simp [this]
  · have : ¬ a ≤ n := h
    simp [this]
theorem impl_pitchOk_eq (n : Int) : impl_pitchOk.f n = some (inP n) := by
  unfold impl_pitchOk.f
  rw [impl_within_eq]
  rfl
theorem impl_rangeOk_eq (a b : Int) : impl_rangeOk.f a b = some (inP a && inB b a 23) := by
  unfold impl_rangeOk.f
  rw [impl_pitchOk_eq, impl_within_eq]
  simp only [Option.bind_some]
  cases inP a with
  | true => rw [if_pos rfl]; rfl
  | false => rw [if_neg (by decide)]; rfl
def partB (l : List Int) : Bool := (decide (1 ≤ l.length) && decide (l.length ≤ 8)) && pitchesB l
def partsB (p : List (List Int)) : Nat → Nat → Bool
  | 0, _ => true
  | d + 1, i => partB (rd_L1 p i) && partsB p d (i + 1)
def askB (lo st en low hi : Int) (p : List (List Int)) (rp : Int) : Bool := inB lo 1 16 && (inP low && (inB hi low 23 && (inB st low hi && (inB en low hi && (inB rp 0 16 && (partsB p p.length 0 && decide (p.length ≤ 4)))))))
theorem spec_l15Ok_l0 (lo st en low hi : Int) (p : List (List Int)) (rp : Int) (hp : p.length ≤ 1048576) (hr : ∀ j, j < p.length → (rd_L1 p j).length ≤ 1048576) : ∀ (d i : Nat), p.length - i = d → Ev (fun k => spec_l15Ok.l0 k i lo st en low hi p rp) (partsB p d i && decide (p.length ≤ 4)) := by
  intro d
  induction d with
  | zero =>
    intro i hd
    refine Ev.succ ?_
    simp only [spec_l15Ok.l0]
    refine Ev.ite_neg (by omega) (Ev.cast (Ev.now _) ?_)
    simp [partsB]
    omega
  | succ d ih =>
    intro i hd
    have hl := hr i (by omega)
    refine Ev.succ ?_
    simp only [spec_l15Ok.l0, partsB]
    rw [w64 (x := (i : Int) + 1) (by omega) (by omega)]
    refine Ev.ite_pos (by omega) (Ev.ite_pos (by omega) (Ev.bindc (spec_l00In_eq _ _ _) ?_))
    have e : (decide ((1 : Int) ≤ ((rd_L1 p i).length : Int)) && decide (((rd_L1 p i).length : Int) ≤ 8)) = (decide (1 ≤ (rd_L1 p i).length) && decide ((rd_L1 p i).length ≤ 8)) := by
      rw [Bool.eq_iff_iff]
      simp only [Bool.and_eq_true, decide_eq_true_eq]
      omega
    rw [e]
    cases h1 : (decide (1 ≤ (rd_L1 p i).length) && decide ((rd_L1 p i).length ≤ 8)) with
    | false => exact Ev.ite_neg (by decide) (Ev.cast (Ev.now false) (by simp [partB, h1]))
    | true =>
      refine Ev.ite_pos rfl (Ev.bind (spec_l05Pitches_ev _ (by omega)) ?_)
      cases h2 : pitchesB (rd_L1 p i) with
      | false => exact Ev.ite_neg (by decide) (Ev.cast (Ev.now false) (by simp [partB, h2]))
      | true => exact Ev.ite_pos rfl (Ev.cast (by simpa using ih (i + 1) (by omega)) (by simp [partB, h1, h2]))
theorem spec_l15Ok_ev (lo st en low hi : Int) (p : List (List Int)) (rp : Int) (hp : p.length ≤ 1048576) (hr : ∀ j, j < p.length → (rd_L1 p j).length ≤ 1048576) : Ev (fun k => spec_l15Ok.f k lo st en low hi p rp) (askB lo st en low hi p rp) := by
  have jt : Ev (fun k => spec_l15Ok.j0 k true lo st en low hi p rp) false := by
    refine Ev.succ ?_
    simp only [spec_l15Ok.j0]
    exact Ev.ite_pos (by decide) (Ev.now _)
  unfold spec_l15Ok.f askB
  refine Ev.bindc (spec_l00In_eq _ _ _) ?_
  rw [show (decide (1 ≤ lo) && decide (lo ≤ 16)) = inB lo 1 16 from rfl]
  cases h1 : inB lo 1 16 with
  | false => exact Ev.ite_neg (by decide) jt
  | true =>
    refine Ev.ite_pos rfl (Ev.bindc (spec_l03Pitch_eq _) ?_)
    cases h2 : inP low with
    | false => exact Ev.ite_neg (by decide) jt
    | true =>
      refine Ev.ite_pos rfl (Ev.bindc (spec_l00In_eq _ _ _) ?_)
      rw [show (decide (low ≤ hi) && decide (hi ≤ 23)) = inB hi low 23 from rfl]
      cases h3 : inB hi low 23 with
      | false => exact Ev.ite_neg (by decide) jt
      | true =>
        refine Ev.ite_pos rfl (Ev.bindc (spec_l00In_eq _ _ _) ?_)
        rw [show (decide (low ≤ st) && decide (st ≤ hi)) = inB st low hi from rfl]
        cases h4 : inB st low hi with
        | false => exact Ev.ite_neg (by decide) jt
        | true =>
          refine Ev.ite_pos rfl (Ev.bindc (spec_l00In_eq _ _ _) ?_)
          rw [show (decide (low ≤ en) && decide (en ≤ hi)) = inB en low hi from rfl]
          cases h5 : inB en low hi with
          | false => exact Ev.ite_neg (by decide) jt
          | true =>
            refine Ev.ite_pos rfl (Ev.bindc (spec_l00In_eq _ _ _) ?_)
            rw [show (decide (0 ≤ rp) && decide (rp ≤ 16)) = inB rp 0 16 from rfl]
            cases h6 : inB rp 0 16 with
            | false => exact jt
            | true =>
              refine Ev.succ ?_
              simp only [spec_l15Ok.j0]
              exact Ev.ite_neg (by decide) (by simpa using spec_l15Ok_l0 lo st en low hi p rp hp hr p.length 0 (by omega))
theorem impl_ValidAsk_l0 (p : List (List Int)) (hp : p.length ≤ 1048576) : ∀ (d i : Nat), p.length - i = d → Ev (fun k => impl_ValidAsk.l0 k p (p.length : Int) i) (partsB p d i) := by
  intro d
  induction d with
  | zero =>
    intro i hd
    refine Ev.succ ?_
    simp only [impl_ValidAsk.l0]
    exact Ev.ite_neg (by omega) (Ev.now _)
  | succ d ih =>
    intro i hd
    refine Ev.succ ?_
    simp only [impl_ValidAsk.l0, partsB]
    rw [w64 (x := (i : Int) + 1) (by omega) (by omega)]
    refine Ev.ite_pos (by omega) (Ev.ite_pos (by omega) (Ev.ite_pos (by omega) ?_))
    by_cases h1 : ((rd_L1 p i).length : Int) < 1
    · have e : ¬ 1 ≤ (rd_L1 p i).length := by omega
      exact Ev.ite_pos h1 (Ev.cast (Ev.now false) (by simp [partB, e]))
    · refine Ev.ite_neg h1 ?_
      by_cases h2 : ((rd_L1 p i).length : Int) > 8
      · have e : ¬ (rd_L1 p i).length ≤ 8 := by omega
        exact Ev.ite_pos h2 (Ev.cast (Ev.now false) (by simp [partB, e]))
      · refine Ev.ite_neg h2 (Ev.bindc (impl_pitchesOk_eq _) ?_)
        have e1 : 1 ≤ (rd_L1 p i).length := by omega
        have e2 : (rd_L1 p i).length ≤ 8 := by omega
        cases h3 : pitchesB (rd_L1 p i) with
        | false => exact Ev.ite_neg (by decide) (Ev.cast (Ev.now false) (by simp [partB, h3]))
        | true => exact Ev.ite_pos rfl (Ev.cast (by simpa using ih (i + 1) (by omega)) (by simp [partB, e1, e2, h3]))
theorem impl_ValidAsk_ev (lo st en low hi : Int) (p : List (List Int)) (rp : Int) (hp : p.length ≤ 1048576) : Ev (fun k => impl_ValidAsk.f k lo st en low hi p rp) (askB lo st en low hi p rp) := by
  have jt : Ev (fun k => impl_ValidAsk.j0 k true lo st en low hi p rp) false := by
    refine Ev.succ ?_
    simp only [impl_ValidAsk.j0]
    exact Ev.ite_pos (by decide) (Ev.now _)
  unfold impl_ValidAsk.f askB
  refine Ev.bindc (impl_within_eq _ _ _) ?_
  rw [show (decide (1 ≤ lo) && decide (lo ≤ 16)) = inB lo 1 16 from rfl]
  cases h1 : inB lo 1 16 with
  | false => exact Ev.ite_neg (by decide) jt
  | true =>
    refine Ev.ite_pos rfl (Ev.bindc (impl_rangeOk_eq _ _) ?_)
    cases h2 : inP low with
    | false => exact Ev.ite_neg (by simp) jt
    | true =>
      cases h3 : inB hi low 23 with
      | false => exact Ev.ite_neg (by decide) jt
      | true =>
        refine Ev.ite_pos rfl (Ev.bindc (impl_within_eq _ _ _) ?_)
        rw [show (decide (low ≤ st) && decide (st ≤ hi)) = inB st low hi from rfl]
        cases h4 : inB st low hi with
        | false => exact Ev.ite_neg (by decide) jt
        | true =>
          refine Ev.ite_pos rfl (Ev.bindc (impl_within_eq _ _ _) ?_)
          rw [show (decide (low ≤ en) && decide (en ≤ hi)) = inB en low hi from rfl]
          cases h5 : inB en low hi with
          | false => exact Ev.ite_neg (by decide) jt
          | true =>
            refine Ev.ite_pos rfl ?_
            by_cases h6 : (p.length : Int) > 4
            · have e : ¬ p.length ≤ 4 := by omega
              exact Ev.ite_pos h6 (Ev.cast jt (by simp [e]))
            · have e : p.length ≤ 4 := by omega
              refine Ev.ite_neg h6 (Ev.bindc (impl_within_eq _ _ _) ?_)
              rw [show (decide (0 ≤ rp) && decide (rp ≤ 16)) = inB rp 0 16 from rfl]
              cases h7 : inB rp 0 16 with
              | false => exact jt
              | true =>
                refine Ev.succ ?_
                simp only [impl_ValidAsk.j0]
                refine Ev.ite_neg (by decide) (Ev.cast (by simpa using impl_ValidAsk_l0 p hp p.length 0 (by omega)) ?_)
                simp [e]
theorem Ev.and {α : Type} {g : Nat → Option α} {r : α} {P : Nat → Prop} (h : Ev g r) (h' : ∃ K, ∀ k, K ≤ k → P k) : ∃ K, ∀ k, K ≤ k → (g k = some r ∧ P k) := by
  obtain ⟨a, ha⟩ := h
  obtain ⟨b, hb⟩ := h'
  exact ⟨max a b, fun k hk => ⟨ha k (Nat.le_trans (Nat.le_max_left _ _) hk), hb k (Nat.le_trans (Nat.le_max_right _ _) hk)⟩⟩
theorem impl_abs_eq (a : Int) (h0 : -9223372036854775807 ≤ a) (h1 : a ≤ 9223372036854775807) : impl_abs.f a = some (max a (-a)) := by
  unfold impl_abs.f
  rw [w64 (x := -a) (by omega) (by omega), mx_eq]
def idxM (s : List Int) (t : Int) : Nat → Nat → Int
  | 0, _ => -1
  | d + 1, i => if rd s i = t then (i : Int) else idxM s t d (i + 1)
theorem slices_Index_l0 (s : List Int) (t : Int) (hl : s.length ≤ 1048576) : ∀ (d i : Nat), s.length - i = d → Ev (fun k => slices_Index_int64_int64.l0 k s t (s.length : Int) i) (idxM s t d i) := by
  intro d
  induction d with
  | zero =>
    intro i hd
    refine Ev.succ ?_
    simp only [slices_Index_int64_int64.l0]
    exact Ev.ite_neg (by omega) (Ev.now _)
  | succ d ih =>
    intro i hd
    refine Ev.succ ?_
    simp only [slices_Index_int64_int64.l0]
    rw [w64 (x := (i : Int) + 1) (by omega) (by omega)]
    refine Ev.ite_pos (by omega) (Ev.ite_pos (by omega) (Ev.ite_pos (by omega) ?_))
    simp only [idxM]
    by_cases h : rd s i = t
    · rw [if_pos h]
      exact Ev.ite_pos h.symm (Ev.now _)
    · rw [if_neg h]
      exact Ev.ite_neg (fun e => h e.symm) (by simpa using ih (i + 1) (by omega))
def hasM (l : List Int) (v : Int) : Bool := l.any fun n => decide (n = v)
theorem idxM_has (s : List Int) (t : Int) : ∀ d i, s.length - i = d → decide (idxM s t d i ≥ 0) = hasM (s.drop i) t := by
  intro d
  induction d with
  | zero =>
    intro i hd
    rw [List.drop_of_length_le (by omega)]
    simp [idxM, hasM]
  | succ d ih =>
    intro i hd
    have hi : i < s.length := by omega
    by_cases h : rd s i = t
    · have e : idxM s t (d + 1) i = (i : Int) := by
        simp only [idxM]
        rw [if_pos h]
      rw [e, List.drop_eq_getElem_cons hi, ← rd_at hi, decide_eq_true (show (i : Int) ≥ 0 by omega)]
      simp [hasM, h]
    · have e : idxM s t (d + 1) i = idxM s t d (i + 1) := by
        simp only [idxM]
        rw [if_neg h]
      rw [e, ih (i + 1) (by omega), List.drop_eq_getElem_cons hi, ← rd_at hi]
      simp [hasM, h]
theorem slices_Contains_ev (s : List Int) (t : Int) (hl : s.length ≤ 1048576) : Ev (fun k => slices_Contains_int64_int64.f k s t) (hasM s t) := by
  unfold slices_Contains_int64_int64.f
  refine Ev.bind (a := idxM s t s.length 0) ?_ ?_
  · unfold slices_Index_int64_int64.f
    simpa using slices_Index_l0 s t hl s.length 0 (by omega)
  · refine Ev.cast (Ev.now _) ?_
    simpa using idxM_has s t s.length 0 (by omega)
def smallB (b : Int) : Bool := decide (97 ≤ b) && decide (b ≤ 122)
def digitB (b : Int) : Bool := decide (48 ≤ b) && decide (b ≤ 57)
def nameB (s : ByteArray) : Bool := decide (1 ≤ s.size) && decide (s.size ≤ 10) && smallB (bt s 0) && (List.range' 0 s.size).all fun j => smallB (bt s j) || digitB (bt s j)
theorem toList_nil (s : ByteArray) : s.toList = [] ↔ s.size = 0 := by
  rw [ByteArray.toList_eq, List.eq_nil_iff_length_eq_zero]
  exact Iff.rfl
theorem spec_l01Small_eq (b : Int) : spec_l01Small.f b = some (smallB b) := by
  unfold spec_l01Small.f smallB
  by_cases h : b ≥ 97
  · have : 97 ≤ b := h
    simp [this]
  · have : ¬ 97 ≤ b := h
    simp [this]
theorem spec_l01Digit_eq (b : Int) : spec_l01Digit.f b = some (digitB b) := by
  unfold spec_l01Digit.f digitB
  by_cases h : b ≥ 48
  · have : 48 ≤ b := h
    simp [this]
  · have : ¬ 48 ≤ b := h
    simp [this]
def bytesB (s : ByteArray) (i d : Nat) : Bool := (List.range' i d).all fun j => smallB (bt s j) || digitB (bt s j)
theorem bytesB_succ (s : ByteArray) (i d : Nat) : bytesB s i (d + 1) = ((smallB (bt s i) || digitB (bt s i)) && bytesB s (i + 1) d) := by
  simp [bytesB, List.range'_succ]
theorem spec_l01Name_l0 (s : ByteArray) (hs : s.size ≤ 10) : ∀ (d i : Nat), s.size - i = d → Ev (fun k => spec_l01Name.l0 k s i) (bytesB s i d) := by
  intro d
  induction d with
  | zero =>
    intro i hd
    refine Ev.succ ?_
    simp only [spec_l01Name.l0]
    refine Ev.ite_neg (by omega) ?_
    exact Ev.now _
  | succ d ih =>
    intro i hd
    refine Ev.succ ?_
    simp only [spec_l01Name.l0]
    refine Ev.ite_pos (by omega) ?_
    refine Ev.ite_pos (by omega) ?_
    refine Ev.bindc (spec_l01Small_eq _) ?_
    have ih' : Ev (fun k => spec_l01Name.l0 k s ((i : Int) + 1)) (bytesB s (i + 1) d) := by simpa using ih (i + 1) (by omega)
    rw [w64 (x := (i : Int) + 1) (by omega) (by omega), bytesB_succ]
    cases h : smallB (bt s i) with
    | true =>
      refine Ev.ite_pos rfl ?_
      simpa using ih'
    | false =>
      refine Ev.ite_neg (by decide) ?_
      refine Ev.bindc (spec_l01Digit_eq _) ?_
      cases h' : digitB (bt s i) with
      | true =>
        refine Ev.ite_pos rfl ?_
        simpa using ih'
      | false =>
        refine Ev.ite_neg (by decide) ?_
        simpa using Ev.now false
theorem spec_l01Name_ev (s : ByteArray) : Ev (fun k => spec_l01Name.f k s) (nameB s) := by
  unfold spec_l01Name.f nameB
  have hno : Ev (fun k => spec_l01Name.j0 k s true) false := by
    refine Ev.succ ?_
    simp only [spec_l01Name.j0]
    exact Ev.ite_pos (by simp) (Ev.now _)
  by_cases h0 : s.size = 0
  · refine Ev.ite_pos ((toList_nil s).2 h0) ?_
    exact Ev.cast hno (by simp [h0])
  refine Ev.ite_neg (fun h => h0 ((toList_nil s).1 h)) ?_
  by_cases h1 : s.size ≤ 10
  · refine Ev.ite_neg (by omega) ?_
    refine Ev.ite_pos (by omega) ?_
    refine Ev.bindc (spec_l01Small_eq _) ?_
    cases h : smallB (bt s 0) with
    | true =>
      refine Ev.succ ?_
      simp only [spec_l01Name.j0]
      refine Ev.ite_neg (by simp) ?_
      have := spec_l01Name_l0 s h1 s.size 0 (by omega)
      refine Ev.cast (by simpa using this) ?_
      have h2 : 1 ≤ s.size := by omega
      simp [bytesB, h1, h2]
    | false => exact Ev.cast hno (by simp)
  · refine Ev.ite_pos (by omega) ?_
    exact Ev.cast hno (by simp; omega)
theorem impl_onlyNameBytes_l0 (s : ByteArray) (hs : s.size ≤ 10) : ∀ (d i : Nat), s.size - i = d → Ev (fun k => impl_onlyNameBytes.l0 k s (s.size : Int) i) (bytesB s i d) := by
  intro d
  induction d with
  | zero =>
    intro i hd
    refine Ev.succ ?_
    simp only [impl_onlyNameBytes.l0]
    refine Ev.ite_neg (by omega) ?_
    exact Ev.now _
  | succ d ih =>
    intro i hd
    refine Ev.succ ?_
    simp only [impl_onlyNameBytes.l0]
    refine Ev.ite_pos (by omega) ?_
    refine Ev.ite_pos (by omega) ?_
    refine Ev.ite_pos (by omega) ?_
    have ih' : Ev (fun k => impl_onlyNameBytes.l0 k s (s.size : Int) ((i : Int) + 1)) (bytesB s (i + 1) d) := by simpa using ih (i + 1) (by omega)
    rw [w64 (x := (i : Int) + 1) (by omega) (by omega), bytesB_succ]
    have key : Ev (fun k => if bt s i < 48 then some false else if bt s i > 57 then some false else impl_onlyNameBytes.l0 k s (s.size : Int) ((i : Int) + 1)) (digitB (bt s i) && bytesB s (i + 1) d) := by
      by_cases a : bt s i < 48
      · refine Ev.ite_pos a ?_
        refine Ev.cast (Ev.now false) ?_
        have : ¬ 48 ≤ bt s i := by omega
        simp [digitB, this]
      refine Ev.ite_neg a ?_
      by_cases b : bt s i > 57
      · refine Ev.ite_pos b ?_
        refine Ev.cast (Ev.now false) ?_
        have : ¬ bt s i ≤ 57 := by omega
        simp [digitB, this]
      refine Ev.ite_neg b ?_
      refine Ev.cast ih' ?_
      have h1 : 48 ≤ bt s i := by omega
      have h2 : bt s i ≤ 57 := by omega
      simp [digitB, h1, h2]
    by_cases a : bt s i < 97
    · refine Ev.ite_pos a ?_
      refine Ev.cast key ?_
      have : ¬ 97 ≤ bt s i := by omega
      simp [smallB, this]
    refine Ev.ite_neg a ?_
    by_cases b : bt s i > 122
    · refine Ev.ite_pos b ?_
      refine Ev.cast key ?_
      have : ¬ bt s i ≤ 122 := by omega
      simp [smallB, this]
    refine Ev.ite_neg b ?_
    refine Ev.cast ih' ?_
    have h1 : 97 ≤ bt s i := by omega
    have h2 : bt s i ≤ 122 := by omega
    simp [smallB, h1, h2]
theorem impl_IsName_ev (s : ByteArray) : Ev (fun k => impl_IsName.f k s) (nameB s) := by
  unfold impl_IsName.f nameB
  by_cases h0 : s.size = 0
  · refine Ev.ite_pos (by omega) ?_
    exact Ev.cast (Ev.now false) (by simp [h0])
  refine Ev.ite_neg (by omega) ?_
  by_cases h1 : s.size ≤ 10
  · refine Ev.ite_neg (by omega) ?_
    refine Ev.ite_pos (by omega) ?_
    by_cases a : bt s 0 < 97
    · refine Ev.ite_pos a ?_
      refine Ev.cast (Ev.now false) ?_
      have : ¬ 97 ≤ bt s 0 := by omega
      simp [smallB, this]
    refine Ev.ite_neg a ?_
    by_cases b : bt s 0 > 122
    · refine Ev.ite_pos b ?_
      refine Ev.cast (Ev.now false) ?_
      have : ¬ bt s 0 ≤ 122 := by omega
      simp [smallB, this]
    refine Ev.ite_neg b ?_
    refine Ev.bind (a := bytesB s 0 s.size) ?_ ?_
    · unfold impl_onlyNameBytes.f
      simpa using impl_onlyNameBytes_l0 s h1 s.size 0 (by omega)
    · refine Ev.cast (Ev.now _) ?_
      have h2 : 1 ≤ s.size := by omega
      have h3 : 97 ≤ bt s 0 := by omega
      have h4 : bt s 0 ≤ 122 := by omega
      simp [bytesB, h1, h2, smallB, h3, h4]
  · refine Ev.ite_pos (by omega) ?_
    exact Ev.cast (Ev.now false) (by simp; omega)
def incB (l : List Int) (i d : Nat) : Bool := (List.range' i d).all fun j => decide (rd l ((j : Int) - 1) < rd l j)
theorem impl_increasing_l0 (l : List Int) (hl : l.length ≤ 9223372036854775807) : ∀ (d i : Nat), l.length - i = d → 1 ≤ i → Ev (fun k => impl_increasing.l0 k l i) (incB l i d) := by
  intro d
  induction d with
  | zero =>
    intro i hd hi
    refine Ev.succ ?_
    simp only [impl_increasing.l0]
    refine Ev.ite_neg (by omega) ?_
    exact Ev.now _
  | succ d ih =>
    intro i hd hi
    refine Ev.succ ?_
    simp only [impl_increasing.l0]
    refine Ev.ite_pos (by omega) ?_
    refine Ev.ite_pos (by omega) ?_
    rw [w64 (x := (i : Int) - 1) (by omega) (by omega), w64 (x := (i : Int) + 1) (by omega) (by omega)]
    refine Ev.ite_pos (by omega) ?_
    refine Ev.ite_pos (by omega) ?_
    have hr : incB l i (d + 1) = (decide (rd l ((i : Int) - 1) < rd l i) && incB l (i + 1) d) := by
      simp [incB, List.range'_succ]
    rw [hr]
    by_cases hx : rd l i ≤ rd l ((i : Int) - 1)
    · refine Ev.ite_pos hx ?_
      refine Ev.cast (Ev.now false) ?_
      have : ¬ rd l ((i : Int) - 1) < rd l i := by omega
      simp [this]
    · refine Ev.ite_neg hx ?_
      have := ih (i + 1) (by omega) (by omega)
      refine Ev.cast (by simpa using this) ?_
      have : rd l ((i : Int) - 1) < rd l i := by omega
      simp [this]
def rgB (l : List Int) (a b : Int) (i d : Nat) : Bool := (List.range' i d).all fun j => decide (a ≤ rd l j) && decide (rd l j ≤ b) && (decide (j = 0) || decide (rd l ((j : Int) - 1) < rd l j))
theorem spec_l00Rises_l0 (l : List Int) (a b : Int) (hl : l.length ≤ 9223372036854775807) : ∀ (d i : Nat), l.length - i = d → i ≤ l.length → Ev (fun k => spec_l00Rises.l0 k l a b i) (rgB l a b i d) := by
  intro d
  induction d with
  | zero =>
    intro i hd hi
    refine Ev.succ ?_
    simp only [spec_l00Rises.l0]
    refine Ev.ite_neg (by omega) ?_
    exact Ev.now _
  | succ d ih =>
    intro i hd hi
    refine Ev.succ ?_
    simp only [spec_l00Rises.l0]
    refine Ev.ite_pos (by omega) ?_
    refine Ev.ite_pos (by omega) ?_
    refine Ev.bindc (spec_l00In_eq _ _ _) ?_
    have hr : rgB l a b i (d + 1) = ((decide (a ≤ rd l i) && decide (rd l i ≤ b) && (decide (i = 0) || decide (rd l ((i : Int) - 1) < rd l i))) && rgB l a b (i + 1) d) := by
      simp [rgB, List.range'_succ]
    rw [hr]
    have ih' := ih (i + 1) (by omega) (by omega)
    rw [w64 (x := (i : Int) + 1) (by omega) (by omega)]
    have ih2 : Ev (fun k => spec_l00Rises.l0 k l a b ((i : Int) + 1)) (rgB l a b (i + 1) d) := by simpa using ih'
    cases hq : (decide (a ≤ rd l i) && decide (rd l i ≤ b)) with
    | true =>
      refine Ev.ite_pos rfl ?_
      by_cases h0 : i = 0
      · refine Ev.ite_neg (by omega) ?_
        refine Ev.cast ih2 ?_
        simp [h0]
      · refine Ev.ite_pos (by omega) ?_
        rw [w64 (x := (i : Int) - 1) (by omega) (by omega)]
        refine Ev.ite_pos (by omega) ?_
        refine Ev.ite_pos (by omega) ?_
        by_cases hx : rd l ((i : Int) - 1) ≥ rd l i
        · refine Ev.ite_pos hx ?_
          refine Ev.cast (Ev.now false) ?_
          have : ¬ rd l ((i : Int) - 1) < rd l i := by omega
          simp [h0, this]
        · refine Ev.ite_neg hx ?_
          refine Ev.cast ih2 ?_
          have : rd l ((i : Int) - 1) < rd l i := by omega
          simp [this]
    | false =>
      refine Ev.ite_neg (by decide) ?_
      refine Ev.cast (Ev.now false) ?_
      simp
def scaleB (l : List Int) : Bool := decide (5 ≤ l.length) && (rgB l 0 11 0 l.length && (rd l 0 == 0))
theorem inc_at {l : List Int} (h : incB l 1 (l.length - 1) = true) : ∀ (d i : Nat), i + d < l.length → rd l i ≤ rd l ((i + d : Nat) : Int) := by
  have hh : ∀ j : Nat, 1 ≤ j → j < l.length → rd l ((j : Int) - 1) < rd l j := by
    intro j h1 h2
    simp only [incB, List.all_eq_true, List.mem_range'_1, decide_eq_true_eq] at h
    exact h j (by omega)
  intro d
  induction d with
  | zero => intro i _; exact Int.le_refl _
  | succ d ih =>
    intro i hi
    have h1 := ih i (by omega)
    have h2 := hh (i + d + 1) (by omega) (by omega)
    have e : (((i + d + 1 : Nat) : Int) - 1) = ((i + d : Nat) : Int) := by omega
    rw [e] at h2
    have e2 : ((i + (d + 1) : Nat) : Int) = ((i + d + 1 : Nat) : Int) := by omega
    rw [e2]
    omega
theorem scale_key (l : List Int) (h5 : 5 ≤ l.length) (h0 : rd l 0 = 0) : rgB l 0 11 0 l.length = (incB l 1 (l.length - 1) && decide (rd l ((l.length : Int) - 1) < 12)) := by
  rw [Bool.eq_iff_iff]
  constructor
  · intro hh
    simp only [rgB, List.all_eq_true, List.mem_range'_1, Bool.and_eq_true, decide_eq_true_eq, Bool.or_eq_true] at hh
    simp only [Bool.and_eq_true, decide_eq_true_eq, incB, List.all_eq_true, List.mem_range'_1]
    refine ⟨fun j hj => ?_, ?_⟩
    · rcases (hh j (by omega)).2 with h | h
      · omega
      · exact h
    · have := (hh (l.length - 1) (by omega)).1
      have e : ((l.length - 1 : Nat) : Int) = (l.length : Int) - 1 := by omega
      rw [e] at this
      omega
  · intro hh
    rw [Bool.and_eq_true, decide_eq_true_eq] at hh
    have ha := inc_at hh.1
    have hi := hh.1
    simp only [incB, List.all_eq_true, List.mem_range'_1, decide_eq_true_eq] at hi
    simp only [rgB, List.all_eq_true, List.mem_range'_1, Bool.and_eq_true, decide_eq_true_eq, Bool.or_eq_true]
    intro j hj
    have h1 := ha j 0 (by omega)
    have h2 := ha (l.length - 1 - j) j (by omega)
    have e : ((j + (l.length - 1 - j) : Nat) : Int) = (l.length : Int) - 1 := by omega
    rw [e] at h2
    have e0 : ((0 + j : Nat) : Int) = (j : Int) := by omega
    have e1 : ((0 : Nat) : Int) = 0 := rfl
    rw [e0, e1, h0] at h1
    refine ⟨⟨h1, by omega⟩, ?_⟩
    by_cases hz : j = 0
    · exact .inl hz
    · exact .inr (hi j (by omega))
theorem impl_ValidScale_ev (l : List Int) (hl : l.length ≤ 9223372036854775807) : Ev (fun k => impl_ValidScale.f k l) (scaleB l) := by
  unfold impl_ValidScale.f scaleB
  by_cases h : 5 ≤ l.length
  · refine Ev.ite_pos (by omega) (Ev.ite_pos (by omega) ?_)
    by_cases h0 : rd l 0 = 0
    · refine Ev.ite_pos h0 ?_
      refine Ev.bind (a := incB l 1 (l.length - 1)) ?_ ?_
      · unfold impl_increasing.f
        simpa using impl_increasing_l0 l hl (l.length - 1) 1 (by omega) (by omega)
      · rw [scale_key l h h0, w64 (x := (l.length : Int) - 1) (by omega) (by omega)]
        cases g : incB l 1 (l.length - 1) with
        | true =>
          refine Ev.ite_pos rfl (Ev.ite_pos (by omega) (Ev.ite_pos (by omega) ?_))
          refine Ev.cast (Ev.now _) ?_
          simp [h, h0]
        | false =>
          refine Ev.ite_neg (by decide) ?_
          simpa using Ev.now false
    · refine Ev.ite_neg h0 ?_
      refine Ev.cast (Ev.now false) ?_
      simp [h0]
  · refine Ev.ite_neg (by omega) ?_
    simpa [h] using Ev.now false
def tn (a : Int) : Int := Int.tmod (wrap64 ((Int.tmod a 12) + 12)) 12
def toneB (u d : List Int) (t : Int) : Bool := hasM u t || hasM d t
def pairB (p : List Int) : Bool := decide (p.length = 2) && ((decide (0 ≤ rd p 0) && decide (rd p 0 ≤ 11)) && ((decide (0 ≤ rd p 1) && decide (rd p 1 ≤ 11)) && decide (rd p 0 ≠ rd p 1)))
def ltP (p q : List Int) : Bool := decide (rd p 0 < rd q 0) || (decide (rd p 0 = rd q 0) && decide (rd p 1 < rd q 1))
def pairsM (f : List (List Int)) : Nat → Nat → Bool
  | 0, _ => true
  | d + 1, i => (pairB (rd_L1 f i) && (decide (i = 0) || ltP (rd_L1 f ((i : Int) - 1)) (rd_L1 f i))) && pairsM f d (i + 1)
def ragaB (s : ByteArray) (u d : List Int) (st wk : Int) (f : List (List Int)) : Bool :=
  nameB s && (scaleB u && (scaleB d && (toneB u d st && (toneB u d wk && (decide (st ≠ wk) && (pairsM f f.length 0 && decide (f.length ≤ 8)))))))
theorem pairsM_at {f : List (List Int)} : ∀ (d i : Nat), pairsM f d i = true → ∀ j, i ≤ j → j < i + d → pairB (rd_L1 f j) = true := by
  intro d
  induction d with
  | zero => intro i _ j h1 h2; omega
  | succ d ih =>
    intro i h j h1 h2
    simp only [pairsM, Bool.and_eq_true] at h
    by_cases e : j = i
    · subst e
      exact h.1.1
    · exact ih (i + 1) h.2 j (by omega) (by omega)
theorem pairB_len {p : List Int} (h : pairB p = true) : p.length = 2 := by
  simp only [pairB, Bool.and_eq_true, decide_eq_true_eq] at h
  exact h.1
theorem ragaB_parts {s : ByteArray} {u d : List Int} {st wk : Int} {f : List (List Int)} (h : ragaB s u d st wk f = true) : scaleB u = true ∧ scaleB d = true ∧ f.length ≤ 8 ∧ ∀ j, j < f.length → (rd_L1 f j).length = 2 := by
  simp only [ragaB, Bool.and_eq_true, decide_eq_true_eq] at h
  exact ⟨h.2.1, h.2.2.1, h.2.2.2.2.2.2.2, fun j hj => pairB_len (pairsM_at _ _ h.2.2.2.2.2.2.1 j (by omega) (by omega))⟩
def pairQ (a b : Int) (p : List Int) : Bool := decide (rd p 0 = a) && decide (rd p 1 = b)
def reasonR (u d : List Int) (f : List (List Int)) (a b : Int) : Int :=
  if (toneB u d (tn a) && toneB u d (tn b)) = true then (if max (a - b) (b - a) > 12 then 2 else if b > a ∧ hasM u (tn b) = false then 3 else if b < a ∧ hasM d (tn b) = false then 4 else if f.any (pairQ (tn a) (tn b)) = true then 5 else 0) else 1
theorem rdL_at {f : List (List Int)} {i : Nat} (h : i < f.length) : rd_L1 f (i : Int) = f[i] := by simp [rd_L1, h]
end Go.Proofs.Ytinlejhffokbaaa.P
end
