/- Texts of this seat, merged: QImplGrowstages, QLawsEqint64S. -/
import Derived.Test.YtinlejhffokbaaaGGS1
import Derived.Test.YtinlejhffokbaaaGGS2
section
namespace Go.Proofs.Ytinlejhffokbaaa.P
open Go.RowKit Go.Proofs.YtinlejhffokbaaaW.PrintWords Go.Proofs.YtinlejhffokbaaaW.PrintLast Go.Proofs.YtinlejhffokbaaaW.PrintMore
attribute [local go_sem] max2_int min2_int max_two min_two max_three min_three max_four min_four   -- for this text's walks alone
set_option linter.unusedVariables false
set_option linter.unusedSimpArgs false
/-! ### impl_GrowStages: function 36 -/
def impl_GrowStages.K0 : Array Bool := #[n_,n_,n_,n_,n_,n_,n_,n_,n_,n_,n_,n_,n_,n_,n_,n_,n_,n_,n_,n_,n_,n_,n_,n_,n_,n_,n_,n_,n_,n_,n_,n_,n_,n_,n_,n_,n_,n_,n_,n_,n_,n_,n_,n_,n_,n_,n_,n_,n_,n_,n_,n_,n_,n_]
def impl_GrowStages.K1 : Array Bool := #[y_,n_,n_,n_,n_,n_,n_,n_,n_,n_,n_,n_,n_,n_,n_,n_,n_,n_,n_,n_,n_,n_,n_,n_,n_,n_,n_,n_,n_,n_,n_,n_,n_,n_,n_,n_,n_,n_,n_,n_,n_,n_,n_,n_,n_,n_,n_,n_,n_,n_,n_,n_,n_,n_]
def impl_GrowStages.K2 : Array Bool := #[y_,y_,n_,n_,n_,n_,n_,n_,n_,n_,n_,n_,n_,n_,n_,n_,n_,n_,n_,n_,n_,n_,n_,n_,n_,n_,n_,n_,n_,n_,n_,n_,n_,n_,n_,n_,n_,n_,n_,n_,n_,n_,n_,n_,n_,n_,n_,n_,n_,n_,n_,n_,n_,n_]
def impl_GrowStages.K3 : Array Bool := #[y_,y_,y_,n_,n_,n_,n_,n_,n_,n_,n_,n_,n_,n_,n_,n_,n_,n_,n_,n_,n_,n_,n_,n_,n_,n_,n_,n_,n_,n_,n_,n_,n_,n_,n_,n_,n_,n_,n_,n_,n_,n_,n_,n_,n_,n_,n_,n_,n_,n_,n_,n_,n_,n_]
def impl_GrowStages.K4 : Array Bool := #[y_,y_,y_,y_,n_,n_,n_,n_,n_,n_,n_,n_,n_,n_,n_,n_,n_,n_,n_,n_,n_,n_,n_,n_,n_,n_,n_,n_,n_,n_,n_,n_,n_,n_,n_,n_,n_,n_,n_,n_,n_,n_,n_,n_,n_,n_,n_,n_,n_,n_,n_,n_,n_,n_]
def impl_GrowStages.K5 : Array Bool := #[y_,y_,y_,y_,y_,n_,n_,n_,n_,n_,n_,n_,n_,n_,n_,n_,n_,n_,n_,n_,n_,n_,n_,n_,n_,n_,n_,n_,n_,n_,n_,n_,n_,n_,n_,n_,n_,n_,n_,n_,n_,n_,n_,n_,n_,n_,n_,n_,n_,n_,n_,n_,n_,n_]
def impl_GrowStages.K6 : Array Bool := #[y_,y_,y_,y_,y_,y_,n_,n_,n_,n_,n_,n_,n_,n_,n_,n_,n_,n_,n_,n_,n_,n_,n_,n_,n_,n_,n_,n_,n_,n_,n_,n_,n_,n_,n_,n_,n_,n_,n_,n_,n_,n_,n_,n_,n_,n_,n_,n_,n_,n_,n_,n_,n_,n_]
def impl_GrowStages.K7 : Array Bool := #[y_,y_,y_,y_,y_,y_,n_,y_,n_,n_,n_,n_,n_,n_,n_,n_,n_,n_,n_,n_,n_,n_,n_,n_,n_,n_,n_,n_,n_,n_,n_,n_,n_,n_,n_,n_,n_,n_,n_,n_,n_,n_,n_,n_,n_,n_,n_,n_,n_,n_,n_,n_,n_,n_]
def impl_GrowStages.K8 : Array Bool := #[y_,y_,y_,y_,y_,y_,n_,y_,y_,n_,n_,n_,n_,n_,n_,n_,n_,n_,n_,n_,n_,n_,n_,n_,n_,n_,n_,n_,n_,n_,n_,n_,n_,n_,n_,n_,n_,n_,n_,n_,n_,n_,n_,n_,n_,n_,n_,n_,n_,n_,n_,n_,n_,n_]
def impl_GrowStages.K9 : Array Bool := #[y_,y_,y_,y_,y_,y_,y_,y_,y_,n_,n_,n_,n_,n_,n_,n_,n_,n_,n_,n_,n_,n_,n_,n_,n_,n_,n_,n_,n_,n_,n_,n_,n_,n_,n_,n_,n_,n_,n_,n_,n_,n_,n_,n_,n_,n_,n_,n_,n_,n_,n_,n_,n_,n_]
def impl_GrowStages.K10 : Array Bool := #[y_,y_,y_,y_,y_,y_,y_,y_,y_,y_,n_,n_,n_,n_,n_,n_,n_,n_,n_,n_,n_,n_,n_,n_,n_,n_,n_,n_,n_,n_,n_,n_,n_,n_,n_,n_,n_,n_,n_,n_,n_,n_,n_,n_,n_,n_,n_,n_,n_,n_,n_,n_,n_,n_]
def impl_GrowStages.K11 : Array Bool := #[y_,y_,y_,y_,y_,y_,y_,y_,y_,y_,y_,n_,n_,n_,n_,n_,n_,n_,n_,n_,n_,n_,n_,n_,n_,n_,n_,n_,n_,n_,n_,n_,n_,n_,n_,n_,n_,n_,n_,n_,n_,n_,n_,n_,n_,n_,n_,n_,n_,n_,n_,n_,n_,n_]
def impl_GrowStages.K12 : Array Bool := #[y_,y_,y_,y_,y_,y_,y_,y_,y_,y_,y_,y_,n_,n_,n_,n_,n_,n_,n_,n_,n_,n_,n_,n_,n_,n_,n_,n_,n_,n_,n_,n_,n_,n_,n_,n_,n_,n_,n_,n_,n_,n_,n_,n_,n_,n_,n_,n_,n_,n_,n_,n_,n_,n_]
def impl_GrowStages.K13 : Array Bool := #[y_,y_,y_,y_,y_,y_,y_,y_,y_,y_,y_,y_,y_,n_,n_,n_,n_,n_,n_,n_,n_,n_,n_,n_,n_,n_,n_,n_,n_,n_,n_,n_,n_,n_,n_,n_,n_,n_,n_,n_,n_,n_,n_,n_,n_,n_,n_,n_,n_,n_,n_,n_,n_,n_]
def impl_GrowStages.K14 : Array Bool := #[y_,y_,y_,y_,y_,y_,y_,y_,y_,y_,y_,y_,y_,y_,n_,n_,n_,n_,n_,n_,n_,n_,n_,n_,n_,n_,n_,n_,n_,n_,n_,n_,n_,n_,n_,n_,n_,n_,n_,n_,n_,n_,n_,n_,n_,n_,n_,n_,n_,n_,n_,n_,n_,n_]
def impl_GrowStages.K15 : Array Bool := #[y_,y_,y_,y_,y_,y_,y_,y_,y_,y_,y_,y_,y_,y_,y_,n_,n_,n_,n_,n_,n_,n_,n_,n_,n_,n_,n_,n_,n_,n_,n_,n_,n_,n_,n_,n_,n_,n_,n_,n_,n_,n_,n_,n_,n_,n_,n_,n_,n_,n_,n_,n_,n_,n_]
def impl_GrowStages.K16 : Array Bool := #[y_,y_,y_,y_,y_,y_,y_,y_,y_,y_,y_,y_,y_,y_,y_,y_,n_,n_,n_,n_,n_,n_,n_,n_,n_,n_,n_,n_,n_,n_,n_,n_,n_,n_,n_,n_,n_,n_,n_,n_,n_,n_,n_,n_,n_,n_,n_,n_,n_,n_,n_,n_,n_,n_]
def impl_GrowStages.K17 : Array Bool := #[y_,y_,y_,y_,y_,y_,y_,y_,y_,y_,y_,y_,y_,y_,y_,y_,y_,n_,n_,n_,n_,n_,n_,n_,n_,n_,n_,n_,n_,n_,n_,n_,n_,n_,n_,n_,n_,n_,n_,n_,n_,n_,n_,n_,n_,n_,n_,n_,n_,n_,n_,n_,n_,n_]
def impl_GrowStages.K18 : Array Bool := #[y_,y_,y_,y_,y_,y_,y_,y_,y_,y_,y_,y_,y_,y_,y_,y_,y_,n_,y_,n_,n_,n_,n_,n_,n_,n_,n_,n_,n_,n_,n_,n_,n_,n_,n_,n_,n_,n_,n_,n_,n_,n_,n_,n_,n_,n_,n_,n_,n_,n_,n_,n_,n_,n_]
def impl_GrowStages.K19 : Array Bool := #[y_,y_,y_,y_,y_,y_,y_,y_,y_,y_,y_,y_,y_,y_,y_,y_,y_,n_,y_,y_,n_,n_,n_,n_,n_,n_,n_,n_,n_,n_,n_,n_,n_,n_,n_,n_,n_,n_,n_,n_,n_,n_,n_,n_,n_,n_,n_,n_,n_,n_,n_,n_,n_,n_]
def impl_GrowStages.K20 : Array Bool := #[y_,y_,y_,y_,y_,y_,y_,y_,y_,y_,y_,y_,y_,y_,y_,y_,y_,y_,y_,y_,n_,n_,n_,n_,n_,n_,n_,n_,n_,n_,n_,n_,n_,n_,n_,n_,n_,n_,n_,n_,n_,n_,n_,n_,n_,n_,n_,n_,n_,n_,n_,n_,n_,n_]
def impl_GrowStages.K21 : Array Bool := #[y_,y_,y_,y_,y_,y_,y_,y_,y_,y_,y_,y_,y_,y_,y_,y_,y_,y_,y_,y_,y_,n_,n_,n_,n_,n_,n_,n_,n_,n_,n_,n_,n_,n_,n_,n_,n_,n_,n_,n_,n_,n_,n_,n_,n_,n_,n_,n_,n_,n_,n_,n_,n_,n_]
def impl_GrowStages.K22 : Array Bool := #[y_,y_,y_,y_,y_,y_,y_,y_,y_,y_,y_,y_,y_,y_,y_,y_,y_,y_,y_,y_,y_,y_,n_,n_,n_,n_,n_,n_,n_,n_,n_,n_,n_,n_,n_,n_,n_,n_,n_,n_,n_,n_,n_,n_,n_,n_,n_,n_,n_,n_,n_,n_,n_,n_]
def impl_GrowStages.K23 : Array Bool := #[y_,y_,y_,y_,y_,y_,y_,y_,y_,y_,y_,y_,y_,y_,y_,y_,y_,y_,y_,y_,y_,y_,y_,n_,n_,n_,n_,n_,n_,n_,n_,n_,n_,n_,n_,n_,n_,n_,n_,n_,n_,n_,n_,n_,n_,n_,n_,n_,n_,n_,n_,n_,n_,n_]
def impl_GrowStages.K24 : Array Bool := #[y_,y_,y_,y_,y_,y_,y_,y_,y_,y_,y_,y_,y_,y_,y_,y_,y_,y_,y_,y_,y_,y_,y_,y_,n_,n_,n_,n_,n_,n_,n_,n_,n_,n_,n_,n_,n_,n_,n_,n_,n_,n_,n_,n_,n_,n_,n_,n_,n_,n_,n_,n_,n_,n_]
def impl_GrowStages.K25 : Array Bool := #[y_,y_,y_,y_,y_,y_,y_,y_,y_,y_,y_,y_,y_,y_,y_,y_,y_,y_,y_,y_,y_,y_,y_,y_,y_,n_,n_,n_,n_,n_,n_,n_,n_,n_,n_,n_,n_,n_,n_,n_,n_,n_,n_,n_,n_,n_,n_,n_,n_,n_,n_,n_,n_,n_]
def impl_GrowStages.K26 : Array Bool := #[y_,y_,y_,y_,y_,y_,y_,y_,y_,y_,y_,y_,y_,y_,y_,y_,y_,y_,y_,y_,y_,y_,y_,y_,y_,y_,n_,n_,n_,n_,n_,n_,n_,n_,n_,n_,n_,n_,n_,n_,n_,n_,n_,n_,n_,n_,n_,n_,n_,n_,n_,n_,n_,n_]
def impl_GrowStages.K27 : Array Bool := #[y_,y_,y_,y_,y_,y_,y_,y_,y_,y_,y_,y_,y_,y_,y_,y_,y_,y_,y_,y_,y_,y_,y_,y_,y_,y_,y_,n_,n_,n_,n_,n_,n_,n_,n_,n_,n_,n_,n_,n_,n_,n_,n_,n_,n_,n_,n_,n_,n_,n_,n_,n_,n_,n_]
def impl_GrowStages.K28 : Array Bool := #[y_,y_,y_,y_,y_,y_,y_,y_,y_,y_,y_,y_,y_,y_,y_,y_,y_,y_,y_,y_,y_,y_,y_,y_,y_,y_,y_,y_,n_,n_,n_,n_,n_,n_,n_,n_,n_,n_,n_,n_,n_,n_,n_,n_,n_,n_,n_,n_,n_,n_,n_,n_,n_,n_]
def impl_GrowStages.K29 : Array Bool := #[y_,y_,y_,y_,y_,y_,y_,y_,y_,y_,y_,y_,y_,y_,y_,y_,y_,y_,y_,y_,y_,y_,y_,y_,y_,y_,y_,y_,y_,n_,n_,n_,n_,n_,n_,n_,n_,n_,n_,n_,n_,n_,n_,n_,n_,n_,n_,n_,n_,n_,n_,n_,n_,n_]
def impl_GrowStages.K30 : Array Bool := #[y_,y_,y_,y_,y_,y_,y_,y_,y_,y_,y_,y_,y_,y_,y_,y_,y_,y_,y_,y_,y_,y_,y_,y_,y_,y_,y_,y_,y_,y_,n_,n_,n_,n_,n_,n_,n_,n_,n_,n_,n_,n_,n_,n_,n_,n_,n_,n_,n_,n_,n_,n_,n_,n_]
def impl_GrowStages.K31 : Array Bool := #[y_,y_,y_,y_,y_,y_,y_,y_,y_,y_,y_,y_,y_,y_,y_,y_,y_,y_,y_,y_,y_,y_,y_,y_,y_,y_,y_,y_,y_,y_,n_,y_,n_,n_,n_,n_,n_,n_,n_,n_,n_,n_,n_,n_,n_,n_,n_,n_,n_,n_,n_,n_,n_,n_]
def impl_GrowStages.K32 : Array Bool := #[y_,y_,y_,y_,y_,y_,y_,y_,y_,y_,y_,y_,y_,y_,y_,y_,y_,y_,y_,y_,y_,y_,y_,y_,y_,y_,y_,y_,y_,y_,n_,y_,y_,n_,n_,n_,n_,n_,n_,n_,n_,n_,n_,n_,n_,n_,n_,n_,n_,n_,n_,n_,n_,n_]
def impl_GrowStages.K33 : Array Bool := #[y_,y_,y_,y_,y_,y_,y_,y_,y_,y_,y_,y_,y_,y_,y_,y_,y_,y_,y_,y_,y_,y_,y_,y_,y_,y_,y_,y_,y_,y_,n_,y_,y_,y_,n_,n_,n_,n_,n_,n_,n_,n_,n_,n_,n_,n_,n_,n_,n_,n_,n_,n_,n_,n_]
def impl_GrowStages.K34 : Array Bool := #[y_,y_,y_,y_,y_,y_,y_,y_,y_,y_,y_,y_,y_,y_,y_,y_,y_,y_,y_,y_,y_,y_,y_,y_,y_,y_,y_,y_,y_,y_,n_,y_,y_,y_,y_,n_,n_,n_,n_,n_,n_,n_,n_,n_,n_,n_,n_,n_,n_,n_,n_,n_,n_,n_]
def impl_GrowStages.K35 : Array Bool := #[y_,y_,y_,y_,y_,y_,y_,y_,y_,y_,y_,y_,y_,y_,y_,y_,y_,y_,y_,y_,y_,y_,y_,y_,y_,y_,y_,y_,y_,y_,y_,y_,y_,y_,y_,n_,n_,n_,n_,n_,n_,n_,n_,n_,n_,n_,n_,n_,n_,n_,n_,n_,n_,n_]
def impl_GrowStages.K36 : Array Bool := #[y_,y_,y_,y_,y_,y_,y_,y_,y_,y_,y_,y_,y_,y_,y_,y_,y_,y_,y_,y_,y_,y_,y_,y_,y_,y_,y_,y_,y_,y_,y_,y_,y_,y_,y_,y_,n_,n_,n_,n_,n_,n_,n_,n_,n_,n_,n_,n_,n_,n_,n_,n_,n_,n_]
def impl_GrowStages.K37 : Array Bool := #[y_,y_,y_,y_,y_,y_,y_,y_,y_,y_,y_,y_,y_,y_,y_,y_,y_,y_,y_,y_,y_,y_,y_,y_,y_,y_,y_,y_,y_,y_,y_,y_,y_,y_,y_,y_,y_,n_,n_,n_,n_,n_,n_,n_,n_,n_,n_,n_,n_,n_,n_,n_,n_,n_]
def impl_GrowStages.K38 : Array Bool := #[y_,y_,y_,y_,y_,y_,y_,y_,y_,y_,y_,y_,y_,y_,y_,y_,y_,y_,y_,y_,y_,y_,y_,y_,y_,y_,y_,y_,y_,y_,y_,y_,y_,y_,y_,y_,y_,y_,n_,n_,n_,n_,n_,n_,n_,n_,n_,n_,n_,n_,n_,n_,n_,n_]
def impl_GrowStages.K39 : Array Bool := #[y_,y_,y_,y_,y_,y_,y_,y_,y_,y_,y_,y_,y_,y_,y_,y_,y_,y_,y_,y_,y_,y_,y_,y_,y_,y_,y_,y_,y_,y_,y_,y_,y_,y_,y_,y_,y_,y_,y_,n_,n_,n_,n_,n_,n_,n_,n_,n_,n_,n_,n_,n_,n_,n_]
def impl_GrowStages.K40 : Array Bool := #[y_,y_,y_,y_,y_,y_,y_,y_,y_,y_,y_,y_,y_,y_,y_,y_,y_,y_,y_,y_,y_,y_,y_,y_,y_,y_,y_,y_,y_,y_,y_,y_,y_,y_,y_,y_,y_,y_,y_,y_,n_,n_,n_,n_,n_,n_,n_,n_,n_,n_,n_,n_,n_,n_]
def impl_GrowStages.K41 : Array Bool := #[y_,y_,y_,y_,y_,y_,y_,y_,y_,y_,y_,y_,y_,y_,y_,y_,y_,y_,y_,y_,y_,y_,y_,y_,y_,y_,y_,y_,y_,y_,y_,y_,y_,y_,y_,y_,y_,y_,y_,y_,y_,n_,n_,n_,n_,n_,n_,n_,n_,n_,n_,n_,n_,n_]
def impl_GrowStages.K42 : Array Bool := #[y_,y_,y_,y_,y_,y_,y_,y_,y_,y_,y_,y_,y_,y_,y_,y_,y_,y_,y_,y_,y_,y_,y_,y_,y_,y_,y_,y_,y_,y_,y_,y_,y_,y_,y_,y_,y_,y_,y_,y_,y_,y_,n_,n_,n_,n_,n_,n_,n_,n_,n_,n_,n_,n_]
def impl_GrowStages.K43 : Array Bool := #[y_,y_,y_,y_,y_,y_,y_,y_,y_,y_,y_,y_,y_,y_,y_,y_,y_,y_,y_,y_,y_,y_,y_,y_,y_,y_,y_,y_,y_,y_,y_,y_,y_,y_,y_,y_,y_,y_,y_,y_,y_,y_,y_,n_,n_,n_,n_,n_,n_,n_,n_,n_,n_,n_]
def impl_GrowStages.K44 : Array Bool := #[y_,y_,y_,y_,y_,y_,y_,y_,y_,y_,y_,y_,y_,y_,y_,y_,y_,y_,y_,y_,y_,y_,y_,y_,y_,y_,y_,y_,y_,y_,y_,y_,y_,y_,y_,y_,y_,y_,y_,y_,y_,y_,y_,y_,n_,n_,n_,n_,n_,n_,n_,n_,n_,n_]
def impl_GrowStages.K45 : Array Bool := #[y_,y_,y_,y_,y_,y_,y_,y_,y_,y_,y_,y_,y_,y_,y_,y_,y_,y_,y_,y_,y_,y_,y_,y_,y_,y_,y_,y_,y_,y_,y_,y_,y_,y_,y_,y_,y_,y_,y_,y_,y_,y_,y_,y_,y_,n_,n_,n_,n_,n_,n_,n_,n_,n_]
def impl_GrowStages.K46 : Array Bool := #[y_,y_,y_,y_,y_,y_,y_,y_,y_,y_,y_,y_,y_,y_,y_,y_,y_,y_,y_,y_,y_,y_,y_,y_,y_,y_,y_,y_,y_,y_,y_,y_,y_,y_,y_,y_,y_,y_,y_,y_,y_,y_,y_,y_,y_,y_,n_,n_,n_,n_,n_,n_,n_,n_]
def impl_GrowStages.K47 : Array Bool := #[y_,y_,y_,y_,y_,y_,y_,y_,y_,y_,y_,y_,y_,y_,y_,y_,y_,y_,y_,y_,y_,y_,y_,y_,y_,y_,y_,y_,y_,y_,y_,y_,y_,y_,y_,y_,y_,y_,y_,y_,y_,y_,y_,y_,y_,y_,y_,n_,n_,n_,n_,n_,n_,n_]
def impl_GrowStages.K48 : Array Bool := #[y_,y_,y_,y_,y_,y_,y_,y_,y_,y_,y_,y_,y_,y_,y_,y_,y_,y_,y_,y_,y_,y_,y_,y_,y_,y_,y_,y_,y_,y_,y_,y_,y_,y_,y_,y_,y_,y_,y_,y_,y_,y_,y_,y_,y_,y_,y_,y_,n_,n_,n_,n_,n_,n_]
def impl_GrowStages.K49 : Array Bool := #[y_,y_,y_,y_,y_,y_,y_,y_,y_,y_,y_,y_,y_,y_,y_,y_,y_,y_,y_,y_,y_,y_,y_,y_,y_,y_,y_,y_,y_,y_,y_,y_,y_,y_,y_,y_,y_,y_,y_,y_,y_,y_,y_,y_,y_,y_,y_,y_,y_,n_,n_,n_,n_,n_]
def impl_GrowStages.K50 : Array Bool := #[y_,y_,y_,y_,y_,y_,y_,y_,y_,y_,y_,y_,y_,y_,y_,y_,y_,y_,y_,y_,y_,y_,y_,y_,y_,y_,y_,y_,y_,y_,y_,y_,y_,y_,y_,y_,y_,y_,y_,y_,y_,y_,y_,y_,y_,y_,y_,y_,y_,y_,n_,n_,n_,n_]
def impl_GrowStages.K51 : Array Bool := #[y_,y_,y_,y_,y_,y_,y_,y_,y_,y_,y_,y_,y_,y_,y_,y_,y_,y_,y_,y_,y_,y_,y_,y_,y_,y_,y_,y_,y_,y_,y_,y_,y_,y_,y_,y_,y_,y_,y_,y_,y_,y_,y_,y_,y_,y_,y_,y_,y_,y_,y_,n_,n_,n_]
def impl_GrowStages.K52 : Array Bool := #[y_,y_,y_,y_,y_,y_,y_,y_,y_,y_,y_,y_,y_,y_,y_,y_,y_,y_,y_,y_,y_,y_,y_,y_,y_,y_,y_,y_,y_,y_,y_,y_,y_,y_,y_,y_,y_,y_,y_,y_,y_,y_,y_,y_,y_,y_,y_,y_,y_,y_,y_,y_,n_,n_]
def impl_GrowStages.K53 : Array Bool := #[y_,y_,y_,y_,y_,y_,y_,y_,y_,y_,y_,y_,y_,y_,y_,y_,y_,y_,y_,y_,y_,y_,y_,y_,y_,y_,y_,y_,y_,y_,y_,y_,y_,y_,y_,y_,y_,y_,y_,y_,y_,y_,y_,y_,y_,y_,y_,y_,y_,y_,y_,y_,y_,n_]
def impl_GrowStages.K54 : Array Bool := #[y_,y_,y_,y_,y_,y_,y_,y_,y_,y_,y_,y_,y_,y_,y_,y_,y_,y_,y_,y_,y_,y_,y_,y_,y_,y_,y_,y_,y_,y_,y_,y_,y_,y_,y_,y_,y_,y_,y_,y_,y_,y_,y_,y_,y_,y_,y_,y_,y_,y_,y_,y_,y_,y_]
def impl_GrowStages.K55 : Array Bool := #[y_,y_,y_,y_,y_,y_,y_,y_,y_,y_,y_,y_,y_,y_,y_,y_,y_,y_,y_,y_,y_,y_,y_,y_,y_,y_,y_,y_,y_,y_,y_,y_,y_,y_,y_,y_,y_,y_,y_,y_,y_,y_,n_,y_,n_,n_,n_,n_,n_,n_,n_,n_,n_,n_]
def impl_GrowStages.K56 : Array Bool := #[y_,y_,y_,y_,y_,y_,y_,y_,y_,y_,y_,y_,y_,y_,y_,y_,y_,y_,y_,y_,y_,y_,y_,y_,y_,y_,y_,y_,y_,y_,y_,y_,y_,y_,y_,y_,y_,y_,y_,y_,y_,y_,n_,y_,y_,n_,n_,n_,n_,n_,n_,n_,n_,n_]
def impl_GrowStages.K57 : Array Bool := #[y_,y_,y_,y_,y_,y_,y_,y_,y_,y_,y_,y_,y_,y_,y_,y_,y_,y_,y_,y_,y_,y_,y_,y_,y_,y_,y_,y_,y_,y_,y_,y_,y_,y_,y_,y_,y_,y_,y_,y_,y_,y_,n_,y_,y_,y_,n_,n_,n_,n_,n_,n_,n_,n_]
def impl_GrowStages.K58 : Array Bool := #[y_,y_,y_,y_,y_,y_,y_,y_,y_,y_,y_,y_,y_,y_,y_,y_,y_,y_,y_,y_,y_,y_,y_,y_,y_,y_,y_,y_,y_,y_,y_,y_,y_,y_,y_,y_,y_,y_,y_,y_,y_,y_,n_,y_,y_,y_,y_,n_,n_,n_,n_,n_,n_,n_]
def impl_GrowStages.K59 : Array Bool := #[y_,y_,y_,y_,y_,y_,y_,y_,y_,y_,y_,y_,y_,y_,y_,y_,y_,y_,y_,y_,y_,y_,y_,y_,y_,y_,y_,y_,y_,y_,y_,n_,n_,n_,n_,n_,n_,n_,n_,n_,n_,n_,n_,n_,n_,n_,n_,n_,n_,n_,n_,n_,n_,n_]
def impl_GrowStages.K60 : Array Bool := #[y_,y_,y_,y_,y_,y_,y_,y_,y_,y_,y_,y_,y_,y_,y_,y_,y_,y_,y_,y_,y_,y_,y_,y_,y_,y_,y_,y_,y_,y_,y_,y_,n_,n_,n_,n_,n_,n_,n_,n_,n_,n_,n_,n_,n_,n_,n_,n_,n_,n_,n_,n_,n_,n_]
def impl_GrowStages.K61 : Array Bool := #[y_,y_,y_,y_,y_,y_,y_,y_,y_,y_,y_,y_,y_,y_,y_,y_,y_,y_,y_,y_,y_,y_,y_,y_,y_,y_,y_,y_,y_,y_,y_,y_,y_,n_,n_,n_,n_,n_,n_,n_,n_,n_,n_,n_,n_,n_,n_,n_,n_,n_,n_,n_,n_,n_]
def impl_GrowStages.K62 : Array Bool := #[y_,y_,y_,y_,y_,y_,y_,y_,y_,y_,y_,y_,y_,y_,y_,y_,y_,y_,y_,y_,y_,y_,y_,y_,y_,y_,y_,y_,y_,y_,y_,y_,y_,y_,n_,n_,n_,n_,n_,n_,n_,n_,n_,n_,n_,n_,n_,n_,n_,n_,n_,n_,n_,n_]
def impl_GrowStages.K63 : Array Bool := #[y_,y_,y_,y_,y_,y_,y_,y_,y_,y_,y_,y_,y_,y_,y_,y_,y_,y_,n_,n_,n_,n_,n_,n_,n_,n_,n_,n_,n_,n_,n_,n_,n_,n_,n_,n_,n_,n_,n_,n_,n_,n_,n_,n_,n_,n_,n_,n_,n_,n_,n_,n_,n_,n_]
def impl_GrowStages.K64 : Array Bool := #[y_,y_,y_,y_,y_,y_,y_,y_,y_,y_,y_,y_,y_,y_,y_,y_,y_,y_,y_,n_,n_,n_,n_,n_,n_,n_,n_,n_,n_,n_,n_,n_,n_,n_,n_,n_,n_,n_,n_,n_,n_,n_,n_,n_,n_,n_,n_,n_,n_,n_,n_,n_,n_,n_]
def impl_GrowStages.K65 : Array Bool := #[y_,y_,y_,y_,y_,y_,y_,n_,n_,n_,n_,n_,n_,n_,n_,n_,n_,n_,n_,n_,n_,n_,n_,n_,n_,n_,n_,n_,n_,n_,n_,n_,n_,n_,n_,n_,n_,n_,n_,n_,n_,n_,n_,n_,n_,n_,n_,n_,n_,n_,n_,n_,n_,n_]
def impl_GrowStages.K66 : Array Bool := #[y_,y_,y_,y_,y_,y_,y_,y_,n_,n_,n_,n_,n_,n_,n_,n_,n_,n_,n_,n_,n_,n_,n_,n_,n_,n_,n_,n_,n_,n_,n_,n_,n_,n_,n_,n_,n_,n_,n_,n_,n_,n_,n_,n_,n_,n_,n_,n_,n_,n_,n_,n_,n_,n_]
def impl_GrowStages.K67 : Array Bool := #[n_,n_,n_,n_,n_,n_,n_,n_,n_,n_,n_,n_,n_,n_,n_,n_,n_,n_,n_]
def impl_GrowStages.K68 : Array Bool := #[n_,y_,n_,n_,n_,n_,n_,n_,n_,n_,n_,n_,n_,n_,n_,n_,n_,n_,n_]
def impl_GrowStages.K69 : Array Bool := #[n_,y_,y_,n_,n_,n_,n_,n_,n_,n_,n_,n_,n_,n_,n_,n_,n_,n_,n_]
def impl_GrowStages.K70 : Array Bool := #[n_,y_,y_,y_,n_,n_,n_,n_,n_,n_,n_,n_,n_,n_,n_,n_,n_,n_,n_]
def impl_GrowStages.K71 : Array Bool := #[n_,y_,y_,y_,y_,n_,n_,n_,n_,n_,n_,n_,n_,n_,n_,n_,n_,n_,n_]
def impl_GrowStages.K72 : Array Bool := #[n_,y_,y_,y_,y_,y_,n_,n_,n_,n_,n_,n_,n_,n_,n_,n_,n_,n_,n_]
def impl_GrowStages.K73 : Array Bool := #[n_,y_,y_,y_,y_,y_,n_,y_,n_,n_,n_,n_,n_,n_,n_,n_,n_,n_,n_]
def impl_GrowStages.K74 : Array Bool := #[n_,y_,y_,y_,y_,y_,n_,y_,y_,n_,n_,n_,n_,n_,n_,n_,n_,n_,n_]
def impl_GrowStages.K75 : Array Bool := #[n_,y_,y_,y_,y_,y_,n_,y_,y_,n_,y_,n_,n_,n_,n_,n_,n_,n_,n_]
def impl_GrowStages.K76 : Array Bool := #[n_,y_,y_,y_,y_,y_,n_,y_,y_,n_,y_,y_,n_,n_,n_,n_,n_,n_,n_]
def impl_GrowStages.K77 : Array Bool := #[y_,y_,y_,y_,y_,y_,n_,y_,y_,n_,y_,y_,n_,n_,n_,n_,n_,n_,n_]
def impl_GrowStages.K78 : Array Bool := #[y_,y_,y_,y_,y_,y_,y_,y_,y_,n_,y_,y_,n_,n_,n_,n_,n_,n_,n_]
def impl_GrowStages.K79 : Array Bool := #[y_,y_,y_,y_,y_,y_,y_,y_,y_,y_,y_,y_,n_,n_,n_,n_,n_,n_,n_]
def impl_GrowStages.K80 : Array Bool := #[y_,y_,y_,y_,y_,y_,y_,y_,y_,y_,y_,y_,y_,n_,n_,n_,n_,n_,n_]
def impl_GrowStages.K81 : Array Bool := #[y_,y_,y_,y_,y_,y_,y_,y_,y_,y_,y_,y_,y_,y_,n_,n_,n_,n_,n_]
def impl_GrowStages.K82 : Array Bool := #[y_,y_,y_,y_,y_,y_,y_,y_,y_,y_,y_,y_,y_,y_,y_,n_,n_,n_,n_]
def impl_GrowStages.K83 : Array Bool := #[y_,y_,y_,y_,y_,y_,y_,y_,y_,y_,y_,y_,y_,y_,y_,y_,n_,n_,n_]
def impl_GrowStages.K84 : Array Bool := #[y_,y_,y_,y_,y_,y_,y_,y_,y_,y_,y_,y_,y_,y_,y_,y_,y_,n_,n_]
def impl_GrowStages.K85 : Array Bool := #[y_,y_,y_,y_,y_,y_,y_,y_,y_,y_,y_,y_,y_,y_,y_,y_,y_,y_,n_]
def impl_GrowStages.K86 : Array Bool := #[y_,y_,y_,y_,y_,y_,y_,y_,y_,y_,y_,y_,y_,y_,y_,y_,y_,y_,y_]
mutual
def impl_GrowStages.j0 : Nat → Int → Int → Int → List (List Int) → Bool → ByteArray → List Int → List Int → Int → Int → List (List Int) → Option (List Int × Int)
 | 0, _, _, _, _, _, _, _, _, _, _, _ => none
 | k + 1, x1, x2, x3, x4, x24, x459000, x459001, x459002, x459003, x459004, x459005 => if x24 = true then (some (([] : List Int), 2)) else (if (x4.length : Int) < 1 then (some (([] : List Int), 7)) else (if (x4.length : Int) > 8 then (some (([] : List Int), 7)) else (impl_GrowStages.l0 k x1 x2 x3 x4 x4 (x4.length : Int) 0 x459000 x459001 x459002 x459003 x459004 x459005)))
def impl_GrowStages.l0 : Nat → Int → Int → Int → List (List Int) → List (List Int) → Int → Int → ByteArray → List Int → List Int → Int → Int → List (List Int) → Option (List Int × Int)
 | 0, _, _, _, _, _, _, _, _, _, _, _, _, _ => none
 | k + 1, x1, x2, x3, x4, x47, x48, x49, x459000, x459001, x459002, x459003, x459004, x459005 => if x49 < x48 then (if 0 ≤ x49 then (if x49 < (x47.length : Int) then (if ((rd_L1 x47 x49).length : Int) = 2 then (if 0 < ((rd_L1 x47 x49).length : Int) then (if 1 < ((rd_L1 x47 x49).length : Int) then ((impl_rangeOk.f (rd (rd_L1 x47 x49) 0) (rd (rd_L1 x47 x49) 1)).bind fun t466 => (if t466 = true then ((impl_within.f x2 (rd (rd_L1 x47 x49) 0) (rd (rd_L1 x47 x49) 1)).bind fun t469 => (if t469 = true then (if x49 > 0 then (if 0 ≤ (wrap64 (x49 - 1)) then (if (wrap64 (x49 - 1)) < (x4.length : Int) then (if 0 < ((rd_L1 x4 (wrap64 (x49 - 1))).length : Int) then (if (rd (rd_L1 x47 x49) 0) > (rd (rd_L1 x4 (wrap64 (x49 - 1))) 0) then (some (([] : List Int), 7)) else (if 1 < ((rd_L1 x4 (wrap64 (x49 - 1))).length : Int) then (if (rd (rd_L1 x47 x49) 1) < (rd (rd_L1 x4 (wrap64 (x49 - 1))) 1) then (some (([] : List Int), 7)) else (impl_GrowStages.l0 k x1 x2 x3 x4 x47 x48 (wrap64 (x49 + 1)) x459000 x459001 x459002 x459003 x459004 x459005)) else (none))) else (none)) else (none)) else (none)) else (impl_GrowStages.l0 k x1 x2 x3 x4 x47 x48 (wrap64 (x49 + 1)) x459000 x459001 x459002 x459003 x459004 x459005)) else (some (([] : List Int), 7)))) else (some (([] : List Int), 7)))) else (none)) else (none)) else (some (([] : List Int), 7))) else (none)) else (none)) else ((impl_ToneOf.f x2).bind fun t476 => ((impl_Raga_hasTone.f k x459000 x459001 x459002 x459003 x459004 x459005 t476).bind fun t477 => (if t477 = true then (impl_GrowStages.l1 k x3 (([x2] : List Int)) x4 (x4.length : Int) 0 x459000 x459001 x459002 x459003 x459004 x459005 x1) else (some (([] : List Int), 3)))))
def impl_GrowStages.l1 : Nat → Int → List Int → List (List Int) → Int → Int → ByteArray → List Int → List Int → Int → Int → List (List Int) → Int → Option (List Int × Int)
 | 0, _, _, _, _, _, _, _, _, _, _, _, _ => none
 | k + 1, x3, x15, x117, x118, x119, x459000, x459001, x459002, x459003, x459004, x459005, x482000 => if x119 < x118 then (if 0 ≤ x119 then (if x119 < (x117.length : Int) then (impl_GrowStages.l2 k x3 x15 (rd_L1 x117 x119) x117 x118 x119 x3 0 x459000 x459001 x459002 x459003 x459004 x459005 x482000) else (none)) else (none)) else (some (x15, 0))
def impl_GrowStages.l2 : Nat → Int → List Int → List Int → List (List Int) → Int → Int → Int → Int → ByteArray → List Int → List Int → Int → Int → List (List Int) → Int → Option (List Int × Int)
 | 0, _, _, _, _, _, _, _, _, _, _, _, _, _, _, _ => none
 | k + 1, x3, x15, x17, x117, x118, x119, x123, x124, x459000, x459001, x459002, x459003, x459004, x459005, x482000 => if x124 < x123 then (if 0 ≤ (wrap64 ((x15.length : Int) - 1)) then (if (wrap64 ((x15.length : Int) - 1)) < (x15.length : Int) then (if 0 < (x17.length : Int) then (if 1 < (x17.length : Int) then ((impl_picker_grow.f k x482000 x459000 x459001 x459002 x459003 x459004 x459005 (rd x15 (wrap64 ((x15.length : Int) - 1))) (rd x17 0) (rd x17 1)).bind fun bt486 => (if bt486.2.1 = true then (if x15.length < 17592186044416 then (impl_GrowStages.l2 k x3 (x15 ++ [bt486.1]) x17 x117 x118 x119 x123 (wrap64 (x124 + 1)) x459000 x459001 x459002 x459003 x459004 x459005 bt486.2.2) else (none)) else (some (([] : List Int), 3)))) else (none)) else (none)) else (none)) else (none)) else (impl_GrowStages.l1 k x3 x15 x117 x118 (wrap64 (x119 + 1)) x459000 x459001 x459002 x459003 x459004 x459005 x482000)
end
def impl_GrowStages.f (k : Nat) (a0_0 : ByteArray) (l0_1 : List Int) (l0_2 : List Int) (a0_3 : Int) (a0_4 : Int) (l0_5 : List (List Int)) (a1 : Int) (a2 : Int) (a3 : Int) (l4 : List (List Int)) : Option (List Int × Int) := (impl_ValidRaga.f k a0_0 l0_1 l0_2 a0_3 a0_4 l0_5).bind fun t459 => (if t459 = true then ((impl_seedOk.f a1).bind fun t460 => (if t460 = true then ((impl_pitchOk.f a2).bind fun t461 => (if t461 = true then ((impl_within.f a3 1 6).bind fun t462 => (impl_GrowStages.j0 k a1 a2 a3 l4 (!t462) a0_0 l0_1 l0_2 a0_3 a0_4 l0_5)) else (impl_GrowStages.j0 k a1 a2 a3 l4 true a0_0 l0_1 l0_2 a0_3 a0_4 l0_5))) else (impl_GrowStages.j0 k a1 a2 a3 l4 true a0_0 l0_1 l0_2 a0_3 a0_4 l0_5))) else (some (([] : List Int), 1)))
theorem impl_GrowStages.mono_l : ∀ k, (∀ y0 y1 y2 y3 y4 y5 y6 y7 y8 y9 y10, LeO (impl_GrowStages.j0 k y0 y1 y2 y3 y4 y5 y6 y7 y8 y9 y10) (impl_GrowStages.j0 (k + 1) y0 y1 y2 y3 y4 y5 y6 y7 y8 y9 y10)) ∧ (∀ y0 y1 y2 y3 y4 y5 y6 y7 y8 y9 y10 y11 y12, LeO (impl_GrowStages.l0 k y0 y1 y2 y3 y4 y5 y6 y7 y8 y9 y10 y11 y12) (impl_GrowStages.l0 (k + 1) y0 y1 y2 y3 y4 y5 y6 y7 y8 y9 y10 y11 y12)) ∧ (∀ y0 y1 y2 y3 y4 y5 y6 y7 y8 y9 y10 y11, LeO (impl_GrowStages.l1 k y0 y1 y2 y3 y4 y5 y6 y7 y8 y9 y10 y11) (impl_GrowStages.l1 (k + 1) y0 y1 y2 y3 y4 y5 y6 y7 y8 y9 y10 y11)) ∧ (∀ y0 y1 y2 y3 y4 y5 y6 y7 y8 y9 y10 y11 y12 y13 y14, LeO (impl_GrowStages.l2 k y0 y1 y2 y3 y4 y5 y6 y7 y8 y9 y10 y11 y12 y13 y14) (impl_GrowStages.l2 (k + 1) y0 y1 y2 y3 y4 y5 y6 y7 y8 y9 y10 y11 y12 y13 y14))
 | 0 => ⟨fun _ _ _ _ _ _ _ _ _ _ _ r h => by simp [impl_GrowStages.j0] at h, fun _ _ _ _ _ _ _ _ _ _ _ _ _ r h => by simp [impl_GrowStages.l0] at h, fun _ _ _ _ _ _ _ _ _ _ _ _ r h => by simp [impl_GrowStages.l1] at h, fun _ _ _ _ _ _ _ _ _ _ _ _ _ _ _ r h => by simp [impl_GrowStages.l2] at h⟩
 | k + 1 => by
  obtain ⟨ih0, ih1, ih2, ih3⟩ := impl_GrowStages.mono_l k
  refine ⟨?_, ?_, ?_, ?_⟩
  ·intro y0 y1 y2 y3 y4 y5 y6 y7 y8 y9 y10
   unfold impl_GrowStages.j0
   repeat' first
   | (with_reducible exact ih0 _ _ _ _ _ _ _ _ _ _ _)
   | (with_reducible exact ih1 _ _ _ _ _ _ _ _ _ _ _ _ _)
   | (with_reducible exact ih2 _ _ _ _ _ _ _ _ _ _ _ _)
   | (with_reducible exact ih3 _ _ _ _ _ _ _ _ _ _ _ _ _ _ _)
   | (with_reducible exact impl_Raga_hasTone.mono _ _ _ _ _ _ _ _)
   | (with_reducible exact impl_ValidRaga.mono _ _ _ _ _ _ _)
   | (with_reducible exact impl_picker_grow.mono _ _ _ _ _ _ _ _ _ _ _)
   | (with_reducible exact LeO.refl _)
   | (with_reducible exact LeO.none _)
   | (with_reducible refine LeO.ite ?_ ?_)
   | (with_reducible refine LeO.bind ?_ (fun _ => ?_))
   | exact ih0 _ _ _ _ _ _ _ _ _ _ _
   | exact ih1 _ _ _ _ _ _ _ _ _ _ _ _ _
   | exact ih2 _ _ _ _ _ _ _ _ _ _ _ _
   | exact ih3 _ _ _ _ _ _ _ _ _ _ _ _ _ _ _
   | exact impl_Raga_hasTone.mono _ _ _ _ _ _ _ _
   | exact impl_ValidRaga.mono _ _ _ _ _ _ _
   | exact impl_picker_grow.mono _ _ _ _ _ _ _ _ _ _ _
   | exact LeO.none _
   | refine LeO.ite ?_ ?_
   | refine LeO.bind ?_ (fun _ => ?_)
  ·intro y0 y1 y2 y3 y4 y5 y6 y7 y8 y9 y10 y11 y12
   unfold impl_GrowStages.l0
   repeat' first
   | (with_reducible exact ih0 _ _ _ _ _ _ _ _ _ _ _)
   | (with_reducible exact ih1 _ _ _ _ _ _ _ _ _ _ _ _ _)
   | (with_reducible exact ih2 _ _ _ _ _ _ _ _ _ _ _ _)
   | (with_reducible exact ih3 _ _ _ _ _ _ _ _ _ _ _ _ _ _ _)
   | (with_reducible exact impl_Raga_hasTone.mono _ _ _ _ _ _ _ _)
   | (with_reducible exact impl_ValidRaga.mono _ _ _ _ _ _ _)
   | (with_reducible exact impl_picker_grow.mono _ _ _ _ _ _ _ _ _ _ _)
   | (with_reducible exact LeO.refl _)
   | (with_reducible exact LeO.none _)
   | (with_reducible refine LeO.ite ?_ ?_)
   | (with_reducible refine LeO.bind ?_ (fun _ => ?_))
   | exact ih0 _ _ _ _ _ _ _ _ _ _ _
   | exact ih1 _ _ _ _ _ _ _ _ _ _ _ _ _
   | exact ih2 _ _ _ _ _ _ _ _ _ _ _ _
   | exact ih3 _ _ _ _ _ _ _ _ _ _ _ _ _ _ _
   | exact impl_Raga_hasTone.mono _ _ _ _ _ _ _ _
   | exact impl_ValidRaga.mono _ _ _ _ _ _ _
   | exact impl_picker_grow.mono _ _ _ _ _ _ _ _ _ _ _
   | exact LeO.none _
   | refine LeO.ite ?_ ?_
   | refine LeO.bind ?_ (fun _ => ?_)
  ·intro y0 y1 y2 y3 y4 y5 y6 y7 y8 y9 y10 y11
   unfold impl_GrowStages.l1
   repeat' first
   | (with_reducible exact ih0 _ _ _ _ _ _ _ _ _ _ _)
   | (with_reducible exact ih1 _ _ _ _ _ _ _ _ _ _ _ _ _)
   | (with_reducible exact ih2 _ _ _ _ _ _ _ _ _ _ _ _)
   | (with_reducible exact ih3 _ _ _ _ _ _ _ _ _ _ _ _ _ _ _)
   | (with_reducible exact impl_Raga_hasTone.mono _ _ _ _ _ _ _ _)
   | (with_reducible exact impl_ValidRaga.mono _ _ _ _ _ _ _)
   | (with_reducible exact impl_picker_grow.mono _ _ _ _ _ _ _ _ _ _ _)
   | (with_reducible exact LeO.refl _)
   | (with_reducible exact LeO.none _)
   | (with_reducible refine LeO.ite ?_ ?_)
   | (with_reducible refine LeO.bind ?_ (fun _ => ?_))
   | exact ih0 _ _ _ _ _ _ _ _ _ _ _
   | exact ih1 _ _ _ _ _ _ _ _ _ _ _ _ _
   | exact ih2 _ _ _ _ _ _ _ _ _ _ _ _
   | exact ih3 _ _ _ _ _ _ _ _ _ _ _ _ _ _ _
   | exact impl_Raga_hasTone.mono _ _ _ _ _ _ _ _
   | exact impl_ValidRaga.mono _ _ _ _ _ _ _
   | exact impl_picker_grow.mono _ _ _ _ _ _ _ _ _ _ _
   | exact LeO.none _
   | refine LeO.ite ?_ ?_
   | refine LeO.bind ?_ (fun _ => ?_)
  ·intro y0 y1 y2 y3 y4 y5 y6 y7 y8 y9 y10 y11 y12 y13 y14
   unfold impl_GrowStages.l2
   repeat' first
   | (with_reducible exact ih0 _ _ _ _ _ _ _ _ _ _ _)
   | (with_reducible exact ih1 _ _ _ _ _ _ _ _ _ _ _ _ _)
   | (with_reducible exact ih2 _ _ _ _ _ _ _ _ _ _ _ _)
   | (with_reducible exact ih3 _ _ _ _ _ _ _ _ _ _ _ _ _ _ _)
   | (with_reducible exact impl_Raga_hasTone.mono _ _ _ _ _ _ _ _)
   | (with_reducible exact impl_ValidRaga.mono _ _ _ _ _ _ _)
   | (with_reducible exact impl_picker_grow.mono _ _ _ _ _ _ _ _ _ _ _)
   | (with_reducible exact LeO.refl _)
   | (with_reducible exact LeO.none _)
   | (with_reducible refine LeO.ite ?_ ?_)
   | (with_reducible refine LeO.bind ?_ (fun _ => ?_))
   | exact ih0 _ _ _ _ _ _ _ _ _ _ _
   | exact ih1 _ _ _ _ _ _ _ _ _ _ _ _ _
   | exact ih2 _ _ _ _ _ _ _ _ _ _ _ _
   | exact ih3 _ _ _ _ _ _ _ _ _ _ _ _ _ _ _
   | exact impl_Raga_hasTone.mono _ _ _ _ _ _ _ _
   | exact impl_ValidRaga.mono _ _ _ _ _ _ _
   | exact impl_picker_grow.mono _ _ _ _ _ _ _ _ _ _ _
   | exact LeO.none _
   | refine LeO.ite ?_ ?_
   | refine LeO.bind ?_ (fun _ => ?_)
theorem impl_GrowStages.mono : ∀ a0 a1 a2 a3 a4 a5 a6 a7 a8 a9 k, LeO (impl_GrowStages.f k a0 a1 a2 a3 a4 a5 a6 a7 a8 a9) (impl_GrowStages.f (k + 1) a0 a1 a2 a3 a4 a5 a6 a7 a8 a9) := by
 intro a0 a1 a2 a3 a4 a5 a6 a7 a8 a9 k
 obtain ⟨ih0, ih1, ih2, ih3⟩ := impl_GrowStages.mono_l k
 unfold impl_GrowStages.f
 repeat' first
   | (with_reducible exact ih0 _ _ _ _ _ _ _ _ _ _ _)
   | (with_reducible exact ih1 _ _ _ _ _ _ _ _ _ _ _ _ _)
   | (with_reducible exact ih2 _ _ _ _ _ _ _ _ _ _ _ _)
   | (with_reducible exact ih3 _ _ _ _ _ _ _ _ _ _ _ _ _ _ _)
   | (with_reducible exact impl_Raga_hasTone.mono _ _ _ _ _ _ _ _)
   | (with_reducible exact impl_ValidRaga.mono _ _ _ _ _ _ _)
   | (with_reducible exact impl_picker_grow.mono _ _ _ _ _ _ _ _ _ _ _)
   | (with_reducible exact LeO.refl _)
   | (with_reducible exact LeO.none _)
   | (with_reducible refine LeO.ite ?_ ?_)
   | (with_reducible refine LeO.bind ?_ (fun _ => ?_))
   | exact ih0 _ _ _ _ _ _ _ _ _ _ _
   | exact ih1 _ _ _ _ _ _ _ _ _ _ _ _ _
   | exact ih2 _ _ _ _ _ _ _ _ _ _ _ _
   | exact ih3 _ _ _ _ _ _ _ _ _ _ _ _ _ _ _
   | exact impl_Raga_hasTone.mono _ _ _ _ _ _ _ _
   | exact impl_ValidRaga.mono _ _ _ _ _ _ _
   | exact impl_picker_grow.mono _ _ _ _ _ _ _ _ _ _ _
   | exact LeO.none _
   | refine LeO.ite ?_ ?_
   | refine LeO.bind ?_ (fun _ => ?_)
def impl_GrowStages.T10 : Bool × List (List Nat × List Nat) := (true, [([], []), ([0], [0]), ([1], [1]), ([2], [2]), ([3], [3]), ([4, 3], [3, 4]), ([5, 3], [3, 5]), ([3], [3]), ([7, 3], [3, 7]), ([8, 3], [3, 8]), ([6, 9, 3, 3], [3, 6, 9]), ([10, 3], [3, 10]), ([3, 11], [3, 11]), ([12, 10], [12]), ([13], [13]), ([13], [13]), ([15, 13], [13, 15]), ([16, 13], [13, 16]), ([13], [13]), ([18, 13], [13, 18]), ([19, 13], [13, 19]), ([14, 17, 20, 13, 13], [13, 14, 17, 20]), ([21, 13], [13, 21]), ([13, 22], [13, 22]), ([23, 21], [23]), ([24], [24]), ([25, 24], [24, 25]), ([26, 24, 24], [24, 26]), ([27], [27]), ([28, 27], [27, 28]), ([29, 27], [27, 29]), ([27], [27]), ([27], [27]), ([32, 27], [27, 32]), ([31, 33, 27], [27, 31, 33]), ([34, 27], [27, 34]), ([35, 27], [27, 35]), ([36, 27], [27, 36]), ([30, 37, 27], [27, 30, 37]), ([38, 27, 27], [27, 38]), ([39], [39]), ([40, 39], [39, 40]), ([41, 39], [39, 41]), ([39], [39]), ([39], [39]), ([44, 39], [39, 44]), ([43, 45, 39], [39, 43, 45]), ([46, 39], [39, 46]), ([47, 39], [39, 47]), ([48, 39], [39, 48]), ([42, 49, 39], [39, 42, 49]), ([39, 50, 27], [27, 39, 50]), ([27, 51, 24], [24, 27, 51]), ([24, 52], [24, 52])])
def impl_GrowStages.B10 : List Nat := [0, 1, 3, 7, 15, 31, 63, 15, 143, 399, 1023, 2047, 4095, 8191, 16383, 16383, 49151, 114687, 16383, 278527, 802815, 2097151, 4194303, 8388607, 16777215, 33554431, 67108863, 134217727, 268435455, 536870911, 1073741823, 268435455, 268435455, 4563402751, 15300820991, 32480690175, 66840428543, 135559905279, 274877906943, 549755813887, 1099511627775, 2199023255551, 4398046511103, 1099511627775, 1099511627775, 18691697672191, 62672162783231, 133040906960895, 273778395316223, 555253372026879, 1125899906842623, 2251799813685247, 4503599627370495, 9007199254740991]
theorem impl_GrowStages.tab10 : rtab .any (opsOf Try.f36 10) = impl_GrowStages.T10 := by kernel_rfl
theorem impl_GrowStages.bits10 : waitsOk impl_GrowStages.T10.2 impl_GrowStages.B10 = true := by kernel_rfl
def impl_GrowStages.T21 : Bool × List (List Nat × List Nat) := (true, [([], []), ([], []), ([], []), ([2], [2]), ([3], [3]), ([1, 4], [1, 4]), ([5], [5]), ([], []), ([7], [7]), ([8], [8]), ([], []), ([10], [10]), ([11], [11]), ([0, 6, 9, 12], [0, 6, 9, 12]), ([13], [13]), ([14], [14]), ([14], [14]), ([15, 13, 0, 1, 2, 3, 4, 5, 6, 7, 8, 9, 10, 11, 12, 13, 14, 15], [15]), ([16, 17, 0, 1, 2, 3, 4, 5, 6, 7, 8, 9, 10, 11, 12, 13, 14, 15, 16, 17], [16])])
def impl_GrowStages.B21 : List Nat := [0, 0, 0, 4, 12, 30, 62, 0, 128, 384, 0, 1024, 3072, 8191, 16383, 32767, 32767, 65535, 262143]
theorem impl_GrowStages.tab21 : rtab .any (opsOf Try.f36 21) = impl_GrowStages.T21 := by kernel_rfl
theorem impl_GrowStages.bits21 : waitsOk impl_GrowStages.T21.2 impl_GrowStages.B21 = true := by kernel_rfl
set_option maxHeartbeats 8000000 in
set_option maxRecDepth 100000 in
theorem impl_GrowStages.calls (k : Nat) (a0_0 : ByteArray) (A0_1 : Option Addr) (c0_1 : Nat) (l0_1 : List Int) (A0_2 : Option Addr) (c0_2 : Nat) (l0_2 : List Int) (a0_3 : Int) (a0_4 : Int) (A0_5 : Option Addr) (c0_5 : Nat) (l0_5 : List (List Int)) (a1 : Int) (a2 : Int) (a3 : Int) (A4 : Option Addr) (c4 : Nat) (l4 : List (List Int)) (r1 : List Int) (r2 : Int) (w : World) (hr0_1 : Kd.C (Kd.int .i64) w A0_1 l0_1.length l0_1) (hc0_1 : l0_1.length ≤ c0_1) (hr0_2 : Kd.C (Kd.int .i64) w A0_2 l0_2.length l0_2) (hc0_2 : l0_2.length ≤ c0_2) (hr0_5 : Kd.C (Kd.slice 2 (Kd.int .i64)) w A0_5 l0_5.length l0_5) (hc0_5 : l0_5.length ≤ c0_5) (hr4 : Kd.C (Kd.slice 2 (Kd.int .i64)) w A4 l4.length l4) (hc4 : l4.length ≤ c4) (h : impl_GrowStages.f k a0_0 l0_1 l0_2 a0_3 a0_4 l0_5 a1 a2 a3 l4 = some (r1, r2)) :
  Calls Try.prog 36 #[.agg #[.string a0_0, .slice A0_1 l0_1.length c0_1, .slice A0_2 l0_2.length c0_2, .int .i64 a0_3, .int .i64 a0_4, .slice A0_5 l0_5.length c0_5], .int .i64 a1, .int .i64 a2, .int .i64 a3, .slice A4 l4.length c4] w fun e w' => ∃ v0_ : Value, e = .returned (.tuple #[v0_, .int .i64 r2]) ∧ Kd.R (Kd.int .i64) 2 w' w.heap.size (fun _ => True) v0_ r1 ∧ Below w.heap.size w w' := by
 have hu29 := Try.underlying29
 have hu91 := Try.underlying91
 have HR0_1 := Aside0.mk hr0_1
 have HC0_1 := Aside0.mk hc0_1
 clear hr0_1 hc0_1
 have HR0_2 := Aside0.mk hr0_2
 have HC0_2 := Aside0.mk hc0_2
 clear hr0_2 hc0_2
 have HR0_5 := Aside0.mk hr0_5
 have HC0_5 := Aside0.mk hc0_5
 clear hr0_5 hc0_5
 have HR4 := Aside0.mk hr4
 have HC4 := Aside0.mk hc4
 clear hr4 hc4
 have HB := Aside0.mk (Below.refl w.heap.size w)
 have H : ((impl_ValidRaga.f k a0_0 l0_1 l0_2 a0_3 a0_4 l0_5).bind fun t459 => (if t459 = true then ((impl_seedOk.f a1).bind fun t460 => (if t460 = true then ((impl_pitchOk.f a2).bind fun t461 => (if t461 = true then ((impl_within.f a3 1 6).bind fun t462 => (impl_GrowStages.j0 k a1 a2 a3 l4 (!t462) a0_0 l0_1 l0_2 a0_3 a0_4 l0_5)) else (impl_GrowStages.j0 k a1 a2 a3 l4 true a0_0 l0_1 l0_2 a0_3 a0_4 l0_5))) else (impl_GrowStages.j0 k a1 a2 a3 l4 true a0_0 l0_1 l0_2 a0_3 a0_4 l0_5))) else (some (([] : List Int), 1)))) = some (r1, r2) := h
 clear h
 replace H := Option.bind_eq_some_iff.mp H
 obtain ⟨t459, A60, H⟩ := H
 replace H : (if t459 = true then ((impl_seedOk.f a1).bind fun t460 => (if t460 = true then ((impl_pitchOk.f a2).bind fun t461 => (if t461 = true then ((impl_within.f a3 1 6).bind fun t462 => (impl_GrowStages.j0 k a1 a2 a3 l4 (!t462) a0_0 l0_1 l0_2 a0_3 a0_4 l0_5)) else (impl_GrowStages.j0 k a1 a2 a3 l4 true a0_0 l0_1 l0_2 a0_3 a0_4 l0_5))) else (impl_GrowStages.j0 k a1 a2 a3 l4 true a0_0 l0_1 l0_2 a0_3 a0_4 l0_5))) else (some (([] : List Int), 1))) = some (r1, r2) := H
 have A6 := Aside0.mk A60
 clear A60
 by_cases c7 : t459 = true
 ·subst c7
  have H1 : ((impl_seedOk.f a1).bind fun t460 => (if t460 = true then ((impl_pitchOk.f a2).bind fun t461 => (if t461 = true then ((impl_within.f a3 1 6).bind fun t462 => (impl_GrowStages.j0 k a1 a2 a3 l4 (!t462) a0_0 l0_1 l0_2 a0_3 a0_4 l0_5)) else (impl_GrowStages.j0 k a1 a2 a3 l4 true a0_0 l0_1 l0_2 a0_3 a0_4 l0_5))) else (impl_GrowStages.j0 k a1 a2 a3 l4 true a0_0 l0_1 l0_2 a0_3 a0_4 l0_5))) = some (r1, r2) := by rw [if_pos rfl] at H; exact H
  clear H
  have H := H1
  clear H1
  have HC8 := Aside0.mk H
  clear H
  go_enter Try.func36, Try.ntmps36
  go_upto_region 3 with (first | ((with_reducible refine gate_dst (N := 5) rfl ?_); (try (refine gate_guard (by rfl) ?_; dsimp only)); refine box_event ?hg (N := 5) ?hd (cs := #[.string a0_0, .slice A0_1 l0_1.length c0_1, .slice A0_2 l0_2.length c0_2, .int .i64 a0_3, .int .i64 a0_4, .slice A0_5 l0_5.length c0_5]) (t := 29) ?hr ?_; (case hd => rfl); (case hg => rfl); (case hr => first | (go_simp; done) | (go_simp; rfl)); intro gb458 hg w9 hbox hb; have n0_ := Aside0.mk (below_step (ba_ HB.out) hb); have n1_ := Aside0.mk (hbox); have n2_ := Aside0.mk ((by rw [hg]; exact (below_size (ba_ HB.out)) : w.heap.size ≤ gb458)); have n3_ := Aside0.mk ((by rw [hg]; exact (below_size (ba_ HB.out)) : w.heap.size ≤ gb458)); clear HB; have HB := n0_; have BK458 := n1_; have GW458 := n2_; have GE458 := n3_; clear n0_ n1_ n2_ n3_; clear hb hbox hg; have hcz10_0 : w9.cell? ⟨gb458, 0, none⟩ = some (.string a0_0) := (blk_cell BK458.out 0).trans rfl; have hcz10_1 : w9.cell? ⟨gb458, 1, none⟩ = some (.slice A0_1 l0_1.length c0_1) := (blk_cell BK458.out 1).trans rfl; have hcz10_2 : w9.cell? ⟨gb458, 2, none⟩ = some (.slice A0_2 l0_2.length c0_2) := (blk_cell BK458.out 2).trans rfl; have hcz10_3 : w9.cell? ⟨gb458, 3, none⟩ = some (.int .i64 a0_3) := (blk_cell BK458.out 3).trans rfl; have hcz10_4 : w9.cell? ⟨gb458, 4, none⟩ = some (.int .i64 a0_4) := (blk_cell BK458.out 4).trans rfl; have hcz10_5 : w9.cell? ⟨gb458, 5, none⟩ = some (.slice A0_5 l0_5.length c0_5) := (blk_cell BK458.out 5).trans rfl; have hfz10_0 := blk_frozen BK458.out 0; have hfz10_1 := blk_frozen BK458.out 1; have hfz10_2 := blk_frozen BK458.out 2; have hfz10_3 := blk_frozen BK458.out 3; have hfz10_4 := blk_frozen BK458.out 4; have hfz10_5 := blk_frozen BK458.out 5) | ((with_reducible refine gate_callee (f := 62) rfl ?_); refine goesL_ (some 22) rfl rfl Try.func62 (by kernel_rfl) rfl #[.agg #[.string a0_0, .slice A0_1 l0_1.length c0_1, .slice A0_2 l0_2.length c0_2, .int .i64 a0_3, .int .i64 a0_4, .slice A0_5 l0_5.length c0_5]] rfl av_ ?_; (with_reducible refine (impl_ValidRaga.calls k a0_0 _ _ l0_1 _ _ l0_2 a0_3 a0_4 _ _ l0_5 true _ ?side1 ?side2 ?side3 ?side4 ?side5 ?side6 A6.out).mono ?_); (case side1 => exact (Kd.C_below HR0_1.out HB.out)); (case side2 => exact HC0_1.out); (case side3 => exact (Kd.C_below HR0_2.out HB.out)); (case side4 => exact HC0_2.out); (case side5 => exact (Kd.C_below HR0_5.out HB.out)); (case side6 => exact HC0_5.out); rintro e w11 ⟨rfl, hb⟩; refine ⟨_, rfl, ?_⟩; have n0_ := Aside0.mk (blk_below (g := gb458) (o := .cells #[.string a0_0, .slice A0_1 l0_1.length c0_1, .slice A0_2 l0_2.length c0_2, .int .i64 a0_3, .int .i64 a0_4, .slice A0_5 l0_5.length c0_5] 29 (0, 0)) (by repeat first | exact BK458.out | refine blk_drewN ?_ _ | refine blk_drew ?_ | refine blk_alloc ?_ _) hb); have n1_ := Aside0.mk (below_step (bg_ HB.out GE458.out) hb); clear BK458; clear HB; have BK458 := n0_; have HB := n1_; clear n0_ n1_; (try clear hb); (try clear hb2); (try clear hk); (try clear hi)))
  (try simp only [Act.put, List.setIfInBounds_toArray, List.set_cons_zero, List.set_cons_succ])
  go_cut [24] (fun v24 wc => ∃ (kq : Nat) (x24_7 : Bool), v24 = .bool x24_7 ∧ Aside0 (impl_GrowStages.j0 kq a1 a2 a3 l4 x24_7 a0_0 l0_1 l0_2 a0_3 a0_4 l0_5 = some (r1, r2)) ∧ Aside0 (kq ≤ k) ∧ Aside0 (wc.heap[gb458]? = some (.cells #[.string a0_0, (.slice A0_1 l0_1.length c0_1), (.slice A0_2 l0_2.length c0_2), .int .i64 a0_3, .int .i64 a0_4, (.slice A0_5 l0_5.length c0_5)] 29 (0, 0))) ∧ Aside0 (Below w.heap.size w wc))
  case first =>
   have H := HC8.out
   clear HC8
   replace H := Option.bind_eq_some_iff.mp H
   obtain ⟨t460, A120, H⟩ := H
   replace H : (if t460 = true then ((impl_pitchOk.f a2).bind fun t461 => (if t461 = true then ((impl_within.f a3 1 6).bind fun t462 => (impl_GrowStages.j0 k a1 a2 a3 l4 (!t462) a0_0 l0_1 l0_2 a0_3 a0_4 l0_5)) else (impl_GrowStages.j0 k a1 a2 a3 l4 true a0_0 l0_1 l0_2 a0_3 a0_4 l0_5))) else (impl_GrowStages.j0 k a1 a2 a3 l4 true a0_0 l0_1 l0_2 a0_3 a0_4 l0_5)) = some (r1, r2) := H
   have A12 := Aside0.mk A120
   clear A120
   by_cases c13 : t460 = true
   ·subst c13
    have H1 : ((impl_pitchOk.f a2).bind fun t461 => (if t461 = true then ((impl_within.f a3 1 6).bind fun t462 => (impl_GrowStages.j0 k a1 a2 a3 l4 (!t462) a0_0 l0_1 l0_2 a0_3 a0_4 l0_5)) else (impl_GrowStages.j0 k a1 a2 a3 l4 true a0_0 l0_1 l0_2 a0_3 a0_4 l0_5))) = some (r1, r2) := by rw [if_pos rfl] at H; exact H
    clear H; have H := H1; clear H1
    replace H := Option.bind_eq_some_iff.mp H
    obtain ⟨t461, A140, H⟩ := H
    replace H : (if t461 = true then ((impl_within.f a3 1 6).bind fun t462 => (impl_GrowStages.j0 k a1 a2 a3 l4 (!t462) a0_0 l0_1 l0_2 a0_3 a0_4 l0_5)) else (impl_GrowStages.j0 k a1 a2 a3 l4 true a0_0 l0_1 l0_2 a0_3 a0_4 l0_5)) = some (r1, r2) := H
    have A14 := Aside0.mk A140; clear A140
    by_cases c15 : t461 = true
    ·subst c15
     have H1 : ((impl_within.f a3 1 6).bind fun t462 => (impl_GrowStages.j0 k a1 a2 a3 l4 (!t462) a0_0 l0_1 l0_2 a0_3 a0_4 l0_5)) = some (r1, r2) := by rw [if_pos rfl] at H; exact H
     clear H; have H := H1; clear H1
     replace H := Option.bind_eq_some_iff.mp H
     obtain ⟨t462, A160, H⟩ := H
     replace H : (impl_GrowStages.j0 k a1 a2 a3 l4 (!t462) a0_0 l0_1 l0_2 a0_3 a0_4 l0_5) = some (r1, r2) := H
     have A16 := Aside0.mk A160; clear A160
     have H' := Aside0.mk H
     clear H
     go_wp2_with (first | ((with_reducible refine gate_callee (f := 63) rfl ?_); refine goesL_ (some 26) rfl rfl Try.func63 (by kernel_rfl) rfl #[.int .i64 a1] rfl av_ ?_; (with_reducible refine (impl_seedOk.calls a1 true _ A12.out).mono ?_); rintro e w' ⟨rfl, ⟨nd, rfl⟩⟩; refine ⟨_, rfl, ?_⟩) | (go_at_call 88; (with_reducible refine (impl_pitchOk.calls a2 true _ A14.out).mono ?_); rintro e w' ⟨rfl, ⟨nd, rfl⟩⟩) | (go_at_call 65; (with_reducible refine (impl_within.calls a3 1 6 t462 _ A16.out).mono ?_); rintro e w' ⟨rfl, ⟨nd, rfl⟩⟩))
     go_meet
     case rel => exact ⟨_, (!t462), sv_, H', ⟨by first | omega | exact Nat.le_refl _⟩, ⟨by (with_reducible repeat (first | refine blk_drewN ?_ _ | refine blk_drew ?_ | refine blk_alloc ?_ _)); exact BK458.out⟩, ⟨bg_ HB.out GE458.out⟩⟩
    ·replace c15 := Bool.eq_false_iff.mpr c15
     subst c15
     have H1 : (impl_GrowStages.j0 k a1 a2 a3 l4 true a0_0 l0_1 l0_2 a0_3 a0_4 l0_5) = some (r1, r2) := by rw [if_neg (show ¬ (false = true) by decide)] at H; exact H
     clear H; have H := H1; clear H1
     have H' := Aside0.mk H
     clear H
     go_wp2_with (first | ((with_reducible refine gate_callee (f := 63) rfl ?_); refine goesL_ (some 26) rfl rfl Try.func63 (by kernel_rfl) rfl #[.int .i64 a1] rfl av_ ?_; (with_reducible refine (impl_seedOk.calls a1 true _ A12.out).mono ?_); rintro e w' ⟨rfl, ⟨nd, rfl⟩⟩; refine ⟨_, rfl, ?_⟩) | (go_at_call 88; (with_reducible refine (impl_pitchOk.calls a2 false _ A14.out).mono ?_); rintro e w' ⟨rfl, ⟨nd, rfl⟩⟩))
     go_meet
     case rel => exact ⟨_, (true), sv_, H', ⟨by first | omega | exact Nat.le_refl _⟩, ⟨by (with_reducible repeat (first | refine blk_drewN ?_ _ | refine blk_drew ?_ | refine blk_alloc ?_ _)); exact BK458.out⟩, ⟨bg_ HB.out GE458.out⟩⟩
   ·replace c13 := Bool.eq_false_iff.mpr c13
    subst c13
    have H1 : (impl_GrowStages.j0 k a1 a2 a3 l4 true a0_0 l0_1 l0_2 a0_3 a0_4 l0_5) = some (r1, r2) := by rw [if_neg (show ¬ (false = true) by decide)] at H; exact H
    clear H; have H := H1; clear H1
    have H' := Aside0.mk H
    clear H
    go_wp2_with (first | ((with_reducible refine gate_callee (f := 63) rfl ?_); refine goesL_ (some 26) rfl rfl Try.func63 (by kernel_rfl) rfl #[.int .i64 a1] rfl av_ ?_; (with_reducible refine (impl_seedOk.calls a1 false _ A12.out).mono ?_); rintro e w' ⟨rfl, ⟨nd, rfl⟩⟩; refine ⟨_, rfl, ?_⟩))
    go_meet
    case rel => exact ⟨_, (true), sv_, H', ⟨by first | omega | exact Nat.le_refl _⟩, ⟨by (with_reducible repeat (first | refine blk_drewN ?_ _ | refine blk_drew ?_ | refine blk_alloc ?_ _)); exact BK458.out⟩, ⟨bg_ HB.out GE458.out⟩⟩
  case rest =>
   clear HC8
   (try clear c1); (try clear p2); (try clear c3); (try clear c4); (try clear c6); (try clear c7); (try clear c13); (try clear c15); (try clear hcz10_0); (try clear hcz10_1); (try clear hcz10_2); (try clear hcz10_3); (try clear hcz10_4); (try clear hcz10_5); (try clear hfz10_0); (try clear hfz10_1); (try clear hfz10_2); (try clear hfz10_3); (try clear hfz10_4); (try clear hfz10_5)
   obtain ⟨kq, x24_7, rfl, HA, HJ7, BK458, HB⟩ := hcut
   cases kq with
   | zero => exact absurd HA.out (by simp [impl_GrowStages.j0])
   | succ kj7 =>
    have H := HA.out; clear HA
    simp only [impl_GrowStages.j0] at H
    by_cases c17 : x24_7 = true
    ·subst c17
     have H1 : (some (([] : List Int), 2)) = some (r1, r2) := by rw [if_pos rfl] at H; exact H
     clear H; have H := H1; clear H1
     simp only [Option.some.injEq, Prod.mk.injEq] at H
     obtain ⟨rfl, rfl⟩ := H
     go_wp2
     go_ret2
     exact ⟨_, by first | rfl | (simp [errW_none, errW_some] <;> rfl) | (simp [*, errW_none, errW_some] <;> rfl), by first | exact Kd.R_nil _ _ _ _ _ | exact Kd.N_nil _ _ _ _ _ | exact Kd.V_nil _ _ _ _ _ | exact Kd.Q_nil _ _ _ _ _ | exact Kd.S_nil _ _ _ _ _, bg_ HB.out GE458.out⟩
    ·replace c17 := Bool.eq_false_iff.mpr c17
     subst c17
     have H1 : (if (l4.length : Int) < 1 then (some (([] : List Int), 7)) else (if (l4.length : Int) > 8 then (some (([] : List Int), 7)) else (impl_GrowStages.l0 kj7 a1 a2 a3 l4 l4 (l4.length : Int) 0 a0_0 l0_1 l0_2 a0_3 a0_4 l0_5))) = some (r1, r2) := by rw [if_neg (show ¬ (false = true) by decide)] at H; exact H
     clear H; have H := H1; clear H1
     by_cases c18 : (l4.length : Int) < 1
     ·rw [if_pos c18] at H
      have c18b0 : decide ((l4.length : Int) < 1) = true := decide_eq_true c18
      have c18b1 : decide (l4.length < 1) = true := decide_eq_true (by omega)
      clear c18
      simp only [Option.some.injEq, Prod.mk.injEq] at H
      obtain ⟨rfl, rfl⟩ := H
      go_wp2
      go_ret2
      exact ⟨_, by first | rfl | (simp [errW_none, errW_some] <;> rfl) | (simp [*, errW_none, errW_some] <;> rfl), by first | exact Kd.R_nil _ _ _ _ _ | exact Kd.N_nil _ _ _ _ _ | exact Kd.V_nil _ _ _ _ _ | exact Kd.Q_nil _ _ _ _ _ | exact Kd.S_nil _ _ _ _ _, bg_ HB.out GE458.out⟩
     ·rw [if_neg c18] at H
      have c18b0 : decide ((l4.length : Int) < 1) = false := decide_eq_false c18
      have c18b1 : decide (l4.length < 1) = false := decide_eq_false (by omega)
      clear c18
      by_cases c19 : (l4.length : Int) > 8
      ·rw [if_pos c19] at H
       have c19b0 : decide (8 < (l4.length : Int)) = true := decide_eq_true c19
       have c19b1 : decide (8 < l4.length) = true := decide_eq_true (by omega)
       clear c19
       simp only [Option.some.injEq, Prod.mk.injEq] at H
       obtain ⟨rfl, rfl⟩ := H
       go_wp2
       go_ret2
       exact ⟨_, by first | rfl | (simp [errW_none, errW_some] <;> rfl) | (simp [*, errW_none, errW_some] <;> rfl), by first | exact Kd.R_nil _ _ _ _ _ | exact Kd.N_nil _ _ _ _ _ | exact Kd.V_nil _ _ _ _ _ | exact Kd.Q_nil _ _ _ _ _ | exact Kd.S_nil _ _ _ _ _, bg_ HB.out GE458.out⟩
      ·rw [if_neg c19] at H
       have c19b0 : decide (8 < (l4.length : Int)) = false := decide_eq_false c19
       have c19b1 : decide (8 < l4.length) = false := decide_eq_false (by omega)
       clear c19
       have H' := Aside0.mk H
       clear H
       go_wp2
       go_loopg [49] kj7 (fun kq v49 w' => ∃ (x49_2 : Int), v49 = .int .i64 x49_2 ∧ Aside0 (impl_GrowStages.l0 kq a1 a2 a3 l4 l4 (l4.length : Int) x49_2 a0_0 l0_1 l0_2 a0_3 a0_4 l0_5 = some (r1, r2)) ∧ Aside0 (kq ≤ kj7) ∧ Aside0 (w'.heap[gb458]? = some (.cells #[.string a0_0, (.slice A0_1 l0_1.length c0_1), (.slice A0_2 l0_2.length c0_2), .int .i64 a0_3, .int .i64 a0_4, (.slice A0_5 l0_5.length c0_5)] 29 (0, 0))) ∧ Aside0 (Below w.heap.size w w'))
       case atStart => exact ⟨(0), sv_, H', ⟨Nat.le_refl _⟩, ⟨by (with_reducible repeat (first | refine blk_drewN ?_ _ | refine blk_drew ?_ | refine blk_alloc ?_ _)); exact BK458.out⟩, ⟨bg_ HB.out GE458.out⟩⟩
       case round =>
        clear H'
        (try clear c1); (try clear p2); (try clear c3); (try clear c4); (try clear c6); (try clear c7); (try clear c13); (try clear c15); (try clear c17); (try clear c18); (try clear c18b0); (try clear c18b1); (try clear c19); (try clear c19b0); (try clear c19b1); (try clear hcz10_0); (try clear hcz10_1); (try clear hcz10_2); (try clear hcz10_3); (try clear hcz10_4); (try clear hcz10_5); (try clear hfz10_0); (try clear hfz10_1); (try clear hfz10_2); (try clear hfz10_3); (try clear hfz10_4); (try clear hfz10_5); (try clear p2); obtain ⟨x49_2, rfl, HA, HK2, BK458, HB⟩ := hrel
        cases gk with
        | zero => exact absurd HA.out (by simp [impl_GrowStages.l0])
        | succ k2 =>
         have H := HA.out; clear HA
         simp only [impl_GrowStages.l0] at H
         by_cases c20 : x49_2 < (l4.length : Int)
         ·rw [if_pos c20] at H
          have c20b0 : decide (x49_2 < (l4.length : Int)) = true := decide_eq_true c20
          clear c20
          by_cases c21 : 0 ≤ x49_2
          ·rw [if_pos c21] at H
           have c21b0 : decide (0 ≤ x49_2) = true := decide_eq_true c21
           clear c21
           by_cases c22 : x49_2 < (l4.length : Int)
           ·rw [if_pos c22] at H
            have c22b0 : decide (x49_2 < (l4.length : Int)) = true := decide_eq_true c22
            clear c22
            by_cases c23 : ((rd_L1 l4 x49_2).length : Int) = 2
            ·rw [if_pos c23] at H
             have c23b0 : (((rd_L1 l4 x49_2).length : Int) == 2) = true := beq_iff_eq.mpr c23
             have c23b1 : (((rd_L1 l4 x49_2).length : Int) != 2) = false := bne_eq_false_iff_eq.mpr c23
             clear c23
             by_cases c24 : 0 < ((rd_L1 l4 x49_2).length : Int)
             ·rw [if_pos c24] at H
              have c24b0 : decide (0 < ((rd_L1 l4 x49_2).length : Int)) = true := decide_eq_true c24
              have c24b1 : decide (0 < (rd_L1 l4 x49_2).length) = true := decide_eq_true (by omega)
              clear c24
              by_cases c25 : 1 < ((rd_L1 l4 x49_2).length : Int)
              ·rw [if_pos c25] at H
               have c25b0 : decide (1 < ((rd_L1 l4 x49_2).length : Int)) = true := decide_eq_true c25
               have c25b1 : decide (1 < (rd_L1 l4 x49_2).length) = true := decide_eq_true (by omega)
               clear c25
               replace H := Option.bind_eq_some_iff.mp H
               obtain ⟨t466, A260, H⟩ := H
               replace H : (if t466 = true then ((impl_within.f a2 (rd (rd_L1 l4 x49_2) 0) (rd (rd_L1 l4 x49_2) 1)).bind fun t469 => (if t469 = true then (if x49_2 > 0 then (if 0 ≤ (wrap64 (x49_2 - 1)) then (if (wrap64 (x49_2 - 1)) < (l4.length : Int) then (if 0 < ((rd_L1 l4 (wrap64 (x49_2 - 1))).length : Int) then (if (rd (rd_L1 l4 x49_2) 0) > (rd (rd_L1 l4 (wrap64 (x49_2 - 1))) 0) then (some (([] : List Int), 7)) else (if 1 < ((rd_L1 l4 (wrap64 (x49_2 - 1))).length : Int) then (if (rd (rd_L1 l4 x49_2) 1) < (rd (rd_L1 l4 (wrap64 (x49_2 - 1))) 1) then (some (([] : List Int), 7)) else (impl_GrowStages.l0 k2 a1 a2 a3 l4 l4 (l4.length : Int) (wrap64 (x49_2 + 1)) a0_0 l0_1 l0_2 a0_3 a0_4 l0_5)) else (none))) else (none)) else (none)) else (none)) else (impl_GrowStages.l0 k2 a1 a2 a3 l4 l4 (l4.length : Int) (wrap64 (x49_2 + 1)) a0_0 l0_1 l0_2 a0_3 a0_4 l0_5)) else (some (([] : List Int), 7)))) else (some (([] : List Int), 7))) = some (r1, r2) := H
               have A26 := Aside0.mk A260; clear A260
               by_cases c27 : t466 = true
               ·subst c27
                have H1 : ((impl_within.f a2 (rd (rd_L1 l4 x49_2) 0) (rd (rd_L1 l4 x49_2) 1)).bind fun t469 => (if t469 = true then (if x49_2 > 0 then (if 0 ≤ (wrap64 (x49_2 - 1)) then (if (wrap64 (x49_2 - 1)) < (l4.length : Int) then (if 0 < ((rd_L1 l4 (wrap64 (x49_2 - 1))).length : Int) then (if (rd (rd_L1 l4 x49_2) 0) > (rd (rd_L1 l4 (wrap64 (x49_2 - 1))) 0) then (some (([] : List Int), 7)) else (if 1 < ((rd_L1 l4 (wrap64 (x49_2 - 1))).length : Int) then (if (rd (rd_L1 l4 x49_2) 1) < (rd (rd_L1 l4 (wrap64 (x49_2 - 1))) 1) then (some (([] : List Int), 7)) else (impl_GrowStages.l0 k2 a1 a2 a3 l4 l4 (l4.length : Int) (wrap64 (x49_2 + 1)) a0_0 l0_1 l0_2 a0_3 a0_4 l0_5)) else (none))) else (none)) else (none)) else (none)) else (impl_GrowStages.l0 k2 a1 a2 a3 l4 l4 (l4.length : Int) (wrap64 (x49_2 + 1)) a0_0 l0_1 l0_2 a0_3 a0_4 l0_5)) else (some (([] : List Int), 7)))) = some (r1, r2) := by rw [if_pos rfl] at H; exact H
                clear H; have H := H1; clear H1
                replace H := Option.bind_eq_some_iff.mp H
                obtain ⟨t469, A280, H⟩ := H
                replace H : (if t469 = true then (if x49_2 > 0 then (if 0 ≤ (wrap64 (x49_2 - 1)) then (if (wrap64 (x49_2 - 1)) < (l4.length : Int) then (if 0 < ((rd_L1 l4 (wrap64 (x49_2 - 1))).length : Int) then (if (rd (rd_L1 l4 x49_2) 0) > (rd (rd_L1 l4 (wrap64 (x49_2 - 1))) 0) then (some (([] : List Int), 7)) else (if 1 < ((rd_L1 l4 (wrap64 (x49_2 - 1))).length : Int) then (if (rd (rd_L1 l4 x49_2) 1) < (rd (rd_L1 l4 (wrap64 (x49_2 - 1))) 1) then (some (([] : List Int), 7)) else (impl_GrowStages.l0 k2 a1 a2 a3 l4 l4 (l4.length : Int) (wrap64 (x49_2 + 1)) a0_0 l0_1 l0_2 a0_3 a0_4 l0_5)) else (none))) else (none)) else (none)) else (none)) else (impl_GrowStages.l0 k2 a1 a2 a3 l4 l4 (l4.length : Int) (wrap64 (x49_2 + 1)) a0_0 l0_1 l0_2 a0_3 a0_4 l0_5)) else (some (([] : List Int), 7))) = some (r1, r2) := H
                have A28 := Aside0.mk A280; clear A280
                by_cases c29 : t469 = true
                ·subst c29
                 have H1 : (if x49_2 > 0 then (if 0 ≤ (wrap64 (x49_2 - 1)) then (if (wrap64 (x49_2 - 1)) < (l4.length : Int) then (if 0 < ((rd_L1 l4 (wrap64 (x49_2 - 1))).length : Int) then (if (rd (rd_L1 l4 x49_2) 0) > (rd (rd_L1 l4 (wrap64 (x49_2 - 1))) 0) then (some (([] : List Int), 7)) else (if 1 < ((rd_L1 l4 (wrap64 (x49_2 - 1))).length : Int) then (if (rd (rd_L1 l4 x49_2) 1) < (rd (rd_L1 l4 (wrap64 (x49_2 - 1))) 1) then (some (([] : List Int), 7)) else (impl_GrowStages.l0 k2 a1 a2 a3 l4 l4 (l4.length : Int) (wrap64 (x49_2 + 1)) a0_0 l0_1 l0_2 a0_3 a0_4 l0_5)) else (none))) else (none)) else (none)) else (none)) else (impl_GrowStages.l0 k2 a1 a2 a3 l4 l4 (l4.length : Int) (wrap64 (x49_2 + 1)) a0_0 l0_1 l0_2 a0_3 a0_4 l0_5)) = some (r1, r2) := by rw [if_pos rfl] at H; exact H
                 clear H; have H := H1; clear H1
                 by_cases c30 : x49_2 > 0
                 ·rw [if_pos c30] at H
                  have c30b0 : decide (0 < x49_2) = true := decide_eq_true c30
                  clear c30
                  obtain ⟨ji31, hji31⟩ : ∃ j_ : Int, (wrap64 (x49_2 - 1)) = j_ := ⟨_, rfl⟩
                  replace H : (if 0 ≤ (ji31) then (if (ji31) < (l4.length : Int) then (if 0 < ((rd_L1 l4 (ji31)).length : Int) then (if (rd (rd_L1 l4 x49_2) 0) > (rd (rd_L1 l4 (ji31)) 0) then (some (([] : List Int), 7)) else (if 1 < ((rd_L1 l4 (ji31)).length : Int) then (if (rd (rd_L1 l4 x49_2) 1) < (rd (rd_L1 l4 (ji31)) 1) then (some (([] : List Int), 7)) else (impl_GrowStages.l0 k2 a1 a2 a3 l4 l4 (l4.length : Int) (wrap64 (x49_2 + 1)) a0_0 l0_1 l0_2 a0_3 a0_4 l0_5)) else (none))) else (none)) else (none)) else (none)) = some (r1, r2) := by first | (rw [hji31] at H; exact H) | (simp only [hji31] at H ⊢; exact H)
                  (try rw [hji31] at A26); (try rw [hji31] at A28)
                  have hji31w : (IntKind.i64.wrap (x49_2 - 1)) = ji31 := (i64_w _).trans hji31
                  by_cases c32 : 0 ≤ (ji31)
                  ·rw [if_pos c32] at H
                   have c32b0 : decide (0 ≤ (ji31)) = true := decide_eq_true c32
                   clear c32
                   by_cases c33 : (ji31) < (l4.length : Int)
                   ·rw [if_pos c33] at H
                    have c33b0 : decide ((ji31) < (l4.length : Int)) = true := decide_eq_true c33
                    clear c33
                    by_cases c34 : 0 < ((rd_L1 l4 (ji31)).length : Int)
                    ·rw [if_pos c34] at H
                     have c34b0 : decide (0 < ((rd_L1 l4 (ji31)).length : Int)) = true := decide_eq_true c34
                     have c34b1 : decide (0 < (rd_L1 l4 (ji31)).length) = true := decide_eq_true (by omega)
                     clear c34
                     by_cases c35 : (rd (rd_L1 l4 x49_2) 0) > (rd (rd_L1 l4 (ji31)) 0)
                     ·rw [if_pos c35] at H
                      have c35b0 : decide ((rd (rd_L1 l4 (ji31)) 0) < (rd (rd_L1 l4 x49_2) 0)) = true := decide_eq_true c35
                      clear c35
                      simp only [Option.some.injEq, Prod.mk.injEq] at H
                      obtain ⟨rfl, rfl⟩ := H
                      have p463 : 0 ≤ (x49_2 : Int) := da_
                      have q463 : x49_2 < (l4.length : Int) := da_
                      obtain ⟨ad463, A463_0, c463_0, e463, hx463_0, hl463_0, hi463_0⟩ := at_L1 HR4.out x49_2 p463 q463; cases e463
                      replace hx463_0 := (wc_ HB.out hx463_0 :)
                      have HR463_0 := Aside0.mk hi463_0; have HC463_0 := Aside0.mk hl463_0; clear hi463_0 hl463_0; replace p463 := eq_true p463; replace q463 := eq_true q463
                      try go_wp2
                      have n0_ := Aside0.mk (blk_drew BK458.out)
                      have n1_ := Aside0.mk (below_drew1 HB.out)
                      clear BK458; clear HB; have BK458 := n0_; have HB := n1_; clear n0_ n1_
                      have p464 : 0 ≤ (0 : Int) := (by omega)
                      have q464 : 0 < ((rd_L1 l4 x49_2).length : Int) := da_
                      obtain ⟨ad464, e464, hx464_0⟩ := Kd.at_int HR463_0.out 0 p464 q464; have hw464_0 := hx464_0; (try rw [show ((0 : Int)).toNat = 0 from rfl] at hw464_0); (try rw [show 0 * 1 = 0 from rfl] at hw464_0); (try rw [Addr.add_zero'] at hw464_0); cases e464
                      have qi464 : (0 < (rd_L1 l4 x49_2).length) = True := eq_true (by omega)
                      (try rw [show ((0 : Int)).toNat = 0 from rfl] at hx464_0); (try rw [Addr.add_zero'] at hx464_0)
                      replace hx464_0 := (wc_ HB.out hx464_0 :)
                      replace p464 := eq_true p464; replace q464 := eq_true q464
                      have p465 : 0 ≤ (1 : Int) := (by omega)
                      have q465 : 1 < ((rd_L1 l4 x49_2).length : Int) := da_
                      obtain ⟨ad465, e465, hx465_0⟩ := Kd.at_int HR463_0.out 1 p465 q465; have hw465_0 := hx465_0; (try rw [show ((1 : Int)).toNat = 1 from rfl] at hw465_0); (try rw [show 1 * 1 = 1 from rfl] at hw465_0); (try simp only [Nat.reduceMul, Nat.reduceEqDiff, Go.Addr.add, ↓reduceIte] at hw465_0); obtain rfl : ad464 = ad465 := (by injection e465); (try simp only [show (1 : Int).toNat = 1 from rfl, Nat.reduceMul, Nat.reduceEqDiff, Go.Addr.add, ↓reduceIte] at hx465_0)
                      have qi465 : (1 < (rd_L1 l4 x49_2).length) = True := eq_true (by omega)
                      (try rw [show ((1 : Int)).toNat = 1 from rfl] at hx465_0)
                      replace hx465_0 := (wc_ HB.out hx465_0 :)
                      replace p465 := eq_true p465; replace q465 := eq_true q465
                      have p467 : 0 ≤ (0 : Int) := (by omega)
                      have q467 : 0 < ((rd_L1 l4 x49_2).length : Int) := da_
                      obtain ⟨ad467, e467, hx467_0⟩ := Kd.at_int HR463_0.out 0 p467 q467; have hw467_0 := hx467_0; (try rw [show ((0 : Int)).toNat = 0 from rfl] at hw467_0); (try rw [show 0 * 1 = 0 from rfl] at hw467_0); (try rw [Addr.add_zero'] at hw467_0); obtain rfl : ad464 = ad467 := (by injection e467)
                      have qi467 : (0 < (rd_L1 l4 x49_2).length) = True := eq_true (by omega)
                      (try rw [show ((0 : Int)).toNat = 0 from rfl] at hx467_0); (try rw [Addr.add_zero'] at hx467_0)
                      replace hx467_0 := (wc_ HB.out hx467_0 :)
                      replace p467 := eq_true p467; replace q467 := eq_true q467
                      have p468 : 0 ≤ (1 : Int) := (by omega)
                      have q468 : 1 < ((rd_L1 l4 x49_2).length : Int) := da_
                      obtain ⟨ad468, e468, hx468_0⟩ := Kd.at_int HR463_0.out 1 p468 q468; have hw468_0 := hx468_0; (try rw [show ((1 : Int)).toNat = 1 from rfl] at hw468_0); (try rw [show 1 * 1 = 1 from rfl] at hw468_0); (try simp only [Nat.reduceMul, Nat.reduceEqDiff, Go.Addr.add, ↓reduceIte] at hw468_0); obtain rfl : ad464 = ad468 := (by injection e468); (try simp only [show (1 : Int).toNat = 1 from rfl, Nat.reduceMul, Nat.reduceEqDiff, Go.Addr.add, ↓reduceIte] at hx468_0)
                      have qi468 : (1 < (rd_L1 l4 x49_2).length) = True := eq_true (by omega)
                      (try rw [show ((1 : Int)).toNat = 1 from rfl] at hx468_0)
                      replace hx468_0 := (wc_ HB.out hx468_0 :)
                      replace p468 := eq_true p468; replace q468 := eq_true q468
                      have p470 : 0 ≤ (0 : Int) := (by omega)
                      have q470 : 0 < ((rd_L1 l4 x49_2).length : Int) := da_
                      obtain ⟨ad470, e470, hx470_0⟩ := Kd.at_int HR463_0.out 0 p470 q470; have hw470_0 := hx470_0; (try rw [show ((0 : Int)).toNat = 0 from rfl] at hw470_0); (try rw [show 0 * 1 = 0 from rfl] at hw470_0); (try rw [Addr.add_zero'] at hw470_0); obtain rfl : ad464 = ad470 := (by injection e470)
                      have qi470 : (0 < (rd_L1 l4 x49_2).length) = True := eq_true (by omega)
                      (try rw [show ((0 : Int)).toNat = 0 from rfl] at hx470_0); (try rw [Addr.add_zero'] at hx470_0)
                      replace hx470_0 := (wc_ HB.out hx470_0 :)
                      replace p470 := eq_true p470; replace q470 := eq_true q470
                      have p471 : 0 ≤ ((ji31) : Int) := da_
                      have q471 : (ji31) < (l4.length : Int) := da_
                      obtain ⟨ad471, A471_0, c471_0, e471, hx471_0, hl471_0, hi471_0⟩ := at_L1 HR4.out (ji31) p471 q471; have hw471_0 := hx471_0; obtain rfl : ad463 = ad471 := (by injection e471)
                      replace hx471_0 := (wc_ HB.out hx471_0 :)
                      have HR471_0 := Aside0.mk hi471_0; have HC471_0 := Aside0.mk hl471_0; clear hi471_0 hl471_0; replace p471 := eq_true p471; replace q471 := eq_true q471
                      have p472 : 0 ≤ (0 : Int) := (by omega)
                      have q472 : 0 < ((rd_L1 l4 (ji31)).length : Int) := da_
                      obtain ⟨ad472, e472, hx472_0⟩ := Kd.at_int HR471_0.out 0 p472 q472; have hw472_0 := hx472_0; (try rw [show ((0 : Int)).toNat = 0 from rfl] at hw472_0); (try rw [show 0 * 1 = 0 from rfl] at hw472_0); (try rw [Addr.add_zero'] at hw472_0); cases e472
                      have qi472 : (0 < (rd_L1 l4 (ji31)).length) = True := eq_true (by omega)
                      (try rw [show ((0 : Int)).toNat = 0 from rfl] at hx472_0); (try rw [Addr.add_zero'] at hx472_0)
                      replace hx472_0 := (wc_ HB.out hx472_0 :)
                      replace p472 := eq_true p472; replace q472 := eq_true q472
                      refine start_ (n := 54) (S := fun w' => w'.cell? ad464 = some (.int .i64 (rd (rd_L1 l4 x49_2) 0)) ∧ w'.cell? ⟨ad464.block, ad464.off + 1, none⟩ = some (.int .i64 (rd (rd_L1 l4 x49_2) 1)) ∧ w'.cell? ad464 = some (.int .i64 (rd (rd_L1 l4 x49_2) 0)) ∧ w'.cell? ⟨ad464.block, ad464.off + 1, none⟩ = some (.int .i64 (rd (rd_L1 l4 x49_2) 1)) ∧ w'.cell? ad464 = some (.int .i64 (rd (rd_L1 l4 x49_2) 0)) ∧ w'.cell? (ad463.add ((ji31)).toNat) = some (.slice (some ad472) (rd_L1 l4 (ji31)).length c471_0) ∧ w'.cell? ad472 = some (.int .i64 (rd (rd_L1 l4 (ji31)) 0))) (ds := []) impl_GrowStages.K0 (by kernel_rfl) rfl rfl ⟨(wc_ HB.out hw464_0 :), (wc_ HB.out hw465_0 :), (wc_ HB.out hw467_0 :), (wc_ HB.out hw468_0 :), (wc_ HB.out hw470_0 :), (wc_ HB.out hw471_0 :), (wc_ HB.out hw472_0 :)⟩ (fun hHeld => ?_); refine with_tabW impl_GrowStages.tab10 impl_GrowStages.bits10 (fun HT_ HW_ => ?_)
                      generalize wr.drew = w36 at BK458 HB HR471_0 hx464_0 hx465_0 hx467_0 hx468_0 hx470_0 hx471_0 hx472_0 hHeld ⊢
                      refine pu_ HT_ 0 54 impl_GrowStages.K1 ?_; refine pu_ HT_ 1 55 impl_GrowStages.K2 ?_; refine pu_ HT_ 2 56 impl_GrowStages.K3 ?_; refine pu_ HT_ 3 57 impl_GrowStages.K4 ?_; refine pu_ HT_ 4 58 impl_GrowStages.K5 ?_; refine pu_ HT_ 5 59 impl_GrowStages.K6 ?_; refine pu_ HT_ 7 61 impl_GrowStages.K7 ?_; refine pu_ HT_ 8 62 impl_GrowStages.K8 ?_; refine tk_ HT_ HW_ hHeld 6 60 impl_GrowStages.K9 ?_; refine tk_ HT_ HW_ hHeld 9 63 impl_GrowStages.K10 ?_
                      refine one_ (i := 10) (N := some 64) impl_GrowStages.K11 rfl rfl (one_of HT_.out (by kernel_rfl)) (by decide) (fun K hK => ?_)
                      refine goes_ Try.func64 (by kernel_rfl) rfl #[.int .i64 (rd (rd_L1 l4 x49_2) 0), .int .i64 (rd (rd_L1 l4 x49_2) 1)] (by rfl) rfl rfl av_ ?_
                      with_reducible refine (impl_rangeOk.calls (rd (rd_L1 l4 x49_2) 0) (rd (rd_L1 l4 x49_2) 1) true _ A26.out).mono ?_
                      rintro e w' ⟨rfl, ⟨nd, rfl⟩⟩
                      refine ⟨_, rfl, ?_⟩
                      refine hK.out _ _ ⟨(wc_ HB.out hw464_0 :), (wc_ HB.out hw465_0 :), (wc_ HB.out hw467_0 :), (wc_ HB.out hw468_0 :), (wc_ HB.out hw470_0 :), (wc_ HB.out hw471_0 :), (wc_ HB.out hw472_0 :)⟩ (fun hHeld => ?_)
                      clear hK K; refine norm_ (a' := ?_) ?_ ?_; rotate_left
                      ·show Act.put _ (some 64) _ = _
                       go_simp
                       rfl
                      refine pu_ HT_ 11 65 impl_GrowStages.K12 ?_; refine pu_ HT_ 12 66 impl_GrowStages.K13 ?_; refine pu_ HT_ 13 67 impl_GrowStages.K14 ?_; refine pu_ HT_ 14 68 impl_GrowStages.K15 ?_; refine pu_ HT_ 15 69 impl_GrowStages.K16 ?_; refine pu_ HT_ 16 70 impl_GrowStages.K17 ?_; refine pu_ HT_ 18 72 impl_GrowStages.K18 ?_; refine pu_ HT_ 19 73 impl_GrowStages.K19 ?_; refine tk_ HT_ HW_ hHeld 17 71 impl_GrowStages.K20 ?_; refine tk_ HT_ HW_ hHeld 20 74 impl_GrowStages.K21 ?_
                      refine one_ (i := 21) (N := some 75) impl_GrowStages.K22 rfl rfl (one_of HT_.out (by kernel_rfl)) (by decide) (fun K hK => ?_)
                      refine goes_ Try.func65 (by kernel_rfl) rfl #[.int .i64 a2, .int .i64 (rd (rd_L1 l4 x49_2) 0), .int .i64 (rd (rd_L1 l4 x49_2) 1)] (by rfl) rfl rfl av_ ?_
                      with_reducible refine (impl_within.calls a2 (rd (rd_L1 l4 x49_2) 0) (rd (rd_L1 l4 x49_2) 1) true _ A28.out).mono ?_
                      rintro e w' ⟨rfl, ⟨nd, rfl⟩⟩
                      refine ⟨_, rfl, ?_⟩
                      refine hK.out _ _ ⟨(wc_ HB.out hw464_0 :), (wc_ HB.out hw465_0 :), (wc_ HB.out hw467_0 :), (wc_ HB.out hw468_0 :), (wc_ HB.out hw470_0 :), (wc_ HB.out hw471_0 :), (wc_ HB.out hw472_0 :)⟩ (fun hHeld => ?_)
                      clear hK K; refine norm_ (a' := ?_) ?_ ?_; rotate_left
                      ·show Act.put _ (some 75) _ = _
                       go_simp
                       rfl
                      refine pu_ HT_ 22 76 impl_GrowStages.K23 ?_; refine pu_ HT_ 23 77 impl_GrowStages.K24 ?_; refine pu_ HT_ 24 78 impl_GrowStages.K25 ?_; refine pu_ HT_ 25 79 impl_GrowStages.K26 ?_; refine pu_ HT_ 26 80 impl_GrowStages.K27 ?_; refine pu_ HT_ 27 81 impl_GrowStages.K28 ?_; refine pu_ HT_ 28 82 impl_GrowStages.K29 ?_; refine pu_ HT_ 29 83 impl_GrowStages.K30 ?_; refine pu_ HT_ 31 85 impl_GrowStages.K31 ?_; refine pu_ HT_ 32 86 impl_GrowStages.K32 ?_; refine pu_ HT_ 33 87 impl_GrowStages.K33 ?_; refine pu_ HT_ 34 88 impl_GrowStages.K34 ?_; refine tk_ HT_ HW_ hHeld 30 84 impl_GrowStages.K35 ?_; refine tk_ HT_ HW_ hHeld 35 89 impl_GrowStages.K36 ?_; refine pu_ HT_ 36 90 impl_GrowStages.K37 ?_; refine tk_ HT_ HW_ hHeld 37 91 impl_GrowStages.K38 ?_; refine pu_ HT_ 38 92 impl_GrowStages.K39 ?_; refine pu_ HT_ 39 93 impl_GrowStages.K40 ?_; refine un_ HT_ 40 94 impl_GrowStages.K41 ?_; refine un_ HT_ 41 95 impl_GrowStages.K42 ?_; refine un_ HT_ 42 96 impl_GrowStages.K43 ?_; refine un_ HT_ 43 97 impl_GrowStages.K44 ?_; refine un_ HT_ 44 98 impl_GrowStages.K45 ?_; refine un_ HT_ 45 99 impl_GrowStages.K46 ?_; refine un_ HT_ 46 100 impl_GrowStages.K47 ?_; refine un_ HT_ 47 101 impl_GrowStages.K48 ?_; refine un_ HT_ 48 102 impl_GrowStages.K49 ?_; refine un_ HT_ 49 103 impl_GrowStages.K50 ?_; refine un_ HT_ 50 104 impl_GrowStages.K51 ?_; refine pu_ HT_ 51 105 impl_GrowStages.K52 ?_; refine pu_ HT_ 52 106 impl_GrowStages.K53 ?_; refine pu_ HT_ 53 107 impl_GrowStages.K54 ?_
                      refine done_ (done_of HT_.out (by kernel_rfl)) ?_
                      try go_wp2
                      go_ret2
                      exact ⟨_, by first | rfl | (simp [errW_none, errW_some] <;> rfl) | (simp only [← hji31]; first | rfl | (simp [errW_none, errW_some] <;> rfl)) | (simp [*, errW_none, errW_some] <;> rfl), by first | exact Kd.R_nil _ _ _ _ _ | exact Kd.N_nil _ _ _ _ _ | exact Kd.V_nil _ _ _ _ _ | exact Kd.Q_nil _ _ _ _ _ | exact Kd.S_nil _ _ _ _ _, bg_ HB.out GE458.out⟩
                     ·rw [if_neg c35] at H
                      have c35b0 : decide ((rd (rd_L1 l4 (ji31)) 0) < (rd (rd_L1 l4 x49_2) 0)) = false := decide_eq_false c35
                      clear c35
                      by_cases c37 : 1 < ((rd_L1 l4 (ji31)).length : Int)
                      ·rw [if_pos c37] at H
                       have c37b0 : decide (1 < ((rd_L1 l4 (ji31)).length : Int)) = true := decide_eq_true c37
                       have c37b1 : decide (1 < (rd_L1 l4 (ji31)).length) = true := decide_eq_true (by omega)
                       clear c37
                       by_cases c38 : (rd (rd_L1 l4 x49_2) 1) < (rd (rd_L1 l4 (ji31)) 1)
                       ·rw [if_pos c38] at H
                        have c38b0 : decide ((rd (rd_L1 l4 x49_2) 1) < (rd (rd_L1 l4 (ji31)) 1)) = true := decide_eq_true c38
                        clear c38
                        simp only [Option.some.injEq, Prod.mk.injEq] at H
                        obtain ⟨rfl, rfl⟩ := H
                        have p463 : 0 ≤ (x49_2 : Int) := da_
                        have q463 : x49_2 < (l4.length : Int) := da_
                        obtain ⟨ad463, A463_0, c463_0, e463, hx463_0, hl463_0, hi463_0⟩ := at_L1 HR4.out x49_2 p463 q463; cases e463
                        replace hx463_0 := (wc_ HB.out hx463_0 :)
                        have HR463_0 := Aside0.mk hi463_0; have HC463_0 := Aside0.mk hl463_0; clear hi463_0 hl463_0; replace p463 := eq_true p463; replace q463 := eq_true q463
                        try go_wp2
                        have n0_ := Aside0.mk (blk_drew BK458.out)
                        have n1_ := Aside0.mk (below_drew1 HB.out)
                        clear BK458; clear HB; have BK458 := n0_; have HB := n1_; clear n0_ n1_
                        have p464 : 0 ≤ (0 : Int) := (by omega)
                        have q464 : 0 < ((rd_L1 l4 x49_2).length : Int) := da_
                        obtain ⟨ad464, e464, hx464_0⟩ := Kd.at_int HR463_0.out 0 p464 q464; have hw464_0 := hx464_0; (try rw [show ((0 : Int)).toNat = 0 from rfl] at hw464_0); (try rw [show 0 * 1 = 0 from rfl] at hw464_0); (try rw [Addr.add_zero'] at hw464_0); cases e464
                        have qi464 : (0 < (rd_L1 l4 x49_2).length) = True := eq_true (by omega)
                        (try rw [show ((0 : Int)).toNat = 0 from rfl] at hx464_0); (try rw [Addr.add_zero'] at hx464_0)
                        replace hx464_0 := (wc_ HB.out hx464_0 :)
                        replace p464 := eq_true p464; replace q464 := eq_true q464
                        have p465 : 0 ≤ (1 : Int) := (by omega)
                        have q465 : 1 < ((rd_L1 l4 x49_2).length : Int) := da_
                        obtain ⟨ad465, e465, hx465_0⟩ := Kd.at_int HR463_0.out 1 p465 q465; have hw465_0 := hx465_0; (try rw [show ((1 : Int)).toNat = 1 from rfl] at hw465_0); (try rw [show 1 * 1 = 1 from rfl] at hw465_0); (try simp only [Nat.reduceMul, Nat.reduceEqDiff, Go.Addr.add, ↓reduceIte] at hw465_0); obtain rfl : ad464 = ad465 := (by injection e465); (try simp only [show (1 : Int).toNat = 1 from rfl, Nat.reduceMul, Nat.reduceEqDiff, Go.Addr.add, ↓reduceIte] at hx465_0)
                        have qi465 : (1 < (rd_L1 l4 x49_2).length) = True := eq_true (by omega)
                        (try rw [show ((1 : Int)).toNat = 1 from rfl] at hx465_0)
                        replace hx465_0 := (wc_ HB.out hx465_0 :)
                        replace p465 := eq_true p465; replace q465 := eq_true q465
                        have p467 : 0 ≤ (0 : Int) := (by omega)
                        have q467 : 0 < ((rd_L1 l4 x49_2).length : Int) := da_
                        obtain ⟨ad467, e467, hx467_0⟩ := Kd.at_int HR463_0.out 0 p467 q467; have hw467_0 := hx467_0; (try rw [show ((0 : Int)).toNat = 0 from rfl] at hw467_0); (try rw [show 0 * 1 = 0 from rfl] at hw467_0); (try rw [Addr.add_zero'] at hw467_0); obtain rfl : ad464 = ad467 := (by injection e467)
                        have qi467 : (0 < (rd_L1 l4 x49_2).length) = True := eq_true (by omega)
                        (try rw [show ((0 : Int)).toNat = 0 from rfl] at hx467_0); (try rw [Addr.add_zero'] at hx467_0)
                        replace hx467_0 := (wc_ HB.out hx467_0 :)
                        replace p467 := eq_true p467; replace q467 := eq_true q467
                        have p468 : 0 ≤ (1 : Int) := (by omega)
                        have q468 : 1 < ((rd_L1 l4 x49_2).length : Int) := da_
                        obtain ⟨ad468, e468, hx468_0⟩ := Kd.at_int HR463_0.out 1 p468 q468; have hw468_0 := hx468_0; (try rw [show ((1 : Int)).toNat = 1 from rfl] at hw468_0); (try rw [show 1 * 1 = 1 from rfl] at hw468_0); (try simp only [Nat.reduceMul, Nat.reduceEqDiff, Go.Addr.add, ↓reduceIte] at hw468_0); obtain rfl : ad464 = ad468 := (by injection e468); (try simp only [show (1 : Int).toNat = 1 from rfl, Nat.reduceMul, Nat.reduceEqDiff, Go.Addr.add, ↓reduceIte] at hx468_0)
                        have qi468 : (1 < (rd_L1 l4 x49_2).length) = True := eq_true (by omega)
                        (try rw [show ((1 : Int)).toNat = 1 from rfl] at hx468_0)
                        replace hx468_0 := (wc_ HB.out hx468_0 :)
                        replace p468 := eq_true p468; replace q468 := eq_true q468
                        have p470 : 0 ≤ (0 : Int) := (by omega)
                        have q470 : 0 < ((rd_L1 l4 x49_2).length : Int) := da_
                        obtain ⟨ad470, e470, hx470_0⟩ := Kd.at_int HR463_0.out 0 p470 q470; have hw470_0 := hx470_0; (try rw [show ((0 : Int)).toNat = 0 from rfl] at hw470_0); (try rw [show 0 * 1 = 0 from rfl] at hw470_0); (try rw [Addr.add_zero'] at hw470_0); obtain rfl : ad464 = ad470 := (by injection e470)
                        have qi470 : (0 < (rd_L1 l4 x49_2).length) = True := eq_true (by omega)
                        (try rw [show ((0 : Int)).toNat = 0 from rfl] at hx470_0); (try rw [Addr.add_zero'] at hx470_0)
                        replace hx470_0 := (wc_ HB.out hx470_0 :)
                        replace p470 := eq_true p470; replace q470 := eq_true q470
                        have p471 : 0 ≤ ((ji31) : Int) := da_
                        have q471 : (ji31) < (l4.length : Int) := da_
                        obtain ⟨ad471, A471_0, c471_0, e471, hx471_0, hl471_0, hi471_0⟩ := at_L1 HR4.out (ji31) p471 q471; have hw471_0 := hx471_0; obtain rfl : ad463 = ad471 := (by injection e471)
                        replace hx471_0 := (wc_ HB.out hx471_0 :)
                        have HR471_0 := Aside0.mk hi471_0; have HC471_0 := Aside0.mk hl471_0; clear hi471_0 hl471_0; replace p471 := eq_true p471; replace q471 := eq_true q471
                        have p472 : 0 ≤ (0 : Int) := (by omega)
                        have q472 : 0 < ((rd_L1 l4 (ji31)).length : Int) := da_
                        obtain ⟨ad472, e472, hx472_0⟩ := Kd.at_int HR471_0.out 0 p472 q472; have hw472_0 := hx472_0; (try rw [show ((0 : Int)).toNat = 0 from rfl] at hw472_0); (try rw [show 0 * 1 = 0 from rfl] at hw472_0); (try rw [Addr.add_zero'] at hw472_0); cases e472
                        have qi472 : (0 < (rd_L1 l4 (ji31)).length) = True := eq_true (by omega)
                        (try rw [show ((0 : Int)).toNat = 0 from rfl] at hx472_0); (try rw [Addr.add_zero'] at hx472_0)
                        replace hx472_0 := (wc_ HB.out hx472_0 :)
                        replace p472 := eq_true p472; replace q472 := eq_true q472
                        have p473 : 0 ≤ (1 : Int) := (by omega)
                        have q473 : 1 < ((rd_L1 l4 x49_2).length : Int) := da_
                        obtain ⟨ad473, e473, hx473_0⟩ := Kd.at_int HR463_0.out 1 p473 q473; have hw473_0 := hx473_0; (try rw [show ((1 : Int)).toNat = 1 from rfl] at hw473_0); (try rw [show 1 * 1 = 1 from rfl] at hw473_0); (try simp only [Nat.reduceMul, Nat.reduceEqDiff, Go.Addr.add, ↓reduceIte] at hw473_0); obtain rfl : ad464 = ad473 := (by injection e473); (try simp only [show (1 : Int).toNat = 1 from rfl, Nat.reduceMul, Nat.reduceEqDiff, Go.Addr.add, ↓reduceIte] at hx473_0)
                        have qi473 : (1 < (rd_L1 l4 x49_2).length) = True := eq_true (by omega)
                        (try rw [show ((1 : Int)).toNat = 1 from rfl] at hx473_0)
                        replace hx473_0 := (wc_ HB.out hx473_0 :)
                        replace p473 := eq_true p473; replace q473 := eq_true q473
                        have p474 : 0 ≤ ((ji31) : Int) := da_
                        have q474 : (ji31) < (l4.length : Int) := da_
                        obtain ⟨ad474, A474_0, c474_0, e474, hx474_0, hl474_0, hi474_0⟩ := at_L1 HR4.out (ji31) p474 q474; have hw474_0 := hx474_0; obtain rfl : ad463 = ad474 := (by injection e474)
                        replace hx474_0 := (wc_ HB.out hx474_0 :)
                        have HR474_0 := Aside0.mk hi474_0; have HC474_0 := Aside0.mk hl474_0; clear hi474_0 hl474_0; replace p474 := eq_true p474; replace q474 := eq_true q474
                        have ea_ := Option.some.inj (hx471_0.symm.trans hx474_0)
                        injection ea_ with ea_ en_ ec_
                        subst ea_; subst ec_; clear en_
                        have p475 : 0 ≤ (1 : Int) := (by omega)
                        have q475 : 1 < ((rd_L1 l4 (ji31)).length : Int) := da_
                        obtain ⟨ad475, e475, hx475_0⟩ := Kd.at_int HR474_0.out 1 p475 q475; have hw475_0 := hx475_0; (try rw [show ((1 : Int)).toNat = 1 from rfl] at hw475_0); (try rw [show 1 * 1 = 1 from rfl] at hw475_0); (try simp only [Nat.reduceMul, Nat.reduceEqDiff, Go.Addr.add, ↓reduceIte] at hw475_0); cases e475; (try simp only [show (1 : Int).toNat = 1 from rfl, Nat.reduceMul, Nat.reduceEqDiff, Go.Addr.add, ↓reduceIte] at hx475_0)
                        have qi475 : (1 < (rd_L1 l4 (ji31)).length) = True := eq_true (by omega)
                        (try rw [show ((1 : Int)).toNat = 1 from rfl] at hx475_0)
                        replace hx475_0 := (wc_ HB.out hx475_0 :)
                        replace p475 := eq_true p475; replace q475 := eq_true q475
                        refine start_ (n := 54) (S := fun w' => w'.cell? ad464 = some (.int .i64 (rd (rd_L1 l4 x49_2) 0)) ∧ w'.cell? ⟨ad464.block, ad464.off + 1, none⟩ = some (.int .i64 (rd (rd_L1 l4 x49_2) 1)) ∧ w'.cell? ad464 = some (.int .i64 (rd (rd_L1 l4 x49_2) 0)) ∧ w'.cell? ⟨ad464.block, ad464.off + 1, none⟩ = some (.int .i64 (rd (rd_L1 l4 x49_2) 1)) ∧ w'.cell? ad464 = some (.int .i64 (rd (rd_L1 l4 x49_2) 0)) ∧ w'.cell? (ad463.add ((ji31)).toNat) = some (.slice (some ad472) (rd_L1 l4 (ji31)).length c471_0) ∧ w'.cell? ad472 = some (.int .i64 (rd (rd_L1 l4 (ji31)) 0)) ∧ w'.cell? ⟨ad464.block, ad464.off + 1, none⟩ = some (.int .i64 (rd (rd_L1 l4 x49_2) 1)) ∧ w'.cell? (ad463.add ((ji31)).toNat) = some (.slice (some ad472) (rd_L1 l4 (ji31)).length c471_0) ∧ w'.cell? ⟨ad472.block, ad472.off + 1, none⟩ = some (.int .i64 (rd (rd_L1 l4 (ji31)) 1))) (ds := []) impl_GrowStages.K0 (by kernel_rfl) rfl rfl ⟨(wc_ HB.out hw464_0 :), (wc_ HB.out hw465_0 :), (wc_ HB.out hw467_0 :), (wc_ HB.out hw468_0 :), (wc_ HB.out hw470_0 :), (wc_ HB.out hw471_0 :), (wc_ HB.out hw472_0 :), (wc_ HB.out hw473_0 :), (wc_ HB.out hw474_0 :), (wc_ HB.out hw475_0 :)⟩ (fun hHeld => ?_); refine with_tabW impl_GrowStages.tab10 impl_GrowStages.bits10 (fun HT_ HW_ => ?_)
                        generalize wr.drew = w39 at BK458 HB HR471_0 HR474_0 hx464_0 hx465_0 hx467_0 hx468_0 hx470_0 hx471_0 hx472_0 hx473_0 hx474_0 hx475_0 hHeld ⊢
                        refine pu_ HT_ 0 54 impl_GrowStages.K1 ?_; refine pu_ HT_ 1 55 impl_GrowStages.K2 ?_; refine pu_ HT_ 2 56 impl_GrowStages.K3 ?_; refine pu_ HT_ 3 57 impl_GrowStages.K4 ?_; refine pu_ HT_ 4 58 impl_GrowStages.K5 ?_; refine pu_ HT_ 5 59 impl_GrowStages.K6 ?_; refine pu_ HT_ 7 61 impl_GrowStages.K7 ?_; refine pu_ HT_ 8 62 impl_GrowStages.K8 ?_; refine tk_ HT_ HW_ hHeld 6 60 impl_GrowStages.K9 ?_; refine tk_ HT_ HW_ hHeld 9 63 impl_GrowStages.K10 ?_
                        refine one_ (i := 10) (N := some 64) impl_GrowStages.K11 rfl rfl (one_of HT_.out (by kernel_rfl)) (by decide) (fun K hK => ?_)
                        refine goes_ Try.func64 (by kernel_rfl) rfl #[.int .i64 (rd (rd_L1 l4 x49_2) 0), .int .i64 (rd (rd_L1 l4 x49_2) 1)] (by rfl) rfl rfl av_ ?_
                        with_reducible refine (impl_rangeOk.calls (rd (rd_L1 l4 x49_2) 0) (rd (rd_L1 l4 x49_2) 1) true _ A26.out).mono ?_
                        rintro e w' ⟨rfl, ⟨nd, rfl⟩⟩
                        refine ⟨_, rfl, ?_⟩
                        refine hK.out _ _ ⟨(wc_ HB.out hw464_0 :), (wc_ HB.out hw465_0 :), (wc_ HB.out hw467_0 :), (wc_ HB.out hw468_0 :), (wc_ HB.out hw470_0 :), (wc_ HB.out hw471_0 :), (wc_ HB.out hw472_0 :), (wc_ HB.out hw473_0 :), (wc_ HB.out hw474_0 :), (wc_ HB.out hw475_0 :)⟩ (fun hHeld => ?_)
                        clear hK K; refine norm_ (a' := ?_) ?_ ?_; rotate_left
                        ·show Act.put _ (some 64) _ = _
                         go_simp
                         rfl
                        refine pu_ HT_ 11 65 impl_GrowStages.K12 ?_; refine pu_ HT_ 12 66 impl_GrowStages.K13 ?_; refine pu_ HT_ 13 67 impl_GrowStages.K14 ?_; refine pu_ HT_ 14 68 impl_GrowStages.K15 ?_; refine pu_ HT_ 15 69 impl_GrowStages.K16 ?_; refine pu_ HT_ 16 70 impl_GrowStages.K17 ?_; refine pu_ HT_ 18 72 impl_GrowStages.K18 ?_; refine pu_ HT_ 19 73 impl_GrowStages.K19 ?_; refine tk_ HT_ HW_ hHeld 17 71 impl_GrowStages.K20 ?_; refine tk_ HT_ HW_ hHeld 20 74 impl_GrowStages.K21 ?_
                        refine one_ (i := 21) (N := some 75) impl_GrowStages.K22 rfl rfl (one_of HT_.out (by kernel_rfl)) (by decide) (fun K hK => ?_)
                        refine goes_ Try.func65 (by kernel_rfl) rfl #[.int .i64 a2, .int .i64 (rd (rd_L1 l4 x49_2) 0), .int .i64 (rd (rd_L1 l4 x49_2) 1)] (by rfl) rfl rfl av_ ?_
                        with_reducible refine (impl_within.calls a2 (rd (rd_L1 l4 x49_2) 0) (rd (rd_L1 l4 x49_2) 1) true _ A28.out).mono ?_
                        rintro e w' ⟨rfl, ⟨nd, rfl⟩⟩
                        refine ⟨_, rfl, ?_⟩
                        refine hK.out _ _ ⟨(wc_ HB.out hw464_0 :), (wc_ HB.out hw465_0 :), (wc_ HB.out hw467_0 :), (wc_ HB.out hw468_0 :), (wc_ HB.out hw470_0 :), (wc_ HB.out hw471_0 :), (wc_ HB.out hw472_0 :), (wc_ HB.out hw473_0 :), (wc_ HB.out hw474_0 :), (wc_ HB.out hw475_0 :)⟩ (fun hHeld => ?_)
                        clear hK K; refine norm_ (a' := ?_) ?_ ?_; rotate_left
                        ·show Act.put _ (some 75) _ = _
                         go_simp
                         rfl
                        refine pu_ HT_ 22 76 impl_GrowStages.K23 ?_; refine pu_ HT_ 23 77 impl_GrowStages.K24 ?_; refine pu_ HT_ 24 78 impl_GrowStages.K25 ?_; refine pu_ HT_ 25 79 impl_GrowStages.K26 ?_; refine pu_ HT_ 26 80 impl_GrowStages.K27 ?_; refine pu_ HT_ 27 81 impl_GrowStages.K28 ?_; refine pu_ HT_ 28 82 impl_GrowStages.K29 ?_; refine pu_ HT_ 29 83 impl_GrowStages.K30 ?_; refine pu_ HT_ 31 85 impl_GrowStages.K31 ?_; refine pu_ HT_ 32 86 impl_GrowStages.K32 ?_; refine pu_ HT_ 33 87 impl_GrowStages.K33 ?_; refine pu_ HT_ 34 88 impl_GrowStages.K34 ?_; refine tk_ HT_ HW_ hHeld 30 84 impl_GrowStages.K35 ?_; refine tk_ HT_ HW_ hHeld 35 89 impl_GrowStages.K36 ?_; refine pu_ HT_ 36 90 impl_GrowStages.K37 ?_; refine tk_ HT_ HW_ hHeld 37 91 impl_GrowStages.K38 ?_; refine pu_ HT_ 38 92 impl_GrowStages.K39 ?_; refine pu_ HT_ 39 93 impl_GrowStages.K40 ?_; refine pu_ HT_ 40 94 impl_GrowStages.K41 ?_; refine pu_ HT_ 41 95 impl_GrowStages.K42 ?_; refine pu_ HT_ 43 97 impl_GrowStages.K55 ?_; refine pu_ HT_ 44 98 impl_GrowStages.K56 ?_; refine pu_ HT_ 45 99 impl_GrowStages.K57 ?_; refine pu_ HT_ 46 100 impl_GrowStages.K58 ?_; refine tk_ HT_ HW_ hHeld 42 96 impl_GrowStages.K47 ?_; refine tk_ HT_ HW_ hHeld 47 101 impl_GrowStages.K48 ?_; refine pu_ HT_ 48 102 impl_GrowStages.K49 ?_; refine tk_ HT_ HW_ hHeld 49 103 impl_GrowStages.K50 ?_; refine pu_ HT_ 50 104 impl_GrowStages.K51 ?_; refine pu_ HT_ 51 105 impl_GrowStages.K52 ?_; refine pu_ HT_ 52 106 impl_GrowStages.K53 ?_; refine pu_ HT_ 53 107 impl_GrowStages.K54 ?_
                        refine done_ (done_of HT_.out (by kernel_rfl)) ?_
                        try go_wp2
                        go_ret2
                        exact ⟨_, by first | rfl | (simp [errW_none, errW_some] <;> rfl) | (simp only [← hji31]; first | rfl | (simp [errW_none, errW_some] <;> rfl)) | (simp [*, errW_none, errW_some] <;> rfl), by first | exact Kd.R_nil _ _ _ _ _ | exact Kd.N_nil _ _ _ _ _ | exact Kd.V_nil _ _ _ _ _ | exact Kd.Q_nil _ _ _ _ _ | exact Kd.S_nil _ _ _ _ _, bg_ HB.out GE458.out⟩
                       ·rw [if_neg c38] at H
                        have c38b0 : decide ((rd (rd_L1 l4 x49_2) 1) < (rd (rd_L1 l4 (ji31)) 1)) = false := decide_eq_false c38
                        clear c38
                        have H' := Aside0.mk H
                        clear H
                        have p463 : 0 ≤ (x49_2 : Int) := da_
                        have q463 : x49_2 < (l4.length : Int) := da_
                        obtain ⟨ad463, A463_0, c463_0, e463, hx463_0, hl463_0, hi463_0⟩ := at_L1 HR4.out x49_2 p463 q463; cases e463
                        replace hx463_0 := (wc_ HB.out hx463_0 :)
                        have HR463_0 := Aside0.mk hi463_0; have HC463_0 := Aside0.mk hl463_0; clear hi463_0 hl463_0; replace p463 := eq_true p463; replace q463 := eq_true q463
                        try go_wp2
                        have n0_ := Aside0.mk (blk_drew BK458.out)
                        have n1_ := Aside0.mk (below_drew1 HB.out)
                        clear BK458; clear HB; have BK458 := n0_; have HB := n1_; clear n0_ n1_
                        have p464 : 0 ≤ (0 : Int) := (by omega)
                        have q464 : 0 < ((rd_L1 l4 x49_2).length : Int) := da_
                        obtain ⟨ad464, e464, hx464_0⟩ := Kd.at_int HR463_0.out 0 p464 q464; have hw464_0 := hx464_0; (try rw [show ((0 : Int)).toNat = 0 from rfl] at hw464_0); (try rw [show 0 * 1 = 0 from rfl] at hw464_0); (try rw [Addr.add_zero'] at hw464_0); cases e464
                        have qi464 : (0 < (rd_L1 l4 x49_2).length) = True := eq_true (by omega)
                        (try rw [show ((0 : Int)).toNat = 0 from rfl] at hx464_0); (try rw [Addr.add_zero'] at hx464_0)
                        replace hx464_0 := (wc_ HB.out hx464_0 :)
                        replace p464 := eq_true p464; replace q464 := eq_true q464
                        have p465 : 0 ≤ (1 : Int) := (by omega)
                        have q465 : 1 < ((rd_L1 l4 x49_2).length : Int) := da_
                        obtain ⟨ad465, e465, hx465_0⟩ := Kd.at_int HR463_0.out 1 p465 q465; have hw465_0 := hx465_0; (try rw [show ((1 : Int)).toNat = 1 from rfl] at hw465_0); (try rw [show 1 * 1 = 1 from rfl] at hw465_0); (try simp only [Nat.reduceMul, Nat.reduceEqDiff, Go.Addr.add, ↓reduceIte] at hw465_0); obtain rfl : ad464 = ad465 := (by injection e465); (try simp only [show (1 : Int).toNat = 1 from rfl, Nat.reduceMul, Nat.reduceEqDiff, Go.Addr.add, ↓reduceIte] at hx465_0)
                        have qi465 : (1 < (rd_L1 l4 x49_2).length) = True := eq_true (by omega)
                        (try rw [show ((1 : Int)).toNat = 1 from rfl] at hx465_0)
                        replace hx465_0 := (wc_ HB.out hx465_0 :)
                        replace p465 := eq_true p465; replace q465 := eq_true q465
                        have p467 : 0 ≤ (0 : Int) := (by omega)
                        have q467 : 0 < ((rd_L1 l4 x49_2).length : Int) := da_
                        obtain ⟨ad467, e467, hx467_0⟩ := Kd.at_int HR463_0.out 0 p467 q467; have hw467_0 := hx467_0; (try rw [show ((0 : Int)).toNat = 0 from rfl] at hw467_0); (try rw [show 0 * 1 = 0 from rfl] at hw467_0); (try rw [Addr.add_zero'] at hw467_0); obtain rfl : ad464 = ad467 := (by injection e467)
                        have qi467 : (0 < (rd_L1 l4 x49_2).length) = True := eq_true (by omega)
                        (try rw [show ((0 : Int)).toNat = 0 from rfl] at hx467_0); (try rw [Addr.add_zero'] at hx467_0)
                        replace hx467_0 := (wc_ HB.out hx467_0 :)
                        replace p467 := eq_true p467; replace q467 := eq_true q467
                        have p468 : 0 ≤ (1 : Int) := (by omega)
                        have q468 : 1 < ((rd_L1 l4 x49_2).length : Int) := da_
                        obtain ⟨ad468, e468, hx468_0⟩ := Kd.at_int HR463_0.out 1 p468 q468; have hw468_0 := hx468_0; (try rw [show ((1 : Int)).toNat = 1 from rfl] at hw468_0); (try rw [show 1 * 1 = 1 from rfl] at hw468_0); (try simp only [Nat.reduceMul, Nat.reduceEqDiff, Go.Addr.add, ↓reduceIte] at hw468_0); obtain rfl : ad464 = ad468 := (by injection e468); (try simp only [show (1 : Int).toNat = 1 from rfl, Nat.reduceMul, Nat.reduceEqDiff, Go.Addr.add, ↓reduceIte] at hx468_0)
                        have qi468 : (1 < (rd_L1 l4 x49_2).length) = True := eq_true (by omega)
                        (try rw [show ((1 : Int)).toNat = 1 from rfl] at hx468_0)
                        replace hx468_0 := (wc_ HB.out hx468_0 :)
                        replace p468 := eq_true p468; replace q468 := eq_true q468
                        have p470 : 0 ≤ (0 : Int) := (by omega)
                        have q470 : 0 < ((rd_L1 l4 x49_2).length : Int) := da_
                        obtain ⟨ad470, e470, hx470_0⟩ := Kd.at_int HR463_0.out 0 p470 q470; have hw470_0 := hx470_0; (try rw [show ((0 : Int)).toNat = 0 from rfl] at hw470_0); (try rw [show 0 * 1 = 0 from rfl] at hw470_0); (try rw [Addr.add_zero'] at hw470_0); obtain rfl : ad464 = ad470 := (by injection e470)
                        have qi470 : (0 < (rd_L1 l4 x49_2).length) = True := eq_true (by omega)
                        (try rw [show ((0 : Int)).toNat = 0 from rfl] at hx470_0); (try rw [Addr.add_zero'] at hx470_0)
                        replace hx470_0 := (wc_ HB.out hx470_0 :)
                        replace p470 := eq_true p470; replace q470 := eq_true q470
                        have p471 : 0 ≤ ((ji31) : Int) := da_
                        have q471 : (ji31) < (l4.length : Int) := da_
                        obtain ⟨ad471, A471_0, c471_0, e471, hx471_0, hl471_0, hi471_0⟩ := at_L1 HR4.out (ji31) p471 q471; have hw471_0 := hx471_0; obtain rfl : ad463 = ad471 := (by injection e471)
                        replace hx471_0 := (wc_ HB.out hx471_0 :)
                        have HR471_0 := Aside0.mk hi471_0; have HC471_0 := Aside0.mk hl471_0; clear hi471_0 hl471_0; replace p471 := eq_true p471; replace q471 := eq_true q471
                        have p472 : 0 ≤ (0 : Int) := (by omega)
                        have q472 : 0 < ((rd_L1 l4 (ji31)).length : Int) := da_
                        obtain ⟨ad472, e472, hx472_0⟩ := Kd.at_int HR471_0.out 0 p472 q472; have hw472_0 := hx472_0; (try rw [show ((0 : Int)).toNat = 0 from rfl] at hw472_0); (try rw [show 0 * 1 = 0 from rfl] at hw472_0); (try rw [Addr.add_zero'] at hw472_0); cases e472
                        have qi472 : (0 < (rd_L1 l4 (ji31)).length) = True := eq_true (by omega)
                        (try rw [show ((0 : Int)).toNat = 0 from rfl] at hx472_0); (try rw [Addr.add_zero'] at hx472_0)
                        replace hx472_0 := (wc_ HB.out hx472_0 :)
                        replace p472 := eq_true p472; replace q472 := eq_true q472
                        have p473 : 0 ≤ (1 : Int) := (by omega)
                        have q473 : 1 < ((rd_L1 l4 x49_2).length : Int) := da_
                        obtain ⟨ad473, e473, hx473_0⟩ := Kd.at_int HR463_0.out 1 p473 q473; have hw473_0 := hx473_0; (try rw [show ((1 : Int)).toNat = 1 from rfl] at hw473_0); (try rw [show 1 * 1 = 1 from rfl] at hw473_0); (try simp only [Nat.reduceMul, Nat.reduceEqDiff, Go.Addr.add, ↓reduceIte] at hw473_0); obtain rfl : ad464 = ad473 := (by injection e473); (try simp only [show (1 : Int).toNat = 1 from rfl, Nat.reduceMul, Nat.reduceEqDiff, Go.Addr.add, ↓reduceIte] at hx473_0)
                        have qi473 : (1 < (rd_L1 l4 x49_2).length) = True := eq_true (by omega)
                        (try rw [show ((1 : Int)).toNat = 1 from rfl] at hx473_0)
                        replace hx473_0 := (wc_ HB.out hx473_0 :)
                        replace p473 := eq_true p473; replace q473 := eq_true q473
                        have p474 : 0 ≤ ((ji31) : Int) := da_
                        have q474 : (ji31) < (l4.length : Int) := da_
                        obtain ⟨ad474, A474_0, c474_0, e474, hx474_0, hl474_0, hi474_0⟩ := at_L1 HR4.out (ji31) p474 q474; have hw474_0 := hx474_0; obtain rfl : ad463 = ad474 := (by injection e474)
                        replace hx474_0 := (wc_ HB.out hx474_0 :)
                        have HR474_0 := Aside0.mk hi474_0; have HC474_0 := Aside0.mk hl474_0; clear hi474_0 hl474_0; replace p474 := eq_true p474; replace q474 := eq_true q474
                        have ea_ := Option.some.inj (hx471_0.symm.trans hx474_0)
                        injection ea_ with ea_ en_ ec_
                        subst ea_; subst ec_; clear en_
                        have p475 : 0 ≤ (1 : Int) := (by omega)
                        have q475 : 1 < ((rd_L1 l4 (ji31)).length : Int) := da_
                        obtain ⟨ad475, e475, hx475_0⟩ := Kd.at_int HR474_0.out 1 p475 q475; have hw475_0 := hx475_0; (try rw [show ((1 : Int)).toNat = 1 from rfl] at hw475_0); (try rw [show 1 * 1 = 1 from rfl] at hw475_0); (try simp only [Nat.reduceMul, Nat.reduceEqDiff, Go.Addr.add, ↓reduceIte] at hw475_0); cases e475; (try simp only [show (1 : Int).toNat = 1 from rfl, Nat.reduceMul, Nat.reduceEqDiff, Go.Addr.add, ↓reduceIte] at hx475_0)
                        have qi475 : (1 < (rd_L1 l4 (ji31)).length) = True := eq_true (by omega)
                        (try rw [show ((1 : Int)).toNat = 1 from rfl] at hx475_0)
                        replace hx475_0 := (wc_ HB.out hx475_0 :)
                        replace p475 := eq_true p475; replace q475 := eq_true q475
                        refine start_ (n := 54) (S := fun w' => w'.cell? ad464 = some (.int .i64 (rd (rd_L1 l4 x49_2) 0)) ∧ w'.cell? ⟨ad464.block, ad464.off + 1, none⟩ = some (.int .i64 (rd (rd_L1 l4 x49_2) 1)) ∧ w'.cell? ad464 = some (.int .i64 (rd (rd_L1 l4 x49_2) 0)) ∧ w'.cell? ⟨ad464.block, ad464.off + 1, none⟩ = some (.int .i64 (rd (rd_L1 l4 x49_2) 1)) ∧ w'.cell? ad464 = some (.int .i64 (rd (rd_L1 l4 x49_2) 0)) ∧ w'.cell? (ad463.add ((ji31)).toNat) = some (.slice (some ad472) (rd_L1 l4 (ji31)).length c471_0) ∧ w'.cell? ad472 = some (.int .i64 (rd (rd_L1 l4 (ji31)) 0)) ∧ w'.cell? ⟨ad464.block, ad464.off + 1, none⟩ = some (.int .i64 (rd (rd_L1 l4 x49_2) 1)) ∧ w'.cell? (ad463.add ((ji31)).toNat) = some (.slice (some ad472) (rd_L1 l4 (ji31)).length c471_0) ∧ w'.cell? ⟨ad472.block, ad472.off + 1, none⟩ = some (.int .i64 (rd (rd_L1 l4 (ji31)) 1))) (ds := []) impl_GrowStages.K0 (by kernel_rfl) rfl rfl ⟨(wc_ HB.out hw464_0 :), (wc_ HB.out hw465_0 :), (wc_ HB.out hw467_0 :), (wc_ HB.out hw468_0 :), (wc_ HB.out hw470_0 :), (wc_ HB.out hw471_0 :), (wc_ HB.out hw472_0 :), (wc_ HB.out hw473_0 :), (wc_ HB.out hw474_0 :), (wc_ HB.out hw475_0 :)⟩ (fun hHeld => ?_); refine with_tabW impl_GrowStages.tab10 impl_GrowStages.bits10 (fun HT_ HW_ => ?_)
                        generalize wr.drew = w40 at BK458 HB HR471_0 HR474_0 hx464_0 hx465_0 hx467_0 hx468_0 hx470_0 hx471_0 hx472_0 hx473_0 hx474_0 hx475_0 hHeld ⊢
                        refine pu_ HT_ 0 54 impl_GrowStages.K1 ?_; refine pu_ HT_ 1 55 impl_GrowStages.K2 ?_; refine pu_ HT_ 2 56 impl_GrowStages.K3 ?_; refine pu_ HT_ 3 57 impl_GrowStages.K4 ?_; refine pu_ HT_ 4 58 impl_GrowStages.K5 ?_; refine pu_ HT_ 5 59 impl_GrowStages.K6 ?_; refine pu_ HT_ 7 61 impl_GrowStages.K7 ?_; refine pu_ HT_ 8 62 impl_GrowStages.K8 ?_; refine tk_ HT_ HW_ hHeld 6 60 impl_GrowStages.K9 ?_; refine tk_ HT_ HW_ hHeld 9 63 impl_GrowStages.K10 ?_
                        refine one_ (i := 10) (N := some 64) impl_GrowStages.K11 rfl rfl (one_of HT_.out (by kernel_rfl)) (by decide) (fun K hK => ?_)
                        refine goes_ Try.func64 (by kernel_rfl) rfl #[.int .i64 (rd (rd_L1 l4 x49_2) 0), .int .i64 (rd (rd_L1 l4 x49_2) 1)] (by rfl) rfl rfl av_ ?_
                        with_reducible refine (impl_rangeOk.calls (rd (rd_L1 l4 x49_2) 0) (rd (rd_L1 l4 x49_2) 1) true _ A26.out).mono ?_
                        rintro e w' ⟨rfl, ⟨nd, rfl⟩⟩
                        refine ⟨_, rfl, ?_⟩
                        refine hK.out _ _ ⟨(wc_ HB.out hw464_0 :), (wc_ HB.out hw465_0 :), (wc_ HB.out hw467_0 :), (wc_ HB.out hw468_0 :), (wc_ HB.out hw470_0 :), (wc_ HB.out hw471_0 :), (wc_ HB.out hw472_0 :), (wc_ HB.out hw473_0 :), (wc_ HB.out hw474_0 :), (wc_ HB.out hw475_0 :)⟩ (fun hHeld => ?_)
                        clear hK K; refine norm_ (a' := ?_) ?_ ?_; rotate_left
                        ·show Act.put _ (some 64) _ = _
                         go_simp
                         rfl
                        refine pu_ HT_ 11 65 impl_GrowStages.K12 ?_; refine pu_ HT_ 12 66 impl_GrowStages.K13 ?_; refine pu_ HT_ 13 67 impl_GrowStages.K14 ?_; refine pu_ HT_ 14 68 impl_GrowStages.K15 ?_; refine pu_ HT_ 15 69 impl_GrowStages.K16 ?_; refine pu_ HT_ 16 70 impl_GrowStages.K17 ?_; refine pu_ HT_ 18 72 impl_GrowStages.K18 ?_; refine pu_ HT_ 19 73 impl_GrowStages.K19 ?_; refine tk_ HT_ HW_ hHeld 17 71 impl_GrowStages.K20 ?_; refine tk_ HT_ HW_ hHeld 20 74 impl_GrowStages.K21 ?_
                        refine one_ (i := 21) (N := some 75) impl_GrowStages.K22 rfl rfl (one_of HT_.out (by kernel_rfl)) (by decide) (fun K hK => ?_)
                        refine goes_ Try.func65 (by kernel_rfl) rfl #[.int .i64 a2, .int .i64 (rd (rd_L1 l4 x49_2) 0), .int .i64 (rd (rd_L1 l4 x49_2) 1)] (by rfl) rfl rfl av_ ?_
                        with_reducible refine (impl_within.calls a2 (rd (rd_L1 l4 x49_2) 0) (rd (rd_L1 l4 x49_2) 1) true _ A28.out).mono ?_
                        rintro e w' ⟨rfl, ⟨nd, rfl⟩⟩
                        refine ⟨_, rfl, ?_⟩
                        refine hK.out _ _ ⟨(wc_ HB.out hw464_0 :), (wc_ HB.out hw465_0 :), (wc_ HB.out hw467_0 :), (wc_ HB.out hw468_0 :), (wc_ HB.out hw470_0 :), (wc_ HB.out hw471_0 :), (wc_ HB.out hw472_0 :), (wc_ HB.out hw473_0 :), (wc_ HB.out hw474_0 :), (wc_ HB.out hw475_0 :)⟩ (fun hHeld => ?_)
                        clear hK K; refine norm_ (a' := ?_) ?_ ?_; rotate_left
                        ·show Act.put _ (some 75) _ = _
                         go_simp
                         rfl
                        refine pu_ HT_ 22 76 impl_GrowStages.K23 ?_; refine pu_ HT_ 23 77 impl_GrowStages.K24 ?_; refine pu_ HT_ 24 78 impl_GrowStages.K25 ?_; refine pu_ HT_ 25 79 impl_GrowStages.K26 ?_; refine pu_ HT_ 26 80 impl_GrowStages.K27 ?_; refine pu_ HT_ 27 81 impl_GrowStages.K28 ?_; refine pu_ HT_ 28 82 impl_GrowStages.K29 ?_; refine pu_ HT_ 29 83 impl_GrowStages.K30 ?_; refine pu_ HT_ 31 85 impl_GrowStages.K31 ?_; refine pu_ HT_ 32 86 impl_GrowStages.K32 ?_; refine pu_ HT_ 33 87 impl_GrowStages.K33 ?_; refine pu_ HT_ 34 88 impl_GrowStages.K34 ?_; refine tk_ HT_ HW_ hHeld 30 84 impl_GrowStages.K35 ?_; refine tk_ HT_ HW_ hHeld 35 89 impl_GrowStages.K36 ?_; refine pu_ HT_ 36 90 impl_GrowStages.K37 ?_; refine tk_ HT_ HW_ hHeld 37 91 impl_GrowStages.K38 ?_; refine pu_ HT_ 38 92 impl_GrowStages.K39 ?_; refine pu_ HT_ 39 93 impl_GrowStages.K40 ?_; refine pu_ HT_ 40 94 impl_GrowStages.K41 ?_; refine pu_ HT_ 41 95 impl_GrowStages.K42 ?_; refine pu_ HT_ 43 97 impl_GrowStages.K55 ?_; refine pu_ HT_ 44 98 impl_GrowStages.K56 ?_; refine pu_ HT_ 45 99 impl_GrowStages.K57 ?_; refine pu_ HT_ 46 100 impl_GrowStages.K58 ?_; refine tk_ HT_ HW_ hHeld 42 96 impl_GrowStages.K47 ?_; refine tk_ HT_ HW_ hHeld 47 101 impl_GrowStages.K48 ?_; refine pu_ HT_ 48 102 impl_GrowStages.K49 ?_; refine tk_ HT_ HW_ hHeld 49 103 impl_GrowStages.K50 ?_; refine pu_ HT_ 50 104 impl_GrowStages.K51 ?_; refine pu_ HT_ 51 105 impl_GrowStages.K52 ?_; refine pu_ HT_ 52 106 impl_GrowStages.K53 ?_; refine pu_ HT_ 53 107 impl_GrowStages.K54 ?_
                        refine done_ (done_of HT_.out (by kernel_rfl)) ?_
                        try go_wp2
                        go_roundg k2
                        case measure => have := HJ7.out; have := HK2.out; omega
                        case rel => exact ⟨(wrap64 (x49_2 + 1)), sv_, H', ⟨by have := HJ7.out; have := HK2.out; omega⟩, ⟨by (with_reducible repeat (first | refine blk_drewN ?_ _ | refine blk_drew ?_ | refine blk_alloc ?_ _)); exact BK458.out⟩, ⟨bg_ HB.out GE458.out⟩⟩
                      ·rw [if_neg c37] at H
                       exact absurd H (by simp)
                    ·rw [if_neg c34] at H
                     exact absurd H (by simp)
                   ·rw [if_neg c33] at H
                    exact absurd H (by simp)
                  ·rw [if_neg c32] at H
                   exact absurd H (by simp)
                 ·rw [if_neg c30] at H
                  have c30b0 : decide (0 < x49_2) = false := decide_eq_false c30
                  clear c30
                  have H' := Aside0.mk H
                  clear H
                  have p463 : 0 ≤ (x49_2 : Int) := da_
                  have q463 : x49_2 < (l4.length : Int) := da_
                  obtain ⟨ad463, A463_0, c463_0, e463, hx463_0, hl463_0, hi463_0⟩ := at_L1 HR4.out x49_2 p463 q463; cases e463
                  replace hx463_0 := (wc_ HB.out hx463_0 :)
                  have HR463_0 := Aside0.mk hi463_0; have HC463_0 := Aside0.mk hl463_0; clear hi463_0 hl463_0; replace p463 := eq_true p463; replace q463 := eq_true q463
                  try go_wp2
                  have n0_ := Aside0.mk (blk_drew BK458.out)
                  have n1_ := Aside0.mk (below_drew1 HB.out)
                  clear BK458; clear HB; have BK458 := n0_; have HB := n1_; clear n0_ n1_
                  have p464 : 0 ≤ (0 : Int) := (by omega)
                  have q464 : 0 < ((rd_L1 l4 x49_2).length : Int) := da_
                  obtain ⟨ad464, e464, hx464_0⟩ := Kd.at_int HR463_0.out 0 p464 q464; have hw464_0 := hx464_0; (try rw [show ((0 : Int)).toNat = 0 from rfl] at hw464_0); (try rw [show 0 * 1 = 0 from rfl] at hw464_0); (try rw [Addr.add_zero'] at hw464_0); cases e464
                  have qi464 : (0 < (rd_L1 l4 x49_2).length) = True := eq_true (by omega)
                  (try rw [show ((0 : Int)).toNat = 0 from rfl] at hx464_0); (try rw [Addr.add_zero'] at hx464_0)
                  replace hx464_0 := (wc_ HB.out hx464_0 :)
                  replace p464 := eq_true p464; replace q464 := eq_true q464
                  have p465 : 0 ≤ (1 : Int) := (by omega)
                  have q465 : 1 < ((rd_L1 l4 x49_2).length : Int) := da_
                  obtain ⟨ad465, e465, hx465_0⟩ := Kd.at_int HR463_0.out 1 p465 q465; have hw465_0 := hx465_0; (try rw [show ((1 : Int)).toNat = 1 from rfl] at hw465_0); (try rw [show 1 * 1 = 1 from rfl] at hw465_0); (try simp only [Nat.reduceMul, Nat.reduceEqDiff, Go.Addr.add, ↓reduceIte] at hw465_0); obtain rfl : ad464 = ad465 := (by injection e465); (try simp only [show (1 : Int).toNat = 1 from rfl, Nat.reduceMul, Nat.reduceEqDiff, Go.Addr.add, ↓reduceIte] at hx465_0)
                  have qi465 : (1 < (rd_L1 l4 x49_2).length) = True := eq_true (by omega)
                  (try rw [show ((1 : Int)).toNat = 1 from rfl] at hx465_0)
                  replace hx465_0 := (wc_ HB.out hx465_0 :)
                  replace p465 := eq_true p465; replace q465 := eq_true q465
                  have p467 : 0 ≤ (0 : Int) := (by omega)
                  have q467 : 0 < ((rd_L1 l4 x49_2).length : Int) := da_
                  obtain ⟨ad467, e467, hx467_0⟩ := Kd.at_int HR463_0.out 0 p467 q467; have hw467_0 := hx467_0; (try rw [show ((0 : Int)).toNat = 0 from rfl] at hw467_0); (try rw [show 0 * 1 = 0 from rfl] at hw467_0); (try rw [Addr.add_zero'] at hw467_0); obtain rfl : ad464 = ad467 := (by injection e467)
                  have qi467 : (0 < (rd_L1 l4 x49_2).length) = True := eq_true (by omega)
                  (try rw [show ((0 : Int)).toNat = 0 from rfl] at hx467_0); (try rw [Addr.add_zero'] at hx467_0)
                  replace hx467_0 := (wc_ HB.out hx467_0 :)
                  replace p467 := eq_true p467; replace q467 := eq_true q467
                  have p468 : 0 ≤ (1 : Int) := (by omega)
                  have q468 : 1 < ((rd_L1 l4 x49_2).length : Int) := da_
                  obtain ⟨ad468, e468, hx468_0⟩ := Kd.at_int HR463_0.out 1 p468 q468; have hw468_0 := hx468_0; (try rw [show ((1 : Int)).toNat = 1 from rfl] at hw468_0); (try rw [show 1 * 1 = 1 from rfl] at hw468_0); (try simp only [Nat.reduceMul, Nat.reduceEqDiff, Go.Addr.add, ↓reduceIte] at hw468_0); obtain rfl : ad464 = ad468 := (by injection e468); (try simp only [show (1 : Int).toNat = 1 from rfl, Nat.reduceMul, Nat.reduceEqDiff, Go.Addr.add, ↓reduceIte] at hx468_0)
                  have qi468 : (1 < (rd_L1 l4 x49_2).length) = True := eq_true (by omega)
                  (try rw [show ((1 : Int)).toNat = 1 from rfl] at hx468_0)
                  replace hx468_0 := (wc_ HB.out hx468_0 :)
                  replace p468 := eq_true p468; replace q468 := eq_true q468
                  refine start_ (n := 54) (S := fun w' => w'.cell? ad464 = some (.int .i64 (rd (rd_L1 l4 x49_2) 0)) ∧ w'.cell? ⟨ad464.block, ad464.off + 1, none⟩ = some (.int .i64 (rd (rd_L1 l4 x49_2) 1)) ∧ w'.cell? ad464 = some (.int .i64 (rd (rd_L1 l4 x49_2) 0)) ∧ w'.cell? ⟨ad464.block, ad464.off + 1, none⟩ = some (.int .i64 (rd (rd_L1 l4 x49_2) 1))) (ds := []) impl_GrowStages.K0 (by kernel_rfl) rfl rfl ⟨(wc_ HB.out hw464_0 :), (wc_ HB.out hw465_0 :), (wc_ HB.out hw467_0 :), (wc_ HB.out hw468_0 :)⟩ (fun hHeld => ?_); refine with_tabW impl_GrowStages.tab10 impl_GrowStages.bits10 (fun HT_ HW_ => ?_)
                  generalize wr.drew = w41 at BK458 HB hx464_0 hx465_0 hx467_0 hx468_0 hHeld ⊢
                  refine pu_ HT_ 0 54 impl_GrowStages.K1 ?_; refine pu_ HT_ 1 55 impl_GrowStages.K2 ?_; refine pu_ HT_ 2 56 impl_GrowStages.K3 ?_; refine pu_ HT_ 3 57 impl_GrowStages.K4 ?_; refine pu_ HT_ 4 58 impl_GrowStages.K5 ?_; refine pu_ HT_ 5 59 impl_GrowStages.K6 ?_; refine pu_ HT_ 7 61 impl_GrowStages.K7 ?_; refine pu_ HT_ 8 62 impl_GrowStages.K8 ?_; refine tk_ HT_ HW_ hHeld 6 60 impl_GrowStages.K9 ?_; refine tk_ HT_ HW_ hHeld 9 63 impl_GrowStages.K10 ?_
                  refine one_ (i := 10) (N := some 64) impl_GrowStages.K11 rfl rfl (one_of HT_.out (by kernel_rfl)) (by decide) (fun K hK => ?_)
                  refine goes_ Try.func64 (by kernel_rfl) rfl #[.int .i64 (rd (rd_L1 l4 x49_2) 0), .int .i64 (rd (rd_L1 l4 x49_2) 1)] (by rfl) rfl rfl av_ ?_
                  with_reducible refine (impl_rangeOk.calls (rd (rd_L1 l4 x49_2) 0) (rd (rd_L1 l4 x49_2) 1) true _ A26.out).mono ?_
                  rintro e w' ⟨rfl, ⟨nd, rfl⟩⟩
                  refine ⟨_, rfl, ?_⟩
                  refine hK.out _ _ ⟨(wc_ HB.out hw464_0 :), (wc_ HB.out hw465_0 :), (wc_ HB.out hw467_0 :), (wc_ HB.out hw468_0 :)⟩ (fun hHeld => ?_)
                  clear hK K; refine norm_ (a' := ?_) ?_ ?_; rotate_left
                  ·show Act.put _ (some 64) _ = _
                   go_simp
                   rfl
                  refine pu_ HT_ 11 65 impl_GrowStages.K12 ?_; refine pu_ HT_ 12 66 impl_GrowStages.K13 ?_; refine pu_ HT_ 13 67 impl_GrowStages.K14 ?_; refine pu_ HT_ 14 68 impl_GrowStages.K15 ?_; refine pu_ HT_ 15 69 impl_GrowStages.K16 ?_; refine pu_ HT_ 16 70 impl_GrowStages.K17 ?_; refine pu_ HT_ 18 72 impl_GrowStages.K18 ?_; refine pu_ HT_ 19 73 impl_GrowStages.K19 ?_; refine tk_ HT_ HW_ hHeld 17 71 impl_GrowStages.K20 ?_; refine tk_ HT_ HW_ hHeld 20 74 impl_GrowStages.K21 ?_
                  refine one_ (i := 21) (N := some 75) impl_GrowStages.K22 rfl rfl (one_of HT_.out (by kernel_rfl)) (by decide) (fun K hK => ?_)
                  refine goes_ Try.func65 (by kernel_rfl) rfl #[.int .i64 a2, .int .i64 (rd (rd_L1 l4 x49_2) 0), .int .i64 (rd (rd_L1 l4 x49_2) 1)] (by rfl) rfl rfl av_ ?_
                  with_reducible refine (impl_within.calls a2 (rd (rd_L1 l4 x49_2) 0) (rd (rd_L1 l4 x49_2) 1) true _ A28.out).mono ?_
                  rintro e w' ⟨rfl, ⟨nd, rfl⟩⟩
                  refine ⟨_, rfl, ?_⟩
                  refine hK.out _ _ ⟨(wc_ HB.out hw464_0 :), (wc_ HB.out hw465_0 :), (wc_ HB.out hw467_0 :), (wc_ HB.out hw468_0 :)⟩ (fun hHeld => ?_)
                  clear hK K; refine norm_ (a' := ?_) ?_ ?_; rotate_left
                  ·show Act.put _ (some 75) _ = _
                   go_simp
                   rfl
                  refine pu_ HT_ 22 76 impl_GrowStages.K23 ?_; refine pu_ HT_ 23 77 impl_GrowStages.K24 ?_; refine pu_ HT_ 24 78 impl_GrowStages.K25 ?_; refine pu_ HT_ 25 79 impl_GrowStages.K26 ?_; refine pu_ HT_ 26 80 impl_GrowStages.K27 ?_; refine pu_ HT_ 27 81 impl_GrowStages.K28 ?_; refine un_ HT_ 28 82 impl_GrowStages.K29 ?_; refine un_ HT_ 29 83 impl_GrowStages.K30 ?_; refine un_ HT_ 30 84 impl_GrowStages.K59 ?_; refine un_ HT_ 31 85 impl_GrowStages.K60 ?_; refine un_ HT_ 32 86 impl_GrowStages.K61 ?_; refine un_ HT_ 33 87 impl_GrowStages.K62 ?_; refine un_ HT_ 34 88 impl_GrowStages.K35 ?_; refine un_ HT_ 35 89 impl_GrowStages.K36 ?_; refine un_ HT_ 36 90 impl_GrowStages.K37 ?_; refine un_ HT_ 37 91 impl_GrowStages.K38 ?_; refine un_ HT_ 38 92 impl_GrowStages.K39 ?_; refine un_ HT_ 39 93 impl_GrowStages.K40 ?_; refine un_ HT_ 40 94 impl_GrowStages.K41 ?_; refine un_ HT_ 41 95 impl_GrowStages.K42 ?_; refine un_ HT_ 42 96 impl_GrowStages.K43 ?_; refine un_ HT_ 43 97 impl_GrowStages.K44 ?_; refine un_ HT_ 44 98 impl_GrowStages.K45 ?_; refine un_ HT_ 45 99 impl_GrowStages.K46 ?_; refine un_ HT_ 46 100 impl_GrowStages.K47 ?_; refine un_ HT_ 47 101 impl_GrowStages.K48 ?_; refine un_ HT_ 48 102 impl_GrowStages.K49 ?_; refine un_ HT_ 49 103 impl_GrowStages.K50 ?_; refine un_ HT_ 50 104 impl_GrowStages.K51 ?_; refine un_ HT_ 51 105 impl_GrowStages.K52 ?_; refine pu_ HT_ 52 106 impl_GrowStages.K53 ?_; refine pu_ HT_ 53 107 impl_GrowStages.K54 ?_
                  refine done_ (done_of HT_.out (by kernel_rfl)) ?_
                  try go_wp2
                  go_roundg k2
                  case measure => have := HJ7.out; have := HK2.out; omega
                  case rel => exact ⟨(wrap64 (x49_2 + 1)), sv_, H', ⟨by have := HJ7.out; have := HK2.out; omega⟩, ⟨by (with_reducible repeat (first | refine blk_drewN ?_ _ | refine blk_drew ?_ | refine blk_alloc ?_ _)); exact BK458.out⟩, ⟨bg_ HB.out GE458.out⟩⟩
                ·replace c29 := Bool.eq_false_iff.mpr c29
                 subst c29
                 have H1 : (some (([] : List Int), 7)) = some (r1, r2) := by rw [if_neg (show ¬ (false = true) by decide)] at H; exact H
                 clear H; have H := H1; clear H1
                 simp only [Option.some.injEq, Prod.mk.injEq] at H
                 obtain ⟨rfl, rfl⟩ := H
                 have p463 : 0 ≤ (x49_2 : Int) := da_
                 have q463 : x49_2 < (l4.length : Int) := da_
                 obtain ⟨ad463, A463_0, c463_0, e463, hx463_0, hl463_0, hi463_0⟩ := at_L1 HR4.out x49_2 p463 q463; cases e463
                 replace hx463_0 := (wc_ HB.out hx463_0 :)
                 have HR463_0 := Aside0.mk hi463_0; have HC463_0 := Aside0.mk hl463_0; clear hi463_0 hl463_0; replace p463 := eq_true p463; replace q463 := eq_true q463
                 try go_wp2
                 have n0_ := Aside0.mk (blk_drew BK458.out)
                 have n1_ := Aside0.mk (below_drew1 HB.out)
                 clear BK458; clear HB; have BK458 := n0_; have HB := n1_; clear n0_ n1_
                 have p464 : 0 ≤ (0 : Int) := (by omega)
                 have q464 : 0 < ((rd_L1 l4 x49_2).length : Int) := da_
                 obtain ⟨ad464, e464, hx464_0⟩ := Kd.at_int HR463_0.out 0 p464 q464; have hw464_0 := hx464_0; (try rw [show ((0 : Int)).toNat = 0 from rfl] at hw464_0); (try rw [show 0 * 1 = 0 from rfl] at hw464_0); (try rw [Addr.add_zero'] at hw464_0); cases e464
                 have qi464 : (0 < (rd_L1 l4 x49_2).length) = True := eq_true (by omega)
                 (try rw [show ((0 : Int)).toNat = 0 from rfl] at hx464_0); (try rw [Addr.add_zero'] at hx464_0)
                 replace hx464_0 := (wc_ HB.out hx464_0 :)
                 replace p464 := eq_true p464; replace q464 := eq_true q464
                 have p465 : 0 ≤ (1 : Int) := (by omega)
                 have q465 : 1 < ((rd_L1 l4 x49_2).length : Int) := da_
                 obtain ⟨ad465, e465, hx465_0⟩ := Kd.at_int HR463_0.out 1 p465 q465; have hw465_0 := hx465_0; (try rw [show ((1 : Int)).toNat = 1 from rfl] at hw465_0); (try rw [show 1 * 1 = 1 from rfl] at hw465_0); (try simp only [Nat.reduceMul, Nat.reduceEqDiff, Go.Addr.add, ↓reduceIte] at hw465_0); obtain rfl : ad464 = ad465 := (by injection e465); (try simp only [show (1 : Int).toNat = 1 from rfl, Nat.reduceMul, Nat.reduceEqDiff, Go.Addr.add, ↓reduceIte] at hx465_0)
                 have qi465 : (1 < (rd_L1 l4 x49_2).length) = True := eq_true (by omega)
                 (try rw [show ((1 : Int)).toNat = 1 from rfl] at hx465_0)
                 replace hx465_0 := (wc_ HB.out hx465_0 :)
                 replace p465 := eq_true p465; replace q465 := eq_true q465
                 have p467 : 0 ≤ (0 : Int) := (by omega)
                 have q467 : 0 < ((rd_L1 l4 x49_2).length : Int) := da_
                 obtain ⟨ad467, e467, hx467_0⟩ := Kd.at_int HR463_0.out 0 p467 q467; have hw467_0 := hx467_0; (try rw [show ((0 : Int)).toNat = 0 from rfl] at hw467_0); (try rw [show 0 * 1 = 0 from rfl] at hw467_0); (try rw [Addr.add_zero'] at hw467_0); obtain rfl : ad464 = ad467 := (by injection e467)
                 have qi467 : (0 < (rd_L1 l4 x49_2).length) = True := eq_true (by omega)
                 (try rw [show ((0 : Int)).toNat = 0 from rfl] at hx467_0); (try rw [Addr.add_zero'] at hx467_0)
                 replace hx467_0 := (wc_ HB.out hx467_0 :)
                 replace p467 := eq_true p467; replace q467 := eq_true q467
                 have p468 : 0 ≤ (1 : Int) := (by omega)
                 have q468 : 1 < ((rd_L1 l4 x49_2).length : Int) := da_
                 obtain ⟨ad468, e468, hx468_0⟩ := Kd.at_int HR463_0.out 1 p468 q468; have hw468_0 := hx468_0; (try rw [show ((1 : Int)).toNat = 1 from rfl] at hw468_0); (try rw [show 1 * 1 = 1 from rfl] at hw468_0); (try simp only [Nat.reduceMul, Nat.reduceEqDiff, Go.Addr.add, ↓reduceIte] at hw468_0); obtain rfl : ad464 = ad468 := (by injection e468); (try simp only [show (1 : Int).toNat = 1 from rfl, Nat.reduceMul, Nat.reduceEqDiff, Go.Addr.add, ↓reduceIte] at hx468_0)
                 have qi468 : (1 < (rd_L1 l4 x49_2).length) = True := eq_true (by omega)
                 (try rw [show ((1 : Int)).toNat = 1 from rfl] at hx468_0)
                 replace hx468_0 := (wc_ HB.out hx468_0 :)
                 replace p468 := eq_true p468; replace q468 := eq_true q468
                 refine start_ (n := 54) (S := fun w' => w'.cell? ad464 = some (.int .i64 (rd (rd_L1 l4 x49_2) 0)) ∧ w'.cell? ⟨ad464.block, ad464.off + 1, none⟩ = some (.int .i64 (rd (rd_L1 l4 x49_2) 1)) ∧ w'.cell? ad464 = some (.int .i64 (rd (rd_L1 l4 x49_2) 0)) ∧ w'.cell? ⟨ad464.block, ad464.off + 1, none⟩ = some (.int .i64 (rd (rd_L1 l4 x49_2) 1))) (ds := []) impl_GrowStages.K0 (by kernel_rfl) rfl rfl ⟨(wc_ HB.out hw464_0 :), (wc_ HB.out hw465_0 :), (wc_ HB.out hw467_0 :), (wc_ HB.out hw468_0 :)⟩ (fun hHeld => ?_); refine with_tabW impl_GrowStages.tab10 impl_GrowStages.bits10 (fun HT_ HW_ => ?_)
                 generalize wr.drew = w42 at BK458 HB hx464_0 hx465_0 hx467_0 hx468_0 hHeld ⊢
                 refine pu_ HT_ 0 54 impl_GrowStages.K1 ?_; refine pu_ HT_ 1 55 impl_GrowStages.K2 ?_; refine pu_ HT_ 2 56 impl_GrowStages.K3 ?_; refine pu_ HT_ 3 57 impl_GrowStages.K4 ?_; refine pu_ HT_ 4 58 impl_GrowStages.K5 ?_; refine pu_ HT_ 5 59 impl_GrowStages.K6 ?_; refine pu_ HT_ 7 61 impl_GrowStages.K7 ?_; refine pu_ HT_ 8 62 impl_GrowStages.K8 ?_; refine tk_ HT_ HW_ hHeld 6 60 impl_GrowStages.K9 ?_; refine tk_ HT_ HW_ hHeld 9 63 impl_GrowStages.K10 ?_
                 refine one_ (i := 10) (N := some 64) impl_GrowStages.K11 rfl rfl (one_of HT_.out (by kernel_rfl)) (by decide) (fun K hK => ?_)
                 refine goes_ Try.func64 (by kernel_rfl) rfl #[.int .i64 (rd (rd_L1 l4 x49_2) 0), .int .i64 (rd (rd_L1 l4 x49_2) 1)] (by rfl) rfl rfl av_ ?_
                 with_reducible refine (impl_rangeOk.calls (rd (rd_L1 l4 x49_2) 0) (rd (rd_L1 l4 x49_2) 1) true _ A26.out).mono ?_
                 rintro e w' ⟨rfl, ⟨nd, rfl⟩⟩
                 refine ⟨_, rfl, ?_⟩
                 refine hK.out _ _ ⟨(wc_ HB.out hw464_0 :), (wc_ HB.out hw465_0 :), (wc_ HB.out hw467_0 :), (wc_ HB.out hw468_0 :)⟩ (fun hHeld => ?_)
                 clear hK K; refine norm_ (a' := ?_) ?_ ?_; rotate_left
                 ·show Act.put _ (some 64) _ = _
                  go_simp
                  rfl
                 refine pu_ HT_ 11 65 impl_GrowStages.K12 ?_; refine pu_ HT_ 12 66 impl_GrowStages.K13 ?_; refine pu_ HT_ 13 67 impl_GrowStages.K14 ?_; refine pu_ HT_ 14 68 impl_GrowStages.K15 ?_; refine pu_ HT_ 15 69 impl_GrowStages.K16 ?_; refine pu_ HT_ 16 70 impl_GrowStages.K17 ?_; refine pu_ HT_ 18 72 impl_GrowStages.K18 ?_; refine pu_ HT_ 19 73 impl_GrowStages.K19 ?_; refine tk_ HT_ HW_ hHeld 17 71 impl_GrowStages.K20 ?_; refine tk_ HT_ HW_ hHeld 20 74 impl_GrowStages.K21 ?_
                 refine one_ (i := 21) (N := some 75) impl_GrowStages.K22 rfl rfl (one_of HT_.out (by kernel_rfl)) (by decide) (fun K hK => ?_)
                 refine goes_ Try.func65 (by kernel_rfl) rfl #[.int .i64 a2, .int .i64 (rd (rd_L1 l4 x49_2) 0), .int .i64 (rd (rd_L1 l4 x49_2) 1)] (by rfl) rfl rfl av_ ?_
                 with_reducible refine (impl_within.calls a2 (rd (rd_L1 l4 x49_2) 0) (rd (rd_L1 l4 x49_2) 1) false _ A28.out).mono ?_
                 rintro e w' ⟨rfl, ⟨nd, rfl⟩⟩
                 refine ⟨_, rfl, ?_⟩
                 refine hK.out _ _ ⟨(wc_ HB.out hw464_0 :), (wc_ HB.out hw465_0 :), (wc_ HB.out hw467_0 :), (wc_ HB.out hw468_0 :)⟩ (fun hHeld => ?_)
                 clear hK K; refine norm_ (a' := ?_) ?_ ?_; rotate_left
                 ·show Act.put _ (some 75) _ = _
                  go_simp
                  rfl
                 refine pu_ HT_ 22 76 impl_GrowStages.K23 ?_; refine pu_ HT_ 23 77 impl_GrowStages.K24 ?_; refine pu_ HT_ 24 78 impl_GrowStages.K25 ?_; refine un_ HT_ 25 79 impl_GrowStages.K26 ?_; refine un_ HT_ 26 80 impl_GrowStages.K27 ?_; refine un_ HT_ 27 81 impl_GrowStages.K28 ?_; refine un_ HT_ 28 82 impl_GrowStages.K29 ?_; refine un_ HT_ 29 83 impl_GrowStages.K30 ?_; refine un_ HT_ 30 84 impl_GrowStages.K59 ?_; refine un_ HT_ 31 85 impl_GrowStages.K60 ?_; refine un_ HT_ 32 86 impl_GrowStages.K61 ?_; refine un_ HT_ 33 87 impl_GrowStages.K62 ?_; refine un_ HT_ 34 88 impl_GrowStages.K35 ?_; refine un_ HT_ 35 89 impl_GrowStages.K36 ?_; refine un_ HT_ 36 90 impl_GrowStages.K37 ?_; refine un_ HT_ 37 91 impl_GrowStages.K38 ?_; refine un_ HT_ 38 92 impl_GrowStages.K39 ?_; refine un_ HT_ 39 93 impl_GrowStages.K40 ?_; refine un_ HT_ 40 94 impl_GrowStages.K41 ?_; refine un_ HT_ 41 95 impl_GrowStages.K42 ?_; refine un_ HT_ 42 96 impl_GrowStages.K43 ?_; refine un_ HT_ 43 97 impl_GrowStages.K44 ?_; refine un_ HT_ 44 98 impl_GrowStages.K45 ?_; refine un_ HT_ 45 99 impl_GrowStages.K46 ?_; refine un_ HT_ 46 100 impl_GrowStages.K47 ?_; refine un_ HT_ 47 101 impl_GrowStages.K48 ?_; refine un_ HT_ 48 102 impl_GrowStages.K49 ?_; refine un_ HT_ 49 103 impl_GrowStages.K50 ?_; refine un_ HT_ 50 104 impl_GrowStages.K51 ?_; refine un_ HT_ 51 105 impl_GrowStages.K52 ?_; refine un_ HT_ 52 106 impl_GrowStages.K53 ?_; refine pu_ HT_ 53 107 impl_GrowStages.K54 ?_
                 refine done_ (done_of HT_.out (by kernel_rfl)) ?_
                 try go_wp2
                 go_ret2
                 exact ⟨_, by first | rfl | (simp [errW_none, errW_some] <;> rfl) | (simp [*, errW_none, errW_some] <;> rfl), by first | exact Kd.R_nil _ _ _ _ _ | exact Kd.N_nil _ _ _ _ _ | exact Kd.V_nil _ _ _ _ _ | exact Kd.Q_nil _ _ _ _ _ | exact Kd.S_nil _ _ _ _ _, bg_ HB.out GE458.out⟩
               ·replace c27 := Bool.eq_false_iff.mpr c27
                subst c27
                have H1 : (some (([] : List Int), 7)) = some (r1, r2) := by rw [if_neg (show ¬ (false = true) by decide)] at H; exact H
                clear H; have H := H1; clear H1
                simp only [Option.some.injEq, Prod.mk.injEq] at H
                obtain ⟨rfl, rfl⟩ := H
                have p463 : 0 ≤ (x49_2 : Int) := da_
                have q463 : x49_2 < (l4.length : Int) := da_
                obtain ⟨ad463, A463_0, c463_0, e463, hx463_0, hl463_0, hi463_0⟩ := at_L1 HR4.out x49_2 p463 q463; cases e463
                replace hx463_0 := (wc_ HB.out hx463_0 :)
                have HR463_0 := Aside0.mk hi463_0; have HC463_0 := Aside0.mk hl463_0; clear hi463_0 hl463_0; replace p463 := eq_true p463; replace q463 := eq_true q463
                try go_wp2
                have n0_ := Aside0.mk (blk_drew BK458.out)
                have n1_ := Aside0.mk (below_drew1 HB.out)
                clear BK458; clear HB; have BK458 := n0_; have HB := n1_; clear n0_ n1_
                have p464 : 0 ≤ (0 : Int) := (by omega)
                have q464 : 0 < ((rd_L1 l4 x49_2).length : Int) := da_
                obtain ⟨ad464, e464, hx464_0⟩ := Kd.at_int HR463_0.out 0 p464 q464; have hw464_0 := hx464_0; (try rw [show ((0 : Int)).toNat = 0 from rfl] at hw464_0); (try rw [show 0 * 1 = 0 from rfl] at hw464_0); (try rw [Addr.add_zero'] at hw464_0); cases e464
                have qi464 : (0 < (rd_L1 l4 x49_2).length) = True := eq_true (by omega)
                (try rw [show ((0 : Int)).toNat = 0 from rfl] at hx464_0); (try rw [Addr.add_zero'] at hx464_0)
                replace hx464_0 := (wc_ HB.out hx464_0 :)
                replace p464 := eq_true p464; replace q464 := eq_true q464
                have p465 : 0 ≤ (1 : Int) := (by omega)
                have q465 : 1 < ((rd_L1 l4 x49_2).length : Int) := da_
                obtain ⟨ad465, e465, hx465_0⟩ := Kd.at_int HR463_0.out 1 p465 q465; have hw465_0 := hx465_0; (try rw [show ((1 : Int)).toNat = 1 from rfl] at hw465_0); (try rw [show 1 * 1 = 1 from rfl] at hw465_0); (try simp only [Nat.reduceMul, Nat.reduceEqDiff, Go.Addr.add, ↓reduceIte] at hw465_0); obtain rfl : ad464 = ad465 := (by injection e465); (try simp only [show (1 : Int).toNat = 1 from rfl, Nat.reduceMul, Nat.reduceEqDiff, Go.Addr.add, ↓reduceIte] at hx465_0)
                have qi465 : (1 < (rd_L1 l4 x49_2).length) = True := eq_true (by omega)
                (try rw [show ((1 : Int)).toNat = 1 from rfl] at hx465_0)
                replace hx465_0 := (wc_ HB.out hx465_0 :)
                replace p465 := eq_true p465; replace q465 := eq_true q465
                refine start_ (n := 54) (S := fun w' => w'.cell? ad464 = some (.int .i64 (rd (rd_L1 l4 x49_2) 0)) ∧ w'.cell? ⟨ad464.block, ad464.off + 1, none⟩ = some (.int .i64 (rd (rd_L1 l4 x49_2) 1))) (ds := []) impl_GrowStages.K0 (by kernel_rfl) rfl rfl ⟨(wc_ HB.out hw464_0 :), (wc_ HB.out hw465_0 :)⟩ (fun hHeld => ?_); refine with_tabW impl_GrowStages.tab10 impl_GrowStages.bits10 (fun HT_ HW_ => ?_)
                generalize wr.drew = w43 at BK458 HB hx464_0 hx465_0 hHeld ⊢
                refine pu_ HT_ 0 54 impl_GrowStages.K1 ?_; refine pu_ HT_ 1 55 impl_GrowStages.K2 ?_; refine pu_ HT_ 2 56 impl_GrowStages.K3 ?_; refine pu_ HT_ 3 57 impl_GrowStages.K4 ?_; refine pu_ HT_ 4 58 impl_GrowStages.K5 ?_; refine pu_ HT_ 5 59 impl_GrowStages.K6 ?_; refine pu_ HT_ 7 61 impl_GrowStages.K7 ?_; refine pu_ HT_ 8 62 impl_GrowStages.K8 ?_; refine tk_ HT_ HW_ hHeld 6 60 impl_GrowStages.K9 ?_; refine tk_ HT_ HW_ hHeld 9 63 impl_GrowStages.K10 ?_
                refine one_ (i := 10) (N := some 64) impl_GrowStages.K11 rfl rfl (one_of HT_.out (by kernel_rfl)) (by decide) (fun K hK => ?_)
                refine goes_ Try.func64 (by kernel_rfl) rfl #[.int .i64 (rd (rd_L1 l4 x49_2) 0), .int .i64 (rd (rd_L1 l4 x49_2) 1)] (by rfl) rfl rfl av_ ?_
                with_reducible refine (impl_rangeOk.calls (rd (rd_L1 l4 x49_2) 0) (rd (rd_L1 l4 x49_2) 1) false _ A26.out).mono ?_
                rintro e w' ⟨rfl, ⟨nd, rfl⟩⟩
                refine ⟨_, rfl, ?_⟩
                refine hK.out _ _ ⟨(wc_ HB.out hw464_0 :), (wc_ HB.out hw465_0 :)⟩ (fun hHeld => ?_)
                clear hK K; refine norm_ (a' := ?_) ?_ ?_; rotate_left
                ·show Act.put _ (some 64) _ = _
                 go_simp
                 rfl
                refine pu_ HT_ 11 65 impl_GrowStages.K12 ?_; refine pu_ HT_ 12 66 impl_GrowStages.K13 ?_; refine pu_ HT_ 13 67 impl_GrowStages.K14 ?_; refine un_ HT_ 14 68 impl_GrowStages.K15 ?_; refine un_ HT_ 15 69 impl_GrowStages.K16 ?_; refine un_ HT_ 16 70 impl_GrowStages.K17 ?_; refine un_ HT_ 17 71 impl_GrowStages.K63 ?_; refine un_ HT_ 18 72 impl_GrowStages.K64 ?_; refine un_ HT_ 19 73 impl_GrowStages.K20 ?_; refine un_ HT_ 20 74 impl_GrowStages.K21 ?_; refine un_ HT_ 21 75 impl_GrowStages.K22 ?_; refine un_ HT_ 22 76 impl_GrowStages.K23 ?_; refine pu_ HT_ 23 77 impl_GrowStages.K24 ?_; refine pu_ HT_ 24 78 impl_GrowStages.K25 ?_; refine un_ HT_ 25 79 impl_GrowStages.K26 ?_; refine un_ HT_ 26 80 impl_GrowStages.K27 ?_; refine un_ HT_ 27 81 impl_GrowStages.K28 ?_; refine un_ HT_ 28 82 impl_GrowStages.K29 ?_; refine un_ HT_ 29 83 impl_GrowStages.K30 ?_; refine un_ HT_ 30 84 impl_GrowStages.K59 ?_; refine un_ HT_ 31 85 impl_GrowStages.K60 ?_; refine un_ HT_ 32 86 impl_GrowStages.K61 ?_; refine un_ HT_ 33 87 impl_GrowStages.K62 ?_; refine un_ HT_ 34 88 impl_GrowStages.K35 ?_; refine un_ HT_ 35 89 impl_GrowStages.K36 ?_; refine un_ HT_ 36 90 impl_GrowStages.K37 ?_; refine un_ HT_ 37 91 impl_GrowStages.K38 ?_; refine un_ HT_ 38 92 impl_GrowStages.K39 ?_; refine un_ HT_ 39 93 impl_GrowStages.K40 ?_; refine un_ HT_ 40 94 impl_GrowStages.K41 ?_; refine un_ HT_ 41 95 impl_GrowStages.K42 ?_; refine un_ HT_ 42 96 impl_GrowStages.K43 ?_; refine un_ HT_ 43 97 impl_GrowStages.K44 ?_; refine un_ HT_ 44 98 impl_GrowStages.K45 ?_; refine un_ HT_ 45 99 impl_GrowStages.K46 ?_; refine un_ HT_ 46 100 impl_GrowStages.K47 ?_; refine un_ HT_ 47 101 impl_GrowStages.K48 ?_; refine un_ HT_ 48 102 impl_GrowStages.K49 ?_; refine un_ HT_ 49 103 impl_GrowStages.K50 ?_; refine un_ HT_ 50 104 impl_GrowStages.K51 ?_; refine un_ HT_ 51 105 impl_GrowStages.K52 ?_; refine un_ HT_ 52 106 impl_GrowStages.K53 ?_; refine pu_ HT_ 53 107 impl_GrowStages.K54 ?_
                refine done_ (done_of HT_.out (by kernel_rfl)) ?_
                try go_wp2
                go_ret2
                exact ⟨_, by first | rfl | (simp [errW_none, errW_some] <;> rfl) | (simp [*, errW_none, errW_some] <;> rfl), by first | exact Kd.R_nil _ _ _ _ _ | exact Kd.N_nil _ _ _ _ _ | exact Kd.V_nil _ _ _ _ _ | exact Kd.Q_nil _ _ _ _ _ | exact Kd.S_nil _ _ _ _ _, bg_ HB.out GE458.out⟩
              ·rw [if_neg c25] at H
               exact absurd H (by simp)
             ·rw [if_neg c24] at H
              exact absurd H (by simp)
            ·rw [if_neg c23] at H
             have c23b0 : (((rd_L1 l4 x49_2).length : Int) == 2) = false := beq_eq_false_iff_ne.mpr c23
             have c23b1 : (((rd_L1 l4 x49_2).length : Int) != 2) = true := bne_iff_ne.mpr c23
             simp only [Option.some.injEq, Prod.mk.injEq] at H
             obtain ⟨rfl, rfl⟩ := H
             have p463 : 0 ≤ (x49_2 : Int) := da_
             have q463 : x49_2 < (l4.length : Int) := da_
             obtain ⟨ad463, A463_0, c463_0, e463, hx463_0, hl463_0, hi463_0⟩ := at_L1 HR4.out x49_2 p463 q463; cases e463
             replace hx463_0 := (wc_ HB.out hx463_0 :)
             have HR463_0 := Aside0.mk hi463_0; have HC463_0 := Aside0.mk hl463_0; clear hi463_0 hl463_0; replace p463 := eq_true p463; replace q463 := eq_true q463
             try go_wp2
             have n0_ := Aside0.mk (blk_drew BK458.out)
             have n1_ := Aside0.mk (below_drew1 HB.out)
             clear BK458; clear HB; have BK458 := n0_; have HB := n1_; clear n0_ n1_
             refine start_ (n := 54) (S := fun w' => True) (ds := []) impl_GrowStages.K0 (by kernel_rfl) rfl rfl trivial (fun hHeld => ?_); refine with_tabW impl_GrowStages.tab10 impl_GrowStages.bits10 (fun HT_ HW_ => ?_)
             generalize wr.drew = w44 at BK458 HB hHeld ⊢
             refine pu_ HT_ 0 54 impl_GrowStages.K1 ?_; refine pu_ HT_ 1 55 impl_GrowStages.K2 ?_; refine pu_ HT_ 2 56 impl_GrowStages.K3 ?_; refine pu_ HT_ 3 57 impl_GrowStages.K4 ?_; refine un_ HT_ 4 58 impl_GrowStages.K5 ?_; refine un_ HT_ 5 59 impl_GrowStages.K6 ?_; refine un_ HT_ 6 60 impl_GrowStages.K65 ?_; refine un_ HT_ 7 61 impl_GrowStages.K66 ?_; refine un_ HT_ 8 62 impl_GrowStages.K9 ?_; refine un_ HT_ 9 63 impl_GrowStages.K10 ?_; refine un_ HT_ 10 64 impl_GrowStages.K11 ?_; refine un_ HT_ 11 65 impl_GrowStages.K12 ?_; refine pu_ HT_ 12 66 impl_GrowStages.K13 ?_; refine pu_ HT_ 13 67 impl_GrowStages.K14 ?_; refine un_ HT_ 14 68 impl_GrowStages.K15 ?_; refine un_ HT_ 15 69 impl_GrowStages.K16 ?_; refine un_ HT_ 16 70 impl_GrowStages.K17 ?_; refine un_ HT_ 17 71 impl_GrowStages.K63 ?_; refine un_ HT_ 18 72 impl_GrowStages.K64 ?_; refine un_ HT_ 19 73 impl_GrowStages.K20 ?_; refine un_ HT_ 20 74 impl_GrowStages.K21 ?_; refine un_ HT_ 21 75 impl_GrowStages.K22 ?_; refine un_ HT_ 22 76 impl_GrowStages.K23 ?_; refine pu_ HT_ 23 77 impl_GrowStages.K24 ?_; refine pu_ HT_ 24 78 impl_GrowStages.K25 ?_; refine un_ HT_ 25 79 impl_GrowStages.K26 ?_; refine un_ HT_ 26 80 impl_GrowStages.K27 ?_; refine un_ HT_ 27 81 impl_GrowStages.K28 ?_; refine un_ HT_ 28 82 impl_GrowStages.K29 ?_; refine un_ HT_ 29 83 impl_GrowStages.K30 ?_; refine un_ HT_ 30 84 impl_GrowStages.K59 ?_; refine un_ HT_ 31 85 impl_GrowStages.K60 ?_; refine un_ HT_ 32 86 impl_GrowStages.K61 ?_; refine un_ HT_ 33 87 impl_GrowStages.K62 ?_; refine un_ HT_ 34 88 impl_GrowStages.K35 ?_; refine un_ HT_ 35 89 impl_GrowStages.K36 ?_; refine un_ HT_ 36 90 impl_GrowStages.K37 ?_; refine un_ HT_ 37 91 impl_GrowStages.K38 ?_; refine un_ HT_ 38 92 impl_GrowStages.K39 ?_; refine un_ HT_ 39 93 impl_GrowStages.K40 ?_; refine un_ HT_ 40 94 impl_GrowStages.K41 ?_; refine un_ HT_ 41 95 impl_GrowStages.K42 ?_; refine un_ HT_ 42 96 impl_GrowStages.K43 ?_; refine un_ HT_ 43 97 impl_GrowStages.K44 ?_; refine un_ HT_ 44 98 impl_GrowStages.K45 ?_; refine un_ HT_ 45 99 impl_GrowStages.K46 ?_; refine un_ HT_ 46 100 impl_GrowStages.K47 ?_; refine un_ HT_ 47 101 impl_GrowStages.K48 ?_; refine un_ HT_ 48 102 impl_GrowStages.K49 ?_; refine un_ HT_ 49 103 impl_GrowStages.K50 ?_; refine un_ HT_ 50 104 impl_GrowStages.K51 ?_; refine un_ HT_ 51 105 impl_GrowStages.K52 ?_; refine un_ HT_ 52 106 impl_GrowStages.K53 ?_; refine pu_ HT_ 53 107 impl_GrowStages.K54 ?_
             refine done_ (done_of HT_.out (by kernel_rfl)) ?_
             try go_wp2
             go_ret2
             exact ⟨_, by first | rfl | (simp [errW_none, errW_some] <;> rfl) | (simp [*, errW_none, errW_some] <;> rfl), by first | exact Kd.R_nil _ _ _ _ _ | exact Kd.N_nil _ _ _ _ _ | exact Kd.V_nil _ _ _ _ _ | exact Kd.Q_nil _ _ _ _ _ | exact Kd.S_nil _ _ _ _ _, bg_ HB.out GE458.out⟩
           ·rw [if_neg c22] at H
            exact absurd H (by simp)
          ·rw [if_neg c21] at H
           exact absurd H (by simp)
         ·rw [if_neg c20] at H
          have c20b0 : decide (x49_2 < (l4.length : Int)) = false := decide_eq_false c20
          clear c20
          replace H := Option.bind_eq_some_iff.mp H
          obtain ⟨t476, A450, H⟩ := H
          replace H : ((impl_Raga_hasTone.f k2 a0_0 l0_1 l0_2 a0_3 a0_4 l0_5 t476).bind fun t477 => (if t477 = true then (impl_GrowStages.l1 k2 a3 (([a2] : List Int)) l4 (l4.length : Int) 0 a0_0 l0_1 l0_2 a0_3 a0_4 l0_5 a1) else (some (([] : List Int), 3)))) = some (r1, r2) := H
          have A45 := Aside0.mk A450; clear A450
          replace H := Option.bind_eq_some_iff.mp H
          obtain ⟨t477, A460, H⟩ := H
          replace H : (if t477 = true then (impl_GrowStages.l1 k2 a3 (([a2] : List Int)) l4 (l4.length : Int) 0 a0_0 l0_1 l0_2 a0_3 a0_4 l0_5 a1) else (some (([] : List Int), 3))) = some (r1, r2) := H
          have A46 := Aside0.mk A460; clear A460
          by_cases c47 : t477 = true
          ·subst c47
           have H1 : (impl_GrowStages.l1 k2 a3 (([a2] : List Int)) l4 (l4.length : Int) 0 a0_0 l0_1 l0_2 a0_3 a0_4 l0_5 a1) = some (r1, r2) := by rw [if_pos rfl] at H; exact H
           clear H; have H := H1; clear H1
           obtain ⟨y478, hy478⟩ : ∃ y_ : List Int, y_ = (([a2] : List Int)) := ⟨_, rfl⟩
           replace H : (impl_GrowStages.l1 k2 a3 y478 l4 (l4.length : Int) 0 a0_0 l0_1 l0_2 a0_3 a0_4 l0_5 a1) = some (r1, r2) := by first | (rw [hy478]; with_reducible exact H) | (have H2_ := (Option.bind_some _ _).symm.trans H; rw [hy478]; with_reducible exact H2_) | (have H2_ := (Option.bind_some _ _).symm.trans H; with_reducible exact H2_) | with_reducible exact H | (rw [hy478]; exact H) | exact H
           have Ny478 := Aside0.mk hy478; clear hy478
           have H' := Aside0.mk H
           clear H
           try go_wp2
           have n0_ := Aside0.mk (blk_drew BK458.out)
           have n1_ := Aside0.mk (below_drew1 HB.out)
           clear BK458; clear HB; have BK458 := n0_; have HB := n1_; clear n0_ n1_
           refine start_ (n := 5) (S := fun w' => w'.cell? ⟨gb458, 0, none⟩ = some (.string a0_0) ∧ w'.cell? ⟨gb458, 1, none⟩ = some (.slice A0_1 l0_1.length c0_1) ∧ w'.cell? ⟨gb458, 2, none⟩ = some (.slice A0_2 l0_2.length c0_2) ∧ w'.cell? ⟨gb458, 3, none⟩ = some (.int .i64 a0_3) ∧ w'.cell? ⟨gb458, 4, none⟩ = some (.int .i64 a0_4) ∧ w'.cell? ⟨gb458, 5, none⟩ = some (.slice A0_5 l0_5.length c0_5)) (ds := []) #[false, false, false, false, false] (by kernel_rfl) rfl rfl ⟨(blk_cell BK458.out 0).trans rfl, (blk_cell BK458.out 1).trans rfl, (blk_cell BK458.out 2).trans rfl, (blk_cell BK458.out 3).trans rfl, (blk_cell BK458.out 4).trans rfl, (blk_cell BK458.out 5).trans rfl⟩ (fun hHeld => ?_)
           generalize wr.drew = w48 at BK458 HB hHeld ⊢
           refine pure_ (i := 1) (N := some 110) (v := ?_) (a' := ?_) #[false, true, false, false, false] rfl rfl (by kernel_rfl) (fun _ _ _ h => h) (Or.inl ⟨by rfl, ?_⟩) ?_ ?_; rotate_left; (·intro w'; go_simp; with_reducible rfl); rotate_left; (·go_simp; rfl)
           refine take_ (i := 0) (N := some 109) (v := ?_) (a' := ?_) #[true, true, false, false, false] rfl rfl (by kernel_rfl) (fun _ _ _ h => h) (Or.inl ⟨by rfl, ?_⟩) hHeld ?_ ?_
           rotate_left
           ·rintro w' ⟨s0, s1, s2, s3, s4, s5⟩
            go_simp
            with_reducible rfl
           rotate_left
           ·go_simp
            rfl
           refine one_ (i := 2) (N := some 111) #[true, true, true, false, false] rfl rfl (by kernel_rfl) (by decide) (fun K hK => ?_)
           refine goes_ Try.func70 (by kernel_rfl) rfl #[.int .i64 a2] (by rfl) rfl rfl av_ ?_
           with_reducible refine (impl_ToneOf.calls a2 t476 _ A45.out).mono ?_
           rintro e w' ⟨rfl, ⟨nd, rfl⟩⟩
           refine ⟨_, rfl, ?_⟩
           refine hK.out _ _ ⟨(blk_cell BK458.out 0).trans rfl, (blk_cell BK458.out 1).trans rfl, (blk_cell BK458.out 2).trans rfl, (blk_cell BK458.out 3).trans rfl, (blk_cell BK458.out 4).trans rfl, (blk_cell BK458.out 5).trans rfl⟩ (fun hHeld => ?_)
           clear hK K; refine norm_ (a' := ?_) ?_ ?_; rotate_left
           ·show Act.put _ (some 111) _ = _
            go_simp
            rfl
           refine one_ (i := 3) (N := some 112) #[true, true, true, true, false] rfl rfl (by kernel_rfl) (by decide) (fun K hK => ?_)
           refine goes_ Try.func69 (by kernel_rfl) rfl #[.agg #[.string a0_0, .slice A0_1 l0_1.length c0_1, .slice A0_2 l0_2.length c0_2, .int .i64 a0_3, .int .i64 a0_4, .slice A0_5 l0_5.length c0_5], .int .i64 t476] (by rfl) rfl rfl av_ ?_
           with_reducible refine (impl_Raga_hasTone.calls k2 a0_0 _ _ l0_1 _ _ l0_2 a0_3 a0_4 _ _ l0_5 t476 true _ ?side1 ?side2 ?side3 ?side4 ?side5 ?side6 A46.out).mono ?_
           (case side1 => repeat (first | exact (Kd.C_below HR0_1.out (bg_ HB.out GE458.out)) | (with_reducible refine Kd.C_alloc ?_ _) | (with_reducible refine Kd.C_drewN ?_ _) | (with_reducible refine Kd.C_drew ?_)))
           (case side2 => exact HC0_1.out)
           (case side3 => repeat (first | exact (Kd.C_below HR0_2.out (bg_ HB.out GE458.out)) | (with_reducible refine Kd.C_alloc ?_ _) | (with_reducible refine Kd.C_drewN ?_ _) | (with_reducible refine Kd.C_drew ?_)))
           (case side4 => exact HC0_2.out)
           (case side5 => repeat (first | exact (Kd.C_below HR0_5.out (bg_ HB.out GE458.out)) | (with_reducible refine Kd.C_alloc ?_ _) | (with_reducible refine Kd.C_drewN ?_ _) | (with_reducible refine Kd.C_drew ?_)))
           (case side6 => exact HC0_5.out)
           rintro e w49 ⟨rfl, hb⟩
           refine ⟨_, rfl, ?_⟩
           have n0_ := Aside0.mk (blk_below (g := gb458) (o := .cells #[.string a0_0, .slice A0_1 l0_1.length c0_1, .slice A0_2 l0_2.length c0_2, .int .i64 a0_3, .int .i64 a0_4, .slice A0_5 l0_5.length c0_5] 29 (0, 0)) (by repeat first | exact BK458.out | refine blk_drewN ?_ _ | refine blk_drew ?_ | refine blk_alloc ?_ _) hb)
           have n1_ := Aside0.mk (below_step (bg_ HB.out GE458.out) hb)
           clear BK458; clear HB; have BK458 := n0_; have HB := n1_; clear n0_ n1_; (try clear hb); (try clear hb2); (try clear hk); (try clear hi)
           refine hK.out _ _ ⟨(blk_cell BK458.out 0).trans rfl, (blk_cell BK458.out 1).trans rfl, (blk_cell BK458.out 2).trans rfl, (blk_cell BK458.out 3).trans rfl, (blk_cell BK458.out 4).trans rfl, (blk_cell BK458.out 5).trans rfl⟩ (fun hHeld => ?_)
           clear hK K; refine norm_ (a' := ?_) ?_ ?_; rotate_left
           ·show Act.put _ (some 112) _ = _
            go_simp
            rfl
           refine pure_ (i := 4) (N := some 113) (v := ?_) (a' := ?_) #[true, true, true, true, true] rfl rfl (by kernel_rfl) (fun _ _ _ h => h) (Or.inl ⟨by rfl, ?_⟩) ?_ ?_; rotate_left; (·intro w'; go_simp; with_reducible rfl); rotate_left; (·go_simp; rfl)
           refine done_ (by kernel_rfl) ?_
           try go_wp2_with (first | ((with_reducible refine gate_dst (N := 116) rfl ?_); (try (refine gate_guard (by rfl) ?_; dsimp only)); refine Kd.R_lit (Kd.int .i64) _ 2 ?hg (N := 116) ?hd (xs := ([a2] : List Int)) (inner := [.int .i64 a2]) (ok := fun _ => True) (okp := fun _ => True) ?hr ?hp (fun _ hk => hk) trivial (Below.refl _ _) (Nat.le_refl _) (by simp) ?_; (case hd => rfl); (case hg => rfl); (case hr => first | (go_simp; done) | (go_simp; rfl)); (case hp => exact (Reps.one (show Kd.M (Kd.int .i64) _ _ _ a2 [.int .i64 a2] from rfl) (Reps.none _ _))); intro v479 w50 ho51 hb hg_ hnew_; clear hg_ hnew_; (first | rw [← Ny478.out] at ho51 | (simp only [Int.reduceToNat] at ho51; rw [← Ny478.out] at ho51)); have n0_ := Aside0.mk (Kd.R_lower ho51 (below_size (bg_ HB.out GE458.out))); have n1_ := Aside0.mk (blk_below (g := gb458) (o := .cells #[.string a0_0, .slice A0_1 l0_1.length c0_1, .slice A0_2 l0_2.length c0_2, .int .i64 a0_3, .int .i64 a0_4, .slice A0_5 l0_5.length c0_5] 29 (0, 0)) (by repeat first | exact BK458.out | refine blk_drewN ?_ _ | refine blk_drew ?_ | refine blk_alloc ?_ _) hb); have n2_ := Aside0.mk (below_step (bg_ HB.out GE458.out) hb); clear BK458; clear HB; have HO480 := n0_; have BK458 := n1_; have HB := n2_; clear n0_ n1_ n2_; clear hb ho51) | ((with_reducible refine gate_dst (N := 14) rfl ?_); (try (refine gate_guard (by rfl) ?_; dsimp only)); refine box_event ?hg (N := 14) ?hd (cs := #[.int .i64 0]) (t := 91) ?hr ?_; (case hd => rfl); (case hg => rfl); (case hr => first | (go_simp; done) | (go_simp; rfl)); intro gb481 hg w52 hbox hb; have n0_ := Aside0.mk (Kd.R_below (rr_ HO480.out) hb); have n1_ := Aside0.mk (blk_below (g := gb458) (o := .cells #[.string a0_0, .slice A0_1 l0_1.length c0_1, .slice A0_2 l0_2.length c0_2, .int .i64 a0_3, .int .i64 a0_4, .slice A0_5 l0_5.length c0_5] 29 (0, 0)) (by repeat first | exact BK458.out | refine blk_drewN ?_ _ | refine blk_drew ?_ | refine blk_alloc ?_ _) hb); have n2_ := Aside0.mk (below_step (bg_ HB.out GE458.out) hb); have n3_ := Aside0.mk ((by rw [hg]; exact (below_size (bg_ HB.out GE458.out)) : w.heap.size ≤ gb481)); have n4_ := Aside0.mk ((by rw [hg]; exact (below_size (bg_ HB.out GE458.out)) : w.heap.size ≤ gb481)); have n5_ := Aside0.mk ((by rw [hg]; exact Nat.ne_of_lt (blk_lt (g := gb458) (o := .cells #[.string a0_0, .slice A0_1 l0_1.length c0_1, .slice A0_2 l0_2.length c0_2, .int .i64 a0_3, .int .i64 a0_4, .slice A0_5 l0_5.length c0_5] 29 (0, 0)) (by repeat first | exact BK458.out | refine blk_drewN ?_ _ | refine blk_drew ?_ | refine blk_alloc ?_ _)) : gb458 ≠ gb481)); have n6_ := Aside0.mk ((by rw [hg]; exact Nat.ne_of_gt (blk_lt (g := gb458) (o := .cells #[.string a0_0, .slice A0_1 l0_1.length c0_1, .slice A0_2 l0_2.length c0_2, .int .i64 a0_3, .int .i64 a0_4, .slice A0_5 l0_5.length c0_5] 29 (0, 0)) (by repeat first | exact BK458.out | refine blk_drewN ?_ _ | refine blk_drew ?_ | refine blk_alloc ?_ _)) : gb481 ≠ gb458)); have n7_ := Aside0.mk ((show IsS91 w _ gb481 0 from ⟨hbox, (by rw [hg]; exact (below_size (bg_ HB.out GE458.out)) : w.heap.size ≤ gb481)⟩)); clear HO480; clear BK458; clear HB; have HO480 := n0_; have BK458 := n1_; have HB := n2_; have GW481 := n3_; have GE481 := n4_; have NB458_481 := n5_; have NB481_458 := n6_; have HI481 := n7_; clear n0_ n1_ n2_ n3_ n4_ n5_ n6_ n7_; clear hb hbox hg; obtain ⟨HGz53, hgz53⟩ := HI481.out; have hcz53_0 := cellS91_0 HGz53; have hfz53_0 := blk_frozen HGz53 0; clear HGz53 hgz53))
           go_loopg [15, 119] k2 (fun kq v15 v119 w' => ∃ (x15_3 : List Int) (x119_3 : Int) (x482000_3 : Int), v119 = .int .i64 x119_3 ∧ Aside0 (impl_GrowStages.l1 kq a3 x15_3 l4 (l4.length : Int) x119_3 a0_0 l0_1 l0_2 a0_3 a0_4 l0_5 x482000_3 = some (r1, r2)) ∧ Aside0 (kq ≤ k2) ∧ Aside0 (Kd.R (Kd.int .i64) 2 w' w.heap.size (fun _ => True) v15 x15_3) ∧ Aside0 (w'.heap[gb458]? = some (.cells #[.string a0_0, (.slice A0_1 l0_1.length c0_1), (.slice A0_2 l0_2.length c0_2), .int .i64 a0_3, .int .i64 a0_4, (.slice A0_5 l0_5.length c0_5)] 29 (0, 0))) ∧ Aside0 (IsS91 w w' gb481 x482000_3) ∧ Aside0 (Below w.heap.size w w'))
           case atStart => exact ⟨(y478), (0), (a1), sv_, H', ⟨Nat.le_refl _⟩, ⟨by (with_reducible repeat (first | apply Kd.R_alloc | apply Kd.R_drewN | apply Kd.R_drew)); exact Kd.R_mono (Kd.R_far (p := ⟨gb481, 0, none⟩) (IsS91.apart HI481.out HO480.out (by decide)) (fun _ hk => hk.2) (.int .i64 a1)) (fun _ hk => trivial)⟩, ⟨by (with_reducible repeat (first | refine blk_drewN ?_ _ | refine blk_drew ?_ | refine blk_alloc ?_ _)); refine blk_far ?_ NB458_481.out _; (with_reducible repeat (first | refine blk_drewN ?_ _ | refine blk_drew ?_ | refine blk_alloc ?_ _)); exact BK458.out⟩, ⟨by repeat (first | (with_reducible first | exact HI481.out | apply IsS91.alloc | apply IsS91.drewN | apply IsS91.drew | apply IsS91.set_0 | refine IsS91.far ?_ NB481_458.out _) | exact HI481.out)⟩, ⟨by repeat (first | (with_reducible first | exact HB.out | apply below_alloc | apply pw_below_drewN | apply below_drew1 | refine below_set ?_ (IsS91.ge HI481.out) | refine below_set ?_ GE458.out) | exact HB.out)⟩⟩
           case round =>
            clear H'
            (try clear c2); (try clear p2); (try clear c4); (try clear p4); (try clear q4); (try clear hx4); (try clear c6); (try clear c7); (try clear c20); (try clear c20b0); (try clear c21); (try clear c22); (try clear c23); (try clear c23b0); (try clear c23b1); (try clear c24); (try clear c25); (try clear c46); (try clear p46); (try clear q46); (try clear hx46); (try clear c47); (try clear hcz53_0); (try clear hfz53_0); (try clear hx463_0); (try clear p463); (try clear q463); obtain ⟨x15_3, x119_3, x482000_3, rfl, HA, HK3, HO_15, BK458, HI481, HB⟩ := hrel
            cases gk with
            | zero => exact absurd HA.out (by simp [impl_GrowStages.l1])
            | succ k3 =>
             have H := HA.out; clear HA
             simp only [impl_GrowStages.l1] at H
             by_cases c54 : x119_3 < (l4.length : Int)
             ·rw [if_pos c54] at H
              have c54b0 : decide (x119_3 < (l4.length : Int)) = true := decide_eq_true c54
              clear c54
              by_cases c55 : 0 ≤ x119_3
              ·rw [if_pos c55] at H
               have c55b0 : decide (0 ≤ x119_3) = true := decide_eq_true c55
               clear c55
               by_cases c56 : x119_3 < (l4.length : Int)
               ·rw [if_pos c56] at H
                have c56b0 : decide (x119_3 < (l4.length : Int)) = true := decide_eq_true c56
                clear c56
                have H' := Aside0.mk H
                clear H
                have p482 : 0 ≤ (x119_3 : Int) := da_
                have q482 : x119_3 < (l4.length : Int) := da_
                obtain ⟨ad482, A482_0, c482_0, e482, hx482_0, hl482_0, hi482_0⟩ := at_L1 HR4.out x119_3 p482 q482; cases e482
                replace hx482_0 := (wc_ HB.out hx482_0 :)
                have HR482_0 := Aside0.mk hi482_0; have HC482_0 := Aside0.mk hl482_0; clear hi482_0 hl482_0; replace p482 := eq_true p482; replace q482 := eq_true q482
                go_wp2
                go_loopg [15, 124] k3 (fun kq v15 v124 w' => ∃ (x15_4 : List Int) (x124_4 : Int) (x482000_4 : Int), v124 = .int .i64 x124_4 ∧ Aside0 (impl_GrowStages.l2 kq a3 x15_4 (rd_L1 l4 x119_3) l4 (l4.length : Int) x119_3 a3 x124_4 a0_0 l0_1 l0_2 a0_3 a0_4 l0_5 x482000_4 = some (r1, r2)) ∧ Aside0 (kq ≤ k3) ∧ Aside0 (Kd.R (Kd.int .i64) 2 w' w.heap.size (fun _ => True) v15 x15_4) ∧ Aside0 (w'.heap[gb458]? = some (.cells #[.string a0_0, (.slice A0_1 l0_1.length c0_1), (.slice A0_2 l0_2.length c0_2), .int .i64 a0_3, .int .i64 a0_4, (.slice A0_5 l0_5.length c0_5)] 29 (0, 0))) ∧ Aside0 (IsS91 w w' gb481 x482000_4) ∧ Aside0 (Below w.heap.size w w'))
                case atStart => exact ⟨(x15_3), (0), (x482000_3), sv_, H', ⟨Nat.le_refl _⟩, ⟨rr_ HO_15.out⟩, ⟨by (with_reducible repeat (first | refine blk_drewN ?_ _ | refine blk_drew ?_ | refine blk_alloc ?_ _)); exact BK458.out⟩, ⟨by repeat (first | (with_reducible first | exact HI481.out | apply IsS91.alloc | apply IsS91.drewN | apply IsS91.drew | apply IsS91.set_0 | refine IsS91.far ?_ NB481_458.out _) | exact HI481.out)⟩, ⟨by repeat (first | (with_reducible first | exact HB.out | apply below_alloc | apply pw_below_drewN | apply below_drew1 | refine below_set ?_ (IsS91.ge HI481.out) | refine below_set ?_ GE458.out) | exact HB.out)⟩⟩
                case round =>
                 clear H'
                 (try clear c2); (try clear p2); (try clear c4); (try clear p4); (try clear q4); (try clear hx4); (try clear c5); (try clear c6); (try clear c7); (try clear c20); (try clear c20b0); (try clear c21); (try clear c22); (try clear c23); (try clear c23b0); (try clear c23b1); (try clear c24); (try clear c25); (try clear c46); (try clear p46); (try clear q46); (try clear hx46); (try clear c47); (try clear c48); (try clear p48); (try clear q48); (try clear hx48); (try clear c54); (try clear c54b0); (try clear c55); (try clear c55b0); (try clear c56); (try clear c56b0); (try clear hcz53_0); (try clear hfz53_0); (try clear hx463_0); (try clear hx482_0); (try clear p2); (try clear p4); (try clear p46); (try clear p463); (try clear p482); (try clear q4); (try clear q46); (try clear q463); (try clear q482); obtain ⟨x15_4, x124_4, x482000_4, rfl, HA, HK4, HO_15, BK458, HI481, HB⟩ := hrel
                 cases gk with
                 | zero => exact absurd HA.out (by simp [impl_GrowStages.l2])
                 | succ k4 =>
                  have H := HA.out; clear HA
                  simp only [impl_GrowStages.l2] at H
                  by_cases c57 : x124_4 < a3
                  ·rw [if_pos c57] at H
                   have c57b0 : decide (x124_4 < a3) = true := decide_eq_true c57
                   clear c57
                   obtain ⟨ji58, hji58⟩ : ∃ j_ : Int, (wrap64 ((x15_4.length : Int) - 1)) = j_ := ⟨_, rfl⟩
                   replace H : (if 0 ≤ (ji58) then (if (ji58) < (x15_4.length : Int) then (if 0 < ((rd_L1 l4 x119_3).length : Int) then (if 1 < ((rd_L1 l4 x119_3).length : Int) then ((impl_picker_grow.f k4 x482000_4 a0_0 l0_1 l0_2 a0_3 a0_4 l0_5 (rd x15_4 (ji58)) (rd (rd_L1 l4 x119_3) 0) (rd (rd_L1 l4 x119_3) 1)).bind fun bt486 => (if bt486.2.1 = true then (if x15_4.length < 17592186044416 then (impl_GrowStages.l2 k4 a3 (x15_4 ++ [bt486.1]) (rd_L1 l4 x119_3) l4 (l4.length : Int) x119_3 a3 (wrap64 (x124_4 + 1)) a0_0 l0_1 l0_2 a0_3 a0_4 l0_5 bt486.2.2) else (none)) else (some (([] : List Int), 3)))) else (none)) else (none)) else (none)) else (none)) = some (r1, r2) := by first | (rw [hji58] at H; exact H) | (simp only [hji58] at H ⊢; exact H)
                   have hji58w : (IntKind.i64.wrap ((x15_4.length : Int) - 1)) = ji58 := (i64_w _).trans hji58
                   by_cases c59 : 0 ≤ (ji58)
                   ·rw [if_pos c59] at H
                    have c59b0 : decide (0 ≤ (ji58)) = true := decide_eq_true c59
                    clear c59
                    by_cases c60 : (ji58) < (x15_4.length : Int)
                    ·rw [if_pos c60] at H
                     have c60b0 : decide ((ji58) < (x15_4.length : Int)) = true := decide_eq_true c60
                     clear c60
                     by_cases c61 : 0 < ((rd_L1 l4 x119_3).length : Int)
                     ·rw [if_pos c61] at H
                      have c61b0 : decide (0 < ((rd_L1 l4 x119_3).length : Int)) = true := decide_eq_true c61
                      have c61b1 : decide (0 < (rd_L1 l4 x119_3).length) = true := decide_eq_true (by omega)
                      clear c61
                      by_cases c62 : 1 < ((rd_L1 l4 x119_3).length : Int)
                      ·rw [if_pos c62] at H
                       have c62b0 : decide (1 < ((rd_L1 l4 x119_3).length : Int)) = true := decide_eq_true c62
                       have c62b1 : decide (1 < (rd_L1 l4 x119_3).length) = true := decide_eq_true (by omega)
                       clear c62
                       replace H := Option.bind_eq_some_iff.mp H
                       obtain ⟨⟨t486, t487, t488⟩, A630, H⟩ := H
                       replace H : (if t487 = true then (if x15_4.length < 17592186044416 then (impl_GrowStages.l2 k4 a3 (x15_4 ++ [t486]) (rd_L1 l4 x119_3) l4 (l4.length : Int) x119_3 a3 (wrap64 (x124_4 + 1)) a0_0 l0_1 l0_2 a0_3 a0_4 l0_5 t488) else (none)) else (some (([] : List Int), 3))) = some (r1, r2) := H
                       have A63 := Aside0.mk A630; clear A630
                       by_cases c64 : t487 = true
                       ·subst c64
                        have H1 : (if x15_4.length < 17592186044416 then (impl_GrowStages.l2 k4 a3 (x15_4 ++ [t486]) (rd_L1 l4 x119_3) l4 (l4.length : Int) x119_3 a3 (wrap64 (x124_4 + 1)) a0_0 l0_1 l0_2 a0_3 a0_4 l0_5 t488) else (none)) = some (r1, r2) := by rw [if_pos rfl] at H; exact H
                        clear H; have H := H1; clear H1
                        by_cases c65 : x15_4.length < 17592186044416
                        ·rw [if_pos c65] at H
                         have LMc65 := Aside0.mk c65; clear c65
                         obtain ⟨y489, hy489⟩ : ∃ y_ : List Int, y_ = (x15_4 ++ [t486]) := ⟨_, rfl⟩
                         replace H : (impl_GrowStages.l2 k4 a3 y489 (rd_L1 l4 x119_3) l4 (l4.length : Int) x119_3 a3 (wrap64 (x124_4 + 1)) a0_0 l0_1 l0_2 a0_3 a0_4 l0_5 t488) = some (r1, r2) := by first | (rw [hy489]; with_reducible exact H) | (have H2_ := (Option.bind_some _ _).symm.trans H; rw [hy489]; with_reducible exact H2_) | (have H2_ := (Option.bind_some _ _).symm.trans H; with_reducible exact H2_) | with_reducible exact H | (rw [hy489]; exact H) | exact H
                         have Ny489 := Aside0.mk hy489; clear hy489
                         have H' := Aside0.mk H
                         clear H
                         try go_wp2
                         have n0_ := Aside0.mk (Kd.R_drew HO_15.out)
                         have n1_ := Aside0.mk (blk_drew BK458.out)
                         have n2_ := Aside0.mk (IsS91.drew HI481.out)
                         have n3_ := Aside0.mk (below_drew1 HB.out)
                         clear HO_15; clear BK458; clear HI481; clear HB; have HO_15 := n0_; have BK458 := n1_; have HI481 := n2_; have HB := n3_; clear n0_ n1_ n2_ n3_; obtain ⟨Ao67, co67, eo67⟩ := Kd.R_slice HO_15.out
                         (first | subst eo67 | (injection eo67 with f1_ f2_ f3_; have f4_ := f1_.symm; have f5_ := f3_.symm; clear f1_ f2_ f3_; subst f4_; subst f5_))
                         have p483 : 0 ≤ ((ji58) : Int) := da_
                         have q483 : (ji58) < (x15_4.length : Int) := da_
                         obtain ⟨ad483, e483, hx483_0⟩ := Kd.at_int (Kd.R_reads' HO_15.out).2.2 (ji58) p483 q483; cases e483; replace p483 := eq_true p483; replace q483 := eq_true q483
                         have p484 : 0 ≤ (0 : Int) := (by omega)
                         have q484 : 0 < ((rd_L1 l4 x119_3).length : Int) := da_
                         obtain ⟨ad484, e484, hx484_0⟩ := Kd.at_int HR482_0.out 0 p484 q484; have hw484_0 := hx484_0; (try rw [show ((0 : Int)).toNat = 0 from rfl] at hw484_0); (try rw [show 0 * 1 = 0 from rfl] at hw484_0); (try rw [Addr.add_zero'] at hw484_0); cases e484
                         have qi484 : (0 < (rd_L1 l4 x119_3).length) = True := eq_true (by omega)
                         (try rw [show ((0 : Int)).toNat = 0 from rfl] at hx484_0); (try rw [Addr.add_zero'] at hx484_0)
                         replace hx484_0 := (wc_ HB.out hx484_0 :)
                         replace p484 := eq_true p484; replace q484 := eq_true q484
                         have p485 : 0 ≤ (1 : Int) := (by omega)
                         have q485 : 1 < ((rd_L1 l4 x119_3).length : Int) := da_
                         obtain ⟨ad485, e485, hx485_0⟩ := Kd.at_int HR482_0.out 1 p485 q485; have hw485_0 := hx485_0; (try rw [show ((1 : Int)).toNat = 1 from rfl] at hw485_0); (try rw [show 1 * 1 = 1 from rfl] at hw485_0); (try simp only [Nat.reduceMul, Nat.reduceEqDiff, Go.Addr.add, ↓reduceIte] at hw485_0); obtain rfl : ad484 = ad485 := (by injection e485); (try simp only [show (1 : Int).toNat = 1 from rfl, Nat.reduceMul, Nat.reduceEqDiff, Go.Addr.add, ↓reduceIte] at hx485_0)
                         have qi485 : (1 < (rd_L1 l4 x119_3).length) = True := eq_true (by omega)
                         (try rw [show ((1 : Int)).toNat = 1 from rfl] at hx485_0)
                         replace hx485_0 := (wc_ HB.out hx485_0 :)
                         replace p485 := eq_true p485; replace q485 := eq_true q485
                         refine start_ (n := 19) (S := fun w' => w'.cell? ⟨gb458, 0, none⟩ = some (.string a0_0) ∧ w'.cell? ⟨gb458, 1, none⟩ = some (.slice A0_1 l0_1.length c0_1) ∧ w'.cell? ⟨gb458, 2, none⟩ = some (.slice A0_2 l0_2.length c0_2) ∧ w'.cell? ⟨gb458, 3, none⟩ = some (.int .i64 a0_3) ∧ w'.cell? ⟨gb458, 4, none⟩ = some (.int .i64 a0_4) ∧ w'.cell? ⟨gb458, 5, none⟩ = some (.slice A0_5 l0_5.length c0_5) ∧ w'.cell? (ad483.add ((ji58)).toNat) = some (.int .i64 (rd x15_4 (ji58))) ∧ w'.cell? ad484 = some (.int .i64 (rd (rd_L1 l4 x119_3) 0)) ∧ w'.cell? ⟨ad484.block, ad484.off + 1, none⟩ = some (.int .i64 (rd (rd_L1 l4 x119_3) 1))) (ds := []) impl_GrowStages.K67 (by kernel_rfl) rfl rfl ⟨(blk_cell BK458.out 0).trans rfl, (blk_cell BK458.out 1).trans rfl, (blk_cell BK458.out 2).trans rfl, (blk_cell BK458.out 3).trans rfl, (blk_cell BK458.out 4).trans rfl, (blk_cell BK458.out 5).trans rfl, hx483_0, (wc_ HB.out hw484_0 :), (wc_ HB.out hw485_0 :)⟩ (fun hHeld => ?_); refine with_tabW impl_GrowStages.tab21 impl_GrowStages.bits21 (fun HT_ HW_ => ?_)
                         generalize wr.drew = w66 at HO_15 BK458 HI481 HB hx483_0 hx484_0 hx485_0 hHeld ⊢
                         refine pu_ HT_ 1 128 impl_GrowStages.K68 ?_; refine pu_ HT_ 2 129 impl_GrowStages.K69 ?_; refine pu_ HT_ 3 130 impl_GrowStages.K70 ?_; refine pu_ HT_ 4 131 impl_GrowStages.K71 ?_; refine pu_ HT_ 5 132 impl_GrowStages.K72 ?_; refine pu_ HT_ 7 134 impl_GrowStages.K73 ?_; refine pu_ HT_ 8 135 impl_GrowStages.K74 ?_; refine pu_ HT_ 10 137 impl_GrowStages.K75 ?_; refine pu_ HT_ 11 138 impl_GrowStages.K76 ?_; refine tk_ HT_ HW_ hHeld 0 127 impl_GrowStages.K77 ?_; refine tk_ HT_ HW_ hHeld 6 133 impl_GrowStages.K78 ?_; refine tk_ HT_ HW_ hHeld 9 136 impl_GrowStages.K79 ?_; refine tk_ HT_ HW_ hHeld 12 139 impl_GrowStages.K80 ?_
                         refine one_ (i := 13) (N := some 140) impl_GrowStages.K81 rfl rfl (one_of HT_.out (by kernel_rfl)) (by decide) (fun K hK => ?_)
                         refine goes_ Try.func72 (by kernel_rfl) rfl #[.pointer (some ⟨gb481, 0, none⟩), .agg #[.string a0_0, .slice A0_1 l0_1.length c0_1, .slice A0_2 l0_2.length c0_2, .int .i64 a0_3, .int .i64 a0_4, .slice A0_5 l0_5.length c0_5], .int .i64 (rd x15_4 (ji58)), .int .i64 (rd (rd_L1 l4 x119_3) 0), .int .i64 (rd (rd_L1 l4 x119_3) 1)] (by rfl) rfl rfl (by (try simp only [List.map_toArray, List.map_cons, List.map_nil]); first | done | (simp only [hji58]; rfl) | rfl | (simp only [List.length_drop, List.length_take]; rfl)) ?_
                         with_reducible refine (impl_picker_grow.calls k4 gb481 x482000_4 a0_0 _ _ l0_1 _ _ l0_2 a0_3 a0_4 _ _ l0_5 (rd x15_4 (ji58)) (rd (rd_L1 l4 x119_3) 0) (rd (rd_L1 l4 x119_3) 1) t486 true t488 w _ ?side1 ?side2 ?side3 ?side4 ?side5 ?side6 ?side7 ?side8 ?side9 ?side10 A63.out).mono ?_
                         (case side1 => repeat (first | (with_reducible first | exact HI481.out | apply IsS91.alloc | apply IsS91.drewN | apply IsS91.drew | apply IsS91.set_0 | refine IsS91.far ?_ NB481_458.out _) | exact HI481.out))
                         (case side2 => repeat (first | (with_reducible first | exact HB.out | apply below_alloc | apply pw_below_drewN | apply below_drew1 | refine below_set ?_ (IsS91.ge HI481.out) | refine below_set ?_ GE458.out) | exact HB.out))
                         (case side3 => exact (Kd.C_below HR0_1.out HB.out))
                         (case side4 => exact HC0_1.out)
                         (case side5 => exact Kd.far_C 0 HR0_1.out (IsS91.ge HI481.out))
                         (case side6 => exact (Kd.C_below HR0_2.out HB.out))
                         (case side7 => exact HC0_2.out)
                         (case side8 => exact Kd.far_C 0 HR0_2.out (IsS91.ge HI481.out))
                         (case side9 => exact Kd.C_foot_came (Kd.heap_slice 2 (Kd.heap_int .i64)) HR0_5.out (by repeat (first | (with_reducible first | exact HB.out | apply below_alloc | apply pw_below_drewN | apply below_drew1 | refine below_set ?_ (IsS91.ge HI481.out) | refine below_set ?_ GE458.out) | exact HB.out)) (IsS91.ge HI481.out))
                         (case side10 => exact HC0_5.out)
                         rintro e w68 ⟨rfl, hi, hb, hk⟩
                         have HS6_ := keep_cell hk (hHeld.2.2.2.2.2.2.1) (by first | (rw [add_block]; exact Kd.own_blk (IsS91.own_ne HI481.out HO_15.out (by decide))) | (show (Addr.add _ _).block ≠ _; rw [add_block]; exact Kd.own_blk (IsS91.own_ne HI481.out HO_15.out (by decide))) | exact Kd.own_blk (IsS91.own_ne HI481.out HO_15.out (by decide)))
                         refine ⟨_, rfl, ?_⟩
                         have n0_ := Aside0.mk (Kd.R_mono (Kd.R_keep (IsS91.apart (show IsS91 w _ gb481 x482000_4 from by repeat (first | (with_reducible first | exact HI481.out | apply IsS91.alloc | apply IsS91.drewN | apply IsS91.drew | apply IsS91.set_0 | refine IsS91.far ?_ NB481_458.out _) | exact HI481.out)) (rr_ HO_15.out) (by decide)) hk (fun _ h => h.2)) (fun _ h => h.1))
                         have n1_ := Aside0.mk (KeepBut.blk hk (g' := gb458) (o := .cells #[.string a0_0, .slice A0_1 l0_1.length c0_1, .slice A0_2 l0_2.length c0_2, .int .i64 a0_3, .int .i64 a0_4, .slice A0_5 l0_5.length c0_5] 29 (0, 0)) (by repeat first | exact BK458.out | refine blk_drewN ?_ _ | refine blk_drew ?_ | refine blk_alloc ?_ _) NB458_481.out (by simp))
                         have n2_ := Aside0.mk (hb); have n3_ := Aside0.mk (hi); clear HO_15; clear BK458; clear HB; clear HI481; have HO_15 := n0_; have BK458 := n1_; have HB := n2_; have HI481 := n3_; clear n0_ n1_ n2_ n3_; (try clear hb); (try clear hb2); (try clear hk); (try clear hi)
                         refine hK.out _ _ ⟨(blk_cell BK458.out 0).trans rfl, (blk_cell BK458.out 1).trans rfl, (blk_cell BK458.out 2).trans rfl, (blk_cell BK458.out 3).trans rfl, (blk_cell BK458.out 4).trans rfl, (blk_cell BK458.out 5).trans rfl, HS6_, (wc_ HB.out hw484_0 :), (wc_ HB.out hw485_0 :)⟩ (fun hHeld => ?_)
                         clear hK K; refine norm_ (a' := ?_) ?_ ?_; rotate_left
                         ·show Act.put _ (some 140) _ = _
                          go_simp
                          rfl
                         refine pu_ HT_ 14 126 impl_GrowStages.K82 ?_; refine pu_ HT_ 15 141 impl_GrowStages.K83 ?_; refine pu_ HT_ 16 142 impl_GrowStages.K84 ?_; refine pu_ HT_ 17 18 impl_GrowStages.K85 ?_; refine pu_ HT_ 18 19 impl_GrowStages.K86 ?_
                         refine done_ (done_of HT_.out (by kernel_rfl)) ?_
                         try go_wp2_with (first | ((with_reducible refine gate_builtin (b := .append) (xs := #[.tmp 145, .tmp 147]) rfl ?_); (try (refine gate_guard (by rfl) ?_; dsimp only)); at_builtin; refine Kd.R_append (Kd.int .i64) (w0 := w) w.heap.size rfl (.tmp 145) (.tmp 147) 22 2 (.int .i64 0) 8 rfl Try.underlying22 info2 rfl (by decide) (by omega) (.slice (some ad483) x15_4.length co67) x15_4 t486 [.int .i64 t486] (fun _ => True) (fun _ => False) rfl rfl ?aP (fun _ hk => hk.elim) ?aF ?aO ?aB ?aS ?aL ?_; (case aP => exact rfl); (case aB => exact (by repeat (first | (with_reducible first | exact HB.out | apply below_alloc | apply pw_below_drewN | apply below_drew1 | refine below_set ?_ (IsS91.ge HI481.out) | refine below_set ?_ GE458.out) | exact HB.out))); (case aF => exact (fun _ _ => trivial)); (case aO => exact (rr_ HO_15.out)); (case aS => exact (below_size (by repeat (first | (with_reducible first | exact HB.out | apply below_alloc | apply pw_below_drewN | apply below_drew1 | refine below_set ?_ (IsS91.ge HI481.out) | refine below_set ?_ GE458.out) | exact HB.out)))); (case aL => have := LMc65.out; omega); intro v490 w69 ho hb hg hat; rw [← Ny489.out] at ho; have n0_ := Aside0.mk (blk_grown (g := gb458) (o := .cells #[.string a0_0, .slice A0_1 l0_1.length c0_1, .slice A0_2 l0_2.length c0_2, .int .i64 a0_3, .int .i64 a0_4, .slice A0_5 l0_5.length c0_5] 29 (0, 0)) (by repeat first | exact BK458.out | refine blk_drewN ?_ _ | refine blk_drew ?_ | refine blk_alloc ?_ _) hg (Kd.R_ne HO_15.out BK458.out (by decide))); have n1_ := Aside0.mk (IsS91.grown (by repeat (first | (with_reducible first | exact HI481.out | apply IsS91.alloc | apply IsS91.drewN | apply IsS91.drew | apply IsS91.set_0 | refine IsS91.far ?_ NB481_458.out _) | exact HI481.out)) hg (IsS91.own_ne HI481.out HO_15.out (by decide))); have n2_ := Aside0.mk (hb); have n3_ := Aside0.mk (ho); clear BK458; clear HI481; clear HB; clear HO_15; have BK458 := n0_; have HI481 := n1_; have HB := n2_; have HO491 := n3_; clear n0_ n1_ n2_ n3_; clear ho hb hg hat))
                         go_roundg k4
                         case measure => have := HJ7.out; have := HK2.out; have := HK3.out; have := HK4.out; omega
                         case rel => exact ⟨(y489), (wrap64 (x124_4 + 1)), (t488), sv_, H', ⟨by have := HJ7.out; have := HK2.out; have := HK3.out; have := HK4.out; omega⟩, ⟨rr_ HO491.out⟩, ⟨by (with_reducible repeat (first | refine blk_drewN ?_ _ | refine blk_drew ?_ | refine blk_alloc ?_ _)); exact BK458.out⟩, ⟨by repeat (first | (with_reducible first | exact HI481.out | apply IsS91.alloc | apply IsS91.drewN | apply IsS91.drew | apply IsS91.set_0 | refine IsS91.far ?_ NB481_458.out _) | exact HI481.out)⟩, ⟨by repeat (first | (with_reducible first | exact HB.out | apply below_alloc | apply pw_below_drewN | apply below_drew1 | refine below_set ?_ (IsS91.ge HI481.out) | refine below_set ?_ GE458.out) | exact HB.out)⟩⟩
                        ·rw [if_neg c65] at H
                         exact absurd H (by simp)
                       ·replace c64 := Bool.eq_false_iff.mpr c64
                        subst c64
                        have H1 : (some (([] : List Int), 3)) = some (r1, r2) := by rw [if_neg (show ¬ (false = true) by decide)] at H; exact H
                        clear H; have H := H1; clear H1
                        simp only [Option.some.injEq, Prod.mk.injEq] at H
                        obtain ⟨rfl, rfl⟩ := H
                        try go_wp2
                        have n0_ := Aside0.mk (Kd.R_drew HO_15.out)
                        have n1_ := Aside0.mk (blk_drew BK458.out)
                        have n2_ := Aside0.mk (IsS91.drew HI481.out)
                        have n3_ := Aside0.mk (below_drew1 HB.out)
                        clear HO_15; clear BK458; clear HI481; clear HB; have HO_15 := n0_; have BK458 := n1_; have HI481 := n2_; have HB := n3_; clear n0_ n1_ n2_ n3_; obtain ⟨Ao71, co71, eo71⟩ := Kd.R_slice HO_15.out
                        (first | subst eo71 | (injection eo71 with f1_ f2_ f3_; have f4_ := f1_.symm; have f5_ := f3_.symm; clear f1_ f2_ f3_; subst f4_; subst f5_))
                        have p483 : 0 ≤ ((ji58) : Int) := da_
                        have q483 : (ji58) < (x15_4.length : Int) := da_
                        obtain ⟨ad483, e483, hx483_0⟩ := Kd.at_int (Kd.R_reads' HO_15.out).2.2 (ji58) p483 q483; cases e483; replace p483 := eq_true p483; replace q483 := eq_true q483
                        have p484 : 0 ≤ (0 : Int) := (by omega)
                        have q484 : 0 < ((rd_L1 l4 x119_3).length : Int) := da_
                        obtain ⟨ad484, e484, hx484_0⟩ := Kd.at_int HR482_0.out 0 p484 q484; have hw484_0 := hx484_0; (try rw [show ((0 : Int)).toNat = 0 from rfl] at hw484_0); (try rw [show 0 * 1 = 0 from rfl] at hw484_0); (try rw [Addr.add_zero'] at hw484_0); cases e484
                        have qi484 : (0 < (rd_L1 l4 x119_3).length) = True := eq_true (by omega)
                        (try rw [show ((0 : Int)).toNat = 0 from rfl] at hx484_0); (try rw [Addr.add_zero'] at hx484_0)
                        replace hx484_0 := (wc_ HB.out hx484_0 :)
                        replace p484 := eq_true p484; replace q484 := eq_true q484
                        have p485 : 0 ≤ (1 : Int) := (by omega)
                        have q485 : 1 < ((rd_L1 l4 x119_3).length : Int) := da_
                        obtain ⟨ad485, e485, hx485_0⟩ := Kd.at_int HR482_0.out 1 p485 q485; have hw485_0 := hx485_0; (try rw [show ((1 : Int)).toNat = 1 from rfl] at hw485_0); (try rw [show 1 * 1 = 1 from rfl] at hw485_0); (try simp only [Nat.reduceMul, Nat.reduceEqDiff, Go.Addr.add, ↓reduceIte] at hw485_0); obtain rfl : ad484 = ad485 := (by injection e485); (try simp only [show (1 : Int).toNat = 1 from rfl, Nat.reduceMul, Nat.reduceEqDiff, Go.Addr.add, ↓reduceIte] at hx485_0)
                        have qi485 : (1 < (rd_L1 l4 x119_3).length) = True := eq_true (by omega)
                        (try rw [show ((1 : Int)).toNat = 1 from rfl] at hx485_0)
                        replace hx485_0 := (wc_ HB.out hx485_0 :)
                        replace p485 := eq_true p485; replace q485 := eq_true q485
                        refine start_ (n := 19) (S := fun w' => w'.cell? ⟨gb458, 0, none⟩ = some (.string a0_0) ∧ w'.cell? ⟨gb458, 1, none⟩ = some (.slice A0_1 l0_1.length c0_1) ∧ w'.cell? ⟨gb458, 2, none⟩ = some (.slice A0_2 l0_2.length c0_2) ∧ w'.cell? ⟨gb458, 3, none⟩ = some (.int .i64 a0_3) ∧ w'.cell? ⟨gb458, 4, none⟩ = some (.int .i64 a0_4) ∧ w'.cell? ⟨gb458, 5, none⟩ = some (.slice A0_5 l0_5.length c0_5) ∧ w'.cell? (ad483.add ((ji58)).toNat) = some (.int .i64 (rd x15_4 (ji58))) ∧ w'.cell? ad484 = some (.int .i64 (rd (rd_L1 l4 x119_3) 0)) ∧ w'.cell? ⟨ad484.block, ad484.off + 1, none⟩ = some (.int .i64 (rd (rd_L1 l4 x119_3) 1))) (ds := []) impl_GrowStages.K67 (by kernel_rfl) rfl rfl ⟨(blk_cell BK458.out 0).trans rfl, (blk_cell BK458.out 1).trans rfl, (blk_cell BK458.out 2).trans rfl, (blk_cell BK458.out 3).trans rfl, (blk_cell BK458.out 4).trans rfl, (blk_cell BK458.out 5).trans rfl, hx483_0, (wc_ HB.out hw484_0 :), (wc_ HB.out hw485_0 :)⟩ (fun hHeld => ?_); refine with_tabW impl_GrowStages.tab21 impl_GrowStages.bits21 (fun HT_ HW_ => ?_)
                        generalize wr.drew = w70 at HO_15 BK458 HI481 HB hx483_0 hx484_0 hx485_0 hHeld ⊢
                        refine pu_ HT_ 1 128 impl_GrowStages.K68 ?_; refine pu_ HT_ 2 129 impl_GrowStages.K69 ?_; refine pu_ HT_ 3 130 impl_GrowStages.K70 ?_; refine pu_ HT_ 4 131 impl_GrowStages.K71 ?_; refine pu_ HT_ 5 132 impl_GrowStages.K72 ?_; refine pu_ HT_ 7 134 impl_GrowStages.K73 ?_; refine pu_ HT_ 8 135 impl_GrowStages.K74 ?_; refine pu_ HT_ 10 137 impl_GrowStages.K75 ?_; refine pu_ HT_ 11 138 impl_GrowStages.K76 ?_; refine tk_ HT_ HW_ hHeld 0 127 impl_GrowStages.K77 ?_; refine tk_ HT_ HW_ hHeld 6 133 impl_GrowStages.K78 ?_; refine tk_ HT_ HW_ hHeld 9 136 impl_GrowStages.K79 ?_; refine tk_ HT_ HW_ hHeld 12 139 impl_GrowStages.K80 ?_
                        refine one_ (i := 13) (N := some 140) impl_GrowStages.K81 rfl rfl (one_of HT_.out (by kernel_rfl)) (by decide) (fun K hK => ?_)
                        refine goes_ Try.func72 (by kernel_rfl) rfl #[.pointer (some ⟨gb481, 0, none⟩), .agg #[.string a0_0, .slice A0_1 l0_1.length c0_1, .slice A0_2 l0_2.length c0_2, .int .i64 a0_3, .int .i64 a0_4, .slice A0_5 l0_5.length c0_5], .int .i64 (rd x15_4 (ji58)), .int .i64 (rd (rd_L1 l4 x119_3) 0), .int .i64 (rd (rd_L1 l4 x119_3) 1)] (by rfl) rfl rfl (by (try simp only [List.map_toArray, List.map_cons, List.map_nil]); first | done | (simp only [hji58]; rfl) | rfl | (simp only [List.length_drop, List.length_take]; rfl)) ?_
                        with_reducible refine (impl_picker_grow.calls k4 gb481 x482000_4 a0_0 _ _ l0_1 _ _ l0_2 a0_3 a0_4 _ _ l0_5 (rd x15_4 (ji58)) (rd (rd_L1 l4 x119_3) 0) (rd (rd_L1 l4 x119_3) 1) t486 false t488 w _ ?side1 ?side2 ?side3 ?side4 ?side5 ?side6 ?side7 ?side8 ?side9 ?side10 A63.out).mono ?_
                        (case side1 => repeat (first | (with_reducible first | exact HI481.out | apply IsS91.alloc | apply IsS91.drewN | apply IsS91.drew | apply IsS91.set_0 | refine IsS91.far ?_ NB481_458.out _) | exact HI481.out))
                        (case side2 => repeat (first | (with_reducible first | exact HB.out | apply below_alloc | apply pw_below_drewN | apply below_drew1 | refine below_set ?_ (IsS91.ge HI481.out) | refine below_set ?_ GE458.out) | exact HB.out))
                        (case side3 => exact (Kd.C_below HR0_1.out HB.out))
                        (case side4 => exact HC0_1.out)
                        (case side5 => exact Kd.far_C 0 HR0_1.out (IsS91.ge HI481.out))
                        (case side6 => exact (Kd.C_below HR0_2.out HB.out))
                        (case side7 => exact HC0_2.out)
                        (case side8 => exact Kd.far_C 0 HR0_2.out (IsS91.ge HI481.out))
                        (case side9 => exact Kd.C_foot_came (Kd.heap_slice 2 (Kd.heap_int .i64)) HR0_5.out (by repeat (first | (with_reducible first | exact HB.out | apply below_alloc | apply pw_below_drewN | apply below_drew1 | refine below_set ?_ (IsS91.ge HI481.out) | refine below_set ?_ GE458.out) | exact HB.out)) (IsS91.ge HI481.out))
                        (case side10 => exact HC0_5.out)
                        rintro e w72 ⟨rfl, hi, hb, hk⟩
                        have HS6_ := keep_cell hk (hHeld.2.2.2.2.2.2.1) (by first | (rw [add_block]; exact Kd.own_blk (IsS91.own_ne HI481.out HO_15.out (by decide))) | (show (Addr.add _ _).block ≠ _; rw [add_block]; exact Kd.own_blk (IsS91.own_ne HI481.out HO_15.out (by decide))) | exact Kd.own_blk (IsS91.own_ne HI481.out HO_15.out (by decide)))
                        refine ⟨_, rfl, ?_⟩
                        have n0_ := Aside0.mk (Kd.R_mono (Kd.R_keep (IsS91.apart (show IsS91 w _ gb481 x482000_4 from by repeat (first | (with_reducible first | exact HI481.out | apply IsS91.alloc | apply IsS91.drewN | apply IsS91.drew | apply IsS91.set_0 | refine IsS91.far ?_ NB481_458.out _) | exact HI481.out)) (rr_ HO_15.out) (by decide)) hk (fun _ h => h.2)) (fun _ h => h.1))
                        have n1_ := Aside0.mk (KeepBut.blk hk (g' := gb458) (o := .cells #[.string a0_0, .slice A0_1 l0_1.length c0_1, .slice A0_2 l0_2.length c0_2, .int .i64 a0_3, .int .i64 a0_4, .slice A0_5 l0_5.length c0_5] 29 (0, 0)) (by repeat first | exact BK458.out | refine blk_drewN ?_ _ | refine blk_drew ?_ | refine blk_alloc ?_ _) NB458_481.out (by simp))
                        have n2_ := Aside0.mk (hb); have n3_ := Aside0.mk (hi); clear HO_15; clear BK458; clear HB; clear HI481; have HO_15 := n0_; have BK458 := n1_; have HB := n2_; have HI481 := n3_; clear n0_ n1_ n2_ n3_; (try clear hb); (try clear hb2); (try clear hk); (try clear hi)
                        refine hK.out _ _ ⟨(blk_cell BK458.out 0).trans rfl, (blk_cell BK458.out 1).trans rfl, (blk_cell BK458.out 2).trans rfl, (blk_cell BK458.out 3).trans rfl, (blk_cell BK458.out 4).trans rfl, (blk_cell BK458.out 5).trans rfl, HS6_, (wc_ HB.out hw484_0 :), (wc_ HB.out hw485_0 :)⟩ (fun hHeld => ?_)
                        clear hK K; refine norm_ (a' := ?_) ?_ ?_; rotate_left
                        ·show Act.put _ (some 140) _ = _
                         go_simp
                         rfl
                        refine pu_ HT_ 14 126 impl_GrowStages.K82 ?_; refine pu_ HT_ 15 141 impl_GrowStages.K83 ?_; refine pu_ HT_ 16 142 impl_GrowStages.K84 ?_; refine pu_ HT_ 17 18 impl_GrowStages.K85 ?_; refine pu_ HT_ 18 19 impl_GrowStages.K86 ?_
                        refine done_ (done_of HT_.out (by kernel_rfl)) ?_
                        try go_wp2
                        go_ret2
                        exact ⟨_, by first | rfl | (simp [errW_none, errW_some] <;> rfl) | (simp only [← hji58]; first | rfl | (simp [errW_none, errW_some] <;> rfl)) | (simp [*, errW_none, errW_some] <;> rfl), by first | exact Kd.R_nil _ _ _ _ _ | exact Kd.N_nil _ _ _ _ _ | exact Kd.V_nil _ _ _ _ _ | exact Kd.Q_nil _ _ _ _ _ | exact Kd.S_nil _ _ _ _ _, by repeat (first | (with_reducible first | exact HB.out | apply below_alloc | apply pw_below_drewN | apply below_drew1 | refine below_set ?_ (IsS91.ge HI481.out) | refine below_set ?_ GE458.out) | exact HB.out)⟩
                      ·rw [if_neg c62] at H
                       exact absurd H (by simp)
                     ·rw [if_neg c61] at H
                      exact absurd H (by simp)
                    ·rw [if_neg c60] at H
                     exact absurd H (by simp)
                   ·rw [if_neg c59] at H
                    exact absurd H (by simp)
                  ·rw [if_neg c57] at H
                   have c57b0 : decide (x124_4 < a3) = false := decide_eq_false c57
                   clear c57
                   have H' := Aside0.mk H
                   clear H
                   go_wp2
                   go_roundg k4
                   case measure => have := HJ7.out; have := HK2.out; have := HK3.out; have := HK4.out; omega
                   case rel => exact ⟨(x15_4), (wrap64 (x119_3 + 1)), (x482000_4), sv_, H', ⟨by have := HJ7.out; have := HK2.out; have := HK3.out; have := HK4.out; omega⟩, ⟨rr_ HO_15.out⟩, ⟨by (with_reducible repeat (first | refine blk_drewN ?_ _ | refine blk_drew ?_ | refine blk_alloc ?_ _)); exact BK458.out⟩, ⟨by repeat (first | (with_reducible first | exact HI481.out | apply IsS91.alloc | apply IsS91.drewN | apply IsS91.drew | apply IsS91.set_0 | refine IsS91.far ?_ NB481_458.out _) | exact HI481.out)⟩, ⟨by repeat (first | (with_reducible first | exact HB.out | apply below_alloc | apply pw_below_drewN | apply below_drew1 | refine below_set ?_ (IsS91.ge HI481.out) | refine below_set ?_ GE458.out) | exact HB.out)⟩⟩
               ·rw [if_neg c56] at H
                exact absurd H (by simp)
              ·rw [if_neg c55] at H
               exact absurd H (by simp)
             ·rw [if_neg c54] at H
              have c54b0 : decide (x119_3 < (l4.length : Int)) = false := decide_eq_false c54
              clear c54
              simp only [Option.some.injEq, Prod.mk.injEq] at H
              obtain ⟨rfl, rfl⟩ := H
              go_wp2
              go_ret2
              exact ⟨_, by first | rfl | (simp [errW_none, errW_some] <;> rfl) | (simp [*, errW_none, errW_some] <;> rfl), rr_ HO_15.out, by repeat (first | (with_reducible first | exact HB.out | apply below_alloc | apply pw_below_drewN | apply below_drew1 | refine below_set ?_ (IsS91.ge HI481.out) | refine below_set ?_ GE458.out) | exact HB.out)⟩
          ·replace c47 := Bool.eq_false_iff.mpr c47
           subst c47
           have H1 : (some (([] : List Int), 3)) = some (r1, r2) := by rw [if_neg (show ¬ (false = true) by decide)] at H; exact H
           clear H; have H := H1; clear H1
           simp only [Option.some.injEq, Prod.mk.injEq] at H
           obtain ⟨rfl, rfl⟩ := H
           try go_wp2
           have n0_ := Aside0.mk (blk_drew BK458.out)
           have n1_ := Aside0.mk (below_drew1 HB.out)
           clear BK458; clear HB; have BK458 := n0_; have HB := n1_; clear n0_ n1_
           refine start_ (n := 5) (S := fun w' => w'.cell? ⟨gb458, 0, none⟩ = some (.string a0_0) ∧ w'.cell? ⟨gb458, 1, none⟩ = some (.slice A0_1 l0_1.length c0_1) ∧ w'.cell? ⟨gb458, 2, none⟩ = some (.slice A0_2 l0_2.length c0_2) ∧ w'.cell? ⟨gb458, 3, none⟩ = some (.int .i64 a0_3) ∧ w'.cell? ⟨gb458, 4, none⟩ = some (.int .i64 a0_4) ∧ w'.cell? ⟨gb458, 5, none⟩ = some (.slice A0_5 l0_5.length c0_5)) (ds := []) #[false, false, false, false, false] (by kernel_rfl) rfl rfl ⟨(blk_cell BK458.out 0).trans rfl, (blk_cell BK458.out 1).trans rfl, (blk_cell BK458.out 2).trans rfl, (blk_cell BK458.out 3).trans rfl, (blk_cell BK458.out 4).trans rfl, (blk_cell BK458.out 5).trans rfl⟩ (fun hHeld => ?_)
           generalize wr.drew = w73 at BK458 HB hHeld ⊢
           refine pure_ (i := 1) (N := some 110) (v := ?_) (a' := ?_) #[false, true, false, false, false] rfl rfl (by kernel_rfl) (fun _ _ _ h => h) (Or.inl ⟨by rfl, ?_⟩) ?_ ?_; rotate_left; (·intro w'; go_simp; with_reducible rfl); rotate_left; (·go_simp; rfl)
           refine take_ (i := 0) (N := some 109) (v := ?_) (a' := ?_) #[true, true, false, false, false] rfl rfl (by kernel_rfl) (fun _ _ _ h => h) (Or.inl ⟨by rfl, ?_⟩) hHeld ?_ ?_
           rotate_left
           ·rintro w' ⟨s0, s1, s2, s3, s4, s5⟩
            go_simp
            with_reducible rfl
           rotate_left
           ·go_simp
            rfl
           refine one_ (i := 2) (N := some 111) #[true, true, true, false, false] rfl rfl (by kernel_rfl) (by decide) (fun K hK => ?_)
           refine goes_ Try.func70 (by kernel_rfl) rfl #[.int .i64 a2] (by rfl) rfl rfl av_ ?_
           with_reducible refine (impl_ToneOf.calls a2 t476 _ A45.out).mono ?_
           rintro e w' ⟨rfl, ⟨nd, rfl⟩⟩
           refine ⟨_, rfl, ?_⟩
           refine hK.out _ _ ⟨(blk_cell BK458.out 0).trans rfl, (blk_cell BK458.out 1).trans rfl, (blk_cell BK458.out 2).trans rfl, (blk_cell BK458.out 3).trans rfl, (blk_cell BK458.out 4).trans rfl, (blk_cell BK458.out 5).trans rfl⟩ (fun hHeld => ?_)
           clear hK K; refine norm_ (a' := ?_) ?_ ?_; rotate_left
           ·show Act.put _ (some 111) _ = _
            go_simp
            rfl
           refine one_ (i := 3) (N := some 112) #[true, true, true, true, false] rfl rfl (by kernel_rfl) (by decide) (fun K hK => ?_)
           refine goes_ Try.func69 (by kernel_rfl) rfl #[.agg #[.string a0_0, .slice A0_1 l0_1.length c0_1, .slice A0_2 l0_2.length c0_2, .int .i64 a0_3, .int .i64 a0_4, .slice A0_5 l0_5.length c0_5], .int .i64 t476] (by rfl) rfl rfl av_ ?_
           with_reducible refine (impl_Raga_hasTone.calls k2 a0_0 _ _ l0_1 _ _ l0_2 a0_3 a0_4 _ _ l0_5 t476 false _ ?side1 ?side2 ?side3 ?side4 ?side5 ?side6 A46.out).mono ?_
           (case side1 => repeat (first | exact (Kd.C_below HR0_1.out (bg_ HB.out GE458.out)) | (with_reducible refine Kd.C_alloc ?_ _) | (with_reducible refine Kd.C_drewN ?_ _) | (with_reducible refine Kd.C_drew ?_)))
           (case side2 => exact HC0_1.out)
           (case side3 => repeat (first | exact (Kd.C_below HR0_2.out (bg_ HB.out GE458.out)) | (with_reducible refine Kd.C_alloc ?_ _) | (with_reducible refine Kd.C_drewN ?_ _) | (with_reducible refine Kd.C_drew ?_)))
           (case side4 => exact HC0_2.out)
           (case side5 => repeat (first | exact (Kd.C_below HR0_5.out (bg_ HB.out GE458.out)) | (with_reducible refine Kd.C_alloc ?_ _) | (with_reducible refine Kd.C_drewN ?_ _) | (with_reducible refine Kd.C_drew ?_)))
           (case side6 => exact HC0_5.out)
           rintro e w74 ⟨rfl, hb⟩
           refine ⟨_, rfl, ?_⟩
           have n0_ := Aside0.mk (blk_below (g := gb458) (o := .cells #[.string a0_0, .slice A0_1 l0_1.length c0_1, .slice A0_2 l0_2.length c0_2, .int .i64 a0_3, .int .i64 a0_4, .slice A0_5 l0_5.length c0_5] 29 (0, 0)) (by repeat first | exact BK458.out | refine blk_drewN ?_ _ | refine blk_drew ?_ | refine blk_alloc ?_ _) hb)
           have n1_ := Aside0.mk (below_step (bg_ HB.out GE458.out) hb)
           clear BK458; clear HB; have BK458 := n0_; have HB := n1_; clear n0_ n1_; (try clear hb); (try clear hb2); (try clear hk); (try clear hi)
           refine hK.out _ _ ⟨(blk_cell BK458.out 0).trans rfl, (blk_cell BK458.out 1).trans rfl, (blk_cell BK458.out 2).trans rfl, (blk_cell BK458.out 3).trans rfl, (blk_cell BK458.out 4).trans rfl, (blk_cell BK458.out 5).trans rfl⟩ (fun hHeld => ?_)
           clear hK K; refine norm_ (a' := ?_) ?_ ?_; rotate_left
           ·show Act.put _ (some 112) _ = _
            go_simp
            rfl
           refine pure_ (i := 4) (N := some 113) (v := ?_) (a' := ?_) #[true, true, true, true, true] rfl rfl (by kernel_rfl) (fun _ _ _ h => h) (Or.inl ⟨by rfl, ?_⟩) ?_ ?_; rotate_left; (·intro w'; go_simp; with_reducible rfl); rotate_left; (·go_simp; rfl)
           refine done_ (by kernel_rfl) ?_
           try go_wp2
           go_ret2
           exact ⟨_, by first | rfl | (simp [errW_none, errW_some] <;> rfl) | (simp [*, errW_none, errW_some] <;> rfl), by first | exact Kd.R_nil _ _ _ _ _ | exact Kd.N_nil _ _ _ _ _ | exact Kd.V_nil _ _ _ _ _ | exact Kd.Q_nil _ _ _ _ _ | exact Kd.S_nil _ _ _ _ _, bg_ HB.out GE458.out⟩
 ·replace c7 := Bool.eq_false_iff.mpr c7
  subst c7
  have H1 : (some (([] : List Int), 1)) = some (r1, r2) := by rw [if_neg (show ¬ (false = true) by decide)] at H; exact H
  clear H
  have H := H1
  clear H1
  simp only [Option.some.injEq, Prod.mk.injEq] at H
  obtain ⟨rfl, rfl⟩ := H
  go_enter Try.func36, Try.ntmps36
  go_wp2_with (first | ((with_reducible refine gate_dst (N := 5) rfl ?_); (try (refine gate_guard (by rfl) ?_; dsimp only)); refine box_event ?hg (N := 5) ?hd (cs := #[.string a0_0, .slice A0_1 l0_1.length c0_1, .slice A0_2 l0_2.length c0_2, .int .i64 a0_3, .int .i64 a0_4, .slice A0_5 l0_5.length c0_5]) (t := 29) ?hr ?_; (case hd => rfl); (case hg => rfl); (case hr => first | (go_simp; done) | (go_simp; rfl)); intro gb458 hg w75 hbox hb; have n0_ := Aside0.mk (below_step (ba_ HB.out) hb); have n1_ := Aside0.mk (hbox); have n2_ := Aside0.mk ((by rw [hg]; exact (below_size (ba_ HB.out)) : w.heap.size ≤ gb458)); have n3_ := Aside0.mk ((by rw [hg]; exact (below_size (ba_ HB.out)) : w.heap.size ≤ gb458)); clear HB; have HB := n0_; have BK458 := n1_; have GW458 := n2_; have GE458 := n3_; clear n0_ n1_ n2_ n3_; clear hb hbox hg; have hcz76_0 : w75.cell? ⟨gb458, 0, none⟩ = some (.string a0_0) := (blk_cell BK458.out 0).trans rfl; have hcz76_1 : w75.cell? ⟨gb458, 1, none⟩ = some (.slice A0_1 l0_1.length c0_1) := (blk_cell BK458.out 1).trans rfl; have hcz76_2 : w75.cell? ⟨gb458, 2, none⟩ = some (.slice A0_2 l0_2.length c0_2) := (blk_cell BK458.out 2).trans rfl; have hcz76_3 : w75.cell? ⟨gb458, 3, none⟩ = some (.int .i64 a0_3) := (blk_cell BK458.out 3).trans rfl; have hcz76_4 : w75.cell? ⟨gb458, 4, none⟩ = some (.int .i64 a0_4) := (blk_cell BK458.out 4).trans rfl; have hcz76_5 : w75.cell? ⟨gb458, 5, none⟩ = some (.slice A0_5 l0_5.length c0_5) := (blk_cell BK458.out 5).trans rfl; have hfz76_0 := blk_frozen BK458.out 0; have hfz76_1 := blk_frozen BK458.out 1; have hfz76_2 := blk_frozen BK458.out 2; have hfz76_3 := blk_frozen BK458.out 3; have hfz76_4 := blk_frozen BK458.out 4; have hfz76_5 := blk_frozen BK458.out 5) | ((with_reducible refine gate_callee (f := 62) rfl ?_); refine goesL_ (some 22) rfl rfl Try.func62 (by kernel_rfl) rfl #[.agg #[.string a0_0, .slice A0_1 l0_1.length c0_1, .slice A0_2 l0_2.length c0_2, .int .i64 a0_3, .int .i64 a0_4, .slice A0_5 l0_5.length c0_5]] rfl av_ ?_; (with_reducible refine (impl_ValidRaga.calls k a0_0 _ _ l0_1 _ _ l0_2 a0_3 a0_4 _ _ l0_5 false _ ?side1 ?side2 ?side3 ?side4 ?side5 ?side6 A6.out).mono ?_); (case side1 => exact (Kd.C_below HR0_1.out HB.out)); (case side2 => exact HC0_1.out); (case side3 => exact (Kd.C_below HR0_2.out HB.out)); (case side4 => exact HC0_2.out); (case side5 => exact (Kd.C_below HR0_5.out HB.out)); (case side6 => exact HC0_5.out); rintro e w77 ⟨rfl, hb⟩; refine ⟨_, rfl, ?_⟩; have n0_ := Aside0.mk (blk_below (g := gb458) (o := .cells #[.string a0_0, .slice A0_1 l0_1.length c0_1, .slice A0_2 l0_2.length c0_2, .int .i64 a0_3, .int .i64 a0_4, .slice A0_5 l0_5.length c0_5] 29 (0, 0)) (by repeat first | exact BK458.out | refine blk_drewN ?_ _ | refine blk_drew ?_ | refine blk_alloc ?_ _) hb); have n1_ := Aside0.mk (below_step (bg_ HB.out GE458.out) hb); clear BK458; clear HB; have BK458 := n0_; have HB := n1_; clear n0_ n1_; (try clear hb); (try clear hb2); (try clear hk); (try clear hi)))
  go_ret2
  exact ⟨_, by first | rfl | (simp [errW_none, errW_some] <;> rfl) | (simp [*, errW_none, errW_some] <;> rfl), by first | exact Kd.R_nil _ _ _ _ _ | exact Kd.N_nil _ _ _ _ _ | exact Kd.V_nil _ _ _ _ _ | exact Kd.Q_nil _ _ _ _ _ | exact Kd.S_nil _ _ _ _ _, bg_ HB.out GE458.out⟩
/-! ### laws_eqInt64S: function 17 -/
def laws_eqInt64S.l0 : Nat → List Int → List Int → Int → Option (Bool)
 | 0, _, _, _ => none
 | k + 1, x0, x1, x5 => if x5 < (x0.length : Int) then (if 0 ≤ x5 then (if x5 < (x1.length : Int) then (if (rd x0 x5) = (rd x1 x5) then (laws_eqInt64S.l0 k x0 x1 (wrap64 (x5 + 1))) else (some false)) else (none)) else (none)) else (some true)
def laws_eqInt64S.f (k : Nat) (l0 : List Int) (l1 : List Int) : Option (Bool) := if (l0.length : Int) = (l1.length : Int) then (laws_eqInt64S.l0 k l0 l1 0) else (some false)
theorem laws_eqInt64S.mono_l : ∀ k, (∀ y0 y1 y2, LeO (laws_eqInt64S.l0 k y0 y1 y2) (laws_eqInt64S.l0 (k + 1) y0 y1 y2))
 | 0 => fun _ _ _ r h => by simp [laws_eqInt64S.l0] at h
 | k + 1 => by
  have ih0 := laws_eqInt64S.mono_l k
  ·intro y0 y1 y2
   unfold laws_eqInt64S.l0
   repeat' first
   | (with_reducible exact ih0 _ _ _)
   | (with_reducible exact LeO.refl _)
   | (with_reducible exact LeO.none _)
   | (with_reducible refine LeO.ite ?_ ?_)
   | (with_reducible refine LeO.bind ?_ (fun _ => ?_))
   | exact ih0 _ _ _
   | exact LeO.none _
   | refine LeO.ite ?_ ?_
   | refine LeO.bind ?_ (fun _ => ?_)
theorem laws_eqInt64S.mono : ∀ a0 a1 k, LeO (laws_eqInt64S.f k a0 a1) (laws_eqInt64S.f (k + 1) a0 a1) := by
 intro a0 a1 k
 have ih0 := laws_eqInt64S.mono_l k
 unfold laws_eqInt64S.f
 repeat' first
   | (with_reducible exact ih0 _ _ _)
   | (with_reducible exact LeO.refl _)
   | (with_reducible exact LeO.none _)
   | (with_reducible refine LeO.ite ?_ ?_)
   | (with_reducible refine LeO.bind ?_ (fun _ => ?_))
   | exact ih0 _ _ _
   | exact LeO.none _
   | refine LeO.ite ?_ ?_
   | refine LeO.bind ?_ (fun _ => ?_)
set_option maxHeartbeats 8000000 in
set_option maxRecDepth 100000 in
theorem laws_eqInt64S.calls (k : Nat) (A0 : Option Addr) (c0 : Nat) (l0 : List Int) (A1 : Option Addr) (c1 : Nat) (l1 : List Int) (r : Bool) (w : World) (hr0 : Kd.C (Kd.int .i64) w A0 l0.length l0) (hc0 : l0.length ≤ c0) (hr1 : Kd.C (Kd.int .i64) w A1 l1.length l1) (hc1 : l1.length ≤ c1) (h : laws_eqInt64S.f k l0 l1 = some r) :
  Calls Try.prog 17 #[.slice A0 l0.length c0, .slice A1 l1.length c1] w fun e w' => e = .returned (.bool r) ∧ Drawn0 w w' := by
 have HR0 := Aside0.mk hr0
 have HC0 := Aside0.mk hc0
 clear hr0 hc0
 have HR1 := Aside0.mk hr1
 have HC1 := Aside0.mk hc1
 clear hr1 hc1
 have H : (if (l0.length : Int) = (l1.length : Int) then (laws_eqInt64S.l0 k l0 l1 0) else (some false)) = some r := h
 clear h
 by_cases c3 : (l0.length : Int) = (l1.length : Int)
 ·rw [if_pos c3] at H
  have c3b0 : ((l0.length : Int) == (l1.length : Int)) = true := beq_iff_eq.mpr c3
  have c3b1 : ((l0.length : Int) != (l1.length : Int)) = false := bne_eq_false_iff_eq.mpr c3
  have c3b2 : (l0.length == l1.length) = true := by first | simpa using c3 | (simp at c3 ⊢; omega)
  clear c3
  have H' := Aside0.mk H
  clear H
  go_enter Try.func17, Try.ntmps17
  go_wp2
  repeat (go_quiet (fail); try go_wp2)
  go_loopg [5] k (fun kq v5 w' => ∃ (x5_1 : Int), v5 = .int .i64 x5_1 ∧ Aside0 (laws_eqInt64S.l0 kq l0 l1 x5_1 = some r) ∧ Aside0 (kq ≤ k) ∧ Drawn0 w w')
  case atStart => exact ⟨(0), sv_, H', ⟨Nat.le_refl _⟩, dr_⟩
  case round =>
   clear H'
   (try clear c1); (try clear p2); (try clear c3); (try clear c3b0); (try clear c3b1); (try clear c3b2)
   obtain ⟨x5_1, rfl, HA, HK1, ⟨m1, rfl⟩⟩ := hrel
   cases gk with
   | zero => exact absurd HA.out (by simp [laws_eqInt64S.l0])
   | succ k1 =>
    have H := HA.out
    clear HA
    simp only [laws_eqInt64S.l0] at H
    by_cases c4 : x5_1 < (l0.length : Int)
    ·rw [if_pos c4] at H
     have c4b0 : decide (x5_1 < (l0.length : Int)) = true := decide_eq_true c4
     clear c4
     by_cases c5 : 0 ≤ x5_1
     ·rw [if_pos c5] at H
      have c5b0 : decide (0 ≤ x5_1) = true := decide_eq_true c5
      clear c5
      by_cases c6 : x5_1 < (l1.length : Int)
      ·rw [if_pos c6] at H
       have c6b0 : decide (x5_1 < (l1.length : Int)) = true := decide_eq_true c6
       clear c6
       by_cases c7 : (rd l0 x5_1) = (rd l1 x5_1)
       ·rw [if_pos c7] at H
        have c7b0 : ((rd l0 x5_1) == (rd l1 x5_1)) = true := beq_iff_eq.mpr c7
        have c7b1 : ((rd l0 x5_1) != (rd l1 x5_1)) = false := bne_eq_false_iff_eq.mpr c7
        clear c7
        have H' := Aside0.mk H
        clear H
        have p321 : 0 ≤ (x5_1 : Int) := da_
        have q321 : x5_1 < (l0.length : Int) := da_
        obtain ⟨ad321, e321, hx321_0⟩ := Kd.at_int HR0.out x5_1 p321 q321
        cases e321
        replace p321 := eq_true p321
        replace q321 := eq_true q321
        have p322 : 0 ≤ (x5_1 : Int) := da_
        have q322 : x5_1 < (l1.length : Int) := da_
        obtain ⟨ad322, e322, hx322_0⟩ := Kd.at_int HR1.out x5_1 p322 q322
        cases e322
        replace p322 := eq_true p322
        replace q322 := eq_true q322
        go_wp2
        repeat (go_quiet (fail); try go_wp2)
        go_roundg k1
        case measure => have := HK1.out; omega
        case rel => exact ⟨(wrap64 (x5_1 + 1)), sv_, H', ⟨by have := HK1.out; omega⟩, dr_⟩
       ·rw [if_neg c7] at H
        have c7b0 : ((rd l0 x5_1) == (rd l1 x5_1)) = false := beq_eq_false_iff_ne.mpr c7
        have c7b1 : ((rd l0 x5_1) != (rd l1 x5_1)) = true := bne_iff_ne.mpr c7
        obtain rfl := Option.some.inj H
        have p321 : 0 ≤ (x5_1 : Int) := da_
        have q321 : x5_1 < (l0.length : Int) := da_
        obtain ⟨ad321, e321, hx321_0⟩ := Kd.at_int HR0.out x5_1 p321 q321
        cases e321
        replace p321 := eq_true p321
        replace q321 := eq_true q321
        have p322 : 0 ≤ (x5_1 : Int) := da_
        have q322 : x5_1 < (l1.length : Int) := da_
        obtain ⟨ad322, e322, hx322_0⟩ := Kd.at_int HR1.out x5_1 p322 q322
        cases e322
        replace p322 := eq_true p322
        replace q322 := eq_true q322
        go_wp2
        repeat (go_quiet (fail); try go_wp2)
        go_ret
        exact ⟨sv_, dr_⟩
      ·rw [if_neg c6] at H
       exact absurd H (by simp)
     ·rw [if_neg c5] at H
      exact absurd H (by simp)
    ·rw [if_neg c4] at H
     have c4b0 : decide (x5_1 < (l0.length : Int)) = false := decide_eq_false c4
     clear c4
     obtain rfl := Option.some.inj H
     go_wp2
     repeat (go_quiet (fail); try go_wp2)
     go_ret
     exact ⟨sv_, dr_⟩
 ·rw [if_neg c3] at H
  have c3b0 : ((l0.length : Int) == (l1.length : Int)) = false := beq_eq_false_iff_ne.mpr c3
  have c3b1 : ((l0.length : Int) != (l1.length : Int)) = true := bne_iff_ne.mpr c3
  have c3b2 : (l0.length == l1.length) = false := by first | simpa using c3 | (simp at c3 ⊢; omega)
  obtain rfl := Option.some.inj H
  go_enter Try.func17, Try.ntmps17
  go_wp2
  repeat (go_quiet (fail); try go_wp2)
  go_ret
  exact ⟨sv_, dr_⟩
end Go.Proofs.Ytinlejhffokbaaa.P
end
