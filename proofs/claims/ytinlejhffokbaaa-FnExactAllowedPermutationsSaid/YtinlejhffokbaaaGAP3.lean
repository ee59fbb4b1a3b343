/- Texts of this seat, merged: QImplValidraga, QImplAllowedpermutations, QLawsEqint64S, QLawsEqint64Ss, QLawsEqraga. -/
import Derived.Test.YtinlejhffokbaaaGAP1
import Derived.Test.YtinlejhffokbaaaGAP2
section
namespace Go.Proofs.Ytinlejhffokbaaa.P
open Go.RowKit Go.Proofs.YtinlejhffokbaaaW.PrintWords Go.Proofs.YtinlejhffokbaaaW.PrintLast Go.Proofs.YtinlejhffokbaaaW.PrintMore
attribute [local go_sem] max2_int min2_int max_two min_two max_three min_three max_four min_four   -- for this text's walks alone
set_option linter.unusedVariables false
set_option linter.unusedSimpArgs false
/-! ### impl_ValidRaga: function 62 -/
def impl_ValidRaga.K0 : Array Bool := #[n_,n_,n_,n_,n_,n_,n_,n_,n_,n_,n_,n_,n_,n_,n_,n_,n_,n_,n_,n_,n_,n_,n_,n_,n_,n_,n_,n_,n_,n_,n_,n_,n_,n_,n_,n_,n_,n_,n_,n_,n_]
def impl_ValidRaga.K1 : Array Bool := #[y_,n_,n_,n_,n_,n_,n_,n_,n_,n_,n_,n_,n_,n_,n_,n_,n_,n_,n_,n_,n_,n_,n_,n_,n_,n_,n_,n_,n_,n_,n_,n_,n_,n_,n_,n_,n_,n_,n_,n_,n_]
def impl_ValidRaga.K2 : Array Bool := #[y_,y_,n_,n_,n_,n_,n_,n_,n_,n_,n_,n_,n_,n_,n_,n_,n_,n_,n_,n_,n_,n_,n_,n_,n_,n_,n_,n_,n_,n_,n_,n_,n_,n_,n_,n_,n_,n_,n_,n_,n_]
def impl_ValidRaga.K3 : Array Bool := #[y_,y_,y_,n_,n_,n_,n_,n_,n_,n_,n_,n_,n_,n_,n_,n_,n_,n_,n_,n_,n_,n_,n_,n_,n_,n_,n_,n_,n_,n_,n_,n_,n_,n_,n_,n_,n_,n_,n_,n_,n_]
def impl_ValidRaga.K4 : Array Bool := #[y_,y_,y_,y_,n_,n_,n_,n_,n_,n_,n_,n_,n_,n_,n_,n_,n_,n_,n_,n_,n_,n_,n_,n_,n_,n_,n_,n_,n_,n_,n_,n_,n_,n_,n_,n_,n_,n_,n_,n_,n_]
def impl_ValidRaga.K5 : Array Bool := #[y_,y_,y_,y_,y_,n_,n_,n_,n_,n_,n_,n_,n_,n_,n_,n_,n_,n_,n_,n_,n_,n_,n_,n_,n_,n_,n_,n_,n_,n_,n_,n_,n_,n_,n_,n_,n_,n_,n_,n_,n_]
def impl_ValidRaga.K6 : Array Bool := #[y_,y_,y_,y_,y_,y_,n_,n_,n_,n_,n_,n_,n_,n_,n_,n_,n_,n_,n_,n_,n_,n_,n_,n_,n_,n_,n_,n_,n_,n_,n_,n_,n_,n_,n_,n_,n_,n_,n_,n_,n_]
def impl_ValidRaga.K7 : Array Bool := #[y_,y_,y_,y_,y_,y_,y_,n_,n_,n_,n_,n_,n_,n_,n_,n_,n_,n_,n_,n_,n_,n_,n_,n_,n_,n_,n_,n_,n_,n_,n_,n_,n_,n_,n_,n_,n_,n_,n_,n_,n_]
def impl_ValidRaga.K8 : Array Bool := #[y_,y_,y_,y_,y_,y_,y_,y_,n_,n_,n_,n_,n_,n_,n_,n_,n_,n_,n_,n_,n_,n_,n_,n_,n_,n_,n_,n_,n_,n_,n_,n_,n_,n_,n_,n_,n_,n_,n_,n_,n_]
def impl_ValidRaga.K9 : Array Bool := #[y_,y_,y_,y_,y_,y_,y_,y_,y_,n_,n_,n_,n_,n_,n_,n_,n_,n_,n_,n_,n_,n_,n_,n_,n_,n_,n_,n_,n_,n_,n_,n_,n_,n_,n_,n_,n_,n_,n_,n_,n_]
def impl_ValidRaga.K10 : Array Bool := #[y_,y_,y_,y_,y_,y_,y_,y_,y_,y_,n_,n_,n_,n_,n_,n_,n_,n_,n_,n_,n_,n_,n_,n_,n_,n_,n_,n_,n_,n_,n_,n_,n_,n_,n_,n_,n_,n_,n_,n_,n_]
def impl_ValidRaga.K11 : Array Bool := #[y_,y_,y_,y_,y_,y_,y_,y_,y_,y_,y_,n_,n_,n_,n_,n_,n_,n_,n_,n_,n_,n_,n_,n_,n_,n_,n_,n_,n_,n_,n_,n_,n_,n_,n_,n_,n_,n_,n_,n_,n_]
def impl_ValidRaga.K12 : Array Bool := #[y_,y_,y_,y_,y_,y_,y_,y_,y_,y_,y_,y_,n_,n_,n_,n_,n_,n_,n_,n_,n_,n_,n_,n_,n_,n_,n_,n_,n_,n_,n_,n_,n_,n_,n_,n_,n_,n_,n_,n_,n_]
def impl_ValidRaga.K13 : Array Bool := #[y_,y_,y_,y_,y_,y_,y_,y_,y_,y_,y_,y_,y_,n_,n_,n_,n_,n_,n_,n_,n_,n_,n_,n_,n_,n_,n_,n_,n_,n_,n_,n_,n_,n_,n_,n_,n_,n_,n_,n_,n_]
def impl_ValidRaga.K14 : Array Bool := #[y_,y_,y_,y_,y_,y_,y_,y_,y_,y_,y_,y_,y_,y_,n_,n_,n_,n_,n_,n_,n_,n_,n_,n_,n_,n_,n_,n_,n_,n_,n_,n_,n_,n_,n_,n_,n_,n_,n_,n_,n_]
def impl_ValidRaga.K15 : Array Bool := #[y_,y_,y_,y_,y_,y_,y_,y_,y_,y_,y_,y_,y_,y_,y_,n_,n_,n_,n_,n_,n_,n_,n_,n_,n_,n_,n_,n_,n_,n_,n_,n_,n_,n_,n_,n_,n_,n_,n_,n_,n_]
def impl_ValidRaga.K16 : Array Bool := #[y_,y_,y_,y_,y_,y_,y_,y_,y_,y_,y_,y_,y_,y_,y_,y_,n_,n_,n_,n_,n_,n_,n_,n_,n_,n_,n_,n_,n_,n_,n_,n_,n_,n_,n_,n_,n_,n_,n_,n_,n_]
def impl_ValidRaga.K17 : Array Bool := #[y_,y_,y_,y_,y_,y_,y_,y_,y_,y_,y_,y_,y_,y_,y_,y_,y_,n_,n_,n_,n_,n_,n_,n_,n_,n_,n_,n_,n_,n_,n_,n_,n_,n_,n_,n_,n_,n_,n_,n_,n_]
def impl_ValidRaga.K18 : Array Bool := #[y_,y_,y_,y_,y_,y_,y_,y_,y_,y_,y_,y_,y_,y_,y_,y_,y_,y_,n_,n_,n_,n_,n_,n_,n_,n_,n_,n_,n_,n_,n_,n_,n_,n_,n_,n_,n_,n_,n_,n_,n_]
def impl_ValidRaga.K19 : Array Bool := #[y_,y_,y_,y_,y_,y_,y_,y_,y_,y_,y_,y_,y_,y_,y_,y_,y_,y_,y_,n_,n_,n_,n_,n_,n_,n_,n_,n_,n_,n_,n_,n_,n_,n_,n_,n_,n_,n_,n_,n_,n_]
def impl_ValidRaga.K20 : Array Bool := #[y_,y_,y_,y_,y_,y_,y_,y_,y_,y_,y_,y_,y_,y_,y_,y_,y_,y_,y_,y_,n_,n_,n_,n_,n_,n_,n_,n_,n_,n_,n_,n_,n_,n_,n_,n_,n_,n_,n_,n_,n_]
def impl_ValidRaga.K21 : Array Bool := #[y_,y_,y_,y_,y_,y_,y_,y_,y_,y_,y_,y_,y_,y_,y_,y_,y_,y_,y_,y_,n_,y_,n_,n_,n_,n_,n_,n_,n_,n_,n_,n_,n_,n_,n_,n_,n_,n_,n_,n_,n_]
def impl_ValidRaga.K22 : Array Bool := #[y_,y_,y_,y_,y_,y_,y_,y_,y_,y_,y_,y_,y_,y_,y_,y_,y_,y_,y_,y_,n_,y_,y_,n_,n_,n_,n_,n_,n_,n_,n_,n_,n_,n_,n_,n_,n_,n_,n_,n_,n_]
def impl_ValidRaga.K23 : Array Bool := #[y_,y_,y_,y_,y_,y_,y_,y_,y_,y_,y_,y_,y_,y_,y_,y_,y_,y_,y_,y_,y_,y_,y_,n_,n_,n_,n_,n_,n_,n_,n_,n_,n_,n_,n_,n_,n_,n_,n_,n_,n_]
def impl_ValidRaga.K24 : Array Bool := #[y_,y_,y_,y_,y_,y_,y_,y_,y_,y_,y_,y_,y_,y_,y_,y_,y_,y_,y_,y_,y_,y_,y_,y_,n_,n_,n_,n_,n_,n_,n_,n_,n_,n_,n_,n_,n_,n_,n_,n_,n_]
def impl_ValidRaga.K25 : Array Bool := #[y_,y_,y_,y_,y_,y_,y_,y_,y_,y_,y_,y_,y_,y_,y_,y_,y_,y_,y_,y_,y_,y_,y_,y_,y_,n_,n_,n_,n_,n_,n_,n_,n_,n_,n_,n_,n_,n_,n_,n_,n_]
def impl_ValidRaga.K26 : Array Bool := #[y_,y_,y_,y_,y_,y_,y_,y_,y_,y_,y_,y_,y_,y_,y_,y_,y_,y_,y_,y_,y_,y_,y_,y_,y_,y_,n_,n_,n_,n_,n_,n_,n_,n_,n_,n_,n_,n_,n_,n_,n_]
def impl_ValidRaga.K27 : Array Bool := #[y_,y_,y_,y_,y_,y_,y_,y_,y_,y_,y_,y_,y_,y_,y_,y_,y_,y_,y_,y_,y_,y_,y_,y_,y_,y_,y_,n_,n_,n_,n_,n_,n_,n_,n_,n_,n_,n_,n_,n_,n_]
def impl_ValidRaga.K28 : Array Bool := #[y_,y_,y_,y_,y_,y_,y_,y_,y_,y_,y_,y_,y_,y_,y_,y_,y_,y_,y_,y_,y_,y_,y_,y_,y_,y_,y_,y_,n_,n_,n_,n_,n_,n_,n_,n_,n_,n_,n_,n_,n_]
def impl_ValidRaga.K29 : Array Bool := #[y_,y_,y_,y_,y_,y_,y_,y_,y_,y_,y_,y_,y_,y_,y_,y_,y_,y_,y_,y_,y_,y_,y_,y_,y_,y_,y_,y_,y_,n_,n_,n_,n_,n_,n_,n_,n_,n_,n_,n_,n_]
def impl_ValidRaga.K30 : Array Bool := #[y_,y_,y_,y_,y_,y_,y_,y_,y_,y_,y_,y_,y_,y_,y_,y_,y_,y_,y_,y_,y_,y_,y_,y_,y_,y_,y_,y_,y_,y_,n_,n_,n_,n_,n_,n_,n_,n_,n_,n_,n_]
def impl_ValidRaga.K31 : Array Bool := #[y_,y_,y_,y_,y_,y_,y_,y_,y_,y_,y_,y_,y_,y_,y_,y_,y_,y_,y_,y_,y_,y_,y_,y_,y_,y_,y_,y_,y_,y_,y_,n_,n_,n_,n_,n_,n_,n_,n_,n_,n_]
def impl_ValidRaga.K32 : Array Bool := #[y_,y_,y_,y_,y_,y_,y_,y_,y_,y_,y_,y_,y_,y_,y_,y_,y_,y_,y_,y_,y_,y_,y_,y_,y_,y_,y_,y_,y_,y_,y_,y_,n_,n_,n_,n_,n_,n_,n_,n_,n_]
def impl_ValidRaga.K33 : Array Bool := #[y_,y_,y_,y_,y_,y_,y_,y_,y_,y_,y_,y_,y_,y_,y_,y_,y_,y_,y_,y_,y_,y_,y_,y_,y_,y_,y_,y_,y_,y_,y_,y_,y_,n_,n_,n_,n_,n_,n_,n_,n_]
def impl_ValidRaga.K34 : Array Bool := #[y_,y_,y_,y_,y_,y_,y_,y_,y_,y_,y_,y_,y_,y_,y_,y_,y_,y_,y_,y_,y_,y_,y_,y_,y_,y_,y_,y_,y_,y_,y_,y_,y_,y_,n_,n_,n_,n_,n_,n_,n_]
def impl_ValidRaga.K35 : Array Bool := #[y_,y_,y_,y_,y_,y_,y_,y_,y_,y_,y_,y_,y_,y_,y_,y_,y_,y_,y_,y_,y_,y_,y_,y_,y_,y_,y_,y_,y_,y_,y_,y_,y_,y_,y_,n_,n_,n_,n_,n_,n_]
def impl_ValidRaga.K36 : Array Bool := #[y_,y_,y_,y_,y_,y_,y_,y_,y_,y_,y_,y_,y_,y_,y_,y_,y_,y_,y_,y_,y_,y_,y_,y_,y_,y_,y_,y_,y_,y_,y_,y_,y_,y_,y_,y_,n_,n_,n_,n_,n_]
def impl_ValidRaga.K37 : Array Bool := #[y_,y_,y_,y_,y_,y_,y_,y_,y_,y_,y_,y_,y_,y_,y_,y_,y_,y_,y_,y_,y_,y_,y_,y_,y_,y_,y_,y_,y_,y_,y_,y_,y_,y_,y_,y_,y_,n_,n_,n_,n_]
def impl_ValidRaga.K38 : Array Bool := #[y_,y_,y_,y_,y_,y_,y_,y_,y_,y_,y_,y_,y_,y_,y_,y_,y_,y_,y_,y_,y_,y_,y_,y_,y_,y_,y_,y_,y_,y_,y_,y_,y_,y_,y_,y_,y_,y_,n_,n_,n_]
def impl_ValidRaga.K39 : Array Bool := #[y_,y_,y_,y_,y_,y_,y_,y_,y_,y_,y_,y_,y_,y_,y_,y_,y_,y_,y_,y_,y_,y_,y_,y_,y_,y_,y_,y_,y_,y_,y_,y_,y_,y_,y_,y_,y_,y_,y_,n_,n_]
def impl_ValidRaga.K40 : Array Bool := #[y_,y_,y_,y_,y_,y_,y_,y_,y_,y_,y_,y_,y_,y_,y_,y_,y_,y_,y_,y_,y_,y_,y_,y_,y_,y_,y_,y_,y_,y_,y_,y_,y_,y_,y_,y_,y_,y_,y_,y_,n_]
def impl_ValidRaga.K41 : Array Bool := #[y_,y_,y_,y_,y_,y_,y_,y_,y_,y_,y_,y_,y_,y_,y_,y_,y_,y_,y_,y_,y_,y_,y_,y_,y_,y_,y_,y_,y_,y_,y_,y_,y_,y_,y_,y_,y_,y_,y_,y_,y_]
def impl_ValidRaga.K42 : Array Bool := #[y_,y_,y_,y_,y_,y_,y_,y_,y_,y_,y_,y_,y_,y_,y_,y_,y_,y_,y_,y_,y_,y_,y_,y_,y_,y_,y_,y_,y_,y_,y_,n_,y_,n_,n_,n_,n_,n_,n_,n_,n_]
def impl_ValidRaga.K43 : Array Bool := #[y_,y_,y_,y_,y_,y_,y_,y_,y_,y_,y_,y_,y_,y_,y_,y_,y_,y_,y_,y_,y_,y_,y_,y_,y_,y_,y_,y_,y_,y_,y_,n_,y_,y_,n_,n_,n_,n_,n_,n_,n_]
def impl_ValidRaga.K44 : Array Bool := #[y_,y_,y_,y_,y_,y_,y_,y_,y_,y_,y_,y_,y_,y_,y_,y_,y_,y_,y_,y_,y_,y_,y_,y_,y_,y_,y_,y_,y_,y_,y_,n_,y_,y_,n_,n_,y_,n_,n_,n_,n_]
def impl_ValidRaga.K45 : Array Bool := #[y_,y_,y_,y_,y_,y_,y_,y_,y_,y_,y_,y_,y_,y_,y_,y_,y_,y_,y_,y_,y_,y_,y_,y_,y_,y_,y_,y_,y_,y_,y_,y_,y_,y_,n_,n_,y_,n_,n_,n_,n_]
def impl_ValidRaga.K46 : Array Bool := #[y_,y_,y_,y_,y_,y_,y_,y_,y_,y_,y_,y_,y_,y_,y_,y_,y_,y_,y_,y_,y_,y_,y_,y_,y_,y_,y_,y_,y_,y_,y_,y_,y_,y_,y_,n_,y_,n_,n_,n_,n_]
def impl_ValidRaga.K47 : Array Bool := #[y_,y_,y_,y_,y_,y_,y_,y_,y_,y_,y_,y_,y_,y_,y_,y_,y_,y_,y_,y_,y_,n_,n_,n_,n_,n_,n_,n_,n_,n_,n_,n_,n_,n_,n_,n_,n_,n_,n_,n_,n_]
def impl_ValidRaga.K48 : Array Bool := #[y_,y_,y_,y_,y_,y_,y_,y_,y_,y_,y_,y_,y_,y_,y_,y_,y_,y_,y_,y_,y_,y_,n_,n_,n_,n_,n_,n_,n_,n_,n_,n_,n_,n_,n_,n_,n_,n_,n_,n_,n_]
mutual
def impl_ValidRaga.j0 : Nat → Bool → ByteArray → List Int → List Int → Int → Int → List (List Int) → Option (Bool)
 | 0, _, _, _, _, _, _, _ => none
 | k + 1, x47, x255000, x255001, x255002, x255003, x255004, x255005 => if x47 = true then (some false) else (impl_ValidRaga.l0 k x255005 (x255005.length : Int) 0 x255000 x255001 x255002 x255003 x255004 x255005)
def impl_ValidRaga.l0 : Nat → List (List Int) → Int → Int → ByteArray → List Int → List Int → Int → Int → List (List Int) → Option (Bool)
 | 0, _, _, _, _, _, _, _, _, _ => none
 | k + 1, x49, x50, x51, x255000, x255001, x255002, x255003, x255004, x255005 => if x51 < x50 then (if 0 ≤ x51 then (if x51 < (x49.length : Int) then (if ((rd_L1 x49 x51).length : Int) = 2 then (if 0 < ((rd_L1 x49 x51).length : Int) then ((impl_toneOk.f (rd (rd_L1 x49 x51) 0)).bind fun t262 => (if t262 = true then (if 1 < ((rd_L1 x49 x51).length : Int) then ((impl_toneOk.f (rd (rd_L1 x49 x51) 1)).bind fun t264 => (if t264 = true then (if (rd (rd_L1 x49 x51) 0) = (rd (rd_L1 x49 x51) 1) then (some false) else (if x51 > 0 then (if 0 ≤ (wrap64 (x51 - 1)) then (if (wrap64 (x51 - 1)) < (x255005.length : Int) then ((slices_Compare_int64_int64.f k (rd_L1 x255005 (wrap64 (x51 - 1))) (rd_L1 x49 x51)).bind fun t268 => (if t268 ≥ 0 then (some false) else (impl_ValidRaga.l0 k x49 x50 (wrap64 (x51 + 1)) x255000 x255001 x255002 x255003 x255004 x255005))) else (none)) else (none)) else (impl_ValidRaga.l0 k x49 x50 (wrap64 (x51 + 1)) x255000 x255001 x255002 x255003 x255004 x255005))) else (some false))) else (none)) else (some false))) else (none)) else (some false)) else (none)) else (none)) else (some true)
end
def impl_ValidRaga.f (k : Nat) (a0_0 : ByteArray) (l0_1 : List Int) (l0_2 : List Int) (a0_3 : Int) (a0_4 : Int) (l0_5 : List (List Int)) : Option (Bool) := (impl_IsName.f k a0_0).bind fun t255 => (if t255 = true then ((impl_ValidScale.f k l0_1).bind fun t256 => (if t256 = true then ((impl_ValidScale.f k l0_2).bind fun t257 => (if t257 = true then (if a0_3 = a0_4 then (impl_ValidRaga.j0 k true a0_0 l0_1 l0_2 a0_3 a0_4 l0_5) else ((impl_Raga_hasTone.f k a0_0 l0_1 l0_2 a0_3 a0_4 l0_5 a0_3).bind fun t258 => (if t258 = true then ((impl_Raga_hasTone.f k a0_0 l0_1 l0_2 a0_3 a0_4 l0_5 a0_4).bind fun t259 => (if t259 = true then (impl_ValidRaga.j0 k (decide ((l0_5.length : Int) > 8)) a0_0 l0_1 l0_2 a0_3 a0_4 l0_5) else (impl_ValidRaga.j0 k true a0_0 l0_1 l0_2 a0_3 a0_4 l0_5))) else (impl_ValidRaga.j0 k true a0_0 l0_1 l0_2 a0_3 a0_4 l0_5)))) else (impl_ValidRaga.j0 k true a0_0 l0_1 l0_2 a0_3 a0_4 l0_5))) else (impl_ValidRaga.j0 k true a0_0 l0_1 l0_2 a0_3 a0_4 l0_5))) else (impl_ValidRaga.j0 k true a0_0 l0_1 l0_2 a0_3 a0_4 l0_5))
theorem impl_ValidRaga.mono_l : ∀ k, (∀ y0 y1 y2 y3 y4 y5 y6, LeO (impl_ValidRaga.j0 k y0 y1 y2 y3 y4 y5 y6) (impl_ValidRaga.j0 (k + 1) y0 y1 y2 y3 y4 y5 y6)) ∧ (∀ y0 y1 y2 y3 y4 y5 y6 y7 y8, LeO (impl_ValidRaga.l0 k y0 y1 y2 y3 y4 y5 y6 y7 y8) (impl_ValidRaga.l0 (k + 1) y0 y1 y2 y3 y4 y5 y6 y7 y8))
 | 0 => ⟨fun _ _ _ _ _ _ _ r h => by simp [impl_ValidRaga.j0] at h, fun _ _ _ _ _ _ _ _ _ r h => by simp [impl_ValidRaga.l0] at h⟩
 | k + 1 => by
  obtain ⟨ih0, ih1⟩ := impl_ValidRaga.mono_l k
  refine ⟨?_, ?_⟩
  ·intro y0 y1 y2 y3 y4 y5 y6
   unfold impl_ValidRaga.j0
   repeat' first
   | (with_reducible exact ih0 _ _ _ _ _ _ _)
   | (with_reducible exact ih1 _ _ _ _ _ _ _ _ _)
   | (with_reducible exact impl_IsName.mono _ _)
   | (with_reducible exact impl_Raga_hasTone.mono _ _ _ _ _ _ _ _)
   | (with_reducible exact impl_ValidScale.mono _ _)
   | (with_reducible exact slices_Compare_int64_int64.mono _ _ _)
   | (with_reducible exact LeO.refl _)
   | (with_reducible exact LeO.none _)
   | (with_reducible refine LeO.ite ?_ ?_)
   | (with_reducible refine LeO.bind ?_ (fun _ => ?_))
   | exact ih0 _ _ _ _ _ _ _
   | exact ih1 _ _ _ _ _ _ _ _ _
   | exact impl_IsName.mono _ _
   | exact impl_Raga_hasTone.mono _ _ _ _ _ _ _ _
   | exact impl_ValidScale.mono _ _
   | exact slices_Compare_int64_int64.mono _ _ _
   | exact LeO.none _
   | refine LeO.ite ?_ ?_
   | refine LeO.bind ?_ (fun _ => ?_)
  ·intro y0 y1 y2 y3 y4 y5 y6 y7 y8
   unfold impl_ValidRaga.l0
   repeat' first
   | (with_reducible exact ih0 _ _ _ _ _ _ _)
   | (with_reducible exact ih1 _ _ _ _ _ _ _ _ _)
   | (with_reducible exact impl_IsName.mono _ _)
   | (with_reducible exact impl_Raga_hasTone.mono _ _ _ _ _ _ _ _)
   | (with_reducible exact impl_ValidScale.mono _ _)
   | (with_reducible exact slices_Compare_int64_int64.mono _ _ _)
   | (with_reducible exact LeO.refl _)
   | (with_reducible exact LeO.none _)
   | (with_reducible refine LeO.ite ?_ ?_)
   | (with_reducible refine LeO.bind ?_ (fun _ => ?_))
   | exact ih0 _ _ _ _ _ _ _
   | exact ih1 _ _ _ _ _ _ _ _ _
   | exact impl_IsName.mono _ _
   | exact impl_Raga_hasTone.mono _ _ _ _ _ _ _ _
   | exact impl_ValidScale.mono _ _
   | exact slices_Compare_int64_int64.mono _ _ _
   | exact LeO.none _
   | refine LeO.ite ?_ ?_
   | refine LeO.bind ?_ (fun _ => ?_)
theorem impl_ValidRaga.mono : ∀ a0 a1 a2 a3 a4 a5 k, LeO (impl_ValidRaga.f k a0 a1 a2 a3 a4 a5) (impl_ValidRaga.f (k + 1) a0 a1 a2 a3 a4 a5) := by
 intro a0 a1 a2 a3 a4 a5 k
 obtain ⟨ih0, ih1⟩ := impl_ValidRaga.mono_l k
 unfold impl_ValidRaga.f
 repeat' first
   | (with_reducible exact ih0 _ _ _ _ _ _ _)
   | (with_reducible exact ih1 _ _ _ _ _ _ _ _ _)
   | (with_reducible exact impl_IsName.mono _ _)
   | (with_reducible exact impl_Raga_hasTone.mono _ _ _ _ _ _ _ _)
   | (with_reducible exact impl_ValidScale.mono _ _)
   | (with_reducible exact slices_Compare_int64_int64.mono _ _ _)
   | (with_reducible exact LeO.refl _)
   | (with_reducible exact LeO.none _)
   | (with_reducible refine LeO.ite ?_ ?_)
   | (with_reducible refine LeO.bind ?_ (fun _ => ?_))
   | exact ih0 _ _ _ _ _ _ _
   | exact ih1 _ _ _ _ _ _ _ _ _
   | exact impl_IsName.mono _ _
   | exact impl_Raga_hasTone.mono _ _ _ _ _ _ _ _
   | exact impl_ValidScale.mono _ _
   | exact slices_Compare_int64_int64.mono _ _ _
   | exact LeO.none _
   | refine LeO.ite ?_ ?_
   | refine LeO.bind ?_ (fun _ => ?_)
def impl_ValidRaga.T6 : Bool × List (List Nat × List Nat) := (true, [([], []), ([0], [0]), ([1], [1]), ([2], [2]), ([3], [3]), ([4, 3], [3, 4]), ([5, 3], [3, 5]), ([6, 3, 3], [3, 6]), ([7, 3], [3, 7]), ([3, 8], [3, 8]), ([9, 7], [9]), ([10], [10]), ([11, 10], [10, 11]), ([12, 10], [10, 12]), ([13, 10, 10], [10, 13]), ([14, 10], [10, 14]), ([10, 15], [10, 15]), ([16, 14], [16]), ([17], [17]), ([18, 17], [17, 18]), ([19, 17], [17, 19]), ([17], [17]), ([21, 17], [17, 21]), ([22, 17], [17, 22]), ([20, 23, 17], [17, 20, 23]), ([17, 24], [17, 24]), ([25, 17], [25]), ([26], [26]), ([27, 26], [26, 27]), ([28, 26, 26], [26, 28]), ([29], [29]), ([30, 29], [29, 30]), ([29], [29]), ([32, 29], [29, 32]), ([31, 33, 29], [29, 31, 33]), ([34, 29], [29, 34]), ([29], [29]), ([35, 36, 29, 29], [29, 35, 36]), ([37, 29], [29, 37]), ([29, 38, 26], [26, 29, 38]), ([26, 39], [26, 39])])
def impl_ValidRaga.B6 : List Nat := [0, 1, 3, 7, 15, 31, 63, 127, 255, 511, 1023, 2047, 4095, 8191, 16383, 32767, 65535, 131071, 262143, 524287, 1048575, 262143, 2359295, 6553599, 16777215, 33554431, 67108863, 134217727, 268435455, 536870911, 1073741823, 2147483647, 1073741823, 5368709119, 17179869183, 34359738367, 1073741823, 137438953471, 274877906943, 549755813887, 1099511627775]
theorem impl_ValidRaga.tab6 : rtab .any (opsOf Try.f62 6) = impl_ValidRaga.T6 := by kernel_rfl
theorem impl_ValidRaga.bits6 : waitsOk impl_ValidRaga.T6.2 impl_ValidRaga.B6 = true := by kernel_rfl
set_option maxHeartbeats 8000000 in
set_option maxRecDepth 100000 in
theorem impl_ValidRaga.calls (k : Nat) (a0_0 : ByteArray) (A0_1 : Option Addr) (c0_1 : Nat) (l0_1 : List Int) (A0_2 : Option Addr) (c0_2 : Nat) (l0_2 : List Int) (a0_3 : Int) (a0_4 : Int) (A0_5 : Option Addr) (c0_5 : Nat) (l0_5 : List (List Int)) (r : Bool) (w : World) (hr0_1 : Kd.C (Kd.int .i64) w A0_1 l0_1.length l0_1) (hc0_1 : l0_1.length ≤ c0_1) (hr0_2 : Kd.C (Kd.int .i64) w A0_2 l0_2.length l0_2) (hc0_2 : l0_2.length ≤ c0_2) (hr0_5 : Kd.C (Kd.slice 2 (Kd.int .i64)) w A0_5 l0_5.length l0_5) (hc0_5 : l0_5.length ≤ c0_5) (h : impl_ValidRaga.f k a0_0 l0_1 l0_2 a0_3 a0_4 l0_5 = some r) :
  Calls Try.prog 62 #[.agg #[.string a0_0, .slice A0_1 l0_1.length c0_1, .slice A0_2 l0_2.length c0_2, .int .i64 a0_3, .int .i64 a0_4, .slice A0_5 l0_5.length c0_5]] w fun e w' => e = .returned (.bool r) ∧ Below w.heap.size w w' := by
 have hu29 := Try.underlying29
 have HR0_1 := Aside0.mk hr0_1
 have HC0_1 := Aside0.mk hc0_1
 clear hr0_1 hc0_1
 have HR0_2 := Aside0.mk hr0_2
 have HC0_2 := Aside0.mk hc0_2
 clear hr0_2 hc0_2
 have HR0_5 := Aside0.mk hr0_5
 have HC0_5 := Aside0.mk hc0_5
 clear hr0_5 hc0_5
 have HB := Aside0.mk (Below.refl w.heap.size w)
 have H : ((impl_IsName.f k a0_0).bind fun t255 => (if t255 = true then ((impl_ValidScale.f k l0_1).bind fun t256 => (if t256 = true then ((impl_ValidScale.f k l0_2).bind fun t257 => (if t257 = true then (if a0_3 = a0_4 then (impl_ValidRaga.j0 k true a0_0 l0_1 l0_2 a0_3 a0_4 l0_5) else ((impl_Raga_hasTone.f k a0_0 l0_1 l0_2 a0_3 a0_4 l0_5 a0_3).bind fun t258 => (if t258 = true then ((impl_Raga_hasTone.f k a0_0 l0_1 l0_2 a0_3 a0_4 l0_5 a0_4).bind fun t259 => (if t259 = true then (impl_ValidRaga.j0 k (decide ((l0_5.length : Int) > 8)) a0_0 l0_1 l0_2 a0_3 a0_4 l0_5) else (impl_ValidRaga.j0 k true a0_0 l0_1 l0_2 a0_3 a0_4 l0_5))) else (impl_ValidRaga.j0 k true a0_0 l0_1 l0_2 a0_3 a0_4 l0_5)))) else (impl_ValidRaga.j0 k true a0_0 l0_1 l0_2 a0_3 a0_4 l0_5))) else (impl_ValidRaga.j0 k true a0_0 l0_1 l0_2 a0_3 a0_4 l0_5))) else (impl_ValidRaga.j0 k true a0_0 l0_1 l0_2 a0_3 a0_4 l0_5))) = some r := h
 clear h
 have HC2 := Aside0.mk H
 clear H
 go_enter Try.func62, Try.ntmps62
 go_upto_region 1 with (first | ((with_reducible refine gate_dst (N := 1) rfl ?_); (try (refine gate_guard (by rfl) ?_; dsimp only)); refine box_event ?hg (N := 1) ?hd (cs := #[.string a0_0, .slice A0_1 l0_1.length c0_1, .slice A0_2 l0_2.length c0_2, .int .i64 a0_3, .int .i64 a0_4, .slice A0_5 l0_5.length c0_5]) (t := 29) ?hr ?_; (case hd => rfl); (case hg => rfl); (case hr => first | (go_simp; done) | (go_simp; rfl)); intro gb254 hg w3 hbox hb; have n0_ := Aside0.mk (below_step (ba_ HB.out) hb); have n1_ := Aside0.mk (hbox); have n2_ := Aside0.mk ((by rw [hg]; exact (below_size (ba_ HB.out)) : w.heap.size ≤ gb254)); have n3_ := Aside0.mk ((by rw [hg]; exact (below_size (ba_ HB.out)) : w.heap.size ≤ gb254)); clear HB; have HB := n0_; have BK254 := n1_; have GW254 := n2_; have GE254 := n3_; clear n0_ n1_ n2_ n3_; clear hb hbox hg))
 (try simp only [Act.put, List.setIfInBounds_toArray, List.set_cons_zero, List.set_cons_succ])
 go_cut [47] (fun v47 wc => ∃ (kq : Nat) (x47_1 : Bool), v47 = .bool x47_1 ∧ Aside0 (impl_ValidRaga.j0 kq x47_1 a0_0 l0_1 l0_2 a0_3 a0_4 l0_5 = some r) ∧ Aside0 (kq ≤ k) ∧ Aside0 (wc.heap[gb254]? = some (.cells #[.string a0_0, (.slice A0_1 l0_1.length c0_1), (.slice A0_2 l0_2.length c0_2), .int .i64 a0_3, .int .i64 a0_4, (.slice A0_5 l0_5.length c0_5)] 29 (0, 0))) ∧ Aside0 (Below w.heap.size w wc))
 case first =>
  have H := HC2.out
  clear HC2
  replace H := Option.bind_eq_some_iff.mp H
  obtain ⟨t255, A40, H⟩ := H
  replace H : (if t255 = true then ((impl_ValidScale.f k l0_1).bind fun t256 => (if t256 = true then ((impl_ValidScale.f k l0_2).bind fun t257 => (if t257 = true then (if a0_3 = a0_4 then (impl_ValidRaga.j0 k true a0_0 l0_1 l0_2 a0_3 a0_4 l0_5) else ((impl_Raga_hasTone.f k a0_0 l0_1 l0_2 a0_3 a0_4 l0_5 a0_3).bind fun t258 => (if t258 = true then ((impl_Raga_hasTone.f k a0_0 l0_1 l0_2 a0_3 a0_4 l0_5 a0_4).bind fun t259 => (if t259 = true then (impl_ValidRaga.j0 k (decide ((l0_5.length : Int) > 8)) a0_0 l0_1 l0_2 a0_3 a0_4 l0_5) else (impl_ValidRaga.j0 k true a0_0 l0_1 l0_2 a0_3 a0_4 l0_5))) else (impl_ValidRaga.j0 k true a0_0 l0_1 l0_2 a0_3 a0_4 l0_5)))) else (impl_ValidRaga.j0 k true a0_0 l0_1 l0_2 a0_3 a0_4 l0_5))) else (impl_ValidRaga.j0 k true a0_0 l0_1 l0_2 a0_3 a0_4 l0_5))) else (impl_ValidRaga.j0 k true a0_0 l0_1 l0_2 a0_3 a0_4 l0_5)) = some r := H
  have A4 := Aside0.mk A40
  clear A40
  by_cases c5 : t255 = true
  ·subst c5
   have H1 : ((impl_ValidScale.f k l0_1).bind fun t256 => (if t256 = true then ((impl_ValidScale.f k l0_2).bind fun t257 => (if t257 = true then (if a0_3 = a0_4 then (impl_ValidRaga.j0 k true a0_0 l0_1 l0_2 a0_3 a0_4 l0_5) else ((impl_Raga_hasTone.f k a0_0 l0_1 l0_2 a0_3 a0_4 l0_5 a0_3).bind fun t258 => (if t258 = true then ((impl_Raga_hasTone.f k a0_0 l0_1 l0_2 a0_3 a0_4 l0_5 a0_4).bind fun t259 => (if t259 = true then (impl_ValidRaga.j0 k (decide ((l0_5.length : Int) > 8)) a0_0 l0_1 l0_2 a0_3 a0_4 l0_5) else (impl_ValidRaga.j0 k true a0_0 l0_1 l0_2 a0_3 a0_4 l0_5))) else (impl_ValidRaga.j0 k true a0_0 l0_1 l0_2 a0_3 a0_4 l0_5)))) else (impl_ValidRaga.j0 k true a0_0 l0_1 l0_2 a0_3 a0_4 l0_5))) else (impl_ValidRaga.j0 k true a0_0 l0_1 l0_2 a0_3 a0_4 l0_5))) = some r := by rw [if_pos rfl] at H; exact H
   clear H
   have H := H1
   clear H1
   replace H := Option.bind_eq_some_iff.mp H
   obtain ⟨t256, A60, H⟩ := H
   replace H : (if t256 = true then ((impl_ValidScale.f k l0_2).bind fun t257 => (if t257 = true then (if a0_3 = a0_4 then (impl_ValidRaga.j0 k true a0_0 l0_1 l0_2 a0_3 a0_4 l0_5) else ((impl_Raga_hasTone.f k a0_0 l0_1 l0_2 a0_3 a0_4 l0_5 a0_3).bind fun t258 => (if t258 = true then ((impl_Raga_hasTone.f k a0_0 l0_1 l0_2 a0_3 a0_4 l0_5 a0_4).bind fun t259 => (if t259 = true then (impl_ValidRaga.j0 k (decide ((l0_5.length : Int) > 8)) a0_0 l0_1 l0_2 a0_3 a0_4 l0_5) else (impl_ValidRaga.j0 k true a0_0 l0_1 l0_2 a0_3 a0_4 l0_5))) else (impl_ValidRaga.j0 k true a0_0 l0_1 l0_2 a0_3 a0_4 l0_5)))) else (impl_ValidRaga.j0 k true a0_0 l0_1 l0_2 a0_3 a0_4 l0_5))) else (impl_ValidRaga.j0 k true a0_0 l0_1 l0_2 a0_3 a0_4 l0_5)) = some r := H
   have A6 := Aside0.mk A60
   clear A60
   by_cases c7 : t256 = true
   ·subst c7
    have H1 : ((impl_ValidScale.f k l0_2).bind fun t257 => (if t257 = true then (if a0_3 = a0_4 then (impl_ValidRaga.j0 k true a0_0 l0_1 l0_2 a0_3 a0_4 l0_5) else ((impl_Raga_hasTone.f k a0_0 l0_1 l0_2 a0_3 a0_4 l0_5 a0_3).bind fun t258 => (if t258 = true then ((impl_Raga_hasTone.f k a0_0 l0_1 l0_2 a0_3 a0_4 l0_5 a0_4).bind fun t259 => (if t259 = true then (impl_ValidRaga.j0 k (decide ((l0_5.length : Int) > 8)) a0_0 l0_1 l0_2 a0_3 a0_4 l0_5) else (impl_ValidRaga.j0 k true a0_0 l0_1 l0_2 a0_3 a0_4 l0_5))) else (impl_ValidRaga.j0 k true a0_0 l0_1 l0_2 a0_3 a0_4 l0_5)))) else (impl_ValidRaga.j0 k true a0_0 l0_1 l0_2 a0_3 a0_4 l0_5))) = some r := by rw [if_pos rfl] at H; exact H
    clear H; have H := H1; clear H1
    replace H := Option.bind_eq_some_iff.mp H
    obtain ⟨t257, A80, H⟩ := H
    replace H : (if t257 = true then (if a0_3 = a0_4 then (impl_ValidRaga.j0 k true a0_0 l0_1 l0_2 a0_3 a0_4 l0_5) else ((impl_Raga_hasTone.f k a0_0 l0_1 l0_2 a0_3 a0_4 l0_5 a0_3).bind fun t258 => (if t258 = true then ((impl_Raga_hasTone.f k a0_0 l0_1 l0_2 a0_3 a0_4 l0_5 a0_4).bind fun t259 => (if t259 = true then (impl_ValidRaga.j0 k (decide ((l0_5.length : Int) > 8)) a0_0 l0_1 l0_2 a0_3 a0_4 l0_5) else (impl_ValidRaga.j0 k true a0_0 l0_1 l0_2 a0_3 a0_4 l0_5))) else (impl_ValidRaga.j0 k true a0_0 l0_1 l0_2 a0_3 a0_4 l0_5)))) else (impl_ValidRaga.j0 k true a0_0 l0_1 l0_2 a0_3 a0_4 l0_5)) = some r := H
    have A8 := Aside0.mk A80; clear A80
    by_cases c9 : t257 = true
    ·subst c9
     have H1 : (if a0_3 = a0_4 then (impl_ValidRaga.j0 k true a0_0 l0_1 l0_2 a0_3 a0_4 l0_5) else ((impl_Raga_hasTone.f k a0_0 l0_1 l0_2 a0_3 a0_4 l0_5 a0_3).bind fun t258 => (if t258 = true then ((impl_Raga_hasTone.f k a0_0 l0_1 l0_2 a0_3 a0_4 l0_5 a0_4).bind fun t259 => (if t259 = true then (impl_ValidRaga.j0 k (decide ((l0_5.length : Int) > 8)) a0_0 l0_1 l0_2 a0_3 a0_4 l0_5) else (impl_ValidRaga.j0 k true a0_0 l0_1 l0_2 a0_3 a0_4 l0_5))) else (impl_ValidRaga.j0 k true a0_0 l0_1 l0_2 a0_3 a0_4 l0_5)))) = some r := by rw [if_pos rfl] at H; exact H
     clear H; have H := H1; clear H1
     by_cases c10 : a0_3 = a0_4
     ·rw [if_pos c10] at H
      have c10b0 : (a0_3 == a0_4) = true := beq_iff_eq.mpr c10
      have c10b1 : (a0_3 != a0_4) = false := bne_eq_false_iff_eq.mpr c10
      clear c10
      (first | rw [c10b0] | (simp only [i64_w, i32_w]; rw [c10b0]) | skip)
      have H' := Aside0.mk H
      clear H
      have hcz11_0 : w3.cell? ⟨gb254, 0, none⟩ = some (.string a0_0) := (blk_cell BK254.out 0).trans rfl
      have hcz11_1 : w3.cell? ⟨gb254, 1, none⟩ = some (.slice A0_1 l0_1.length c0_1) := (blk_cell BK254.out 1).trans rfl
      have hcz11_2 : w3.cell? ⟨gb254, 2, none⟩ = some (.slice A0_2 l0_2.length c0_2) := (blk_cell BK254.out 2).trans rfl
      have hcz11_3 : w3.cell? ⟨gb254, 3, none⟩ = some (.int .i64 a0_3) := (blk_cell BK254.out 3).trans rfl
      have hcz11_4 : w3.cell? ⟨gb254, 4, none⟩ = some (.int .i64 a0_4) := (blk_cell BK254.out 4).trans rfl
      have hcz11_5 : w3.cell? ⟨gb254, 5, none⟩ = some (.slice A0_5 l0_5.length c0_5) := (blk_cell BK254.out 5).trans rfl
      have hfz11_0 := blk_frozen BK254.out 0; have hfz11_1 := blk_frozen BK254.out 1; have hfz11_2 := blk_frozen BK254.out 2; have hfz11_3 := blk_frozen BK254.out 3; have hfz11_4 := blk_frozen BK254.out 4; have hfz11_5 := blk_frozen BK254.out 5
      go_wp2_with (first | ((with_reducible refine gate_callee (f := 113) rfl ?_); refine goesL_ (some 7) rfl rfl Try.func113 (by kernel_rfl) rfl #[.string a0_0] rfl av_ ?_; (with_reducible refine (impl_IsName.calls k a0_0 true _ A4.out).mono ?_); rintro e w' ⟨rfl, ⟨nd, rfl⟩⟩; refine ⟨_, rfl, ?_⟩) | (go_at_call 114; (with_reducible refine (impl_ValidScale.calls k _ _ l0_1 true _ ?side1 ?side2 A6.out).mono ?_); (case side1 => repeat (first | exact (Kd.C_below HR0_1.out (bg_ HB.out GE254.out)) | (with_reducible refine Kd.C_alloc ?_ _) | (with_reducible refine Kd.C_drewN ?_ _) | (with_reducible refine Kd.C_drew ?_))); (case side2 => exact HC0_1.out); rintro e w' ⟨rfl, ⟨nd, rfl⟩⟩) | (go_at_call 114; (with_reducible refine (impl_ValidScale.calls k _ _ l0_2 true _ ?side1 ?side2 A8.out).mono ?_); (case side1 => repeat (first | exact (Kd.C_below HR0_2.out (bg_ HB.out GE254.out)) | (with_reducible refine Kd.C_alloc ?_ _) | (with_reducible refine Kd.C_drewN ?_ _) | (with_reducible refine Kd.C_drew ?_))); (case side2 => exact HC0_2.out); rintro e w' ⟨rfl, ⟨nd, rfl⟩⟩))
      go_meet
      case rel => exact ⟨_, (true), sv_, H', ⟨by first | omega | exact Nat.le_refl _⟩, ⟨by (with_reducible repeat (first | refine blk_drewN ?_ _ | refine blk_drew ?_ | refine blk_alloc ?_ _)); exact BK254.out⟩, ⟨bg_ HB.out GE254.out⟩⟩
     ·rw [if_neg c10] at H
      have c10b0 : (a0_3 == a0_4) = false := beq_eq_false_iff_ne.mpr c10
      have c10b1 : (a0_3 != a0_4) = true := bne_iff_ne.mpr c10
      (first | rw [c10b0] | (simp only [i64_w, i32_w]; rw [c10b0]) | skip)
      replace H := Option.bind_eq_some_iff.mp H
      obtain ⟨t258, A120, H⟩ := H
      replace H : (if t258 = true then ((impl_Raga_hasTone.f k a0_0 l0_1 l0_2 a0_3 a0_4 l0_5 a0_4).bind fun t259 => (if t259 = true then (impl_ValidRaga.j0 k (decide ((l0_5.length : Int) > 8)) a0_0 l0_1 l0_2 a0_3 a0_4 l0_5) else (impl_ValidRaga.j0 k true a0_0 l0_1 l0_2 a0_3 a0_4 l0_5))) else (impl_ValidRaga.j0 k true a0_0 l0_1 l0_2 a0_3 a0_4 l0_5)) = some r := H
      have A12 := Aside0.mk A120; clear A120
      by_cases c13 : t258 = true
      ·subst c13
       have H1 : ((impl_Raga_hasTone.f k a0_0 l0_1 l0_2 a0_3 a0_4 l0_5 a0_4).bind fun t259 => (if t259 = true then (impl_ValidRaga.j0 k (decide ((l0_5.length : Int) > 8)) a0_0 l0_1 l0_2 a0_3 a0_4 l0_5) else (impl_ValidRaga.j0 k true a0_0 l0_1 l0_2 a0_3 a0_4 l0_5))) = some r := by rw [if_pos rfl] at H; exact H
       clear H; have H := H1; clear H1
       replace H := Option.bind_eq_some_iff.mp H
       obtain ⟨t259, A140, H⟩ := H
       replace H : (if t259 = true then (impl_ValidRaga.j0 k (decide ((l0_5.length : Int) > 8)) a0_0 l0_1 l0_2 a0_3 a0_4 l0_5) else (impl_ValidRaga.j0 k true a0_0 l0_1 l0_2 a0_3 a0_4 l0_5)) = some r := H
       have A14 := Aside0.mk A140; clear A140
       by_cases c15 : t259 = true
       ·subst c15
        have H1 : (impl_ValidRaga.j0 k (decide ((l0_5.length : Int) > 8)) a0_0 l0_1 l0_2 a0_3 a0_4 l0_5) = some r := by rw [if_pos rfl] at H; exact H
        clear H; have H := H1; clear H1
        have H' := Aside0.mk H
        clear H
        have hcz16_0 : w3.cell? ⟨gb254, 0, none⟩ = some (.string a0_0) := (blk_cell BK254.out 0).trans rfl
        have hcz16_1 : w3.cell? ⟨gb254, 1, none⟩ = some (.slice A0_1 l0_1.length c0_1) := (blk_cell BK254.out 1).trans rfl
        have hcz16_2 : w3.cell? ⟨gb254, 2, none⟩ = some (.slice A0_2 l0_2.length c0_2) := (blk_cell BK254.out 2).trans rfl
        have hcz16_3 : w3.cell? ⟨gb254, 3, none⟩ = some (.int .i64 a0_3) := (blk_cell BK254.out 3).trans rfl
        have hcz16_4 : w3.cell? ⟨gb254, 4, none⟩ = some (.int .i64 a0_4) := (blk_cell BK254.out 4).trans rfl
        have hcz16_5 : w3.cell? ⟨gb254, 5, none⟩ = some (.slice A0_5 l0_5.length c0_5) := (blk_cell BK254.out 5).trans rfl
        have hfz16_0 := blk_frozen BK254.out 0; have hfz16_1 := blk_frozen BK254.out 1; have hfz16_2 := blk_frozen BK254.out 2; have hfz16_3 := blk_frozen BK254.out 3; have hfz16_4 := blk_frozen BK254.out 4; have hfz16_5 := blk_frozen BK254.out 5
        go_wp2_with (first | ((with_reducible refine gate_callee (f := 113) rfl ?_); refine goesL_ (some 7) rfl rfl Try.func113 (by kernel_rfl) rfl #[.string a0_0] rfl av_ ?_; (with_reducible refine (impl_IsName.calls k a0_0 true _ A4.out).mono ?_); rintro e w' ⟨rfl, ⟨nd, rfl⟩⟩; refine ⟨_, rfl, ?_⟩) | (go_at_call 114; (with_reducible refine (impl_ValidScale.calls k _ _ l0_1 true _ ?side1 ?side2 A6.out).mono ?_); (case side1 => repeat (first | exact (Kd.C_below HR0_1.out (bg_ HB.out GE254.out)) | (with_reducible refine Kd.C_alloc ?_ _) | (with_reducible refine Kd.C_drewN ?_ _) | (with_reducible refine Kd.C_drew ?_))); (case side2 => exact HC0_1.out); rintro e w' ⟨rfl, ⟨nd, rfl⟩⟩) | (go_at_call 114; (with_reducible refine (impl_ValidScale.calls k _ _ l0_2 true _ ?side1 ?side2 A8.out).mono ?_); (case side1 => repeat (first | exact (Kd.C_below HR0_2.out (bg_ HB.out GE254.out)) | (with_reducible refine Kd.C_alloc ?_ _) | (with_reducible refine Kd.C_drewN ?_ _) | (with_reducible refine Kd.C_drew ?_))); (case side2 => exact HC0_2.out); rintro e w' ⟨rfl, ⟨nd, rfl⟩⟩) | (go_at_call 69; (with_reducible refine (impl_Raga_hasTone.calls k a0_0 _ _ l0_1 _ _ l0_2 a0_3 a0_4 _ _ l0_5 a0_3 true _ ?side1 ?side2 ?side3 ?side4 ?side5 ?side6 A12.out).mono ?_); (case side1 => repeat (first | exact (Kd.C_below HR0_1.out (bg_ HB.out GE254.out)) | (with_reducible refine Kd.C_alloc ?_ _) | (with_reducible refine Kd.C_drewN ?_ _) | (with_reducible refine Kd.C_drew ?_))); (case side2 => exact HC0_1.out); (case side3 => repeat (first | exact (Kd.C_below HR0_2.out (bg_ HB.out GE254.out)) | (with_reducible refine Kd.C_alloc ?_ _) | (with_reducible refine Kd.C_drewN ?_ _) | (with_reducible refine Kd.C_drew ?_))); (case side4 => exact HC0_2.out); (case side5 => repeat (first | exact (Kd.C_below HR0_5.out (bg_ HB.out GE254.out)) | (with_reducible refine Kd.C_alloc ?_ _) | (with_reducible refine Kd.C_drewN ?_ _) | (with_reducible refine Kd.C_drew ?_))); (case side6 => exact HC0_5.out); rintro e w17 ⟨rfl, hb⟩; have n0_ := Aside0.mk (blk_below (g := gb254) (o := .cells #[.string a0_0, .slice A0_1 l0_1.length c0_1, .slice A0_2 l0_2.length c0_2, .int .i64 a0_3, .int .i64 a0_4, .slice A0_5 l0_5.length c0_5] 29 (0, 0)) (by repeat first | exact BK254.out | refine blk_drewN ?_ _ | refine blk_drew ?_ | refine blk_alloc ?_ _) hb); have n1_ := Aside0.mk (below_step (bg_ HB.out GE254.out) hb); clear BK254; clear HB; have BK254 := n0_; have HB := n1_; clear n0_ n1_; (try clear hb); (try clear hb2); (try clear hk); (try clear hi); have hcz18_0 : w17.cell? ⟨gb254, 0, none⟩ = some (.string a0_0) := (blk_cell BK254.out 0).trans rfl; have hcz18_1 : w17.cell? ⟨gb254, 1, none⟩ = some (.slice A0_1 l0_1.length c0_1) := (blk_cell BK254.out 1).trans rfl; have hcz18_2 : w17.cell? ⟨gb254, 2, none⟩ = some (.slice A0_2 l0_2.length c0_2) := (blk_cell BK254.out 2).trans rfl; have hcz18_3 : w17.cell? ⟨gb254, 3, none⟩ = some (.int .i64 a0_3) := (blk_cell BK254.out 3).trans rfl; have hcz18_4 : w17.cell? ⟨gb254, 4, none⟩ = some (.int .i64 a0_4) := (blk_cell BK254.out 4).trans rfl; have hcz18_5 : w17.cell? ⟨gb254, 5, none⟩ = some (.slice A0_5 l0_5.length c0_5) := (blk_cell BK254.out 5).trans rfl; have hfz18_0 := blk_frozen BK254.out 0; have hfz18_1 := blk_frozen BK254.out 1; have hfz18_2 := blk_frozen BK254.out 2; have hfz18_3 := blk_frozen BK254.out 3; have hfz18_4 := blk_frozen BK254.out 4; have hfz18_5 := blk_frozen BK254.out 5) | (go_at_call 69; (with_reducible refine (impl_Raga_hasTone.calls k a0_0 _ _ l0_1 _ _ l0_2 a0_3 a0_4 _ _ l0_5 a0_4 true _ ?side1 ?side2 ?side3 ?side4 ?side5 ?side6 A14.out).mono ?_); (case side1 => exact (Kd.C_below HR0_1.out HB.out)); (case side2 => exact HC0_1.out); (case side3 => exact (Kd.C_below HR0_2.out HB.out)); (case side4 => exact HC0_2.out); (case side5 => exact (Kd.C_below HR0_5.out HB.out)); (case side6 => exact HC0_5.out); rintro e w19 ⟨rfl, hb⟩; have n0_ := Aside0.mk (blk_below (g := gb254) (o := .cells #[.string a0_0, .slice A0_1 l0_1.length c0_1, .slice A0_2 l0_2.length c0_2, .int .i64 a0_3, .int .i64 a0_4, .slice A0_5 l0_5.length c0_5] 29 (0, 0)) (by repeat first | exact BK254.out | refine blk_drewN ?_ _ | refine blk_drew ?_ | refine blk_alloc ?_ _) hb); have n1_ := Aside0.mk (below_step (bg_ HB.out GE254.out) hb); clear BK254; clear HB; have BK254 := n0_; have HB := n1_; clear n0_ n1_; (try clear hb); (try clear hb2); (try clear hk); (try clear hi); have hcz20_0 : w19.cell? ⟨gb254, 0, none⟩ = some (.string a0_0) := (blk_cell BK254.out 0).trans rfl; have hcz20_1 : w19.cell? ⟨gb254, 1, none⟩ = some (.slice A0_1 l0_1.length c0_1) := (blk_cell BK254.out 1).trans rfl; have hcz20_2 : w19.cell? ⟨gb254, 2, none⟩ = some (.slice A0_2 l0_2.length c0_2) := (blk_cell BK254.out 2).trans rfl; have hcz20_3 : w19.cell? ⟨gb254, 3, none⟩ = some (.int .i64 a0_3) := (blk_cell BK254.out 3).trans rfl; have hcz20_4 : w19.cell? ⟨gb254, 4, none⟩ = some (.int .i64 a0_4) := (blk_cell BK254.out 4).trans rfl; have hcz20_5 : w19.cell? ⟨gb254, 5, none⟩ = some (.slice A0_5 l0_5.length c0_5) := (blk_cell BK254.out 5).trans rfl; have hfz20_0 := blk_frozen BK254.out 0; have hfz20_1 := blk_frozen BK254.out 1; have hfz20_2 := blk_frozen BK254.out 2; have hfz20_3 := blk_frozen BK254.out 3; have hfz20_4 := blk_frozen BK254.out 4; have hfz20_5 := blk_frozen BK254.out 5))
        go_meet
        case rel => exact ⟨_, (decide ((l0_5.length : Int) > 8)), sv_, H', ⟨by first | omega | exact Nat.le_refl _⟩, ⟨by (with_reducible repeat (first | refine blk_drewN ?_ _ | refine blk_drew ?_ | refine blk_alloc ?_ _)); exact BK254.out⟩, ⟨bg_ HB.out GE254.out⟩⟩
       ·replace c15 := Bool.eq_false_iff.mpr c15
        subst c15
        have H1 : (impl_ValidRaga.j0 k true a0_0 l0_1 l0_2 a0_3 a0_4 l0_5) = some r := by rw [if_neg (show ¬ (false = true) by decide)] at H; exact H
        clear H; have H := H1; clear H1
        have H' := Aside0.mk H
        clear H
        have hcz21_0 : w3.cell? ⟨gb254, 0, none⟩ = some (.string a0_0) := (blk_cell BK254.out 0).trans rfl
        have hcz21_1 : w3.cell? ⟨gb254, 1, none⟩ = some (.slice A0_1 l0_1.length c0_1) := (blk_cell BK254.out 1).trans rfl
        have hcz21_2 : w3.cell? ⟨gb254, 2, none⟩ = some (.slice A0_2 l0_2.length c0_2) := (blk_cell BK254.out 2).trans rfl
        have hcz21_3 : w3.cell? ⟨gb254, 3, none⟩ = some (.int .i64 a0_3) := (blk_cell BK254.out 3).trans rfl
        have hcz21_4 : w3.cell? ⟨gb254, 4, none⟩ = some (.int .i64 a0_4) := (blk_cell BK254.out 4).trans rfl
        have hcz21_5 : w3.cell? ⟨gb254, 5, none⟩ = some (.slice A0_5 l0_5.length c0_5) := (blk_cell BK254.out 5).trans rfl
        have hfz21_0 := blk_frozen BK254.out 0; have hfz21_1 := blk_frozen BK254.out 1; have hfz21_2 := blk_frozen BK254.out 2; have hfz21_3 := blk_frozen BK254.out 3; have hfz21_4 := blk_frozen BK254.out 4; have hfz21_5 := blk_frozen BK254.out 5
        go_wp2_with (first | ((with_reducible refine gate_callee (f := 113) rfl ?_); refine goesL_ (some 7) rfl rfl Try.func113 (by kernel_rfl) rfl #[.string a0_0] rfl av_ ?_; (with_reducible refine (impl_IsName.calls k a0_0 true _ A4.out).mono ?_); rintro e w' ⟨rfl, ⟨nd, rfl⟩⟩; refine ⟨_, rfl, ?_⟩) | (go_at_call 114; (with_reducible refine (impl_ValidScale.calls k _ _ l0_1 true _ ?side1 ?side2 A6.out).mono ?_); (case side1 => repeat (first | exact (Kd.C_below HR0_1.out (bg_ HB.out GE254.out)) | (with_reducible refine Kd.C_alloc ?_ _) | (with_reducible refine Kd.C_drewN ?_ _) | (with_reducible refine Kd.C_drew ?_))); (case side2 => exact HC0_1.out); rintro e w' ⟨rfl, ⟨nd, rfl⟩⟩) | (go_at_call 114; (with_reducible refine (impl_ValidScale.calls k _ _ l0_2 true _ ?side1 ?side2 A8.out).mono ?_); (case side1 => repeat (first | exact (Kd.C_below HR0_2.out (bg_ HB.out GE254.out)) | (with_reducible refine Kd.C_alloc ?_ _) | (with_reducible refine Kd.C_drewN ?_ _) | (with_reducible refine Kd.C_drew ?_))); (case side2 => exact HC0_2.out); rintro e w' ⟨rfl, ⟨nd, rfl⟩⟩) | (go_at_call 69; (with_reducible refine (impl_Raga_hasTone.calls k a0_0 _ _ l0_1 _ _ l0_2 a0_3 a0_4 _ _ l0_5 a0_3 true _ ?side1 ?side2 ?side3 ?side4 ?side5 ?side6 A12.out).mono ?_); (case side1 => repeat (first | exact (Kd.C_below HR0_1.out (bg_ HB.out GE254.out)) | (with_reducible refine Kd.C_alloc ?_ _) | (with_reducible refine Kd.C_drewN ?_ _) | (with_reducible refine Kd.C_drew ?_))); (case side2 => exact HC0_1.out); (case side3 => repeat (first | exact (Kd.C_below HR0_2.out (bg_ HB.out GE254.out)) | (with_reducible refine Kd.C_alloc ?_ _) | (with_reducible refine Kd.C_drewN ?_ _) | (with_reducible refine Kd.C_drew ?_))); (case side4 => exact HC0_2.out); (case side5 => repeat (first | exact (Kd.C_below HR0_5.out (bg_ HB.out GE254.out)) | (with_reducible refine Kd.C_alloc ?_ _) | (with_reducible refine Kd.C_drewN ?_ _) | (with_reducible refine Kd.C_drew ?_))); (case side6 => exact HC0_5.out); rintro e w22 ⟨rfl, hb⟩; have n0_ := Aside0.mk (blk_below (g := gb254) (o := .cells #[.string a0_0, .slice A0_1 l0_1.length c0_1, .slice A0_2 l0_2.length c0_2, .int .i64 a0_3, .int .i64 a0_4, .slice A0_5 l0_5.length c0_5] 29 (0, 0)) (by repeat first | exact BK254.out | refine blk_drewN ?_ _ | refine blk_drew ?_ | refine blk_alloc ?_ _) hb); have n1_ := Aside0.mk (below_step (bg_ HB.out GE254.out) hb); clear BK254; clear HB; have BK254 := n0_; have HB := n1_; clear n0_ n1_; (try clear hb); (try clear hb2); (try clear hk); (try clear hi); have hcz23_0 : w22.cell? ⟨gb254, 0, none⟩ = some (.string a0_0) := (blk_cell BK254.out 0).trans rfl; have hcz23_1 : w22.cell? ⟨gb254, 1, none⟩ = some (.slice A0_1 l0_1.length c0_1) := (blk_cell BK254.out 1).trans rfl; have hcz23_2 : w22.cell? ⟨gb254, 2, none⟩ = some (.slice A0_2 l0_2.length c0_2) := (blk_cell BK254.out 2).trans rfl; have hcz23_3 : w22.cell? ⟨gb254, 3, none⟩ = some (.int .i64 a0_3) := (blk_cell BK254.out 3).trans rfl; have hcz23_4 : w22.cell? ⟨gb254, 4, none⟩ = some (.int .i64 a0_4) := (blk_cell BK254.out 4).trans rfl; have hcz23_5 : w22.cell? ⟨gb254, 5, none⟩ = some (.slice A0_5 l0_5.length c0_5) := (blk_cell BK254.out 5).trans rfl; have hfz23_0 := blk_frozen BK254.out 0; have hfz23_1 := blk_frozen BK254.out 1; have hfz23_2 := blk_frozen BK254.out 2; have hfz23_3 := blk_frozen BK254.out 3; have hfz23_4 := blk_frozen BK254.out 4; have hfz23_5 := blk_frozen BK254.out 5) | (go_at_call 69; (with_reducible refine (impl_Raga_hasTone.calls k a0_0 _ _ l0_1 _ _ l0_2 a0_3 a0_4 _ _ l0_5 a0_4 false _ ?side1 ?side2 ?side3 ?side4 ?side5 ?side6 A14.out).mono ?_); (case side1 => exact (Kd.C_below HR0_1.out HB.out)); (case side2 => exact HC0_1.out); (case side3 => exact (Kd.C_below HR0_2.out HB.out)); (case side4 => exact HC0_2.out); (case side5 => exact (Kd.C_below HR0_5.out HB.out)); (case side6 => exact HC0_5.out); rintro e w24 ⟨rfl, hb⟩; have n0_ := Aside0.mk (blk_below (g := gb254) (o := .cells #[.string a0_0, .slice A0_1 l0_1.length c0_1, .slice A0_2 l0_2.length c0_2, .int .i64 a0_3, .int .i64 a0_4, .slice A0_5 l0_5.length c0_5] 29 (0, 0)) (by repeat first | exact BK254.out | refine blk_drewN ?_ _ | refine blk_drew ?_ | refine blk_alloc ?_ _) hb); have n1_ := Aside0.mk (below_step (bg_ HB.out GE254.out) hb); clear BK254; clear HB; have BK254 := n0_; have HB := n1_; clear n0_ n1_; (try clear hb); (try clear hb2); (try clear hk); (try clear hi)))
        go_meet
        case rel => exact ⟨_, (true), sv_, H', ⟨by first | omega | exact Nat.le_refl _⟩, ⟨by (with_reducible repeat (first | refine blk_drewN ?_ _ | refine blk_drew ?_ | refine blk_alloc ?_ _)); exact BK254.out⟩, ⟨bg_ HB.out GE254.out⟩⟩
      ·replace c13 := Bool.eq_false_iff.mpr c13
       subst c13
       have H1 : (impl_ValidRaga.j0 k true a0_0 l0_1 l0_2 a0_3 a0_4 l0_5) = some r := by rw [if_neg (show ¬ (false = true) by decide)] at H; exact H
       clear H; have H := H1; clear H1
       have H' := Aside0.mk H
       clear H
       have hcz25_0 : w3.cell? ⟨gb254, 0, none⟩ = some (.string a0_0) := (blk_cell BK254.out 0).trans rfl
       have hcz25_1 : w3.cell? ⟨gb254, 1, none⟩ = some (.slice A0_1 l0_1.length c0_1) := (blk_cell BK254.out 1).trans rfl
       have hcz25_2 : w3.cell? ⟨gb254, 2, none⟩ = some (.slice A0_2 l0_2.length c0_2) := (blk_cell BK254.out 2).trans rfl
       have hcz25_3 : w3.cell? ⟨gb254, 3, none⟩ = some (.int .i64 a0_3) := (blk_cell BK254.out 3).trans rfl
       have hcz25_4 : w3.cell? ⟨gb254, 4, none⟩ = some (.int .i64 a0_4) := (blk_cell BK254.out 4).trans rfl
       have hcz25_5 : w3.cell? ⟨gb254, 5, none⟩ = some (.slice A0_5 l0_5.length c0_5) := (blk_cell BK254.out 5).trans rfl
       have hfz25_0 := blk_frozen BK254.out 0; have hfz25_1 := blk_frozen BK254.out 1; have hfz25_2 := blk_frozen BK254.out 2; have hfz25_3 := blk_frozen BK254.out 3; have hfz25_4 := blk_frozen BK254.out 4; have hfz25_5 := blk_frozen BK254.out 5
       go_wp2_with (first | ((with_reducible refine gate_callee (f := 113) rfl ?_); refine goesL_ (some 7) rfl rfl Try.func113 (by kernel_rfl) rfl #[.string a0_0] rfl av_ ?_; (with_reducible refine (impl_IsName.calls k a0_0 true _ A4.out).mono ?_); rintro e w' ⟨rfl, ⟨nd, rfl⟩⟩; refine ⟨_, rfl, ?_⟩) | (go_at_call 114; (with_reducible refine (impl_ValidScale.calls k _ _ l0_1 true _ ?side1 ?side2 A6.out).mono ?_); (case side1 => repeat (first | exact (Kd.C_below HR0_1.out (bg_ HB.out GE254.out)) | (with_reducible refine Kd.C_alloc ?_ _) | (with_reducible refine Kd.C_drewN ?_ _) | (with_reducible refine Kd.C_drew ?_))); (case side2 => exact HC0_1.out); rintro e w' ⟨rfl, ⟨nd, rfl⟩⟩) | (go_at_call 114; (with_reducible refine (impl_ValidScale.calls k _ _ l0_2 true _ ?side1 ?side2 A8.out).mono ?_); (case side1 => repeat (first | exact (Kd.C_below HR0_2.out (bg_ HB.out GE254.out)) | (with_reducible refine Kd.C_alloc ?_ _) | (with_reducible refine Kd.C_drewN ?_ _) | (with_reducible refine Kd.C_drew ?_))); (case side2 => exact HC0_2.out); rintro e w' ⟨rfl, ⟨nd, rfl⟩⟩) | (go_at_call 69; (with_reducible refine (impl_Raga_hasTone.calls k a0_0 _ _ l0_1 _ _ l0_2 a0_3 a0_4 _ _ l0_5 a0_3 false _ ?side1 ?side2 ?side3 ?side4 ?side5 ?side6 A12.out).mono ?_); (case side1 => repeat (first | exact (Kd.C_below HR0_1.out (bg_ HB.out GE254.out)) | (with_reducible refine Kd.C_alloc ?_ _) | (with_reducible refine Kd.C_drewN ?_ _) | (with_reducible refine Kd.C_drew ?_))); (case side2 => exact HC0_1.out); (case side3 => repeat (first | exact (Kd.C_below HR0_2.out (bg_ HB.out GE254.out)) | (with_reducible refine Kd.C_alloc ?_ _) | (with_reducible refine Kd.C_drewN ?_ _) | (with_reducible refine Kd.C_drew ?_))); (case side4 => exact HC0_2.out); (case side5 => repeat (first | exact (Kd.C_below HR0_5.out (bg_ HB.out GE254.out)) | (with_reducible refine Kd.C_alloc ?_ _) | (with_reducible refine Kd.C_drewN ?_ _) | (with_reducible refine Kd.C_drew ?_))); (case side6 => exact HC0_5.out); rintro e w26 ⟨rfl, hb⟩; have n0_ := Aside0.mk (blk_below (g := gb254) (o := .cells #[.string a0_0, .slice A0_1 l0_1.length c0_1, .slice A0_2 l0_2.length c0_2, .int .i64 a0_3, .int .i64 a0_4, .slice A0_5 l0_5.length c0_5] 29 (0, 0)) (by repeat first | exact BK254.out | refine blk_drewN ?_ _ | refine blk_drew ?_ | refine blk_alloc ?_ _) hb); have n1_ := Aside0.mk (below_step (bg_ HB.out GE254.out) hb); clear BK254; clear HB; have BK254 := n0_; have HB := n1_; clear n0_ n1_; (try clear hb); (try clear hb2); (try clear hk); (try clear hi)))
       go_meet
       case rel => exact ⟨_, (true), sv_, H', ⟨by first | omega | exact Nat.le_refl _⟩, ⟨by (with_reducible repeat (first | refine blk_drewN ?_ _ | refine blk_drew ?_ | refine blk_alloc ?_ _)); exact BK254.out⟩, ⟨bg_ HB.out GE254.out⟩⟩
    ·replace c9 := Bool.eq_false_iff.mpr c9
     subst c9
     have H1 : (impl_ValidRaga.j0 k true a0_0 l0_1 l0_2 a0_3 a0_4 l0_5) = some r := by rw [if_neg (show ¬ (false = true) by decide)] at H; exact H
     clear H; have H := H1; clear H1
     have H' := Aside0.mk H
     clear H
     have hcz27_0 : w3.cell? ⟨gb254, 0, none⟩ = some (.string a0_0) := (blk_cell BK254.out 0).trans rfl
     have hcz27_1 : w3.cell? ⟨gb254, 1, none⟩ = some (.slice A0_1 l0_1.length c0_1) := (blk_cell BK254.out 1).trans rfl
     have hcz27_2 : w3.cell? ⟨gb254, 2, none⟩ = some (.slice A0_2 l0_2.length c0_2) := (blk_cell BK254.out 2).trans rfl
     have hcz27_3 : w3.cell? ⟨gb254, 3, none⟩ = some (.int .i64 a0_3) := (blk_cell BK254.out 3).trans rfl
     have hcz27_4 : w3.cell? ⟨gb254, 4, none⟩ = some (.int .i64 a0_4) := (blk_cell BK254.out 4).trans rfl
     have hcz27_5 : w3.cell? ⟨gb254, 5, none⟩ = some (.slice A0_5 l0_5.length c0_5) := (blk_cell BK254.out 5).trans rfl
     have hfz27_0 := blk_frozen BK254.out 0; have hfz27_1 := blk_frozen BK254.out 1; have hfz27_2 := blk_frozen BK254.out 2; have hfz27_3 := blk_frozen BK254.out 3; have hfz27_4 := blk_frozen BK254.out 4; have hfz27_5 := blk_frozen BK254.out 5
     go_wp2_with (first | ((with_reducible refine gate_callee (f := 113) rfl ?_); refine goesL_ (some 7) rfl rfl Try.func113 (by kernel_rfl) rfl #[.string a0_0] rfl av_ ?_; (with_reducible refine (impl_IsName.calls k a0_0 true _ A4.out).mono ?_); rintro e w' ⟨rfl, ⟨nd, rfl⟩⟩; refine ⟨_, rfl, ?_⟩) | (go_at_call 114; (with_reducible refine (impl_ValidScale.calls k _ _ l0_1 true _ ?side1 ?side2 A6.out).mono ?_); (case side1 => repeat (first | exact (Kd.C_below HR0_1.out (bg_ HB.out GE254.out)) | (with_reducible refine Kd.C_alloc ?_ _) | (with_reducible refine Kd.C_drewN ?_ _) | (with_reducible refine Kd.C_drew ?_))); (case side2 => exact HC0_1.out); rintro e w' ⟨rfl, ⟨nd, rfl⟩⟩) | (go_at_call 114; (with_reducible refine (impl_ValidScale.calls k _ _ l0_2 false _ ?side1 ?side2 A8.out).mono ?_); (case side1 => repeat (first | exact (Kd.C_below HR0_2.out (bg_ HB.out GE254.out)) | (with_reducible refine Kd.C_alloc ?_ _) | (with_reducible refine Kd.C_drewN ?_ _) | (with_reducible refine Kd.C_drew ?_))); (case side2 => exact HC0_2.out); rintro e w' ⟨rfl, ⟨nd, rfl⟩⟩))
     go_meet
     case rel => exact ⟨_, (true), sv_, H', ⟨by first | omega | exact Nat.le_refl _⟩, ⟨by (with_reducible repeat (first | refine blk_drewN ?_ _ | refine blk_drew ?_ | refine blk_alloc ?_ _)); exact BK254.out⟩, ⟨bg_ HB.out GE254.out⟩⟩
   ·replace c7 := Bool.eq_false_iff.mpr c7
    subst c7
    have H1 : (impl_ValidRaga.j0 k true a0_0 l0_1 l0_2 a0_3 a0_4 l0_5) = some r := by rw [if_neg (show ¬ (false = true) by decide)] at H; exact H
    clear H; have H := H1; clear H1
    have H' := Aside0.mk H
    clear H
    have hcz28_0 : w3.cell? ⟨gb254, 0, none⟩ = some (.string a0_0) := (blk_cell BK254.out 0).trans rfl
    have hcz28_1 : w3.cell? ⟨gb254, 1, none⟩ = some (.slice A0_1 l0_1.length c0_1) := (blk_cell BK254.out 1).trans rfl
    have hcz28_2 : w3.cell? ⟨gb254, 2, none⟩ = some (.slice A0_2 l0_2.length c0_2) := (blk_cell BK254.out 2).trans rfl
    have hcz28_3 : w3.cell? ⟨gb254, 3, none⟩ = some (.int .i64 a0_3) := (blk_cell BK254.out 3).trans rfl
    have hcz28_4 : w3.cell? ⟨gb254, 4, none⟩ = some (.int .i64 a0_4) := (blk_cell BK254.out 4).trans rfl
    have hcz28_5 : w3.cell? ⟨gb254, 5, none⟩ = some (.slice A0_5 l0_5.length c0_5) := (blk_cell BK254.out 5).trans rfl
    have hfz28_0 := blk_frozen BK254.out 0; have hfz28_1 := blk_frozen BK254.out 1; have hfz28_2 := blk_frozen BK254.out 2; have hfz28_3 := blk_frozen BK254.out 3; have hfz28_4 := blk_frozen BK254.out 4; have hfz28_5 := blk_frozen BK254.out 5
    go_wp2_with (first | ((with_reducible refine gate_callee (f := 113) rfl ?_); refine goesL_ (some 7) rfl rfl Try.func113 (by kernel_rfl) rfl #[.string a0_0] rfl av_ ?_; (with_reducible refine (impl_IsName.calls k a0_0 true _ A4.out).mono ?_); rintro e w' ⟨rfl, ⟨nd, rfl⟩⟩; refine ⟨_, rfl, ?_⟩) | (go_at_call 114; (with_reducible refine (impl_ValidScale.calls k _ _ l0_1 false _ ?side1 ?side2 A6.out).mono ?_); (case side1 => repeat (first | exact (Kd.C_below HR0_1.out (bg_ HB.out GE254.out)) | (with_reducible refine Kd.C_alloc ?_ _) | (with_reducible refine Kd.C_drewN ?_ _) | (with_reducible refine Kd.C_drew ?_))); (case side2 => exact HC0_1.out); rintro e w' ⟨rfl, ⟨nd, rfl⟩⟩))
    go_meet
    case rel => exact ⟨_, (true), sv_, H', ⟨by first | omega | exact Nat.le_refl _⟩, ⟨by (with_reducible repeat (first | refine blk_drewN ?_ _ | refine blk_drew ?_ | refine blk_alloc ?_ _)); exact BK254.out⟩, ⟨bg_ HB.out GE254.out⟩⟩
  ·replace c5 := Bool.eq_false_iff.mpr c5
   subst c5
   have H1 : (impl_ValidRaga.j0 k true a0_0 l0_1 l0_2 a0_3 a0_4 l0_5) = some r := by rw [if_neg (show ¬ (false = true) by decide)] at H; exact H
   clear H
   have H := H1
   clear H1
   have H' := Aside0.mk H
   clear H
   have hcz29_0 : w3.cell? ⟨gb254, 0, none⟩ = some (.string a0_0) := (blk_cell BK254.out 0).trans rfl
   have hcz29_1 : w3.cell? ⟨gb254, 1, none⟩ = some (.slice A0_1 l0_1.length c0_1) := (blk_cell BK254.out 1).trans rfl
   have hcz29_2 : w3.cell? ⟨gb254, 2, none⟩ = some (.slice A0_2 l0_2.length c0_2) := (blk_cell BK254.out 2).trans rfl
   have hcz29_3 : w3.cell? ⟨gb254, 3, none⟩ = some (.int .i64 a0_3) := (blk_cell BK254.out 3).trans rfl
   have hcz29_4 : w3.cell? ⟨gb254, 4, none⟩ = some (.int .i64 a0_4) := (blk_cell BK254.out 4).trans rfl
   have hcz29_5 : w3.cell? ⟨gb254, 5, none⟩ = some (.slice A0_5 l0_5.length c0_5) := (blk_cell BK254.out 5).trans rfl
   have hfz29_0 := blk_frozen BK254.out 0
   have hfz29_1 := blk_frozen BK254.out 1
   have hfz29_2 := blk_frozen BK254.out 2
   have hfz29_3 := blk_frozen BK254.out 3
   have hfz29_4 := blk_frozen BK254.out 4
   have hfz29_5 := blk_frozen BK254.out 5
   go_wp2_with (first | ((with_reducible refine gate_callee (f := 113) rfl ?_); refine goesL_ (some 7) rfl rfl Try.func113 (by kernel_rfl) rfl #[.string a0_0] rfl av_ ?_; (with_reducible refine (impl_IsName.calls k a0_0 false _ A4.out).mono ?_); rintro e w' ⟨rfl, ⟨nd, rfl⟩⟩; refine ⟨_, rfl, ?_⟩))
   go_meet
   case rel => exact ⟨_, (true), sv_, H', ⟨by first | omega | exact Nat.le_refl _⟩, ⟨by (with_reducible repeat (first | refine blk_drewN ?_ _ | refine blk_drew ?_ | refine blk_alloc ?_ _)); exact BK254.out⟩, ⟨bg_ HB.out GE254.out⟩⟩
 case rest =>
  clear HC2
  (try clear c1); (try clear p2); (try clear c5); (try clear c6); (try clear c7); (try clear c9); (try clear c10); (try clear c10b0); (try clear c10b1); (try clear c11); (try clear c13); (try clear c15); (try clear hcz11_0); (try clear hcz11_1); (try clear hcz11_2); (try clear hcz11_3); (try clear hcz11_4); (try clear hcz11_5); (try clear hcz16_0); (try clear hcz16_1); (try clear hcz16_2); (try clear hcz16_3); (try clear hcz16_4); (try clear hcz16_5); (try clear hcz18_0); (try clear hcz18_1); (try clear hcz18_2); (try clear hcz18_3); (try clear hcz18_4); (try clear hcz18_5); (try clear hcz20_0); (try clear hcz20_1); (try clear hcz20_2); (try clear hcz20_3); (try clear hcz20_4); (try clear hcz20_5); (try clear hcz21_0); (try clear hcz21_1); (try clear hcz21_2); (try clear hcz21_3); (try clear hcz21_4); (try clear hcz21_5); (try clear hcz23_0); (try clear hcz23_1); (try clear hcz23_2); (try clear hcz23_3); (try clear hcz23_4); (try clear hcz23_5); (try clear hcz25_0); (try clear hcz25_1); (try clear hcz25_2); (try clear hcz25_3); (try clear hcz25_4); (try clear hcz25_5); (try clear hcz27_0); (try clear hcz27_1); (try clear hcz27_2); (try clear hcz27_3); (try clear hcz27_4); (try clear hcz27_5); (try clear hcz28_0); (try clear hcz28_1); (try clear hcz28_2); (try clear hcz28_3); (try clear hcz28_4); (try clear hcz28_5); (try clear hcz29_0); (try clear hcz29_1); (try clear hcz29_2); (try clear hcz29_3); (try clear hcz29_4); (try clear hcz29_5); (try clear hfz11_0); (try clear hfz11_1); (try clear hfz11_2); (try clear hfz11_3); (try clear hfz11_4); (try clear hfz11_5); (try clear hfz16_0); (try clear hfz16_1); (try clear hfz16_2); (try clear hfz16_3); (try clear hfz16_4); (try clear hfz16_5); (try clear hfz18_0); (try clear hfz18_1); (try clear hfz18_2); (try clear hfz18_3); (try clear hfz18_4); (try clear hfz18_5); (try clear hfz20_0); (try clear hfz20_1); (try clear hfz20_2); (try clear hfz20_3); (try clear hfz20_4); (try clear hfz20_5); (try clear hfz21_0); (try clear hfz21_1); (try clear hfz21_2); (try clear hfz21_3); (try clear hfz21_4); (try clear hfz21_5); (try clear hfz23_0); (try clear hfz23_1); (try clear hfz23_2); (try clear hfz23_3); (try clear hfz23_4); (try clear hfz23_5); (try clear hfz25_0); (try clear hfz25_1); (try clear hfz25_2); (try clear hfz25_3); (try clear hfz25_4); (try clear hfz25_5); (try clear hfz27_0); (try clear hfz27_1); (try clear hfz27_2); (try clear hfz27_3); (try clear hfz27_4); (try clear hfz27_5); (try clear hfz28_0); (try clear hfz28_1); (try clear hfz28_2); (try clear hfz28_3); (try clear hfz28_4); (try clear hfz28_5); (try clear hfz29_0); (try clear hfz29_1); (try clear hfz29_2); (try clear hfz29_3); (try clear hfz29_4); (try clear hfz29_5)
  obtain ⟨kq, x47_1, rfl, HA, HJ1, BK254, HB⟩ := hcut
  cases kq with
  | zero => exact absurd HA.out (by simp [impl_ValidRaga.j0])
  | succ kj1 =>
   have H := HA.out
   clear HA
   simp only [impl_ValidRaga.j0] at H
   by_cases c30 : x47_1 = true
   ·subst c30
    have H1 : (some false) = some r := by rw [if_pos rfl] at H; exact H
    clear H; have H := H1; clear H1
    obtain rfl := Option.some.inj H
    go_wp2
    go_ret
    exact ⟨by first | rfl | (simp [errW_none, errW_some] <;> rfl) | (simp [*, errW_none, errW_some] <;> rfl), bg_ HB.out GE254.out⟩
   ·replace c30 := Bool.eq_false_iff.mpr c30
    subst c30
    have H1 : (impl_ValidRaga.l0 kj1 l0_5 (l0_5.length : Int) 0 a0_0 l0_1 l0_2 a0_3 a0_4 l0_5) = some r := by rw [if_neg (show ¬ (false = true) by decide)] at H; exact H
    clear H; have H := H1; clear H1
    have H' := Aside0.mk H
    clear H
    have hcz31_0 : wc.cell? ⟨gb254, 0, none⟩ = some (.string a0_0) := (blk_cell BK254.out 0).trans rfl
    have hcz31_1 : wc.cell? ⟨gb254, 1, none⟩ = some (.slice A0_1 l0_1.length c0_1) := (blk_cell BK254.out 1).trans rfl
    have hcz31_2 : wc.cell? ⟨gb254, 2, none⟩ = some (.slice A0_2 l0_2.length c0_2) := (blk_cell BK254.out 2).trans rfl
    have hcz31_3 : wc.cell? ⟨gb254, 3, none⟩ = some (.int .i64 a0_3) := (blk_cell BK254.out 3).trans rfl
    have hcz31_4 : wc.cell? ⟨gb254, 4, none⟩ = some (.int .i64 a0_4) := (blk_cell BK254.out 4).trans rfl
    have hcz31_5 : wc.cell? ⟨gb254, 5, none⟩ = some (.slice A0_5 l0_5.length c0_5) := (blk_cell BK254.out 5).trans rfl
    have hfz31_0 := blk_frozen BK254.out 0; have hfz31_1 := blk_frozen BK254.out 1; have hfz31_2 := blk_frozen BK254.out 2; have hfz31_3 := blk_frozen BK254.out 3; have hfz31_4 := blk_frozen BK254.out 4; have hfz31_5 := blk_frozen BK254.out 5
    go_wp2
    go_loopg [51] kj1 (fun kq v51 w' => ∃ (x51_2 : Int), v51 = .int .i64 x51_2 ∧ Aside0 (impl_ValidRaga.l0 kq l0_5 (l0_5.length : Int) x51_2 a0_0 l0_1 l0_2 a0_3 a0_4 l0_5 = some r) ∧ Aside0 (kq ≤ kj1) ∧ Aside0 (w'.heap[gb254]? = some (.cells #[.string a0_0, (.slice A0_1 l0_1.length c0_1), (.slice A0_2 l0_2.length c0_2), .int .i64 a0_3, .int .i64 a0_4, (.slice A0_5 l0_5.length c0_5)] 29 (0, 0))) ∧ Aside0 (Below w.heap.size w w'))
    case atStart => exact ⟨(0), sv_, H', ⟨Nat.le_refl _⟩, ⟨by (with_reducible repeat (first | refine blk_drewN ?_ _ | refine blk_drew ?_ | refine blk_alloc ?_ _)); exact BK254.out⟩, ⟨bg_ HB.out GE254.out⟩⟩
    case round =>
     clear H'
     (try clear c1); (try clear p2); (try clear c3); (try clear c5); (try clear c6); (try clear c7); (try clear c9); (try clear c10); (try clear c10b0); (try clear c10b1); (try clear c11); (try clear c13); (try clear c15); (try clear c30); (try clear hcz11_0); (try clear hcz11_1); (try clear hcz11_2); (try clear hcz11_3); (try clear hcz11_4); (try clear hcz11_5); (try clear hcz16_0); (try clear hcz16_1); (try clear hcz16_2); (try clear hcz16_3); (try clear hcz16_4); (try clear hcz16_5); (try clear hcz18_0); (try clear hcz18_1); (try clear hcz18_2); (try clear hcz18_3); (try clear hcz18_4); (try clear hcz18_5); (try clear hcz20_0); (try clear hcz20_1); (try clear hcz20_2); (try clear hcz20_3); (try clear hcz20_4); (try clear hcz20_5); (try clear hcz21_0); (try clear hcz21_1); (try clear hcz21_2); (try clear hcz21_3); (try clear hcz21_4); (try clear hcz21_5); (try clear hcz23_0); (try clear hcz23_1); (try clear hcz23_2); (try clear hcz23_3); (try clear hcz23_4); (try clear hcz23_5); (try clear hcz25_0); (try clear hcz25_1); (try clear hcz25_2); (try clear hcz25_3); (try clear hcz25_4); (try clear hcz25_5); (try clear hcz27_0); (try clear hcz27_1); (try clear hcz27_2); (try clear hcz27_3); (try clear hcz27_4); (try clear hcz27_5); (try clear hcz28_0); (try clear hcz28_1); (try clear hcz28_2); (try clear hcz28_3); (try clear hcz28_4); (try clear hcz28_5); (try clear hcz29_0); (try clear hcz29_1); (try clear hcz29_2); (try clear hcz29_3); (try clear hcz29_4); (try clear hcz29_5); (try clear hcz31_0); (try clear hcz31_1); (try clear hcz31_2); (try clear hcz31_3); (try clear hcz31_4); (try clear hcz31_5); (try clear hfz11_0); (try clear hfz11_1); (try clear hfz11_2); (try clear hfz11_3); (try clear hfz11_4); (try clear hfz11_5); (try clear hfz16_0); (try clear hfz16_1); (try clear hfz16_2); (try clear hfz16_3); (try clear hfz16_4); (try clear hfz16_5); (try clear hfz18_0); (try clear hfz18_1); (try clear hfz18_2); (try clear hfz18_3); (try clear hfz18_4); (try clear hfz18_5); (try clear hfz20_0); (try clear hfz20_1); (try clear hfz20_2); (try clear hfz20_3); (try clear hfz20_4); (try clear hfz20_5); (try clear hfz21_0); (try clear hfz21_1); (try clear hfz21_2); (try clear hfz21_3); (try clear hfz21_4); (try clear hfz21_5); (try clear hfz23_0); (try clear hfz23_1); (try clear hfz23_2); (try clear hfz23_3); (try clear hfz23_4); (try clear hfz23_5); (try clear hfz25_0); (try clear hfz25_1); (try clear hfz25_2); (try clear hfz25_3); (try clear hfz25_4); (try clear hfz25_5); (try clear hfz27_0); (try clear hfz27_1); (try clear hfz27_2); (try clear hfz27_3); (try clear hfz27_4); (try clear hfz27_5); (try clear hfz28_0); (try clear hfz28_1); (try clear hfz28_2); (try clear hfz28_3); (try clear hfz28_4); (try clear hfz28_5); (try clear hfz29_0); (try clear hfz29_1); (try clear hfz29_2); (try clear hfz29_3); (try clear hfz29_4); (try clear hfz29_5); (try clear hfz31_0); (try clear hfz31_1); (try clear hfz31_2); (try clear hfz31_3); (try clear hfz31_4); (try clear hfz31_5); (try clear p2)
     obtain ⟨x51_2, rfl, HA, HK2, BK254, HB⟩ := hrel
     cases gk with
     | zero => exact absurd HA.out (by simp [impl_ValidRaga.l0])
     | succ k2 =>
      have H := HA.out; clear HA
      simp only [impl_ValidRaga.l0] at H
      by_cases c32 : x51_2 < (l0_5.length : Int)
      ·rw [if_pos c32] at H
       have c32b0 : decide (x51_2 < (l0_5.length : Int)) = true := decide_eq_true c32
       clear c32
       by_cases c33 : 0 ≤ x51_2
       ·rw [if_pos c33] at H
        have c33b0 : decide (0 ≤ x51_2) = true := decide_eq_true c33
        clear c33
        by_cases c34 : x51_2 < (l0_5.length : Int)
        ·rw [if_pos c34] at H
         have c34b0 : decide (x51_2 < (l0_5.length : Int)) = true := decide_eq_true c34
         clear c34
         by_cases c35 : ((rd_L1 l0_5 x51_2).length : Int) = 2
         ·rw [if_pos c35] at H
          have c35b0 : (((rd_L1 l0_5 x51_2).length : Int) == 2) = true := beq_iff_eq.mpr c35
          have c35b1 : (((rd_L1 l0_5 x51_2).length : Int) != 2) = false := bne_eq_false_iff_eq.mpr c35
          clear c35
          by_cases c36 : 0 < ((rd_L1 l0_5 x51_2).length : Int)
          ·rw [if_pos c36] at H
           have c36b0 : decide (0 < ((rd_L1 l0_5 x51_2).length : Int)) = true := decide_eq_true c36
           have c36b1 : decide (0 < (rd_L1 l0_5 x51_2).length) = true := decide_eq_true (by omega)
           clear c36
           replace H := Option.bind_eq_some_iff.mp H
           obtain ⟨t262, A370, H⟩ := H
           replace H : (if t262 = true then (if 1 < ((rd_L1 l0_5 x51_2).length : Int) then ((impl_toneOk.f (rd (rd_L1 l0_5 x51_2) 1)).bind fun t264 => (if t264 = true then (if (rd (rd_L1 l0_5 x51_2) 0) = (rd (rd_L1 l0_5 x51_2) 1) then (some false) else (if x51_2 > 0 then (if 0 ≤ (wrap64 (x51_2 - 1)) then (if (wrap64 (x51_2 - 1)) < (l0_5.length : Int) then ((slices_Compare_int64_int64.f k2 (rd_L1 l0_5 (wrap64 (x51_2 - 1))) (rd_L1 l0_5 x51_2)).bind fun t268 => (if t268 ≥ 0 then (some false) else (impl_ValidRaga.l0 k2 l0_5 (l0_5.length : Int) (wrap64 (x51_2 + 1)) a0_0 l0_1 l0_2 a0_3 a0_4 l0_5))) else (none)) else (none)) else (impl_ValidRaga.l0 k2 l0_5 (l0_5.length : Int) (wrap64 (x51_2 + 1)) a0_0 l0_1 l0_2 a0_3 a0_4 l0_5))) else (some false))) else (none)) else (some false)) = some r := H
           have A37 := Aside0.mk A370; clear A370
           by_cases c38 : t262 = true
           ·subst c38
            have H1 : (if 1 < ((rd_L1 l0_5 x51_2).length : Int) then ((impl_toneOk.f (rd (rd_L1 l0_5 x51_2) 1)).bind fun t264 => (if t264 = true then (if (rd (rd_L1 l0_5 x51_2) 0) = (rd (rd_L1 l0_5 x51_2) 1) then (some false) else (if x51_2 > 0 then (if 0 ≤ (wrap64 (x51_2 - 1)) then (if (wrap64 (x51_2 - 1)) < (l0_5.length : Int) then ((slices_Compare_int64_int64.f k2 (rd_L1 l0_5 (wrap64 (x51_2 - 1))) (rd_L1 l0_5 x51_2)).bind fun t268 => (if t268 ≥ 0 then (some false) else (impl_ValidRaga.l0 k2 l0_5 (l0_5.length : Int) (wrap64 (x51_2 + 1)) a0_0 l0_1 l0_2 a0_3 a0_4 l0_5))) else (none)) else (none)) else (impl_ValidRaga.l0 k2 l0_5 (l0_5.length : Int) (wrap64 (x51_2 + 1)) a0_0 l0_1 l0_2 a0_3 a0_4 l0_5))) else (some false))) else (none)) = some r := by rw [if_pos rfl] at H; exact H
            clear H; have H := H1; clear H1
            by_cases c39 : 1 < ((rd_L1 l0_5 x51_2).length : Int)
            ·rw [if_pos c39] at H
             have c39b0 : decide (1 < ((rd_L1 l0_5 x51_2).length : Int)) = true := decide_eq_true c39
             have c39b1 : decide (1 < (rd_L1 l0_5 x51_2).length) = true := decide_eq_true (by omega)
             clear c39
             replace H := Option.bind_eq_some_iff.mp H
             obtain ⟨t264, A400, H⟩ := H
             replace H : (if t264 = true then (if (rd (rd_L1 l0_5 x51_2) 0) = (rd (rd_L1 l0_5 x51_2) 1) then (some false) else (if x51_2 > 0 then (if 0 ≤ (wrap64 (x51_2 - 1)) then (if (wrap64 (x51_2 - 1)) < (l0_5.length : Int) then ((slices_Compare_int64_int64.f k2 (rd_L1 l0_5 (wrap64 (x51_2 - 1))) (rd_L1 l0_5 x51_2)).bind fun t268 => (if t268 ≥ 0 then (some false) else (impl_ValidRaga.l0 k2 l0_5 (l0_5.length : Int) (wrap64 (x51_2 + 1)) a0_0 l0_1 l0_2 a0_3 a0_4 l0_5))) else (none)) else (none)) else (impl_ValidRaga.l0 k2 l0_5 (l0_5.length : Int) (wrap64 (x51_2 + 1)) a0_0 l0_1 l0_2 a0_3 a0_4 l0_5))) else (some false)) = some r := H
             have A40 := Aside0.mk A400; clear A400
             by_cases c41 : t264 = true
             ·subst c41
              have H1 : (if (rd (rd_L1 l0_5 x51_2) 0) = (rd (rd_L1 l0_5 x51_2) 1) then (some false) else (if x51_2 > 0 then (if 0 ≤ (wrap64 (x51_2 - 1)) then (if (wrap64 (x51_2 - 1)) < (l0_5.length : Int) then ((slices_Compare_int64_int64.f k2 (rd_L1 l0_5 (wrap64 (x51_2 - 1))) (rd_L1 l0_5 x51_2)).bind fun t268 => (if t268 ≥ 0 then (some false) else (impl_ValidRaga.l0 k2 l0_5 (l0_5.length : Int) (wrap64 (x51_2 + 1)) a0_0 l0_1 l0_2 a0_3 a0_4 l0_5))) else (none)) else (none)) else (impl_ValidRaga.l0 k2 l0_5 (l0_5.length : Int) (wrap64 (x51_2 + 1)) a0_0 l0_1 l0_2 a0_3 a0_4 l0_5))) = some r := by rw [if_pos rfl] at H; exact H
              clear H; have H := H1; clear H1
              by_cases c42 : (rd (rd_L1 l0_5 x51_2) 0) = (rd (rd_L1 l0_5 x51_2) 1)
              ·rw [if_pos c42] at H
               have c42b0 : ((rd (rd_L1 l0_5 x51_2) 0) == (rd (rd_L1 l0_5 x51_2) 1)) = true := beq_iff_eq.mpr c42
               have c42b1 : ((rd (rd_L1 l0_5 x51_2) 0) != (rd (rd_L1 l0_5 x51_2) 1)) = false := bne_eq_false_iff_eq.mpr c42
               clear c42
               obtain rfl := Option.some.inj H
               have p260 : 0 ≤ (x51_2 : Int) := da_
               have q260 : x51_2 < (l0_5.length : Int) := da_
               obtain ⟨ad260, A260_0, c260_0, e260, hx260_0, hl260_0, hi260_0⟩ := at_L1 HR0_5.out x51_2 p260 q260; cases e260
               replace hx260_0 := (wc_ HB.out hx260_0 :)
               have HR260_0 := Aside0.mk hi260_0; have HC260_0 := Aside0.mk hl260_0; clear hi260_0 hl260_0; replace p260 := eq_true p260; replace q260 := eq_true q260
               try go_wp2
               have n0_ := Aside0.mk (blk_drew BK254.out)
               have n1_ := Aside0.mk (below_drew1 HB.out)
               clear BK254; clear HB; have BK254 := n0_; have HB := n1_; clear n0_ n1_
               have p261 : 0 ≤ (0 : Int) := (by omega)
               have q261 : 0 < ((rd_L1 l0_5 x51_2).length : Int) := da_
               obtain ⟨ad261, e261, hx261_0⟩ := Kd.at_int HR260_0.out 0 p261 q261; have hw261_0 := hx261_0; (try rw [show ((0 : Int)).toNat = 0 from rfl] at hw261_0); (try rw [show 0 * 1 = 0 from rfl] at hw261_0); (try rw [Addr.add_zero'] at hw261_0); cases e261
               have qi261 : (0 < (rd_L1 l0_5 x51_2).length) = True := eq_true (by omega)
               (try rw [show ((0 : Int)).toNat = 0 from rfl] at hx261_0); (try rw [Addr.add_zero'] at hx261_0)
               replace hx261_0 := (wc_ HB.out hx261_0 :)
               replace p261 := eq_true p261; replace q261 := eq_true q261
               have p263 : 0 ≤ (1 : Int) := (by omega)
               have q263 : 1 < ((rd_L1 l0_5 x51_2).length : Int) := da_
               obtain ⟨ad263, e263, hx263_0⟩ := Kd.at_int HR260_0.out 1 p263 q263; have hw263_0 := hx263_0; (try rw [show ((1 : Int)).toNat = 1 from rfl] at hw263_0); (try rw [show 1 * 1 = 1 from rfl] at hw263_0); (try simp only [Nat.reduceMul, Nat.reduceEqDiff, Go.Addr.add, ↓reduceIte] at hw263_0); obtain rfl : ad261 = ad263 := (by injection e263); (try simp only [show (1 : Int).toNat = 1 from rfl, Nat.reduceMul, Nat.reduceEqDiff, Go.Addr.add, ↓reduceIte] at hx263_0)
               have qi263 : (1 < (rd_L1 l0_5 x51_2).length) = True := eq_true (by omega)
               (try rw [show ((1 : Int)).toNat = 1 from rfl] at hx263_0)
               replace hx263_0 := (wc_ HB.out hx263_0 :)
               replace p263 := eq_true p263; replace q263 := eq_true q263
               have p265 : 0 ≤ (0 : Int) := (by omega)
               have q265 : 0 < ((rd_L1 l0_5 x51_2).length : Int) := da_
               obtain ⟨ad265, e265, hx265_0⟩ := Kd.at_int HR260_0.out 0 p265 q265; have hw265_0 := hx265_0; (try rw [show ((0 : Int)).toNat = 0 from rfl] at hw265_0); (try rw [show 0 * 1 = 0 from rfl] at hw265_0); (try rw [Addr.add_zero'] at hw265_0); obtain rfl : ad261 = ad265 := (by injection e265)
               have qi265 : (0 < (rd_L1 l0_5 x51_2).length) = True := eq_true (by omega)
               (try rw [show ((0 : Int)).toNat = 0 from rfl] at hx265_0); (try rw [Addr.add_zero'] at hx265_0)
               replace hx265_0 := (wc_ HB.out hx265_0 :)
               replace p265 := eq_true p265; replace q265 := eq_true q265
               have p266 : 0 ≤ (1 : Int) := (by omega)
               have q266 : 1 < ((rd_L1 l0_5 x51_2).length : Int) := da_
               obtain ⟨ad266, e266, hx266_0⟩ := Kd.at_int HR260_0.out 1 p266 q266; have hw266_0 := hx266_0; (try rw [show ((1 : Int)).toNat = 1 from rfl] at hw266_0); (try rw [show 1 * 1 = 1 from rfl] at hw266_0); (try simp only [Nat.reduceMul, Nat.reduceEqDiff, Go.Addr.add, ↓reduceIte] at hw266_0); obtain rfl : ad261 = ad266 := (by injection e266); (try simp only [show (1 : Int).toNat = 1 from rfl, Nat.reduceMul, Nat.reduceEqDiff, Go.Addr.add, ↓reduceIte] at hx266_0)
               have qi266 : (1 < (rd_L1 l0_5 x51_2).length) = True := eq_true (by omega)
               (try rw [show ((1 : Int)).toNat = 1 from rfl] at hx266_0)
               replace hx266_0 := (wc_ HB.out hx266_0 :)
               replace p266 := eq_true p266; replace q266 := eq_true q266
               refine start_ (n := 41) (S := fun w' => w'.cell? ad261 = some (.int .i64 (rd (rd_L1 l0_5 x51_2) 0)) ∧ w'.cell? ⟨ad261.block, ad261.off + 1, none⟩ = some (.int .i64 (rd (rd_L1 l0_5 x51_2) 1)) ∧ w'.cell? ad261 = some (.int .i64 (rd (rd_L1 l0_5 x51_2) 0)) ∧ w'.cell? ⟨ad261.block, ad261.off + 1, none⟩ = some (.int .i64 (rd (rd_L1 l0_5 x51_2) 1))) (ds := []) impl_ValidRaga.K0 (by kernel_rfl) rfl rfl ⟨(wc_ HB.out hw261_0 :), (wc_ HB.out hw263_0 :), (wc_ HB.out hw265_0 :), (wc_ HB.out hw266_0 :)⟩ (fun hHeld => ?_); refine with_tabW impl_ValidRaga.tab6 impl_ValidRaga.bits6 (fun HT_ HW_ => ?_)
               generalize wr.drew = w43 at BK254 HB hx261_0 hx263_0 hx265_0 hx266_0 hHeld ⊢
               refine pu_ HT_ 0 56 impl_ValidRaga.K1 ?_; refine pu_ HT_ 1 57 impl_ValidRaga.K2 ?_; refine pu_ HT_ 2 58 impl_ValidRaga.K3 ?_; refine pu_ HT_ 3 59 impl_ValidRaga.K4 ?_; refine pu_ HT_ 4 60 impl_ValidRaga.K5 ?_; refine pu_ HT_ 5 61 impl_ValidRaga.K6 ?_; refine tk_ HT_ HW_ hHeld 6 62 impl_ValidRaga.K7 ?_
               refine one_ (i := 7) (N := some 63) impl_ValidRaga.K8 rfl rfl (one_of HT_.out (by kernel_rfl)) (by decide) (fun K hK => ?_)
               refine goes_ Try.func115 (by kernel_rfl) rfl #[.int .i64 (rd (rd_L1 l0_5 x51_2) 0)] (by rfl) rfl rfl av_ ?_
               with_reducible refine (impl_toneOk.calls (rd (rd_L1 l0_5 x51_2) 0) true _ A37.out).mono ?_
               rintro e w' ⟨rfl, ⟨nd, rfl⟩⟩
               refine ⟨_, rfl, ?_⟩
               refine hK.out _ _ ⟨(wc_ HB.out hw261_0 :), (wc_ HB.out hw263_0 :), (wc_ HB.out hw265_0 :), (wc_ HB.out hw266_0 :)⟩ (fun hHeld => ?_)
               clear hK K; refine norm_ (a' := ?_) ?_ ?_; rotate_left
               ·show Act.put _ (some 63) _ = _
                go_simp
                rfl
               refine pu_ HT_ 8 64 impl_ValidRaga.K9 ?_; refine pu_ HT_ 9 65 impl_ValidRaga.K10 ?_; refine pu_ HT_ 10 66 impl_ValidRaga.K11 ?_; refine pu_ HT_ 11 67 impl_ValidRaga.K12 ?_; refine pu_ HT_ 12 68 impl_ValidRaga.K13 ?_; refine tk_ HT_ HW_ hHeld 13 69 impl_ValidRaga.K14 ?_
               refine one_ (i := 14) (N := some 70) impl_ValidRaga.K15 rfl rfl (one_of HT_.out (by kernel_rfl)) (by decide) (fun K hK => ?_)
               refine goes_ Try.func115 (by kernel_rfl) rfl #[.int .i64 (rd (rd_L1 l0_5 x51_2) 1)] (by rfl) rfl rfl av_ ?_
               with_reducible refine (impl_toneOk.calls (rd (rd_L1 l0_5 x51_2) 1) true _ A40.out).mono ?_
               rintro e w' ⟨rfl, ⟨nd, rfl⟩⟩
               refine ⟨_, rfl, ?_⟩
               refine hK.out _ _ ⟨(wc_ HB.out hw261_0 :), (wc_ HB.out hw263_0 :), (wc_ HB.out hw265_0 :), (wc_ HB.out hw266_0 :)⟩ (fun hHeld => ?_)
               clear hK K; refine norm_ (a' := ?_) ?_ ?_; rotate_left
               ·show Act.put _ (some 70) _ = _
                go_simp
                rfl
               refine pu_ HT_ 15 71 impl_ValidRaga.K16 ?_; refine pu_ HT_ 16 72 impl_ValidRaga.K17 ?_; refine pu_ HT_ 17 73 impl_ValidRaga.K18 ?_; refine pu_ HT_ 18 74 impl_ValidRaga.K19 ?_; refine pu_ HT_ 19 75 impl_ValidRaga.K20 ?_; refine pu_ HT_ 21 77 impl_ValidRaga.K21 ?_; refine pu_ HT_ 22 78 impl_ValidRaga.K22 ?_; refine tk_ HT_ HW_ hHeld 20 76 impl_ValidRaga.K23 ?_; refine tk_ HT_ HW_ hHeld 23 79 impl_ValidRaga.K24 ?_; refine pu_ HT_ 24 80 impl_ValidRaga.K25 ?_; refine pu_ HT_ 25 81 impl_ValidRaga.K26 ?_; refine pu_ HT_ 26 82 impl_ValidRaga.K27 ?_; refine un_ HT_ 27 83 impl_ValidRaga.K28 ?_; refine un_ HT_ 28 84 impl_ValidRaga.K29 ?_; refine un_ HT_ 29 85 impl_ValidRaga.K30 ?_; refine un_ HT_ 30 86 impl_ValidRaga.K31 ?_; refine un_ HT_ 31 87 impl_ValidRaga.K32 ?_; refine un_ HT_ 32 88 impl_ValidRaga.K33 ?_; refine un_ HT_ 33 89 impl_ValidRaga.K34 ?_; refine un_ HT_ 34 90 impl_ValidRaga.K35 ?_; refine un_ HT_ 35 91 impl_ValidRaga.K36 ?_; refine un_ HT_ 36 92 impl_ValidRaga.K37 ?_; refine un_ HT_ 37 93 impl_ValidRaga.K38 ?_; refine un_ HT_ 38 94 impl_ValidRaga.K39 ?_; refine un_ HT_ 39 95 impl_ValidRaga.K40 ?_; refine pu_ HT_ 40 96 impl_ValidRaga.K41 ?_
               refine done_ (done_of HT_.out (by kernel_rfl)) ?_
               try go_wp2
               go_ret
               exact ⟨by first | rfl | (simp [errW_none, errW_some] <;> rfl) | (simp [*, errW_none, errW_some] <;> rfl), bg_ HB.out GE254.out⟩
              ·rw [if_neg c42] at H
               have c42b0 : ((rd (rd_L1 l0_5 x51_2) 0) == (rd (rd_L1 l0_5 x51_2) 1)) = false := beq_eq_false_iff_ne.mpr c42
               have c42b1 : ((rd (rd_L1 l0_5 x51_2) 0) != (rd (rd_L1 l0_5 x51_2) 1)) = true := bne_iff_ne.mpr c42
               by_cases c44 : x51_2 > 0
               ·rw [if_pos c44] at H
                have c44b0 : decide (0 < x51_2) = true := decide_eq_true c44
                clear c44
                obtain ⟨ji45, hji45⟩ : ∃ j_ : Int, (wrap64 (x51_2 - 1)) = j_ := ⟨_, rfl⟩
                replace H : (if 0 ≤ (ji45) then (if (ji45) < (l0_5.length : Int) then ((slices_Compare_int64_int64.f k2 (rd_L1 l0_5 (ji45)) (rd_L1 l0_5 x51_2)).bind fun t268 => (if t268 ≥ 0 then (some false) else (impl_ValidRaga.l0 k2 l0_5 (l0_5.length : Int) (wrap64 (x51_2 + 1)) a0_0 l0_1 l0_2 a0_3 a0_4 l0_5))) else (none)) else (none)) = some r := by first | (rw [hji45] at H; exact H) | (simp only [hji45] at H ⊢; exact H)
                (try rw [hji45] at A37); (try rw [hji45] at A40)
                have hji45w : (IntKind.i64.wrap (x51_2 - 1)) = ji45 := (i64_w _).trans hji45
                by_cases c46 : 0 ≤ (ji45)
                ·rw [if_pos c46] at H
                 have c46b0 : decide (0 ≤ (ji45)) = true := decide_eq_true c46
                 clear c46
                 by_cases c47 : (ji45) < (l0_5.length : Int)
                 ·rw [if_pos c47] at H
                  have c47b0 : decide ((ji45) < (l0_5.length : Int)) = true := decide_eq_true c47
                  clear c47
                  replace H := Option.bind_eq_some_iff.mp H
                  obtain ⟨t268, A480, H⟩ := H
                  replace H : (if t268 ≥ 0 then (some false) else (impl_ValidRaga.l0 k2 l0_5 (l0_5.length : Int) (wrap64 (x51_2 + 1)) a0_0 l0_1 l0_2 a0_3 a0_4 l0_5)) = some r := H
                  have A48 := Aside0.mk A480; clear A480
                  by_cases c49 : t268 ≥ 0
                  ·rw [if_pos c49] at H
                   have c49b0 : decide (0 ≤ t268) = true := decide_eq_true c49
                   clear c49
                   obtain rfl := Option.some.inj H
                   have p260 : 0 ≤ (x51_2 : Int) := da_
                   have q260 : x51_2 < (l0_5.length : Int) := da_
                   obtain ⟨ad260, A260_0, c260_0, e260, hx260_0, hl260_0, hi260_0⟩ := at_L1 HR0_5.out x51_2 p260 q260; cases e260
                   replace hx260_0 := (wc_ HB.out hx260_0 :)
                   have HR260_0 := Aside0.mk hi260_0; have HC260_0 := Aside0.mk hl260_0; clear hi260_0 hl260_0; replace p260 := eq_true p260; replace q260 := eq_true q260
                   try go_wp2
                   have n0_ := Aside0.mk (blk_drew BK254.out)
                   have n1_ := Aside0.mk (below_drew1 HB.out)
                   clear BK254; clear HB; have BK254 := n0_; have HB := n1_; clear n0_ n1_
                   have p261 : 0 ≤ (0 : Int) := (by omega)
                   have q261 : 0 < ((rd_L1 l0_5 x51_2).length : Int) := da_
                   obtain ⟨ad261, e261, hx261_0⟩ := Kd.at_int HR260_0.out 0 p261 q261; have hw261_0 := hx261_0; (try rw [show ((0 : Int)).toNat = 0 from rfl] at hw261_0); (try rw [show 0 * 1 = 0 from rfl] at hw261_0); (try rw [Addr.add_zero'] at hw261_0); cases e261
                   have qi261 : (0 < (rd_L1 l0_5 x51_2).length) = True := eq_true (by omega)
                   (try rw [show ((0 : Int)).toNat = 0 from rfl] at hx261_0); (try rw [Addr.add_zero'] at hx261_0)
                   replace hx261_0 := (wc_ HB.out hx261_0 :)
                   replace p261 := eq_true p261; replace q261 := eq_true q261
                   have p263 : 0 ≤ (1 : Int) := (by omega)
                   have q263 : 1 < ((rd_L1 l0_5 x51_2).length : Int) := da_
                   obtain ⟨ad263, e263, hx263_0⟩ := Kd.at_int HR260_0.out 1 p263 q263; have hw263_0 := hx263_0; (try rw [show ((1 : Int)).toNat = 1 from rfl] at hw263_0); (try rw [show 1 * 1 = 1 from rfl] at hw263_0); (try simp only [Nat.reduceMul, Nat.reduceEqDiff, Go.Addr.add, ↓reduceIte] at hw263_0); obtain rfl : ad261 = ad263 := (by injection e263); (try simp only [show (1 : Int).toNat = 1 from rfl, Nat.reduceMul, Nat.reduceEqDiff, Go.Addr.add, ↓reduceIte] at hx263_0)
                   have qi263 : (1 < (rd_L1 l0_5 x51_2).length) = True := eq_true (by omega)
                   (try rw [show ((1 : Int)).toNat = 1 from rfl] at hx263_0)
                   replace hx263_0 := (wc_ HB.out hx263_0 :)
                   replace p263 := eq_true p263; replace q263 := eq_true q263
                   have p265 : 0 ≤ (0 : Int) := (by omega)
                   have q265 : 0 < ((rd_L1 l0_5 x51_2).length : Int) := da_
                   obtain ⟨ad265, e265, hx265_0⟩ := Kd.at_int HR260_0.out 0 p265 q265; have hw265_0 := hx265_0; (try rw [show ((0 : Int)).toNat = 0 from rfl] at hw265_0); (try rw [show 0 * 1 = 0 from rfl] at hw265_0); (try rw [Addr.add_zero'] at hw265_0); obtain rfl : ad261 = ad265 := (by injection e265)
                   have qi265 : (0 < (rd_L1 l0_5 x51_2).length) = True := eq_true (by omega)
                   (try rw [show ((0 : Int)).toNat = 0 from rfl] at hx265_0); (try rw [Addr.add_zero'] at hx265_0)
                   replace hx265_0 := (wc_ HB.out hx265_0 :)
                   replace p265 := eq_true p265; replace q265 := eq_true q265
                   have p266 : 0 ≤ (1 : Int) := (by omega)
                   have q266 : 1 < ((rd_L1 l0_5 x51_2).length : Int) := da_
                   obtain ⟨ad266, e266, hx266_0⟩ := Kd.at_int HR260_0.out 1 p266 q266; have hw266_0 := hx266_0; (try rw [show ((1 : Int)).toNat = 1 from rfl] at hw266_0); (try rw [show 1 * 1 = 1 from rfl] at hw266_0); (try simp only [Nat.reduceMul, Nat.reduceEqDiff, Go.Addr.add, ↓reduceIte] at hw266_0); obtain rfl : ad261 = ad266 := (by injection e266); (try simp only [show (1 : Int).toNat = 1 from rfl, Nat.reduceMul, Nat.reduceEqDiff, Go.Addr.add, ↓reduceIte] at hx266_0)
                   have qi266 : (1 < (rd_L1 l0_5 x51_2).length) = True := eq_true (by omega)
                   (try rw [show ((1 : Int)).toNat = 1 from rfl] at hx266_0)
                   replace hx266_0 := (wc_ HB.out hx266_0 :)
                   replace p266 := eq_true p266; replace q266 := eq_true q266
                   have p267 : 0 ≤ ((ji45) : Int) := da_
                   have q267 : (ji45) < (l0_5.length : Int) := da_
                   obtain ⟨ad267, A267_0, c267_0, e267, hx267_0, hl267_0, hi267_0⟩ := at_L1 HR0_5.out (ji45) p267 q267; have hw267_0 := hx267_0; obtain rfl : ad260 = ad267 := (by injection e267)
                   replace hx267_0 := (wc_ HB.out hx267_0 :)
                   have HR267_0 := Aside0.mk hi267_0; have HC267_0 := Aside0.mk hl267_0; clear hi267_0 hl267_0; replace p267 := eq_true p267; replace q267 := eq_true q267
                   refine start_ (n := 41) (S := fun w' => w'.cell? ⟨gb254, 0, none⟩ = some (.string a0_0) ∧ w'.cell? ⟨gb254, 1, none⟩ = some (.slice A0_1 l0_1.length c0_1) ∧ w'.cell? ⟨gb254, 2, none⟩ = some (.slice A0_2 l0_2.length c0_2) ∧ w'.cell? ⟨gb254, 3, none⟩ = some (.int .i64 a0_3) ∧ w'.cell? ⟨gb254, 4, none⟩ = some (.int .i64 a0_4) ∧ w'.cell? ⟨gb254, 5, none⟩ = some (.slice (some ad260) l0_5.length c0_5) ∧ w'.cell? ad261 = some (.int .i64 (rd (rd_L1 l0_5 x51_2) 0)) ∧ w'.cell? ⟨ad261.block, ad261.off + 1, none⟩ = some (.int .i64 (rd (rd_L1 l0_5 x51_2) 1)) ∧ w'.cell? ad261 = some (.int .i64 (rd (rd_L1 l0_5 x51_2) 0)) ∧ w'.cell? ⟨ad261.block, ad261.off + 1, none⟩ = some (.int .i64 (rd (rd_L1 l0_5 x51_2) 1)) ∧ w'.cell? (ad260.add ((ji45)).toNat) = some (.slice A267_0 (rd_L1 l0_5 (ji45)).length c267_0)) (ds := []) impl_ValidRaga.K0 (by kernel_rfl) rfl rfl ⟨(blk_cell BK254.out 0).trans rfl, (blk_cell BK254.out 1).trans rfl, (blk_cell BK254.out 2).trans rfl, (blk_cell BK254.out 3).trans rfl, (blk_cell BK254.out 4).trans rfl, (blk_cell BK254.out 5).trans rfl, (wc_ HB.out hw261_0 :), (wc_ HB.out hw263_0 :), (wc_ HB.out hw265_0 :), (wc_ HB.out hw266_0 :), (wc_ HB.out hw267_0 :)⟩ (fun hHeld => ?_); refine with_tabW impl_ValidRaga.tab6 impl_ValidRaga.bits6 (fun HT_ HW_ => ?_)
                   generalize wr.drew = w50 at BK254 HB HR267_0 hx261_0 hx263_0 hx265_0 hx266_0 hx267_0 hHeld ⊢
                   refine pu_ HT_ 0 56 impl_ValidRaga.K1 ?_; refine pu_ HT_ 1 57 impl_ValidRaga.K2 ?_; refine pu_ HT_ 2 58 impl_ValidRaga.K3 ?_; refine pu_ HT_ 3 59 impl_ValidRaga.K4 ?_; refine pu_ HT_ 4 60 impl_ValidRaga.K5 ?_; refine pu_ HT_ 5 61 impl_ValidRaga.K6 ?_; refine tk_ HT_ HW_ hHeld 6 62 impl_ValidRaga.K7 ?_
                   refine one_ (i := 7) (N := some 63) impl_ValidRaga.K8 rfl rfl (one_of HT_.out (by kernel_rfl)) (by decide) (fun K hK => ?_)
                   refine goes_ Try.func115 (by kernel_rfl) rfl #[.int .i64 (rd (rd_L1 l0_5 x51_2) 0)] (by rfl) rfl rfl av_ ?_
                   with_reducible refine (impl_toneOk.calls (rd (rd_L1 l0_5 x51_2) 0) true _ A37.out).mono ?_
                   rintro e w' ⟨rfl, ⟨nd, rfl⟩⟩
                   refine ⟨_, rfl, ?_⟩
                   refine hK.out _ _ ⟨(blk_cell BK254.out 0).trans rfl, (blk_cell BK254.out 1).trans rfl, (blk_cell BK254.out 2).trans rfl, (blk_cell BK254.out 3).trans rfl, (blk_cell BK254.out 4).trans rfl, (blk_cell BK254.out 5).trans rfl, (wc_ HB.out hw261_0 :), (wc_ HB.out hw263_0 :), (wc_ HB.out hw265_0 :), (wc_ HB.out hw266_0 :), (wc_ HB.out hw267_0 :)⟩ (fun hHeld => ?_)
                   clear hK K; refine norm_ (a' := ?_) ?_ ?_; rotate_left
                   ·show Act.put _ (some 63) _ = _
                    go_simp
                    rfl
                   refine pu_ HT_ 8 64 impl_ValidRaga.K9 ?_; refine pu_ HT_ 9 65 impl_ValidRaga.K10 ?_; refine pu_ HT_ 10 66 impl_ValidRaga.K11 ?_; refine pu_ HT_ 11 67 impl_ValidRaga.K12 ?_; refine pu_ HT_ 12 68 impl_ValidRaga.K13 ?_; refine tk_ HT_ HW_ hHeld 13 69 impl_ValidRaga.K14 ?_
                   refine one_ (i := 14) (N := some 70) impl_ValidRaga.K15 rfl rfl (one_of HT_.out (by kernel_rfl)) (by decide) (fun K hK => ?_)
                   refine goes_ Try.func115 (by kernel_rfl) rfl #[.int .i64 (rd (rd_L1 l0_5 x51_2) 1)] (by rfl) rfl rfl av_ ?_
                   with_reducible refine (impl_toneOk.calls (rd (rd_L1 l0_5 x51_2) 1) true _ A40.out).mono ?_
                   rintro e w' ⟨rfl, ⟨nd, rfl⟩⟩
                   refine ⟨_, rfl, ?_⟩
                   refine hK.out _ _ ⟨(blk_cell BK254.out 0).trans rfl, (blk_cell BK254.out 1).trans rfl, (blk_cell BK254.out 2).trans rfl, (blk_cell BK254.out 3).trans rfl, (blk_cell BK254.out 4).trans rfl, (blk_cell BK254.out 5).trans rfl, (wc_ HB.out hw261_0 :), (wc_ HB.out hw263_0 :), (wc_ HB.out hw265_0 :), (wc_ HB.out hw266_0 :), (wc_ HB.out hw267_0 :)⟩ (fun hHeld => ?_)
                   clear hK K; refine norm_ (a' := ?_) ?_ ?_; rotate_left
                   ·show Act.put _ (some 70) _ = _
                    go_simp
                    rfl
                   refine pu_ HT_ 15 71 impl_ValidRaga.K16 ?_; refine pu_ HT_ 16 72 impl_ValidRaga.K17 ?_; refine pu_ HT_ 17 73 impl_ValidRaga.K18 ?_; refine pu_ HT_ 18 74 impl_ValidRaga.K19 ?_; refine pu_ HT_ 19 75 impl_ValidRaga.K20 ?_; refine pu_ HT_ 21 77 impl_ValidRaga.K21 ?_; refine pu_ HT_ 22 78 impl_ValidRaga.K22 ?_; refine tk_ HT_ HW_ hHeld 20 76 impl_ValidRaga.K23 ?_; refine tk_ HT_ HW_ hHeld 23 79 impl_ValidRaga.K24 ?_; refine pu_ HT_ 24 80 impl_ValidRaga.K25 ?_; refine pu_ HT_ 25 81 impl_ValidRaga.K26 ?_; refine pu_ HT_ 26 82 impl_ValidRaga.K27 ?_; refine pu_ HT_ 27 83 impl_ValidRaga.K28 ?_; refine pu_ HT_ 28 84 impl_ValidRaga.K29 ?_; refine pu_ HT_ 29 85 impl_ValidRaga.K30 ?_; refine pu_ HT_ 30 86 impl_ValidRaga.K31 ?_; refine pu_ HT_ 32 88 impl_ValidRaga.K42 ?_; refine pu_ HT_ 33 89 impl_ValidRaga.K43 ?_; refine pu_ HT_ 36 92 impl_ValidRaga.K44 ?_; refine tk_ HT_ HW_ hHeld 31 87 impl_ValidRaga.K45 ?_; refine pu_ HT_ 34 90 impl_ValidRaga.K46 ?_; refine tk_ HT_ HW_ hHeld 35 91 impl_ValidRaga.K37 ?_
                   refine one_ (i := 37) (N := some 93) impl_ValidRaga.K38 rfl rfl (one_of HT_.out (by kernel_rfl)) (by decide) (fun K hK => ?_)
                   refine goes_ Try.func116 (by kernel_rfl) rfl #[.slice A267_0 (rd_L1 l0_5 (ji45)).length c267_0, .slice (some ad261) (rd_L1 l0_5 x51_2).length c260_0] (by rfl) rfl rfl (by (try simp only [List.map_toArray, List.map_cons, List.map_nil]); first | done | (simp only [hji45]; rfl) | rfl | (simp only [List.length_drop, List.length_take]; rfl)) ?_
                   with_reducible refine (slices_Compare_int64_int64.calls k2 _ _ (rd_L1 l0_5 (ji45)) _ _ (rd_L1 l0_5 x51_2) t268 _ ?side1 ?side2 ?side3 ?side4 A48.out).mono ?_
                   (case side1 => repeat (first | exact (Kd.C_below HR267_0.out (bg_ HB.out GE254.out)) | (with_reducible refine Kd.C_alloc ?_ _) | (with_reducible refine Kd.C_drewN ?_ _) | (with_reducible refine Kd.C_drew ?_)))
                   (case side2 => exact HC267_0.out)
                   (case side3 => repeat (first | exact (Kd.C_below HR260_0.out (bg_ HB.out GE254.out)) | (with_reducible refine Kd.C_alloc ?_ _) | (with_reducible refine Kd.C_drewN ?_ _) | (with_reducible refine Kd.C_drew ?_)))
                   (case side4 => exact HC260_0.out)
                   rintro e w' ⟨rfl, ⟨nd, rfl⟩⟩
                   refine ⟨_, rfl, ?_⟩
                   refine hK.out _ _ ⟨(blk_cell BK254.out 0).trans rfl, (blk_cell BK254.out 1).trans rfl, (blk_cell BK254.out 2).trans rfl, (blk_cell BK254.out 3).trans rfl, (blk_cell BK254.out 4).trans rfl, (blk_cell BK254.out 5).trans rfl, (wc_ HB.out hw261_0 :), (wc_ HB.out hw263_0 :), (wc_ HB.out hw265_0 :), (wc_ HB.out hw266_0 :), (wc_ HB.out hw267_0 :)⟩ (fun hHeld => ?_)
                   clear hK K; refine norm_ (a' := ?_) ?_ ?_; rotate_left
                   ·show Act.put _ (some 93) _ = _
                    go_simp
                    rfl
                   refine pu_ HT_ 38 94 impl_ValidRaga.K39 ?_; refine pu_ HT_ 39 95 impl_ValidRaga.K40 ?_; refine pu_ HT_ 40 96 impl_ValidRaga.K41 ?_
                   refine done_ (done_of HT_.out (by kernel_rfl)) ?_
                   try go_wp2
                   go_ret
                   exact ⟨by first | rfl | (simp [errW_none, errW_some] <;> rfl) | (simp only [← hji45]; first | rfl | (simp [errW_none, errW_some] <;> rfl)) | (simp [*, errW_none, errW_some] <;> rfl), bg_ HB.out GE254.out⟩
                  ·rw [if_neg c49] at H
                   have c49b0 : decide (0 ≤ t268) = false := decide_eq_false c49
                   clear c49
                   have H' := Aside0.mk H
                   clear H
                   have p260 : 0 ≤ (x51_2 : Int) := da_
                   have q260 : x51_2 < (l0_5.length : Int) := da_
                   obtain ⟨ad260, A260_0, c260_0, e260, hx260_0, hl260_0, hi260_0⟩ := at_L1 HR0_5.out x51_2 p260 q260; cases e260
                   replace hx260_0 := (wc_ HB.out hx260_0 :)
                   have HR260_0 := Aside0.mk hi260_0; have HC260_0 := Aside0.mk hl260_0; clear hi260_0 hl260_0; replace p260 := eq_true p260; replace q260 := eq_true q260
                   try go_wp2
                   have n0_ := Aside0.mk (blk_drew BK254.out)
                   have n1_ := Aside0.mk (below_drew1 HB.out)
                   clear BK254; clear HB; have BK254 := n0_; have HB := n1_; clear n0_ n1_
                   have p261 : 0 ≤ (0 : Int) := (by omega)
                   have q261 : 0 < ((rd_L1 l0_5 x51_2).length : Int) := da_
                   obtain ⟨ad261, e261, hx261_0⟩ := Kd.at_int HR260_0.out 0 p261 q261; have hw261_0 := hx261_0; (try rw [show ((0 : Int)).toNat = 0 from rfl] at hw261_0); (try rw [show 0 * 1 = 0 from rfl] at hw261_0); (try rw [Addr.add_zero'] at hw261_0); cases e261
                   have qi261 : (0 < (rd_L1 l0_5 x51_2).length) = True := eq_true (by omega)
                   (try rw [show ((0 : Int)).toNat = 0 from rfl] at hx261_0); (try rw [Addr.add_zero'] at hx261_0)
                   replace hx261_0 := (wc_ HB.out hx261_0 :)
                   replace p261 := eq_true p261; replace q261 := eq_true q261
                   have p263 : 0 ≤ (1 : Int) := (by omega)
                   have q263 : 1 < ((rd_L1 l0_5 x51_2).length : Int) := da_
                   obtain ⟨ad263, e263, hx263_0⟩ := Kd.at_int HR260_0.out 1 p263 q263; have hw263_0 := hx263_0; (try rw [show ((1 : Int)).toNat = 1 from rfl] at hw263_0); (try rw [show 1 * 1 = 1 from rfl] at hw263_0); (try simp only [Nat.reduceMul, Nat.reduceEqDiff, Go.Addr.add, ↓reduceIte] at hw263_0); obtain rfl : ad261 = ad263 := (by injection e263); (try simp only [show (1 : Int).toNat = 1 from rfl, Nat.reduceMul, Nat.reduceEqDiff, Go.Addr.add, ↓reduceIte] at hx263_0)
                   have qi263 : (1 < (rd_L1 l0_5 x51_2).length) = True := eq_true (by omega)
                   (try rw [show ((1 : Int)).toNat = 1 from rfl] at hx263_0)
                   replace hx263_0 := (wc_ HB.out hx263_0 :)
                   replace p263 := eq_true p263; replace q263 := eq_true q263
                   have p265 : 0 ≤ (0 : Int) := (by omega)
                   have q265 : 0 < ((rd_L1 l0_5 x51_2).length : Int) := da_
                   obtain ⟨ad265, e265, hx265_0⟩ := Kd.at_int HR260_0.out 0 p265 q265; have hw265_0 := hx265_0; (try rw [show ((0 : Int)).toNat = 0 from rfl] at hw265_0); (try rw [show 0 * 1 = 0 from rfl] at hw265_0); (try rw [Addr.add_zero'] at hw265_0); obtain rfl : ad261 = ad265 := (by injection e265)
                   have qi265 : (0 < (rd_L1 l0_5 x51_2).length) = True := eq_true (by omega)
                   (try rw [show ((0 : Int)).toNat = 0 from rfl] at hx265_0); (try rw [Addr.add_zero'] at hx265_0)
                   replace hx265_0 := (wc_ HB.out hx265_0 :)
                   replace p265 := eq_true p265; replace q265 := eq_true q265
                   have p266 : 0 ≤ (1 : Int) := (by omega)
                   have q266 : 1 < ((rd_L1 l0_5 x51_2).length : Int) := da_
                   obtain ⟨ad266, e266, hx266_0⟩ := Kd.at_int HR260_0.out 1 p266 q266; have hw266_0 := hx266_0; (try rw [show ((1 : Int)).toNat = 1 from rfl] at hw266_0); (try rw [show 1 * 1 = 1 from rfl] at hw266_0); (try simp only [Nat.reduceMul, Nat.reduceEqDiff, Go.Addr.add, ↓reduceIte] at hw266_0); obtain rfl : ad261 = ad266 := (by injection e266); (try simp only [show (1 : Int).toNat = 1 from rfl, Nat.reduceMul, Nat.reduceEqDiff, Go.Addr.add, ↓reduceIte] at hx266_0)
                   have qi266 : (1 < (rd_L1 l0_5 x51_2).length) = True := eq_true (by omega)
                   (try rw [show ((1 : Int)).toNat = 1 from rfl] at hx266_0)
                   replace hx266_0 := (wc_ HB.out hx266_0 :)
                   replace p266 := eq_true p266; replace q266 := eq_true q266
                   have p267 : 0 ≤ ((ji45) : Int) := da_
                   have q267 : (ji45) < (l0_5.length : Int) := da_
                   obtain ⟨ad267, A267_0, c267_0, e267, hx267_0, hl267_0, hi267_0⟩ := at_L1 HR0_5.out (ji45) p267 q267; have hw267_0 := hx267_0; obtain rfl : ad260 = ad267 := (by injection e267)
                   replace hx267_0 := (wc_ HB.out hx267_0 :)
                   have HR267_0 := Aside0.mk hi267_0; have HC267_0 := Aside0.mk hl267_0; clear hi267_0 hl267_0; replace p267 := eq_true p267; replace q267 := eq_true q267
                   refine start_ (n := 41) (S := fun w' => w'.cell? ⟨gb254, 0, none⟩ = some (.string a0_0) ∧ w'.cell? ⟨gb254, 1, none⟩ = some (.slice A0_1 l0_1.length c0_1) ∧ w'.cell? ⟨gb254, 2, none⟩ = some (.slice A0_2 l0_2.length c0_2) ∧ w'.cell? ⟨gb254, 3, none⟩ = some (.int .i64 a0_3) ∧ w'.cell? ⟨gb254, 4, none⟩ = some (.int .i64 a0_4) ∧ w'.cell? ⟨gb254, 5, none⟩ = some (.slice (some ad260) l0_5.length c0_5) ∧ w'.cell? ad261 = some (.int .i64 (rd (rd_L1 l0_5 x51_2) 0)) ∧ w'.cell? ⟨ad261.block, ad261.off + 1, none⟩ = some (.int .i64 (rd (rd_L1 l0_5 x51_2) 1)) ∧ w'.cell? ad261 = some (.int .i64 (rd (rd_L1 l0_5 x51_2) 0)) ∧ w'.cell? ⟨ad261.block, ad261.off + 1, none⟩ = some (.int .i64 (rd (rd_L1 l0_5 x51_2) 1)) ∧ w'.cell? (ad260.add ((ji45)).toNat) = some (.slice A267_0 (rd_L1 l0_5 (ji45)).length c267_0)) (ds := []) impl_ValidRaga.K0 (by kernel_rfl) rfl rfl ⟨(blk_cell BK254.out 0).trans rfl, (blk_cell BK254.out 1).trans rfl, (blk_cell BK254.out 2).trans rfl, (blk_cell BK254.out 3).trans rfl, (blk_cell BK254.out 4).trans rfl, (blk_cell BK254.out 5).trans rfl, (wc_ HB.out hw261_0 :), (wc_ HB.out hw263_0 :), (wc_ HB.out hw265_0 :), (wc_ HB.out hw266_0 :), (wc_ HB.out hw267_0 :)⟩ (fun hHeld => ?_); refine with_tabW impl_ValidRaga.tab6 impl_ValidRaga.bits6 (fun HT_ HW_ => ?_)
                   generalize wr.drew = w51 at BK254 HB HR267_0 hx261_0 hx263_0 hx265_0 hx266_0 hx267_0 hHeld ⊢
                   refine pu_ HT_ 0 56 impl_ValidRaga.K1 ?_; refine pu_ HT_ 1 57 impl_ValidRaga.K2 ?_; refine pu_ HT_ 2 58 impl_ValidRaga.K3 ?_; refine pu_ HT_ 3 59 impl_ValidRaga.K4 ?_; refine pu_ HT_ 4 60 impl_ValidRaga.K5 ?_; refine pu_ HT_ 5 61 impl_ValidRaga.K6 ?_; refine tk_ HT_ HW_ hHeld 6 62 impl_ValidRaga.K7 ?_
                   refine one_ (i := 7) (N := some 63) impl_ValidRaga.K8 rfl rfl (one_of HT_.out (by kernel_rfl)) (by decide) (fun K hK => ?_)
                   refine goes_ Try.func115 (by kernel_rfl) rfl #[.int .i64 (rd (rd_L1 l0_5 x51_2) 0)] (by rfl) rfl rfl av_ ?_
                   with_reducible refine (impl_toneOk.calls (rd (rd_L1 l0_5 x51_2) 0) true _ A37.out).mono ?_
                   rintro e w' ⟨rfl, ⟨nd, rfl⟩⟩
                   refine ⟨_, rfl, ?_⟩
                   refine hK.out _ _ ⟨(blk_cell BK254.out 0).trans rfl, (blk_cell BK254.out 1).trans rfl, (blk_cell BK254.out 2).trans rfl, (blk_cell BK254.out 3).trans rfl, (blk_cell BK254.out 4).trans rfl, (blk_cell BK254.out 5).trans rfl, (wc_ HB.out hw261_0 :), (wc_ HB.out hw263_0 :), (wc_ HB.out hw265_0 :), (wc_ HB.out hw266_0 :), (wc_ HB.out hw267_0 :)⟩ (fun hHeld => ?_)
                   clear hK K; refine norm_ (a' := ?_) ?_ ?_; rotate_left
                   ·show Act.put _ (some 63) _ = _
                    go_simp
                    rfl
                   refine pu_ HT_ 8 64 impl_ValidRaga.K9 ?_; refine pu_ HT_ 9 65 impl_ValidRaga.K10 ?_; refine pu_ HT_ 10 66 impl_ValidRaga.K11 ?_; refine pu_ HT_ 11 67 impl_ValidRaga.K12 ?_; refine pu_ HT_ 12 68 impl_ValidRaga.K13 ?_; refine tk_ HT_ HW_ hHeld 13 69 impl_ValidRaga.K14 ?_
                   refine one_ (i := 14) (N := some 70) impl_ValidRaga.K15 rfl rfl (one_of HT_.out (by kernel_rfl)) (by decide) (fun K hK => ?_)
                   refine goes_ Try.func115 (by kernel_rfl) rfl #[.int .i64 (rd (rd_L1 l0_5 x51_2) 1)] (by rfl) rfl rfl av_ ?_
                   with_reducible refine (impl_toneOk.calls (rd (rd_L1 l0_5 x51_2) 1) true _ A40.out).mono ?_
                   rintro e w' ⟨rfl, ⟨nd, rfl⟩⟩
                   refine ⟨_, rfl, ?_⟩
                   refine hK.out _ _ ⟨(blk_cell BK254.out 0).trans rfl, (blk_cell BK254.out 1).trans rfl, (blk_cell BK254.out 2).trans rfl, (blk_cell BK254.out 3).trans rfl, (blk_cell BK254.out 4).trans rfl, (blk_cell BK254.out 5).trans rfl, (wc_ HB.out hw261_0 :), (wc_ HB.out hw263_0 :), (wc_ HB.out hw265_0 :), (wc_ HB.out hw266_0 :), (wc_ HB.out hw267_0 :)⟩ (fun hHeld => ?_)
                   clear hK K; refine norm_ (a' := ?_) ?_ ?_; rotate_left
                   ·show Act.put _ (some 70) _ = _
                    go_simp
                    rfl
                   refine pu_ HT_ 15 71 impl_ValidRaga.K16 ?_; refine pu_ HT_ 16 72 impl_ValidRaga.K17 ?_; refine pu_ HT_ 17 73 impl_ValidRaga.K18 ?_; refine pu_ HT_ 18 74 impl_ValidRaga.K19 ?_; refine pu_ HT_ 19 75 impl_ValidRaga.K20 ?_; refine pu_ HT_ 21 77 impl_ValidRaga.K21 ?_; refine pu_ HT_ 22 78 impl_ValidRaga.K22 ?_; refine tk_ HT_ HW_ hHeld 20 76 impl_ValidRaga.K23 ?_; refine tk_ HT_ HW_ hHeld 23 79 impl_ValidRaga.K24 ?_; refine pu_ HT_ 24 80 impl_ValidRaga.K25 ?_; refine pu_ HT_ 25 81 impl_ValidRaga.K26 ?_; refine pu_ HT_ 26 82 impl_ValidRaga.K27 ?_; refine pu_ HT_ 27 83 impl_ValidRaga.K28 ?_; refine pu_ HT_ 28 84 impl_ValidRaga.K29 ?_; refine pu_ HT_ 29 85 impl_ValidRaga.K30 ?_; refine pu_ HT_ 30 86 impl_ValidRaga.K31 ?_; refine pu_ HT_ 32 88 impl_ValidRaga.K42 ?_; refine pu_ HT_ 33 89 impl_ValidRaga.K43 ?_; refine pu_ HT_ 36 92 impl_ValidRaga.K44 ?_; refine tk_ HT_ HW_ hHeld 31 87 impl_ValidRaga.K45 ?_; refine pu_ HT_ 34 90 impl_ValidRaga.K46 ?_; refine tk_ HT_ HW_ hHeld 35 91 impl_ValidRaga.K37 ?_
                   refine one_ (i := 37) (N := some 93) impl_ValidRaga.K38 rfl rfl (one_of HT_.out (by kernel_rfl)) (by decide) (fun K hK => ?_)
                   refine goes_ Try.func116 (by kernel_rfl) rfl #[.slice A267_0 (rd_L1 l0_5 (ji45)).length c267_0, .slice (some ad261) (rd_L1 l0_5 x51_2).length c260_0] (by rfl) rfl rfl (by (try simp only [List.map_toArray, List.map_cons, List.map_nil]); first | done | (simp only [hji45]; rfl) | rfl | (simp only [List.length_drop, List.length_take]; rfl)) ?_
                   with_reducible refine (slices_Compare_int64_int64.calls k2 _ _ (rd_L1 l0_5 (ji45)) _ _ (rd_L1 l0_5 x51_2) t268 _ ?side1 ?side2 ?side3 ?side4 A48.out).mono ?_
                   (case side1 => repeat (first | exact (Kd.C_below HR267_0.out (bg_ HB.out GE254.out)) | (with_reducible refine Kd.C_alloc ?_ _) | (with_reducible refine Kd.C_drewN ?_ _) | (with_reducible refine Kd.C_drew ?_)))
                   (case side2 => exact HC267_0.out)
                   (case side3 => repeat (first | exact (Kd.C_below HR260_0.out (bg_ HB.out GE254.out)) | (with_reducible refine Kd.C_alloc ?_ _) | (with_reducible refine Kd.C_drewN ?_ _) | (with_reducible refine Kd.C_drew ?_)))
                   (case side4 => exact HC260_0.out)
                   rintro e w' ⟨rfl, ⟨nd, rfl⟩⟩
                   refine ⟨_, rfl, ?_⟩
                   refine hK.out _ _ ⟨(blk_cell BK254.out 0).trans rfl, (blk_cell BK254.out 1).trans rfl, (blk_cell BK254.out 2).trans rfl, (blk_cell BK254.out 3).trans rfl, (blk_cell BK254.out 4).trans rfl, (blk_cell BK254.out 5).trans rfl, (wc_ HB.out hw261_0 :), (wc_ HB.out hw263_0 :), (wc_ HB.out hw265_0 :), (wc_ HB.out hw266_0 :), (wc_ HB.out hw267_0 :)⟩ (fun hHeld => ?_)
                   clear hK K; refine norm_ (a' := ?_) ?_ ?_; rotate_left
                   ·show Act.put _ (some 93) _ = _
                    go_simp
                    rfl
                   refine pu_ HT_ 38 94 impl_ValidRaga.K39 ?_; refine pu_ HT_ 39 95 impl_ValidRaga.K40 ?_; refine pu_ HT_ 40 96 impl_ValidRaga.K41 ?_
                   refine done_ (done_of HT_.out (by kernel_rfl)) ?_
                   try go_wp2
                   go_roundg k2
                   case measure => have := HJ1.out; have := HK2.out; omega
                   case rel => exact ⟨(wrap64 (x51_2 + 1)), sv_, H', ⟨by have := HJ1.out; have := HK2.out; omega⟩, ⟨by (with_reducible repeat (first | refine blk_drewN ?_ _ | refine blk_drew ?_ | refine blk_alloc ?_ _)); exact BK254.out⟩, ⟨bg_ HB.out GE254.out⟩⟩
                 ·rw [if_neg c47] at H
                  exact absurd H (by simp)
                ·rw [if_neg c46] at H
                 exact absurd H (by simp)
               ·rw [if_neg c44] at H
                have c44b0 : decide (0 < x51_2) = false := decide_eq_false c44
                clear c44
                have H' := Aside0.mk H
                clear H
                have p260 : 0 ≤ (x51_2 : Int) := da_
                have q260 : x51_2 < (l0_5.length : Int) := da_
                obtain ⟨ad260, A260_0, c260_0, e260, hx260_0, hl260_0, hi260_0⟩ := at_L1 HR0_5.out x51_2 p260 q260; cases e260
                replace hx260_0 := (wc_ HB.out hx260_0 :)
                have HR260_0 := Aside0.mk hi260_0; have HC260_0 := Aside0.mk hl260_0; clear hi260_0 hl260_0; replace p260 := eq_true p260; replace q260 := eq_true q260
                try go_wp2
                have n0_ := Aside0.mk (blk_drew BK254.out)
                have n1_ := Aside0.mk (below_drew1 HB.out)
                clear BK254; clear HB; have BK254 := n0_; have HB := n1_; clear n0_ n1_
                have p261 : 0 ≤ (0 : Int) := (by omega)
                have q261 : 0 < ((rd_L1 l0_5 x51_2).length : Int) := da_
                obtain ⟨ad261, e261, hx261_0⟩ := Kd.at_int HR260_0.out 0 p261 q261; have hw261_0 := hx261_0; (try rw [show ((0 : Int)).toNat = 0 from rfl] at hw261_0); (try rw [show 0 * 1 = 0 from rfl] at hw261_0); (try rw [Addr.add_zero'] at hw261_0); cases e261
                have qi261 : (0 < (rd_L1 l0_5 x51_2).length) = True := eq_true (by omega)
                (try rw [show ((0 : Int)).toNat = 0 from rfl] at hx261_0); (try rw [Addr.add_zero'] at hx261_0)
                replace hx261_0 := (wc_ HB.out hx261_0 :)
                replace p261 := eq_true p261; replace q261 := eq_true q261
                have p263 : 0 ≤ (1 : Int) := (by omega)
                have q263 : 1 < ((rd_L1 l0_5 x51_2).length : Int) := da_
                obtain ⟨ad263, e263, hx263_0⟩ := Kd.at_int HR260_0.out 1 p263 q263; have hw263_0 := hx263_0; (try rw [show ((1 : Int)).toNat = 1 from rfl] at hw263_0); (try rw [show 1 * 1 = 1 from rfl] at hw263_0); (try simp only [Nat.reduceMul, Nat.reduceEqDiff, Go.Addr.add, ↓reduceIte] at hw263_0); obtain rfl : ad261 = ad263 := (by injection e263); (try simp only [show (1 : Int).toNat = 1 from rfl, Nat.reduceMul, Nat.reduceEqDiff, Go.Addr.add, ↓reduceIte] at hx263_0)
                have qi263 : (1 < (rd_L1 l0_5 x51_2).length) = True := eq_true (by omega)
                (try rw [show ((1 : Int)).toNat = 1 from rfl] at hx263_0)
                replace hx263_0 := (wc_ HB.out hx263_0 :)
                replace p263 := eq_true p263; replace q263 := eq_true q263
                have p265 : 0 ≤ (0 : Int) := (by omega)
                have q265 : 0 < ((rd_L1 l0_5 x51_2).length : Int) := da_
                obtain ⟨ad265, e265, hx265_0⟩ := Kd.at_int HR260_0.out 0 p265 q265; have hw265_0 := hx265_0; (try rw [show ((0 : Int)).toNat = 0 from rfl] at hw265_0); (try rw [show 0 * 1 = 0 from rfl] at hw265_0); (try rw [Addr.add_zero'] at hw265_0); obtain rfl : ad261 = ad265 := (by injection e265)
                have qi265 : (0 < (rd_L1 l0_5 x51_2).length) = True := eq_true (by omega)
                (try rw [show ((0 : Int)).toNat = 0 from rfl] at hx265_0); (try rw [Addr.add_zero'] at hx265_0)
                replace hx265_0 := (wc_ HB.out hx265_0 :)
                replace p265 := eq_true p265; replace q265 := eq_true q265
                have p266 : 0 ≤ (1 : Int) := (by omega)
                have q266 : 1 < ((rd_L1 l0_5 x51_2).length : Int) := da_
                obtain ⟨ad266, e266, hx266_0⟩ := Kd.at_int HR260_0.out 1 p266 q266; have hw266_0 := hx266_0; (try rw [show ((1 : Int)).toNat = 1 from rfl] at hw266_0); (try rw [show 1 * 1 = 1 from rfl] at hw266_0); (try simp only [Nat.reduceMul, Nat.reduceEqDiff, Go.Addr.add, ↓reduceIte] at hw266_0); obtain rfl : ad261 = ad266 := (by injection e266); (try simp only [show (1 : Int).toNat = 1 from rfl, Nat.reduceMul, Nat.reduceEqDiff, Go.Addr.add, ↓reduceIte] at hx266_0)
                have qi266 : (1 < (rd_L1 l0_5 x51_2).length) = True := eq_true (by omega)
                (try rw [show ((1 : Int)).toNat = 1 from rfl] at hx266_0)
                replace hx266_0 := (wc_ HB.out hx266_0 :)
                replace p266 := eq_true p266; replace q266 := eq_true q266
                refine start_ (n := 41) (S := fun w' => w'.cell? ad261 = some (.int .i64 (rd (rd_L1 l0_5 x51_2) 0)) ∧ w'.cell? ⟨ad261.block, ad261.off + 1, none⟩ = some (.int .i64 (rd (rd_L1 l0_5 x51_2) 1)) ∧ w'.cell? ad261 = some (.int .i64 (rd (rd_L1 l0_5 x51_2) 0)) ∧ w'.cell? ⟨ad261.block, ad261.off + 1, none⟩ = some (.int .i64 (rd (rd_L1 l0_5 x51_2) 1))) (ds := []) impl_ValidRaga.K0 (by kernel_rfl) rfl rfl ⟨(wc_ HB.out hw261_0 :), (wc_ HB.out hw263_0 :), (wc_ HB.out hw265_0 :), (wc_ HB.out hw266_0 :)⟩ (fun hHeld => ?_); refine with_tabW impl_ValidRaga.tab6 impl_ValidRaga.bits6 (fun HT_ HW_ => ?_)
                generalize wr.drew = w52 at BK254 HB hx261_0 hx263_0 hx265_0 hx266_0 hHeld ⊢
                refine pu_ HT_ 0 56 impl_ValidRaga.K1 ?_; refine pu_ HT_ 1 57 impl_ValidRaga.K2 ?_; refine pu_ HT_ 2 58 impl_ValidRaga.K3 ?_; refine pu_ HT_ 3 59 impl_ValidRaga.K4 ?_; refine pu_ HT_ 4 60 impl_ValidRaga.K5 ?_; refine pu_ HT_ 5 61 impl_ValidRaga.K6 ?_; refine tk_ HT_ HW_ hHeld 6 62 impl_ValidRaga.K7 ?_
                refine one_ (i := 7) (N := some 63) impl_ValidRaga.K8 rfl rfl (one_of HT_.out (by kernel_rfl)) (by decide) (fun K hK => ?_)
                refine goes_ Try.func115 (by kernel_rfl) rfl #[.int .i64 (rd (rd_L1 l0_5 x51_2) 0)] (by rfl) rfl rfl av_ ?_
                with_reducible refine (impl_toneOk.calls (rd (rd_L1 l0_5 x51_2) 0) true _ A37.out).mono ?_
                rintro e w' ⟨rfl, ⟨nd, rfl⟩⟩
                refine ⟨_, rfl, ?_⟩
                refine hK.out _ _ ⟨(wc_ HB.out hw261_0 :), (wc_ HB.out hw263_0 :), (wc_ HB.out hw265_0 :), (wc_ HB.out hw266_0 :)⟩ (fun hHeld => ?_)
                clear hK K; refine norm_ (a' := ?_) ?_ ?_; rotate_left
                ·show Act.put _ (some 63) _ = _
                 go_simp
                 rfl
                refine pu_ HT_ 8 64 impl_ValidRaga.K9 ?_; refine pu_ HT_ 9 65 impl_ValidRaga.K10 ?_; refine pu_ HT_ 10 66 impl_ValidRaga.K11 ?_; refine pu_ HT_ 11 67 impl_ValidRaga.K12 ?_; refine pu_ HT_ 12 68 impl_ValidRaga.K13 ?_; refine tk_ HT_ HW_ hHeld 13 69 impl_ValidRaga.K14 ?_
                refine one_ (i := 14) (N := some 70) impl_ValidRaga.K15 rfl rfl (one_of HT_.out (by kernel_rfl)) (by decide) (fun K hK => ?_)
                refine goes_ Try.func115 (by kernel_rfl) rfl #[.int .i64 (rd (rd_L1 l0_5 x51_2) 1)] (by rfl) rfl rfl av_ ?_
                with_reducible refine (impl_toneOk.calls (rd (rd_L1 l0_5 x51_2) 1) true _ A40.out).mono ?_
                rintro e w' ⟨rfl, ⟨nd, rfl⟩⟩
                refine ⟨_, rfl, ?_⟩
                refine hK.out _ _ ⟨(wc_ HB.out hw261_0 :), (wc_ HB.out hw263_0 :), (wc_ HB.out hw265_0 :), (wc_ HB.out hw266_0 :)⟩ (fun hHeld => ?_)
                clear hK K; refine norm_ (a' := ?_) ?_ ?_; rotate_left
                ·show Act.put _ (some 70) _ = _
                 go_simp
                 rfl
                refine pu_ HT_ 15 71 impl_ValidRaga.K16 ?_; refine pu_ HT_ 16 72 impl_ValidRaga.K17 ?_; refine pu_ HT_ 17 73 impl_ValidRaga.K18 ?_; refine pu_ HT_ 18 74 impl_ValidRaga.K19 ?_; refine pu_ HT_ 19 75 impl_ValidRaga.K20 ?_; refine pu_ HT_ 21 77 impl_ValidRaga.K21 ?_; refine pu_ HT_ 22 78 impl_ValidRaga.K22 ?_; refine tk_ HT_ HW_ hHeld 20 76 impl_ValidRaga.K23 ?_; refine tk_ HT_ HW_ hHeld 23 79 impl_ValidRaga.K24 ?_; refine pu_ HT_ 24 80 impl_ValidRaga.K25 ?_; refine pu_ HT_ 25 81 impl_ValidRaga.K26 ?_; refine pu_ HT_ 26 82 impl_ValidRaga.K27 ?_; refine pu_ HT_ 27 83 impl_ValidRaga.K28 ?_; refine pu_ HT_ 28 84 impl_ValidRaga.K29 ?_; refine pu_ HT_ 29 85 impl_ValidRaga.K30 ?_; refine un_ HT_ 30 86 impl_ValidRaga.K31 ?_; refine un_ HT_ 31 87 impl_ValidRaga.K32 ?_; refine un_ HT_ 32 88 impl_ValidRaga.K33 ?_; refine un_ HT_ 33 89 impl_ValidRaga.K34 ?_; refine un_ HT_ 34 90 impl_ValidRaga.K35 ?_; refine un_ HT_ 35 91 impl_ValidRaga.K36 ?_; refine un_ HT_ 36 92 impl_ValidRaga.K37 ?_; refine un_ HT_ 37 93 impl_ValidRaga.K38 ?_; refine un_ HT_ 38 94 impl_ValidRaga.K39 ?_; refine pu_ HT_ 39 95 impl_ValidRaga.K40 ?_; refine pu_ HT_ 40 96 impl_ValidRaga.K41 ?_
                refine done_ (done_of HT_.out (by kernel_rfl)) ?_
                try go_wp2
                go_roundg k2
                case measure => have := HJ1.out; have := HK2.out; omega
                case rel => exact ⟨(wrap64 (x51_2 + 1)), sv_, H', ⟨by have := HJ1.out; have := HK2.out; omega⟩, ⟨by (with_reducible repeat (first | refine blk_drewN ?_ _ | refine blk_drew ?_ | refine blk_alloc ?_ _)); exact BK254.out⟩, ⟨bg_ HB.out GE254.out⟩⟩
             ·replace c41 := Bool.eq_false_iff.mpr c41
              subst c41
              have H1 : (some false) = some r := by rw [if_neg (show ¬ (false = true) by decide)] at H; exact H
              clear H; have H := H1; clear H1
              obtain rfl := Option.some.inj H
              have p260 : 0 ≤ (x51_2 : Int) := da_
              have q260 : x51_2 < (l0_5.length : Int) := da_
              obtain ⟨ad260, A260_0, c260_0, e260, hx260_0, hl260_0, hi260_0⟩ := at_L1 HR0_5.out x51_2 p260 q260; cases e260
              replace hx260_0 := (wc_ HB.out hx260_0 :)
              have HR260_0 := Aside0.mk hi260_0; have HC260_0 := Aside0.mk hl260_0; clear hi260_0 hl260_0; replace p260 := eq_true p260; replace q260 := eq_true q260
              try go_wp2
              have n0_ := Aside0.mk (blk_drew BK254.out)
              have n1_ := Aside0.mk (below_drew1 HB.out)
              clear BK254; clear HB; have BK254 := n0_; have HB := n1_; clear n0_ n1_
              have p261 : 0 ≤ (0 : Int) := (by omega)
              have q261 : 0 < ((rd_L1 l0_5 x51_2).length : Int) := da_
              obtain ⟨ad261, e261, hx261_0⟩ := Kd.at_int HR260_0.out 0 p261 q261; have hw261_0 := hx261_0; (try rw [show ((0 : Int)).toNat = 0 from rfl] at hw261_0); (try rw [show 0 * 1 = 0 from rfl] at hw261_0); (try rw [Addr.add_zero'] at hw261_0); cases e261
              have qi261 : (0 < (rd_L1 l0_5 x51_2).length) = True := eq_true (by omega)
              (try rw [show ((0 : Int)).toNat = 0 from rfl] at hx261_0); (try rw [Addr.add_zero'] at hx261_0)
              replace hx261_0 := (wc_ HB.out hx261_0 :)
              replace p261 := eq_true p261; replace q261 := eq_true q261
              have p263 : 0 ≤ (1 : Int) := (by omega)
              have q263 : 1 < ((rd_L1 l0_5 x51_2).length : Int) := da_
              obtain ⟨ad263, e263, hx263_0⟩ := Kd.at_int HR260_0.out 1 p263 q263; have hw263_0 := hx263_0; (try rw [show ((1 : Int)).toNat = 1 from rfl] at hw263_0); (try rw [show 1 * 1 = 1 from rfl] at hw263_0); (try simp only [Nat.reduceMul, Nat.reduceEqDiff, Go.Addr.add, ↓reduceIte] at hw263_0); obtain rfl : ad261 = ad263 := (by injection e263); (try simp only [show (1 : Int).toNat = 1 from rfl, Nat.reduceMul, Nat.reduceEqDiff, Go.Addr.add, ↓reduceIte] at hx263_0)
              have qi263 : (1 < (rd_L1 l0_5 x51_2).length) = True := eq_true (by omega)
              (try rw [show ((1 : Int)).toNat = 1 from rfl] at hx263_0)
              replace hx263_0 := (wc_ HB.out hx263_0 :)
              replace p263 := eq_true p263; replace q263 := eq_true q263
              refine start_ (n := 41) (S := fun w' => w'.cell? ad261 = some (.int .i64 (rd (rd_L1 l0_5 x51_2) 0)) ∧ w'.cell? ⟨ad261.block, ad261.off + 1, none⟩ = some (.int .i64 (rd (rd_L1 l0_5 x51_2) 1))) (ds := []) impl_ValidRaga.K0 (by kernel_rfl) rfl rfl ⟨(wc_ HB.out hw261_0 :), (wc_ HB.out hw263_0 :)⟩ (fun hHeld => ?_); refine with_tabW impl_ValidRaga.tab6 impl_ValidRaga.bits6 (fun HT_ HW_ => ?_)
              generalize wr.drew = w53 at BK254 HB hx261_0 hx263_0 hHeld ⊢
              refine pu_ HT_ 0 56 impl_ValidRaga.K1 ?_; refine pu_ HT_ 1 57 impl_ValidRaga.K2 ?_; refine pu_ HT_ 2 58 impl_ValidRaga.K3 ?_; refine pu_ HT_ 3 59 impl_ValidRaga.K4 ?_; refine pu_ HT_ 4 60 impl_ValidRaga.K5 ?_; refine pu_ HT_ 5 61 impl_ValidRaga.K6 ?_; refine tk_ HT_ HW_ hHeld 6 62 impl_ValidRaga.K7 ?_
              refine one_ (i := 7) (N := some 63) impl_ValidRaga.K8 rfl rfl (one_of HT_.out (by kernel_rfl)) (by decide) (fun K hK => ?_)
              refine goes_ Try.func115 (by kernel_rfl) rfl #[.int .i64 (rd (rd_L1 l0_5 x51_2) 0)] (by rfl) rfl rfl av_ ?_
              with_reducible refine (impl_toneOk.calls (rd (rd_L1 l0_5 x51_2) 0) true _ A37.out).mono ?_
              rintro e w' ⟨rfl, ⟨nd, rfl⟩⟩
              refine ⟨_, rfl, ?_⟩
              refine hK.out _ _ ⟨(wc_ HB.out hw261_0 :), (wc_ HB.out hw263_0 :)⟩ (fun hHeld => ?_)
              clear hK K; refine norm_ (a' := ?_) ?_ ?_; rotate_left
              ·show Act.put _ (some 63) _ = _
               go_simp
               rfl
              refine pu_ HT_ 8 64 impl_ValidRaga.K9 ?_; refine pu_ HT_ 9 65 impl_ValidRaga.K10 ?_; refine pu_ HT_ 10 66 impl_ValidRaga.K11 ?_; refine pu_ HT_ 11 67 impl_ValidRaga.K12 ?_; refine pu_ HT_ 12 68 impl_ValidRaga.K13 ?_; refine tk_ HT_ HW_ hHeld 13 69 impl_ValidRaga.K14 ?_
              refine one_ (i := 14) (N := some 70) impl_ValidRaga.K15 rfl rfl (one_of HT_.out (by kernel_rfl)) (by decide) (fun K hK => ?_)
              refine goes_ Try.func115 (by kernel_rfl) rfl #[.int .i64 (rd (rd_L1 l0_5 x51_2) 1)] (by rfl) rfl rfl av_ ?_
              with_reducible refine (impl_toneOk.calls (rd (rd_L1 l0_5 x51_2) 1) false _ A40.out).mono ?_
              rintro e w' ⟨rfl, ⟨nd, rfl⟩⟩
              refine ⟨_, rfl, ?_⟩
              refine hK.out _ _ ⟨(wc_ HB.out hw261_0 :), (wc_ HB.out hw263_0 :)⟩ (fun hHeld => ?_)
              clear hK K; refine norm_ (a' := ?_) ?_ ?_; rotate_left
              ·show Act.put _ (some 70) _ = _
               go_simp
               rfl
              refine pu_ HT_ 15 71 impl_ValidRaga.K16 ?_; refine pu_ HT_ 16 72 impl_ValidRaga.K17 ?_; refine pu_ HT_ 17 73 impl_ValidRaga.K18 ?_; refine un_ HT_ 18 74 impl_ValidRaga.K19 ?_; refine un_ HT_ 19 75 impl_ValidRaga.K20 ?_; refine un_ HT_ 20 76 impl_ValidRaga.K47 ?_; refine un_ HT_ 21 77 impl_ValidRaga.K48 ?_; refine un_ HT_ 22 78 impl_ValidRaga.K23 ?_; refine un_ HT_ 23 79 impl_ValidRaga.K24 ?_; refine un_ HT_ 24 80 impl_ValidRaga.K25 ?_; refine pu_ HT_ 25 81 impl_ValidRaga.K26 ?_; refine pu_ HT_ 26 82 impl_ValidRaga.K27 ?_; refine un_ HT_ 27 83 impl_ValidRaga.K28 ?_; refine un_ HT_ 28 84 impl_ValidRaga.K29 ?_; refine un_ HT_ 29 85 impl_ValidRaga.K30 ?_; refine un_ HT_ 30 86 impl_ValidRaga.K31 ?_; refine un_ HT_ 31 87 impl_ValidRaga.K32 ?_; refine un_ HT_ 32 88 impl_ValidRaga.K33 ?_; refine un_ HT_ 33 89 impl_ValidRaga.K34 ?_; refine un_ HT_ 34 90 impl_ValidRaga.K35 ?_; refine un_ HT_ 35 91 impl_ValidRaga.K36 ?_; refine un_ HT_ 36 92 impl_ValidRaga.K37 ?_; refine un_ HT_ 37 93 impl_ValidRaga.K38 ?_; refine un_ HT_ 38 94 impl_ValidRaga.K39 ?_; refine un_ HT_ 39 95 impl_ValidRaga.K40 ?_; refine pu_ HT_ 40 96 impl_ValidRaga.K41 ?_
              refine done_ (done_of HT_.out (by kernel_rfl)) ?_
              try go_wp2
              go_ret
              exact ⟨by first | rfl | (simp [errW_none, errW_some] <;> rfl) | (simp [*, errW_none, errW_some] <;> rfl), bg_ HB.out GE254.out⟩
            ·rw [if_neg c39] at H
             exact absurd H (by simp)
           ·replace c38 := Bool.eq_false_iff.mpr c38
            subst c38
            have H1 : (some false) = some r := by rw [if_neg (show ¬ (false = true) by decide)] at H; exact H
            clear H; have H := H1; clear H1
            obtain rfl := Option.some.inj H
            have p260 : 0 ≤ (x51_2 : Int) := da_
            have q260 : x51_2 < (l0_5.length : Int) := da_
            obtain ⟨ad260, A260_0, c260_0, e260, hx260_0, hl260_0, hi260_0⟩ := at_L1 HR0_5.out x51_2 p260 q260; cases e260
            replace hx260_0 := (wc_ HB.out hx260_0 :)
            have HR260_0 := Aside0.mk hi260_0; have HC260_0 := Aside0.mk hl260_0; clear hi260_0 hl260_0; replace p260 := eq_true p260; replace q260 := eq_true q260
            try go_wp2
            have n0_ := Aside0.mk (blk_drew BK254.out)
            have n1_ := Aside0.mk (below_drew1 HB.out)
            clear BK254; clear HB; have BK254 := n0_; have HB := n1_; clear n0_ n1_
            have p261 : 0 ≤ (0 : Int) := (by omega)
            have q261 : 0 < ((rd_L1 l0_5 x51_2).length : Int) := da_
            obtain ⟨ad261, e261, hx261_0⟩ := Kd.at_int HR260_0.out 0 p261 q261; have hw261_0 := hx261_0; (try rw [show ((0 : Int)).toNat = 0 from rfl] at hw261_0); (try rw [show 0 * 1 = 0 from rfl] at hw261_0); (try rw [Addr.add_zero'] at hw261_0); cases e261
            have qi261 : (0 < (rd_L1 l0_5 x51_2).length) = True := eq_true (by omega)
            (try rw [show ((0 : Int)).toNat = 0 from rfl] at hx261_0); (try rw [Addr.add_zero'] at hx261_0)
            replace hx261_0 := (wc_ HB.out hx261_0 :)
            replace p261 := eq_true p261; replace q261 := eq_true q261
            refine start_ (n := 41) (S := fun w' => w'.cell? ad261 = some (.int .i64 (rd (rd_L1 l0_5 x51_2) 0))) (ds := []) impl_ValidRaga.K0 (by kernel_rfl) rfl rfl ((wc_ HB.out hw261_0 :)) (fun hHeld => ?_); refine with_tabW impl_ValidRaga.tab6 impl_ValidRaga.bits6 (fun HT_ HW_ => ?_)
            generalize wr.drew = w54 at BK254 HB hx261_0 hHeld ⊢
            refine pu_ HT_ 0 56 impl_ValidRaga.K1 ?_; refine pu_ HT_ 1 57 impl_ValidRaga.K2 ?_; refine pu_ HT_ 2 58 impl_ValidRaga.K3 ?_; refine pu_ HT_ 3 59 impl_ValidRaga.K4 ?_; refine pu_ HT_ 4 60 impl_ValidRaga.K5 ?_; refine pu_ HT_ 5 61 impl_ValidRaga.K6 ?_
            refine take_ (i := 6) (N := some 62) (v := ?_) (a' := ?_) impl_ValidRaga.K7 rfl rfl (take_ofW HT_.out HW_.out (by kernel_rfl)) (fun _ _ _ h => h) (Or.inl ⟨by rfl, ?_⟩) hHeld ?_ ?_
            rotate_left
            ·intro w' s0
             go_simp
             with_reducible rfl
            rotate_left
            ·go_simp
             rfl
            refine one_ (i := 7) (N := some 63) impl_ValidRaga.K8 rfl rfl (one_of HT_.out (by kernel_rfl)) (by decide) (fun K hK => ?_)
            refine goes_ Try.func115 (by kernel_rfl) rfl #[.int .i64 (rd (rd_L1 l0_5 x51_2) 0)] (by rfl) rfl rfl av_ ?_
            with_reducible refine (impl_toneOk.calls (rd (rd_L1 l0_5 x51_2) 0) false _ A37.out).mono ?_
            rintro e w' ⟨rfl, ⟨nd, rfl⟩⟩
            refine ⟨_, rfl, ?_⟩
            refine hK.out _ _ ((wc_ HB.out hw261_0 :)) (fun hHeld => ?_)
            clear hK K; refine norm_ (a' := ?_) ?_ ?_; rotate_left
            ·show Act.put _ (some 63) _ = _
             go_simp
             rfl
            refine pu_ HT_ 8 64 impl_ValidRaga.K9 ?_; refine pu_ HT_ 9 65 impl_ValidRaga.K10 ?_; refine pu_ HT_ 10 66 impl_ValidRaga.K11 ?_; refine un_ HT_ 11 67 impl_ValidRaga.K12 ?_; refine un_ HT_ 12 68 impl_ValidRaga.K13 ?_; refine un_ HT_ 13 69 impl_ValidRaga.K14 ?_; refine un_ HT_ 14 70 impl_ValidRaga.K15 ?_; refine un_ HT_ 15 71 impl_ValidRaga.K16 ?_; refine pu_ HT_ 16 72 impl_ValidRaga.K17 ?_; refine pu_ HT_ 17 73 impl_ValidRaga.K18 ?_; refine un_ HT_ 18 74 impl_ValidRaga.K19 ?_; refine un_ HT_ 19 75 impl_ValidRaga.K20 ?_; refine un_ HT_ 20 76 impl_ValidRaga.K47 ?_; refine un_ HT_ 21 77 impl_ValidRaga.K48 ?_; refine un_ HT_ 22 78 impl_ValidRaga.K23 ?_; refine un_ HT_ 23 79 impl_ValidRaga.K24 ?_; refine un_ HT_ 24 80 impl_ValidRaga.K25 ?_; refine pu_ HT_ 25 81 impl_ValidRaga.K26 ?_; refine pu_ HT_ 26 82 impl_ValidRaga.K27 ?_; refine un_ HT_ 27 83 impl_ValidRaga.K28 ?_; refine un_ HT_ 28 84 impl_ValidRaga.K29 ?_; refine un_ HT_ 29 85 impl_ValidRaga.K30 ?_; refine un_ HT_ 30 86 impl_ValidRaga.K31 ?_; refine un_ HT_ 31 87 impl_ValidRaga.K32 ?_; refine un_ HT_ 32 88 impl_ValidRaga.K33 ?_; refine un_ HT_ 33 89 impl_ValidRaga.K34 ?_; refine un_ HT_ 34 90 impl_ValidRaga.K35 ?_; refine un_ HT_ 35 91 impl_ValidRaga.K36 ?_; refine un_ HT_ 36 92 impl_ValidRaga.K37 ?_; refine un_ HT_ 37 93 impl_ValidRaga.K38 ?_; refine un_ HT_ 38 94 impl_ValidRaga.K39 ?_; refine un_ HT_ 39 95 impl_ValidRaga.K40 ?_; refine pu_ HT_ 40 96 impl_ValidRaga.K41 ?_
            refine done_ (done_of HT_.out (by kernel_rfl)) ?_
            try go_wp2
            go_ret
            exact ⟨by first | rfl | (simp [errW_none, errW_some] <;> rfl) | (simp [*, errW_none, errW_some] <;> rfl), bg_ HB.out GE254.out⟩
          ·rw [if_neg c36] at H
           exact absurd H (by simp)
         ·rw [if_neg c35] at H
          have c35b0 : (((rd_L1 l0_5 x51_2).length : Int) == 2) = false := beq_eq_false_iff_ne.mpr c35
          have c35b1 : (((rd_L1 l0_5 x51_2).length : Int) != 2) = true := bne_iff_ne.mpr c35
          obtain rfl := Option.some.inj H
          have p260 : 0 ≤ (x51_2 : Int) := da_
          have q260 : x51_2 < (l0_5.length : Int) := da_
          obtain ⟨ad260, A260_0, c260_0, e260, hx260_0, hl260_0, hi260_0⟩ := at_L1 HR0_5.out x51_2 p260 q260; cases e260
          replace hx260_0 := (wc_ HB.out hx260_0 :)
          have HR260_0 := Aside0.mk hi260_0; have HC260_0 := Aside0.mk hl260_0; clear hi260_0 hl260_0; replace p260 := eq_true p260; replace q260 := eq_true q260
          try go_wp2
          have n0_ := Aside0.mk (blk_drew BK254.out)
          have n1_ := Aside0.mk (below_drew1 HB.out)
          clear BK254; clear HB; have BK254 := n0_; have HB := n1_; clear n0_ n1_
          refine start_ (n := 41) (S := fun w' => True) (ds := []) impl_ValidRaga.K0 (by kernel_rfl) rfl rfl trivial (fun hHeld => ?_); refine with_tabW impl_ValidRaga.tab6 impl_ValidRaga.bits6 (fun HT_ HW_ => ?_)
          generalize wr.drew = w55 at BK254 HB hHeld ⊢
          refine pu_ HT_ 0 56 impl_ValidRaga.K1 ?_; refine pu_ HT_ 1 57 impl_ValidRaga.K2 ?_; refine pu_ HT_ 2 58 impl_ValidRaga.K3 ?_; refine pu_ HT_ 3 59 impl_ValidRaga.K4 ?_; refine un_ HT_ 4 60 impl_ValidRaga.K5 ?_; refine un_ HT_ 5 61 impl_ValidRaga.K6 ?_; refine un_ HT_ 6 62 impl_ValidRaga.K7 ?_; refine un_ HT_ 7 63 impl_ValidRaga.K8 ?_; refine un_ HT_ 8 64 impl_ValidRaga.K9 ?_; refine pu_ HT_ 9 65 impl_ValidRaga.K10 ?_; refine pu_ HT_ 10 66 impl_ValidRaga.K11 ?_; refine un_ HT_ 11 67 impl_ValidRaga.K12 ?_; refine un_ HT_ 12 68 impl_ValidRaga.K13 ?_; refine un_ HT_ 13 69 impl_ValidRaga.K14 ?_; refine un_ HT_ 14 70 impl_ValidRaga.K15 ?_; refine un_ HT_ 15 71 impl_ValidRaga.K16 ?_; refine pu_ HT_ 16 72 impl_ValidRaga.K17 ?_; refine pu_ HT_ 17 73 impl_ValidRaga.K18 ?_; refine un_ HT_ 18 74 impl_ValidRaga.K19 ?_; refine un_ HT_ 19 75 impl_ValidRaga.K20 ?_; refine un_ HT_ 20 76 impl_ValidRaga.K47 ?_; refine un_ HT_ 21 77 impl_ValidRaga.K48 ?_; refine un_ HT_ 22 78 impl_ValidRaga.K23 ?_; refine un_ HT_ 23 79 impl_ValidRaga.K24 ?_; refine un_ HT_ 24 80 impl_ValidRaga.K25 ?_; refine pu_ HT_ 25 81 impl_ValidRaga.K26 ?_; refine pu_ HT_ 26 82 impl_ValidRaga.K27 ?_; refine un_ HT_ 27 83 impl_ValidRaga.K28 ?_; refine un_ HT_ 28 84 impl_ValidRaga.K29 ?_; refine un_ HT_ 29 85 impl_ValidRaga.K30 ?_; refine un_ HT_ 30 86 impl_ValidRaga.K31 ?_; refine un_ HT_ 31 87 impl_ValidRaga.K32 ?_; refine un_ HT_ 32 88 impl_ValidRaga.K33 ?_; refine un_ HT_ 33 89 impl_ValidRaga.K34 ?_; refine un_ HT_ 34 90 impl_ValidRaga.K35 ?_; refine un_ HT_ 35 91 impl_ValidRaga.K36 ?_; refine un_ HT_ 36 92 impl_ValidRaga.K37 ?_; refine un_ HT_ 37 93 impl_ValidRaga.K38 ?_; refine un_ HT_ 38 94 impl_ValidRaga.K39 ?_; refine un_ HT_ 39 95 impl_ValidRaga.K40 ?_; refine pu_ HT_ 40 96 impl_ValidRaga.K41 ?_
          refine done_ (done_of HT_.out (by kernel_rfl)) ?_
          try go_wp2
          go_ret
          exact ⟨by first | rfl | (simp [errW_none, errW_some] <;> rfl) | (simp [*, errW_none, errW_some] <;> rfl), bg_ HB.out GE254.out⟩
        ·rw [if_neg c34] at H
         exact absurd H (by simp)
       ·rw [if_neg c33] at H
        exact absurd H (by simp)
      ·rw [if_neg c32] at H
       have c32b0 : decide (x51_2 < (l0_5.length : Int)) = false := decide_eq_false c32
       clear c32
       obtain rfl := Option.some.inj H
       go_wp2
       go_ret
       exact ⟨by first | rfl | (simp [errW_none, errW_some] <;> rfl) | (simp [*, errW_none, errW_some] <;> rfl), bg_ HB.out GE254.out⟩
/-! ### impl_AllowedPermutations: function 54 -/
mutual
def impl_AllowedPermutations.j0 : Nat → List Int → Bool → ByteArray → List Int → List Int → Int → Int → List (List Int) → Option (Int × (List (List Int)) × Int)
 | 0, _, _, _, _, _, _, _, _ => none
 | k + 1, x1, x20, x814000, x814001, x814002, x814003, x814004, x814005 => if x20 = true then (some (0, ([] : List (List Int)), 1)) else ((impl_factorial.f k (x1.length : Int)).bind fun t816 => (impl_AllowedPermutations.l0 k x1 0 ([] : List (List Int)) t816 0 x814000 x814001 x814002 x814003 x814004 x814005))
def impl_AllowedPermutations.l0 : Nat → List Int → Int → List (List Int) → Int → Int → ByteArray → List Int → List Int → Int → Int → List (List Int) → Option (Int × (List (List Int)) × Int)
 | 0, _, _, _, _, _, _, _, _, _, _, _ => none
 | k + 1, x1, x7, x8, x23, x24, x814000, x814001, x814002, x814003, x814004, x814005 => if x24 < x23 then ((impl_numberedPermutation.f k x1 x24).bind fun t817 => ((impl_Raga_firstWrong.f k x814000 x814001 x814002 x814003 x814004 x814005 t817).bind fun bt820 => (if bt820.2 = 0 then (if (wrap64 (x7 + 1)) ≤ 3 then (if x8.length < 5864062014805 then (impl_AllowedPermutations.l0 k x1 (wrap64 (x7 + 1)) (x8 ++ [t817]) x23 (wrap64 (x24 + 1)) x814000 x814001 x814002 x814003 x814004 x814005) else (none)) else (impl_AllowedPermutations.l0 k x1 (wrap64 (x7 + 1)) x8 x23 (wrap64 (x24 + 1)) x814000 x814001 x814002 x814003 x814004 x814005)) else (impl_AllowedPermutations.l0 k x1 x7 x8 x23 (wrap64 (x24 + 1)) x814000 x814001 x814002 x814003 x814004 x814005)))) else (some (x7, x8, 0))
end
def impl_AllowedPermutations.f (k : Nat) (a0_0 : ByteArray) (l0_1 : List Int) (l0_2 : List Int) (a0_3 : Int) (a0_4 : Int) (l0_5 : List (List Int)) (l1 : List Int) : Option (Int × (List (List Int)) × Int) := (impl_ValidRaga.f k a0_0 l0_1 l0_2 a0_3 a0_4 l0_5).bind fun t814 => (if t814 = true then ((impl_permutedOk.f k l1).bind fun t815 => (impl_AllowedPermutations.j0 k l1 (!t815) a0_0 l0_1 l0_2 a0_3 a0_4 l0_5)) else (impl_AllowedPermutations.j0 k l1 true a0_0 l0_1 l0_2 a0_3 a0_4 l0_5))
theorem impl_AllowedPermutations.mono_l : ∀ k, (∀ y0 y1 y2 y3 y4 y5 y6 y7, LeO (impl_AllowedPermutations.j0 k y0 y1 y2 y3 y4 y5 y6 y7) (impl_AllowedPermutations.j0 (k + 1) y0 y1 y2 y3 y4 y5 y6 y7)) ∧ (∀ y0 y1 y2 y3 y4 y5 y6 y7 y8 y9 y10, LeO (impl_AllowedPermutations.l0 k y0 y1 y2 y3 y4 y5 y6 y7 y8 y9 y10) (impl_AllowedPermutations.l0 (k + 1) y0 y1 y2 y3 y4 y5 y6 y7 y8 y9 y10))
 | 0 => ⟨fun _ _ _ _ _ _ _ _ r h => by simp [impl_AllowedPermutations.j0] at h, fun _ _ _ _ _ _ _ _ _ _ _ r h => by simp [impl_AllowedPermutations.l0] at h⟩
 | k + 1 => by
  obtain ⟨ih0, ih1⟩ := impl_AllowedPermutations.mono_l k
  refine ⟨?_, ?_⟩
  ·intro y0 y1 y2 y3 y4 y5 y6 y7
   unfold impl_AllowedPermutations.j0
   repeat' first
   | (with_reducible exact ih0 _ _ _ _ _ _ _ _)
   | (with_reducible exact ih1 _ _ _ _ _ _ _ _ _ _ _)
   | (with_reducible exact impl_Raga_firstWrong.mono _ _ _ _ _ _ _ _)
   | (with_reducible exact impl_ValidRaga.mono _ _ _ _ _ _ _)
   | (with_reducible exact impl_factorial.mono _ _)
   | (with_reducible exact impl_numberedPermutation.mono _ _ _)
   | (with_reducible exact impl_permutedOk.mono _ _)
   | (with_reducible exact LeO.refl _)
   | (with_reducible exact LeO.none _)
   | (with_reducible refine LeO.ite ?_ ?_)
   | (with_reducible refine LeO.bind ?_ (fun _ => ?_))
   | exact ih0 _ _ _ _ _ _ _ _
   | exact ih1 _ _ _ _ _ _ _ _ _ _ _
   | exact impl_Raga_firstWrong.mono _ _ _ _ _ _ _ _
   | exact impl_ValidRaga.mono _ _ _ _ _ _ _
   | exact impl_factorial.mono _ _
   | exact impl_numberedPermutation.mono _ _ _
   | exact impl_permutedOk.mono _ _
   | exact LeO.none _
   | refine LeO.ite ?_ ?_
   | refine LeO.bind ?_ (fun _ => ?_)
  ·intro y0 y1 y2 y3 y4 y5 y6 y7 y8 y9 y10
   unfold impl_AllowedPermutations.l0
   repeat' first
   | (with_reducible exact ih0 _ _ _ _ _ _ _ _)
   | (with_reducible exact ih1 _ _ _ _ _ _ _ _ _ _ _)
   | (with_reducible exact impl_Raga_firstWrong.mono _ _ _ _ _ _ _ _)
   | (with_reducible exact impl_ValidRaga.mono _ _ _ _ _ _ _)
   | (with_reducible exact impl_factorial.mono _ _)
   | (with_reducible exact impl_numberedPermutation.mono _ _ _)
   | (with_reducible exact impl_permutedOk.mono _ _)
   | (with_reducible exact LeO.refl _)
   | (with_reducible exact LeO.none _)
   | (with_reducible refine LeO.ite ?_ ?_)
   | (with_reducible refine LeO.bind ?_ (fun _ => ?_))
   | exact ih0 _ _ _ _ _ _ _ _
   | exact ih1 _ _ _ _ _ _ _ _ _ _ _
   | exact impl_Raga_firstWrong.mono _ _ _ _ _ _ _ _
   | exact impl_ValidRaga.mono _ _ _ _ _ _ _
   | exact impl_factorial.mono _ _
   | exact impl_numberedPermutation.mono _ _ _
   | exact impl_permutedOk.mono _ _
   | exact LeO.none _
   | refine LeO.ite ?_ ?_
   | refine LeO.bind ?_ (fun _ => ?_)
theorem impl_AllowedPermutations.mono : ∀ a0 a1 a2 a3 a4 a5 a6 k, LeO (impl_AllowedPermutations.f k a0 a1 a2 a3 a4 a5 a6) (impl_AllowedPermutations.f (k + 1) a0 a1 a2 a3 a4 a5 a6) := by
 intro a0 a1 a2 a3 a4 a5 a6 k
 obtain ⟨ih0, ih1⟩ := impl_AllowedPermutations.mono_l k
 unfold impl_AllowedPermutations.f
 repeat' first
   | (with_reducible exact ih0 _ _ _ _ _ _ _ _)
   | (with_reducible exact ih1 _ _ _ _ _ _ _ _ _ _ _)
   | (with_reducible exact impl_Raga_firstWrong.mono _ _ _ _ _ _ _ _)
   | (with_reducible exact impl_ValidRaga.mono _ _ _ _ _ _ _)
   | (with_reducible exact impl_factorial.mono _ _)
   | (with_reducible exact impl_numberedPermutation.mono _ _ _)
   | (with_reducible exact impl_permutedOk.mono _ _)
   | (with_reducible exact LeO.refl _)
   | (with_reducible exact LeO.none _)
   | (with_reducible refine LeO.ite ?_ ?_)
   | (with_reducible refine LeO.bind ?_ (fun _ => ?_))
   | exact ih0 _ _ _ _ _ _ _ _
   | exact ih1 _ _ _ _ _ _ _ _ _ _ _
   | exact impl_Raga_firstWrong.mono _ _ _ _ _ _ _ _
   | exact impl_ValidRaga.mono _ _ _ _ _ _ _
   | exact impl_factorial.mono _ _
   | exact impl_numberedPermutation.mono _ _ _
   | exact impl_permutedOk.mono _ _
   | exact LeO.none _
   | refine LeO.ite ?_ ?_
   | refine LeO.bind ?_ (fun _ => ?_)
set_option maxHeartbeats 8000000 in
set_option maxRecDepth 100000 in
theorem impl_AllowedPermutations.calls (k : Nat) (a0_0 : ByteArray) (A0_1 : Option Addr) (c0_1 : Nat) (l0_1 : List Int) (A0_2 : Option Addr) (c0_2 : Nat) (l0_2 : List Int) (a0_3 : Int) (a0_4 : Int) (A0_5 : Option Addr) (c0_5 : Nat) (l0_5 : List (List Int)) (A1 : Option Addr) (c1 : Nat) (l1 : List Int) (r1 : Int) (r2 : List (List Int)) (r3 : Int) (w : World) (hr0_1 : Kd.C (Kd.int .i64) w A0_1 l0_1.length l0_1) (hc0_1 : l0_1.length ≤ c0_1) (hr0_2 : Kd.C (Kd.int .i64) w A0_2 l0_2.length l0_2) (hc0_2 : l0_2.length ≤ c0_2) (hr0_5 : Kd.C (Kd.slice 2 (Kd.int .i64)) w A0_5 l0_5.length l0_5) (hc0_5 : l0_5.length ≤ c0_5) (hr1 : Kd.C (Kd.int .i64) w A1 l1.length l1) (hc1 : l1.length ≤ c1) (h : impl_AllowedPermutations.f k a0_0 l0_1 l0_2 a0_3 a0_4 l0_5 l1 = some (r1, r2, r3)) :
  Calls Try.prog 54 #[.agg #[.string a0_0, .slice A0_1 l0_1.length c0_1, .slice A0_2 l0_2.length c0_2, .int .i64 a0_3, .int .i64 a0_4, .slice A0_5 l0_5.length c0_5], .slice A1 l1.length c1] w fun e w' => ∃ v1_ : Value, e = .returned (.tuple #[.int .i64 r1, v1_, .int .i64 r3]) ∧ Kd.S (Kd.slice 2 (Kd.int .i64)) 22 w' w.heap.size (fun _ => True) v1_ r2 ∧ Below w.heap.size w w' := by
 have hu29 := Try.underlying29
 have HR0_1 := Aside0.mk hr0_1
 have HC0_1 := Aside0.mk hc0_1
 clear hr0_1 hc0_1
 have HR0_2 := Aside0.mk hr0_2
 have HC0_2 := Aside0.mk hc0_2
 clear hr0_2 hc0_2
 have HR0_5 := Aside0.mk hr0_5
 have HC0_5 := Aside0.mk hc0_5
 clear hr0_5 hc0_5
 have HR1 := Aside0.mk hr1
 have HC1 := Aside0.mk hc1
 clear hr1 hc1
 have HB := Aside0.mk (Below.refl w.heap.size w)
 have H : ((impl_ValidRaga.f k a0_0 l0_1 l0_2 a0_3 a0_4 l0_5).bind fun t814 => (if t814 = true then ((impl_permutedOk.f k l1).bind fun t815 => (impl_AllowedPermutations.j0 k l1 (!t815) a0_0 l0_1 l0_2 a0_3 a0_4 l0_5)) else (impl_AllowedPermutations.j0 k l1 true a0_0 l0_1 l0_2 a0_3 a0_4 l0_5))) = some (r1, r2, r3) := h
 clear h
 have HC3 := Aside0.mk H
 clear H
 go_enter Try.func54, Try.ntmps54
 go_upto_region 1 with (first | ((with_reducible refine gate_dst (N := 2) rfl ?_); refine box_event ?hg (N := 2) ?hd (cs := #[.string a0_0, .slice A0_1 l0_1.length c0_1, .slice A0_2 l0_2.length c0_2, .int .i64 a0_3, .int .i64 a0_4, .slice A0_5 l0_5.length c0_5]) (t := 29) ?hr ?_; (case hd => rfl); (case hg => rfl); (case hr => first | (go_simp; done) | (go_simp; rfl)); intro gb813 hg w4 hbox hb; have n0_ := Aside0.mk (below_step (ba_ HB.out) hb); have n1_ := Aside0.mk (hbox); have n2_ := Aside0.mk ((by rw [hg]; exact (below_size (ba_ HB.out)) : w.heap.size ≤ gb813)); have n3_ := Aside0.mk ((by rw [hg]; exact (below_size (ba_ HB.out)) : w.heap.size ≤ gb813)); clear HB; have HB := n0_; have BK813 := n1_; have GW813 := n2_; have GE813 := n3_; clear n0_ n1_ n2_ n3_; clear hb hbox hg))
 (try simp only [Act.put, List.setIfInBounds_toArray, List.set_cons_zero, List.set_cons_succ])
 go_cut [20] (fun v20 wc => ∃ (kq : Nat) (x20_2 : Bool), v20 = .bool x20_2 ∧ Aside0 (impl_AllowedPermutations.j0 kq l1 x20_2 a0_0 l0_1 l0_2 a0_3 a0_4 l0_5 = some (r1, r2, r3)) ∧ Aside0 (kq ≤ k) ∧ Aside0 (wc.heap[gb813]? = some (.cells #[.string a0_0, (.slice A0_1 l0_1.length c0_1), (.slice A0_2 l0_2.length c0_2), .int .i64 a0_3, .int .i64 a0_4, (.slice A0_5 l0_5.length c0_5)] 29 (0, 0))) ∧ Aside0 (Below w.heap.size w wc))
 case first =>
  have H := HC3.out
  clear HC3
  replace H := Option.bind_eq_some_iff.mp H
  obtain ⟨t814, A50, H⟩ := H
  replace H : (if t814 = true then ((impl_permutedOk.f k l1).bind fun t815 => (impl_AllowedPermutations.j0 k l1 (!t815) a0_0 l0_1 l0_2 a0_3 a0_4 l0_5)) else (impl_AllowedPermutations.j0 k l1 true a0_0 l0_1 l0_2 a0_3 a0_4 l0_5)) = some (r1, r2, r3) := H
  have A5 := Aside0.mk A50
  clear A50
  by_cases c6 : t814 = true
  ·subst c6
   have H1 : ((impl_permutedOk.f k l1).bind fun t815 => (impl_AllowedPermutations.j0 k l1 (!t815) a0_0 l0_1 l0_2 a0_3 a0_4 l0_5)) = some (r1, r2, r3) := by rw [if_pos rfl] at H; exact H
   clear H
   have H := H1
   clear H1
   replace H := Option.bind_eq_some_iff.mp H
   obtain ⟨t815, A70, H⟩ := H
   replace H : (impl_AllowedPermutations.j0 k l1 (!t815) a0_0 l0_1 l0_2 a0_3 a0_4 l0_5) = some (r1, r2, r3) := H
   have A7 := Aside0.mk A70
   clear A70
   have H' := Aside0.mk H
   clear H
   have hcz8_0 : w4.cell? ⟨gb813, 0, none⟩ = some (.string a0_0) := (blk_cell BK813.out 0).trans rfl
   have hcz8_1 : w4.cell? ⟨gb813, 1, none⟩ = some (.slice A0_1 l0_1.length c0_1) := (blk_cell BK813.out 1).trans rfl
   have hcz8_2 : w4.cell? ⟨gb813, 2, none⟩ = some (.slice A0_2 l0_2.length c0_2) := (blk_cell BK813.out 2).trans rfl
   have hcz8_3 : w4.cell? ⟨gb813, 3, none⟩ = some (.int .i64 a0_3) := (blk_cell BK813.out 3).trans rfl
   have hcz8_4 : w4.cell? ⟨gb813, 4, none⟩ = some (.int .i64 a0_4) := (blk_cell BK813.out 4).trans rfl
   have hcz8_5 : w4.cell? ⟨gb813, 5, none⟩ = some (.slice A0_5 l0_5.length c0_5) := (blk_cell BK813.out 5).trans rfl
   have hfz8_0 := blk_frozen BK813.out 0
   have hfz8_1 := blk_frozen BK813.out 1
   have hfz8_2 := blk_frozen BK813.out 2
   have hfz8_3 := blk_frozen BK813.out 3
   have hfz8_4 := blk_frozen BK813.out 4
   have hfz8_5 := blk_frozen BK813.out 5
   go_wp2_with (first | ((with_reducible refine gate_callee (f := 62) rfl ?_); refine goesL_ (some 14) rfl rfl Try.func62 (by kernel_rfl) rfl #[.agg #[.string a0_0, .slice A0_1 l0_1.length c0_1, .slice A0_2 l0_2.length c0_2, .int .i64 a0_3, .int .i64 a0_4, .slice A0_5 l0_5.length c0_5]] rfl av_ ?_; (with_reducible refine (impl_ValidRaga.calls k a0_0 _ _ l0_1 _ _ l0_2 a0_3 a0_4 _ _ l0_5 true _ ?side1 ?side2 ?side3 ?side4 ?side5 ?side6 A5.out).mono ?_); (case side1 => exact (Kd.C_below HR0_1.out HB.out)); (case side2 => exact HC0_1.out); (case side3 => exact (Kd.C_below HR0_2.out HB.out)); (case side4 => exact HC0_2.out); (case side5 => exact (Kd.C_below HR0_5.out HB.out)); (case side6 => exact HC0_5.out); rintro e w9 ⟨rfl, hb⟩; refine ⟨_, rfl, ?_⟩; have n0_ := Aside0.mk (blk_below (g := gb813) (o := .cells #[.string a0_0, .slice A0_1 l0_1.length c0_1, .slice A0_2 l0_2.length c0_2, .int .i64 a0_3, .int .i64 a0_4, .slice A0_5 l0_5.length c0_5] 29 (0, 0)) (by repeat first | exact BK813.out | refine blk_drewN ?_ _ | refine blk_drew ?_ | refine blk_alloc ?_ _) hb); have n1_ := Aside0.mk (below_step (bg_ HB.out GE813.out) hb); clear BK813; clear HB; have BK813 := n0_; have HB := n1_; clear n0_ n1_; (try clear hb); (try clear hb2); (try clear hk); (try clear hi)) | (go_at_call 106; (with_reducible refine (impl_permutedOk.calls k _ _ l1 t815 _ ?side1 ?side2 A7.out).mono ?_); (case side1 => exact (Kd.C_below HR1.out HB.out)); (case side2 => exact HC1.out); rintro e w10 ⟨rfl, hb⟩; have n0_ := Aside0.mk (blk_below (g := gb813) (o := .cells #[.string a0_0, .slice A0_1 l0_1.length c0_1, .slice A0_2 l0_2.length c0_2, .int .i64 a0_3, .int .i64 a0_4, .slice A0_5 l0_5.length c0_5] 29 (0, 0)) (by repeat first | exact BK813.out | refine blk_drewN ?_ _ | refine blk_drew ?_ | refine blk_alloc ?_ _) hb); have n1_ := Aside0.mk (below_step (bg_ HB.out GE813.out) hb); clear BK813; clear HB; have BK813 := n0_; have HB := n1_; clear n0_ n1_; (try clear hb); (try clear hb2); (try clear hk); (try clear hi)))
   go_meet
   case rel => exact ⟨_, (!t815), sv_, H', ⟨by first | omega | exact Nat.le_refl _⟩, ⟨by (with_reducible repeat (first | refine blk_drewN ?_ _ | refine blk_drew ?_ | refine blk_alloc ?_ _)); exact BK813.out⟩, ⟨bg_ HB.out GE813.out⟩⟩
  ·replace c6 := Bool.eq_false_iff.mpr c6
   subst c6
   have H1 : (impl_AllowedPermutations.j0 k l1 true a0_0 l0_1 l0_2 a0_3 a0_4 l0_5) = some (r1, r2, r3) := by rw [if_neg (show ¬ (false = true) by decide)] at H; exact H
   clear H
   have H := H1
   clear H1
   have H' := Aside0.mk H
   clear H
   have hcz11_0 : w4.cell? ⟨gb813, 0, none⟩ = some (.string a0_0) := (blk_cell BK813.out 0).trans rfl
   have hcz11_1 : w4.cell? ⟨gb813, 1, none⟩ = some (.slice A0_1 l0_1.length c0_1) := (blk_cell BK813.out 1).trans rfl
   have hcz11_2 : w4.cell? ⟨gb813, 2, none⟩ = some (.slice A0_2 l0_2.length c0_2) := (blk_cell BK813.out 2).trans rfl
   have hcz11_3 : w4.cell? ⟨gb813, 3, none⟩ = some (.int .i64 a0_3) := (blk_cell BK813.out 3).trans rfl
   have hcz11_4 : w4.cell? ⟨gb813, 4, none⟩ = some (.int .i64 a0_4) := (blk_cell BK813.out 4).trans rfl
   have hcz11_5 : w4.cell? ⟨gb813, 5, none⟩ = some (.slice A0_5 l0_5.length c0_5) := (blk_cell BK813.out 5).trans rfl
   have hfz11_0 := blk_frozen BK813.out 0
   have hfz11_1 := blk_frozen BK813.out 1
   have hfz11_2 := blk_frozen BK813.out 2
   have hfz11_3 := blk_frozen BK813.out 3
   have hfz11_4 := blk_frozen BK813.out 4
   have hfz11_5 := blk_frozen BK813.out 5
   go_wp2_with (first | ((with_reducible refine gate_callee (f := 62) rfl ?_); refine goesL_ (some 14) rfl rfl Try.func62 (by kernel_rfl) rfl #[.agg #[.string a0_0, .slice A0_1 l0_1.length c0_1, .slice A0_2 l0_2.length c0_2, .int .i64 a0_3, .int .i64 a0_4, .slice A0_5 l0_5.length c0_5]] rfl av_ ?_; (with_reducible refine (impl_ValidRaga.calls k a0_0 _ _ l0_1 _ _ l0_2 a0_3 a0_4 _ _ l0_5 false _ ?side1 ?side2 ?side3 ?side4 ?side5 ?side6 A5.out).mono ?_); (case side1 => exact (Kd.C_below HR0_1.out HB.out)); (case side2 => exact HC0_1.out); (case side3 => exact (Kd.C_below HR0_2.out HB.out)); (case side4 => exact HC0_2.out); (case side5 => exact (Kd.C_below HR0_5.out HB.out)); (case side6 => exact HC0_5.out); rintro e w12 ⟨rfl, hb⟩; refine ⟨_, rfl, ?_⟩; have n0_ := Aside0.mk (blk_below (g := gb813) (o := .cells #[.string a0_0, .slice A0_1 l0_1.length c0_1, .slice A0_2 l0_2.length c0_2, .int .i64 a0_3, .int .i64 a0_4, .slice A0_5 l0_5.length c0_5] 29 (0, 0)) (by repeat first | exact BK813.out | refine blk_drewN ?_ _ | refine blk_drew ?_ | refine blk_alloc ?_ _) hb); have n1_ := Aside0.mk (below_step (bg_ HB.out GE813.out) hb); clear BK813; clear HB; have BK813 := n0_; have HB := n1_; clear n0_ n1_; (try clear hb); (try clear hb2); (try clear hk); (try clear hi)))
   go_meet
   case rel => exact ⟨_, (true), sv_, H', ⟨by first | omega | exact Nat.le_refl _⟩, ⟨by (with_reducible repeat (first | refine blk_drewN ?_ _ | refine blk_drew ?_ | refine blk_alloc ?_ _)); exact BK813.out⟩, ⟨bg_ HB.out GE813.out⟩⟩
 case rest =>
  clear HC3
  (try clear c1); (try clear p2); (try clear c5); (try clear c6); (try clear hcz11_0); (try clear hcz11_1); (try clear hcz11_2); (try clear hcz11_3); (try clear hcz11_4); (try clear hcz11_5); (try clear hcz8_0); (try clear hcz8_1); (try clear hcz8_2); (try clear hcz8_3); (try clear hcz8_4); (try clear hcz8_5); (try clear hfz11_0); (try clear hfz11_1); (try clear hfz11_2); (try clear hfz11_3); (try clear hfz11_4); (try clear hfz11_5); (try clear hfz8_0); (try clear hfz8_1); (try clear hfz8_2); (try clear hfz8_3); (try clear hfz8_4); (try clear hfz8_5)
  obtain ⟨kq, x20_2, rfl, HA, HJ2, BK813, HB⟩ := hcut
  cases kq with
  | zero => exact absurd HA.out (by simp [impl_AllowedPermutations.j0])
  | succ kj2 =>
   have H := HA.out
   clear HA
   simp only [impl_AllowedPermutations.j0] at H
   by_cases c13 : x20_2 = true
   ·subst c13
    have H1 : (some (0, ([] : List (List Int)), 1)) = some (r1, r2, r3) := by rw [if_pos rfl] at H; exact H
    clear H
    have H := H1
    clear H1
    simp only [Option.some.injEq, Prod.mk.injEq] at H
    obtain ⟨rfl, rfl, rfl⟩ := H
    go_wp2
    go_ret3
    exact ⟨_, by first | rfl | (simp [errW_none, errW_some] <;> rfl) | (simp [*, errW_none, errW_some] <;> rfl), by first | exact Kd.S_nil _ _ _ _ _ | exact Kd.N_nil _ _ _ _ _ | exact Kd.V_nil _ _ _ _ _ | exact Kd.Q_nil _ _ _ _ _ | exact Kd.R_nil _ _ _ _ _, bg_ HB.out GE813.out⟩
   ·replace c13 := Bool.eq_false_iff.mpr c13
    subst c13
    have H1 : ((impl_factorial.f kj2 (l1.length : Int)).bind fun t816 => (impl_AllowedPermutations.l0 kj2 l1 0 ([] : List (List Int)) t816 0 a0_0 l0_1 l0_2 a0_3 a0_4 l0_5)) = some (r1, r2, r3) := by rw [if_neg (show ¬ (false = true) by decide)] at H; exact H
    clear H
    have H := H1
    clear H1
    replace H := Option.bind_eq_some_iff.mp H
    obtain ⟨t816, A140, H⟩ := H
    replace H : (impl_AllowedPermutations.l0 kj2 l1 0 ([] : List (List Int)) t816 0 a0_0 l0_1 l0_2 a0_3 a0_4 l0_5) = some (r1, r2, r3) := H
    have A14 := Aside0.mk A140
    clear A140
    have H' := Aside0.mk H
    clear H
    go_wp2_with (first | ((with_reducible refine gate_callee (f := 107) rfl ?_); refine goesL_ (some 23) rfl rfl Try.func107 (by kernel_rfl) rfl #[.int .i64 (l1.length : Int)] rfl av_ ?_; (with_reducible refine (impl_factorial.calls kj2 (l1.length : Int) t816 _ A14.out).mono ?_); rintro e w' ⟨rfl, ⟨nd, rfl⟩⟩; refine ⟨_, rfl, ?_⟩))
    go_loopg [7, 8, 24] kj2 (fun kq v7 v8 v24 w' => ∃ (x7_2 : Int) (x8_2 : List (List Int)) (x24_2 : Int), v7 = .int .i64 x7_2 ∧ v24 = .int .i64 x24_2 ∧ Aside0 (impl_AllowedPermutations.l0 kq l1 x7_2 x8_2 t816 x24_2 a0_0 l0_1 l0_2 a0_3 a0_4 l0_5 = some (r1, r2, r3)) ∧ Aside0 (kq ≤ kj2) ∧ Aside0 (Kd.S (Kd.slice 2 (Kd.int .i64)) 22 w' w.heap.size (fun _ => True) v8 x8_2) ∧ Aside0 (w'.heap[gb813]? = some (.cells #[.string a0_0, (.slice A0_1 l0_1.length c0_1), (.slice A0_2 l0_2.length c0_2), .int .i64 a0_3, .int .i64 a0_4, (.slice A0_5 l0_5.length c0_5)] 29 (0, 0))) ∧ Aside0 (Below w.heap.size w w'))
    case atStart => exact ⟨(0), (([] : List (List Int))), (0), sv_, sv_, H', ⟨Nat.le_refl _⟩, ⟨by first | exact Kd.S_nil _ _ _ _ _ | exact Kd.N_nil _ _ _ _ _ | exact Kd.V_nil _ _ _ _ _ | exact Kd.Q_nil _ _ _ _ _ | exact Kd.R_nil _ _ _ _ _⟩, ⟨by (with_reducible repeat (first | refine blk_drewN ?_ _ | refine blk_drew ?_ | refine blk_alloc ?_ _)); exact BK813.out⟩, ⟨bg_ HB.out GE813.out⟩⟩
    case round =>
     clear H'
     (try clear c1); (try clear p2); (try clear c5); (try clear c6); (try clear c10); (try clear c13); (try clear hcz11_0); (try clear hcz11_1); (try clear hcz11_2); (try clear hcz11_3); (try clear hcz11_4); (try clear hcz11_5); (try clear hcz8_0); (try clear hcz8_1); (try clear hcz8_2); (try clear hcz8_3); (try clear hcz8_4); (try clear hcz8_5); (try clear hfz11_0); (try clear hfz11_1); (try clear hfz11_2); (try clear hfz11_3); (try clear hfz11_4); (try clear hfz11_5); (try clear hfz8_0); (try clear hfz8_1); (try clear hfz8_2); (try clear hfz8_3); (try clear hfz8_4); (try clear hfz8_5); (try clear p2)
     obtain ⟨x7_2, x8_2, x24_2, rfl, rfl, HA, HK2, HO_8, BK813, HB⟩ := hrel
     cases gk with
     | zero => exact absurd HA.out (by simp [impl_AllowedPermutations.l0])
     | succ k2 =>
      have H := HA.out
      clear HA
      simp only [impl_AllowedPermutations.l0] at H
      by_cases c15 : x24_2 < t816
      ·rw [if_pos c15] at H
       have c15b0 : decide (x24_2 < t816) = true := decide_eq_true c15
       clear c15
       replace H := Option.bind_eq_some_iff.mp H
       obtain ⟨t817, A160, H⟩ := H
       replace H : ((impl_Raga_firstWrong.f k2 a0_0 l0_1 l0_2 a0_3 a0_4 l0_5 t817).bind fun bt820 => (if bt820.2 = 0 then (if (wrap64 (x7_2 + 1)) ≤ 3 then (if x8_2.length < 5864062014805 then (impl_AllowedPermutations.l0 k2 l1 (wrap64 (x7_2 + 1)) (x8_2 ++ [t817]) t816 (wrap64 (x24_2 + 1)) a0_0 l0_1 l0_2 a0_3 a0_4 l0_5) else (none)) else (impl_AllowedPermutations.l0 k2 l1 (wrap64 (x7_2 + 1)) x8_2 t816 (wrap64 (x24_2 + 1)) a0_0 l0_1 l0_2 a0_3 a0_4 l0_5)) else (impl_AllowedPermutations.l0 k2 l1 x7_2 x8_2 t816 (wrap64 (x24_2 + 1)) a0_0 l0_1 l0_2 a0_3 a0_4 l0_5))) = some (r1, r2, r3) := H
       have A16 := Aside0.mk A160
       clear A160
       replace H := Option.bind_eq_some_iff.mp H
       obtain ⟨⟨t820, t821⟩, A170, H⟩ := H
       replace H : (if t821 = 0 then (if (wrap64 (x7_2 + 1)) ≤ 3 then (if x8_2.length < 5864062014805 then (impl_AllowedPermutations.l0 k2 l1 (wrap64 (x7_2 + 1)) (x8_2 ++ [t817]) t816 (wrap64 (x24_2 + 1)) a0_0 l0_1 l0_2 a0_3 a0_4 l0_5) else (none)) else (impl_AllowedPermutations.l0 k2 l1 (wrap64 (x7_2 + 1)) x8_2 t816 (wrap64 (x24_2 + 1)) a0_0 l0_1 l0_2 a0_3 a0_4 l0_5)) else (impl_AllowedPermutations.l0 k2 l1 x7_2 x8_2 t816 (wrap64 (x24_2 + 1)) a0_0 l0_1 l0_2 a0_3 a0_4 l0_5)) = some (r1, r2, r3) := H
       have A17 := Aside0.mk A170
       clear A170
       by_cases c18 : t821 = 0
       ·rw [if_pos c18] at H
        have c18b0 : (t821 == 0) = true := beq_iff_eq.mpr c18
        have c18b1 : (t821 != 0) = false := bne_eq_false_iff_eq.mpr c18
        clear c18
        by_cases c19 : (wrap64 (x7_2 + 1)) ≤ 3
        ·rw [if_pos c19] at H
         have c19b0 : decide ((wrap64 (x7_2 + 1)) ≤ 3) = true := decide_eq_true c19
         clear c19
         by_cases c20 : x8_2.length < 5864062014805
         ·rw [if_pos c20] at H
          have LMc20 := Aside0.mk c20
          clear c20
          obtain ⟨y822, hy822⟩ : ∃ y_ : List (List Int), y_ = (x8_2 ++ [t817]) := ⟨_, rfl⟩
          replace H : (impl_AllowedPermutations.l0 k2 l1 (wrap64 (x7_2 + 1)) y822 t816 (wrap64 (x24_2 + 1)) a0_0 l0_1 l0_2 a0_3 a0_4 l0_5) = some (r1, r2, r3) := by first | (rw [hy822]; with_reducible exact H) | (have H2_ := (Option.bind_some _ _).symm.trans H; rw [hy822]; with_reducible exact H2_) | (have H2_ := (Option.bind_some _ _).symm.trans H; with_reducible exact H2_) | with_reducible exact H | (rw [hy822]; exact H) | exact H
          have Ny822 := Aside0.mk hy822
          clear hy822
          have H' := Aside0.mk H
          clear H
          go_wp2_with (first | ((with_reducible refine gate_callee (f := 108) rfl ?_); refine goesL_ (some 29) rfl rfl Try.func108 (by kernel_rfl) rfl #[.slice A1 l1.length c1, .int .i64 x24_2] rfl av_ ?_; (with_reducible refine (impl_numberedPermutation.calls k2 _ _ l1 x24_2 t817 _ ?side1 ?side2 A16.out).mono ?_); (case side1 => exact (Kd.C_below HR1.out HB.out)); (case side2 => exact HC1.out); rintro e w21 ⟨v818, rfl, ho0, hb⟩; refine ⟨_, rfl, ?_⟩; have n0_ := Aside0.mk (Kd.S_elder' (by (with_reducible repeat (first | apply Kd.S_alloc | apply Kd.S_drewN | apply Kd.S_drew)); exact HO_8.out) (Kd.R_base ho0) hb); have n1_ := Aside0.mk (Kd.R_lower ho0 (below_size (bg_ HB.out GE813.out))); have n2_ := Aside0.mk (blk_below (g := gb813) (o := .cells #[.string a0_0, .slice A0_1 l0_1.length c0_1, .slice A0_2 l0_2.length c0_2, .int .i64 a0_3, .int .i64 a0_4, .slice A0_5 l0_5.length c0_5] 29 (0, 0)) (by repeat first | exact BK813.out | refine blk_drewN ?_ _ | refine blk_drew ?_ | refine blk_alloc ?_ _) hb); have n3_ := Aside0.mk (below_step (bg_ HB.out GE813.out) hb); clear HO_8; clear BK813; clear HB; have HO_8 := n0_; have HO819 := n1_; have BK813 := n2_; have HB := n3_; clear n0_ n1_ n2_ n3_; (try clear hb); (try clear hb2); (try clear hk); (try clear hi); (try clear ho0); have hcz22_0 : w21.cell? ⟨gb813, 0, none⟩ = some (.string a0_0) := (blk_cell BK813.out 0).trans rfl; have hcz22_1 : w21.cell? ⟨gb813, 1, none⟩ = some (.slice A0_1 l0_1.length c0_1) := (blk_cell BK813.out 1).trans rfl; have hcz22_2 : w21.cell? ⟨gb813, 2, none⟩ = some (.slice A0_2 l0_2.length c0_2) := (blk_cell BK813.out 2).trans rfl; have hcz22_3 : w21.cell? ⟨gb813, 3, none⟩ = some (.int .i64 a0_3) := (blk_cell BK813.out 3).trans rfl; have hcz22_4 : w21.cell? ⟨gb813, 4, none⟩ = some (.int .i64 a0_4) := (blk_cell BK813.out 4).trans rfl; have hcz22_5 : w21.cell? ⟨gb813, 5, none⟩ = some (.slice A0_5 l0_5.length c0_5) := (blk_cell BK813.out 5).trans rfl; have hfz22_0 := blk_frozen BK813.out 0; have hfz22_1 := blk_frozen BK813.out 1; have hfz22_2 := blk_frozen BK813.out 2; have hfz22_3 := blk_frozen BK813.out 3; have hfz22_4 := blk_frozen BK813.out 4; have hfz22_5 := blk_frozen BK813.out 5; obtain ⟨Ao23, co23, eo23⟩ := Kd.R_slice HO819.out; subst eo23) | ((with_reducible refine gate_callee (f := 109) rfl ?_); refine goesL_ (some 33) rfl rfl Try.func109 (by kernel_rfl) rfl #[.agg #[.string a0_0, .slice A0_1 l0_1.length c0_1, .slice A0_2 l0_2.length c0_2, .int .i64 a0_3, .int .i64 a0_4, .slice A0_5 l0_5.length c0_5], .slice Ao23 t817.length co23] rfl av_ ?_; (with_reducible refine (impl_Raga_firstWrong.calls k2 a0_0 _ _ l0_1 _ _ l0_2 a0_3 a0_4 _ _ l0_5 _ _ t817 t820 t821 _ ?side1 ?side2 ?side3 ?side4 ?side5 ?side6 ?side7 ?side8 A17.out).mono ?_); (case side1 => exact (Kd.C_below HR0_1.out HB.out)); (case side2 => exact HC0_1.out); (case side3 => exact (Kd.C_below HR0_2.out HB.out)); (case side4 => exact HC0_2.out); (case side5 => exact (Kd.C_below HR0_5.out HB.out)); (case side6 => exact HC0_5.out); (case side7 => exact cs_ (Kd.R_reads' HO819.out).2.2); (case side8 => exact (Kd.R_reads' HO819.out).2.1); rintro e w24 ⟨rfl, hb⟩; refine ⟨_, rfl, ?_⟩; have n0_ := Aside0.mk (Kd.S_below (by (with_reducible repeat (first | apply Kd.S_alloc | apply Kd.S_drewN | apply Kd.S_drew)); exact HO_8.out) hb); have n1_ := Aside0.mk (Kd.R_below (rr_ HO819.out) hb); have n2_ := Aside0.mk (blk_below (g := gb813) (o := .cells #[.string a0_0, .slice A0_1 l0_1.length c0_1, .slice A0_2 l0_2.length c0_2, .int .i64 a0_3, .int .i64 a0_4, .slice A0_5 l0_5.length c0_5] 29 (0, 0)) (by repeat first | exact BK813.out | refine blk_drewN ?_ _ | refine blk_drew ?_ | refine blk_alloc ?_ _) hb); have n3_ := Aside0.mk (below_step (bg_ HB.out GE813.out) hb); clear HO_8; clear HO819; clear BK813; clear HB; have HO_8 := n0_; have HO819 := n1_; have BK813 := n2_; have HB := n3_; clear n0_ n1_ n2_ n3_; (try clear hb); (try clear hb2); (try clear hk); (try clear hi)) | ((with_reducible refine gate_builtin (b := .append) (xs := #[.tmp 42, .tmp 44]) rfl ?_); at_builtin; refine Kd.S_append (Kd.slice 2 (Kd.int .i64)) (w0 := w) w.heap.size rfl (.tmp 42) (.tmp 44) 23 22 (.slice none 0 0) 24 rfl Try.underlying23 info22 rfl (by decide) (by omega) u8 x8_2 t817 [.slice Ao23 t817.length co23] (fun _ => True) (fun k_ => some k_ = (.slice Ao23 t817.length co23 : Value).ownBlock) rfl rfl ?aP (fun k_ hk_ => ((Kd.R_mono (ok' := fun k_ => ((fun _ => True)) k_ ∧ some k_ ≠ (u8 : Value).ownBlock) (Kd.R_apart' (HO819.out) (Kd.S_typed HO_8.out) (by decide)) (fun k_ hk => ⟨trivial, hk.2⟩))).1 k_ hk_.symm) ?aF ?aO ?aB ?aS ?aL ?_; (case aP => exact Kd.M_row (Kd.R_mono (Kd.R_tight rfl (Kd.R_mono (ok' := fun k_ => ((fun _ => True)) k_ ∧ some k_ ≠ (u8 : Value).ownBlock) (Kd.R_apart' (HO819.out) (Kd.S_typed HO_8.out) (by decide)) (fun k_ hk => ⟨trivial, hk.2⟩))) (fun _ h_ => h_))); (case aB => exact (bg_ HB.out GE813.out)); (case aF => exact (fun _ _ => trivial)); (case aO => exact (by (with_reducible repeat (first | apply Kd.S_alloc | apply Kd.S_drewN | apply Kd.S_drew)); exact Kd.S_mono HO_8.out (fun k_ hk => ⟨trivial, fun e_ => hk.2 e_⟩))); (case aS => exact (below_size (bg_ HB.out GE813.out))); (case aL => have := LMc20.out; omega); intro v823 w25 ho hb hg hat; rw [← Ny822.out] at ho; have n0_ := Aside0.mk (blk_grown (g := gb813) (o := .cells #[.string a0_0, .slice A0_1 l0_1.length c0_1, .slice A0_2 l0_2.length c0_2, .int .i64 a0_3, .int .i64 a0_4, .slice A0_5 l0_5.length c0_5] 29 (0, 0)) (by repeat first | exact BK813.out | refine blk_drewN ?_ _ | refine blk_drew ?_ | refine blk_alloc ?_ _) hg (Kd.S_ne HO_8.out BK813.out (by decide))); have n1_ := Aside0.mk (hb); have n2_ := Aside0.mk (ho); clear BK813; clear HB; clear HO_8; clear HO819; have BK813 := n0_; have HB := n1_; have HO824 := n2_; clear n0_ n1_ n2_; clear ho hb hg hat))
          go_roundg k2
          case measure => have := HJ2.out; have := HK2.out; omega
          case rel => exact ⟨(wrap64 (x7_2 + 1)), (y822), (wrap64 (x24_2 + 1)), sv_, sv_, H', ⟨by have := HJ2.out; have := HK2.out; omega⟩, ⟨by (with_reducible repeat (first | apply Kd.S_alloc | apply Kd.S_drewN | apply Kd.S_drew)); exact HO824.out⟩, ⟨by (with_reducible repeat (first | refine blk_drewN ?_ _ | refine blk_drew ?_ | refine blk_alloc ?_ _)); exact BK813.out⟩, ⟨bg_ HB.out GE813.out⟩⟩
         ·rw [if_neg c20] at H
          exact absurd H (by simp)
        ·rw [if_neg c19] at H
         have c19b0 : decide ((wrap64 (x7_2 + 1)) ≤ 3) = false := decide_eq_false c19
         clear c19
         have H' := Aside0.mk H
         clear H
         go_wp2_with (first | ((with_reducible refine gate_callee (f := 108) rfl ?_); refine goesL_ (some 29) rfl rfl Try.func108 (by kernel_rfl) rfl #[.slice A1 l1.length c1, .int .i64 x24_2] rfl av_ ?_; (with_reducible refine (impl_numberedPermutation.calls k2 _ _ l1 x24_2 t817 _ ?side1 ?side2 A16.out).mono ?_); (case side1 => exact (Kd.C_below HR1.out HB.out)); (case side2 => exact HC1.out); rintro e w26 ⟨v818, rfl, ho0, hb⟩; refine ⟨_, rfl, ?_⟩; have n0_ := Aside0.mk (Kd.S_elder' (by (with_reducible repeat (first | apply Kd.S_alloc | apply Kd.S_drewN | apply Kd.S_drew)); exact HO_8.out) (Kd.R_base ho0) hb); have n1_ := Aside0.mk (Kd.R_lower ho0 (below_size (bg_ HB.out GE813.out))); have n2_ := Aside0.mk (blk_below (g := gb813) (o := .cells #[.string a0_0, .slice A0_1 l0_1.length c0_1, .slice A0_2 l0_2.length c0_2, .int .i64 a0_3, .int .i64 a0_4, .slice A0_5 l0_5.length c0_5] 29 (0, 0)) (by repeat first | exact BK813.out | refine blk_drewN ?_ _ | refine blk_drew ?_ | refine blk_alloc ?_ _) hb); have n3_ := Aside0.mk (below_step (bg_ HB.out GE813.out) hb); clear HO_8; clear BK813; clear HB; have HO_8 := n0_; have HO819 := n1_; have BK813 := n2_; have HB := n3_; clear n0_ n1_ n2_ n3_; (try clear hb); (try clear hb2); (try clear hk); (try clear hi); (try clear ho0); have hcz27_0 : w26.cell? ⟨gb813, 0, none⟩ = some (.string a0_0) := (blk_cell BK813.out 0).trans rfl; have hcz27_1 : w26.cell? ⟨gb813, 1, none⟩ = some (.slice A0_1 l0_1.length c0_1) := (blk_cell BK813.out 1).trans rfl; have hcz27_2 : w26.cell? ⟨gb813, 2, none⟩ = some (.slice A0_2 l0_2.length c0_2) := (blk_cell BK813.out 2).trans rfl; have hcz27_3 : w26.cell? ⟨gb813, 3, none⟩ = some (.int .i64 a0_3) := (blk_cell BK813.out 3).trans rfl; have hcz27_4 : w26.cell? ⟨gb813, 4, none⟩ = some (.int .i64 a0_4) := (blk_cell BK813.out 4).trans rfl; have hcz27_5 : w26.cell? ⟨gb813, 5, none⟩ = some (.slice A0_5 l0_5.length c0_5) := (blk_cell BK813.out 5).trans rfl; have hfz27_0 := blk_frozen BK813.out 0; have hfz27_1 := blk_frozen BK813.out 1; have hfz27_2 := blk_frozen BK813.out 2; have hfz27_3 := blk_frozen BK813.out 3; have hfz27_4 := blk_frozen BK813.out 4; have hfz27_5 := blk_frozen BK813.out 5; obtain ⟨Ao28, co28, eo28⟩ := Kd.R_slice HO819.out; subst eo28) | ((with_reducible refine gate_callee (f := 109) rfl ?_); refine goesL_ (some 33) rfl rfl Try.func109 (by kernel_rfl) rfl #[.agg #[.string a0_0, .slice A0_1 l0_1.length c0_1, .slice A0_2 l0_2.length c0_2, .int .i64 a0_3, .int .i64 a0_4, .slice A0_5 l0_5.length c0_5], .slice Ao28 t817.length co28] rfl av_ ?_; (with_reducible refine (impl_Raga_firstWrong.calls k2 a0_0 _ _ l0_1 _ _ l0_2 a0_3 a0_4 _ _ l0_5 _ _ t817 t820 t821 _ ?side1 ?side2 ?side3 ?side4 ?side5 ?side6 ?side7 ?side8 A17.out).mono ?_); (case side1 => exact (Kd.C_below HR0_1.out HB.out)); (case side2 => exact HC0_1.out); (case side3 => exact (Kd.C_below HR0_2.out HB.out)); (case side4 => exact HC0_2.out); (case side5 => exact (Kd.C_below HR0_5.out HB.out)); (case side6 => exact HC0_5.out); (case side7 => exact cs_ (Kd.R_reads' HO819.out).2.2); (case side8 => exact (Kd.R_reads' HO819.out).2.1); rintro e w29 ⟨rfl, hb⟩; refine ⟨_, rfl, ?_⟩; have n0_ := Aside0.mk (Kd.S_below (by (with_reducible repeat (first | apply Kd.S_alloc | apply Kd.S_drewN | apply Kd.S_drew)); exact HO_8.out) hb); have n1_ := Aside0.mk (Kd.R_below (rr_ HO819.out) hb); have n2_ := Aside0.mk (blk_below (g := gb813) (o := .cells #[.string a0_0, .slice A0_1 l0_1.length c0_1, .slice A0_2 l0_2.length c0_2, .int .i64 a0_3, .int .i64 a0_4, .slice A0_5 l0_5.length c0_5] 29 (0, 0)) (by repeat first | exact BK813.out | refine blk_drewN ?_ _ | refine blk_drew ?_ | refine blk_alloc ?_ _) hb); have n3_ := Aside0.mk (below_step (bg_ HB.out GE813.out) hb); clear HO_8; clear HO819; clear BK813; clear HB; have HO_8 := n0_; have HO819 := n1_; have BK813 := n2_; have HB := n3_; clear n0_ n1_ n2_ n3_; (try clear hb); (try clear hb2); (try clear hk); (try clear hi)))
         go_roundg k2
         case measure => have := HJ2.out; have := HK2.out; omega
         case rel => exact ⟨(wrap64 (x7_2 + 1)), (x8_2), (wrap64 (x24_2 + 1)), sv_, sv_, H', ⟨by have := HJ2.out; have := HK2.out; omega⟩, ⟨by (with_reducible repeat (first | apply Kd.S_alloc | apply Kd.S_drewN | apply Kd.S_drew)); exact Kd.S_mono HO_8.out (fun _ hk => trivial)⟩, ⟨by (with_reducible repeat (first | refine blk_drewN ?_ _ | refine blk_drew ?_ | refine blk_alloc ?_ _)); exact BK813.out⟩, ⟨bg_ HB.out GE813.out⟩⟩
       ·rw [if_neg c18] at H
        have c18b0 : (t821 == 0) = false := beq_eq_false_iff_ne.mpr c18
        have c18b1 : (t821 != 0) = true := bne_iff_ne.mpr c18
        have H' := Aside0.mk H
        clear H
        go_wp2_with (first | ((with_reducible refine gate_callee (f := 108) rfl ?_); refine goesL_ (some 29) rfl rfl Try.func108 (by kernel_rfl) rfl #[.slice A1 l1.length c1, .int .i64 x24_2] rfl av_ ?_; (with_reducible refine (impl_numberedPermutation.calls k2 _ _ l1 x24_2 t817 _ ?side1 ?side2 A16.out).mono ?_); (case side1 => exact (Kd.C_below HR1.out HB.out)); (case side2 => exact HC1.out); rintro e w30 ⟨v818, rfl, ho0, hb⟩; refine ⟨_, rfl, ?_⟩; have n0_ := Aside0.mk (Kd.S_elder' (by (with_reducible repeat (first | apply Kd.S_alloc | apply Kd.S_drewN | apply Kd.S_drew)); exact HO_8.out) (Kd.R_base ho0) hb); have n1_ := Aside0.mk (Kd.R_lower ho0 (below_size (bg_ HB.out GE813.out))); have n2_ := Aside0.mk (blk_below (g := gb813) (o := .cells #[.string a0_0, .slice A0_1 l0_1.length c0_1, .slice A0_2 l0_2.length c0_2, .int .i64 a0_3, .int .i64 a0_4, .slice A0_5 l0_5.length c0_5] 29 (0, 0)) (by repeat first | exact BK813.out | refine blk_drewN ?_ _ | refine blk_drew ?_ | refine blk_alloc ?_ _) hb); have n3_ := Aside0.mk (below_step (bg_ HB.out GE813.out) hb); clear HO_8; clear BK813; clear HB; have HO_8 := n0_; have HO819 := n1_; have BK813 := n2_; have HB := n3_; clear n0_ n1_ n2_ n3_; (try clear hb); (try clear hb2); (try clear hk); (try clear hi); (try clear ho0); have hcz31_0 : w30.cell? ⟨gb813, 0, none⟩ = some (.string a0_0) := (blk_cell BK813.out 0).trans rfl; have hcz31_1 : w30.cell? ⟨gb813, 1, none⟩ = some (.slice A0_1 l0_1.length c0_1) := (blk_cell BK813.out 1).trans rfl; have hcz31_2 : w30.cell? ⟨gb813, 2, none⟩ = some (.slice A0_2 l0_2.length c0_2) := (blk_cell BK813.out 2).trans rfl; have hcz31_3 : w30.cell? ⟨gb813, 3, none⟩ = some (.int .i64 a0_3) := (blk_cell BK813.out 3).trans rfl; have hcz31_4 : w30.cell? ⟨gb813, 4, none⟩ = some (.int .i64 a0_4) := (blk_cell BK813.out 4).trans rfl; have hcz31_5 : w30.cell? ⟨gb813, 5, none⟩ = some (.slice A0_5 l0_5.length c0_5) := (blk_cell BK813.out 5).trans rfl; have hfz31_0 := blk_frozen BK813.out 0; have hfz31_1 := blk_frozen BK813.out 1; have hfz31_2 := blk_frozen BK813.out 2; have hfz31_3 := blk_frozen BK813.out 3; have hfz31_4 := blk_frozen BK813.out 4; have hfz31_5 := blk_frozen BK813.out 5; obtain ⟨Ao32, co32, eo32⟩ := Kd.R_slice HO819.out; subst eo32) | ((with_reducible refine gate_callee (f := 109) rfl ?_); refine goesL_ (some 33) rfl rfl Try.func109 (by kernel_rfl) rfl #[.agg #[.string a0_0, .slice A0_1 l0_1.length c0_1, .slice A0_2 l0_2.length c0_2, .int .i64 a0_3, .int .i64 a0_4, .slice A0_5 l0_5.length c0_5], .slice Ao32 t817.length co32] rfl av_ ?_; (with_reducible refine (impl_Raga_firstWrong.calls k2 a0_0 _ _ l0_1 _ _ l0_2 a0_3 a0_4 _ _ l0_5 _ _ t817 t820 t821 _ ?side1 ?side2 ?side3 ?side4 ?side5 ?side6 ?side7 ?side8 A17.out).mono ?_); (case side1 => exact (Kd.C_below HR0_1.out HB.out)); (case side2 => exact HC0_1.out); (case side3 => exact (Kd.C_below HR0_2.out HB.out)); (case side4 => exact HC0_2.out); (case side5 => exact (Kd.C_below HR0_5.out HB.out)); (case side6 => exact HC0_5.out); (case side7 => exact cs_ (Kd.R_reads' HO819.out).2.2); (case side8 => exact (Kd.R_reads' HO819.out).2.1); rintro e w33 ⟨rfl, hb⟩; refine ⟨_, rfl, ?_⟩; have n0_ := Aside0.mk (Kd.S_below (by (with_reducible repeat (first | apply Kd.S_alloc | apply Kd.S_drewN | apply Kd.S_drew)); exact HO_8.out) hb); have n1_ := Aside0.mk (Kd.R_below (rr_ HO819.out) hb); have n2_ := Aside0.mk (blk_below (g := gb813) (o := .cells #[.string a0_0, .slice A0_1 l0_1.length c0_1, .slice A0_2 l0_2.length c0_2, .int .i64 a0_3, .int .i64 a0_4, .slice A0_5 l0_5.length c0_5] 29 (0, 0)) (by repeat first | exact BK813.out | refine blk_drewN ?_ _ | refine blk_drew ?_ | refine blk_alloc ?_ _) hb); have n3_ := Aside0.mk (below_step (bg_ HB.out GE813.out) hb); clear HO_8; clear HO819; clear BK813; clear HB; have HO_8 := n0_; have HO819 := n1_; have BK813 := n2_; have HB := n3_; clear n0_ n1_ n2_ n3_; (try clear hb); (try clear hb2); (try clear hk); (try clear hi)))
        go_roundg k2
        case measure => have := HJ2.out; have := HK2.out; omega
        case rel => exact ⟨(x7_2), (x8_2), (wrap64 (x24_2 + 1)), sv_, sv_, H', ⟨by have := HJ2.out; have := HK2.out; omega⟩, ⟨by (with_reducible repeat (first | apply Kd.S_alloc | apply Kd.S_drewN | apply Kd.S_drew)); exact Kd.S_mono HO_8.out (fun _ hk => trivial)⟩, ⟨by (with_reducible repeat (first | refine blk_drewN ?_ _ | refine blk_drew ?_ | refine blk_alloc ?_ _)); exact BK813.out⟩, ⟨bg_ HB.out GE813.out⟩⟩
      ·rw [if_neg c15] at H
       have c15b0 : decide (x24_2 < t816) = false := decide_eq_false c15
       clear c15
       simp only [Option.some.injEq, Prod.mk.injEq] at H
       obtain ⟨rfl, rfl, rfl⟩ := H
       go_wp2
       go_ret3
       exact ⟨_, by first | rfl | (simp [errW_none, errW_some] <;> rfl) | (simp [*, errW_none, errW_some] <;> rfl), by (with_reducible repeat (first | apply Kd.S_alloc | apply Kd.S_drewN | apply Kd.S_drew)); exact HO_8.out, bg_ HB.out GE813.out⟩
/-! ### laws_eqInt64S: function 17 -/
def laws_eqInt64S.l0 : Nat → List Int → List Int → Int → Option (Bool)
 | 0, _, _, _ => none
 | k + 1, x0, x1, x5 => if x5 < (x0.length : Int) then (if 0 ≤ x5 then (if x5 < (x1.length : Int) then (if (rd x0 x5) = (rd x1 x5) then (laws_eqInt64S.l0 k x0 x1 (wrap64 (x5 + 1))) else (some false)) else (none)) else (none)) else (some true)
def laws_eqInt64S.f (k : Nat) (l0 : List Int) (l1 : List Int) : Option (Bool) := if (l0.length : Int) = (l1.length : Int) then (laws_eqInt64S.l0 k l0 l1 0) else (some false)
theorem laws_eqInt64S.mono_l : ∀ k, (∀ y0 y1 y2, LeO (laws_eqInt64S.l0 k y0 y1 y2) (laws_eqInt64S.l0 (k + 1) y0 y1 y2))
 | 0 => fun _ _ _ r h => by simp [laws_eqInt64S.l0] at h
 | k + 1 => by
  have ih0 := laws_eqInt64S.mono_l k
  ·intro y0 y1 y2
   unfold laws_eqInt64S.l0
   repeat' first
   | (with_reducible exact ih0 _ _ _)
   | (with_reducible exact LeO.refl _)
   | (with_reducible exact LeO.none _)
   | (with_reducible refine LeO.ite ?_ ?_)
   | (with_reducible refine LeO.bind ?_ (fun _ => ?_))
   | exact ih0 _ _ _
   | exact LeO.none _
   | refine LeO.ite ?_ ?_
   | refine LeO.bind ?_ (fun _ => ?_)
theorem laws_eqInt64S.mono : ∀ a0 a1 k, LeO (laws_eqInt64S.f k a0 a1) (laws_eqInt64S.f (k + 1) a0 a1) := by
 intro a0 a1 k
 have ih0 := laws_eqInt64S.mono_l k
 unfold laws_eqInt64S.f
 repeat' first
   | (with_reducible exact ih0 _ _ _)
   | (with_reducible exact LeO.refl _)
   | (with_reducible exact LeO.none _)
   | (with_reducible refine LeO.ite ?_ ?_)
   | (with_reducible refine LeO.bind ?_ (fun _ => ?_))
   | exact ih0 _ _ _
   | exact LeO.none _
   | refine LeO.ite ?_ ?_
   | refine LeO.bind ?_ (fun _ => ?_)
set_option maxHeartbeats 8000000 in
set_option maxRecDepth 100000 in
theorem laws_eqInt64S.calls (k : Nat) (A0 : Option Addr) (c0 : Nat) (l0 : List Int) (A1 : Option Addr) (c1 : Nat) (l1 : List Int) (r : Bool) (w : World) (hr0 : Kd.C (Kd.int .i64) w A0 l0.length l0) (hc0 : l0.length ≤ c0) (hr1 : Kd.C (Kd.int .i64) w A1 l1.length l1) (hc1 : l1.length ≤ c1) (h : laws_eqInt64S.f k l0 l1 = some r) :
  Calls Try.prog 17 #[.slice A0 l0.length c0, .slice A1 l1.length c1] w fun e w' => e = .returned (.bool r) ∧ Drawn0 w w' := by
 have HR0 := Aside0.mk hr0
 have HC0 := Aside0.mk hc0
 clear hr0 hc0
 have HR1 := Aside0.mk hr1
 have HC1 := Aside0.mk hc1
 clear hr1 hc1
 have H : (if (l0.length : Int) = (l1.length : Int) then (laws_eqInt64S.l0 k l0 l1 0) else (some false)) = some r := h
 clear h
 by_cases c3 : (l0.length : Int) = (l1.length : Int)
 ·rw [if_pos c3] at H
  have c3b0 : ((l0.length : Int) == (l1.length : Int)) = true := beq_iff_eq.mpr c3
  have c3b1 : ((l0.length : Int) != (l1.length : Int)) = false := bne_eq_false_iff_eq.mpr c3
  have c3b2 : (l0.length == l1.length) = true := by first | simpa using c3 | (simp at c3 ⊢; omega)
  clear c3
  have H' := Aside0.mk H
  clear H
  go_enter Try.func17, Try.ntmps17
  go_wp2
  repeat (go_quiet (fail); try go_wp2)
  go_loopg [5] k (fun kq v5 w' => ∃ (x5_1 : Int), v5 = .int .i64 x5_1 ∧ Aside0 (laws_eqInt64S.l0 kq l0 l1 x5_1 = some r) ∧ Aside0 (kq ≤ k) ∧ Drawn0 w w')
  case atStart => exact ⟨(0), sv_, H', ⟨Nat.le_refl _⟩, dr_⟩
  case round =>
   clear H'
   (try clear c1); (try clear p2); (try clear c3); (try clear c3b0); (try clear c3b1); (try clear c3b2)
   obtain ⟨x5_1, rfl, HA, HK1, ⟨m1, rfl⟩⟩ := hrel
   cases gk with
   | zero => exact absurd HA.out (by simp [laws_eqInt64S.l0])
   | succ k1 =>
    have H := HA.out
    clear HA
    simp only [laws_eqInt64S.l0] at H
    by_cases c4 : x5_1 < (l0.length : Int)
    ·rw [if_pos c4] at H
     have c4b0 : decide (x5_1 < (l0.length : Int)) = true := decide_eq_true c4
     clear c4
     by_cases c5 : 0 ≤ x5_1
     ·rw [if_pos c5] at H
      have c5b0 : decide (0 ≤ x5_1) = true := decide_eq_true c5
      clear c5
      by_cases c6 : x5_1 < (l1.length : Int)
      ·rw [if_pos c6] at H
       have c6b0 : decide (x5_1 < (l1.length : Int)) = true := decide_eq_true c6
       clear c6
       by_cases c7 : (rd l0 x5_1) = (rd l1 x5_1)
       ·rw [if_pos c7] at H
        have c7b0 : ((rd l0 x5_1) == (rd l1 x5_1)) = true := beq_iff_eq.mpr c7
        have c7b1 : ((rd l0 x5_1) != (rd l1 x5_1)) = false := bne_eq_false_iff_eq.mpr c7
        clear c7
        have H' := Aside0.mk H
        clear H
        have p321 : 0 ≤ (x5_1 : Int) := da_
        have q321 : x5_1 < (l0.length : Int) := da_
        obtain ⟨ad321, e321, hx321_0⟩ := Kd.at_int HR0.out x5_1 p321 q321
        cases e321
        replace p321 := eq_true p321
        replace q321 := eq_true q321
        have p322 : 0 ≤ (x5_1 : Int) := da_
        have q322 : x5_1 < (l1.length : Int) := da_
        obtain ⟨ad322, e322, hx322_0⟩ := Kd.at_int HR1.out x5_1 p322 q322
        cases e322
        replace p322 := eq_true p322
        replace q322 := eq_true q322
        go_wp2
        repeat (go_quiet (fail); try go_wp2)
        go_roundg k1
        case measure => have := HK1.out; omega
        case rel => exact ⟨(wrap64 (x5_1 + 1)), sv_, H', ⟨by have := HK1.out; omega⟩, dr_⟩
       ·rw [if_neg c7] at H
        have c7b0 : ((rd l0 x5_1) == (rd l1 x5_1)) = false := beq_eq_false_iff_ne.mpr c7
        have c7b1 : ((rd l0 x5_1) != (rd l1 x5_1)) = true := bne_iff_ne.mpr c7
        obtain rfl := Option.some.inj H
        have p321 : 0 ≤ (x5_1 : Int) := da_
        have q321 : x5_1 < (l0.length : Int) := da_
        obtain ⟨ad321, e321, hx321_0⟩ := Kd.at_int HR0.out x5_1 p321 q321
        cases e321
        replace p321 := eq_true p321
        replace q321 := eq_true q321
        have p322 : 0 ≤ (x5_1 : Int) := da_
        have q322 : x5_1 < (l1.length : Int) := da_
        obtain ⟨ad322, e322, hx322_0⟩ := Kd.at_int HR1.out x5_1 p322 q322
        cases e322
        replace p322 := eq_true p322
        replace q322 := eq_true q322
        go_wp2
        repeat (go_quiet (fail); try go_wp2)
        go_ret
        exact ⟨sv_, dr_⟩
      ·rw [if_neg c6] at H
       exact absurd H (by simp)
     ·rw [if_neg c5] at H
      exact absurd H (by simp)
    ·rw [if_neg c4] at H
     have c4b0 : decide (x5_1 < (l0.length : Int)) = false := decide_eq_false c4
     clear c4
     obtain rfl := Option.some.inj H
     go_wp2
     repeat (go_quiet (fail); try go_wp2)
     go_ret
     exact ⟨sv_, dr_⟩
 ·rw [if_neg c3] at H
  have c3b0 : ((l0.length : Int) == (l1.length : Int)) = false := beq_eq_false_iff_ne.mpr c3
  have c3b1 : ((l0.length : Int) != (l1.length : Int)) = true := bne_iff_ne.mpr c3
  have c3b2 : (l0.length == l1.length) = false := by first | simpa using c3 | (simp at c3 ⊢; omega)
  obtain rfl := Option.some.inj H
  go_enter Try.func17, Try.ntmps17
  go_wp2
  repeat (go_quiet (fail); try go_wp2)
  go_ret
  exact ⟨sv_, dr_⟩
/-! ### laws_eqInt64SS: function 37 -/
def laws_eqInt64SS.l0 : Nat → List (List Int) → List (List Int) → Int → Option (Bool)
 | 0, _, _, _ => none
 | k + 1, x0, x1, x5 => if x5 < (x0.length : Int) then (if 0 ≤ x5 then (if x5 < (x1.length : Int) then ((laws_eqInt64S.f k (rd_L1 x0 x5) (rd_L1 x1 x5)).bind fun t325 => (if t325 = true then (laws_eqInt64SS.l0 k x0 x1 (wrap64 (x5 + 1))) else (some false))) else (none)) else (none)) else (some true)
def laws_eqInt64SS.f (k : Nat) (l0 : List (List Int)) (l1 : List (List Int)) : Option (Bool) := if (l0.length : Int) = (l1.length : Int) then (laws_eqInt64SS.l0 k l0 l1 0) else (some false)
theorem laws_eqInt64SS.mono_l : ∀ k, (∀ y0 y1 y2, LeO (laws_eqInt64SS.l0 k y0 y1 y2) (laws_eqInt64SS.l0 (k + 1) y0 y1 y2))
 | 0 => fun _ _ _ r h => by simp [laws_eqInt64SS.l0] at h
 | k + 1 => by
  have ih0 := laws_eqInt64SS.mono_l k
  ·intro y0 y1 y2
   unfold laws_eqInt64SS.l0
   repeat' first
   | (with_reducible exact ih0 _ _ _)
   | (with_reducible exact laws_eqInt64S.mono _ _ _)
   | (with_reducible exact LeO.refl _)
   | (with_reducible exact LeO.none _)
   | (with_reducible refine LeO.ite ?_ ?_)
   | (with_reducible refine LeO.bind ?_ (fun _ => ?_))
   | exact ih0 _ _ _
   | exact laws_eqInt64S.mono _ _ _
   | exact LeO.none _
   | refine LeO.ite ?_ ?_
   | refine LeO.bind ?_ (fun _ => ?_)
theorem laws_eqInt64SS.mono : ∀ a0 a1 k, LeO (laws_eqInt64SS.f k a0 a1) (laws_eqInt64SS.f (k + 1) a0 a1) := by
 intro a0 a1 k
 have ih0 := laws_eqInt64SS.mono_l k
 unfold laws_eqInt64SS.f
 repeat' first
   | (with_reducible exact ih0 _ _ _)
   | (with_reducible exact laws_eqInt64S.mono _ _ _)
   | (with_reducible exact LeO.refl _)
   | (with_reducible exact LeO.none _)
   | (with_reducible refine LeO.ite ?_ ?_)
   | (with_reducible refine LeO.bind ?_ (fun _ => ?_))
   | exact ih0 _ _ _
   | exact laws_eqInt64S.mono _ _ _
   | exact LeO.none _
   | refine LeO.ite ?_ ?_
   | refine LeO.bind ?_ (fun _ => ?_)
set_option maxHeartbeats 8000000 in
set_option maxRecDepth 100000 in
theorem laws_eqInt64SS.calls (k : Nat) (A0 : Option Addr) (c0 : Nat) (l0 : List (List Int)) (A1 : Option Addr) (c1 : Nat) (l1 : List (List Int)) (r : Bool) (w : World) (hr0 : Kd.C (Kd.slice 2 (Kd.int .i64)) w A0 l0.length l0) (hc0 : l0.length ≤ c0) (hr1 : Kd.C (Kd.slice 2 (Kd.int .i64)) w A1 l1.length l1) (hc1 : l1.length ≤ c1) (h : laws_eqInt64SS.f k l0 l1 = some r) :
  Calls Try.prog 37 #[.slice A0 l0.length c0, .slice A1 l1.length c1] w fun e w' => e = .returned (.bool r) ∧ Drawn0 w w' := by
 have HR0 := Aside0.mk hr0
 have HC0 := Aside0.mk hc0
 clear hr0 hc0
 have HR1 := Aside0.mk hr1
 have HC1 := Aside0.mk hc1
 clear hr1 hc1
 have H : (if (l0.length : Int) = (l1.length : Int) then (laws_eqInt64SS.l0 k l0 l1 0) else (some false)) = some r := h
 clear h
 by_cases c3 : (l0.length : Int) = (l1.length : Int)
 ·rw [if_pos c3] at H
  have c3b0 : ((l0.length : Int) == (l1.length : Int)) = true := beq_iff_eq.mpr c3
  have c3b1 : ((l0.length : Int) != (l1.length : Int)) = false := bne_eq_false_iff_eq.mpr c3
  have c3b2 : (l0.length == l1.length) = true := by first | simpa using c3 | (simp at c3 ⊢; omega)
  clear c3
  have H' := Aside0.mk H
  clear H
  go_enter Try.func37, Try.ntmps37
  go_wp2
  repeat (go_quiet (fail); try go_wp2)
  go_loopg [5] k (fun kq v5 w' => ∃ (x5_1 : Int), v5 = .int .i64 x5_1 ∧ Aside0 (laws_eqInt64SS.l0 kq l0 l1 x5_1 = some r) ∧ Aside0 (kq ≤ k) ∧ Drawn0 w w')
  case atStart => exact ⟨(0), sv_, H', ⟨Nat.le_refl _⟩, dr_⟩
  case round =>
   clear H'
   (try clear c1); (try clear p2); (try clear c3); (try clear c3b0); (try clear c3b1); (try clear c3b2)
   obtain ⟨x5_1, rfl, HA, HK1, ⟨m1, rfl⟩⟩ := hrel
   cases gk with
   | zero => exact absurd HA.out (by simp [laws_eqInt64SS.l0])
   | succ k1 =>
    have H := HA.out
    clear HA
    simp only [laws_eqInt64SS.l0] at H
    by_cases c4 : x5_1 < (l0.length : Int)
    ·rw [if_pos c4] at H
     have c4b0 : decide (x5_1 < (l0.length : Int)) = true := decide_eq_true c4
     clear c4
     by_cases c5 : 0 ≤ x5_1
     ·rw [if_pos c5] at H
      have c5b0 : decide (0 ≤ x5_1) = true := decide_eq_true c5
      clear c5
      by_cases c6 : x5_1 < (l1.length : Int)
      ·rw [if_pos c6] at H
       have c6b0 : decide (x5_1 < (l1.length : Int)) = true := decide_eq_true c6
       clear c6
       replace H := Option.bind_eq_some_iff.mp H
       obtain ⟨t325, A70, H⟩ := H
       replace H : (if t325 = true then (laws_eqInt64SS.l0 k1 l0 l1 (wrap64 (x5_1 + 1))) else (some false)) = some r := H
       have A7 := Aside0.mk A70
       clear A70
       by_cases c8 : t325 = true
       ·subst c8
        have H1 : (laws_eqInt64SS.l0 k1 l0 l1 (wrap64 (x5_1 + 1))) = some r := by rw [if_pos rfl] at H; exact H
        clear H
        have H := H1
        clear H1
        have H' := Aside0.mk H
        clear H
        have p323 : 0 ≤ (x5_1 : Int) := da_
        have q323 : x5_1 < (l0.length : Int) := da_
        obtain ⟨ad323, A323_0, c323_0, e323, hx323_0, hl323_0, hi323_0⟩ := at_L1 HR0.out x5_1 p323 q323
        cases e323
        have HR323_0 := Aside0.mk hi323_0
        have HC323_0 := Aside0.mk hl323_0
        clear hi323_0 hl323_0
        replace p323 := eq_true p323
        replace q323 := eq_true q323
        have p324 : 0 ≤ (x5_1 : Int) := da_
        have q324 : x5_1 < (l1.length : Int) := da_
        obtain ⟨ad324, A324_0, c324_0, e324, hx324_0, hl324_0, hi324_0⟩ := at_L1 HR1.out x5_1 p324 q324
        cases e324
        have HR324_0 := Aside0.mk hi324_0
        have HC324_0 := Aside0.mk hl324_0
        clear hi324_0 hl324_0
        replace p324 := eq_true p324
        replace q324 := eq_true q324
        go_wp2_with (first | (go_at_call 17; (with_reducible refine (laws_eqInt64S.calls k1 _ _ (rd_L1 l0 x5_1) _ _ (rd_L1 l1 x5_1) true _ ?side1 ?side2 ?side3 ?side4 A7.out).mono ?_); (case side1 => exact cr_ HR323_0.out); (case side2 => exact HC323_0.out); (case side3 => exact cr_ HR324_0.out); (case side4 => exact HC324_0.out); rintro e w' ⟨rfl, ⟨nd, rfl⟩⟩; (try first | exact ⟨rfl, _, dN1⟩ | exact ⟨rfl, _, dN2⟩)))
        repeat (go_quiet (first | (go_at_call 17; (with_reducible refine (laws_eqInt64S.calls k1 _ _ (rd_L1 l0 x5_1) _ _ (rd_L1 l1 x5_1) true _ ?side1 ?side2 ?side3 ?side4 A7.out).mono ?_); (case side1 => exact cr_ HR323_0.out); (case side2 => exact HC323_0.out); (case side3 => exact cr_ HR324_0.out); (case side4 => exact HC324_0.out); rintro e w' ⟨rfl, ⟨nd, rfl⟩⟩; (try first | exact ⟨rfl, _, dN1⟩ | exact ⟨rfl, _, dN2⟩))); try go_wp2_with (first | (go_at_call 17; (with_reducible refine (laws_eqInt64S.calls k1 _ _ (rd_L1 l0 x5_1) _ _ (rd_L1 l1 x5_1) true _ ?side1 ?side2 ?side3 ?side4 A7.out).mono ?_); (case side1 => exact cr_ HR323_0.out); (case side2 => exact HC323_0.out); (case side3 => exact cr_ HR324_0.out); (case side4 => exact HC324_0.out); rintro e w' ⟨rfl, ⟨nd, rfl⟩⟩; (try first | exact ⟨rfl, _, dN1⟩ | exact ⟨rfl, _, dN2⟩))))
        go_roundg k1
        case measure => have := HK1.out; omega
        case rel => exact ⟨(wrap64 (x5_1 + 1)), sv_, H', ⟨by have := HK1.out; omega⟩, dr_⟩
       ·replace c8 := Bool.eq_false_iff.mpr c8
        subst c8
        have H1 : (some false) = some r := by rw [if_neg (show ¬ (false = true) by decide)] at H; exact H
        clear H
        have H := H1
        clear H1
        obtain rfl := Option.some.inj H
        have p323 : 0 ≤ (x5_1 : Int) := da_
        have q323 : x5_1 < (l0.length : Int) := da_
        obtain ⟨ad323, A323_0, c323_0, e323, hx323_0, hl323_0, hi323_0⟩ := at_L1 HR0.out x5_1 p323 q323
        cases e323
        have HR323_0 := Aside0.mk hi323_0
        have HC323_0 := Aside0.mk hl323_0
        clear hi323_0 hl323_0
        replace p323 := eq_true p323
        replace q323 := eq_true q323
        have p324 : 0 ≤ (x5_1 : Int) := da_
        have q324 : x5_1 < (l1.length : Int) := da_
        obtain ⟨ad324, A324_0, c324_0, e324, hx324_0, hl324_0, hi324_0⟩ := at_L1 HR1.out x5_1 p324 q324
        cases e324
        have HR324_0 := Aside0.mk hi324_0
        have HC324_0 := Aside0.mk hl324_0
        clear hi324_0 hl324_0
        replace p324 := eq_true p324
        replace q324 := eq_true q324
        go_wp2_with (first | (go_at_call 17; (with_reducible refine (laws_eqInt64S.calls k1 _ _ (rd_L1 l0 x5_1) _ _ (rd_L1 l1 x5_1) false _ ?side1 ?side2 ?side3 ?side4 A7.out).mono ?_); (case side1 => exact cr_ HR323_0.out); (case side2 => exact HC323_0.out); (case side3 => exact cr_ HR324_0.out); (case side4 => exact HC324_0.out); rintro e w' ⟨rfl, ⟨nd, rfl⟩⟩; (try first | exact ⟨rfl, _, dN1⟩ | exact ⟨rfl, _, dN2⟩)))
        repeat (go_quiet (first | (go_at_call 17; (with_reducible refine (laws_eqInt64S.calls k1 _ _ (rd_L1 l0 x5_1) _ _ (rd_L1 l1 x5_1) false _ ?side1 ?side2 ?side3 ?side4 A7.out).mono ?_); (case side1 => exact cr_ HR323_0.out); (case side2 => exact HC323_0.out); (case side3 => exact cr_ HR324_0.out); (case side4 => exact HC324_0.out); rintro e w' ⟨rfl, ⟨nd, rfl⟩⟩; (try first | exact ⟨rfl, _, dN1⟩ | exact ⟨rfl, _, dN2⟩))); try go_wp2_with (first | (go_at_call 17; (with_reducible refine (laws_eqInt64S.calls k1 _ _ (rd_L1 l0 x5_1) _ _ (rd_L1 l1 x5_1) false _ ?side1 ?side2 ?side3 ?side4 A7.out).mono ?_); (case side1 => exact cr_ HR323_0.out); (case side2 => exact HC323_0.out); (case side3 => exact cr_ HR324_0.out); (case side4 => exact HC324_0.out); rintro e w' ⟨rfl, ⟨nd, rfl⟩⟩; (try first | exact ⟨rfl, _, dN1⟩ | exact ⟨rfl, _, dN2⟩))))
        go_ret
        exact ⟨sv_, dr_⟩
      ·rw [if_neg c6] at H
       exact absurd H (by simp)
     ·rw [if_neg c5] at H
      exact absurd H (by simp)
    ·rw [if_neg c4] at H
     have c4b0 : decide (x5_1 < (l0.length : Int)) = false := decide_eq_false c4
     clear c4
     obtain rfl := Option.some.inj H
     go_wp2
     repeat (go_quiet (fail); try go_wp2)
     go_ret
     exact ⟨sv_, dr_⟩
 ·rw [if_neg c3] at H
  have c3b0 : ((l0.length : Int) == (l1.length : Int)) = false := beq_eq_false_iff_ne.mpr c3
  have c3b1 : ((l0.length : Int) != (l1.length : Int)) = true := bne_iff_ne.mpr c3
  have c3b2 : (l0.length == l1.length) = false := by first | simpa using c3 | (simp at c3 ⊢; omega)
  obtain rfl := Option.some.inj H
  go_enter Try.func37, Try.ntmps37
  go_wp2
  repeat (go_quiet (fail); try go_wp2)
  go_ret
  exact ⟨sv_, dr_⟩
/-! ### laws_eqRaga: function 18 (given) -/
/-- Given by hand: told for what is the same alone. -/
def laws_eqRaga.f (k : Nat) (a0 : ByteArray) (a1 : List Int) (a2 : List Int) (a3 : Int) (a4 : Int) (a5 : List (List Int)) (b0 : ByteArray) (b1 : List Int) (b2 : List Int) (b3 : Int) (b4 : Int) (b5 : List (List Int)) : Option Bool := if a0.toList = b0.toList then ((laws_eqInt64S.f k a1 b1).bind fun t1 => (if t1 = true then ((laws_eqInt64S.f k a2 b2).bind fun t2 => (if t2 = true then (if a3 = b3 then (if a4 = b4 then ((laws_eqInt64SS.f k a5 b5).bind fun t5 => (if t5 = true then (some true) else (some false))) else (some false)) else (some false)) else (some false))) else (some false))) else (some false)
theorem laws_eqRaga.mono : ∀ a0 a1 a2 a3 a4 a5 b0 b1 b2 b3 b4 b5 k, LeO (laws_eqRaga.f k a0 a1 a2 a3 a4 a5 b0 b1 b2 b3 b4 b5) (laws_eqRaga.f (k + 1) a0 a1 a2 a3 a4 a5 b0 b1 b2 b3 b4 b5) := by
  intro a0 a1 a2 a3 a4 a5 b0 b1 b2 b3 b4 b5 k
  unfold laws_eqRaga.f
  repeat' first
    | exact LeO.refl _
    | exact laws_eqInt64S.mono _ _ _
    | exact laws_eqInt64SS.mono _ _ _
    | refine LeO.ite ?_ ?_
    | refine LeO.bind ?_ (fun _ => ?_)
set_option maxHeartbeats 8000000 in
set_option maxRecDepth 100000 in
theorem laws_eqRaga.calls (k : Nat) (a0 : ByteArray) (Aa1 : Option Addr) (ca1 : Nat) (a1 : List Int) (Aa2 : Option Addr) (ca2 : Nat) (a2 : List Int) (a3 : Int) (a4 : Int) (Aa5 : Option Addr) (ca5 : Nat) (a5 : List (List Int)) (b0 : ByteArray) (Ab1 : Option Addr) (cb1 : Nat) (b1 : List Int) (Ab2 : Option Addr) (cb2 : Nat) (b2 : List Int) (b3 : Int) (b4 : Int) (Ab5 : Option Addr) (cb5 : Nat) (b5 : List (List Int)) (r : Bool) (w : World) (hra1 : Kd.C (Kd.int .i64) w Aa1 a1.length a1) (hca1 : a1.length ≤ ca1) (hra2 : Kd.C (Kd.int .i64) w Aa2 a2.length a2) (hca2 : a2.length ≤ ca2) (hra5 : Kd.C (Kd.slice 2 (Kd.int .i64)) w Aa5 a5.length a5) (hca5 : a5.length ≤ ca5) (hrb1 : Kd.C (Kd.int .i64) w Ab1 b1.length b1) (hcb1 : b1.length ≤ cb1) (hrb2 : Kd.C (Kd.int .i64) w Ab2 b2.length b2) (hcb2 : b2.length ≤ cb2) (hrb5 : Kd.C (Kd.slice 2 (Kd.int .i64)) w Ab5 b5.length b5) (hcb5 : b5.length ≤ cb5) (h : laws_eqRaga.f k a0 a1 a2 a3 a4 a5 b0 b1 b2 b3 b4 b5 = some true) :
    Calls Try.prog 18 #[.agg #[.string a0, .slice Aa1 a1.length ca1, .slice Aa2 a2.length ca2, .int .i64 a3, .int .i64 a4, .slice Aa5 a5.length ca5], .agg #[.string b0, .slice Ab1 b1.length cb1, .slice Ab2 b2.length cb2, .int .i64 b3, .int .i64 b4, .slice Ab5 b5.length cb5]] w fun e w' => e = .returned (.bool true) ∧ Below w.heap.size w w' := by
  unfold laws_eqRaga.f at h
  have c0 : a0.toList = b0.toList := Decidable.byContradiction (fun q => by rw [if_neg q] at h; cases h)
  rw [if_pos c0] at h
  have c0b0 : (a0.toList == b0.toList) = true := beq_iff_eq.mpr c0
  have c0b1 : (a0.toList != b0.toList) = false := bne_eq_false_iff_eq.mpr c0
  clear c0
  obtain ⟨t1, E1, h1⟩ := Option.bind_eq_some_iff.mp h
  clear h
  obtain rfl : t1 = true := by cases t1 with | true => rfl | false => rw [if_neg Bool.false_ne_true] at h1; cases h1
  rw [if_pos rfl] at h1
  have h := h1
  clear h1
  have E1 := Aside0.mk E1
  obtain ⟨t2, E2, h2⟩ := Option.bind_eq_some_iff.mp h
  clear h
  obtain rfl : t2 = true := by cases t2 with | true => rfl | false => rw [if_neg Bool.false_ne_true] at h2; cases h2
  rw [if_pos rfl] at h2
  have h := h2
  clear h2
  have E2 := Aside0.mk E2
  have c3 : a3 = b3 := Decidable.byContradiction (fun q => by rw [if_neg q] at h; cases h)
  rw [if_pos c3] at h
  have c3b0 : (a3 == b3) = true := beq_iff_eq.mpr c3
  have c3b1 : (a3 != b3) = false := bne_eq_false_iff_eq.mpr c3
  clear c3
  have c4 : a4 = b4 := Decidable.byContradiction (fun q => by rw [if_neg q] at h; cases h)
  rw [if_pos c4] at h
  have c4b0 : (a4 == b4) = true := beq_iff_eq.mpr c4
  have c4b1 : (a4 != b4) = false := bne_eq_false_iff_eq.mpr c4
  clear c4
  obtain ⟨t5, E5, h5⟩ := Option.bind_eq_some_iff.mp h
  clear h
  obtain rfl : t5 = true := by cases t5 with | true => rfl | false => rw [if_neg Bool.false_ne_true] at h5; cases h5
  rw [if_pos rfl] at h5
  have h := h5
  clear h5
  have E5 := Aside0.mk E5
  clear h
  have HRa1 := Aside0.mk hra1
  have HCa1 := Aside0.mk hca1
  clear hra1 hca1
  have HRa2 := Aside0.mk hra2
  have HCa2 := Aside0.mk hca2
  clear hra2 hca2
  have HRa5 := Aside0.mk hra5
  have HCa5 := Aside0.mk hca5
  clear hra5 hca5
  have HRb1 := Aside0.mk hrb1
  have HCb1 := Aside0.mk hcb1
  clear hrb1 hcb1
  have HRb2 := Aside0.mk hrb2
  have HCb2 := Aside0.mk hcb2
  clear hrb2 hcb2
  have HRb5 := Aside0.mk hrb5
  have HCb5 := Aside0.mk hcb5
  clear hrb5 hcb5
  have HS := Aside0.mk (Since.start w)
  have hu := Try.underlying29
  have Q0 := trivial
  go_enter Try.func18, Try.ntmps18
  go_wp2_with (first
    | ((clear Q0); (with_reducible refine gate_dst (N := 2) rfl ?_); refine box_event ?hg (N := 2) ?hd (cs := #[.string a0, .slice Aa1 a1.length ca1, .slice Aa2 a2.length ca2, .int .i64 a3, .int .i64 a4, .slice Aa5 a5.length ca5]) (t := 29) ?hr ?_; (case hd => rfl); (case hg => rfl); (case hr => first | (go_simp; done) | (go_simp; rfl)); intro gx hg w1 hbox hb; have BKx := Aside0.mk hbox; clear hbox hg; have hs_ := Aside0.mk (HS.out.go hb); clear HS; have HS := hs_; clear hs_ hb; obtain ⟨hx_0, hx_1, hx_2, hx_3, hx_4, hx_5, hfx⟩ := boxed6 BKx.out (HS.out.at_ (W := w1)); have Q1 := trivial)
    | ((clear Q1); (with_reducible refine gate_dst (N := 3) rfl ?_); refine box_event ?hg (N := 3) ?hd (cs := #[.string b0, .slice Ab1 b1.length cb1, .slice Ab2 b2.length cb2, .int .i64 b3, .int .i64 b4, .slice Ab5 b5.length cb5]) (t := 29) ?hr ?_; (case hd => rfl); (case hg => rfl); (case hr => first | (go_simp; done) | (go_simp; rfl)); intro gy hg w2 hbox hb; have BKy := Aside0.mk hbox; have Ny := Aside0.mk (show gx ≠ gy by rw [hg]; exact Nat.ne_of_lt (blk_lt (blk_below BKx.out (HS.out.at_)))); clear hbox hg; have hs_ := Aside0.mk (HS.out.go hb); clear HS; have HS := hs_; clear hs_ hb; clear hx_0 hx_1 hx_2 hx_3 hx_4 hx_5 hfx; obtain ⟨hx_0, hx_1, hx_2, hx_3, hx_4, hx_5, hfx⟩ := boxed6 BKx.out (HS.out.at_ (W := w2)); obtain ⟨hy_0, hy_1, hy_2, hy_3, hy_4, hy_5, hfy⟩ := boxed6 BKy.out (HS.out.at_ (W := w2)); have Q2 := trivial)
    | ((clear Q2); (with_reducible refine gate_callee (f := 17) rfl ?_); refine goesL_ (some _) rfl rfl Try.func17 (by kernel_rfl) rfl #[.slice Aa1 a1.length ca1, .slice Ab1 b1.length cb1] rfl aw_ ?_; (with_reducible refine (laws_eqInt64S.calls k _ _ a1 _ _ b1 true _ ?s0 ?t0 ?s1 ?t1 E1.out).mono ?_); (case s0 => exact HS.out.C HRa1.out); (case t0 => exact HCa1.out); (case s1 => exact HS.out.C HRb1.out); (case t1 => exact HCb1.out); rintro e w3 ⟨rfl, hb_⟩; refine ⟨_, rfl, ?_⟩; have hb := below_of hb_; clear hb_; have hs_ := Aside0.mk (HS.out.go hb); clear HS; have HS := hs_; clear hs_ hb; clear hx_0 hx_1 hx_2 hx_3 hx_4 hx_5 hfx hy_0 hy_1 hy_2 hy_3 hy_4 hy_5 hfy; obtain ⟨hx_0, hx_1, hx_2, hx_3, hx_4, hx_5, hfx⟩ := boxed6 BKx.out (HS.out.at_ (W := w3)); obtain ⟨hy_0, hy_1, hy_2, hy_3, hy_4, hy_5, hfy⟩ := boxed6 BKy.out (HS.out.at_ (W := w3)); have Q3 := trivial)
    | ((clear Q3); (with_reducible refine gate_callee (f := 17) rfl ?_); refine goesL_ (some _) rfl rfl Try.func17 (by kernel_rfl) rfl #[.slice Aa2 a2.length ca2, .slice Ab2 b2.length cb2] rfl aw_ ?_; (with_reducible refine (laws_eqInt64S.calls k _ _ a2 _ _ b2 true _ ?s0 ?t0 ?s1 ?t1 E2.out).mono ?_); (case s0 => exact HS.out.C HRa2.out); (case t0 => exact HCa2.out); (case s1 => exact HS.out.C HRb2.out); (case t1 => exact HCb2.out); rintro e w4 ⟨rfl, hb_⟩; refine ⟨_, rfl, ?_⟩; have hb := below_of hb_; clear hb_; have hs_ := Aside0.mk (HS.out.go hb); clear HS; have HS := hs_; clear hs_ hb; clear hx_0 hx_1 hx_2 hx_3 hx_4 hx_5 hfx hy_0 hy_1 hy_2 hy_3 hy_4 hy_5 hfy; obtain ⟨hx_0, hx_1, hx_2, hx_3, hx_4, hx_5, hfx⟩ := boxed6 BKx.out (HS.out.at_ (W := w4)); obtain ⟨hy_0, hy_1, hy_2, hy_3, hy_4, hy_5, hfy⟩ := boxed6 BKy.out (HS.out.at_ (W := w4)); have Q4 := trivial)
    | ((clear Q4); (with_reducible refine gate_callee (f := 37) rfl ?_); refine goesL_ (some _) rfl rfl Try.func37 (by kernel_rfl) rfl #[.slice Aa5 a5.length ca5, .slice Ab5 b5.length cb5] rfl aw_ ?_; (with_reducible refine (laws_eqInt64SS.calls k _ _ a5 _ _ b5 true _ ?s0 ?t0 ?s1 ?t1 E5.out).mono ?_); (case s0 => exact HS.out.C HRa5.out); (case t0 => exact HCa5.out); (case s1 => exact HS.out.C HRb5.out); (case t1 => exact HCb5.out); rintro e w5 ⟨rfl, hb_⟩; refine ⟨_, rfl, ?_⟩; have hb := below_of hb_; clear hb_; have hs_ := Aside0.mk (HS.out.go hb); clear HS; have HS := hs_; clear hs_ hb; clear hx_0 hx_1 hx_2 hx_3 hx_4 hx_5 hfx hy_0 hy_1 hy_2 hy_3 hy_4 hy_5 hfy; obtain ⟨hx_0, hx_1, hx_2, hx_3, hx_4, hx_5, hfx⟩ := boxed6 BKx.out (HS.out.at_ (W := w5)); obtain ⟨hy_0, hy_1, hy_2, hy_3, hy_4, hy_5, hfy⟩ := boxed6 BKy.out (HS.out.at_ (W := w5)); have Q5 := trivial))
  go_ret
  exact ⟨sv_, HS.out.at_⟩
end Go.Proofs.Ytinlejhffokbaaa.P
end
