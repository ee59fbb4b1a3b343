/- Texts of this seat, merged: Q0, QPreSh3, QImplDecimal, QPreLeast, QImplLeast, QImplWithin, QPreSince, QImplOrnamentname, QImplValidornament, QPreSearch, QImplOrnamenttext, QImplReaddecimal, QImplReadornament1, QStringsSplit, QImplReadornament, QLawsEqornament, QPreDn, QSpecL01Digit. -/
import Derived.Shelf.Abstract
import Derived.Lib.SliceRun
import Derived.Below
import Derived.Deep.Draws
import Derived.Deep.AppendLies
import Derived.Maps.AppendAt
import Derived.OwnWalk
import Derived.Laws.BytesArg
import Derived.Laws.MakeOwn
import Derived.Laws.OwnMore
import Derived.Deep.OwnRows
import Derived.Tactics
import Derived.Lib.ConvBytes
import Derived.Laws.Slices
import Derived.WalkKit
import Derived.KernelRfl
import Derived.RowKit3
import Derived.Deep.LoopGhost
import Derived.Deep.QuietTactic
import Derived.BigQuiet
import Derived.WideLaws
import Derived.Deep.DeepCutAuto
import Derived.Deep.CutBlock
import Derived.Deep.RegionHeld3
import Derived.Laws.Rows
import Derived.Lib.AppendStr
import Derived.ArgAppend
import Derived.Laws.IdiomCopy
import Derived.OrdersHeld
import Derived.Laws.BitsLemmas
import Derived.RowKit
import Derived.Shelf.SlGeneric
import Derived.Shelf.Strings.Split
import Derived.Shelf.Strings.Prefix
import Derived.Shelf.Strconv.ParseIntPublic10
import Derived.Shelf.Strconv.Itoa4
import Derived.Lib.AppendIntMem
import Derived.Shelf.Unicode.PredsPay
import Derived.Lib.ItoaLen
import Derived.Lib.ParseIntBTie
import Derived.Test.YtpbciknccgpndaaDoorProg
import Derived.Test.YtpbciknccgpndaaDoorVRO1
section
namespace Go.Proofs.YtpbciknccgpndaaDoor.P
open Go.RowKit Go.Proofs.YtpbciknccgpndaaDoorW.PrintWords Go.Proofs.YtpbciknccgpndaaDoorW.PrintLast Go.Proofs.YtpbciknccgpndaaDoorW.PrintMore
attribute [local go_sem] max2_int min2_int max_two min_two max_three min_three max_four min_four   -- for this text's walks alone
set_option linter.unusedVariables false
set_option linter.unusedSimpArgs false
def errW : Option Int → Value
  | none => .nilIface
  | some c => .iface 0 (.int .i64 c)
theorem errW_none : errW none = .nilIface := rfl
theorem errW_some (c : Int) : errW (some c) = .iface 0 (.int .i64 c) := rfl

theorem info9 : (Tryd.prog.info? 9).map (fun i => (i.zero, i.size, i.bytes)) = some (some (.string ⟨#[]⟩), 1, 16) := by kernel_rfl
-- the values' own types
/-! #### struct type 23 -/
/-! ### pre_sh3: function 90 (given) -/
theorem aw_ {p : Prop} (h : p := by (try simp only [List.map_toArray, List.map_cons, List.map_nil]); first | done | rfl) : p := h
theorem bk_ {q p : Prop} (h : q) (f : q → p := by intro h_; (with_reducible repeat (first | refine blk_drewN ?_ _ | refine blk_drew ?_ | refine blk_alloc ?_ _)); exact h_) : p := f h
theorem ti0_ : (0 : Int).toNat = 0 := rfl
theorem ti1_ : (1 : Int).toNat = 1 := rfl
end Go.Proofs.YtpbciknccgpndaaDoor.P
end

section
namespace Go.Proofs.YtpbciknccgpndaaDoor.P
open Go.RowKit Go.Proofs.YtpbciknccgpndaaDoorW.PrintWords Go.Proofs.YtpbciknccgpndaaDoorW.PrintLast Go.Proofs.YtpbciknccgpndaaDoorW.PrintMore
attribute [local go_sem] max2_int min2_int max_two min_two max_three min_three max_four min_four   -- for this text's walks alone
set_option linter.unusedVariables false
set_option linter.unusedSimpArgs false

/-! ### impl_Decimal: function 22 (given) -/
section
open Go.RowKit Go.Sort Go.Shelf Go.Proofs
def layForm_ren : Go.Shelf.Ren := ⟨fun | 129 => 62 | 173 => 32 | 246 => 43 | 283 => 54 | 284 => 55 | 285 => 56 | 286 => 57 | 317 => 61 | 318 => 63 | 319 => 64 | 320 => 65 | 337 => 66 | 338 => 67 | n => n, fun | 0 => 0 | 2 => 2 | 3 => 3 | 4 => 4 | 5 => 5 | 9 => 9 | 20 => 20 | 37 => 68 | 46 => 61 | 51 => 83 | 53 => 58 | 171 => 74 | 173 => 77 | 212 => 91 | 213 => 92 | 232 => 96 | 233 => 97 | n => n, fun | 17 => 5 | 18 => 6 | 19 => 7 | n => n⟩
theorem layForm : LaysM.n173 Tryd.prog layForm_ren := { mixed := by kernel_rfl, f129 := Tryd.func62.trans (congrArg some (by kernel_rfl)), f173 := Tryd.func32.trans (congrArg some (by kernel_rfl)), f246 := Tryd.func43.trans (congrArg some (by kernel_rfl)), f283 := Tryd.func54.trans (congrArg some (by kernel_rfl)), f284 := Tryd.func55.trans (congrArg some (by kernel_rfl)), f285 := Tryd.func56.trans (congrArg some (by kernel_rfl)), f286 := Tryd.func57.trans (congrArg some (by kernel_rfl)), f317 := Tryd.func61.trans (congrArg some (by kernel_rfl)), f318 := Tryd.func63.trans (congrArg some (by kernel_rfl)), f319 := Tryd.func64.trans (congrArg some (by kernel_rfl)), f320 := Tryd.func65.trans (congrArg some (by kernel_rfl)), f337 := Tryd.func66.trans (congrArg some (by kernel_rfl)), f338 := Tryd.func67.trans (congrArg some (by kernel_rfl)), t0 := Tryd.underlying0, a0 := Tryd.isAgg0, z0 := Tryd.sizeOf0, v0 := Tryd.zeroValue0, t2 := Tryd.underlying2, a2 := Tryd.isAgg2, z2 := Tryd.sizeOf2, v2 := Tryd.zeroValue2, t3 := Tryd.underlying3, a3 := Tryd.isAgg3, z3 := Tryd.sizeOf3, v3 := Tryd.zeroValue3, t4 := Tryd.underlying4, a4 := Tryd.isAgg4, z4 := Tryd.sizeOf4, v4 := Tryd.zeroValue4, t5 := Tryd.underlying5, a5 := Tryd.isAgg5, z5 := Tryd.sizeOf5, v5 := Tryd.zeroValue5, t9 := Tryd.underlying9, a9 := Tryd.isAgg9, z9 := Tryd.sizeOf9, v9 := Tryd.zeroValue9, t20 := Tryd.underlying20, a20 := Tryd.isAgg20, z20 := Tryd.sizeOf20, v20 := Tryd.zeroValue20, t37 := Tryd.underlying68, a37 := Tryd.isAgg68, z37 := Tryd.sizeOf68, v37 := Tryd.zeroValue68, t46 := Tryd.underlying61, a46 := Tryd.isAgg61, z46 := Tryd.sizeOf61, v46 := Tryd.zeroValue61, t51 := Tryd.underlying83, a51 := Tryd.isAgg83, z51 := Tryd.sizeOf83, v51 := Tryd.zeroValue83, t53 := Tryd.underlying58, a53 := Tryd.isAgg58, z53 := Tryd.sizeOf58, v53 := Tryd.zeroValue58, t171 := Tryd.underlying74, a171 := Tryd.isAgg74, z171 := Tryd.sizeOf74, v171 := Tryd.zeroValue74, t173 := Tryd.underlying77, a173 := Tryd.isAgg77, z173 := Tryd.sizeOf77, v173 := Tryd.zeroValue77, t212 := Tryd.underlying91, a212 := Tryd.isAgg91, z212 := Tryd.sizeOf91, v212 := Tryd.zeroValue91, t213 := Tryd.underlying92, a213 := Tryd.isAgg92, z213 := Tryd.sizeOf92, t232 := Tryd.underlying96, a232 := Tryd.isAgg96, z232 := Tryd.sizeOf96, v232 := Tryd.zeroValue96, t233 := Tryd.underlying97, a233 := Tryd.isAgg97, z233 := Tryd.sizeOf97, v233 := Tryd.zeroValue97, g17 := by kernel_rfl, g18 := by kernel_rfl, g19 := by kernel_rfl, i0 := by kernel_rfl, i2 := by kernel_rfl, i3 := by kernel_rfl, i4 := by kernel_rfl, i5 := by kernel_rfl, i9 := by kernel_rfl, i20 := by kernel_rfl, i37 := by kernel_rfl, i46 := by kernel_rfl, i51 := by kernel_rfl, i53 := by kernel_rfl, i171 := by kernel_rfl, i173 := by kernel_rfl, i212 := by kernel_rfl, i232 := by kernel_rfl, i233 := by kernel_rfl, m17 := by kernel_rfl, m18 := by kernel_rfl, m19 := by kernel_rfl }

def layParse_ren : Go.Shelf.Ren := ⟨fun | 129 => 62 | 171 => 53 | 174 => 20 | 205 => 52 | 243 => 60 | 245 => 30 | 246 => 43 | 247 => 29 | 279 => 38 | 280 => 39 | 281 => 40 | 282 => 41 | 283 => 54 | 284 => 55 | 285 => 56 | 286 => 57 | 287 => 37 | 316 => 51 | 317 => 61 | 318 => 63 | 319 => 64 | 320 => 65 | 321 => 49 | 322 => 50 | 337 => 66 | 338 => 67 | n => n, fun | 0 => 0 | 2 => 2 | 3 => 3 | 4 => 4 | 5 => 5 | 9 => 9 | 20 => 20 | 21 => 21 | 37 => 68 | 46 => 61 | 51 => 83 | 53 => 58 | 75 => 43 | 80 => 98 | 85 => 44 | 127 => 86 | 143 => 87 | 145 => 89 | 167 => 57 | 168 => 62 | 171 => 74 | 173 => 77 | 175 => 59 | 210 => 71 | 212 => 91 | 213 => 92 | 232 => 96 | 233 => 97 | n => n, fun | 15 => 1 | 16 => 2 | 17 => 5 | 18 => 6 | 19 => 7 | n => n⟩
theorem layParse : LaysC.n174 Tryd.prog layParse_ren := { mixed := by kernel_rfl, f129 := Tryd.func62.trans (congrArg some (by kernel_rfl)), f171 := Tryd.func53.trans (congrArg some (by kernel_rfl)), f174 := Tryd.func20.trans (congrArg some (by kernel_rfl)), f205 := Tryd.func52.trans (congrArg some (by kernel_rfl)), f243 := Tryd.func60.trans (congrArg some (by kernel_rfl)), f245 := Tryd.func30.trans (congrArg some (by kernel_rfl)), f246 := Tryd.func43.trans (congrArg some (by kernel_rfl)), f247 := Tryd.func29.trans (congrArg some (by kernel_rfl)), f279 := Tryd.func38.trans (congrArg some (by kernel_rfl)), f280 := Tryd.func39.trans (congrArg some (by kernel_rfl)), f281 := Tryd.func40.trans (congrArg some (by kernel_rfl)), f282 := Tryd.func41.trans (congrArg some (by kernel_rfl)), f283 := Tryd.func54.trans (congrArg some (by kernel_rfl)), f284 := Tryd.func55.trans (congrArg some (by kernel_rfl)), f285 := Tryd.func56.trans (congrArg some (by kernel_rfl)), f286 := Tryd.func57.trans (congrArg some (by kernel_rfl)), f287 := Tryd.func37.trans (congrArg some (by kernel_rfl)), f316 := Tryd.func51.trans (congrArg some (by kernel_rfl)), f317 := Tryd.func61.trans (congrArg some (by kernel_rfl)), f318 := Tryd.func63.trans (congrArg some (by kernel_rfl)), f319 := Tryd.func64.trans (congrArg some (by kernel_rfl)), f320 := Tryd.func65.trans (congrArg some (by kernel_rfl)), f321 := Tryd.func49.trans (congrArg some (by kernel_rfl)), f322 := Tryd.func50.trans (congrArg some (by kernel_rfl)), f337 := Tryd.func66.trans (congrArg some (by kernel_rfl)), f338 := Tryd.func67.trans (congrArg some (by kernel_rfl)), t0 := Tryd.underlying0, a0 := Tryd.isAgg0, z0 := Tryd.sizeOf0, v0 := Tryd.zeroValue0, t2 := Tryd.underlying2, a2 := Tryd.isAgg2, z2 := Tryd.sizeOf2, v2 := Tryd.zeroValue2, t3 := Tryd.underlying3, a3 := Tryd.isAgg3, z3 := Tryd.sizeOf3, v3 := Tryd.zeroValue3, t4 := Tryd.underlying4, a4 := Tryd.isAgg4, z4 := Tryd.sizeOf4, v4 := Tryd.zeroValue4, t5 := Tryd.underlying5, a5 := Tryd.isAgg5, z5 := Tryd.sizeOf5, v5 := Tryd.zeroValue5, t9 := Tryd.underlying9, a9 := Tryd.isAgg9, z9 := Tryd.sizeOf9, v9 := Tryd.zeroValue9, t20 := Tryd.underlying20, a20 := Tryd.isAgg20, z20 := Tryd.sizeOf20, v20 := Tryd.zeroValue20, t21 := Tryd.underlying21, a21 := Tryd.isAgg21, z21 := Tryd.sizeOf21, v21 := Tryd.zeroValue21, t37 := Tryd.underlying68, a37 := Tryd.isAgg68, z37 := Tryd.sizeOf68, v37 := Tryd.zeroValue68, t46 := Tryd.underlying61, a46 := Tryd.isAgg61, z46 := Tryd.sizeOf61, v46 := Tryd.zeroValue61, t51 := Tryd.underlying83, a51 := Tryd.isAgg83, z51 := Tryd.sizeOf83, v51 := Tryd.zeroValue83, t53 := Tryd.underlying58, a53 := Tryd.isAgg58, z53 := Tryd.sizeOf58, v53 := Tryd.zeroValue58, t75 := Tryd.underlying43, a75 := Tryd.isAgg43, z75 := Tryd.sizeOf43, v75 := Tryd.zeroValue43, t85 := Tryd.underlying44, a85 := Tryd.isAgg44, z85 := Tryd.sizeOf44, v85 := Tryd.zeroValue44, t127 := Tryd.underlying86, a127 := Tryd.isAgg86, z127 := Tryd.sizeOf86, v127 := Tryd.zeroValue86, t143 := Tryd.underlying87, a143 := Tryd.isAgg87, z143 := Tryd.sizeOf87, v143 := Tryd.zeroValue87, t145 := Tryd.underlying89, a145 := Tryd.isAgg89, z145 := Tryd.sizeOf89, v145 := Tryd.zeroValue89, t167 := Tryd.underlying57, a167 := Tryd.isAgg57, z167 := Tryd.sizeOf57, v167 := Tryd.zeroValue57, t168 := Tryd.underlying62, a168 := Tryd.isAgg62, z168 := Tryd.sizeOf62, v168 := Tryd.zeroValue62, t171 := Tryd.underlying74, a171 := Tryd.isAgg74, z171 := Tryd.sizeOf74, v171 := Tryd.zeroValue74, t173 := Tryd.underlying77, a173 := Tryd.isAgg77, z173 := Tryd.sizeOf77, v173 := Tryd.zeroValue77, t175 := Tryd.underlying59, a175 := Tryd.isAgg59, z175 := Tryd.sizeOf59, v175 := Tryd.zeroValue59, t210 := Tryd.underlying71, a210 := Tryd.isAgg71, z210 := Tryd.sizeOf71, v210 := Tryd.zeroValue71, t212 := Tryd.underlying91, a212 := Tryd.isAgg91, z212 := Tryd.sizeOf91, v212 := Tryd.zeroValue91, t213 := Tryd.underlying92, a213 := Tryd.isAgg92, z213 := Tryd.sizeOf92, t232 := Tryd.underlying96, a232 := Tryd.isAgg96, z232 := Tryd.sizeOf96, v232 := Tryd.zeroValue96, t233 := Tryd.underlying97, a233 := Tryd.isAgg97, z233 := Tryd.sizeOf97, v233 := Tryd.zeroValue97, g15 := by kernel_rfl, g16 := by kernel_rfl, g17 := by kernel_rfl, g18 := by kernel_rfl, g19 := by kernel_rfl, t80 := Tryd.underlying98, a80 := Tryd.isAgg98, z80 := Tryd.sizeOf98, v80 := Tryd.zeroValue98, i0 := by kernel_rfl, i2 := by kernel_rfl, i3 := by kernel_rfl, i4 := by kernel_rfl, i5 := by kernel_rfl, i9 := by kernel_rfl, i20 := by kernel_rfl, i21 := by kernel_rfl, i37 := by kernel_rfl, i46 := by kernel_rfl, i51 := by kernel_rfl, i53 := by kernel_rfl, i75 := by kernel_rfl, i80 := by kernel_rfl, i85 := by kernel_rfl, i127 := by kernel_rfl, i143 := by kernel_rfl, i145 := by kernel_rfl, i167 := by kernel_rfl, i168 := by kernel_rfl, i171 := by kernel_rfl, i173 := by kernel_rfl, i175 := by kernel_rfl, i210 := by kernel_rfl, i212 := by kernel_rfl, i232 := by kernel_rfl, i233 := by kernel_rfl, m15 := by kernel_rfl, m16 := by kernel_rfl, m17 := by kernel_rfl, m18 := by kernel_rfl, m19 := by kernel_rfl, c0 := by kernel_rfl, c2 := by kernel_rfl, c3 := by kernel_rfl, c4 := by kernel_rfl, c5 := by kernel_rfl, c9 := by kernel_rfl, c20 := by kernel_rfl, c21 := by kernel_rfl, c37 := by kernel_rfl, c46 := by kernel_rfl, c51 := by kernel_rfl, c53 := by kernel_rfl, c75 := by kernel_rfl, c80 := by kernel_rfl, c85 := by kernel_rfl, c127 := by kernel_rfl, c143 := by kernel_rfl, c145 := by kernel_rfl, c167 := by kernel_rfl, c168 := by kernel_rfl, c171 := by kernel_rfl, c173 := by kernel_rfl, c175 := by kernel_rfl, c210 := by kernel_rfl, c212 := by kernel_rfl, c213 := by kernel_rfl, c232 := by kernel_rfl, c233 := by kernel_rfl }

def laySplit_ren : Go.Shelf.Ren := ⟨fun | 138 => 27 | 143 => 28 | 146 => 8 | 195 => 33 | 197 => 34 | 217 => 45 | 218 => 35 | 219 => 36 | 221 => 18 | 224 => 47 | 225 => 46 | 260 => 44 | 266 => 58 | 267 => 48 | 268 => 26 | 314 => 59 | n => n, fun | 0 => 0 | 3 => 3 | 4 => 4 | 5 => 5 | 9 => 9 | 21 => 21 | 31 => 28 | 46 => 61 | 51 => 83 | 105 => 54 | 119 => 79 | 138 => 81 | 139 => 82 | 146 => 84 | n => n, fun | 1 => 0 | 3 => 3 | 4 => 4 | n => n⟩
theorem laySplit : Lays.n146 Tryd.prog laySplit_ren := { mixed := by kernel_rfl, f138 := Tryd.func27.trans (congrArg some (by kernel_rfl)), f143 := Tryd.func28.trans (congrArg some (by kernel_rfl)), f146 := Tryd.func8.trans (congrArg some (by kernel_rfl)), f195 := Tryd.func33.trans (congrArg some (by kernel_rfl)), f197 := Tryd.func34.trans (congrArg some (by kernel_rfl)), f217 := Tryd.func45.trans (congrArg some (by kernel_rfl)), f218 := Tryd.func35.trans (congrArg some (by kernel_rfl)), f219 := Tryd.func36.trans (congrArg some (by kernel_rfl)), f221 := Tryd.func18.trans (congrArg some (by kernel_rfl)), f224 := Tryd.func47.trans (congrArg some (by kernel_rfl)), f225 := Tryd.func46.trans (congrArg some (by kernel_rfl)), f260 := Tryd.func44.trans (congrArg some (by kernel_rfl)), f266 := Tryd.func58.trans (congrArg some (by kernel_rfl)), f267 := Tryd.func48.trans (congrArg some (by kernel_rfl)), f268 := Tryd.func26.trans (congrArg some (by kernel_rfl)), f314 := Tryd.func59.trans (congrArg some (by kernel_rfl)), t0 := Tryd.underlying0, a0 := Tryd.isAgg0, z0 := Tryd.sizeOf0, v0 := Tryd.zeroValue0, t3 := Tryd.underlying3, a3 := Tryd.isAgg3, z3 := Tryd.sizeOf3, v3 := Tryd.zeroValue3, t4 := Tryd.underlying4, a4 := Tryd.isAgg4, z4 := Tryd.sizeOf4, v4 := Tryd.zeroValue4, t5 := Tryd.underlying5, a5 := Tryd.isAgg5, z5 := Tryd.sizeOf5, v5 := Tryd.zeroValue5, t9 := Tryd.underlying9, a9 := Tryd.isAgg9, z9 := Tryd.sizeOf9, v9 := Tryd.zeroValue9, t21 := Tryd.underlying21, a21 := Tryd.isAgg21, z21 := Tryd.sizeOf21, v21 := Tryd.zeroValue21, t31 := Tryd.underlying28, a31 := Tryd.isAgg28, z31 := Tryd.sizeOf28, v31 := Tryd.zeroValue28, t46 := Tryd.underlying61, a46 := Tryd.isAgg61, z46 := Tryd.sizeOf61, v46 := Tryd.zeroValue61, t51 := Tryd.underlying83, a51 := Tryd.isAgg83, z51 := Tryd.sizeOf83, v51 := Tryd.zeroValue83, t105 := Tryd.underlying54, a105 := Tryd.isAgg54, z105 := Tryd.sizeOf54, v105 := Tryd.zeroValue54, t119 := Tryd.underlying79, a119 := Tryd.isAgg79, z119 := Tryd.sizeOf79, t138 := Tryd.underlying81, a138 := Tryd.isAgg81, z138 := Tryd.sizeOf81, v138 := Tryd.zeroValue81, t139 := Tryd.underlying82, a139 := Tryd.isAgg82, z139 := Tryd.sizeOf82, v139 := Tryd.zeroValue82, t146 := Tryd.underlying84, a146 := Tryd.isAgg84, z146 := Tryd.sizeOf84, v146 := Tryd.zeroValue84, g1 := by kernel_rfl, g3 := by kernel_rfl, g4 := by kernel_rfl }

def layTrim_ren : Go.Shelf.Ren := ⟨fun | 101 => 21 | 206 => 42 | 208 => 31 | n => n, fun | 3 => 3 | 4 => 4 | 9 => 9 | n => n, fun | n => n⟩
theorem layTrim : Lays.n101 Tryd.prog layTrim_ren := { mixed := by kernel_rfl, f101 := Tryd.func21.trans (congrArg some (by kernel_rfl)), f206 := Tryd.func42.trans (congrArg some (by kernel_rfl)), f208 := Tryd.func31.trans (congrArg some (by kernel_rfl)), t3 := Tryd.underlying3, a3 := Tryd.isAgg3, z3 := Tryd.sizeOf3, v3 := Tryd.zeroValue3, t4 := Tryd.underlying4, a4 := Tryd.isAgg4, z4 := Tryd.sizeOf4, v4 := Tryd.zeroValue4, t9 := Tryd.underlying9, a9 := Tryd.isAgg9, z9 := Tryd.sizeOf9, v9 := Tryd.zeroValue9 }

/-- What the library's variables hold, as far as it is asked for. -/
def LaidW (w : World) : Prop := Lib.TabIs Tryd.prog w "internal/strconv.uint64pow10" .u64 Lib.pow10Tab ∧ (∃ ev, w.cell? ⟨layParse_ren.g 15, 0, none⟩ = some ev ∧ (ev = .nilIface ∨ ∃ te pe, ev = .iface te pe)) ∧ (∃ ev, w.cell? ⟨layParse_ren.g 16, 0, none⟩ = some ev ∧ (ev = .nilIface ∨ ∃ te pe, ev = .iface te pe)) ∧ ∃ m, w.cell? ⟨laySplit_ren.g 1, 0, none⟩ = some (.int .i64 m)
theorem pow10_named : Tryd.prog.globalNamed "internal/strconv.uint64pow10" = some (layForm_ren.g 17) := by kernel_rfl
theorem LaidW.below {w w' : World} (h : LaidW w) (hb : Below w.heap.size w w') : LaidW w' := by
  obtain ⟨h1, ⟨e1, h2, h3⟩, ⟨e2, h4, h5⟩, m, h6⟩ := h
  exact ⟨TabIs_below pow10_named h1 hb, ⟨e1, (hb.cell (World.block_lt_of_cell? w _ h2)).trans h2, h3⟩, ⟨e2, (hb.cell (World.block_lt_of_cell? w _ h4)).trans h4, h5⟩, m, (hb.cell (World.block_lt_of_cell? w _ h6)).trans h6⟩
theorem LaidW.drew {w : World} (h : LaidW w) : LaidW w.drew := h.below (below_drew1 (Below.refl _ _))
theorem impl_Decimal.form (n : Int) (h0 : -9223372036854775808 ≤ n) (h1 : n ≤ 9223372036854775807) (w : World) (hl : LaidW w) : Calls Tryd.prog 32 #[.int .i64 n, .int .i64 10] w fun e w' => e = .returned (.string ⟨(Lib.itoa n).toArray⟩) ∧ Below w.heap.size w w' := by
  refine (show Calls Tryd.prog 32 #[.int .i64 n, .int .i64 10] w _ from Any.strconv_FormatInt_10 layForm n h0 h1 w hl.1).mono ?_
  rintro e w' ⟨rfl, k, os, rfl⟩
  exact ⟨rfl, Lib.below_grow _ _ (Nat.le_refl _) _ _⟩
end
set_option maxHeartbeats 4000000 in
theorem impl_Decimal.calls (n : Int) (h0 : -9223372036854775808 ≤ n) (h1 : n ≤ 9223372036854775807) (w : World) (hl : LaidW w) : Calls Tryd.prog 22 #[.int .i64 n] w fun e w' => e = .returned (.string ⟨(Lib.itoa n).toArray⟩) ∧ Below w.heap.size w w' := by
  have hc := impl_Decimal.form n h0 h1 w hl
  obtain ⟨s, hs⟩ : ∃ s : ByteArray, ⟨(Lib.itoa n).toArray⟩ = s := ⟨_, rfl⟩
  rw [hs] at hc ⊢
  have HC := Aside0.mk hc
  clear hc hs
  go_enter Tryd.func22, Tryd.ntmps22
  go_wp2_with (first | ((with_reducible refine gate_callee (f := 32) rfl ?_); refine goesL_ (some _) rfl rfl Tryd.func32 (by kernel_rfl) rfl #[.int .i64 n, .int .i64 10] rfl aw_ ?_; (with_reducible refine HC.out.mono ?_); rintro e w1 ⟨rfl, hb⟩; refine ⟨_, rfl, ?_⟩; have HB := Aside0.mk hb; clear hb))
  go_ret
  exact ⟨rfl, HB.out⟩

end Go.Proofs.YtpbciknccgpndaaDoor.P
end

section
namespace Go.Proofs.YtpbciknccgpndaaDoor.P
open Go.RowKit Go.Proofs.YtpbciknccgpndaaDoorW.PrintWords Go.Proofs.YtpbciknccgpndaaDoorW.PrintLast Go.Proofs.YtpbciknccgpndaaDoorW.PrintMore
attribute [local go_sem] max2_int min2_int max_two min_two max_three min_three max_four min_four   -- for this text's walks alone
set_option linter.unusedVariables false
set_option linter.unusedSimpArgs false
/-! ### pre_least: function 90 (given) -/
/-- The least of m numbers from n on at which p holds, and whether there is one. -/
def leastM (p : Int → Bool) : Nat → Int → Int × Bool
  | 0, _ => (0, false)
  | m + 1, n => if p n then (n, true) else leastM p m (n + 1)
theorem leastM_succ (p : Int → Bool) (m : Nat) (n : Int) : leastM p (m + 1) n = if p n then (n, true) else leastM p m (n + 1) := rfl
/-! ### impl_least: function 9 (given) -/
set_option maxHeartbeats 2000000 in
theorem impl_least.calls (g : Nat) (lb : Array Value) (eg : ∀ args w, (callFunc g args).run Tryd.prog w = .ok (.enter g args) w) (p : Int → Bool) (lo hi : Int) (w : World) (hlo : -9223372036854775808 ≤ lo) (hhi : hi < 9223372036854775807)
    (hp : ∀ W n, lo ≤ n → n ≤ hi → Below w.heap.size w W → Calls Tryd.prog g (#[.int .i64 n] ++ lb) W fun e w' => e = .returned (.bool (p n)) ∧ Below w.heap.size w w') :
    Calls Tryd.prog 9 #[.int .i64 lo, .int .i64 hi, .func (.func g) #[] lb] w fun e w' => e = .returned (.tuple #[.int .i64 (leastM p (hi + 1 - lo).toNat lo).1, .bool (leastM p (hi + 1 - lo).toNat lo).2]) ∧ Below w.heap.size w w' := by
  have HP := Aside0.mk hp
  have EG := Aside0.mk eg
  have HLO := Aside0.mk hlo
  have HHI := Aside0.mk hhi
  obtain ⟨R, hR⟩ : ∃ R, leastM p (hi + 1 - lo).toNat lo = R := ⟨_, rfl⟩
  rw [hR]
  have HR := Aside0.mk hR
  clear hp eg hlo hhi hR
  go_enter Tryd.func9, Tryd.ntmps9
  go_wp2
  go_loopg [8] (hi + 1 - lo).toNat (fun gg s8 wr => ∃ n : Int, s8 = .int .i64 n ∧ Aside0 (lo ≤ n) ∧ Aside0 ((hi + 1 - n).toNat ≤ gg) ∧ Aside0 (Below w.heap.size w wr) ∧ Aside0 (leastM p (hi + 1 - n).toNat n = R))
  case atStart => exact ⟨lo, rfl, ⟨Int.le_refl _⟩, ⟨Nat.le_refl _⟩, ⟨Below.refl _ w⟩, HR⟩
  case round =>
    obtain ⟨n, rfl, HN, hg, BW, HF⟩ := hrel
    by_cases hle : n ≤ hi
    · have hcall := HP.out wr n HN.out hle BW.out
      have eg := EG.out
      have hF := HF.out
      have hb := HHI.out
      have hl := HLO.out
      have hn := HN.out
      obtain ⟨m, hm⟩ : ∃ m, (hi + 1 - n).toNat = m + 1 := ⟨(hi + 1 - n).toNat - 1, by omega⟩
      have hm' : (hi + 1 - (n + 1)).toNat = m := by omega
      have hw : wrap64 (n + 1) = n + 1 := by unfold wrap64; omega
      have HW := Aside0.mk hw
      have HM := Aside0.mk hm'
      rw [hm, leastM_succ] at hF
      clear hm hm' HF hb hl hn hw
      cases hq : p n with
      | true =>
        rw [hq] at hcall hF
        rw [if_pos rfl] at hF
        have HF := Aside0.mk hF
        clear hF hq
        go_wp2_with ((with_reducible refine hcall.mono ?_); rintro e w' ⟨rfl, hb'⟩)
        go_ret2
        exact ⟨by have e_ := HF.out; subst e_; rfl, hb'⟩
      | false =>
        rw [hq] at hcall hF
        rw [if_neg (by decide)] at hF
        have HF := Aside0.mk hF
        clear hF hq
        go_wp2_with ((with_reducible refine hcall.mono ?_); rintro e w' ⟨rfl, hb'⟩)
        go_roundg ((hi + 1 - (n + 1)).toNat)
        case measure => have := hg.out; omega
        case rel => exact ⟨n + 1, by first | rfl | (rw [← HW.out]; rfl) | (simp [HW.out]; done), ⟨by have := HN.out; omega⟩, ⟨Nat.le_refl _⟩, ⟨hb'⟩, ⟨by rw [HM.out]; exact HF.out⟩⟩
    · have he : (hi + 1 - n).toNat = 0 := by omega
      have hF := HF.out
      rw [he] at hF
      have HF := Aside0.mk (show ((0 : Int), false) = R from hF)
      clear he hF
      go_wp2
      go_ret2
      exact ⟨by have e_ := HF.out; subst e_; rfl, BW.out⟩
/-! ### impl_within: function 19 -/
def impl_within.f (a0 : Int) (a1 : Int) (a2 : Int) : Option (Bool) := if a0 ≥ a1 then (some (decide (a0 ≤ a2))) else (some false)
set_option maxHeartbeats 8000000 in
set_option maxRecDepth 100000 in
theorem impl_within.calls (a0 : Int) (a1 : Int) (a2 : Int) (r : Bool) (w : World) (h : impl_within.f a0 a1 a2 = some r) :
  Calls Tryd.prog 19 #[.int .i64 a0, .int .i64 a1, .int .i64 a2] w fun e w' => e = .returned (.bool r) ∧ Drawn0 w w' := by
 have H : (if a0 ≥ a1 then (some (decide (a0 ≤ a2))) else (some false)) = some r := h
 clear h
 by_cases c4 : a0 ≥ a1
 ·rw [if_pos c4] at H
  have c4b0 : decide (a1 ≤ a0) = true := decide_eq_true c4
  clear c4
  obtain rfl := Option.some.inj H
  go_enter Tryd.func19, Tryd.ntmps19
  go_wp2
  go_ret
  exact ⟨by first | rfl | (simp; done) | (simp [*]; done), by repeat (first | exact Drawn0.refl _ | apply Drawn0.step)⟩
 ·rw [if_neg c4] at H
  have c4b0 : decide (a1 ≤ a0) = false := decide_eq_false c4
  clear c4
  obtain rfl := Option.some.inj H
  go_enter Tryd.func19, Tryd.ntmps19
  go_wp2
  go_ret
  exact ⟨by first | rfl | (simp; done) | (simp [*]; done), by repeat (first | exact Drawn0.refl _ | apply Drawn0.step)⟩
/-! ### pre_since: function 90 (given) -/
/-- Worlds one behind the other: what stood in one of them stands in the last as it stood there. -/
structure Since (l : List World) (w : World) : Prop where mk :: (out : ∀ v, v ∈ l → Below v.heap.size v w)
theorem Since.start (w : World) : Since [w] w := ⟨fun v h => by rw [List.mem_singleton.1 h]; exact Below.refl _ _⟩
class InL (v : World) (l : List World) : Prop where mk :: (out : v ∈ l)
instance InL.here {v : World} {l : List World} : InL v (v :: l) := ⟨List.Mem.head _⟩
instance InL.there {v u : World} {l : List World} [h : InL v l] : InL v (u :: l) := ⟨List.Mem.tail _ h.out⟩
class Bl (w W : World) : Prop where mk :: (out : Below w.heap.size w W)
instance Bl.refl {w : World} : Bl w w := ⟨Below.refl _ _⟩
instance Bl.alloc {w W : World} {o : Obj} [h : Bl w W] : Bl w (W.alloc o) := ⟨below_alloc h.out o⟩
instance Bl.drew {w W : World} [h : Bl w W] : Bl w W.drew := ⟨below_drew1 h.out⟩
instance Bl.drewN {w W : World} {n : Nat} [h : Bl w W] : Bl w (W.drewN n) := ⟨pw_below_drewN h.out n⟩
theorem Bl.set {w W : World} {g j : Nat} {v : Value} (h : Bl w W) (hg : w.heap.size ≤ g) : Bl w (W.setCell ⟨g, j, none⟩ v) := ⟨below_set h.out hg⟩
theorem Bl.size {w W w' : World} [h : Bl w W] (k : Below W.heap.size W w') : w.heap.size ≤ w'.heap.size := below_size (below_step h.out k)
theorem Since.at_ {l : List World} {u W v : World} (h : Since (u :: l) u) [b : Bl u W] [m : InL v (u :: l)] : Below v.heap.size v W := below_step (h.out v m.out) b.out
theorem Since.C {α : Type} {d : Kd α} {l : List World} {u W v : World} {A : Option Addr} {n : Nat} {xs : List α} (h : Since (u :: l) u) (hc : d.C v A n xs) [b : Bl u W] [m : InL v (u :: l)] : d.C W A n xs := Kd.C_below hc h.at_
/-- Behind an event that wrote rows: only the start and what stands now. -/
theorem Since.two {w w' : World} (hb : Below w.heap.size w w') : Since [w', w] w' :=
  ⟨fun v hv => by
    rcases List.mem_cons.1 hv with e | hv
    · subst e
      exact Below.refl _ _
    · rw [List.mem_singleton.1 hv]
      exact hb⟩
class BelowOf (p : Prop) (w W : outParam World) : Prop where mk :: (out : p → Below w.heap.size w W)
instance BelowOf.here {w W : World} : BelowOf (Below w.heap.size w W) w W := ⟨id⟩
instance BelowOf.drawn {w W : World} : BelowOf (Drawn0 w W) w W := ⟨Drawn0.below⟩
theorem below_of {p : Prop} {w W : World} [b : BelowOf p w W] (h : p) : Below w.heap.size w W := b.out h
/-! ### impl_OrnamentName: function 11 (given) -/
def impl_OrnamentName.f (n : Int) : ByteArray := if n = 1 then ⟨#[103, 108, 105, 100, 101]⟩ else if n = 2 then ⟨#[115, 104, 97, 107, 101]⟩ else if n = 3 then ⟨#[103, 114, 97, 99, 101]⟩ else if n = 4 then ⟨#[115, 119, 101, 108, 108]⟩ else ⟨#[]⟩
theorem impl_OrnamentName.idx (n : Int) (h : n = 1 ∨ n = 2 ∨ n = 3 ∨ n = 4) (w : World) : (Instr.index 41 (.agg #[.string ⟨#[]⟩, .string ⟨#[103, 108, 105, 100, 101]⟩, .string ⟨#[115, 104, 97, 107, 101]⟩, .string ⟨#[103, 114, 97, 99, 101]⟩, .string ⟨#[115, 119, 101, 108, 108]⟩]) (.int .i64 n)).run Tryd.prog w = .ok (.string (impl_OrnamentName.f n)) w := by
  rcases h with rfl | rfl | rfl | rfl <;> kernel_rfl
set_option maxHeartbeats 8000000 in
set_option maxRecDepth 100000 in
theorem impl_OrnamentName.calls (n : Int) (w : World) : Calls Tryd.prog 11 #[.int .i64 n] w fun e w' => e = .returned (.string (impl_OrnamentName.f n)) ∧ Below w.heap.size w w' := by
  by_cases hin : 1 ≤ n ∧ n ≤ 4
  · have E0 := Aside0.mk (show impl_within.f n 1 4 = some true from by unfold impl_within.f; rw [if_pos (by omega)]; simp [hin.2])
    have hc : n = 1 ∨ n = 2 ∨ n = 3 ∨ n = 4 := by omega
    clear hin
    have hi := fun w => impl_OrnamentName.idx n hc w
    clear hc
    obtain ⟨s, hs⟩ : ∃ s, impl_OrnamentName.f n = s := ⟨_, rfl⟩
    rw [hs]
    simp only [hs] at hi
    clear hs
    go_enter Tryd.func11, Tryd.ntmps11
    go_wp2_with (first | ((with_reducible refine gate_callee (f := 19) rfl ?_); refine goesL_ (some _) rfl rfl Tryd.func19 (by kernel_rfl) rfl #[.int .i64 n, .int .i64 1, .int .i64 4] rfl aw_ ?_; (with_reducible refine (impl_within.calls _ 1 4 true _ E0.out).mono ?_); rintro e w1 ⟨rfl, hb_⟩; refine ⟨_, rfl, ?_⟩; have HB := Aside0.mk (below_of hb_); clear hb_))
    go_ret
    exact ⟨rfl, HB.out⟩
  · have E0 := Aside0.mk (show impl_within.f n 1 4 = some false from by
      unfold impl_within.f
      by_cases h : n ≥ 1
      · rw [if_pos h, decide_eq_false (by omega)]
      · rw [if_neg h])
    have hf : impl_OrnamentName.f n = ⟨#[]⟩ := by
      unfold impl_OrnamentName.f
      rw [if_neg (by omega), if_neg (by omega), if_neg (by omega), if_neg (by omega)]
    rw [hf]
    clear hf hin
    go_enter Tryd.func11, Tryd.ntmps11
    go_wp2_with (first | ((with_reducible refine gate_callee (f := 19) rfl ?_); refine goesL_ (some _) rfl rfl Tryd.func19 (by kernel_rfl) rfl #[.int .i64 n, .int .i64 1, .int .i64 4] rfl aw_ ?_; (with_reducible refine (impl_within.calls _ 1 4 false _ E0.out).mono ?_); rintro e w1 ⟨rfl, hb_⟩; refine ⟨_, rfl, ?_⟩; have HB := Aside0.mk (below_of hb_); clear hb_))
    go_ret
    exact ⟨rfl, HB.out⟩
/-! ### impl_ValidOrnament: function 23 -/
def impl_ValidOrnament.f (a0_0 : Int) (a0_1 : Int) (a0_2 : Int) : Option (Bool) := (impl_within.f a0_0 1 4).bind fun t135 => (if t135 = true then ((impl_within.f a0_1 (-1200) 1200).bind fun t136 => (if t136 = true then ((impl_within.f a0_2 1 16).bind fun t137 => (some t137)) else (some false))) else (some false))
set_option maxHeartbeats 8000000 in
set_option maxRecDepth 100000 in
theorem impl_ValidOrnament.calls (a0_0 : Int) (a0_1 : Int) (a0_2 : Int) (r : Bool) (w : World) (h : impl_ValidOrnament.f a0_0 a0_1 a0_2 = some r) :
  Calls Tryd.prog 23 #[.agg #[.int .i64 a0_0, .int .i64 a0_1, .int .i64 a0_2]] w fun e w' => e = .returned (.bool r) ∧ Below w.heap.size w w' := by
 have hu23 := Tryd.underlying23
 have HB := Aside0.mk (Below.refl w.heap.size w)
 have H : ((impl_within.f a0_0 1 4).bind fun t135 => (if t135 = true then ((impl_within.f a0_1 (-1200) 1200).bind fun t136 => (if t136 = true then ((impl_within.f a0_2 1 16).bind fun t137 => (some t137)) else (some false))) else (some false))) = some r := h
 clear h
 replace H := Option.bind_eq_some_iff.mp H
 obtain ⟨t135, A20, H⟩ := H
 replace H : (if t135 = true then ((impl_within.f a0_1 (-1200) 1200).bind fun t136 => (if t136 = true then ((impl_within.f a0_2 1 16).bind fun t137 => (some t137)) else (some false))) else (some false)) = some r := H
 have A2 := Aside0.mk A20
 clear A20
 by_cases c3 : t135 = true
 ·subst c3
  have H1 : ((impl_within.f a0_1 (-1200) 1200).bind fun t136 => (if t136 = true then ((impl_within.f a0_2 1 16).bind fun t137 => (some t137)) else (some false))) = some r := by rw [if_pos rfl] at H; exact H
  clear H
  have H := H1
  clear H1
  replace H := Option.bind_eq_some_iff.mp H
  obtain ⟨t136, A40, H⟩ := H
  replace H : (if t136 = true then ((impl_within.f a0_2 1 16).bind fun t137 => (some t137)) else (some false)) = some r := H
  have A4 := Aside0.mk A40
  clear A40
  by_cases c5 : t136 = true
  ·subst c5
   have H1 : ((impl_within.f a0_2 1 16).bind fun t137 => (some t137)) = some r := by rw [if_pos rfl] at H; exact H
   clear H
   have H := H1
   clear H1
   replace H := Option.bind_eq_some_iff.mp H
   obtain ⟨t137, A60, H⟩ := H
   replace H : (some t137) = some r := H
   have A6 := Aside0.mk A60
   clear A60
   obtain rfl := Option.some.inj H
   go_enter Tryd.func23, Tryd.ntmps23
   go_wp2_with (first | ((with_reducible refine gate_dst (N := 1) rfl ?_); refine box_event ?hg (N := 1) ?hd (cs := #[.int .i64 a0_0, .int .i64 a0_1, .int .i64 a0_2]) (t := 23) ?hr ?_; (case hd => rfl); (case hg => rfl); (case hr => first | (go_simp; done) | (go_simp; rfl)); intro gb134 hg w7 hbox hb; have n0_ := Aside0.mk (below_step (by repeat (first | exact HB.out | apply below_alloc)) hb); have n1_ := Aside0.mk (hbox); have n2_ := Aside0.mk ((by rw [hg]; exact (below_size (by repeat (first | exact HB.out | apply below_alloc))) : w.heap.size ≤ gb134)); have n3_ := Aside0.mk ((by rw [hg]; exact (below_size (by repeat (first | exact HB.out | apply below_alloc))) : w.heap.size ≤ gb134)); clear HB; have HB := n0_; have BK134 := n1_; have GW134 := n2_; have GE134 := n3_; clear n0_ n1_ n2_ n3_; clear hb hbox hg; have hcz8_0 : w7.cell? ⟨gb134, 0, none⟩ = some (.int .i64 a0_0) := (blk_cell BK134.out 0).trans rfl; have hcz8_1 : w7.cell? ⟨gb134, 1, none⟩ = some (.int .i64 a0_1) := (blk_cell BK134.out 1).trans rfl; have hcz8_2 : w7.cell? ⟨gb134, 2, none⟩ = some (.int .i64 a0_2) := (blk_cell BK134.out 2).trans rfl; have hfz8_0 := blk_frozen BK134.out 0; have hfz8_1 := blk_frozen BK134.out 1; have hfz8_2 := blk_frozen BK134.out 2) | ((with_reducible refine gate_callee (f := 19) rfl ?_); refine goesL_ (some 5) rfl rfl Tryd.func19 (by kernel_rfl) rfl #[.int .i64 a0_0, .int .i64 1, .int .i64 4] rfl (by first | rfl | (simp only [List.map_toArray, List.map_cons, List.map_nil]; done) | (simp only [List.map_toArray, List.map_cons, List.map_nil]; rfl)) ?_; (with_reducible refine (impl_within.calls a0_0 1 4 true _ A2.out).mono ?_); rintro e w' ⟨rfl, ⟨nd, rfl⟩⟩; refine ⟨_, rfl, ?_⟩) | (go_at_call 19; (with_reducible refine (impl_within.calls a0_1 (-1200) 1200 true _ A4.out).mono ?_); rintro e w' ⟨rfl, ⟨nd, rfl⟩⟩) | (go_at_call 19; (with_reducible refine (impl_within.calls a0_2 1 16 t137 _ A6.out).mono ?_); rintro e w' ⟨rfl, ⟨nd, rfl⟩⟩))
   go_ret
   exact ⟨by first | rfl | (simp [errW_none, errW_some] <;> rfl) | (simp [*, errW_none, errW_some] <;> rfl), by repeat (first | (with_reducible first | exact HB.out | apply below_alloc | apply pw_below_drewN | apply below_drew1 | refine below_set ?_ GE134.out) | exact HB.out)⟩
  ·replace c5 := Bool.eq_false_iff.mpr c5
   subst c5
   have H1 : (some false) = some r := by rw [if_neg (show ¬ (false = true) by decide)] at H; exact H
   clear H
   have H := H1
   clear H1
   obtain rfl := Option.some.inj H
   go_enter Tryd.func23, Tryd.ntmps23
   go_wp2_with (first | ((with_reducible refine gate_dst (N := 1) rfl ?_); refine box_event ?hg (N := 1) ?hd (cs := #[.int .i64 a0_0, .int .i64 a0_1, .int .i64 a0_2]) (t := 23) ?hr ?_; (case hd => rfl); (case hg => rfl); (case hr => first | (go_simp; done) | (go_simp; rfl)); intro gb134 hg w9 hbox hb; have n0_ := Aside0.mk (below_step (by repeat (first | exact HB.out | apply below_alloc)) hb); have n1_ := Aside0.mk (hbox); have n2_ := Aside0.mk ((by rw [hg]; exact (below_size (by repeat (first | exact HB.out | apply below_alloc))) : w.heap.size ≤ gb134)); have n3_ := Aside0.mk ((by rw [hg]; exact (below_size (by repeat (first | exact HB.out | apply below_alloc))) : w.heap.size ≤ gb134)); clear HB; have HB := n0_; have BK134 := n1_; have GW134 := n2_; have GE134 := n3_; clear n0_ n1_ n2_ n3_; clear hb hbox hg; have hcz10_0 : w9.cell? ⟨gb134, 0, none⟩ = some (.int .i64 a0_0) := (blk_cell BK134.out 0).trans rfl; have hcz10_1 : w9.cell? ⟨gb134, 1, none⟩ = some (.int .i64 a0_1) := (blk_cell BK134.out 1).trans rfl; have hcz10_2 : w9.cell? ⟨gb134, 2, none⟩ = some (.int .i64 a0_2) := (blk_cell BK134.out 2).trans rfl; have hfz10_0 := blk_frozen BK134.out 0; have hfz10_1 := blk_frozen BK134.out 1; have hfz10_2 := blk_frozen BK134.out 2) | ((with_reducible refine gate_callee (f := 19) rfl ?_); refine goesL_ (some 5) rfl rfl Tryd.func19 (by kernel_rfl) rfl #[.int .i64 a0_0, .int .i64 1, .int .i64 4] rfl (by first | rfl | (simp only [List.map_toArray, List.map_cons, List.map_nil]; done) | (simp only [List.map_toArray, List.map_cons, List.map_nil]; rfl)) ?_; (with_reducible refine (impl_within.calls a0_0 1 4 true _ A2.out).mono ?_); rintro e w' ⟨rfl, ⟨nd, rfl⟩⟩; refine ⟨_, rfl, ?_⟩) | (go_at_call 19; (with_reducible refine (impl_within.calls a0_1 (-1200) 1200 false _ A4.out).mono ?_); rintro e w' ⟨rfl, ⟨nd, rfl⟩⟩))
   go_ret
   exact ⟨by first | rfl | (simp [errW_none, errW_some] <;> rfl) | (simp [*, errW_none, errW_some] <;> rfl), by repeat (first | (with_reducible first | exact HB.out | apply below_alloc | apply pw_below_drewN | apply below_drew1 | refine below_set ?_ GE134.out) | exact HB.out)⟩
 ·replace c3 := Bool.eq_false_iff.mpr c3
  subst c3
  have H1 : (some false) = some r := by rw [if_neg (show ¬ (false = true) by decide)] at H; exact H
  clear H
  have H := H1
  clear H1
  obtain rfl := Option.some.inj H
  go_enter Tryd.func23, Tryd.ntmps23
  go_wp2_with (first | ((with_reducible refine gate_dst (N := 1) rfl ?_); refine box_event ?hg (N := 1) ?hd (cs := #[.int .i64 a0_0, .int .i64 a0_1, .int .i64 a0_2]) (t := 23) ?hr ?_; (case hd => rfl); (case hg => rfl); (case hr => first | (go_simp; done) | (go_simp; rfl)); intro gb134 hg w11 hbox hb; have n0_ := Aside0.mk (below_step (by repeat (first | exact HB.out | apply below_alloc)) hb); have n1_ := Aside0.mk (hbox); have n2_ := Aside0.mk ((by rw [hg]; exact (below_size (by repeat (first | exact HB.out | apply below_alloc))) : w.heap.size ≤ gb134)); have n3_ := Aside0.mk ((by rw [hg]; exact (below_size (by repeat (first | exact HB.out | apply below_alloc))) : w.heap.size ≤ gb134)); clear HB; have HB := n0_; have BK134 := n1_; have GW134 := n2_; have GE134 := n3_; clear n0_ n1_ n2_ n3_; clear hb hbox hg; have hcz12_0 : w11.cell? ⟨gb134, 0, none⟩ = some (.int .i64 a0_0) := (blk_cell BK134.out 0).trans rfl; have hcz12_1 : w11.cell? ⟨gb134, 1, none⟩ = some (.int .i64 a0_1) := (blk_cell BK134.out 1).trans rfl; have hcz12_2 : w11.cell? ⟨gb134, 2, none⟩ = some (.int .i64 a0_2) := (blk_cell BK134.out 2).trans rfl; have hfz12_0 := blk_frozen BK134.out 0; have hfz12_1 := blk_frozen BK134.out 1; have hfz12_2 := blk_frozen BK134.out 2) | ((with_reducible refine gate_callee (f := 19) rfl ?_); refine goesL_ (some 5) rfl rfl Tryd.func19 (by kernel_rfl) rfl #[.int .i64 a0_0, .int .i64 1, .int .i64 4] rfl (by first | rfl | (simp only [List.map_toArray, List.map_cons, List.map_nil]; done) | (simp only [List.map_toArray, List.map_cons, List.map_nil]; rfl)) ?_; (with_reducible refine (impl_within.calls a0_0 1 4 false _ A2.out).mono ?_); rintro e w' ⟨rfl, ⟨nd, rfl⟩⟩; refine ⟨_, rfl, ?_⟩))
  go_ret
  exact ⟨by first | rfl | (simp [errW_none, errW_some] <;> rfl) | (simp [*, errW_none, errW_some] <;> rfl), by repeat (first | (with_reducible first | exact HB.out | apply below_alloc | apply pw_below_drewN | apply below_drew1 | refine below_set ?_ GE134.out) | exact HB.out)⟩
end Go.Proofs.YtpbciknccgpndaaDoor.P
end

section
namespace Go.Proofs.YtpbciknccgpndaaDoor.P
open Go.RowKit Go.Proofs.YtpbciknccgpndaaDoorW.PrintWords Go.Proofs.YtpbciknccgpndaaDoorW.PrintLast Go.Proofs.YtpbciknccgpndaaDoorW.PrintMore
attribute [local go_sem] max2_int min2_int max_two min_two max_three min_three max_four min_four   -- for this text's walks alone
set_option linter.unusedVariables false
set_option linter.unusedSimpArgs false

/-! ### pre_search: function 90 (given) -/
/-- A search's state in memory: its cells at block g, two rows of whole numbers of its own. -/
def Srch (e : Nat) (w0 W : World) (g t : Nat) (cs : Array Value) (vp : Value) (ps : List Int) (vb : Value) (bs : List Int) : Prop :=
  W.heap[g]? = some (.cells cs t (0, 0)) ∧ w0.heap.size ≤ g ∧ Kd.R (Kd.int .i64) e W w0.heap.size (fun k => k ≠ g ∧ some k ≠ vb.ownBlock) vp ps ∧ Kd.R (Kd.int .i64) e W w0.heap.size (fun k => k ≠ g ∧ some k ≠ vp.ownBlock) vb bs ∧ Below w0.heap.size w0 W
section
variable {e : Nat} {w0 W W1 : World} {g t : Nat} {cs : Array Value} {vp vb : Value} {ps bs : List Int}
theorem Srch.below (h : Srch e w0 W g t cs vp ps vb bs) (hb : Below W.heap.size W W1) : Srch e w0 W1 g t cs vp ps vb bs :=
  ⟨blk_below h.1 hb, h.2.1, Kd.R_below h.2.2.1 hb, Kd.R_below h.2.2.2.1 hb, below_step h.2.2.2.2 hb⟩
theorem Srch.drew (h : Srch e w0 W g t cs vp ps vb bs) : Srch e w0 W.drew g t cs vp ps vb bs := h.below (below_drew1 (Below.refl _ _))
theorem Srch.set (h : Srch e w0 W g t cs vp ps vb bs) (j : Nat) (u : Value) {cs' : Array Value} (hc : cs.setIfInBounds j u = cs') : Srch e w0 (W.setCell ⟨g, j, none⟩ u) g t cs' vp ps vb bs :=
  ⟨blk_put h.1 j u hc, h.2.1, Kd.R_far h.2.2.1 (p := ⟨g, j, none⟩) (fun k hk => hk.1) u, Kd.R_far h.2.2.2.1 (p := ⟨g, j, none⟩) (fun k hk => hk.1) u, below_set h.2.2.2.2 h.2.1⟩
theorem Srch.take {A : Option Addr} {n c m : Nat} (h : Srch e w0 W g t cs (.slice A n c) ps vb bs) (hm : m ≤ ps.length) : Srch e w0 W g t cs (.slice A m c) (ps.take m) vb bs := by
  have hb : (Value.slice A m c).ownBlock = (Value.slice A n c).ownBlock := by cases A <;> rfl
  exact ⟨h.1, h.2.1, Kd.R_take h.2.2.1 hm, by rw [hb]; exact h.2.2.2.1, h.2.2.2.2⟩
theorem Srch.bel (h : Srch e w0 W g t cs vp ps vb bs) : Below w0.heap.size w0 W := h.2.2.2.2
theorem Srch.cell (h : Srch e w0 W g t cs vp ps vb bs) (j : Nat) {u : Value} (hu : cs[j]? = some u) : W.cell? ⟨g, j, none⟩ = some u := (blk_cell h.1 j).trans hu
end
section
variable {P : Program} {md : Region.Mode} {ops : Array Oper} {Q : Exit → Act → World → Prop} {S : World → Prop} {ds : List Nat} {fuel : Nat} {l : Array Bool} {a a' : Act} {w : World} {oi : Oper} {v : Value}
/-- Steps of a region whose order is drawn, in short words. -/
theorem pv_ (i n : Nat) (l' : Array Bool) (h : wpAnyLast P md ops Q S ds fuel l' a' w) (hi : ops[i]? = some oi := by rfl) (hN : oi.dst = some n := by rfl) (hc : anyB md ops l l' i = true := by kernel_rfl)
    (hQ : ∀ c a w, Q (.panic c) (a.put oi.dst v) w → Q (.panic c) a w := by exact fun _ _ _ h => h) (hw : Region.wanted oi (yielded ops a.tmps) = true := by rfl) (hr : ∀ w', (execOp a.eval oi).run P w' = .ok (.value v) w' := by intro w'; go_simp; with_reducible rfl) (ha : a.put (some n) v = a' := by go_simp; rfl) : wpAnyLast P md ops Q S ds (fuel + 1) l a w :=
  pure_ l' hi hN hc hQ (.inl ⟨hw, hr⟩) ha h
theorem tv_ (hS : S w) (i n : Nat) (l' : Array Bool) (h : wpAnyLast P md ops Q S ds fuel l' a' w) (hi : ops[i]? = some oi := by rfl) (hN : oi.dst = some n := by rfl) (hc : takeB md ops ds l l' i = true := by kernel_rfl)
    (hQ : ∀ c a w, Q (.panic c) (a.put oi.dst v) w → Q (.panic c) a w := by exact fun _ _ _ h => h) (hw : Region.wanted oi (yielded ops a.tmps) = true := by rfl) (hr : ∀ w', S w' → (execOp a.eval oi).run P w' = .ok (.value v) w' := by intro w' hs; repeat (obtain ⟨_, hs⟩ := hs); go_simp; with_reducible rfl) (ha : a.put (some n) v = a' := by go_simp; rfl) : wpAnyLast P md ops Q S ds (fuel + 1) l a w :=
  take_ l' hi hN hc hQ (.inl ⟨hw, hr⟩) hS ha h
end
/-- What a search keeps: all but its own block and its rows; its rows stay where they were or are new since. -/
def Sown (w : World) (v v' : Value) : Prop := ∀ k, v'.ownBlock = some k → some k = v.ownBlock ∨ w.heap.size ≤ k
def Skp (w W : World) (g : Nat) (vp vb vp' vb' : Value) : Prop := Kept w W (fun k => k = g ∨ some k = vp.ownBlock ∨ some k = vb.ownBlock) ∧ Sown w vp vp' ∧ Sown w vb vb'
def Srow (e : Nat) (w0 W : World) (g : Nat) (vp vb vn : Value) (nx : List Int) : Prop := Kd.R (Kd.int .i64) e W w0.heap.size (fun k => k ≠ g ∧ some k ≠ vp.ownBlock ∧ some k ≠ vb.ownBlock) vn nx
section
variable {e : Nat} {w0 w W W1 : World} {g t : Nat} {cs : Array Value} {vp vb vp' vb' v1 vn vp2 vb2 : Value} {ps bs qs nx : List Int}
theorem Skp.refl (w : World) (g : Nat) (vp vb : Value) : Skp w w g vp vb vp vb := ⟨Kept.refl _ _, fun k h => .inl h.symm, fun k h => .inl h.symm⟩
theorem Skp.below (h : Skp w W g vp vb vp' vb') (hb : Below W.heap.size W W1) : Skp w W1 g vp vb vp' vb' := ⟨h.1.below hb, h.2⟩
theorem Skp.drew (h : Skp w W g vp vb vp' vb') : Skp w W.drew g vp vb vp' vb' := h.below (below_drew1 (Below.refl _ _))
theorem Skp.set (h : Skp w W g vp vb vp' vb') (j : Nat) (u : Value) : Skp w (W.setCell ⟨g, j, none⟩ u) g vp vb vp' vb' := ⟨h.1.setCell (.inl (.inl rfl)) u, h.2⟩
theorem own_cut (A : Option Addr) (n m c : Nat) : (Value.slice A m c).ownBlock = (Value.slice A n c).ownBlock := by cases A <;> rfl
theorem Skp.take {A : Option Addr} {n c : Nat} (m : Nat) (h : Skp w W g vp vb (.slice A n c) vb') : Skp w W g vp vb (.slice A m c) vb' := ⟨h.1, fun k hk => h.2.1 k (own_cut A n m c ▸ hk), h.2.2⟩
theorem Srow.below (h : Srow e w0 W g vp vb vn nx) (hb : Below W.heap.size W W1) : Srow e w0 W1 g vp vb vn nx := Kd.R_below h hb
theorem Srow.set (h : Srow e w0 W g vp vb vn nx) (j : Nat) (u : Value) : Srow e w0 (W.setCell ⟨g, j, none⟩ u) g vp vb vn nx := Kd.R_far h (p := ⟨g, j, none⟩) (fun k hk => hk.1) u
theorem Srow.take {A : Option Addr} {n c : Nat} (m : Nat) (h : Srow e w0 W g (.slice A n c) vb vn nx) : Srow e w0 W g (.slice A m c) vb vn nx := by
  unfold Srow at h ⊢
  rw [own_cut A n m c]
  exact h
theorem Srow.new (h : Srch e w0 W g t cs vp ps vb bs) {ok : Nat → Prop} (ho : Kd.R (Kd.int .i64) e W1 W.heap.size ok vn nx) : Srow e w0 W1 g vp vb vn nx := by
  refine Kd.R_lower (Kd.R_mono (Kd.R_bound ho) (fun k hk => ⟨fun e_ => ?_, fun e_ => ?_, fun e_ => ?_⟩)) h.2.2.2.2.size
  · subst e_
    exact Nat.not_lt.2 hk.2.1 (blk_lt h.1)
  · exact Nat.not_lt.2 hk.2.1 (Kd.R_lt h.2.2.1 k e_.symm)
  · exact Nat.not_lt.2 hk.2.1 (Kd.R_lt h.2.2.2.1 k e_.symm)
end
theorem Srch.new {e : Nat} {w0 W W1 : World} {g t : Nat} {cs : Array Value} (hb0 : Below w0.heap.size w0 W) (hg : W.heap.size ≤ g) (h : W1.heap[g]? = some (.cells cs t (0, 0))) (hb : Below W.heap.size W W1) : Srch e w0 W1 g t cs (.slice none 0 0) [] (.slice none 0 0) [] :=
  ⟨h, Nat.le_trans hb0.size hg, Kd.R_nil _ _ _ _ _, Kd.R_nil _ _ _ _ _, below_step hb0 hb⟩
/-- A block that is filled cell by cell. -/
def fill (g : Nat) : World → Nat → List Value → World
  | w, _, [] => w
  | w, j, v :: vs => fill g (w.setCell ⟨g, j, none⟩ v) (j + 1) vs
def fillA : Array Value → Nat → List Value → Array Value
  | cs, _, [] => cs
  | cs, j, v :: vs => fillA (cs.setIfInBounds j v) (j + 1) vs
section
variable {g t : Nat} {w0 : World}
theorem fill_blk : ∀ (vs : List Value) (w : World) (j : Nat) (cs : Array Value), w.heap[g]? = some (.cells cs t (0, 0)) → (fill g w j vs).heap[g]? = some (.cells (fillA cs j vs) t (0, 0))
  | [], _, _, _, h => h
  | v :: vs, w, j, cs, h => fill_blk vs _ _ _ (blk_put h j v rfl)
theorem fill_below (hg : w0.heap.size ≤ g) : ∀ (vs : List Value) (w : World) (j : Nat), Below w0.heap.size w0 w → Below w0.heap.size w0 (fill g w j vs)
  | [], _, _, h => h
  | _ :: vs, _, _, h => fill_below hg vs _ _ (below_set h hg)
theorem fill_R {α : Type} {d : Kd α} {e base : Nat} {ok : Nat → Prop} {v : Value} {xs : List α} (hok : ∀ k, ok k → k ≠ g) : ∀ (vs : List Value) (w : World) (j : Nat), d.R e w base ok v xs → d.R e (fill g w j vs) base ok v xs
  | [], _, _, h => h
  | u :: vs, _, j, h => fill_R hok vs _ _ (Kd.R_far h (p := ⟨g, j, none⟩) hok u)
end
theorem fillA_all : ∀ (vs : List Value) (cs : Array Value) (j : Nat), j + vs.length = cs.size → fillA cs j vs = (cs.toList.take j ++ vs).toArray
  | [], cs, j, h => by
    have h : j = cs.size := by simpa using h
    subst h
    show cs = (cs.toList.take cs.size ++ []).toArray
    rw [List.append_nil, List.take_of_length_le (by simp)]
  | v :: vs, cs, j, h => by
    have hj : j < cs.size := by simp at h; omega
    show fillA (cs.setIfInBounds j v) (j + 1) vs = _
    rw [fillA_all vs _ (j + 1) (by simp at h ⊢; omega)]
    congr 1
    have e1 : (cs.setIfInBounds j v).toList = cs.toList.set j v := by simp
    rw [e1, List.take_set, List.take_add_one, List.getElem?_eq_getElem (by simpa using hj)]
    have hl : (cs.toList.take j).length = j := by simp; omega
    simp [List.set_append, hl]
theorem fill_all {g t : Nat} {w : World} {cs : Array Value} (vs : List Value) (h : w.heap[g]? = some (.cells cs t (0, 0))) (hl : vs.length = cs.size) : (fill g w 0 vs).heap[g]? = some (.cells vs.toArray t (0, 0)) := by
  have := fill_blk vs w 0 cs h
  rw [fillA_all vs cs 0 (by omega)] at this
  simpa using this
theorem fill_set (g : Nat) : ∀ (vs : List Value) (w : World) (j : Nat), w.setCells g j vs = fill g w j vs
  | [], _, _ => rfl
  | _ :: vs, _, _ => fill_set g vs _ _
theorem store_all {P : Program} {ops : Array Oper} {rest : List Oper} {o : Oper} {a : Act} {Q : Exit → Act → World → Prop} {W : World} (hgd : o.guard = none) {t : TypeId} {p : Tmp} {x : Operand} (ho : o.op = .store t (.tmp p) x) (hN : o.dst = none) {g bt : Nat} {cur : Array Value} {u : Value} (vs : List Value)
    (haddr : a.eval (.tmp p) = .pointer (some ⟨g, 0, none⟩)) (hx : a.eval x = u) (hu : u.cells.toList = vs) (hh : W.heap[g]? = some (.cells cur bt (0, 0))) (ht : (P.info? t).map (·.size) = some vs.length) (hl : vs.length = cur.size) (h1 : vs.all (·.oneCell') = true)
    (h : ∀ w', w' = fill g W 0 vs → wpList P ops Q rest a w') : wpList P ops Q (o :: rest) a W := by
  refine store_event hgd ho hN (w1 := fill g W 0 vs) ?_ h
  have hr := run_store_run (P := P) t u vs hh hu ht (by omega) (List.all_eq_true.1 h1) (o := 0)
  rw [fill_set] at hr
  unfold execOp
  simp only [ho, haddr, hx, Sem.run_bind, hr, Result.andThen_ok, Sem.run_pure]
theorem Srch.laid {e : Nat} {w0 W W1 : World} {g t : Nat} {cs0 : Array Value} {vs : List Value} {vp : Value} {ps : List Int} {ok : Nat → Prop} (hb0 : Below w0.heap.size w0 W) (ho : Kd.R (Kd.int .i64) e W w0.heap.size ok vp ps) (hg : W.heap.size ≤ g) (hbox : W1.heap[g]? = some (.cells cs0 t (0, 0))) (hb : Below W.heap.size W W1) (hl : vs.length = cs0.size) : Srch e w0 (fill g W1 0 vs) g t vs.toArray vp ps (.slice none 0 0) [] := by
  have hge : w0.heap.size ≤ g := Nat.le_trans hb0.size hg
  refine ⟨fill_all _ hbox hl, hge, fill_R (fun k hk => hk.1) _ _ _ (Kd.R_mono (Kd.R_below (Kd.R_bound ho) hb) (fun k hk => ⟨fun e_ => ?_, fun e_ => ?_⟩)), Kd.R_nil _ _ _ _ _, fill_below hge _ _ _ (below_step hb0 hb)⟩
  · subst e_
    exact Nat.not_lt.2 hg hk.2.2.1
  · exact nomatch e_
end Go.Proofs.YtpbciknccgpndaaDoor.P
end

section
namespace Go.Proofs.YtpbciknccgpndaaDoor.P
open Go.RowKit Go.Proofs.YtpbciknccgpndaaDoorW.PrintWords Go.Proofs.YtpbciknccgpndaaDoorW.PrintLast Go.Proofs.YtpbciknccgpndaaDoorW.PrintMore
attribute [local go_sem] max2_int min2_int max_two min_two max_three min_three max_four min_four   -- for this text's walks alone
set_option linter.unusedVariables false
set_option linter.unusedSimpArgs false
/-! ### impl_OrnamentText: function 13 (given) -/
def impl_OrnamentText.t (a b c : Int) : ByteArray := impl_OrnamentName.f a ++ ⟨#[32]⟩ ++ ⟨(Lib.itoa b).toArray⟩ ++ ⟨#[32]⟩ ++ ⟨(Lib.itoa c).toArray⟩
set_option maxHeartbeats 8000000 in
set_option maxRecDepth 100000 in
theorem impl_OrnamentText.bad (a b c : Int) (w : World) (h : impl_ValidOrnament.f a b c = some false) : Calls Tryd.prog 13 #[.agg #[.int .i64 a, .int .i64 b, .int .i64 c]] w fun e w' => e = .returned (.string ⟨#[]⟩) ∧ Below w.heap.size w w' := by
  have E0 := Aside0.mk h
  have hu := Tryd.underlying23
  have Q0 := trivial
  clear h
  go_enter Tryd.func13, Tryd.ntmps13
  go_wp2_with (first | ((clear Q0); (with_reducible refine gate_dst (N := 1) rfl ?_); refine box_event ?hg (N := 1) ?hd (cs := #[.int .i64 a, .int .i64 b, .int .i64 c]) (t := 23) ?hr ?_; (case hd => rfl); (case hg => rfl); (case hr => first | (go_simp; done) | (go_simp; rfl)); intro gb hg w1 hbox hb; have BK := Aside0.mk hbox; have HB := Aside0.mk hb; clear hg hb; have x0 := (blk_cell hbox 0).trans (show _ = some (.int .i64 a) from rfl); have x1 := (blk_cell hbox 1).trans (show _ = some (.int .i64 b) from rfl); have x2 := (blk_cell hbox 2).trans (show _ = some (.int .i64 c) from rfl); clear hbox; have Q1 := trivial) | ((clear Q1); (with_reducible refine gate_callee (f := 23) rfl ?_); refine goesL_ (some _) rfl rfl Tryd.func23 (by kernel_rfl) rfl #[.agg #[.int .i64 a, .int .i64 b, .int .i64 c]] rfl aw_ ?_; (with_reducible refine (impl_ValidOrnament.calls a b c false _ E0.out).mono ?_); rintro e w2 ⟨rfl, hb⟩; refine ⟨_, rfl, ?_⟩; have hk_ := blk_below BK.out hb; have hb2 := below_step HB.out hb; clear BK HB hb x0 x1 x2; have BK := Aside0.mk hk_; have HB := Aside0.mk hb2; clear hk_ hb2; have Q2 := trivial))
  go_ret
  exact ⟨rfl, HB.out⟩
set_option maxHeartbeats 8000000 in
set_option maxRecDepth 100000 in
theorem impl_OrnamentText.good (a b c : Int) (w : World) (hl : LaidW w) (b0 : -9223372036854775808 ≤ b) (b1 : b ≤ 9223372036854775807) (c0 : -9223372036854775808 ≤ c) (c1 : c ≤ 9223372036854775807) (z1 : (impl_OrnamentName.f a).size ≤ 100) (z2 : (⟨(Lib.itoa b).toArray⟩ : ByteArray).size ≤ 100) (z3 : (⟨(Lib.itoa c).toArray⟩ : ByteArray).size ≤ 100) (h : impl_ValidOrnament.f a b c = some true) : Calls Tryd.prog 13 #[.agg #[.int .i64 a, .int .i64 b, .int .i64 c]] w fun e w' => e = .returned (.string (impl_OrnamentText.t a b c)) ∧ Below w.heap.size w w' := by
  have E0 := Aside0.mk h
  have hu := Tryd.underlying23
  have Q0 := trivial
  have HL := Aside0.mk hl
  have H2 := Aside0.mk (And.intro b0 b1)
  have H3 := Aside0.mk (And.intro c0 c1)
  clear h hl b0 b1 c0 c1
  obtain ⟨s1, hs1⟩ : ∃ s1, impl_OrnamentName.f a = s1 := ⟨_, rfl⟩
  obtain ⟨s2, hs2⟩ : ∃ s2 : ByteArray, ⟨(Lib.itoa b).toArray⟩ = s2 := ⟨_, rfl⟩
  obtain ⟨s3, hs3⟩ : ∃ s3 : ByteArray, ⟨(Lib.itoa c).toArray⟩ = s3 := ⟨_, rfl⟩
  have C1 := Aside0.mk (fun w => hs1 ▸ impl_OrnamentName.calls a w)
  have C2 := Aside0.mk (fun w hl => hs2 ▸ impl_Decimal.calls b H2.out.1 H2.out.2 w hl)
  have C3 := Aside0.mk (fun w hl => hs3 ▸ impl_Decimal.calls c H3.out.1 H3.out.2 w hl)
  have hft : impl_OrnamentText.t a b c = s1 ++ ⟨#[32]⟩ ++ s2 ++ ⟨#[32]⟩ ++ s3 := by unfold impl_OrnamentText.t; rw [hs1, hs2, hs3]
  rw [hft]
  rw [hs1] at z1
  rw [hs2] at z2
  rw [hs3] at z3
  clear hft hs1 hs2 hs3
  have y1 : (9223372036854775807 < s1.size + 1) = False := eq_false (by omega)
  have y2 : (9223372036854775807 < s1.size + 1 + s2.size) = False := eq_false (by omega)
  have y3 : (9223372036854775807 < s1.size + 1 + s2.size + 1) = False := eq_false (by omega)
  have y4 : (9223372036854775807 < s1.size + 1 + s2.size + 1 + s3.size) = False := eq_false (by omega)
  clear z1 z2 z3
  go_enter Tryd.func13, Tryd.ntmps13
  go_upto_region 3 with (first | ((clear Q0); (with_reducible refine gate_dst (N := 1) rfl ?_); refine box_event ?hg (N := 1) ?hd (cs := #[.int .i64 a, .int .i64 b, .int .i64 c]) (t := 23) ?hr ?_; (case hd => rfl); (case hg => rfl); (case hr => first | (go_simp; done) | (go_simp; rfl)); intro gb hg w1 hbox hb; have BK := Aside0.mk hbox; have HB := Aside0.mk hb; clear hg hb; have x0 := (blk_cell hbox 0).trans (show _ = some (.int .i64 a) from rfl); have x1 := (blk_cell hbox 1).trans (show _ = some (.int .i64 b) from rfl); have x2 := (blk_cell hbox 2).trans (show _ = some (.int .i64 c) from rfl); clear hbox; have Q1 := trivial) | ((clear Q1); (with_reducible refine gate_callee (f := 23) rfl ?_); refine goesL_ (some _) rfl rfl Tryd.func23 (by kernel_rfl) rfl #[.agg #[.int .i64 a, .int .i64 b, .int .i64 c]] rfl aw_ ?_; (with_reducible refine (impl_ValidOrnament.calls a b c true _ E0.out).mono ?_); rintro e w2 ⟨rfl, hb⟩; refine ⟨_, rfl, ?_⟩; have hk_ := blk_below BK.out hb; have hb2 := below_step HB.out hb; clear BK HB hb x0 x1 x2; have BK := Aside0.mk hk_; have HB := Aside0.mk hb2; clear hk_ hb2; have Q2 := trivial))
  have LW := Aside0.mk (HL.out.below HB.out)
  refine start_ (n := 14) (S := fun w' => w'.cell? ⟨gb, 0, none⟩ = some (.int .i64 a) ∧ w'.cell? ⟨gb, 1, none⟩ = some (.int .i64 b) ∧ w'.cell? ⟨gb, 2, none⟩ = some (.int .i64 c)) (ds := []) #[false, false, false, false, false, false, false, false, false, false, false, false, false, false] (by kernel_rfl) rfl rfl ⟨(blk_cell (blk_drew BK.out) 0).trans rfl, (blk_cell (blk_drew BK.out) 1).trans rfl, (blk_cell (blk_drew BK.out) 2).trans rfl⟩ (fun hHeld => ?_)
  have hk_ := blk_drew BK.out
  have hb2 := below_drew1 HB.out
  have hl2 := LW.out.drew
  obtain ⟨wd, hw_⟩ : ∃ W_, World.drew w2 = W_ := ⟨_, rfl⟩
  rw [hw_] at hk_ hb2 hl2 hHeld ⊢
  clear hw_ BK HB LW
  have BK := Aside0.mk hk_
  have HB := Aside0.mk hb2
  have LW := Aside0.mk hl2
  clear hk_ hb2 hl2
  refine pv_ 0 6 #[true, false, false, false, false, false, false, false, false, false, false, false, false, false] ?_
  refine pv_ 4 10 #[true, false, false, false, true, false, false, false, false, false, false, false, false, false] ?_
  refine pv_ 9 15 #[true, false, false, false, true, false, false, false, false, true, false, false, false, false] ?_
  refine tv_ hHeld 1 7 #[true, true, false, false, true, false, false, false, false, true, false, false, false, false] ?_
  refine tv_ hHeld 5 11 #[true, true, false, false, true, true, false, false, false, true, false, false, false, false] ?_
  refine tv_ hHeld 10 16 #[true, true, false, false, true, true, false, false, false, true, true, false, false, false] ?_
  refine one_ (i := 2) (N := some 8) #[true, true, true, false, true, true, false, false, false, true, true, false, false, false] rfl rfl (by kernel_rfl) (by decide) (fun K_ hK => ?_)
  refine goes_ Tryd.func11 (by kernel_rfl) rfl #[.int .i64 a] (by rfl) rfl rfl aw_ ?_
  clear hHeld
  refine (C1.out _).mono ?_
  rintro e w12 ⟨rfl, hb⟩
  refine ⟨_, rfl, ?_⟩
  have hk_ := blk_below BK.out hb
  have hb2 := below_step HB.out hb
  have hl2 := LW.out.below hb
  clear BK HB LW hb
  have BK := Aside0.mk hk_
  have HB := Aside0.mk hb2
  have LW := Aside0.mk hl2
  clear hk_ hb2 hl2
  refine hK.out _ _ ⟨(blk_cell BK.out 0).trans rfl, (blk_cell BK.out 1).trans rfl, (blk_cell BK.out 2).trans rfl⟩ (fun hHeld => ?_)
  clear hK K_
  refine norm_ (a' := ?_) ?_ ?_
  rotate_left
  · show Act.put _ (some 8) _ = _; go_simp; rfl
  refine pv_ 3 9 #[true, true, true, true, true, true, false, false, false, true, true, false, false, false] ?_
  refine one_ (i := 6) (N := some 12) #[true, true, true, true, true, true, true, false, false, true, true, false, false, false] rfl rfl (by kernel_rfl) (by decide) (fun K_ hK => ?_)
  refine goes_ Tryd.func22 (by kernel_rfl) rfl #[.int .i64 b] (by rfl) rfl rfl aw_ ?_
  clear hHeld
  refine (C2.out _ LW.out).mono ?_
  rintro e w16 ⟨rfl, hb⟩
  refine ⟨_, rfl, ?_⟩
  have hk_ := blk_below BK.out hb
  have hb2 := below_step HB.out hb
  have hl2 := LW.out.below hb
  clear BK HB LW hb
  have BK := Aside0.mk hk_
  have HB := Aside0.mk hb2
  have LW := Aside0.mk hl2
  clear hk_ hb2 hl2
  refine hK.out _ _ ⟨(blk_cell BK.out 0).trans rfl, (blk_cell BK.out 1).trans rfl, (blk_cell BK.out 2).trans rfl⟩ (fun hHeld => ?_)
  clear hK K_
  refine norm_ (a' := ?_) ?_ ?_
  rotate_left
  · show Act.put _ (some 12) _ = _; go_simp; rfl
  refine pv_ 7 13 #[true, true, true, true, true, true, true, true, false, true, true, false, false, false] ?_
  refine pv_ 8 14 #[true, true, true, true, true, true, true, true, true, true, true, false, false, false] ?_
  refine one_ (i := 11) (N := some 17) #[true, true, true, true, true, true, true, true, true, true, true, true, false, false] rfl rfl (by kernel_rfl) (by decide) (fun K_ hK => ?_)
  refine goes_ Tryd.func22 (by kernel_rfl) rfl #[.int .i64 c] (by rfl) rfl rfl aw_ ?_
  clear hHeld
  refine (C3.out _ LW.out).mono ?_
  rintro e w21 ⟨rfl, hb⟩
  refine ⟨_, rfl, ?_⟩
  have hk_ := blk_below BK.out hb
  have hb2 := below_step HB.out hb
  have hl2 := LW.out.below hb
  clear BK HB LW hb
  have BK := Aside0.mk hk_
  have HB := Aside0.mk hb2
  have LW := Aside0.mk hl2
  clear hk_ hb2 hl2
  refine hK.out _ _ ⟨(blk_cell BK.out 0).trans rfl, (blk_cell BK.out 1).trans rfl, (blk_cell BK.out 2).trans rfl⟩ (fun hHeld => ?_)
  clear hK K_
  refine norm_ (a' := ?_) ?_ ?_
  rotate_left
  · show Act.put _ (some 17) _ = _; go_simp; rfl
  refine pv_ 12 18 #[true, true, true, true, true, true, true, true, true, true, true, true, true, false] ?_
  refine pv_ 13 2 #[true, true, true, true, true, true, true, true, true, true, true, true, true, true] ?_
  refine done_ (by kernel_rfl) ?_
  clear hHeld
  go_wp2
  go_ret
  exact ⟨rfl, HB.out⟩
end Go.Proofs.YtpbciknccgpndaaDoor.P
end

section
namespace Go.Proofs.YtpbciknccgpndaaDoor.P
open Go.RowKit Go.Proofs.YtpbciknccgpndaaDoorW.PrintWords Go.Proofs.YtpbciknccgpndaaDoorW.PrintLast Go.Proofs.YtpbciknccgpndaaDoorW.PrintMore
attribute [local go_sem] max2_int min2_int max_two min_two max_three min_three max_four min_four   -- for this text's walks alone
set_option linter.unusedVariables false
set_option linter.unusedSimpArgs false

/-! ### impl_ReadDecimal: function 12 (given) -/
section
open Go.RowKit Go.Sort Go.Shelf Go.Proofs
theorem impl_ReadDecimal.parse_ok (s : ByteArray) (v : Int) (w : World) (hs : s.size ≤ 281474976710656) (h : Lib.parseIntB 64 s.data.toList = .ok v) : Calls Tryd.prog 20 #[.string s, .int .i64 10, .int .i64 64] w fun e w' => e = .returned (.tuple #[.int .i64 v, .nilIface]) ∧ Below w.heap.size w w' := by
  refine (show Calls Tryd.prog 20 #[.string s, .int .i64 10, .int .i64 64] w _ from Any.strconv_ParseInt_10_at64_ok layParse s (by omega) v h w).mono ?_
  rintro e w' ⟨rfl, rfl | ⟨t, rfl⟩⟩
  · exact ⟨rfl, Below.refl _ _⟩
  · exact ⟨rfl, bytes_below (Below.refl _ _) (Nat.le_refl _) _ _⟩
theorem impl_ReadDecimal.parse_bad (s : ByteArray) (w : World) (hl : LaidW w) (hs : s.size ≤ 281474976710656) (h : ∀ v, Lib.parseIntB 64 s.data.toList ≠ .ok v) : Calls Tryd.prog 20 #[.string s, .int .i64 10, .int .i64 64] w fun e w' => ∃ v t p, e = .returned (.tuple #[.int .i64 v, .iface t p]) ∧ Below w.heap.size w w' := by
  obtain ⟨_, ⟨e1, h1, h2⟩, ⟨e2, h3, h4⟩, _⟩ := hl
  cases hp : Lib.parseIntB 64 s.data.toList
  · exact absurd hp (h _)
  · refine (show Calls Tryd.prog 20 #[.string s, .int .i64 10, .int .i64 64] w _ from Any.strconv_ParseInt_10_at64_syntax layParse s hs hp e1 w h1 h2).mono ?_
    rintro e w' ⟨N, rfl, _, _, hb⟩
    exact ⟨_, _, _, rfl, hb⟩
  · refine (show Calls Tryd.prog 20 #[.string s, .int .i64 10, .int .i64 64] w _ from Any.strconv_ParseInt_10_at64_range layParse s hs hp e2 w h3 h4).mono ?_
    rintro e w' ⟨N, rfl, _, _, hb⟩
    exact ⟨_, _, _, rfl, hb⟩
theorem impl_ReadDecimal.trim (s : ByteArray) (w : World) : Calls Tryd.prog 21 #[.string s, .string ⟨#[45]⟩] w fun e w' => e = .returned (.string ⟨(Lib.trimPrefix s.data.toList [45]).toArray⟩) ∧ w' = w :=
  (show Calls Tryd.prog 21 #[.string s, .string ⟨#[45]⟩] w _ from Any.strings_TrimPrefix layTrim s ⟨#[45]⟩ w)
end
def impl_ReadDecimal.f (s : ByteArray) : Int × Bool :=
  match Lib.parseIntB 64 s.data.toList with
  | .ok v => if 18 < (⟨(Lib.trimPrefix s.data.toList [45]).toArray⟩ : ByteArray).size then (0, false) else if ((⟨(Lib.itoa v).toArray⟩ : ByteArray).toList == s.toList) = true then (v, true) else (0, false)
  | _ => (0, false)
set_option maxHeartbeats 8000000 in
theorem impl_ReadDecimal.calls (s : ByteArray) (w : World) (hl : LaidW w) (hs : s.size ≤ 281474976710656) (hv : ∀ v, Lib.parseIntB 64 s.data.toList = .ok v → -9223372036854775808 ≤ v ∧ v ≤ 9223372036854775807) : Calls Tryd.prog 12 #[.string s] w fun e w' => e = .returned (.tuple #[.int .i64 (impl_ReadDecimal.f s).1, .bool (impl_ReadDecimal.f s).2]) ∧ Below w.heap.size w w' := by
  have HL := Aside0.mk hl
  by_cases hk : ∃ v, Lib.parseIntB 64 s.data.toList = .ok v
  rotate_left
  · have hf : impl_ReadDecimal.f s = (0, false) := by
      unfold impl_ReadDecimal.f
      split
      · rename_i v hv2; exact absurd ⟨v, hv2⟩ hk
      · rfl
    rw [hf]
    have HP := Aside0.mk (impl_ReadDecimal.parse_bad s w hl hs (fun v h => hk ⟨v, h⟩))
    clear hf hk hv hl
    go_enter Tryd.func12, Tryd.ntmps12
    go_wp2_with (first | ((with_reducible refine gate_callee (f := 20) rfl ?_); refine goesL_ (some _) rfl rfl Tryd.func20 (by kernel_rfl) rfl #[.string s, .int .i64 10, .int .i64 64] rfl aw_ ?_; (with_reducible refine HP.out.mono ?_); rintro e w1 ⟨v, t, p, rfl, hb⟩; refine ⟨_, rfl, ?_⟩; have HB := Aside0.mk hb; clear hb))
    go_ret2
    exact ⟨rfl, HB.out⟩
  obtain ⟨v, hp⟩ := hk
  obtain ⟨v0, v1⟩ := hv v hp
  have HP := Aside0.mk (impl_ReadDecimal.parse_ok s v w hs hp)
  have HV := Aside0.mk (And.intro v0 v1)
  obtain ⟨tb, htb⟩ : ∃ tb : ByteArray, ⟨(Lib.trimPrefix s.data.toList [45]).toArray⟩ = tb := ⟨_, rfl⟩
  obtain ⟨db, hdb⟩ : ∃ db : ByteArray, ⟨(Lib.itoa v).toArray⟩ = db := ⟨_, rfl⟩
  have HT := Aside0.mk (fun w => htb ▸ impl_ReadDecimal.trim s w)
  have HD := Aside0.mk (fun w hl => hdb ▸ impl_Decimal.calls v v0 v1 w hl)
  have hf : impl_ReadDecimal.f s = if 18 < tb.size then (0, false) else if (db.toList == s.toList) = true then (v, true) else (0, false) := by
    unfold impl_ReadDecimal.f
    rw [hp, ← htb, ← hdb]
  rw [hf]
  clear hf hp hv hl htb hdb v0 v1
  by_cases c1 : 18 < tb.size
  · rw [if_pos c1]
    have c10 : decide (18 < (tb.size : Int)) = true := decide_eq_true (by omega)
    have c11 : (18 < (tb.size : Int)) = True := eq_true (by omega)
    clear c1
    go_enter Tryd.func12, Tryd.ntmps12
    go_wp2_with (first | ((with_reducible refine gate_callee (f := 20) rfl ?_); refine goesL_ (some _) rfl rfl Tryd.func20 (by kernel_rfl) rfl #[.string s, .int .i64 10, .int .i64 64] rfl aw_ ?_; (with_reducible refine HP.out.mono ?_); rintro e w1 ⟨rfl, hb⟩; refine ⟨_, rfl, ?_⟩; have HB := Aside0.mk hb; clear hb) | (go_at_call 21; refine calls_of_args (args' := #[.string s, .string ⟨#[45]⟩]) (by (try simp only [List.map_toArray, List.map_cons, List.map_nil]); first | done | rfl) ?_; (with_reducible refine (HT.out _).mono ?_); rintro e w2 ⟨rfl, rfl⟩))
    go_ret2
    exact ⟨rfl, HB.out⟩
  rw [if_neg c1]
  have c10 : decide (18 < (tb.size : Int)) = false := decide_eq_false (by omega)
  have c11 : (18 < (tb.size : Int)) = False := eq_false (by omega)
  clear c1
  by_cases c2 : (db.toList == s.toList) = true
  · rw [if_pos c2]
    go_enter Tryd.func12, Tryd.ntmps12
    go_wp2_with (first | ((with_reducible refine gate_callee (f := 20) rfl ?_); refine goesL_ (some _) rfl rfl Tryd.func20 (by kernel_rfl) rfl #[.string s, .int .i64 10, .int .i64 64] rfl aw_ ?_; (with_reducible refine HP.out.mono ?_); rintro e w1 ⟨rfl, hb⟩; refine ⟨_, rfl, ?_⟩; have HB := Aside0.mk hb; clear hb) | (go_at_call 21; refine calls_of_args (args' := #[.string s, .string ⟨#[45]⟩]) (by (try simp only [List.map_toArray, List.map_cons, List.map_nil]); first | done | rfl) ?_; (with_reducible refine (HT.out _).mono ?_); rintro e w2 ⟨rfl, rfl⟩) | (go_at_call 22; refine calls_of_args (args' := #[.int .i64 v]) (by (try simp only [List.map_toArray, List.map_cons, List.map_nil]); first | done | rfl) ?_; (with_reducible refine (HD.out _ (HL.out.below HB.out)).mono ?_); rintro e w3 ⟨rfl, hb⟩; have hb2 := below_step HB.out hb; clear HB hb; have HB := Aside0.mk hb2; clear hb2))
    go_ret2
    exact ⟨rfl, HB.out⟩
  · rw [if_neg c2]
    have c20 : (db.toList == s.toList) = false := Bool.eq_false_iff.2 c2
    clear c2
    go_enter Tryd.func12, Tryd.ntmps12
    go_wp2_with (first | ((with_reducible refine gate_callee (f := 20) rfl ?_); refine goesL_ (some _) rfl rfl Tryd.func20 (by kernel_rfl) rfl #[.string s, .int .i64 10, .int .i64 64] rfl aw_ ?_; (with_reducible refine HP.out.mono ?_); rintro e w1 ⟨rfl, hb⟩; refine ⟨_, rfl, ?_⟩; have HB := Aside0.mk hb; clear hb) | (go_at_call 21; refine calls_of_args (args' := #[.string s, .string ⟨#[45]⟩]) (by (try simp only [List.map_toArray, List.map_cons, List.map_nil]); first | done | rfl) ?_; (with_reducible refine (HT.out _).mono ?_); rintro e w2 ⟨rfl, rfl⟩) | (go_at_call 22; refine calls_of_args (args' := #[.int .i64 v]) (by (try simp only [List.map_toArray, List.map_cons, List.map_nil]); first | done | rfl) ?_; (with_reducible refine (HD.out _ (HL.out.below HB.out)).mono ?_); rintro e w3 ⟨rfl, hb⟩; have hb2 := below_step HB.out hb; clear HB hb; have HB := Aside0.mk hb2; clear hb2))
    go_ret2
    exact ⟨rfl, HB.out⟩

end Go.Proofs.YtpbciknccgpndaaDoor.P
end

section
namespace Go.Proofs.YtpbciknccgpndaaDoor.P
open Go.RowKit Go.Proofs.YtpbciknccgpndaaDoorW.PrintWords Go.Proofs.YtpbciknccgpndaaDoorW.PrintLast Go.Proofs.YtpbciknccgpndaaDoorW.PrintMore
attribute [local go_sem] max2_int min2_int max_two min_two max_three min_three max_four min_four   -- for this text's walks alone
set_option linter.unusedVariables false
set_option linter.unusedSimpArgs false
/-! ### impl_ReadOrnament_1: function 10 (given) -/
set_option maxHeartbeats 8000000 in
set_option maxRecDepth 100000 in
theorem impl_ReadOrnament_1.calls {w : World} {gx g : Nat} {s0 : ByteArray} (n : Int) (h0 : w.cell? ⟨gx, 0, none⟩ = some (.slice (some ⟨g, 0, none⟩) 3 3)) (h1 : w.cell? ⟨g, 0, none⟩ = some (.string s0)) : Calls Tryd.prog 10 #[.int .i64 n, .pointer (some ⟨gx, 0, none⟩)] w fun e w' => e = .returned (.bool ((impl_OrnamentName.f n).toList == s0.toList)) ∧ Below w.heap.size w w' := by
  obtain ⟨s1, hs1⟩ : ∃ s1, impl_OrnamentName.f n = s1 := ⟨_, rfl⟩
  have C1 := Aside0.mk (fun w => hs1 ▸ impl_OrnamentName.calls n w)
  rw [hs1]
  have H0 := Aside0.mk h0
  have H1 := Aside0.mk h1
  clear hs1 h0 h1
  go_enter Tryd.func10, Tryd.ntmps10
  go_upto_region 1 with (fail)
  refine start_ (n := 7) (S := fun w' => w'.cell? ⟨gx, 0, none⟩ = some (.slice (some ⟨g, 0, none⟩) 3 3) ∧ w'.cell? ⟨g, 0, none⟩ = some (.string s0)) (ds := []) #[false, false, false, false, false, false, false] (by kernel_rfl) rfl rfl ⟨H0.out, H1.out⟩ (fun hHeld => ?_)
  have hb := below_drew1 (Below.refl w.heap.size w)
  obtain ⟨wd, hw_⟩ : ∃ W_, World.drew w = W_ := ⟨_, rfl⟩
  rw [hw_] at hb hHeld ⊢
  clear hw_
  have HB := Aside0.mk hb
  clear hb
  refine tv_ hHeld 2 6 #[false, false, true, false, false, false, false] ?_
  refine pv_ 3 7 #[false, false, true, true, false, false, false] ?_
  refine tv_ hHeld 4 8 #[false, false, true, true, true, false, false] ?_
  refine pv_ 0 4 #[true, false, true, true, true, false, false] ?_
  refine one_ (i := 1) (N := some 5) #[true, true, true, true, true, false, false] rfl rfl (by kernel_rfl) (by decide) (fun K_ hK => ?_)
  refine goes_ Tryd.func11 (by kernel_rfl) rfl #[.int .i64 n] (by rfl) rfl rfl aw_ ?_
  refine (C1.out _).mono ?_
  rintro e w3 ⟨rfl, hb⟩
  refine ⟨_, rfl, ?_⟩
  have hb2 := below_step HB.out hb
  have q0 := (hb2.cell (World.block_lt_of_cell? w _ H0.out)).trans H0.out
  have q1 := (hb2.cell (World.block_lt_of_cell? w _ H1.out)).trans H1.out
  clear HB hb hHeld
  have HB := Aside0.mk hb2
  clear hb2
  refine hK.out _ _ ⟨q0, q1⟩ (fun hHeld => ?_)
  clear hK K_ q0 q1
  refine norm_ (a' := ?_) ?_ ?_
  rotate_left
  · show Act.put _ (some 5) _ = _; go_simp; rfl
  refine pv_ 5 9 #[true, true, true, true, true, true, false] ?_
  refine pv_ 6 3 #[true, true, true, true, true, true, true] ?_
  refine done_ (by kernel_rfl) ?_
  clear hHeld
  go_wp2
  go_ret
  exact ⟨rfl, HB.out⟩
end Go.Proofs.YtpbciknccgpndaaDoor.P
end

section
namespace Go.Proofs.YtpbciknccgpndaaDoor.P
open Go.RowKit Go.Proofs.YtpbciknccgpndaaDoorW.PrintWords Go.Proofs.YtpbciknccgpndaaDoorW.PrintLast Go.Proofs.YtpbciknccgpndaaDoorW.PrintMore
attribute [local go_sem] max2_int min2_int max_two min_two max_three min_three max_four min_four   -- for this text's walks alone
set_option linter.unusedVariables false
set_option linter.unusedSimpArgs false

/-! ### strings_Split: function 8 (given) -/
section
open Go.RowKit Go.Sort Go.Shelf Go.Proofs
theorem strings_Split.info : (Tryd.prog.info? (laySplit_ren.t 9)).map (fun i => (i.zero, i.size, i.bytes)) = some (some (.string ByteArray.empty), 1, 16) := by kernel_rfl
/-- The words of a text. -/
def wordsB (s : ByteArray) : List ByteArray := Lib.splitB ⟨#[32]⟩ 0 (Lib.countB s ⟨#[32]⟩) s
theorem strings_Split.calls (s : ByteArray) (w : World) (hl : LaidW w) (hs : s.size < 4294967281) : Calls Tryd.prog 8 #[.string s, .string ⟨#[32]⟩] w fun e w' => e = .returned (.slice (some ⟨w.heap.size, 0, none⟩) (wordsB s).length (wordsB s).length) ∧ w' = w.alloc (.cells ((wordsB s).map Value.string).toArray 9) := by
  obtain ⟨_, _, _, m, hm⟩ := hl
  have hlen : (wordsB s).length = Lib.countB s ⟨#[32]⟩ + 1 := Lib.splitB_all ⟨#[32]⟩ (by decide) 0 _ s rfl
  rw [hlen]
  exact (show Calls Tryd.prog 8 #[.string s, .string ⟨#[32]⟩] w _ from Any.strings_Split laySplit strings_Split.info s ⟨#[32]⟩ m w hs hm (by decide))
end

end Go.Proofs.YtpbciknccgpndaaDoor.P
end

section
namespace Go.Proofs.YtpbciknccgpndaaDoor.P
open Go.RowKit Go.Proofs.YtpbciknccgpndaaDoorW.PrintWords Go.Proofs.YtpbciknccgpndaaDoorW.PrintLast Go.Proofs.YtpbciknccgpndaaDoorW.PrintMore
attribute [local go_sem] max2_int min2_int max_two min_two max_three min_three max_four min_four   -- for this text's walks alone
set_option linter.unusedVariables false
set_option linter.unusedSimpArgs false
/-! ### impl_ReadOrnament: function 5 (given) -/
theorem fill_other {g g' : Nat} {o : Obj} (hne : g' ≠ g) : ∀ (vs : List Value) (w : World) (j : Nat), w.heap[g']? = some o → (fill g w j vs).heap[g']? = some o
  | [], _, _, h => h
  | v :: vs, w, j, h => fill_other hne vs _ _ ((Below.heap_setCell w ⟨g, j, none⟩ v g' hne).trans h)
/-- The result's block, the list's block, the words. -/
def impl_ReadOrnament.St (w W : World) (gb gx g : Nat) (a b c : ByteArray) : Prop := W.heap[gb]? = some (.cells #[.int .i64 0, .int .i64 0, .int .i64 0] 23 (0, 0)) ∧ W.heap[gx]? = some (.cells #[.slice (some ⟨g, 0, none⟩) 3 3] 28 (0, 0)) ∧ W.heap[g]? = some (.cells #[.string a, .string b, .string c] 9 (0, 0)) ∧ Below w.heap.size w W
theorem impl_ReadOrnament.St.below {w W W1 : World} {gb gx g : Nat} {a b c : ByteArray} (h : impl_ReadOrnament.St w W gb gx g a b c) (hb : Below W.heap.size W W1) : impl_ReadOrnament.St w W1 gb gx g a b c := ⟨blk_below h.1 hb, blk_below h.2.1 hb, blk_below h.2.2.1 hb, below_step h.2.2.2 hb⟩
theorem impl_ReadOrnament.St.fill {w W : World} {gb gx g gy t : Nat} {a b c : ByteArray} {cs : Array Value} (h : impl_ReadOrnament.St w W gb gx g a b c) (hy : W.heap[gy]? = some (.cells cs t (0, 0))) (vs : List Value) (h0 : gb ≠ gy) (h1 : gx ≠ gy) (h2 : g ≠ gy) (hge : w.heap.size ≤ gy) : impl_ReadOrnament.St w (fill gy W 0 vs) gb gx g a b c := ⟨fill_other h0 _ _ _ h.1, fill_other h1 _ _ _ h.2.1, fill_other h2 _ _ _ h.2.2.1, fill_below hge _ _ _ h.2.2.2⟩
theorem impl_ReadOrnament.St.x {w W : World} {gb gx g : Nat} {a b c : ByteArray} (h : impl_ReadOrnament.St w W gb gx g a b c) : W.cell? ⟨gx, 0, none⟩ = some (.slice (some ⟨g, 0, none⟩) 3 3) := (blk_cell h.2.1 0).trans rfl
theorem impl_ReadOrnament.St.a {w W : World} {gb gx g : Nat} {a b c : ByteArray} (h : impl_ReadOrnament.St w W gb gx g a b c) : W.cell? ⟨g, 0, none⟩ = some (.string a) := (blk_cell h.2.2.1 0).trans rfl
theorem impl_ReadOrnament.St.b {w W : World} {gb gx g : Nat} {a b c : ByteArray} (h : impl_ReadOrnament.St w W gb gx g a b c) : W.cell? ⟨g, 1, none⟩ = some (.string b) := (blk_cell h.2.2.1 1).trans rfl
theorem impl_ReadOrnament.St.c {w W : World} {gb gx g : Nat} {a b c : ByteArray} (h : impl_ReadOrnament.St w W gb gx g a b c) : W.cell? ⟨g, 2, none⟩ = some (.string c) := (blk_cell h.2.2.1 2).trans rfl
theorem impl_ReadOrnament.lst (a : ByteArray) (k : Int) (one : Bool) (h : leastM (fun n => (impl_OrnamentName.f n).toList == a.toList) 4 1 = (k, one)) (W : World) (gx g : Nat) (h0 : W.cell? ⟨gx, 0, none⟩ = some (.slice (some ⟨g, 0, none⟩) 3 3)) (h1 : W.cell? ⟨g, 0, none⟩ = some (.string a)) : Calls Tryd.prog 9 #[.int .i64 1, .int .i64 4, .func (.func 10) #[] #[.pointer (some ⟨gx, 0, none⟩)]] W fun e w' => e = .returned (.tuple #[.int .i64 k, .bool one]) ∧ Below W.heap.size W w' := by
  refine (impl_least.calls 10 #[.pointer (some ⟨gx, 0, none⟩)] (enters_of Tryd.func10 (by kernel_rfl) rfl) (fun n => (impl_OrnamentName.f n).toList == a.toList) 1 4 W (by decide) (by decide) (fun V n _ _ hb => ?_)).mono ?_
  · have q0 := (hb.cell (World.block_lt_of_cell? W _ h0)).trans h0
    have q1 := (hb.cell (World.block_lt_of_cell? W _ h1)).trans h1
    refine (impl_ReadOrnament_1.calls (s0 := a) n q0 q1).mono ?_
    rintro e w' ⟨rfl, h⟩
    exact ⟨rfl, below_step hb h⟩
  · rintro e w' ⟨rfl, hb⟩
    have e_ : leastM (fun n => (impl_OrnamentName.f n).toList == a.toList) (4 + 1 - 1 : Int).toNat 1 = (k, one) := h
    rw [e_]
    exact ⟨rfl, hb⟩
set_option maxHeartbeats 8000000 in
set_option maxRecDepth 100000 in
theorem impl_ReadOrnament.short (s : ByteArray) (n : Nat) (hn : n ≠ 3) (w : World) (hl : LaidW w) (c0 : ∀ w, LaidW w → Calls Tryd.prog 8 #[.string s, .string ⟨#[32]⟩] w fun e w' => ∃ g, e = .returned (.slice (some ⟨g, 0, none⟩) n n) ∧ Below w.heap.size w w') : Calls Tryd.prog 5 #[.string s] w fun e w' => e = .returned (.tuple #[.agg #[.int .i64 0, .int .i64 0, .int .i64 0], .bool false]) ∧ Below w.heap.size w w' := by
  have hu := Tryd.underlying23
  have HL := Aside0.mk hl
  have C0 := Aside0.mk c0
  have c3b0 : ((n : Int) == 3) = false := beq_eq_false_iff_ne.mpr (by omega)
  have c3b1 : ((n : Int) != 3) = true := bne_iff_ne.mpr (by omega)
  clear hl c0 hn
  go_enter Tryd.func5, Tryd.ntmps5
  go_wp2_with (first | ((with_reducible refine gate_dst (N := 2) rfl ?_); refine box_event ?hg (N := 2) ?hd (cs := #[.int .i64 0, .int .i64 0, .int .i64 0]) (t := 23) ?hr ?_; (case hd => rfl); (case hg => rfl); (case hr => first | (go_simp; done) | (go_simp; rfl)); intro gb hg w1 hbox hb; have HB := Aside0.mk (hb); have BK := Aside0.mk (hbox); have GE := Aside0.mk (show w.heap.size ≤ gb from by rw [hg]; exact Nat.le_refl _); clear hg hbox hb) | ((with_reducible refine gate_callee (f := 8) rfl ?_); refine goesL_ (some _) rfl rfl Tryd.func8 (by kernel_rfl) rfl #[.string s, .string ⟨#[32]⟩] rfl aw_ ?_; (refine (C0.out _ (HL.out.below HB.out)).mono ?_); rintro e w2 ⟨g, rfl, hb⟩; refine ⟨_, rfl, ?_⟩; have n1 := blk_below BK.out hb; have n2 := below_step HB.out hb; clear BK HB hb; have BK := Aside0.mk n1; have HB := Aside0.mk n2; clear n1 n2) | ((with_reducible refine gate_dst (N := 4) rfl ?_); refine box_event ?hg (N := 4) ?hd (cs := #[.slice none 0 0]) (t := 28) ?hr ?_; (case hd => rfl); (case hg => rfl); (case hr => first | (go_simp; done) | (go_simp; rfl)); intro gx hg w3 hbox hb; have n1 := blk_below BK.out hb; have n2 := below_step HB.out hb; have n3 := (below_size HB.out); have GX := Aside0.mk (show w.heap.size ≤ gx from by rw [hg]; exact n3); clear n3 BK HB; have BK := Aside0.mk n1; have HB := Aside0.mk n2; clear n1 n2; have BX := Aside0.mk hbox; clear hg hbox hb) | ((with_reducible refine gate_store (p := 4) (v := .tmp 13) rfl ?_); refine store_all (t := 28) (x := .tmp 13) (u := (.slice (some ⟨g, 0, none⟩) n n)) (p := 4) (g := gx) ?hg ?ho ?hN [.slice (some ⟨g, 0, none⟩) n n] ?ha ?hx ?hu BX.out ?ht rfl ?h1 ?_; (case ho => rfl); (case hg => rfl); (case hN => rfl); (case ha => rfl); (case hx => rfl); (case hu => rfl); (case ht => kernel_rfl); (case h1 => kernel_rfl); intro w4 hw; have n1 := fill_all [.slice (some ⟨g, 0, none⟩) n n] BX.out rfl; have n2 := fill_other (g := gx) (blk_ne BK.out BX.out (by decide)) [.slice (some ⟨g, 0, none⟩) n n] w3 0 BK.out; have n3 := fill_below GX.out [.slice (some ⟨g, 0, none⟩) n n] w3 0 HB.out; rw [← hw] at n1 n2 n3; clear BX BK HB hw; have hx0 := (blk_cell n1 0).trans rfl; have BK := Aside0.mk n2; have HB := Aside0.mk n3; clear n1 n2 n3) | ((with_reducible refine gate_store (p := 2) (v := .tmp 17) rfl ?_); refine store_all (t := 23) (x := .tmp 17) (u := (.agg #[.int .i64 0, .int .i64 0, .int .i64 0])) (p := 2) (g := gb) ?hg ?ho ?hN [.int .i64 0, .int .i64 0, .int .i64 0] ?ha ?hx ?hu BK.out ?ht rfl ?h1 ?_; (case ho => rfl); (case hg => rfl); (case hN => rfl); (case ha => rfl); (case hx => rfl); (case hu => rfl); (case ht => kernel_rfl); (case h1 => kernel_rfl); intro w12 hw; have HBL := Aside0.mk (show w12.heap[gb]? = some (.cells #[.int .i64 0, .int .i64 0, .int .i64 0] 23 (0, 0)) from by rw [hw]; exact fill_all _ BK.out rfl); have HBW := Aside0.mk (show Below w.heap.size w w12 from by rw [hw]; exact fill_below GE.out _ _ _ HB.out); clear hw))
  refine bodyPost_ret (results_ct rfl _ _ gb 23 #[.int .i64 0, .int .i64 0, .int .i64 0] (0, 0) _ rfl HBL.out Tryd.underlying23 rfl (by kernel_rfl)) rfl ?_
  exact ⟨rfl, HBW.out⟩
set_option maxHeartbeats 8000000 in
set_option maxRecDepth 100000 in
theorem impl_ReadOrnament.no1 (s a b c x : ByteArray) (k d t : Int) (two : Bool) (three : Bool) (w : World) (hl : LaidW w) (c0 : ∀ w, LaidW w → Calls Tryd.prog 8 #[.string s, .string ⟨#[32]⟩] w fun e w' => ∃ g, e = .returned (.slice (some ⟨g, 0, none⟩) 3 3) ∧ w'.heap[g]? = some (.cells #[.string a, .string b, .string c] 9 (0, 0)) ∧ Below w.heap.size w w') (c1 : leastM (fun n => (impl_OrnamentName.f n).toList == a.toList) 4 1 = (k, false)) (c2 : ∀ w, LaidW w → Calls Tryd.prog 12 #[.string b] w fun e w' => e = .returned (.tuple #[.int .i64 d, .bool two]) ∧ Below w.heap.size w w') (c3 : ∀ w, LaidW w → Calls Tryd.prog 12 #[.string c] w fun e w' => e = .returned (.tuple #[.int .i64 t, .bool three]) ∧ Below w.heap.size w w') (c4 : ∀ w, LaidW w → Calls Tryd.prog 13 #[.agg #[.int .i64 k, .int .i64 d, .int .i64 t]] w fun e w' => e = .returned (.string x) ∧ Below w.heap.size w w') : Calls Tryd.prog 5 #[.string s] w fun e w' => e = .returned (.tuple #[.agg #[.int .i64 0, .int .i64 0, .int .i64 0], .bool false]) ∧ Below w.heap.size w w' := by
  have hu := Tryd.underlying23
  have HL := Aside0.mk hl
  have C0 := Aside0.mk c0
  have C1 := Aside0.mk c1
  have C2 := Aside0.mk c2
  have C3 := Aside0.mk c3
  have C4 := Aside0.mk c4
  clear hl c0 c1 c2 c3 c4
  go_enter Tryd.func5, Tryd.ntmps5
  go_wp2_with (first | ((with_reducible refine gate_dst (N := 2) rfl ?_); refine box_event ?hg (N := 2) ?hd (cs := #[.int .i64 0, .int .i64 0, .int .i64 0]) (t := 23) ?hr ?_; (case hd => rfl); (case hg => rfl); (case hr => first | (go_simp; done) | (go_simp; rfl)); intro gb hg w1 hbox hb; have HB := Aside0.mk (hb); have BK := Aside0.mk (hbox); have GE := Aside0.mk (show w.heap.size ≤ gb from by rw [hg]; exact Nat.le_refl _); clear hg hbox hb) | ((with_reducible refine gate_callee (f := 8) rfl ?_); refine goesL_ (some _) rfl rfl Tryd.func8 (by kernel_rfl) rfl #[.string s, .string ⟨#[32]⟩] rfl aw_ ?_; (refine (C0.out _ (HL.out.below HB.out)).mono ?_); rintro e w2 ⟨g, rfl, hbg, hb⟩; refine ⟨_, rfl, ?_⟩; have n1 := blk_below BK.out hb; have n2 := below_step HB.out hb; clear BK HB hb; have BK := Aside0.mk n1; have HB := Aside0.mk n2; have BG := Aside0.mk hbg; clear n1 n2 hbg) | ((with_reducible refine gate_dst (N := 4) rfl ?_); refine box_event ?hg (N := 4) ?hd (cs := #[.slice none 0 0]) (t := 28) ?hr ?_; (case hd => rfl); (case hg => rfl); (case hr => first | (go_simp; done) | (go_simp; rfl)); intro gx hg w3 hbox hb; have n1 := blk_below BK.out hb; have n2 := below_step HB.out hb; have n3 := (below_size HB.out); have GX := Aside0.mk (show w.heap.size ≤ gx from by rw [hg]; exact n3); have n4 := blk_below BG.out hb; clear BG; have BG := Aside0.mk n4; clear n4; clear n3 BK HB; have BK := Aside0.mk n1; have HB := Aside0.mk n2; clear n1 n2; have BX := Aside0.mk hbox; clear hg hbox hb) | ((with_reducible refine gate_store (p := 4) (v := .tmp 13) rfl ?_); refine store_all (t := 28) (x := .tmp 13) (u := (.slice (some ⟨g, 0, none⟩) 3 3)) (p := 4) (g := gx) ?hg ?ho ?hN [.slice (some ⟨g, 0, none⟩) 3 3] ?ha ?hx ?hu BX.out ?ht rfl ?h1 ?_; (case ho => rfl); (case hg => rfl); (case hN => rfl); (case ha => rfl); (case hx => rfl); (case hu => rfl); (case ht => kernel_rfl); (case h1 => kernel_rfl); intro w4 hw; have n1 := fill_all [.slice (some ⟨g, 0, none⟩) 3 3] BX.out rfl; have n2 := fill_other (g := gx) (blk_ne BK.out BX.out (by decide)) [.slice (some ⟨g, 0, none⟩) 3 3] w3 0 BK.out; have n4 := fill_other (g := gx) (blk_ne BG.out BX.out (by decide)) [.slice (some ⟨g, 0, none⟩) 3 3] w3 0 BG.out; have n3 := fill_below GX.out [.slice (some ⟨g, 0, none⟩) 3 3] w3 0 HB.out; rw [← hw] at n1 n2 n3 n4; clear BX BK HB BG hw; have ST := Aside0.mk (show impl_ReadOrnament.St w w4 gb gx g a b c from ⟨n2, n1, n4, n3⟩); clear n1 n2 n3 n4; have hx0 := ST.out.x) | ((with_reducible refine gate_callee (f := 9) rfl ?_); refine goesL_ (some _) rfl rfl Tryd.func9 (by kernel_rfl) rfl #[.int .i64 1, .int .i64 4, .func (.func 10) #[] #[.pointer (some ⟨gx, 0, none⟩)]] rfl aw_ ?_; (refine (impl_ReadOrnament.lst a k false C1.out _ gx g ST.out.x ST.out.a).mono ?_); rintro e w5 ⟨rfl, hb⟩; refine ⟨_, rfl, ?_⟩; have n1 := ST.out.below hb; clear ST hb hx0; have ST := Aside0.mk n1; clear n1; have hx0 := ST.out.x; have hx1 := ST.out.b; have Q0 := trivial) | ((clear Q0); (with_reducible refine gate_callee (f := 12) rfl ?_); refine goesL_ (some _) rfl rfl Tryd.func12 (by kernel_rfl) rfl #[.string b] rfl aw_ ?_; (refine (C2.out _ (HL.out.below ST.out.2.2.2)).mono ?_); rintro e w6 ⟨rfl, hb⟩; refine ⟨_, rfl, ?_⟩; have n1 := ST.out.below hb; clear ST hb hx0 hx1; have ST := Aside0.mk n1; clear n1; have hx0 := ST.out.x; have hx2 := ST.out.c; have Q1 := trivial) | ((clear Q1); (with_reducible refine gate_callee (f := 12) rfl ?_); refine goesL_ (some _) rfl rfl Tryd.func12 (by kernel_rfl) rfl #[.string c] rfl aw_ ?_; (refine (C3.out _ (HL.out.below ST.out.2.2.2)).mono ?_); rintro e w7 ⟨rfl, hb⟩; refine ⟨_, rfl, ?_⟩; have n1 := ST.out.below hb; clear ST hb hx0 hx2; have ST := Aside0.mk n1; clear n1; have Q2 := trivial) | ((with_reducible refine gate_dst (N := 11) rfl ?_); refine box_event ?hg (N := 11) ?hd (cs := #[.int .i64 0, .int .i64 0, .int .i64 0]) (t := 23) ?hr ?_; (case hd => rfl); (case hg => rfl); (case hr => first | (go_simp; done) | (go_simp; rfl)); intro gy hg w8 hbox hb; have n1 := ST.out.below hb; have n2 := below_size ST.out.2.2.2; have n3 := blk_lt ST.out.1; have n4 := blk_lt ST.out.2.1; have n5 := blk_lt ST.out.2.2.1; rw [← hg] at n2 n3 n4 n5; have GY := Aside0.mk (And.intro n2 (And.intro (Nat.ne_of_lt n3) (And.intro (Nat.ne_of_lt n4) (Nat.ne_of_lt n5)))); clear ST n2 n3 n4 n5; have ST := Aside0.mk n1; clear n1; have BY := Aside0.mk hbox; clear hg hbox hb) | ((with_reducible refine gate_store (p := 11) (v := .tmp 40) rfl ?_); refine store_all (t := 23) (x := .tmp 40) (u := (.agg #[.int .i64 k, .int .i64 d, .int .i64 t])) (p := 11) (g := gy) ?hg ?ho ?hN [.int .i64 k, .int .i64 d, .int .i64 t] ?ha ?hx ?hu BY.out ?ht rfl ?h1 ?_; (case ho => rfl); (case hg => rfl); (case hN => rfl); (case ha => rfl); (case hx => rfl); (case hu => rfl); (case ht => kernel_rfl); (case h1 => kernel_rfl); intro w9 hw; have n1 := fill_all [.int .i64 k, .int .i64 d, .int .i64 t] BY.out rfl; have n2 := ST.out.fill BY.out [.int .i64 k, .int .i64 d, .int .i64 t] GY.out.2.1 GY.out.2.2.1 GY.out.2.2.2 GY.out.1; rw [← hw] at n1 n2; clear BY ST hw; have BY := Aside0.mk n1; have ST := Aside0.mk n2; clear n1 n2; have y0 := (blk_cell BY.out 0).trans (show _ = some (.int .i64 k) from rfl); have y1 := (blk_cell BY.out 1).trans (show _ = some (.int .i64 d) from rfl); have y2 := (blk_cell BY.out 2).trans (show _ = some (.int .i64 t) from rfl)) | ((with_reducible refine gate_store (p := 2) (v := .tmp 57) rfl ?_); refine store_all (t := 23) (x := .tmp 57) (u := (.agg #[.int .i64 0, .int .i64 0, .int .i64 0])) (p := 2) (g := gb) ?hg ?ho ?hN [.int .i64 0, .int .i64 0, .int .i64 0] ?ha ?hx ?hu ST.out.1 ?ht rfl ?h1 ?_; (case ho => rfl); (case hg => rfl); (case hN => rfl); (case ha => rfl); (case hx => rfl); (case hu => rfl); (case ht => kernel_rfl); (case h1 => kernel_rfl); intro w12 hw; have HBL := Aside0.mk (show w12.heap[gb]? = some (.cells #[.int .i64 0, .int .i64 0, .int .i64 0] 23 (0, 0)) from by rw [hw]; exact fill_all _ ST.out.1 rfl); have HBW := Aside0.mk (show Below w.heap.size w w12 from by rw [hw]; exact fill_below GE.out _ _ _ ST.out.2.2.2); clear hw))
  refine bodyPost_ret (results_ct rfl _ _ gb 23 #[.int .i64 0, .int .i64 0, .int .i64 0] (0, 0) _ rfl HBL.out Tryd.underlying23 rfl (by kernel_rfl)) rfl ?_
  exact ⟨rfl, HBW.out⟩
set_option maxHeartbeats 8000000 in
set_option maxRecDepth 100000 in
theorem impl_ReadOrnament.no2 (s a b c x : ByteArray) (k d t : Int) (three : Bool) (w : World) (hl : LaidW w) (c0 : ∀ w, LaidW w → Calls Tryd.prog 8 #[.string s, .string ⟨#[32]⟩] w fun e w' => ∃ g, e = .returned (.slice (some ⟨g, 0, none⟩) 3 3) ∧ w'.heap[g]? = some (.cells #[.string a, .string b, .string c] 9 (0, 0)) ∧ Below w.heap.size w w') (c1 : leastM (fun n => (impl_OrnamentName.f n).toList == a.toList) 4 1 = (k, true)) (c2 : ∀ w, LaidW w → Calls Tryd.prog 12 #[.string b] w fun e w' => e = .returned (.tuple #[.int .i64 d, .bool false]) ∧ Below w.heap.size w w') (c3 : ∀ w, LaidW w → Calls Tryd.prog 12 #[.string c] w fun e w' => e = .returned (.tuple #[.int .i64 t, .bool three]) ∧ Below w.heap.size w w') (c4 : ∀ w, LaidW w → Calls Tryd.prog 13 #[.agg #[.int .i64 k, .int .i64 d, .int .i64 t]] w fun e w' => e = .returned (.string x) ∧ Below w.heap.size w w') : Calls Tryd.prog 5 #[.string s] w fun e w' => e = .returned (.tuple #[.agg #[.int .i64 0, .int .i64 0, .int .i64 0], .bool false]) ∧ Below w.heap.size w w' := by
  have hu := Tryd.underlying23
  have HL := Aside0.mk hl
  have C0 := Aside0.mk c0
  have C1 := Aside0.mk c1
  have C2 := Aside0.mk c2
  have C3 := Aside0.mk c3
  have C4 := Aside0.mk c4
  clear hl c0 c1 c2 c3 c4
  go_enter Tryd.func5, Tryd.ntmps5
  go_wp2_with (first | ((with_reducible refine gate_dst (N := 2) rfl ?_); refine box_event ?hg (N := 2) ?hd (cs := #[.int .i64 0, .int .i64 0, .int .i64 0]) (t := 23) ?hr ?_; (case hd => rfl); (case hg => rfl); (case hr => first | (go_simp; done) | (go_simp; rfl)); intro gb hg w1 hbox hb; have HB := Aside0.mk (hb); have BK := Aside0.mk (hbox); have GE := Aside0.mk (show w.heap.size ≤ gb from by rw [hg]; exact Nat.le_refl _); clear hg hbox hb) | ((with_reducible refine gate_callee (f := 8) rfl ?_); refine goesL_ (some _) rfl rfl Tryd.func8 (by kernel_rfl) rfl #[.string s, .string ⟨#[32]⟩] rfl aw_ ?_; (refine (C0.out _ (HL.out.below HB.out)).mono ?_); rintro e w2 ⟨g, rfl, hbg, hb⟩; refine ⟨_, rfl, ?_⟩; have n1 := blk_below BK.out hb; have n2 := below_step HB.out hb; clear BK HB hb; have BK := Aside0.mk n1; have HB := Aside0.mk n2; have BG := Aside0.mk hbg; clear n1 n2 hbg) | ((with_reducible refine gate_dst (N := 4) rfl ?_); refine box_event ?hg (N := 4) ?hd (cs := #[.slice none 0 0]) (t := 28) ?hr ?_; (case hd => rfl); (case hg => rfl); (case hr => first | (go_simp; done) | (go_simp; rfl)); intro gx hg w3 hbox hb; have n1 := blk_below BK.out hb; have n2 := below_step HB.out hb; have n3 := (below_size HB.out); have GX := Aside0.mk (show w.heap.size ≤ gx from by rw [hg]; exact n3); have n4 := blk_below BG.out hb; clear BG; have BG := Aside0.mk n4; clear n4; clear n3 BK HB; have BK := Aside0.mk n1; have HB := Aside0.mk n2; clear n1 n2; have BX := Aside0.mk hbox; clear hg hbox hb) | ((with_reducible refine gate_store (p := 4) (v := .tmp 13) rfl ?_); refine store_all (t := 28) (x := .tmp 13) (u := (.slice (some ⟨g, 0, none⟩) 3 3)) (p := 4) (g := gx) ?hg ?ho ?hN [.slice (some ⟨g, 0, none⟩) 3 3] ?ha ?hx ?hu BX.out ?ht rfl ?h1 ?_; (case ho => rfl); (case hg => rfl); (case hN => rfl); (case ha => rfl); (case hx => rfl); (case hu => rfl); (case ht => kernel_rfl); (case h1 => kernel_rfl); intro w4 hw; have n1 := fill_all [.slice (some ⟨g, 0, none⟩) 3 3] BX.out rfl; have n2 := fill_other (g := gx) (blk_ne BK.out BX.out (by decide)) [.slice (some ⟨g, 0, none⟩) 3 3] w3 0 BK.out; have n4 := fill_other (g := gx) (blk_ne BG.out BX.out (by decide)) [.slice (some ⟨g, 0, none⟩) 3 3] w3 0 BG.out; have n3 := fill_below GX.out [.slice (some ⟨g, 0, none⟩) 3 3] w3 0 HB.out; rw [← hw] at n1 n2 n3 n4; clear BX BK HB BG hw; have ST := Aside0.mk (show impl_ReadOrnament.St w w4 gb gx g a b c from ⟨n2, n1, n4, n3⟩); clear n1 n2 n3 n4; have hx0 := ST.out.x) | ((with_reducible refine gate_callee (f := 9) rfl ?_); refine goesL_ (some _) rfl rfl Tryd.func9 (by kernel_rfl) rfl #[.int .i64 1, .int .i64 4, .func (.func 10) #[] #[.pointer (some ⟨gx, 0, none⟩)]] rfl aw_ ?_; (refine (impl_ReadOrnament.lst a k true C1.out _ gx g ST.out.x ST.out.a).mono ?_); rintro e w5 ⟨rfl, hb⟩; refine ⟨_, rfl, ?_⟩; have n1 := ST.out.below hb; clear ST hb hx0; have ST := Aside0.mk n1; clear n1; have hx0 := ST.out.x; have hx1 := ST.out.b; have Q0 := trivial) | ((clear Q0); (with_reducible refine gate_callee (f := 12) rfl ?_); refine goesL_ (some _) rfl rfl Tryd.func12 (by kernel_rfl) rfl #[.string b] rfl aw_ ?_; (refine (C2.out _ (HL.out.below ST.out.2.2.2)).mono ?_); rintro e w6 ⟨rfl, hb⟩; refine ⟨_, rfl, ?_⟩; have n1 := ST.out.below hb; clear ST hb hx0 hx1; have ST := Aside0.mk n1; clear n1; have hx0 := ST.out.x; have hx2 := ST.out.c; have Q1 := trivial) | ((clear Q1); (with_reducible refine gate_callee (f := 12) rfl ?_); refine goesL_ (some _) rfl rfl Tryd.func12 (by kernel_rfl) rfl #[.string c] rfl aw_ ?_; (refine (C3.out _ (HL.out.below ST.out.2.2.2)).mono ?_); rintro e w7 ⟨rfl, hb⟩; refine ⟨_, rfl, ?_⟩; have n1 := ST.out.below hb; clear ST hb hx0 hx2; have ST := Aside0.mk n1; clear n1; have Q2 := trivial) | ((with_reducible refine gate_dst (N := 11) rfl ?_); refine box_event ?hg (N := 11) ?hd (cs := #[.int .i64 0, .int .i64 0, .int .i64 0]) (t := 23) ?hr ?_; (case hd => rfl); (case hg => rfl); (case hr => first | (go_simp; done) | (go_simp; rfl)); intro gy hg w8 hbox hb; have n1 := ST.out.below hb; have n2 := below_size ST.out.2.2.2; have n3 := blk_lt ST.out.1; have n4 := blk_lt ST.out.2.1; have n5 := blk_lt ST.out.2.2.1; rw [← hg] at n2 n3 n4 n5; have GY := Aside0.mk (And.intro n2 (And.intro (Nat.ne_of_lt n3) (And.intro (Nat.ne_of_lt n4) (Nat.ne_of_lt n5)))); clear ST n2 n3 n4 n5; have ST := Aside0.mk n1; clear n1; have BY := Aside0.mk hbox; clear hg hbox hb) | ((with_reducible refine gate_store (p := 11) (v := .tmp 40) rfl ?_); refine store_all (t := 23) (x := .tmp 40) (u := (.agg #[.int .i64 k, .int .i64 d, .int .i64 t])) (p := 11) (g := gy) ?hg ?ho ?hN [.int .i64 k, .int .i64 d, .int .i64 t] ?ha ?hx ?hu BY.out ?ht rfl ?h1 ?_; (case ho => rfl); (case hg => rfl); (case hN => rfl); (case ha => rfl); (case hx => rfl); (case hu => rfl); (case ht => kernel_rfl); (case h1 => kernel_rfl); intro w9 hw; have n1 := fill_all [.int .i64 k, .int .i64 d, .int .i64 t] BY.out rfl; have n2 := ST.out.fill BY.out [.int .i64 k, .int .i64 d, .int .i64 t] GY.out.2.1 GY.out.2.2.1 GY.out.2.2.2 GY.out.1; rw [← hw] at n1 n2; clear BY ST hw; have BY := Aside0.mk n1; have ST := Aside0.mk n2; clear n1 n2; have y0 := (blk_cell BY.out 0).trans (show _ = some (.int .i64 k) from rfl); have y1 := (blk_cell BY.out 1).trans (show _ = some (.int .i64 d) from rfl); have y2 := (blk_cell BY.out 2).trans (show _ = some (.int .i64 t) from rfl)) | ((with_reducible refine gate_store (p := 2) (v := .tmp 57) rfl ?_); refine store_all (t := 23) (x := .tmp 57) (u := (.agg #[.int .i64 0, .int .i64 0, .int .i64 0])) (p := 2) (g := gb) ?hg ?ho ?hN [.int .i64 0, .int .i64 0, .int .i64 0] ?ha ?hx ?hu ST.out.1 ?ht rfl ?h1 ?_; (case ho => rfl); (case hg => rfl); (case hN => rfl); (case ha => rfl); (case hx => rfl); (case hu => rfl); (case ht => kernel_rfl); (case h1 => kernel_rfl); intro w12 hw; have HBL := Aside0.mk (show w12.heap[gb]? = some (.cells #[.int .i64 0, .int .i64 0, .int .i64 0] 23 (0, 0)) from by rw [hw]; exact fill_all _ ST.out.1 rfl); have HBW := Aside0.mk (show Below w.heap.size w w12 from by rw [hw]; exact fill_below GE.out _ _ _ ST.out.2.2.2); clear hw))
  refine bodyPost_ret (results_ct rfl _ _ gb 23 #[.int .i64 0, .int .i64 0, .int .i64 0] (0, 0) _ rfl HBL.out Tryd.underlying23 rfl (by kernel_rfl)) rfl ?_
  exact ⟨rfl, HBW.out⟩
set_option maxHeartbeats 8000000 in
set_option maxRecDepth 100000 in
theorem impl_ReadOrnament.no3 (s a b c x : ByteArray) (k d t : Int) (w : World) (hl : LaidW w) (c0 : ∀ w, LaidW w → Calls Tryd.prog 8 #[.string s, .string ⟨#[32]⟩] w fun e w' => ∃ g, e = .returned (.slice (some ⟨g, 0, none⟩) 3 3) ∧ w'.heap[g]? = some (.cells #[.string a, .string b, .string c] 9 (0, 0)) ∧ Below w.heap.size w w') (c1 : leastM (fun n => (impl_OrnamentName.f n).toList == a.toList) 4 1 = (k, true)) (c2 : ∀ w, LaidW w → Calls Tryd.prog 12 #[.string b] w fun e w' => e = .returned (.tuple #[.int .i64 d, .bool true]) ∧ Below w.heap.size w w') (c3 : ∀ w, LaidW w → Calls Tryd.prog 12 #[.string c] w fun e w' => e = .returned (.tuple #[.int .i64 t, .bool false]) ∧ Below w.heap.size w w') (c4 : ∀ w, LaidW w → Calls Tryd.prog 13 #[.agg #[.int .i64 k, .int .i64 d, .int .i64 t]] w fun e w' => e = .returned (.string x) ∧ Below w.heap.size w w') : Calls Tryd.prog 5 #[.string s] w fun e w' => e = .returned (.tuple #[.agg #[.int .i64 0, .int .i64 0, .int .i64 0], .bool false]) ∧ Below w.heap.size w w' := by
  have hu := Tryd.underlying23
  have HL := Aside0.mk hl
  have C0 := Aside0.mk c0
  have C1 := Aside0.mk c1
  have C2 := Aside0.mk c2
  have C3 := Aside0.mk c3
  have C4 := Aside0.mk c4
  clear hl c0 c1 c2 c3 c4
  go_enter Tryd.func5, Tryd.ntmps5
  go_wp2_with (first | ((with_reducible refine gate_dst (N := 2) rfl ?_); refine box_event ?hg (N := 2) ?hd (cs := #[.int .i64 0, .int .i64 0, .int .i64 0]) (t := 23) ?hr ?_; (case hd => rfl); (case hg => rfl); (case hr => first | (go_simp; done) | (go_simp; rfl)); intro gb hg w1 hbox hb; have HB := Aside0.mk (hb); have BK := Aside0.mk (hbox); have GE := Aside0.mk (show w.heap.size ≤ gb from by rw [hg]; exact Nat.le_refl _); clear hg hbox hb) | ((with_reducible refine gate_callee (f := 8) rfl ?_); refine goesL_ (some _) rfl rfl Tryd.func8 (by kernel_rfl) rfl #[.string s, .string ⟨#[32]⟩] rfl aw_ ?_; (refine (C0.out _ (HL.out.below HB.out)).mono ?_); rintro e w2 ⟨g, rfl, hbg, hb⟩; refine ⟨_, rfl, ?_⟩; have n1 := blk_below BK.out hb; have n2 := below_step HB.out hb; clear BK HB hb; have BK := Aside0.mk n1; have HB := Aside0.mk n2; have BG := Aside0.mk hbg; clear n1 n2 hbg) | ((with_reducible refine gate_dst (N := 4) rfl ?_); refine box_event ?hg (N := 4) ?hd (cs := #[.slice none 0 0]) (t := 28) ?hr ?_; (case hd => rfl); (case hg => rfl); (case hr => first | (go_simp; done) | (go_simp; rfl)); intro gx hg w3 hbox hb; have n1 := blk_below BK.out hb; have n2 := below_step HB.out hb; have n3 := (below_size HB.out); have GX := Aside0.mk (show w.heap.size ≤ gx from by rw [hg]; exact n3); have n4 := blk_below BG.out hb; clear BG; have BG := Aside0.mk n4; clear n4; clear n3 BK HB; have BK := Aside0.mk n1; have HB := Aside0.mk n2; clear n1 n2; have BX := Aside0.mk hbox; clear hg hbox hb) | ((with_reducible refine gate_store (p := 4) (v := .tmp 13) rfl ?_); refine store_all (t := 28) (x := .tmp 13) (u := (.slice (some ⟨g, 0, none⟩) 3 3)) (p := 4) (g := gx) ?hg ?ho ?hN [.slice (some ⟨g, 0, none⟩) 3 3] ?ha ?hx ?hu BX.out ?ht rfl ?h1 ?_; (case ho => rfl); (case hg => rfl); (case hN => rfl); (case ha => rfl); (case hx => rfl); (case hu => rfl); (case ht => kernel_rfl); (case h1 => kernel_rfl); intro w4 hw; have n1 := fill_all [.slice (some ⟨g, 0, none⟩) 3 3] BX.out rfl; have n2 := fill_other (g := gx) (blk_ne BK.out BX.out (by decide)) [.slice (some ⟨g, 0, none⟩) 3 3] w3 0 BK.out; have n4 := fill_other (g := gx) (blk_ne BG.out BX.out (by decide)) [.slice (some ⟨g, 0, none⟩) 3 3] w3 0 BG.out; have n3 := fill_below GX.out [.slice (some ⟨g, 0, none⟩) 3 3] w3 0 HB.out; rw [← hw] at n1 n2 n3 n4; clear BX BK HB BG hw; have ST := Aside0.mk (show impl_ReadOrnament.St w w4 gb gx g a b c from ⟨n2, n1, n4, n3⟩); clear n1 n2 n3 n4; have hx0 := ST.out.x) | ((with_reducible refine gate_callee (f := 9) rfl ?_); refine goesL_ (some _) rfl rfl Tryd.func9 (by kernel_rfl) rfl #[.int .i64 1, .int .i64 4, .func (.func 10) #[] #[.pointer (some ⟨gx, 0, none⟩)]] rfl aw_ ?_; (refine (impl_ReadOrnament.lst a k true C1.out _ gx g ST.out.x ST.out.a).mono ?_); rintro e w5 ⟨rfl, hb⟩; refine ⟨_, rfl, ?_⟩; have n1 := ST.out.below hb; clear ST hb hx0; have ST := Aside0.mk n1; clear n1; have hx0 := ST.out.x; have hx1 := ST.out.b; have Q0 := trivial) | ((clear Q0); (with_reducible refine gate_callee (f := 12) rfl ?_); refine goesL_ (some _) rfl rfl Tryd.func12 (by kernel_rfl) rfl #[.string b] rfl aw_ ?_; (refine (C2.out _ (HL.out.below ST.out.2.2.2)).mono ?_); rintro e w6 ⟨rfl, hb⟩; refine ⟨_, rfl, ?_⟩; have n1 := ST.out.below hb; clear ST hb hx0 hx1; have ST := Aside0.mk n1; clear n1; have hx0 := ST.out.x; have hx2 := ST.out.c; have Q1 := trivial) | ((clear Q1); (with_reducible refine gate_callee (f := 12) rfl ?_); refine goesL_ (some _) rfl rfl Tryd.func12 (by kernel_rfl) rfl #[.string c] rfl aw_ ?_; (refine (C3.out _ (HL.out.below ST.out.2.2.2)).mono ?_); rintro e w7 ⟨rfl, hb⟩; refine ⟨_, rfl, ?_⟩; have n1 := ST.out.below hb; clear ST hb hx0 hx2; have ST := Aside0.mk n1; clear n1; have Q2 := trivial) | ((with_reducible refine gate_dst (N := 11) rfl ?_); refine box_event ?hg (N := 11) ?hd (cs := #[.int .i64 0, .int .i64 0, .int .i64 0]) (t := 23) ?hr ?_; (case hd => rfl); (case hg => rfl); (case hr => first | (go_simp; done) | (go_simp; rfl)); intro gy hg w8 hbox hb; have n1 := ST.out.below hb; have n2 := below_size ST.out.2.2.2; have n3 := blk_lt ST.out.1; have n4 := blk_lt ST.out.2.1; have n5 := blk_lt ST.out.2.2.1; rw [← hg] at n2 n3 n4 n5; have GY := Aside0.mk (And.intro n2 (And.intro (Nat.ne_of_lt n3) (And.intro (Nat.ne_of_lt n4) (Nat.ne_of_lt n5)))); clear ST n2 n3 n4 n5; have ST := Aside0.mk n1; clear n1; have BY := Aside0.mk hbox; clear hg hbox hb) | ((with_reducible refine gate_store (p := 11) (v := .tmp 40) rfl ?_); refine store_all (t := 23) (x := .tmp 40) (u := (.agg #[.int .i64 k, .int .i64 d, .int .i64 t])) (p := 11) (g := gy) ?hg ?ho ?hN [.int .i64 k, .int .i64 d, .int .i64 t] ?ha ?hx ?hu BY.out ?ht rfl ?h1 ?_; (case ho => rfl); (case hg => rfl); (case hN => rfl); (case ha => rfl); (case hx => rfl); (case hu => rfl); (case ht => kernel_rfl); (case h1 => kernel_rfl); intro w9 hw; have n1 := fill_all [.int .i64 k, .int .i64 d, .int .i64 t] BY.out rfl; have n2 := ST.out.fill BY.out [.int .i64 k, .int .i64 d, .int .i64 t] GY.out.2.1 GY.out.2.2.1 GY.out.2.2.2 GY.out.1; rw [← hw] at n1 n2; clear BY ST hw; have BY := Aside0.mk n1; have ST := Aside0.mk n2; clear n1 n2; have y0 := (blk_cell BY.out 0).trans (show _ = some (.int .i64 k) from rfl); have y1 := (blk_cell BY.out 1).trans (show _ = some (.int .i64 d) from rfl); have y2 := (blk_cell BY.out 2).trans (show _ = some (.int .i64 t) from rfl)) | ((with_reducible refine gate_store (p := 2) (v := .tmp 57) rfl ?_); refine store_all (t := 23) (x := .tmp 57) (u := (.agg #[.int .i64 0, .int .i64 0, .int .i64 0])) (p := 2) (g := gb) ?hg ?ho ?hN [.int .i64 0, .int .i64 0, .int .i64 0] ?ha ?hx ?hu ST.out.1 ?ht rfl ?h1 ?_; (case ho => rfl); (case hg => rfl); (case hN => rfl); (case ha => rfl); (case hx => rfl); (case hu => rfl); (case ht => kernel_rfl); (case h1 => kernel_rfl); intro w12 hw; have HBL := Aside0.mk (show w12.heap[gb]? = some (.cells #[.int .i64 0, .int .i64 0, .int .i64 0] 23 (0, 0)) from by rw [hw]; exact fill_all _ ST.out.1 rfl); have HBW := Aside0.mk (show Below w.heap.size w w12 from by rw [hw]; exact fill_below GE.out _ _ _ ST.out.2.2.2); clear hw))
  refine bodyPost_ret (results_ct rfl _ _ gb 23 #[.int .i64 0, .int .i64 0, .int .i64 0] (0, 0) _ rfl HBL.out Tryd.underlying23 rfl (by kernel_rfl)) rfl ?_
  exact ⟨rfl, HBW.out⟩
set_option maxHeartbeats 8000000 in
set_option maxRecDepth 100000 in
theorem impl_ReadOrnament.no4 (s a b c x : ByteArray) (k d t : Int) (w : World) (hl : LaidW w) (c0 : ∀ w, LaidW w → Calls Tryd.prog 8 #[.string s, .string ⟨#[32]⟩] w fun e w' => ∃ g, e = .returned (.slice (some ⟨g, 0, none⟩) 3 3) ∧ w'.heap[g]? = some (.cells #[.string a, .string b, .string c] 9 (0, 0)) ∧ Below w.heap.size w w') (c1 : leastM (fun n => (impl_OrnamentName.f n).toList == a.toList) 4 1 = (k, true)) (c2 : ∀ w, LaidW w → Calls Tryd.prog 12 #[.string b] w fun e w' => e = .returned (.tuple #[.int .i64 d, .bool true]) ∧ Below w.heap.size w w') (c3 : ∀ w, LaidW w → Calls Tryd.prog 12 #[.string c] w fun e w' => e = .returned (.tuple #[.int .i64 t, .bool true]) ∧ Below w.heap.size w w') (c4 : ∀ w, LaidW w → Calls Tryd.prog 13 #[.agg #[.int .i64 k, .int .i64 d, .int .i64 t]] w fun e w' => e = .returned (.string x) ∧ Below w.heap.size w w') (h : (x.toList == s.toList) = false) : Calls Tryd.prog 5 #[.string s] w fun e w' => e = .returned (.tuple #[.agg #[.int .i64 0, .int .i64 0, .int .i64 0], .bool false]) ∧ Below w.heap.size w w' := by
  have hu := Tryd.underlying23
  have HL := Aside0.mk hl
  have C0 := Aside0.mk c0
  have C1 := Aside0.mk c1
  have C2 := Aside0.mk c2
  have C3 := Aside0.mk c3
  have C4 := Aside0.mk c4
  clear hl c0 c1 c2 c3 c4
  go_enter Tryd.func5, Tryd.ntmps5
  go_wp2_with (first | ((with_reducible refine gate_dst (N := 2) rfl ?_); refine box_event ?hg (N := 2) ?hd (cs := #[.int .i64 0, .int .i64 0, .int .i64 0]) (t := 23) ?hr ?_; (case hd => rfl); (case hg => rfl); (case hr => first | (go_simp; done) | (go_simp; rfl)); intro gb hg w1 hbox hb; have HB := Aside0.mk (hb); have BK := Aside0.mk (hbox); have GE := Aside0.mk (show w.heap.size ≤ gb from by rw [hg]; exact Nat.le_refl _); clear hg hbox hb) | ((with_reducible refine gate_callee (f := 8) rfl ?_); refine goesL_ (some _) rfl rfl Tryd.func8 (by kernel_rfl) rfl #[.string s, .string ⟨#[32]⟩] rfl aw_ ?_; (refine (C0.out _ (HL.out.below HB.out)).mono ?_); rintro e w2 ⟨g, rfl, hbg, hb⟩; refine ⟨_, rfl, ?_⟩; have n1 := blk_below BK.out hb; have n2 := below_step HB.out hb; clear BK HB hb; have BK := Aside0.mk n1; have HB := Aside0.mk n2; have BG := Aside0.mk hbg; clear n1 n2 hbg) | ((with_reducible refine gate_dst (N := 4) rfl ?_); refine box_event ?hg (N := 4) ?hd (cs := #[.slice none 0 0]) (t := 28) ?hr ?_; (case hd => rfl); (case hg => rfl); (case hr => first | (go_simp; done) | (go_simp; rfl)); intro gx hg w3 hbox hb; have n1 := blk_below BK.out hb; have n2 := below_step HB.out hb; have n3 := (below_size HB.out); have GX := Aside0.mk (show w.heap.size ≤ gx from by rw [hg]; exact n3); have n4 := blk_below BG.out hb; clear BG; have BG := Aside0.mk n4; clear n4; clear n3 BK HB; have BK := Aside0.mk n1; have HB := Aside0.mk n2; clear n1 n2; have BX := Aside0.mk hbox; clear hg hbox hb) | ((with_reducible refine gate_store (p := 4) (v := .tmp 13) rfl ?_); refine store_all (t := 28) (x := .tmp 13) (u := (.slice (some ⟨g, 0, none⟩) 3 3)) (p := 4) (g := gx) ?hg ?ho ?hN [.slice (some ⟨g, 0, none⟩) 3 3] ?ha ?hx ?hu BX.out ?ht rfl ?h1 ?_; (case ho => rfl); (case hg => rfl); (case hN => rfl); (case ha => rfl); (case hx => rfl); (case hu => rfl); (case ht => kernel_rfl); (case h1 => kernel_rfl); intro w4 hw; have n1 := fill_all [.slice (some ⟨g, 0, none⟩) 3 3] BX.out rfl; have n2 := fill_other (g := gx) (blk_ne BK.out BX.out (by decide)) [.slice (some ⟨g, 0, none⟩) 3 3] w3 0 BK.out; have n4 := fill_other (g := gx) (blk_ne BG.out BX.out (by decide)) [.slice (some ⟨g, 0, none⟩) 3 3] w3 0 BG.out; have n3 := fill_below GX.out [.slice (some ⟨g, 0, none⟩) 3 3] w3 0 HB.out; rw [← hw] at n1 n2 n3 n4; clear BX BK HB BG hw; have ST := Aside0.mk (show impl_ReadOrnament.St w w4 gb gx g a b c from ⟨n2, n1, n4, n3⟩); clear n1 n2 n3 n4; have hx0 := ST.out.x) | ((with_reducible refine gate_callee (f := 9) rfl ?_); refine goesL_ (some _) rfl rfl Tryd.func9 (by kernel_rfl) rfl #[.int .i64 1, .int .i64 4, .func (.func 10) #[] #[.pointer (some ⟨gx, 0, none⟩)]] rfl aw_ ?_; (refine (impl_ReadOrnament.lst a k true C1.out _ gx g ST.out.x ST.out.a).mono ?_); rintro e w5 ⟨rfl, hb⟩; refine ⟨_, rfl, ?_⟩; have n1 := ST.out.below hb; clear ST hb hx0; have ST := Aside0.mk n1; clear n1; have hx0 := ST.out.x; have hx1 := ST.out.b; have Q0 := trivial) | ((clear Q0); (with_reducible refine gate_callee (f := 12) rfl ?_); refine goesL_ (some _) rfl rfl Tryd.func12 (by kernel_rfl) rfl #[.string b] rfl aw_ ?_; (refine (C2.out _ (HL.out.below ST.out.2.2.2)).mono ?_); rintro e w6 ⟨rfl, hb⟩; refine ⟨_, rfl, ?_⟩; have n1 := ST.out.below hb; clear ST hb hx0 hx1; have ST := Aside0.mk n1; clear n1; have hx0 := ST.out.x; have hx2 := ST.out.c; have Q1 := trivial) | ((clear Q1); (with_reducible refine gate_callee (f := 12) rfl ?_); refine goesL_ (some _) rfl rfl Tryd.func12 (by kernel_rfl) rfl #[.string c] rfl aw_ ?_; (refine (C3.out _ (HL.out.below ST.out.2.2.2)).mono ?_); rintro e w7 ⟨rfl, hb⟩; refine ⟨_, rfl, ?_⟩; have n1 := ST.out.below hb; clear ST hb hx0 hx2; have ST := Aside0.mk n1; clear n1; have Q2 := trivial) | ((with_reducible refine gate_dst (N := 11) rfl ?_); refine box_event ?hg (N := 11) ?hd (cs := #[.int .i64 0, .int .i64 0, .int .i64 0]) (t := 23) ?hr ?_; (case hd => rfl); (case hg => rfl); (case hr => first | (go_simp; done) | (go_simp; rfl)); intro gy hg w8 hbox hb; have n1 := ST.out.below hb; have n2 := below_size ST.out.2.2.2; have n3 := blk_lt ST.out.1; have n4 := blk_lt ST.out.2.1; have n5 := blk_lt ST.out.2.2.1; rw [← hg] at n2 n3 n4 n5; have GY := Aside0.mk (And.intro n2 (And.intro (Nat.ne_of_lt n3) (And.intro (Nat.ne_of_lt n4) (Nat.ne_of_lt n5)))); clear ST n2 n3 n4 n5; have ST := Aside0.mk n1; clear n1; have BY := Aside0.mk hbox; clear hg hbox hb) | ((with_reducible refine gate_store (p := 11) (v := .tmp 40) rfl ?_); refine store_all (t := 23) (x := .tmp 40) (u := (.agg #[.int .i64 k, .int .i64 d, .int .i64 t])) (p := 11) (g := gy) ?hg ?ho ?hN [.int .i64 k, .int .i64 d, .int .i64 t] ?ha ?hx ?hu BY.out ?ht rfl ?h1 ?_; (case ho => rfl); (case hg => rfl); (case hN => rfl); (case ha => rfl); (case hx => rfl); (case hu => rfl); (case ht => kernel_rfl); (case h1 => kernel_rfl); intro w9 hw; have n1 := fill_all [.int .i64 k, .int .i64 d, .int .i64 t] BY.out rfl; have n2 := ST.out.fill BY.out [.int .i64 k, .int .i64 d, .int .i64 t] GY.out.2.1 GY.out.2.2.1 GY.out.2.2.2 GY.out.1; rw [← hw] at n1 n2; clear BY ST hw; have BY := Aside0.mk n1; have ST := Aside0.mk n2; clear n1 n2; have y0 := (blk_cell BY.out 0).trans (show _ = some (.int .i64 k) from rfl); have y1 := (blk_cell BY.out 1).trans (show _ = some (.int .i64 d) from rfl); have y2 := (blk_cell BY.out 2).trans (show _ = some (.int .i64 t) from rfl)) | (go_at_call 13; refine calls_of_args (args' := #[.agg #[.int .i64 k, .int .i64 d, .int .i64 t]]) (by (try simp only [List.map_toArray, List.map_cons, List.map_nil]); first | done | rfl) ?_; have n0 := HL.out.below ST.out.2.2.2; (with_reducible refine (C4.out _ n0).mono ?_); clear n0; rintro e w10 ⟨rfl, hb⟩; have n1 := ST.out.below hb; have n2 := blk_below BY.out hb; clear ST BY y0 y1 y2 hb; have ST := Aside0.mk n1; have BY := Aside0.mk n2; clear n1 n2; have y0 := (blk_cell BY.out 0).trans (show _ = some (.int .i64 k) from rfl); have y1 := (blk_cell BY.out 1).trans (show _ = some (.int .i64 d) from rfl); have y2 := (blk_cell BY.out 2).trans (show _ = some (.int .i64 t) from rfl)) | ((with_reducible refine gate_store (p := 2) (v := .tmp 57) rfl ?_); refine store_all (t := 23) (x := .tmp 57) (u := (.agg #[.int .i64 0, .int .i64 0, .int .i64 0])) (p := 2) (g := gb) ?hg ?ho ?hN [.int .i64 0, .int .i64 0, .int .i64 0] ?ha ?hx ?hu ST.out.1 ?ht rfl ?h1 ?_; (case ho => rfl); (case hg => rfl); (case hN => rfl); (case ha => rfl); (case hx => rfl); (case hu => rfl); (case ht => kernel_rfl); (case h1 => kernel_rfl); intro w12 hw; have HBL := Aside0.mk (show w12.heap[gb]? = some (.cells #[.int .i64 0, .int .i64 0, .int .i64 0] 23 (0, 0)) from by rw [hw]; exact fill_all _ ST.out.1 rfl); have HBW := Aside0.mk (show Below w.heap.size w w12 from by rw [hw]; exact fill_below GE.out _ _ _ ST.out.2.2.2); clear hw))
  refine bodyPost_ret (results_ct rfl _ _ gb 23 #[.int .i64 0, .int .i64 0, .int .i64 0] (0, 0) _ rfl HBL.out Tryd.underlying23 rfl (by kernel_rfl)) rfl ?_
  exact ⟨rfl, HBW.out⟩
set_option maxHeartbeats 8000000 in
set_option maxRecDepth 100000 in
theorem impl_ReadOrnament.yes (s a b c x : ByteArray) (k d t : Int) (w : World) (hl : LaidW w) (c0 : ∀ w, LaidW w → Calls Tryd.prog 8 #[.string s, .string ⟨#[32]⟩] w fun e w' => ∃ g, e = .returned (.slice (some ⟨g, 0, none⟩) 3 3) ∧ w'.heap[g]? = some (.cells #[.string a, .string b, .string c] 9 (0, 0)) ∧ Below w.heap.size w w') (c1 : leastM (fun n => (impl_OrnamentName.f n).toList == a.toList) 4 1 = (k, true)) (c2 : ∀ w, LaidW w → Calls Tryd.prog 12 #[.string b] w fun e w' => e = .returned (.tuple #[.int .i64 d, .bool true]) ∧ Below w.heap.size w w') (c3 : ∀ w, LaidW w → Calls Tryd.prog 12 #[.string c] w fun e w' => e = .returned (.tuple #[.int .i64 t, .bool true]) ∧ Below w.heap.size w w') (c4 : ∀ w, LaidW w → Calls Tryd.prog 13 #[.agg #[.int .i64 k, .int .i64 d, .int .i64 t]] w fun e w' => e = .returned (.string x) ∧ Below w.heap.size w w') (h : (x.toList == s.toList) = true) : Calls Tryd.prog 5 #[.string s] w fun e w' => e = .returned (.tuple #[.agg #[.int .i64 k, .int .i64 d, .int .i64 t], .bool true]) ∧ Below w.heap.size w w' := by
  have hu := Tryd.underlying23
  have HL := Aside0.mk hl
  have C0 := Aside0.mk c0
  have C1 := Aside0.mk c1
  have C2 := Aside0.mk c2
  have C3 := Aside0.mk c3
  have C4 := Aside0.mk c4
  clear hl c0 c1 c2 c3 c4
  go_enter Tryd.func5, Tryd.ntmps5
  go_wp2_with (first | ((with_reducible refine gate_dst (N := 2) rfl ?_); refine box_event ?hg (N := 2) ?hd (cs := #[.int .i64 0, .int .i64 0, .int .i64 0]) (t := 23) ?hr ?_; (case hd => rfl); (case hg => rfl); (case hr => first | (go_simp; done) | (go_simp; rfl)); intro gb hg w1 hbox hb; have HB := Aside0.mk (hb); have BK := Aside0.mk (hbox); have GE := Aside0.mk (show w.heap.size ≤ gb from by rw [hg]; exact Nat.le_refl _); clear hg hbox hb) | ((with_reducible refine gate_callee (f := 8) rfl ?_); refine goesL_ (some _) rfl rfl Tryd.func8 (by kernel_rfl) rfl #[.string s, .string ⟨#[32]⟩] rfl aw_ ?_; (refine (C0.out _ (HL.out.below HB.out)).mono ?_); rintro e w2 ⟨g, rfl, hbg, hb⟩; refine ⟨_, rfl, ?_⟩; have n1 := blk_below BK.out hb; have n2 := below_step HB.out hb; clear BK HB hb; have BK := Aside0.mk n1; have HB := Aside0.mk n2; have BG := Aside0.mk hbg; clear n1 n2 hbg) | ((with_reducible refine gate_dst (N := 4) rfl ?_); refine box_event ?hg (N := 4) ?hd (cs := #[.slice none 0 0]) (t := 28) ?hr ?_; (case hd => rfl); (case hg => rfl); (case hr => first | (go_simp; done) | (go_simp; rfl)); intro gx hg w3 hbox hb; have n1 := blk_below BK.out hb; have n2 := below_step HB.out hb; have n3 := (below_size HB.out); have GX := Aside0.mk (show w.heap.size ≤ gx from by rw [hg]; exact n3); have n4 := blk_below BG.out hb; clear BG; have BG := Aside0.mk n4; clear n4; clear n3 BK HB; have BK := Aside0.mk n1; have HB := Aside0.mk n2; clear n1 n2; have BX := Aside0.mk hbox; clear hg hbox hb) | ((with_reducible refine gate_store (p := 4) (v := .tmp 13) rfl ?_); refine store_all (t := 28) (x := .tmp 13) (u := (.slice (some ⟨g, 0, none⟩) 3 3)) (p := 4) (g := gx) ?hg ?ho ?hN [.slice (some ⟨g, 0, none⟩) 3 3] ?ha ?hx ?hu BX.out ?ht rfl ?h1 ?_; (case ho => rfl); (case hg => rfl); (case hN => rfl); (case ha => rfl); (case hx => rfl); (case hu => rfl); (case ht => kernel_rfl); (case h1 => kernel_rfl); intro w4 hw; have n1 := fill_all [.slice (some ⟨g, 0, none⟩) 3 3] BX.out rfl; have n2 := fill_other (g := gx) (blk_ne BK.out BX.out (by decide)) [.slice (some ⟨g, 0, none⟩) 3 3] w3 0 BK.out; have n4 := fill_other (g := gx) (blk_ne BG.out BX.out (by decide)) [.slice (some ⟨g, 0, none⟩) 3 3] w3 0 BG.out; have n3 := fill_below GX.out [.slice (some ⟨g, 0, none⟩) 3 3] w3 0 HB.out; rw [← hw] at n1 n2 n3 n4; clear BX BK HB BG hw; have ST := Aside0.mk (show impl_ReadOrnament.St w w4 gb gx g a b c from ⟨n2, n1, n4, n3⟩); clear n1 n2 n3 n4; have hx0 := ST.out.x) | ((with_reducible refine gate_callee (f := 9) rfl ?_); refine goesL_ (some _) rfl rfl Tryd.func9 (by kernel_rfl) rfl #[.int .i64 1, .int .i64 4, .func (.func 10) #[] #[.pointer (some ⟨gx, 0, none⟩)]] rfl aw_ ?_; (refine (impl_ReadOrnament.lst a k true C1.out _ gx g ST.out.x ST.out.a).mono ?_); rintro e w5 ⟨rfl, hb⟩; refine ⟨_, rfl, ?_⟩; have n1 := ST.out.below hb; clear ST hb hx0; have ST := Aside0.mk n1; clear n1; have hx0 := ST.out.x; have hx1 := ST.out.b; have Q0 := trivial) | ((clear Q0); (with_reducible refine gate_callee (f := 12) rfl ?_); refine goesL_ (some _) rfl rfl Tryd.func12 (by kernel_rfl) rfl #[.string b] rfl aw_ ?_; (refine (C2.out _ (HL.out.below ST.out.2.2.2)).mono ?_); rintro e w6 ⟨rfl, hb⟩; refine ⟨_, rfl, ?_⟩; have n1 := ST.out.below hb; clear ST hb hx0 hx1; have ST := Aside0.mk n1; clear n1; have hx0 := ST.out.x; have hx2 := ST.out.c; have Q1 := trivial) | ((clear Q1); (with_reducible refine gate_callee (f := 12) rfl ?_); refine goesL_ (some _) rfl rfl Tryd.func12 (by kernel_rfl) rfl #[.string c] rfl aw_ ?_; (refine (C3.out _ (HL.out.below ST.out.2.2.2)).mono ?_); rintro e w7 ⟨rfl, hb⟩; refine ⟨_, rfl, ?_⟩; have n1 := ST.out.below hb; clear ST hb hx0 hx2; have ST := Aside0.mk n1; clear n1; have Q2 := trivial) | ((with_reducible refine gate_dst (N := 11) rfl ?_); refine box_event ?hg (N := 11) ?hd (cs := #[.int .i64 0, .int .i64 0, .int .i64 0]) (t := 23) ?hr ?_; (case hd => rfl); (case hg => rfl); (case hr => first | (go_simp; done) | (go_simp; rfl)); intro gy hg w8 hbox hb; have n1 := ST.out.below hb; have n2 := below_size ST.out.2.2.2; have n3 := blk_lt ST.out.1; have n4 := blk_lt ST.out.2.1; have n5 := blk_lt ST.out.2.2.1; rw [← hg] at n2 n3 n4 n5; have GY := Aside0.mk (And.intro n2 (And.intro (Nat.ne_of_lt n3) (And.intro (Nat.ne_of_lt n4) (Nat.ne_of_lt n5)))); clear ST n2 n3 n4 n5; have ST := Aside0.mk n1; clear n1; have BY := Aside0.mk hbox; clear hg hbox hb) | ((with_reducible refine gate_store (p := 11) (v := .tmp 40) rfl ?_); refine store_all (t := 23) (x := .tmp 40) (u := (.agg #[.int .i64 k, .int .i64 d, .int .i64 t])) (p := 11) (g := gy) ?hg ?ho ?hN [.int .i64 k, .int .i64 d, .int .i64 t] ?ha ?hx ?hu BY.out ?ht rfl ?h1 ?_; (case ho => rfl); (case hg => rfl); (case hN => rfl); (case ha => rfl); (case hx => rfl); (case hu => rfl); (case ht => kernel_rfl); (case h1 => kernel_rfl); intro w9 hw; have n1 := fill_all [.int .i64 k, .int .i64 d, .int .i64 t] BY.out rfl; have n2 := ST.out.fill BY.out [.int .i64 k, .int .i64 d, .int .i64 t] GY.out.2.1 GY.out.2.2.1 GY.out.2.2.2 GY.out.1; rw [← hw] at n1 n2; clear BY ST hw; have BY := Aside0.mk n1; have ST := Aside0.mk n2; clear n1 n2; have y0 := (blk_cell BY.out 0).trans (show _ = some (.int .i64 k) from rfl); have y1 := (blk_cell BY.out 1).trans (show _ = some (.int .i64 d) from rfl); have y2 := (blk_cell BY.out 2).trans (show _ = some (.int .i64 t) from rfl)) | (go_at_call 13; refine calls_of_args (args' := #[.agg #[.int .i64 k, .int .i64 d, .int .i64 t]]) (by (try simp only [List.map_toArray, List.map_cons, List.map_nil]); first | done | rfl) ?_; have n0 := HL.out.below ST.out.2.2.2; (with_reducible refine (C4.out _ n0).mono ?_); clear n0; rintro e w10 ⟨rfl, hb⟩; have n1 := ST.out.below hb; have n2 := blk_below BY.out hb; clear ST BY y0 y1 y2 hb; have ST := Aside0.mk n1; have BY := Aside0.mk n2; clear n1 n2; have y0 := (blk_cell BY.out 0).trans (show _ = some (.int .i64 k) from rfl); have y1 := (blk_cell BY.out 1).trans (show _ = some (.int .i64 d) from rfl); have y2 := (blk_cell BY.out 2).trans (show _ = some (.int .i64 t) from rfl)) | ((with_reducible refine gate_store (p := 2) (v := .tmp 58) rfl ?_); refine store_all (t := 23) (x := .tmp 58) (u := (.agg #[.int .i64 k, .int .i64 d, .int .i64 t])) (p := 2) (g := gb) ?hg ?ho ?hN [.int .i64 k, .int .i64 d, .int .i64 t] ?ha ?hx ?hu ST.out.1 ?ht rfl ?h1 ?_; (case ho => rfl); (case hg => rfl); (case hN => rfl); (case ha => rfl); (case hx => rfl); (case hu => rfl); (case ht => kernel_rfl); (case h1 => kernel_rfl); intro w12 hw; have HBL := Aside0.mk (show w12.heap[gb]? = some (.cells #[.int .i64 k, .int .i64 d, .int .i64 t] 23 (0, 0)) from by rw [hw]; exact fill_all _ ST.out.1 rfl); have HBW := Aside0.mk (show Below w.heap.size w w12 from by rw [hw]; exact fill_below GE.out _ _ _ ST.out.2.2.2); clear hw))
  refine bodyPost_ret (results_ct rfl _ _ gb 23 #[.int .i64 k, .int .i64 d, .int .i64 t] (0, 0) _ rfl HBL.out Tryd.underlying23 rfl (by kernel_rfl)) rfl ?_
  exact ⟨rfl, HBW.out⟩

/-- What OrnamentText gives. -/
def impl_ReadOrnament.ot (k d t : Int) : ByteArray := if impl_ValidOrnament.f k d t = some true then impl_OrnamentText.t k d t else ⟨#[]⟩
def impl_ReadOrnament.p (a : ByteArray) (n : Int) : Bool := (impl_OrnamentName.f n).toList == a.toList
/-- What three words give. -/
def impl_ReadOrnament.g (s a b c : ByteArray) : Int × Int × Int × Bool :=
  if ((leastM (impl_ReadOrnament.p a) 4 1).2 && (impl_ReadDecimal.f b).2 && (impl_ReadDecimal.f c).2 && ((impl_ReadOrnament.ot (leastM (impl_ReadOrnament.p a) 4 1).1 (impl_ReadDecimal.f b).1 (impl_ReadDecimal.f c).1).toList == s.toList)) = true then ((leastM (impl_ReadOrnament.p a) 4 1).1, (impl_ReadDecimal.f b).1, (impl_ReadDecimal.f c).1, true) else (0, 0, 0, false)
def impl_ReadOrnament.f (s : ByteArray) : Int × Int × Int × Bool :=
  match wordsB s with
  | [a, b, c] => impl_ReadOrnament.g s a b c
  | _ => (0, 0, 0, false)
theorem words_size (sep : ByteArray) : ∀ (k : Nat) (s x : ByteArray), x ∈ Lib.splitB sep 0 k s → x.size ≤ s.size
  | 0, s, x, h => by rw [Lib.splitB_zero, List.mem_singleton] at h; rw [h]; exact Nat.le_refl _
  | k + 1, s, x, h => by
    unfold Lib.splitB at h
    split at h
    · rw [List.mem_singleton] at h; rw [h]; exact Nat.le_refl _
    · rcases List.mem_cons.1 h with h | h
      · rw [h, ByteArray.size_extract]; omega
      · have := words_size sep k _ x h
        rw [ByteArray.size_extract] at this
        omega
theorem itoa_size (n : Int) (h0 : -9223372036854775808 ≤ n) (h1 : n ≤ 9223372036854775807) : (⟨(Lib.itoa n).toArray⟩ : ByteArray).size ≤ 100 := by
  have := Lib.itoa_length_le n h0 h1
  show (Lib.itoa n).toArray.size ≤ 100
  rw [List.size_toArray]
  omega
theorem valid_of {k d t : Int} (h : impl_ValidOrnament.f k d t = some true) : (1 ≤ k ∧ k ≤ 4) ∧ (-1200 ≤ d ∧ d ≤ 1200) ∧ (1 ≤ t ∧ t ≤ 16) := by
  unfold impl_ValidOrnament.f impl_within.f at h
  by_cases h1 : k ≥ 1
  · by_cases h2 : k ≤ 4
    · by_cases h3 : d ≥ -1200
      · by_cases h4 : d ≤ 1200
        · by_cases h5 : t ≥ 1
          · by_cases h6 : t ≤ 16
            · exact ⟨⟨h1, h2⟩, ⟨h3, h4⟩, h5, h6⟩
            · simp [h1, h2, h3, h4, h5, h6] at h
          · simp [h1, h2, h3, h4, h5] at h
        · simp [h1, h2, h3, h4] at h
      · simp [h1, h2, h3] at h
    · simp [h1, h2] at h
  · simp [h1] at h
theorem valid_iff (k d t : Int) : impl_ValidOrnament.f k d t = some (decide (1 ≤ k ∧ k ≤ 4 ∧ -1200 ≤ d ∧ d ≤ 1200 ∧ 1 ≤ t ∧ t ≤ 16)) := by
  unfold impl_ValidOrnament.f impl_within.f
  by_cases h1 : 1 ≤ k <;> by_cases h2 : k ≤ 4 <;> by_cases h3 : -1200 ≤ d <;> by_cases h4 : d ≤ 1200 <;> by_cases h5 : 1 ≤ t <;> by_cases h6 : t ≤ 16 <;> simp [h1, h2, h3, h4, h5, h6]
theorem name_size (n : Int) : (impl_OrnamentName.f n).size ≤ 100 := by
  unfold impl_OrnamentName.f
  repeat' split
  all_goals decide
theorem impl_ReadOrnament.text (k d t : Int) (w : World) (hl : LaidW w) : Calls Tryd.prog 13 #[.agg #[.int .i64 k, .int .i64 d, .int .i64 t]] w fun e w' => e = .returned (.string (impl_ReadOrnament.ot k d t)) ∧ Below w.heap.size w w' := by
  unfold impl_ReadOrnament.ot
  by_cases h : impl_ValidOrnament.f k d t = some true
  · rw [if_pos h]
    obtain ⟨h1, h2, h3⟩ := valid_of h
    exact impl_OrnamentText.good k d t w hl (by omega) (by omega) (by omega) (by omega) (name_size k) (itoa_size d (by omega) (by omega)) (itoa_size t (by omega) (by omega)) h
  · rw [if_neg h]
    refine impl_OrnamentText.bad k d t w ?_
    rw [valid_iff] at h ⊢
    cases hb : decide (1 ≤ k ∧ k ≤ 4 ∧ -1200 ≤ d ∧ d ≤ 1200 ∧ 1 ≤ t ∧ t ≤ 16) with
    | true => rw [hb] at h; exact absurd rfl h
    | false => rfl
theorem impl_ReadOrnament.dec (s : ByteArray) (hs : s.size ≤ 1048576) (w : World) (hl : LaidW w) : Calls Tryd.prog 12 #[.string s] w fun e w' => e = .returned (.tuple #[.int .i64 (impl_ReadDecimal.f s).1, .bool (impl_ReadDecimal.f s).2]) ∧ Below w.heap.size w w' :=
  impl_ReadDecimal.calls s w hl (by omega) (fun v hv => by
    have := Lib.parseIntB_bounds hv
    have e : (2 : Nat) ^ (64 - 1) = 9223372036854775808 := by decide
    rw [e] at this
    omega)
theorem impl_ReadOrnament.calls (s : ByteArray) (w : World) (hl : LaidW w) (hs : s.size ≤ 1048576) : Calls Tryd.prog 5 #[.string s] w fun e w' => e = .returned (.tuple #[.agg #[.int .i64 (impl_ReadOrnament.f s).1, .int .i64 (impl_ReadOrnament.f s).2.1, .int .i64 (impl_ReadOrnament.f s).2.2.1], .bool (impl_ReadOrnament.f s).2.2.2]) ∧ Below w.heap.size w w' := by
  by_cases h3 : (wordsB s).length = 3
  · obtain ⟨a, b, c, hw⟩ : ∃ a b c, wordsB s = [a, b, c] := by
      match wordsB s, h3 with
      | [a, b, c], _ => exact ⟨a, b, c, rfl⟩
    have c0 : ∀ w, LaidW w → Calls Tryd.prog 8 #[.string s, .string ⟨#[32]⟩] w fun e w' => ∃ g, e = .returned (.slice (some ⟨g, 0, none⟩) 3 3) ∧ w'.heap[g]? = some (.cells #[.string a, .string b, .string c] 9 (0, 0)) ∧ Below w.heap.size w w' := fun w hl => by
      refine (strings_Split.calls s w hl (by omega)).mono ?_
      rintro e w' ⟨rfl, rfl⟩
      rw [hw]
      exact ⟨w.heap.size, rfl, blk_new _ _, below_alloc (Below.refl _ _) _⟩
    have hb : b.size ≤ 1048576 := Nat.le_trans (words_size _ _ s b (by show b ∈ wordsB s; rw [hw]; simp)) hs
    have hc : c.size ≤ 1048576 := Nat.le_trans (words_size _ _ s c (by show c ∈ wordsB s; rw [hw]; simp)) hs
    have c2 := fun w hl => impl_ReadOrnament.dec b hb w hl
    have c3 := fun w hl => impl_ReadOrnament.dec c hc w hl
    have hf : impl_ReadOrnament.f s = impl_ReadOrnament.g s a b c := by unfold impl_ReadOrnament.f; rw [hw]
    rw [hf]
    unfold impl_ReadOrnament.g
    obtain ⟨⟨k, one⟩, hk⟩ : ∃ z, leastM (impl_ReadOrnament.p a) 4 1 = z := ⟨_, rfl⟩
    obtain ⟨⟨d, two⟩, hd⟩ : ∃ z, impl_ReadDecimal.f b = z := ⟨_, rfl⟩
    obtain ⟨⟨t, three⟩, ht⟩ : ∃ z, impl_ReadDecimal.f c = z := ⟨_, rfl⟩
    rw [hk, hd, ht]
    rw [hd] at c2
    rw [ht] at c3
    have c4 := fun w hl => impl_ReadOrnament.text k d t w hl
    have hk1 : leastM (fun n => (impl_OrnamentName.f n).toList == a.toList) 4 1 = (k, one) := hk
    cases one with
    | false => exact impl_ReadOrnament.no1 s a b c (impl_ReadOrnament.ot k d t) k d t two three w hl c0 hk1 c2 c3 c4
    | true =>
      cases two with
      | false => exact impl_ReadOrnament.no2 s a b c (impl_ReadOrnament.ot k d t) k d t three w hl c0 hk1 c2 c3 c4
      | true =>
        cases three with
        | false => exact impl_ReadOrnament.no3 s a b c (impl_ReadOrnament.ot k d t) k d t w hl c0 hk1 c2 c3 c4
        | true =>
          cases hx : ((impl_ReadOrnament.ot k d t).toList == s.toList) with
          | false =>
            simp only [hx]
            exact impl_ReadOrnament.no4 s a b c (impl_ReadOrnament.ot k d t) k d t w hl c0 hk1 c2 c3 c4 hx
          | true =>
            simp only [hx]
            exact impl_ReadOrnament.yes s a b c (impl_ReadOrnament.ot k d t) k d t w hl c0 hk1 c2 c3 c4 hx
  · have hf : impl_ReadOrnament.f s = (0, 0, 0, false) := by
      unfold impl_ReadOrnament.f
      match wordsB s, h3 with
      | [a, b, c], h => exact absurd rfl h
      | [], _ => rfl
      | [_], _ => rfl
      | [_, _], _ => rfl
      | _ :: _ :: _ :: _ :: _, _ => rfl
    rw [hf]
    refine impl_ReadOrnament.short s (wordsB s).length h3 w hl (fun w hl => ?_)
    refine (strings_Split.calls s w hl (by omega)).mono ?_
    rintro e w' ⟨rfl, rfl⟩
    exact ⟨w.heap.size, rfl, below_alloc (Below.refl _ _) _⟩
/-! ### laws_eqOrnament: function 6 -/
def laws_eqOrnament.f (a0_0 : Int) (a0_1 : Int) (a0_2 : Int) (a1_0 : Int) (a1_1 : Int) (a1_2 : Int) : Option (Bool) := if a0_0 = a1_0 then (if a0_1 = a1_1 then (if a0_2 = a1_2 then (some true) else (some false)) else (some false)) else (some false)
set_option maxHeartbeats 8000000 in
set_option maxRecDepth 100000 in
theorem laws_eqOrnament.calls (a0_0 : Int) (a0_1 : Int) (a0_2 : Int) (a1_0 : Int) (a1_1 : Int) (a1_2 : Int) (r : Bool) (w : World) (h : laws_eqOrnament.f a0_0 a0_1 a0_2 a1_0 a1_1 a1_2 = some r) :
  Calls Tryd.prog 6 #[.agg #[.int .i64 a0_0, .int .i64 a0_1, .int .i64 a0_2], .agg #[.int .i64 a1_0, .int .i64 a1_1, .int .i64 a1_2]] w fun e w' => e = .returned (.bool r) ∧ Below w.heap.size w w' := by
 have hu23 := Tryd.underlying23
 have HB := Aside0.mk (Below.refl w.heap.size w)
 have H : (if a0_0 = a1_0 then (if a0_1 = a1_1 then (if a0_2 = a1_2 then (some true) else (some false)) else (some false)) else (some false)) = some r := h
 clear h
 by_cases c3 : a0_0 = a1_0
 ·rw [if_pos c3] at H
  have c3b0 : (a0_0 == a1_0) = true := beq_iff_eq.mpr c3
  have c3b1 : (a0_0 != a1_0) = false := bne_eq_false_iff_eq.mpr c3
  clear c3
  by_cases c4 : a0_1 = a1_1
  ·rw [if_pos c4] at H
   have c4b0 : (a0_1 == a1_1) = true := beq_iff_eq.mpr c4
   have c4b1 : (a0_1 != a1_1) = false := bne_eq_false_iff_eq.mpr c4
   clear c4
   by_cases c5 : a0_2 = a1_2
   ·rw [if_pos c5] at H
    have c5b0 : (a0_2 == a1_2) = true := beq_iff_eq.mpr c5
    have c5b1 : (a0_2 != a1_2) = false := bne_eq_false_iff_eq.mpr c5
    clear c5
    obtain rfl := Option.some.inj H
    go_enter Tryd.func6, Tryd.ntmps6
    go_wp2_with (first | ((with_reducible refine gate_dst (N := 2) rfl ?_); refine box_event ?hg (N := 2) ?hd (cs := #[.int .i64 a0_0, .int .i64 a0_1, .int .i64 a0_2]) (t := 23) ?hr ?_; (case hd => rfl); (case hg => rfl); (case hr => first | (go_simp; done) | (go_simp; rfl)); intro gb138 hg w6 hbox hb; have n0_ := Aside0.mk (below_step (by repeat (first | exact HB.out | apply below_alloc)) hb); have n1_ := Aside0.mk (hbox); have n2_ := Aside0.mk ((by rw [hg]; exact (below_size (by repeat (first | exact HB.out | apply below_alloc))) : w.heap.size ≤ gb138)); have n3_ := Aside0.mk ((by rw [hg]; exact (below_size (by repeat (first | exact HB.out | apply below_alloc))) : w.heap.size ≤ gb138)); clear HB; have HB := n0_; have BK138 := n1_; have GW138 := n2_; have GE138 := n3_; clear n0_ n1_ n2_ n3_; clear hb hbox hg) | ((with_reducible refine gate_dst (N := 3) rfl ?_); refine box_event ?hg (N := 3) ?hd (cs := #[.int .i64 a1_0, .int .i64 a1_1, .int .i64 a1_2]) (t := 23) ?hr ?_; (case hd => rfl); (case hg => rfl); (case hr => first | (go_simp; done) | (go_simp; rfl)); intro gb139 hg w7 hbox hb; have n0_ := Aside0.mk (blk_below (g := gb138) (o := .cells #[.int .i64 a0_0, .int .i64 a0_1, .int .i64 a0_2] 23 (0, 0)) (by repeat first | exact BK138.out | refine blk_drewN ?_ _ | refine blk_drew ?_ | refine blk_alloc ?_ _) hb); have n1_ := Aside0.mk (below_step (by repeat (first | (with_reducible first | exact HB.out | apply below_alloc | apply pw_below_drewN | apply below_drew1 | refine below_set ?_ GE138.out) | exact HB.out)) hb); have n2_ := Aside0.mk (hbox); have n3_ := Aside0.mk ((by rw [hg]; exact (below_size (by repeat (first | (with_reducible first | exact HB.out | apply below_alloc | apply pw_below_drewN | apply below_drew1 | refine below_set ?_ GE138.out) | exact HB.out))) : w.heap.size ≤ gb139)); have n4_ := Aside0.mk ((by rw [hg]; exact (below_size (by repeat (first | (with_reducible first | exact HB.out | apply below_alloc | apply pw_below_drewN | apply below_drew1 | refine below_set ?_ GE138.out) | exact HB.out))) : w.heap.size ≤ gb139)); have n5_ := Aside0.mk ((by rw [hg]; exact Nat.ne_of_lt (blk_lt (g := gb138) (o := .cells #[.int .i64 a0_0, .int .i64 a0_1, .int .i64 a0_2] 23 (0, 0)) (by repeat first | exact BK138.out | refine blk_drewN ?_ _ | refine blk_drew ?_ | refine blk_alloc ?_ _)) : gb138 ≠ gb139)); have n6_ := Aside0.mk ((by rw [hg]; exact Nat.ne_of_gt (blk_lt (g := gb138) (o := .cells #[.int .i64 a0_0, .int .i64 a0_1, .int .i64 a0_2] 23 (0, 0)) (by repeat first | exact BK138.out | refine blk_drewN ?_ _ | refine blk_drew ?_ | refine blk_alloc ?_ _)) : gb139 ≠ gb138)); clear BK138; clear HB; have BK138 := n0_; have HB := n1_; have BK139 := n2_; have GW139 := n3_; have GE139 := n4_; have NB138_139 := n5_; have NB139_138 := n6_; clear n0_ n1_ n2_ n3_ n4_ n5_ n6_; clear hb hbox hg; have hnb8 := NB138_139.out; have hnc8 := NB139_138.out; have hcz9_0 : w7.cell? ⟨gb138, 0, none⟩ = some (.int .i64 a0_0) := (blk_cell BK138.out 0).trans rfl; have hcz9_1 : w7.cell? ⟨gb138, 1, none⟩ = some (.int .i64 a0_1) := (blk_cell BK138.out 1).trans rfl; have hcz9_2 : w7.cell? ⟨gb138, 2, none⟩ = some (.int .i64 a0_2) := (blk_cell BK138.out 2).trans rfl; have hfz9_0 := blk_frozen BK138.out 0; have hfz9_1 := blk_frozen BK138.out 1; have hfz9_2 := blk_frozen BK138.out 2; have hcz10_0 : w7.cell? ⟨gb139, 0, none⟩ = some (.int .i64 a1_0) := (blk_cell BK139.out 0).trans rfl; have hcz10_1 : w7.cell? ⟨gb139, 1, none⟩ = some (.int .i64 a1_1) := (blk_cell BK139.out 1).trans rfl; have hcz10_2 : w7.cell? ⟨gb139, 2, none⟩ = some (.int .i64 a1_2) := (blk_cell BK139.out 2).trans rfl; have hfz10_0 := blk_frozen BK139.out 0; have hfz10_1 := blk_frozen BK139.out 1; have hfz10_2 := blk_frozen BK139.out 2))
    go_ret
    exact ⟨by first | rfl | (simp [errW_none, errW_some] <;> rfl) | (simp [*, errW_none, errW_some] <;> rfl), by repeat (first | (with_reducible first | exact HB.out | apply below_alloc | apply pw_below_drewN | apply below_drew1 | refine below_set ?_ GE138.out | refine below_set ?_ GE139.out) | exact HB.out)⟩
   ·rw [if_neg c5] at H
    have c5b0 : (a0_2 == a1_2) = false := beq_eq_false_iff_ne.mpr c5
    have c5b1 : (a0_2 != a1_2) = true := bne_iff_ne.mpr c5
    obtain rfl := Option.some.inj H
    go_enter Tryd.func6, Tryd.ntmps6
    go_wp2_with (first | ((with_reducible refine gate_dst (N := 2) rfl ?_); refine box_event ?hg (N := 2) ?hd (cs := #[.int .i64 a0_0, .int .i64 a0_1, .int .i64 a0_2]) (t := 23) ?hr ?_; (case hd => rfl); (case hg => rfl); (case hr => first | (go_simp; done) | (go_simp; rfl)); intro gb138 hg w11 hbox hb; have n0_ := Aside0.mk (below_step (by repeat (first | exact HB.out | apply below_alloc)) hb); have n1_ := Aside0.mk (hbox); have n2_ := Aside0.mk ((by rw [hg]; exact (below_size (by repeat (first | exact HB.out | apply below_alloc))) : w.heap.size ≤ gb138)); have n3_ := Aside0.mk ((by rw [hg]; exact (below_size (by repeat (first | exact HB.out | apply below_alloc))) : w.heap.size ≤ gb138)); clear HB; have HB := n0_; have BK138 := n1_; have GW138 := n2_; have GE138 := n3_; clear n0_ n1_ n2_ n3_; clear hb hbox hg) | ((with_reducible refine gate_dst (N := 3) rfl ?_); refine box_event ?hg (N := 3) ?hd (cs := #[.int .i64 a1_0, .int .i64 a1_1, .int .i64 a1_2]) (t := 23) ?hr ?_; (case hd => rfl); (case hg => rfl); (case hr => first | (go_simp; done) | (go_simp; rfl)); intro gb139 hg w12 hbox hb; have n0_ := Aside0.mk (blk_below (g := gb138) (o := .cells #[.int .i64 a0_0, .int .i64 a0_1, .int .i64 a0_2] 23 (0, 0)) (by repeat first | exact BK138.out | refine blk_drewN ?_ _ | refine blk_drew ?_ | refine blk_alloc ?_ _) hb); have n1_ := Aside0.mk (below_step (by repeat (first | (with_reducible first | exact HB.out | apply below_alloc | apply pw_below_drewN | apply below_drew1 | refine below_set ?_ GE138.out) | exact HB.out)) hb); have n2_ := Aside0.mk (hbox); have n3_ := Aside0.mk ((by rw [hg]; exact (below_size (by repeat (first | (with_reducible first | exact HB.out | apply below_alloc | apply pw_below_drewN | apply below_drew1 | refine below_set ?_ GE138.out) | exact HB.out))) : w.heap.size ≤ gb139)); have n4_ := Aside0.mk ((by rw [hg]; exact (below_size (by repeat (first | (with_reducible first | exact HB.out | apply below_alloc | apply pw_below_drewN | apply below_drew1 | refine below_set ?_ GE138.out) | exact HB.out))) : w.heap.size ≤ gb139)); have n5_ := Aside0.mk ((by rw [hg]; exact Nat.ne_of_lt (blk_lt (g := gb138) (o := .cells #[.int .i64 a0_0, .int .i64 a0_1, .int .i64 a0_2] 23 (0, 0)) (by repeat first | exact BK138.out | refine blk_drewN ?_ _ | refine blk_drew ?_ | refine blk_alloc ?_ _)) : gb138 ≠ gb139)); have n6_ := Aside0.mk ((by rw [hg]; exact Nat.ne_of_gt (blk_lt (g := gb138) (o := .cells #[.int .i64 a0_0, .int .i64 a0_1, .int .i64 a0_2] 23 (0, 0)) (by repeat first | exact BK138.out | refine blk_drewN ?_ _ | refine blk_drew ?_ | refine blk_alloc ?_ _)) : gb139 ≠ gb138)); clear BK138; clear HB; have BK138 := n0_; have HB := n1_; have BK139 := n2_; have GW139 := n3_; have GE139 := n4_; have NB138_139 := n5_; have NB139_138 := n6_; clear n0_ n1_ n2_ n3_ n4_ n5_ n6_; clear hb hbox hg; have hnb13 := NB138_139.out; have hnc13 := NB139_138.out; have hcz14_0 : w12.cell? ⟨gb138, 0, none⟩ = some (.int .i64 a0_0) := (blk_cell BK138.out 0).trans rfl; have hcz14_1 : w12.cell? ⟨gb138, 1, none⟩ = some (.int .i64 a0_1) := (blk_cell BK138.out 1).trans rfl; have hcz14_2 : w12.cell? ⟨gb138, 2, none⟩ = some (.int .i64 a0_2) := (blk_cell BK138.out 2).trans rfl; have hfz14_0 := blk_frozen BK138.out 0; have hfz14_1 := blk_frozen BK138.out 1; have hfz14_2 := blk_frozen BK138.out 2; have hcz15_0 : w12.cell? ⟨gb139, 0, none⟩ = some (.int .i64 a1_0) := (blk_cell BK139.out 0).trans rfl; have hcz15_1 : w12.cell? ⟨gb139, 1, none⟩ = some (.int .i64 a1_1) := (blk_cell BK139.out 1).trans rfl; have hcz15_2 : w12.cell? ⟨gb139, 2, none⟩ = some (.int .i64 a1_2) := (blk_cell BK139.out 2).trans rfl; have hfz15_0 := blk_frozen BK139.out 0; have hfz15_1 := blk_frozen BK139.out 1; have hfz15_2 := blk_frozen BK139.out 2))
    go_ret
    exact ⟨by first | rfl | (simp [errW_none, errW_some] <;> rfl) | (simp [*, errW_none, errW_some] <;> rfl), by repeat (first | (with_reducible first | exact HB.out | apply below_alloc | apply pw_below_drewN | apply below_drew1 | refine below_set ?_ GE138.out | refine below_set ?_ GE139.out) | exact HB.out)⟩
  ·rw [if_neg c4] at H
   have c4b0 : (a0_1 == a1_1) = false := beq_eq_false_iff_ne.mpr c4
   have c4b1 : (a0_1 != a1_1) = true := bne_iff_ne.mpr c4
   obtain rfl := Option.some.inj H
   go_enter Tryd.func6, Tryd.ntmps6
   go_wp2_with (first | ((with_reducible refine gate_dst (N := 2) rfl ?_); refine box_event ?hg (N := 2) ?hd (cs := #[.int .i64 a0_0, .int .i64 a0_1, .int .i64 a0_2]) (t := 23) ?hr ?_; (case hd => rfl); (case hg => rfl); (case hr => first | (go_simp; done) | (go_simp; rfl)); intro gb138 hg w16 hbox hb; have n0_ := Aside0.mk (below_step (by repeat (first | exact HB.out | apply below_alloc)) hb); have n1_ := Aside0.mk (hbox); have n2_ := Aside0.mk ((by rw [hg]; exact (below_size (by repeat (first | exact HB.out | apply below_alloc))) : w.heap.size ≤ gb138)); have n3_ := Aside0.mk ((by rw [hg]; exact (below_size (by repeat (first | exact HB.out | apply below_alloc))) : w.heap.size ≤ gb138)); clear HB; have HB := n0_; have BK138 := n1_; have GW138 := n2_; have GE138 := n3_; clear n0_ n1_ n2_ n3_; clear hb hbox hg) | ((with_reducible refine gate_dst (N := 3) rfl ?_); refine box_event ?hg (N := 3) ?hd (cs := #[.int .i64 a1_0, .int .i64 a1_1, .int .i64 a1_2]) (t := 23) ?hr ?_; (case hd => rfl); (case hg => rfl); (case hr => first | (go_simp; done) | (go_simp; rfl)); intro gb139 hg w17 hbox hb; have n0_ := Aside0.mk (blk_below (g := gb138) (o := .cells #[.int .i64 a0_0, .int .i64 a0_1, .int .i64 a0_2] 23 (0, 0)) (by repeat first | exact BK138.out | refine blk_drewN ?_ _ | refine blk_drew ?_ | refine blk_alloc ?_ _) hb); have n1_ := Aside0.mk (below_step (by repeat (first | (with_reducible first | exact HB.out | apply below_alloc | apply pw_below_drewN | apply below_drew1 | refine below_set ?_ GE138.out) | exact HB.out)) hb); have n2_ := Aside0.mk (hbox); have n3_ := Aside0.mk ((by rw [hg]; exact (below_size (by repeat (first | (with_reducible first | exact HB.out | apply below_alloc | apply pw_below_drewN | apply below_drew1 | refine below_set ?_ GE138.out) | exact HB.out))) : w.heap.size ≤ gb139)); have n4_ := Aside0.mk ((by rw [hg]; exact (below_size (by repeat (first | (with_reducible first | exact HB.out | apply below_alloc | apply pw_below_drewN | apply below_drew1 | refine below_set ?_ GE138.out) | exact HB.out))) : w.heap.size ≤ gb139)); have n5_ := Aside0.mk ((by rw [hg]; exact Nat.ne_of_lt (blk_lt (g := gb138) (o := .cells #[.int .i64 a0_0, .int .i64 a0_1, .int .i64 a0_2] 23 (0, 0)) (by repeat first | exact BK138.out | refine blk_drewN ?_ _ | refine blk_drew ?_ | refine blk_alloc ?_ _)) : gb138 ≠ gb139)); have n6_ := Aside0.mk ((by rw [hg]; exact Nat.ne_of_gt (blk_lt (g := gb138) (o := .cells #[.int .i64 a0_0, .int .i64 a0_1, .int .i64 a0_2] 23 (0, 0)) (by repeat first | exact BK138.out | refine blk_drewN ?_ _ | refine blk_drew ?_ | refine blk_alloc ?_ _)) : gb139 ≠ gb138)); clear BK138; clear HB; have BK138 := n0_; have HB := n1_; have BK139 := n2_; have GW139 := n3_; have GE139 := n4_; have NB138_139 := n5_; have NB139_138 := n6_; clear n0_ n1_ n2_ n3_ n4_ n5_ n6_; clear hb hbox hg; have hnb18 := NB138_139.out; have hnc18 := NB139_138.out; have hcz19_0 : w17.cell? ⟨gb138, 0, none⟩ = some (.int .i64 a0_0) := (blk_cell BK138.out 0).trans rfl; have hcz19_1 : w17.cell? ⟨gb138, 1, none⟩ = some (.int .i64 a0_1) := (blk_cell BK138.out 1).trans rfl; have hcz19_2 : w17.cell? ⟨gb138, 2, none⟩ = some (.int .i64 a0_2) := (blk_cell BK138.out 2).trans rfl; have hfz19_0 := blk_frozen BK138.out 0; have hfz19_1 := blk_frozen BK138.out 1; have hfz19_2 := blk_frozen BK138.out 2; have hcz20_0 : w17.cell? ⟨gb139, 0, none⟩ = some (.int .i64 a1_0) := (blk_cell BK139.out 0).trans rfl; have hcz20_1 : w17.cell? ⟨gb139, 1, none⟩ = some (.int .i64 a1_1) := (blk_cell BK139.out 1).trans rfl; have hcz20_2 : w17.cell? ⟨gb139, 2, none⟩ = some (.int .i64 a1_2) := (blk_cell BK139.out 2).trans rfl; have hfz20_0 := blk_frozen BK139.out 0; have hfz20_1 := blk_frozen BK139.out 1; have hfz20_2 := blk_frozen BK139.out 2))
   go_ret
   exact ⟨by first | rfl | (simp [errW_none, errW_some] <;> rfl) | (simp [*, errW_none, errW_some] <;> rfl), by repeat (first | (with_reducible first | exact HB.out | apply below_alloc | apply pw_below_drewN | apply below_drew1 | refine below_set ?_ GE138.out | refine below_set ?_ GE139.out) | exact HB.out)⟩
 ·rw [if_neg c3] at H
  have c3b0 : (a0_0 == a1_0) = false := beq_eq_false_iff_ne.mpr c3
  have c3b1 : (a0_0 != a1_0) = true := bne_iff_ne.mpr c3
  obtain rfl := Option.some.inj H
  go_enter Tryd.func6, Tryd.ntmps6
  go_wp2_with (first | ((with_reducible refine gate_dst (N := 2) rfl ?_); refine box_event ?hg (N := 2) ?hd (cs := #[.int .i64 a0_0, .int .i64 a0_1, .int .i64 a0_2]) (t := 23) ?hr ?_; (case hd => rfl); (case hg => rfl); (case hr => first | (go_simp; done) | (go_simp; rfl)); intro gb138 hg w21 hbox hb; have n0_ := Aside0.mk (below_step (by repeat (first | exact HB.out | apply below_alloc)) hb); have n1_ := Aside0.mk (hbox); have n2_ := Aside0.mk ((by rw [hg]; exact (below_size (by repeat (first | exact HB.out | apply below_alloc))) : w.heap.size ≤ gb138)); have n3_ := Aside0.mk ((by rw [hg]; exact (below_size (by repeat (first | exact HB.out | apply below_alloc))) : w.heap.size ≤ gb138)); clear HB; have HB := n0_; have BK138 := n1_; have GW138 := n2_; have GE138 := n3_; clear n0_ n1_ n2_ n3_; clear hb hbox hg) | ((with_reducible refine gate_dst (N := 3) rfl ?_); refine box_event ?hg (N := 3) ?hd (cs := #[.int .i64 a1_0, .int .i64 a1_1, .int .i64 a1_2]) (t := 23) ?hr ?_; (case hd => rfl); (case hg => rfl); (case hr => first | (go_simp; done) | (go_simp; rfl)); intro gb139 hg w22 hbox hb; have n0_ := Aside0.mk (blk_below (g := gb138) (o := .cells #[.int .i64 a0_0, .int .i64 a0_1, .int .i64 a0_2] 23 (0, 0)) (by repeat first | exact BK138.out | refine blk_drewN ?_ _ | refine blk_drew ?_ | refine blk_alloc ?_ _) hb); have n1_ := Aside0.mk (below_step (by repeat (first | (with_reducible first | exact HB.out | apply below_alloc | apply pw_below_drewN | apply below_drew1 | refine below_set ?_ GE138.out) | exact HB.out)) hb); have n2_ := Aside0.mk (hbox); have n3_ := Aside0.mk ((by rw [hg]; exact (below_size (by repeat (first | (with_reducible first | exact HB.out | apply below_alloc | apply pw_below_drewN | apply below_drew1 | refine below_set ?_ GE138.out) | exact HB.out))) : w.heap.size ≤ gb139)); have n4_ := Aside0.mk ((by rw [hg]; exact (below_size (by repeat (first | (with_reducible first | exact HB.out | apply below_alloc | apply pw_below_drewN | apply below_drew1 | refine below_set ?_ GE138.out) | exact HB.out))) : w.heap.size ≤ gb139)); have n5_ := Aside0.mk ((by rw [hg]; exact Nat.ne_of_lt (blk_lt (g := gb138) (o := .cells #[.int .i64 a0_0, .int .i64 a0_1, .int .i64 a0_2] 23 (0, 0)) (by repeat first | exact BK138.out | refine blk_drewN ?_ _ | refine blk_drew ?_ | refine blk_alloc ?_ _)) : gb138 ≠ gb139)); have n6_ := Aside0.mk ((by rw [hg]; exact Nat.ne_of_gt (blk_lt (g := gb138) (o := .cells #[.int .i64 a0_0, .int .i64 a0_1, .int .i64 a0_2] 23 (0, 0)) (by repeat first | exact BK138.out | refine blk_drewN ?_ _ | refine blk_drew ?_ | refine blk_alloc ?_ _)) : gb139 ≠ gb138)); clear BK138; clear HB; have BK138 := n0_; have HB := n1_; have BK139 := n2_; have GW139 := n3_; have GE139 := n4_; have NB138_139 := n5_; have NB139_138 := n6_; clear n0_ n1_ n2_ n3_ n4_ n5_ n6_; clear hb hbox hg; have hnb23 := NB138_139.out; have hnc23 := NB139_138.out; have hcz24_0 : w22.cell? ⟨gb138, 0, none⟩ = some (.int .i64 a0_0) := (blk_cell BK138.out 0).trans rfl; have hcz24_1 : w22.cell? ⟨gb138, 1, none⟩ = some (.int .i64 a0_1) := (blk_cell BK138.out 1).trans rfl; have hcz24_2 : w22.cell? ⟨gb138, 2, none⟩ = some (.int .i64 a0_2) := (blk_cell BK138.out 2).trans rfl; have hfz24_0 := blk_frozen BK138.out 0; have hfz24_1 := blk_frozen BK138.out 1; have hfz24_2 := blk_frozen BK138.out 2; have hcz25_0 : w22.cell? ⟨gb139, 0, none⟩ = some (.int .i64 a1_0) := (blk_cell BK139.out 0).trans rfl; have hcz25_1 : w22.cell? ⟨gb139, 1, none⟩ = some (.int .i64 a1_1) := (blk_cell BK139.out 1).trans rfl; have hcz25_2 : w22.cell? ⟨gb139, 2, none⟩ = some (.int .i64 a1_2) := (blk_cell BK139.out 2).trans rfl; have hfz25_0 := blk_frozen BK139.out 0; have hfz25_1 := blk_frozen BK139.out 1; have hfz25_2 := blk_frozen BK139.out 2))
  go_ret
  exact ⟨by first | rfl | (simp [errW_none, errW_some] <;> rfl) | (simp [*, errW_none, errW_some] <;> rfl), by repeat (first | (with_reducible first | exact HB.out | apply below_alloc | apply pw_below_drewN | apply below_drew1 | refine below_set ?_ GE138.out | refine below_set ?_ GE139.out) | exact HB.out)⟩
/-! ### pre_dn: function 90 (given) -/
theorem dN1 {w : World} {a b : Nat} : (w.drewN a).drewN b = w.drewN (a + b) := World.drewN_drewN _ _ _
theorem dN2 {w : World} {a b c : Nat} : (w.drewN (a + b)).drewN c = w.drewN (a + (b + c)) := Eq.trans (World.drewN_drewN _ _ _) (congrArg (World.drewN _) (Nat.add_assoc _ _ _))
abbrev y_ : Bool := true
/-! ### spec_l01Digit: function 24 -/
def spec_l01Digit.f (a0 : Int) : Option (Bool) := if a0 ≥ 48 then (some (decide (a0 ≤ 57))) else (some false)
set_option maxHeartbeats 8000000 in
set_option maxRecDepth 100000 in
theorem spec_l01Digit.calls (a0 : Int) (r : Bool) (w : World) (h : spec_l01Digit.f a0 = some r) :
  Calls Tryd.prog 24 #[.int .u8 a0] w fun e w' => e = .returned (.bool r) ∧ Drawn0 w w' := by
 have H : (if a0 ≥ 48 then (some (decide (a0 ≤ 57))) else (some false)) = some r := h
 clear h
 by_cases c2 : a0 ≥ 48
 ·rw [if_pos c2] at H
  have c2b0 : decide (48 ≤ a0) = true := decide_eq_true c2
  clear c2
  obtain rfl := Option.some.inj H
  go_enter Tryd.func24, Tryd.ntmps24
  go_wp2
  go_ret
  exact ⟨by first | rfl | (simp; done) | (simp [*]; done), by repeat (first | exact Drawn0.refl _ | apply Drawn0.step)⟩
 ·rw [if_neg c2] at H
  have c2b0 : decide (48 ≤ a0) = false := decide_eq_false c2
  clear c2
  obtain rfl := Option.some.inj H
  go_enter Tryd.func24, Tryd.ntmps24
  go_wp2
  go_ret
  exact ⟨by first | rfl | (simp; done) | (simp [*]; done), by repeat (first | exact Drawn0.refl _ | apply Drawn0.step)⟩
end Go.Proofs.YtpbciknccgpndaaDoor.P
end
