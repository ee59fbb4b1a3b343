/- The law FnExactReadOrnament: for every text the call returns true and the text reads as it did; the row lists what seven variables of Go's library hold, and the card ties that to the program's text (the tie is given). No condition. -/
import Derived.Deep.DeepHandedRow
import Derived.Stop.LaidErr
import Derived.Lib.LaidTab
import Derived.Lay
import Derived.LaidMore
import Derived.MakeChecks
import Derived.SevenTiedAt
import Derived.WalkKit
import Derived.ProofKit
import Derived.OpenShut
import Derived.ShutString
import Derived.ChangeOld
import Derived.Below
import Derived.SizedLaws
import Derived.Shelf.Vars
import Derived.Test.YtpbciknccgpndaaDoorRows
import Derived.Test.YtpbciknccgpndaaDoorCards
import Derived.Test.YtpbciknccgpndaaDoorTie
import Derived.Test.YtpbciknccgpndaaDoorXFnExactReadOrnament
namespace Go.Proofs.YtpbciknccgpndaaDoor.fnExactReadOrnament
open Go.ChangeShapes Go.WideShapes Go.ChangeAt Go.RowKit Go.Proofs.YtpbciknccgpndaaDoor.P
open Go.ChangeMaps (open_string shut_string)
set_option linter.unusedVariables false
theorem own : ownKnob Tryd.prog.godebug = none := by kernel_rfl
theorem laidOut : laidOutB Tryd.prog = true := by kernel_rfl
theorem star : "*" ++ "errors.errorString" = "*errors.errorString" := by decide
theorem rowErr (u : TypeId) (h : Tryd.prog.typeName? 3 u = some "*errors.errorString") : u = 87 :=
  typeName_ptr_named (nm := "errors.errorString") (by rw [star]; kernel_rfl) (by kernel_rfl) (by decide) u (by rw [star]; exact h)
theorem tabEq : (Rows.laid_internal_strconv_uint64pow10 : DataW Unit) = Lib.tabData .u64 Lib.pow10Tab := by kernel_rfl
theorem globs : Tryd.prog.globalNamed "strconv.ErrRange" = some 2 ∧ Tryd.prog.globalNamed "strconv.ErrSyntax" = some 1 ∧ Tryd.prog.globalNamed "internal/strconv.uint64pow10" = some 5 := ⟨by kernel_rfl, by kernel_rfl, by kernel_rfl⟩
/-- What the condition gives the walk. -/
theorem of_laid {W : World} (hL : laidMetH Tryd.prog Rows.fnExactReadOrnamentRow.laid W) (hsh : W.ShapedOpen Tryd.prog) : LaidW W := by
  rw [MakeChecks.laidMetH_plain _ _ _ (by kernel_rfl)] at hL
  have h1 : laidMet Tryd.prog [("math/bits.deBruijn32tab", Rows.laid_math_bits_deBruijn32tab), ("math/bits.deBruijn64tab", Rows.laid_math_bits_deBruijn64tab), ("internal/strconv.uint64pow10", Rows.laid_internal_strconv_uint64pow10), ("unicode/utf8.acceptRanges", Rows.laid_unicode_utf8_acceptRanges), ("strconv.ErrRange", Rows.laid_strconv_ErrRange), ("strconv.ErrSyntax", Rows.laid_strconv_ErrSyntax), ("unicode/utf8.first", Rows.laid_unicode_utf8_first)] W := hL
  have h3 := h1.tail.tail
  have h5 := h3.tail.tail
  have h6 := h5.tail
  rw [tabEq] at h3
  obtain ⟨a1, s1, hv1, _⟩ := laid_sentinel (g := 2) h5 globs.1 (by kernel_rfl) Tryd.underlying43 rowErr Tryd.underlying87 Tryd.underlying89 rfl rfl Tryd.underlying9 (by kernel_rfl) (by kernel_rfl)
  obtain ⟨a2, s2, hv2, _⟩ := laid_sentinel (g := 1) h6 globs.2.1 (by kernel_rfl) Tryd.underlying43 rowErr Tryd.underlying87 Tryd.underlying89 rfl rfl Tryd.underlying9 (by kernel_rfl) (by kernel_rfl)
  have ht := Lib.tabIs_of_head (t := 91) (e := 58) globs.2.2 (by kernel_rfl) Tryd.underlying91 Tryd.underlying58 (by kernel_rfl) (by kernel_rfl) h3
  obtain ⟨m, hm⟩ := cell_of_shapedOpen_int (g := 0) (t := 3) (zero := #[.int .i64 0]) hsh (of_decide_eq_true (by kernel_rfl)) (by kernel_rfl) rfl (by kernel_rfl) (by kernel_rfl) Tryd.underlying3
  exact ⟨ht, ⟨_, (World.var?_cell globs.2.1 hv2 0).trans rfl, Or.inr ⟨_, _, rfl⟩⟩, ⟨_, (World.var?_cell globs.1 hv1 0).trans rfl, Or.inr ⟨_, _, rfl⟩⟩, m, hm⟩
set_option maxRecDepth 100000 in
theorem lifted (os : Os) (started : os.Started) (H : Type) (enc : TypeId × Value → H) :
    ReturnsInHanded {} Tryd.checked os 3 .any ((OpenSpec.ofChange Rows.fnExactReadOrnamentSpec).preRow enc Tryd.prog Tryd.f3 Rows.fnExactReadOrnamentRow.domain false Rows.fnExactReadOrnamentRow.laid) (Rows.fnExactReadOrnamentSpec.post enc Tryd.prog Tryd.f3 false true false false) := by
  refine returnsInHanded_of_row (C := Tryd.checked) (s := OpenSpec.ofChange Rows.fnExactReadOrnamentSpec) (F := fun _ _ _ => 0) own started (by kernel_rfl) Tryd.func3
    (ChangeSpec.witness_shaped (enc := enc) (C := Tryd.checked) (os := os) (X := fun w _ => laidMetH Tryd.prog Rows.fnExactReadOrnamentRow.laid w) false (World.laidAll Tryd.prog os Rows.fnExactReadOrnamentRow.laid) #[.string ByteArray.empty] 8 (World.laidAll_os _ _ _)
      (World.shaped_of_ZipB (by kernel_rfl) (by kernel_rfl)) (by kernel_rfl) (by kernel_rfl) (by kernel_rfl)
      (by rw [MakeChecks.laidMetH_plain _ _ _ (by kernel_rfl)]; exact laidMet_laidAll _ (by kernel_rfl) (by kernel_rfl))) ?_
  intro W base args ds gs before hval0 hW _ _ hsz0 hL hsh _
  have hval : ∀ (j : Nat) t v, Tryd.f3.params[j]? = some t → args[j]? = some v → Value.okWide Tryd.prog W .any base t v := hval0
  have hW' := hW
  obtain ⟨p, q, hA0, hV, rfl, hfz, hnd⟩ := hW
  have hA : DataW.TrodAll enc Tryd.prog W 0 (fun _ => true) true Tryd.f3.params.toList args.toList ds p := hA0
  rw [Tryd.params3] at hA hval
  obtain ⟨v0, vs0, d0, ds0, p0, q0, hargs, rfl, rfl, h0, r0⟩ := trodAll_cons hA
  obtain ⟨rfl, rfl, rfl⟩ := trodAll_nil r0
  obtain rfl : args = #[v0] := by cases args; simp_all
  obtain ⟨rfl, rfl⟩ := trodVars_none hV
  obtain ⟨a0, rfl, rfl, rfl, w0⟩ := open_string Tryd.underlying9 (hval 0 9 v0 rfl rfl) h0
  clear hA0 hval0 hsz0
  refine (P.laws_FnExactReadOrnament.walk Pure.FnExactReadOrnament a0 W (of_laid hL hsh)).mono fun e W' ⟨he, bel⟩ => ?_
  subst he
  exact ⟨_, rfl, _, _, _, [], _, [], hW', trodAll_mk1 (shut_bool Tryd.underlying4 _), (trodAll_cons_mk (shut_string Tryd.underlying9 w0) trodAll_mk0), rfl, bel.frame _, fun h => by cases h⟩
theorem over : Rows.fnExactReadOrnamentRow.holds Tryd.pinned (OpenSpec.ofChange Rows.fnExactReadOrnamentSpec) :=
  OpenClaim.holds_of_wide 3 Tryd.f3 rfl rfl rfl rfl rfl rfl rfl ⟨rfl, rfl, rfl, rfl, rfl⟩ rfl rfl rfl rfl rfl (by kernel_rfl) Tryd.func3 (by kernel_rfl)
    (of_decide_eq_true (by kernel_rfl)) (by unfold Func.isWrapper; first | (rw [if_pos (by decide +kernel)]; kernel_rfl) | (rw [if_neg (by decide +kernel)]; exact ⟨rfl, rfl⟩))
    (fun os started H enc _ => by rw [OpenClaim.pre_eq_preRow]; exact lifted os started H enc)
theorem card : Rows.FnExactReadOrnamentCardSaid :=
  Claim7.holds_tied_plain_at .later [] [.data, .data, .data, .data, .sentinel, .sentinel, .pinned] true (true, "96ebb1f67309d4d43c6aeaf04ad034568c7006dd671af26c928e913b52f927c0") true over (fun _ h => by cases h) (by kernel_rfl) (fun _ h => by cases h) fnExactReadOrnament_row_tie rfl ⟨rfl, rfl⟩ (by kernel_rfl) rfl
    (fun f fn hf hfn => by
      obtain rfl : f = 3 := Option.some.inj ((show Tryd.prog.funcNamed "loop.example/g01033/laws.FnExactReadOrnament" = some 3 by kernel_rfl).symm.trans hf) |>.symm
      obtain rfl : fn = Tryd.f3 := (Option.some.inj (Tryd.func3.symm.trans hfn)).symm
      exact ⟨by kernel_rfl, fun j t ht => by
        rw [Tryd.params3] at ht
        have hm : t ∈ [9] := by simpa using Array.mem_of_getElem? ht
        have hall : ([9].all fun u => !Tryd.prog.wantsStandIn u) = true := by kernel_rfl
        exact (show Tryd.prog.wantsStandIn t = false by simpa using List.all_eq_true.1 hall t hm)⟩)
    (by kernel_rfl)
end Go.Proofs.YtpbciknccgpndaaDoor.fnExactReadOrnament
namespace Go.Proofs.YtpbciknccgpndaaDoor
/-- The card, under a short name, for the claim. -/
theorem fnExactReadOrnament_holds : Rows.FnExactReadOrnamentCardSaid := fnExactReadOrnament.card
end Go.Proofs.YtpbciknccgpndaaDoor
