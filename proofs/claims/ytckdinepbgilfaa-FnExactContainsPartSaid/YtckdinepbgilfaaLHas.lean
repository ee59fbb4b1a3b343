/- Does a list contain another one: the reference's word and the program's. Plain Lean. -/
import Derived.Test.YtckdinepbgilfaaLEv
import Derived.Test.YtckdinepbgilfaaLSame
import Derived.Test.YtckdinepbgilfaaLSlEq
import Derived.Test.YtckdinepbgilfaaQImplOccurrences
import Derived.Test.YtckdinepbgilfaaQSpecL15Has
namespace Go.Proofs.Ytckdinepbgilfaa.P
open Go.RowKit Go.Proofs.Ytckdinepbgilfaa.P Go.Proofs.YtckdinepbgilfaaW.PrintWords Go.Proofs.YtckdinepbgilfaaW.PrintLast Go.Proofs.YtckdinepbgilfaaW.PrintMore
set_option linter.unusedVariables false
set_option linter.unusedSimpArgs false

def cutAt (a b : List Int) (j : Nat) : List Int := (a.take (j + b.length)).drop j
theorem spec_l15Has_l0 (a b : List Int) (ha : a.length ≤ 64) (hb : b.length ≤ 64) : ∀ (d i : Nat), a.length + 1 - b.length - i = d → i ≤ 65 → Ev (fun k => spec_l15Has.l0 k a b i) ((List.range' i d).any fun j => decide (cutAt a b j = b)) := by
  intro d
  induction d with
  | zero =>
    intro i hd hi
    refine Ev.succ ?_
    simp only [spec_l15Has.l0]
    rw [w64 (x := (i : Int) + b.length) (by omega) (by omega)]
    refine Ev.ite_neg (by omega) ?_
    exact Ev.now _
  | succ d ih =>
    intro i hd hi
    refine Ev.succ ?_
    simp only [spec_l15Has.l0]
    rw [w64 (x := (i : Int) + b.length) (by omega) (by omega), w64 (x := (i : Int) + 1) (by omega) (by omega)]
    refine Ev.ite_pos (by omega) ?_
    refine Ev.ite_pos (by omega) ?_
    refine Ev.ite_pos (by omega) ?_
    have e : ((i : Int) + (b.length : Int)).toNat = i + b.length := by omega
    rw [e, Int.toNat_natCast]
    refine Ev.bind (spec_l00Same_ev (cutAt a b i) b (by simp [cutAt]; omega)) ?_
    by_cases h : cutAt a b i = b
    · refine Ev.ite_pos (by simpa using h) ?_
      refine Ev.cast (Ev.now true) ?_
      simp [List.range'_succ, h]
    · refine Ev.ite_neg (by simpa using h) ?_
      refine Ev.cast (by simpa using ih (i + 1) (by omega) (by omega)) ?_
      simp [List.range'_succ, h]
theorem impl_occurrences_l0 (a b : List Int) (ha : a.length ≤ 64) (hb : b.length ≤ 64) : ∀ (d i : Nat) (acc : List Int), a.length + 1 - b.length - i = d → i ≤ 65 → acc.length ≤ i →
    Ev (fun k => impl_occurrences.l0 k a b acc i) (acc ++ ((List.range' i d).filter fun j => decide (cutAt a b j = b)).map Int.ofNat) := by
  intro d
  induction d with
  | zero =>
    intro i acc hd hi hc
    refine Ev.succ ?_
    simp only [impl_occurrences.l0]
    rw [w64 (x := (i : Int) + b.length) (by omega) (by omega)]
    refine Ev.ite_neg (by omega) ?_
    simpa using Ev.now _
  | succ d ih =>
    intro i acc hd hi hc
    refine Ev.succ ?_
    simp only [impl_occurrences.l0]
    rw [w64 (x := (i : Int) + b.length) (by omega) (by omega), w64 (x := (i : Int) + 1) (by omega) (by omega)]
    refine Ev.ite_pos (by omega) ?_
    refine Ev.ite_pos (by omega) ?_
    refine Ev.ite_pos (by omega) ?_
    have e : ((i : Int) + (b.length : Int)).toNat = i + b.length := by omega
    rw [e, Int.toNat_natCast]
    refine Ev.bind (slices_Equal_ev (cutAt a b i) b (by simp [cutAt]; omega)) ?_
    by_cases h : cutAt a b i = b
    · refine Ev.ite_pos (by simpa using h) ?_
      refine Ev.ite_pos (by omega) ?_
      refine Ev.cast (by simpa using ih (i + 1) (acc ++ [(i : Int)]) (by omega) (by omega) (by simp; omega)) ?_
      simp [List.range'_succ, h]
    · refine Ev.ite_neg (by simpa using h) ?_
      refine Ev.cast (by simpa using ih (i + 1) acc (by omega) (by omega) (by omega)) ?_
      simp [List.range'_succ, h]
def hasB (a b : List Int) : Bool := (List.range' 0 (a.length + 1 - b.length)).any fun j => decide (cutAt a b j = b)
theorem spec_l15Has_ev (a b : List Int) (ha : a.length ≤ 64) (hb : b.length ≤ 64) : Ev (fun k => spec_l15Has.f k a b) (hasB a b) := by
  unfold spec_l15Has.f hasB
  simpa using spec_l15Has_l0 a b ha hb (a.length + 1 - b.length) 0 (by omega) (by omega)
def occM (a b : List Int) : List Int := ((List.range' 0 (a.length + 1 - b.length)).filter fun j => decide (cutAt a b j = b)).map Int.ofNat
theorem impl_occurrences_ev (a b : List Int) (ha : a.length ≤ 64) (hb : b.length ≤ 64) : Ev (fun k => impl_occurrences.f k a b) (occM a b) := by
  unfold impl_occurrences.f occM
  simpa using impl_occurrences_l0 a b ha hb (a.length + 1 - b.length) 0 [] (by omega) (by omega) (by simp)
theorem occM_len (a b : List Int) : decide (((occM a b).length : Int) > 0) = hasB a b := by
  rw [Bool.eq_iff_iff, decide_eq_true_eq, hasB, List.any_eq_true]
  unfold occM
  rw [List.length_map]
  constructor
  · intro h
    obtain ⟨x, hx⟩ := List.exists_mem_of_length_pos (l := (List.range' 0 (a.length + 1 - b.length)).filter fun j => decide (cutAt a b j = b)) (by omega)
    rw [List.mem_filter] at hx
    exact ⟨x, hx.1, hx.2⟩
  · rintro ⟨x, h1, h2⟩
    have : 0 < ((List.range' 0 (a.length + 1 - b.length)).filter fun j => decide (cutAt a b j = b)).length := List.length_pos_of_mem (List.mem_filter.2 ⟨h1, h2⟩)
    omega

end Go.Proofs.Ytckdinepbgilfaa.P
