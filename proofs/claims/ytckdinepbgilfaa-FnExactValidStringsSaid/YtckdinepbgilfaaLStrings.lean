/- The strings of a drone: the reference and the program tell alike which lists are valid. Plain Lean. -/
import Derived.Test.YtckdinepbgilfaaLCopy
import Derived.Test.YtckdinepbgilfaaLEv
import Derived.Test.YtckdinepbgilfaaLIn
import Derived.Test.YtckdinepbgilfaaQImplAllwithin
import Derived.Test.YtckdinepbgilfaaQImplIncreasing
import Derived.Test.YtckdinepbgilfaaQImplValidstrings
import Derived.Test.YtckdinepbgilfaaQSpecL00Rises
import Derived.Test.YtckdinepbgilfaaQSpecL16Strings
import Derived.Test.YtckdinepbgilfaaQSpecValidstrings
namespace Go.Proofs.Ytckdinepbgilfaa.P
open Go.RowKit Go.Proofs.Ytckdinepbgilfaa.P Go.Proofs.YtckdinepbgilfaaW.PrintWords Go.Proofs.YtckdinepbgilfaaW.PrintLast Go.Proofs.YtckdinepbgilfaaW.PrintMore
set_option linter.unusedVariables false
set_option linter.unusedSimpArgs false

def rgB (l : List Int) (a b : Int) (i d : Nat) : Bool := (List.range' i d).all fun j => decide (a ≤ rd l j) && decide (rd l j ≤ b) && (decide (j = 0) || decide (rd l ((j : Int) - 1) < rd l j))
theorem spec_l00Rises_l0 (l : List Int) (a b : Int) (hl : l.length ≤ 9223372036854775807) : ∀ (d i : Nat), l.length - i = d → i ≤ l.length → Ev (fun k => spec_l00Rises.l0 k l a b i) (rgB l a b i d) := by
  intro d
  induction d with
  | zero =>
    intro i hd hi
    refine Ev.succ ?_
    simp only [spec_l00Rises.l0]
    refine Ev.ite_neg (by omega) ?_
    exact Ev.now _
  | succ d ih =>
    intro i hd hi
    refine Ev.succ ?_
    simp only [spec_l00Rises.l0]
    refine Ev.ite_pos (by omega) ?_
    refine Ev.ite_pos (by omega) ?_
    refine Ev.bindc (spec_l00In_eq _ _ _) ?_
    have hr : rgB l a b i (d + 1) = ((decide (a ≤ rd l i) && decide (rd l i ≤ b) && (decide (i = 0) || decide (rd l ((i : Int) - 1) < rd l i))) && rgB l a b (i + 1) d) := by
      simp [rgB, List.range'_succ]
    rw [hr]
    have ih' := ih (i + 1) (by omega) (by omega)
    rw [w64 (x := (i : Int) + 1) (by omega) (by omega)]
    have ih2 : Ev (fun k => spec_l00Rises.l0 k l a b ((i : Int) + 1)) (rgB l a b (i + 1) d) := by simpa using ih'
    cases hq : (decide (a ≤ rd l i) && decide (rd l i ≤ b)) with
    | true =>
      refine Ev.ite_pos rfl ?_
      by_cases h0 : i = 0
      · refine Ev.ite_neg (by omega) ?_
        refine Ev.cast ih2 ?_
        simp [h0]
      · refine Ev.ite_pos (by omega) ?_
        rw [w64 (x := (i : Int) - 1) (by omega) (by omega)]
        refine Ev.ite_pos (by omega) ?_
        refine Ev.ite_pos (by omega) ?_
        by_cases hx : rd l ((i : Int) - 1) ≥ rd l i
        · refine Ev.ite_pos hx ?_
          refine Ev.cast (Ev.now false) ?_
          have : ¬ rd l ((i : Int) - 1) < rd l i := by omega
          simp [h0, this]
        · refine Ev.ite_neg hx ?_
          refine Ev.cast ih2 ?_
          have : rd l ((i : Int) - 1) < rd l i := by omega
          simp [this]
    | false =>
      refine Ev.ite_neg (by decide) ?_
      refine Ev.cast (Ev.now false) ?_
      simp
def incB (l : List Int) (i d : Nat) : Bool := (List.range' i d).all fun j => decide (rd l ((j : Int) - 1) < rd l j)
theorem impl_increasing_l0 (l : List Int) (hl : l.length ≤ 9223372036854775807) : ∀ (d i : Nat), l.length - i = d → 1 ≤ i → Ev (fun k => impl_increasing.l0 k l i) (incB l i d) := by
  intro d
  induction d with
  | zero =>
    intro i hd hi
    refine Ev.succ ?_
    simp only [impl_increasing.l0]
    refine Ev.ite_neg (by omega) ?_
    exact Ev.now _
  | succ d ih =>
    intro i hd hi
    refine Ev.succ ?_
    simp only [impl_increasing.l0]
    refine Ev.ite_pos (by omega) ?_
    refine Ev.ite_pos (by omega) ?_
    rw [w64 (x := (i : Int) - 1) (by omega) (by omega), w64 (x := (i : Int) + 1) (by omega) (by omega)]
    refine Ev.ite_pos (by omega) ?_
    refine Ev.ite_pos (by omega) ?_
    have hr : incB l i (d + 1) = (decide (rd l ((i : Int) - 1) < rd l i) && incB l (i + 1) d) := by
      simp [incB, List.range'_succ]
    rw [hr]
    by_cases hx : rd l i ≤ rd l ((i : Int) - 1)
    · refine Ev.ite_pos hx ?_
      refine Ev.cast (Ev.now false) ?_
      have : ¬ rd l ((i : Int) - 1) < rd l i := by omega
      simp [this]
    · refine Ev.ite_neg hx ?_
      have := ih (i + 1) (by omega) (by omega)
      refine Ev.cast (by simpa using this) ?_
      have : rd l ((i : Int) - 1) < rd l i := by omega
      simp [this]
def stringsB (l : List Int) : Bool := decide (l.length ≤ 16) && rgB l (-12) 23 0 l.length
theorem spec_l16Strings_ev (l : List Int) : Ev (fun k => spec_l16Strings.f k l) (stringsB l) := by
  unfold spec_l16Strings.f stringsB
  by_cases h : l.length ≤ 16
  · refine Ev.ite_pos (by omega) ?_
    refine Ev.bind (a := rgB l (-12) 23 0 l.length) ?_ ?_
    · unfold spec_l00Rises.f
      simpa using spec_l00Rises_l0 l (-12) 23 (by omega) l.length 0 (by omega) (by omega)
    · simpa [h] using Ev.now _
  · refine Ev.ite_neg (by omega) ?_
    simpa [h] using Ev.now false
theorem spec_ValidStrings_ev (l : List Int) : Ev (fun k => spec_ValidStrings.f k l) (stringsB l) := by
  unfold spec_ValidStrings.f
  exact Ev.bind (spec_l16Strings_ev l) (Ev.now _)
theorem impl_ValidStrings_ev (l : List Int) : Ev (fun k => impl_ValidStrings.f k l) (stringsB l) := by
  unfold impl_ValidStrings.f stringsB
  by_cases h : l.length ≤ 16
  · refine Ev.ite_pos (by omega) ?_
    refine Ev.bind (a := incB l 1 (l.length - 1)) ?_ ?_
    · unfold impl_increasing.f
      simpa using impl_increasing_l0 l (by omega) (l.length - 1) 1 (by omega) (by omega)
    · have key : rgB l (-12) 23 0 l.length = (incB l 1 (l.length - 1) && l.all fun n => decide (-12 ≤ n) && decide (n ≤ 23)) := by
        rw [Bool.eq_iff_iff]
        simp only [rgB, incB, Bool.and_eq_true, List.all_eq_true, List.mem_range'_1, decide_eq_true_eq, Bool.or_eq_true]
        constructor
        · intro hh
          refine ⟨fun j hj => ?_, fun x hx => ?_⟩
          · rcases (hh j (by omega)).2 with h0 | h0
            · omega
            · exact h0
          · obtain ⟨j, hj, rfl⟩ := List.getElem_of_mem hx
            have := (hh j (by omega)).1
            rwa [rd_at hj] at this
        · rintro ⟨h1, h2⟩ j hj
          refine ⟨?_, ?_⟩
          · rw [rd_at (show j < l.length by omega)]
            exact h2 _ (List.getElem_mem _)
          · by_cases h0 : j = 0
            · exact .inl h0
            · exact .inr (h1 j (by omega))
      rw [key]
      cases incB l 1 (l.length - 1) with
      | true =>
        refine Ev.ite_pos rfl ?_
        refine Ev.bindc (show impl_allWithin.f l (-12) 23 = some _ from rfl) ?_
        simpa [h] using Ev.now _
      | false =>
        refine Ev.ite_neg (by decide) ?_
        simpa using Ev.now false
  · refine Ev.ite_neg (by omega) ?_
    simpa [h] using Ev.now false

end Go.Proofs.Ytckdinepbgilfaa.P
