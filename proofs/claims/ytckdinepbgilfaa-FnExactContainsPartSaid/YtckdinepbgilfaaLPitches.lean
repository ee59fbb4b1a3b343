/- Are all numbers pitches, and not too many: the reference and the program. Plain Lean. -/
import Derived.Test.YtckdinepbgilfaaLCopy
import Derived.Test.YtckdinepbgilfaaLEv
import Derived.Test.YtckdinepbgilfaaLIn
import Derived.Test.YtckdinepbgilfaaQImplAllwithin
import Derived.Test.YtckdinepbgilfaaQImplPitchesok
import Derived.Test.YtckdinepbgilfaaQSpecL03Pitch
import Derived.Test.YtckdinepbgilfaaQSpecL05Pitches
namespace Go.Proofs.Ytckdinepbgilfaa.P
open Go.RowKit Go.Proofs.Ytckdinepbgilfaa.P Go.Proofs.YtckdinepbgilfaaW.PrintWords Go.Proofs.YtckdinepbgilfaaW.PrintLast Go.Proofs.YtckdinepbgilfaaW.PrintMore
set_option linter.unusedVariables false
set_option linter.unusedSimpArgs false

def inP (n : Int) : Bool := decide (-12 ≤ n) && decide (n ≤ 23)
def pitchesB (l : List Int) : Bool := decide (l.length ≤ 64) && l.all inP
theorem spec_l03Pitch_eq (n : Int) : spec_l03Pitch.f n = some (inP n) := by
  unfold spec_l03Pitch.f
  rw [spec_l00In_eq]
  rfl
theorem all_drop_at {l : List Int} {i : Nat} (q : Int → Bool) (h : i < l.length) : (l.drop i).all q = (q (rd l i) && (l.drop (i + 1)).all q) := by
  rw [List.drop_eq_getElem_cons h, List.all_cons, rd_at h]
theorem spec_l05Pitches_l0 (l : List Int) (hl : l.length ≤ 9223372036854775807) : ∀ (d i : Nat), l.length - i = d → i ≤ l.length → Ev (fun k => spec_l05Pitches.l0 k l i) ((l.drop i).all inP && decide (l.length ≤ 64)) := by
  intro d
  induction d with
  | zero =>
    intro i hd hi
    refine Ev.succ ?_
    simp only [spec_l05Pitches.l0]
    refine Ev.ite_neg (by omega) ?_
    rw [List.drop_of_length_le (by omega)]
    refine Ev.cast (Ev.now _) ?_
    simp
    omega
  | succ d ih =>
    intro i hd hi
    refine Ev.succ ?_
    simp only [spec_l05Pitches.l0]
    refine Ev.ite_pos (by omega) ?_
    refine Ev.ite_pos (by omega) ?_
    refine Ev.bindc (spec_l03Pitch_eq _) ?_
    rw [all_drop_at inP (by omega)]
    cases hq : inP (rd l i) with
    | true =>
      refine Ev.ite_pos rfl ?_
      rw [w64 (x := (i : Int) + 1) (by omega) (by omega)]
      simpa using ih (i + 1) (by omega) (by omega)
    | false =>
      refine Ev.ite_neg (by decide) ?_
      simpa using Ev.now false
theorem spec_l05Pitches_ev (l : List Int) (hl : l.length ≤ 9223372036854775807) : Ev (fun k => spec_l05Pitches.f k l) (pitchesB l) := by
  unfold spec_l05Pitches.f pitchesB
  have := spec_l05Pitches_l0 l hl l.length 0 (by omega) (by omega)
  rw [Bool.and_comm]
  simpa using this
theorem impl_pitchesOk_eq (l : List Int) : impl_pitchesOk.f l = some (pitchesB l) := by
  unfold impl_pitchesOk.f impl_allWithin.f pitchesB
  by_cases h : l.length ≤ 64
  · have h' : (l.length : Int) ≤ 64 := by omega
    simp only [h', h, if_true, decide_true, Bool.true_and]
    rfl
  · have h' : ¬ (l.length : Int) ≤ 64 := by omega
    simp [h]
    omega
theorem pitchesB_len {l : List Int} (h : pitchesB l = true) : l.length ≤ 64 := by
  simp only [pitchesB, Bool.and_eq_true, decide_eq_true_eq] at h
  exact h.1
theorem pitchesB_rd {l : List Int} (h : pitchesB l = true) {i : Int} (h0 : 0 ≤ i) (h1 : i < l.length) : -12 ≤ rd l i ∧ rd l i ≤ 23 := by
  simp only [pitchesB, Bool.and_eq_true, decide_eq_true_eq, List.all_eq_true] at h
  obtain ⟨n, rfl⟩ := Int.eq_ofNat_of_zero_le h0
  rw [rd_at (show n < l.length by omega)]
  have := h.2 l[n] (List.getElem_mem _)
  simpa [inP] using this

end Go.Proofs.Ytckdinepbgilfaa.P
