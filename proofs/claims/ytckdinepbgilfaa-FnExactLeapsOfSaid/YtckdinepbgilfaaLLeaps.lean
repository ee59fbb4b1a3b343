/- The sum of all leaps: the reference and the program tell the same. Plain Lean. -/
import Derived.Test.YtckdinepbgilfaaLAbs
import Derived.Test.YtckdinepbgilfaaLEv
import Derived.Test.YtckdinepbgilfaaLMax
import Derived.Test.YtckdinepbgilfaaLPitches
import Derived.Test.YtckdinepbgilfaaQImplLeapsof
import Derived.Test.YtckdinepbgilfaaQSpecL15Leaps
namespace Go.Proofs.Ytckdinepbgilfaa.P
open Go.RowKit Go.Proofs.Ytckdinepbgilfaa.P Go.Proofs.YtckdinepbgilfaaW.PrintWords Go.Proofs.YtckdinepbgilfaaW.PrintLast Go.Proofs.YtckdinepbgilfaaW.PrintMore
set_option linter.unusedVariables false
set_option linter.unusedSimpArgs false

def leapsM (l : List Int) : Nat → Nat → Int → Int
  | 0, _, acc => acc
  | d + 1, i, acc => leapsM l d (i + 1) (acc + max (rd l i - rd l ((i : Int) - 1)) (rd l ((i : Int) - 1) - rd l i))
theorem spec_l15Leaps_l0 (l : List Int) (hp : pitchesB l = true) : ∀ (d i : Nat) (acc : Int), l.length - i = d → 1 ≤ i → 0 ≤ acc → acc ≤ 35 * i → Ev (fun k => spec_l15Leaps.l0 k l acc i) (leapsM l d i acc) := by
  intro d
  have hl := pitchesB_len hp
  induction d with
  | zero =>
    intro i acc hd hi h0 h1
    refine Ev.succ ?_
    simp only [spec_l15Leaps.l0]
    refine Ev.ite_neg (by omega) ?_
    exact Ev.now _
  | succ d ih =>
    intro i acc hd hi h0 h1
    have b1 := pitchesB_rd hp (i := (i : Int)) (by omega) (by omega)
    have b2 := pitchesB_rd hp (i := (i : Int) - 1) (by omega) (by omega)
    refine Ev.succ ?_
    simp only [spec_l15Leaps.l0]
    refine Ev.ite_pos (by omega) ?_
    refine Ev.ite_pos (by omega) ?_
    rw [w64 (x := (i : Int) - 1) (by omega) (by omega), w64 (x := (i : Int) + 1) (by omega) (by omega)]
    refine Ev.ite_pos (by omega) ?_
    refine Ev.ite_pos (by omega) ?_
    rw [w64 (x := rd l (i : Int) - rd l ((i : Int) - 1)) (by omega) (by omega), w64 (x := rd l ((i : Int) - 1) - rd l (i : Int)) (by omega) (by omega)]
    refine Ev.bindc (spec_l00Max_eq _ _) ?_
    rw [w64 (x := acc + _) (by omega) (by omega)]
    have := ih (i + 1) (acc + max (rd l i - rd l ((i : Int) - 1)) (rd l ((i : Int) - 1) - rd l i)) (by omega) (by omega) (by omega) (by omega)
    simpa [leapsM] using this
theorem impl_leapsOf_l0 (l : List Int) (hp : pitchesB l = true) : ∀ (d i : Nat) (acc : Int), l.length - i = d → 1 ≤ i → 0 ≤ acc → acc ≤ 35 * i → Ev (fun k => impl_leapsOf.l0 k l acc i) (leapsM l d i acc) := by
  intro d
  have hl := pitchesB_len hp
  induction d with
  | zero =>
    intro i acc hd hi h0 h1
    refine Ev.succ ?_
    simp only [impl_leapsOf.l0]
    refine Ev.ite_neg (by omega) ?_
    exact Ev.now _
  | succ d ih =>
    intro i acc hd hi h0 h1
    have b1 := pitchesB_rd hp (i := (i : Int)) (by omega) (by omega)
    have b2 := pitchesB_rd hp (i := (i : Int) - 1) (by omega) (by omega)
    refine Ev.succ ?_
    simp only [impl_leapsOf.l0]
    refine Ev.ite_pos (by omega) ?_
    refine Ev.ite_pos (by omega) ?_
    rw [w64 (x := (i : Int) - 1) (by omega) (by omega), w64 (x := (i : Int) + 1) (by omega) (by omega)]
    refine Ev.ite_pos (by omega) ?_
    refine Ev.ite_pos (by omega) ?_
    rw [w64 (x := rd l (i : Int) - rd l ((i : Int) - 1)) (by omega) (by omega)]
    refine Ev.bindc (impl_abs_eq _ (by omega) (by omega)) ?_
    have e : max (rd l (i : Int) - rd l ((i : Int) - 1)) (-(rd l (i : Int) - rd l ((i : Int) - 1))) = max (rd l i - rd l ((i : Int) - 1)) (rd l ((i : Int) - 1) - rd l i) := by omega
    rw [e, w64 (x := acc + _) (by omega) (by omega)]
    have := ih (i + 1) (acc + max (rd l i - rd l ((i : Int) - 1)) (rd l ((i : Int) - 1) - rd l i)) (by omega) (by omega) (by omega) (by omega)
    simpa [leapsM] using this
theorem impl_leapsOf_ev (l : List Int) (hp : pitchesB l = true) : Ev (fun k => impl_leapsOf.f k l) (leapsM l (l.length - 1) 1 0) := by
  unfold impl_leapsOf.f
  simpa using impl_leapsOf_l0 l hp (l.length - 1) 1 0 (by omega) (by omega) (by omega) (by omega)
theorem spec_l15Leaps_ev (l : List Int) (hp : pitchesB l = true) : Ev (fun k => spec_l15Leaps.f k l) (leapsM l (l.length - 1) 1 0) := by
  unfold spec_l15Leaps.f
  simpa using spec_l15Leaps_l0 l hp (l.length - 1) 1 0 (by omega) (by omega) (by omega) (by omega)

end Go.Proofs.Ytckdinepbgilfaa.P
