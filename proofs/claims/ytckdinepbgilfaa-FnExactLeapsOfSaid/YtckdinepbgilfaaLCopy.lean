/- What the laws' own helpers tell of lists of whole numbers: a copy, equality, marks. Plain Lean over the printed functions. -/
import Derived.Test.YtckdinepbgilfaaLEv
import Derived.Test.YtckdinepbgilfaaQLawsEqint64S
import Derived.Test.YtckdinepbgilfaaQLawsHeldint64S
import Derived.Test.YtckdinepbgilfaaQLawsMarkint64S
import Derived.Test.YtckdinepbgilfaaQLawsToint64S
namespace Go.Proofs.Ytckdinepbgilfaa.P
open Go.RowKit Go.Proofs.Ytckdinepbgilfaa.P Go.Proofs.YtckdinepbgilfaaW.PrintWords Go.Proofs.YtckdinepbgilfaaW.PrintLast Go.Proofs.YtckdinepbgilfaaW.PrintMore
set_option linter.unusedVariables false
set_option linter.unusedSimpArgs false

theorem set_at {l : List Int} {i : Nat} {v : Int} {m : List Int} (h : i < l.length) (e : l.take i = m) : (l.set i v).take (i + 1) = m ++ [v] := by
  rw [List.take_succ_eq_append_getElem (by simpa using h)]
  simp [List.take_set_of_le, e]
theorem rd_at {l : List Int} {i : Nat} (h : i < l.length) : rd l (i : Int) = l[i] := by simp [rd, h]

theorem toInt64S_l0 (l : List Int) (hl : l.length ≤ 9223372036854775807) : ∀ (d i : Nat) (m : List Int), l.length - i = d → i ≤ l.length → m.length = l.length → m.take i = l.take i → Ev (fun k => laws_toInt64S.l0 k l m i) l := by
  intro d
  induction d with
  | zero =>
    intro i m hd hi hm ht
    have : i = l.length := by omega
    subst this
    refine Ev.succ ?_
    simp only [laws_toInt64S.l0]
    refine Ev.ite_neg (by omega) ?_
    rw [List.take_of_length_le (by omega), List.take_of_length_le (Nat.le_refl _)] at ht
    rw [ht]
    exact Ev.now _
  | succ d ih =>
    intro i m hd hi hm ht
    refine Ev.succ ?_
    simp only [laws_toInt64S.l0]
    refine Ev.ite_pos (by omega) ?_
    refine Ev.ite_pos (by omega) ?_
    refine Ev.ite_pos (by omega) ?_
    rw [w64 (x := (i : Int) + 1) (by omega) (by omega), rd_at (show i < l.length by omega), Int.toNat_natCast]
    have := ih (i + 1) (m.set i l[i]) (by omega) (by omega) (by simpa using hm) (by
      rw [set_at (by omega) ht, ← List.take_succ_eq_append_getElem (by omega)])
    simpa using this
theorem toInt64S_ev (l : List Int) (h : l.length ≤ 35184372088832) : Ev (fun k => laws_toInt64S.f k l) l := by
  unfold laws_toInt64S.f
  refine Ev.ite_pos (by omega) ?_
  refine Ev.ite_pos (by omega) ?_
  exact toInt64S_l0 l (by omega) l.length 0 _ (by omega) (by omega) (by simp) (by simp)

theorem eqInt64S_l0 (a b : List Int) (hl : a.length ≤ 9223372036854775807) (hab : a.length = b.length) : ∀ (d i : Nat), a.length - i = d → i ≤ a.length → a.take i = b.take i → Ev (fun k => laws_eqInt64S.l0 k a b i) (decide (a = b)) := by
  intro d
  induction d with
  | zero =>
    intro i hd hi ht
    refine Ev.succ ?_
    simp only [laws_eqInt64S.l0]
    refine Ev.ite_neg (by omega) ?_
    rw [List.take_of_length_le (by omega), List.take_of_length_le (by omega)] at ht
    simpa [ht] using Ev.now true
  | succ d ih =>
    intro i hd hi ht
    refine Ev.succ ?_
    simp only [laws_eqInt64S.l0]
    refine Ev.ite_pos (by omega) ?_
    refine Ev.ite_pos (by omega) ?_
    refine Ev.ite_pos (by omega) ?_
    by_cases he : rd a i = rd b i
    · refine Ev.ite_pos he ?_
      rw [w64 (x := (i : Int) + 1) (by omega) (by omega)]
      rw [rd_at (show i < a.length by omega), rd_at (show i < b.length by omega)] at he
      have := ih (i + 1) (by omega) (by omega) (by
        rw [List.take_succ_eq_append_getElem (by omega), List.take_succ_eq_append_getElem (by omega), ht, he])
      simpa using this
    · refine Ev.ite_neg he ?_
      have : ¬ a = b := fun e => he (by rw [e])
      simpa [this] using Ev.now false
theorem eqInt64S_ev (a b : List Int) (hl : a.length ≤ 9223372036854775807) : Ev (fun k => laws_eqInt64S.f k a b) (decide (a = b)) := by
  unfold laws_eqInt64S.f
  by_cases h : a.length = b.length
  · refine Ev.ite_pos (by omega) ?_
    exact eqInt64S_l0 a b hl h a.length 0 (by omega) (by omega) (by simp)
  · refine Ev.ite_neg (by omega) ?_
    have : ¬ a = b := fun e => h (by rw [e])
    simpa [this] using Ev.now false
theorem eqInt64S_self (a : List Int) (hl : a.length ≤ 9223372036854775807) : Ev (fun k => laws_eqInt64S.f k a a) true := by simpa using eqInt64S_ev a a hl

/-- The marks from v on: n of them. -/
def marks : Nat → Int → List Int
  | 0, _ => []
  | n + 1, v => v :: marks n (v + 1)
theorem marks_length : ∀ n v, (marks n v).length = n
  | 0, _ => rfl
  | n + 1, v => by simp [marks, marks_length n]
theorem marks_get : ∀ n v i, i < n → (marks n v)[i]? = some (v + i)
  | 0, _, i, h => by omega
  | n + 1, v, 0, _ => by simp [marks]
  | n + 1, v, i + 1, h => by
    simp only [marks, List.getElem?_cons_succ]
    rw [marks_get n (v + 1) i (by omega)]
    congr 1
    omega
theorem markInt64S_l0 (n : Nat) (v : Int) (hn : n ≤ 4611686018427387904) (h0 : 0 ≤ v) (hv : v ≤ 4611686018427387903) : ∀ (d i : Nat) (l : List Int), n - i = d → i ≤ n → l.length = n → (∀ j, j < i → l[j]? = some (v + j)) →
    Ev (fun k => laws_markInt64S.l0 k l (v + i) i) (v + n, marks n v) := by
  intro d
  induction d with
  | zero =>
    intro i l hd hi hl hj
    have : i = n := by omega
    subst this
    refine Ev.succ ?_
    simp only [laws_markInt64S.l0]
    refine Ev.ite_neg (by omega) ?_
    have : l = marks i v := by
      refine List.ext_getElem? fun j => ?_
      rcases Nat.lt_or_ge j i with h | h
      · rw [hj j h, marks_get i v j h]
      · rw [List.getElem?_eq_none (by omega), List.getElem?_eq_none (by rw [marks_length]; omega)]
    rw [this]
    exact Ev.now _
  | succ d ih =>
    intro i l hd hi hl hj
    refine Ev.succ ?_
    simp only [laws_markInt64S.l0]
    refine Ev.ite_pos (by omega) ?_
    refine Ev.ite_pos (by omega) ?_
    rw [w64 (x := (i : Int) + 1) (by omega) (by omega), w64 (x := v + (i : Int) + 1) (by omega) (by omega), Int.toNat_natCast]
    have := ih (i + 1) (l.set i (v + i)) (by omega) (by omega) (by simpa using hl) (fun j hj' => by
      rcases Nat.lt_or_ge j i with h | h
      · rw [List.getElem?_set_ne (by omega), hj j h]
      · have : j = i := by omega
        subst this
        rw [List.getElem?_set_self (by omega)])
    simpa [Int.add_assoc] using this
theorem markInt64S_ev (l : List Int) (v : Int) (hn : l.length ≤ 4611686018427387904) (h0 : 0 ≤ v) (hv : v ≤ 4611686018427387903) : Ev (fun k => laws_markInt64S.f k l v) (v + l.length, marks l.length v) := by
  unfold laws_markInt64S.f
  have := markInt64S_l0 l.length v hn h0 hv l.length 0 l (by omega) (by omega) rfl (fun j hj => by omega)
  simpa using this
theorem heldInt64S_l0 (n : Nat) (v : Int) (hn : n ≤ 4611686018427387904) (h0 : 0 ≤ v) (hv : v ≤ 4611686018427387903) : ∀ (d i : Nat), n - i = d → i ≤ n →
    Ev (fun k => laws_heldInt64S.l0 k (marks n v) (v + i) i) (v + n) := by
  intro d
  induction d with
  | zero =>
    intro i hd hi
    have : i = n := by omega
    subst this
    refine Ev.succ ?_
    simp only [laws_heldInt64S.l0]
    refine Ev.ite_neg (by rw [marks_length]; omega) ?_
    exact Ev.now _
  | succ d ih =>
    intro i hd hi
    refine Ev.succ ?_
    simp only [laws_heldInt64S.l0]
    refine Ev.ite_pos (by rw [marks_length]; omega) ?_
    refine Ev.ite_pos (by omega) ?_
    refine Ev.ite_pos (by
      have h := marks_get n v i (by omega)
      simp only [rd, Int.toNat_natCast, List.getD_eq_getElem?_getD, h, Option.getD_some]) ?_
    rw [w64 (x := (i : Int) + 1) (by omega) (by omega), w64 (x := v + (i : Int) + 1) (by omega) (by omega)]
    have := ih (i + 1) (by omega) (by omega)
    simpa [Int.add_assoc] using this
theorem heldInt64S_ev (n : Nat) (v : Int) (hn : n ≤ 4611686018427387904) (h0 : 0 ≤ v) (hv : v ≤ 4611686018427387903) : Ev (fun k => laws_heldInt64S.f k (marks n v) v) (v + n) := by
  unfold laws_heldInt64S.f
  have := heldInt64S_l0 n v hn h0 hv n 0 (by omega) (by omega)
  simpa using this

end Go.Proofs.Ytckdinepbgilfaa.P
