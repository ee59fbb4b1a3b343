/- Texts of this seat, merged: QSpecL14Numbered, LNumb, LRes1, LSMelOk, LSRes1, LStabA, LStabB, LCloneP, LIRes1, LIUnits, LStabC. -/
import Derived.Test.YtgdiabfmjcejdaaGBS1
import Derived.Test.YtgdiabfmjcejdaaGBS2
import Derived.Test.YtgdiabfmjcejdaaGBS3
import Derived.Test.YtgdiabfmjcejdaaGBS4
import Derived.Test.YtgdiabfmjcejdaaGBS5
import Derived.Test.YtgdiabfmjcejdaaGBS6
import Derived.Test.YtgdiabfmjcejdaaGBS8
import Derived.Test.YtgdiabfmjcejdaaGBS9
section
namespace Go.Proofs.Ytgdiabfmjcejdaa.P
open Go.RowKit Go.Proofs.YtgdiabfmjcejdaaW.PrintWords Go.Proofs.YtgdiabfmjcejdaaW.PrintLast Go.Proofs.YtgdiabfmjcejdaaW.PrintMore
attribute [local go_sem] max2_int min2_int max_two min_two max_three min_three max_four min_four   -- for this text's walks alone
set_option linter.unusedVariables false
set_option linter.unusedSimpArgs false
/-! ### spec_l14Numbered: function 44 -/
def spec_l14Numbered.l0 : Nat → Int → List Int → List Int → Option (List Int)
  | 0, _, _, _ => none
  | k + 1, x1, x5, x6 => if (x5.length : Int) > 0 then ((spec_l14Factorial.f k (wrap64 ((x5.length : Int) - 1))).bind fun t255 => (if t255 = 0 then (none) else (if 0 ≤ (wrap64 (Int.tdiv x1 t255)) then (if (wrap64 (Int.tdiv x1 t255)) < (x5.length : Int) then (if x6.length < 17592186044416 then (if (wrap64 (Int.tdiv x1 t255)) ≤ (x5.length : Int) then ((spec_l00Own.f (x5.take ((wrap64 (Int.tdiv x1 t255)) : Int).toNat)).bind fun t264 => (if 0 ≤ (wrap64 ((wrap64 (Int.tdiv x1 t255)) + 1)) then (if (wrap64 ((wrap64 (Int.tdiv x1 t255)) + 1)) ≤ (x5.length : Int) then ((some (x5.drop ((wrap64 ((wrap64 (Int.tdiv x1 t255)) + 1)) : Int).toNat : List Int)).bind fun y267 => (if t264.length + y267.length < 17592186044416 then (spec_l14Numbered.l0 k (Int.tmod x1 t255) (t264 ++ y267) (x6 ++ [rd x5 (wrap64 (Int.tdiv x1 t255))])) else (none))) else (none)) else (none))) else (none)) else (none)) else (none)) else (none)))) else (some x6)
end Go.Proofs.Ytgdiabfmjcejdaa.P
end

section
namespace Go.Proofs.Ytgdiabfmjcejdaa.P
open Go.RowKit Go.Proofs.Ytgdiabfmjcejdaa.P Go.Proofs.YtgdiabfmjcejdaaW.PrintWords Go.Proofs.YtgdiabfmjcejdaaW.PrintLast Go.Proofs.YtgdiabfmjcejdaaW.PrintMore
set_option linter.unusedVariables false
set_option linter.unusedSimpArgs false
def insM (x : Int) : List Int → List Int
  | [] => [x]
  | y :: l => if x < y then x :: y :: l else y :: insM x l
theorem insM_perm (x : Int) : ∀ l, (insM x l).Perm (x :: l)
  | [] => List.Perm.refl _
  | y :: l => by
    simp only [insM]
    split
    · exact List.Perm.refl _
    · exact ((insM_perm x l).cons y).trans (List.Perm.swap x y l)
theorem insM_sorted (x : Int) : ∀ l : List Int, l.Pairwise (fun a b => decide (a ≤ b) = true) → (insM x l).Pairwise (fun a b => decide (a ≤ b) = true)
  | [], _ => by simp [insM]
  | y :: l, h => by
    simp only [insM]
    have h1 := List.pairwise_cons.mp h
    split
    · rename_i c
      refine List.pairwise_cons.mpr ⟨fun z hz => ?_, h⟩
      rcases List.mem_cons.mp hz with rfl | hz
      · exact decide_eq_true (by omega)
      · have := of_decide_eq_true (h1.1 z hz)
        exact decide_eq_true (by omega)
    · rename_i c
      refine List.pairwise_cons.mpr ⟨fun z hz => ?_, insM_sorted x l h1.2⟩
      rcases List.mem_cons.mp ((insM_perm x l).mem_iff.mp hz) with rfl | hz
      · exact decide_eq_true (by omega)
      · exact h1.1 z hz
theorem spec_l00Put_done (l : List Int) (x : Int) (hl : l.length ≤ 900) : ∀ (m i : Nat) (out : List Int), l.length - i = m → i ≤ l.length → out.length + m ≤ 1000 → Ev (fun k => spec_l00Put.l0 k l x out true i) (out ++ l.drop i) := by
  intro m
  induction m with
  | zero =>
    intro i out hm hi _
    refine Ev.succ ?_
    simp only [spec_l00Put.l0]
    refine Ev.ite_neg (by omega) (Ev.ite_pos trivial (Ev.cast (Ev.now _) ?_))
    rw [List.drop_of_length_le (by omega), List.append_nil]
  | succ m ih =>
    intro i out hm hi ho
    have hi' : i < l.length := by omega
    refine Ev.succ ?_
    simp only [spec_l00Put.l0]
    refine Ev.ite_pos (by omega) (Ev.ite_pos trivial (Ev.succ ?_))
    simp only [spec_l00Put.j1]
    rw [w64 (x := (i : Int) + 1) (by omega) (by omega)]
    refine Ev.ite_neg (by decide) (Ev.ite_pos (by omega) (Ev.ite_pos (by omega) (Ev.ite_pos (by omega) ?_)))
    have h := ih (i + 1) (out ++ [rd l i]) (by omega) (by omega) (by simp; omega)
    rw [List.drop_eq_getElem_cons hi', ← rd_at hi']
    simpa using h
theorem spec_l00Put_l0 (l : List Int) (x : Int) (hx : x ∉ l) (hl : l.length ≤ 900) : ∀ (m i : Nat) (out : List Int), l.length - i = m → i ≤ l.length → out.length + m ≤ 900 → Ev (fun k => spec_l00Put.l0 k l x out false i) (out ++ insM x (l.drop i)) := by
  intro m
  induction m with
  | zero =>
    intro i out hm hi _
    refine Ev.succ ?_
    simp only [spec_l00Put.l0]
    refine Ev.ite_neg (by omega) (Ev.ite_neg (by decide) (Ev.ite_pos (by omega) (Ev.cast (Ev.now _) ?_)))
    rw [List.drop_of_length_le (by omega)]
    rfl
  | succ m ih =>
    intro i out hm hi ho
    have hi' : i < l.length := by omega
    have hne : rd l i ≠ x := fun e => hx (by rw [← e, rd_at hi']; exact List.getElem_mem hi')
    refine Ev.succ ?_
    simp only [spec_l00Put.l0]
    refine Ev.ite_pos (by omega) (Ev.ite_neg (by decide) (Ev.ite_pos (by omega) (Ev.succ ?_)))
    simp only [spec_l00Put.j1]
    rw [w64 (x := (i : Int) + 1) (by omega) (by omega), List.drop_eq_getElem_cons hi', ← rd_at hi']
    simp only [insM]
    by_cases c : rd l i ≥ x
    · rw [if_pos (show x < rd l i by omega)]
      refine Ev.ite_pos (decide_eq_true c) (Ev.ite_pos (by omega) (Ev.ite_pos (by omega) (Ev.ite_pos (by omega) (Ev.ite_pos (by omega) (Ev.bindc rfl (Ev.ite_pos (by simp; omega) ?_))))))
      have h := spec_l00Put_done l x hl m (i + 1) ((out ++ [x]) ++ [rd l i]) (by omega) (by omega) (by simp; omega)
      simpa using h
    · rw [if_neg (show ¬ x < rd l i by omega)]
      refine Ev.ite_neg (by simpa using c) (Ev.ite_pos (by omega) (Ev.ite_pos (by omega) (Ev.ite_pos (by omega) ?_)))
      have h := ih (i + 1) (out ++ [rd l i]) (by omega) (by omega) (by simp; omega)
      simpa using h
theorem spec_l00Put_ev (l : List Int) (x : Int) (hx : x ∉ l) (hl : l.length ≤ 900) : Ev (fun k => spec_l00Put.f k l x) (insM x l) := by
  unfold spec_l00Put.f
  simpa using spec_l00Put_l0 l x hx hl l.length 0 [] (by omega) (by omega) (by simp; omega)
theorem perm_take_succ {l out : List Int} {i : Nat} (hi : i < l.length) (h : out.Perm (l.take i)) : (insM (rd l i) out).Perm (l.take (i + 1)) := by
  refine (insM_perm _ _).trans ?_
  rw [List.take_succ_eq_append_getElem hi, ← rd_at hi]
  exact (h.cons _).trans (List.perm_append_comm (l₁ := [rd l i]) (l₂ := l.take i))
theorem hasM_iff {l : List Int} {v : Int} : hasM l v = true ↔ v ∈ l := by
  simp only [hasM, List.any_eq_true, decide_eq_true_eq]
  exact ⟨fun ⟨x, h, e⟩ => e ▸ h, fun h => ⟨v, h, rfl⟩⟩
def srtM (l : List Int) : List Int := l.mergeSort (fun x y => decide (x ≤ y))
theorem srtM_length (l : List Int) : (srtM l).length = l.length := List.length_mergeSort l
def res1 (d : Int) : Int := if d = 0 then 6 else if d = 12 then 5 else if d = 19 then 4 else if d = 24 then 3 else if d = 28 then 2 else if d = 31 then 1 else 0
theorem res1_bound (d : Int) : 0 ≤ res1 d ∧ res1 d ≤ 6 := by
  unfold res1
  repeat' split
  all_goals omega
theorem spec_l09Length_eq (n : Int) : spec_l09Length.f n = some (decide (1 ≤ n) && decide (n ≤ 64)) := by
  unfold spec_l09Length.f
  rw [spec_l00In_eq]
  rfl
theorem spec_l09Ok_l0 (l : List S84) (hl : l.length ≤ 9223372036854775807) : ∀ (d i : Nat), l.length - i = d → Ev (fun k => spec_l09Ok.l0 k l i) ((l.drop i).all okN && decide (l.length ≤ 48)) := by
  intro d
  induction d with
  | zero =>
    intro i hd
    refine Ev.succ ?_
    simp only [spec_l09Ok.l0]
    refine Ev.ite_neg (by omega) ?_
    rw [List.drop_of_length_le (by omega)]
    refine Ev.cast (Ev.now _) ?_
    simp
    omega
  | succ d ih =>
    intro i hd
    refine Ev.succ ?_
    simp only [spec_l09Ok.l0]
    refine Ev.ite_pos (by omega) ?_
    refine Ev.ite_pos (by omega) ?_
    refine Ev.bindc (spec_l03Pitch_eq _) ?_
    rw [alln_drop_at okN (by omega)]
    cases hp : inP (rd_T84 l i).f0 with
    | false =>
      refine Ev.ite_neg (by decide) ?_
      refine Ev.cast (Ev.now false) ?_
      simp [okN, hp]
    | true =>
      refine Ev.ite_pos rfl ?_
      refine Ev.bindc (spec_l09Length_eq _) ?_
      cases hq : (decide (1 ≤ (rd_T84 l i).f1) && decide ((rd_T84 l i).f1 ≤ 64)) with
      | false =>
        refine Ev.ite_neg (by decide) ?_
        refine Ev.cast (Ev.now false) ?_
        simp [okN, hq]
      | true =>
        refine Ev.ite_pos rfl ?_
        rw [w64 (x := (i : Int) + 1) (by omega) (by omega)]
        refine Ev.cast (by simpa using ih (i + 1) (by omega)) ?_
        simp [okN, hp, hq]
theorem spec_l09Ok_ev (l : List S84) (hl : l.length ≤ 9223372036854775807) : Ev (fun k => spec_l09Ok.f k l) (melB l) := by
  unfold spec_l09Ok.f melB
  simpa using spec_l09Ok_l0 l hl l.length 0 (by omega)
theorem spec_l16String_ev (s p : Int) (hs : -1000 ≤ s ∧ s ≤ 1000) (hp : -1000 ≤ p ∧ p ≤ 1000) : Ev (fun k => spec_l16String.f k s p) (res1 (s - p)) := by
  unfold spec_l16String.f
  have st : ∀ (i : Nat) (r : Int), i < 6 → Ev (fun k => spec_l16String.l0 k s p [0, 12, 19, 24, 28, 31] ((i + 1 : Nat) : Int)) r → Ev (fun k => spec_l16String.l0 k s p [0, 12, 19, 24, 28, 31] (i : Int)) (if s - p = rd [0, 12, 19, 24, 28, 31] (i : Int) then 6 - (i : Int) else r) := by
    intro i r hi h
    have hb : 0 ≤ rd [0, 12, 19, 24, 28, 31] (i : Int) ∧ rd [0, 12, 19, 24, 28, 31] (i : Int) ≤ 31 := by
      have : i = 0 ∨ i = 1 ∨ i = 2 ∨ i = 3 ∨ i = 4 ∨ i = 5 := by omega
      rcases this with rfl | rfl | rfl | rfl | rfl | rfl <;> simp [rd]
    refine Ev.succ ?_
    simp only [spec_l16String.l0]
    refine Ev.ite_pos (by omega) (Ev.ite_pos (by omega) (Ev.ite_pos (by simp; omega) ?_))
    rw [w64 (x := p + _) (by omega) (by omega), w64 (x := 6 - (i : Int)) (by omega) (by omega), w64 (x := (i : Int) + 1) (by omega) (by omega)]
    by_cases hc : s - p = rd [0, 12, 19, 24, 28, 31] (i : Int)
    · rw [if_pos hc]
      exact Ev.ite_pos (by omega) (Ev.now _)
    · rw [if_neg hc]
      exact Ev.ite_neg (by omega) (by simpa using h)
  have e6 : Ev (fun k => spec_l16String.l0 k s p [0, 12, 19, 24, 28, 31] ((6 : Nat) : Int)) 0 := by
    refine Ev.succ ?_
    simp only [spec_l16String.l0]
    exact Ev.ite_neg (by omega) (Ev.now _)
  have := st 0 _ (by omega) (st 1 _ (by omega) (st 2 _ (by omega) (st 3 _ (by omega) (st 4 _ (by omega) (st 5 _ (by omega) e6)))))
  refine Ev.cast (by simpa using this) ?_
  simp [rd, res1]
theorem rd_md (A : List Int) (x : Int) (B : List Int) (i : Int) (hi : i = (A.length : Int)) : rd (A ++ x :: B) i = x := by
  subst hi
  simp [rd]
theorem set_md (A : List Int) (x v : Int) (B : List Int) (i : Nat) (hi : i = A.length) : (A ++ x :: B).set i v = A ++ v :: B := by
  subst hi
  simp
theorem sw_mid (A M B : List Int) (x y : Int) (i j : Int) (hi : i = (A.length : Int)) (hj : j = (A.length : Int) + 1 + (M.length : Int)) : sw (A ++ x :: (M ++ y :: B)) i j = A ++ y :: (M ++ x :: B) := by
  unfold sw
  have e1 : rd (A ++ x :: (M ++ y :: B)) j = y := by
    have := rd_md (A ++ x :: M) y B j (by simp; omega)
    simpa using this
  rw [e1, rd_md A x _ i hi, set_md A x y _ i.toNat (by omega)]
  have := set_md (A ++ y :: M) y x B j.toNat (by simp; omega)
  simpa using this
theorem sw_com (xs : List Int) (i j : Int) (hne : i.toNat ≠ j.toNat) : sw xs i j = sw xs j i := by
  unfold sw
  rw [List.set_comm _ _ hne]
theorem swapRange_l0 (m a b : Int) (ha : 0 ≤ a) : ∀ (X Y P M Q : List Int) (i : Nat), X.length = Y.length → (P.length : Int) = a + i → (P.length : Int) + X.length + M.length = b + i → (i : Int) + X.length = m → Ev (fun k => slices_swapRangeCmpFunc_int64.l0 k (P ++ X ++ M ++ Y ++ Q) a b m i) (P ++ Y ++ M ++ X ++ Q) := by
  intro X
  induction X with
  | nil =>
    intro Y P M Q i hl hp hb hm
    have : Y = [] := List.eq_nil_of_length_eq_zero hl.symm
    subst this
    refine Ev.succ ?_
    simp only [slices_swapRangeCmpFunc_int64.l0]
    simp only [List.length_nil] at hm
    exact Ev.ite_neg (by omega) (Ev.now _)
  | cons x X ih =>
    intro Y P M Q i hl hp hb hm
    cases Y with
    | nil => simp at hl
    | cons y Y =>
      simp only [List.length_cons] at hl hb hm
      refine Ev.succ ?_
      simp only [slices_swapRangeCmpFunc_int64.l0]
      refine Ev.ite_pos (by omega) (Ev.ite_pos (by simp; omega) ?_)
      have e : sw (P ++ (x :: X) ++ M ++ (y :: Y) ++ Q) (a + i) (b + i) = (P ++ [y]) ++ X ++ (M ++ [x]) ++ Y ++ Q := by
        have := sw_mid P (X ++ M) (Y ++ Q) x y (a + i) (b + i) (by omega) (by simp; omega)
        simpa using this
      rw [e]
      have := ih Y (P ++ [y]) (M ++ [x]) Q (i + 1) (by omega) (by simp; omega) (by simp; omega) (by omega)
      simpa using this
theorem swapRange_ev (X Y P M Q : List Int) (a b n : Int) (hl : X.length = Y.length) (ha : a = P.length) (hb : b = (P.length : Int) + X.length + M.length) (hn : n = X.length) : Ev (fun k => slices_swapRangeCmpFunc_int64.f k (P ++ X ++ M ++ Y ++ Q) a b n) (P ++ Y ++ M ++ X ++ Q) := by
  unfold slices_swapRangeCmpFunc_int64.f
  exact swapRange_l0 n a b (by omega) X Y P M Q 0 hl (by omega) (by omega) (by omega)
theorem rotate_l0 (m : Int) : ∀ (d : Nat) (X Y P Q : List Int) (i j : Int), X.length + Y.length ≤ d → 0 < X.length → 0 < Y.length → (P.length : Int) + X.length = m → i = X.length → j = Y.length → Ev (fun k => slices_rotateCmpFunc_int64.l0 k (P ++ X ++ Y ++ Q) m i j) (P ++ Y ++ X ++ Q) := by
  intro d
  induction d with
  | zero => intro X Y P Q i j h1 h2; omega
  | succ d ih =>
    intro X Y P Q i j hd hx hy hm hi hj
    refine Ev.succ ?_
    simp only [slices_rotateCmpFunc_int64.l0]
    refine Ev.ite_pos (by simp; omega) ?_
    by_cases h1 : i = j
    · refine Ev.ite_pos h1 ?_
      simpa using swapRange_ev X Y P [] Q (m - i) m i (by omega) (by omega) (by simp; omega) hi
    refine Ev.ite_neg h1 ?_
    by_cases h2 : j < i
    · refine Ev.ite_pos h2 ?_
      obtain ⟨X1, X2, rfl, h3⟩ : ∃ X1 X2, X = X1 ++ X2 ∧ X1.length = Y.length := ⟨X.take Y.length, X.drop Y.length, (List.take_append_drop _ _).symm, by simp; omega⟩
      simp only [List.length_append] at hd hx hm hi
      refine Ev.bind (by simpa using swapRange_ev X1 Y P X2 Q (m - i) m j h3 (by omega) (by omega) (by omega)) ?_
      simpa using ih X2 X1 (P ++ Y) Q (i - j) j (by omega) (by omega) (by omega) (by simp; omega) (by omega) (by omega)
    · refine Ev.ite_neg h2 ?_
      obtain ⟨Y1, Y2, rfl, h3⟩ : ∃ Y1 Y2, Y = Y1 ++ Y2 ∧ Y2.length = X.length := ⟨Y.take (Y.length - X.length), Y.drop (Y.length - X.length), (List.take_append_drop _ _).symm, by simp; omega⟩
      simp only [List.length_append] at hd hy hj
      refine Ev.bind (by simpa using swapRange_ev X Y2 P Y1 Q (m - i) (m + j - i) i h3.symm (by omega) (by omega) (by omega)) ?_
      simpa using ih Y2 Y1 P (X ++ Q) i (j - i) (by omega) (by omega) (by omega) (by omega) (by omega) (by omega)
theorem rotate_ev (X Y P Q : List Int) (a m b : Int) (hx : 0 < X.length) (hy : 0 < Y.length) (ha : a = P.length) (hm : m = (P.length : Int) + X.length) (hb : b = (P.length : Int) + X.length + Y.length) : Ev (fun k => slices_rotateCmpFunc_int64.f k (P ++ X ++ Y ++ Q) a m b) (P ++ Y ++ X ++ Q) := by
  unfold slices_rotateCmpFunc_int64.f
  refine Ev.ite_pos (by simp; omega) ?_
  exact rotate_l0 m _ X Y P Q (m - a) (b - m) (Nat.le_refl _) hx hy hm.symm (by omega) (by omega)
/-- x goes ahead of y: it is worth more, or as much and lower. -/
def TT (K : Int → Int) (x y : Int) : Prop := K y < K x ∨ (K x = K y ∧ x < y)
def cfK (K : Int → Int) (a b : Int) : Int := cmpI (K b) (K a)
theorem cfK_neg (K : Int → Int) (a b : Int) : cfK K a b < 0 ↔ K b < K a := by
  unfold cfK cmpI
  split
  · simp; omega
  · split <;> simp <;> omega
def insR (K : Int → Int) (v : Int) : List Int → List Int
  | [] => [v]
  | s :: rs => if K s < K v then s :: insR K v rs else v :: s :: rs
def isort (K : Int → Int) : List Int → List Int → List Int
  | S, [] => S
  | S, v :: vs => isort K (insR K v S) vs
theorem insR_perm (K : Int → Int) (v : Int) : ∀ S, (insR K v S).Perm (v :: S)
  | [] => List.Perm.refl _
  | s :: rs => by
    unfold insR
    split
    · exact ((insR_perm K v rs).cons s).trans (List.Perm.swap v s rs)
    · exact List.Perm.refl _
theorem isort_perm (K : Int → Int) : ∀ vs S, (isort K S vs).Perm (S ++ vs)
  | [], S => by simp [isort]
  | v :: vs, S => by
    unfold isort
    refine (isort_perm K vs _).trans (((insR_perm K v S).append_right vs).trans ?_)
    exact (List.perm_middle (a := v) (l₁ := S) (l₂ := vs)).symm
theorem insR_sorted (K : Int → Int) (v : Int) : ∀ S, S.Pairwise (fun x y => TT K y x) → (∀ s ∈ S, s < v) → (insR K v S).Pairwise (fun x y => TT K y x)
  | [], _, _ => by simp [insR]
  | s :: rs, h, hv => by
    obtain ⟨h1, h2⟩ := List.pairwise_cons.1 h
    unfold insR
    by_cases c : K s < K v
    · rw [if_pos c]
      refine List.pairwise_cons.2 ⟨fun y hy => ?_, insR_sorted K v rs h2 (fun z hz => hv z (List.mem_cons_of_mem _ hz))⟩
      rcases List.mem_cons.1 ((insR_perm K v rs).mem_iff.1 hy) with rfl | hy
      · exact .inl c
      · exact h1 y hy
    · rw [if_neg c]
      refine List.pairwise_cons.2 ⟨fun y hy => ?_, h⟩
      have hyv := hv y hy
      have : K v ≤ K y := by
        rcases List.mem_cons.1 hy with rfl | hy
        · omega
        · rcases h1 y hy with q | q <;> omega
      unfold TT
      omega
theorem isort_sorted (K : Int → Int) : ∀ vs S, S.Pairwise (fun x y => TT K y x) → vs.Pairwise (fun x y => x < y) → (∀ s ∈ S, ∀ v ∈ vs, s < v) → (isort K S vs).Pairwise (fun x y => TT K y x)
  | [], S, h, _, _ => by simpa [isort] using h
  | v :: vs, S, h, hv, hs => by
    obtain ⟨h1, h2⟩ := List.pairwise_cons.1 hv
    unfold isort
    refine isort_sorted K vs _ (insR_sorted K v S h (fun s hm => hs s hm v List.mem_cons_self)) h2 (fun s hm u hu => ?_)
    rcases List.mem_cons.1 ((insR_perm K v S).mem_iff.1 hm) with rfl | hm
    · exact h1 u hu
    · exact hs s hm u (List.mem_cons_of_mem _ hu)
theorem ins_l1 (K : Int → Int) (a b i : Int) (r : List Int) : ∀ (rs P R : List Int) (v j : Int), (P.length : Int) = a → j = a + rs.length → i < (P.length : Int) + rs.length + 1 + R.length → Ev (fun k => slices_insertionSortCmpFunc_int64.l0 k (cfK K) (P ++ (insR K v rs).reverse ++ R) a b (i + 1)) r → Ev (fun k => slices_insertionSortCmpFunc_int64.l1 k (cfK K) (P ++ rs.reverse ++ v :: R) a b i j) r := by
  intro rs
  induction rs with
  | nil =>
    intro P R v j ha hj hi h
    refine Ev.succ ?_
    simp only [slices_insertionSortCmpFunc_int64.l1]
    simp only [List.length_nil] at hj hi
    refine Ev.ite_pos (by simp; omega) (Ev.ite_neg (by omega) ?_)
    simpa [insR] using h
  | cons s rs ih =>
    intro P R v j ha hj hi h
    simp only [List.length_cons] at hj hi
    have e0 : P ++ (s :: rs).reverse ++ v :: R = (P ++ rs.reverse) ++ s :: ([] ++ v :: R) := by simp
    have e1 : rd (P ++ (s :: rs).reverse ++ v :: R) j = v := rd_md _ _ _ _ (by simp; omega)
    have e2 : rd (P ++ (s :: rs).reverse ++ v :: R) (j - 1) = s := by rw [e0]; exact rd_md _ _ _ _ (by simp; omega)
    refine Ev.succ ?_
    simp only [slices_insertionSortCmpFunc_int64.l1]
    refine Ev.ite_pos (by simp; omega) (Ev.ite_pos (by omega) (Ev.ite_pos (by simp; omega) ?_))
    rw [e1, e2]
    unfold insR at h
    by_cases c : K s < K v
    · rw [if_pos c] at h
      refine Ev.ite_pos ((cfK_neg K v s).2 c) ?_
      rw [sw_com _ _ _ (by omega), e0, sw_mid (P ++ rs.reverse) [] R s v (j - 1) j (by simp; omega) (by simp; omega)]
      exact ih P (s :: R) v (j - 1) ha (by omega) (by simp; omega) (by simpa using h)
    · rw [if_neg c] at h
      refine Ev.ite_neg (fun h_ => c ((cfK_neg K v s).1 h_)) ?_
      simpa using h
theorem insR_length (K : Int → Int) (v : Int) (S : List Int) : (insR K v S).length = S.length + 1 := (insR_perm K v S).length_eq
theorem ins_l0 (K : Int → Int) (a b : Int) : ∀ (vs S P Q : List Int) (i : Int), (P.length : Int) = a → i = a + S.length → i + vs.length = b → Ev (fun k => slices_insertionSortCmpFunc_int64.l0 k (cfK K) (P ++ S.reverse ++ vs ++ Q) a b i) (P ++ (isort K S vs).reverse ++ Q) := by
  intro vs
  induction vs with
  | nil =>
    intro S P Q i ha hi hb
    refine Ev.succ ?_
    simp only [slices_insertionSortCmpFunc_int64.l0]
    simp only [List.length_nil] at hb
    refine Ev.ite_neg (by omega) ?_
    simpa [isort] using Ev.now _
  | cons v vs ih =>
    intro S P Q i ha hi hb
    simp only [List.length_cons] at hb
    refine Ev.succ ?_
    simp only [slices_insertionSortCmpFunc_int64.l0]
    refine Ev.ite_pos (by omega) ?_
    have h := ih (insR K v S) P Q (i + 1) ha (by rw [insR_length]; omega) (by omega)
    have := ins_l1 K a b i _ S P (vs ++ Q) v i ha hi (by simp; omega) (by simpa using h)
    simpa [isort] using this
theorem ins_ev (K : Int → Int) (x : Int) (vs P Q : List Int) (a b : Int) (ha : a = P.length) (hb : b = (P.length : Int) + 1 + vs.length) : Ev (fun k => slices_insertionSortCmpFunc_int64.f k (cfK K) (P ++ x :: (vs ++ Q)) a b) (P ++ (isort K [x] vs).reverse ++ Q) := by
  unfold slices_insertionSortCmpFunc_int64.f
  refine Ev.ite_pos (by simp; omega) ?_
  simpa using ins_l0 K a b vs [x] P Q (a + 1) ha.symm (by simp) (by omega)
/-- A search by halves: the first place at which a falling property no longer holds. -/
theorem halves {α : Type} (Pd : Int → Prop) [DecidablePred Pd] (lo hi : Int) (F : Nat → Int → Int → Option α) (G : Nat → Int → Option α)
    (hF : ∀ k i j, lo ≤ i → i ≤ j → j ≤ hi → F (k + 1) i j = if i < j then (if Pd ((i + j) / 2) then F k ((i + j) / 2 + 1) j else F k i ((i + j) / 2)) else G k i)
    (hm : ∀ s t, lo ≤ s → s ≤ t → t < hi → Pd t → Pd s) : ∀ (d : Nat) (i j : Int), (j - i).toNat ≤ d → lo ≤ i → i ≤ j → j ≤ hi → (∀ t, lo ≤ t → t < i → Pd t) → (∀ t, j ≤ t → t < hi → ¬ Pd t) →
    ∃ p, lo ≤ p ∧ p ≤ hi ∧ (∀ t, lo ≤ t → t < p → Pd t) ∧ (∀ t, p ≤ t → t < hi → ¬ Pd t) ∧ ∀ r, Ev (fun k => G k p) r → Ev (fun k => F k i j) r := by
  intro d
  induction d with
  | zero =>
    intro i j hd h1 h2 h3 h4 h5
    refine ⟨i, h1, by omega, h4, fun t ht => h5 t (by omega), fun r hr => Ev.succ ?_⟩
    refine Ev.congr (fun k => hF k i j h1 h2 h3) ?_
    exact Ev.ite_neg (by omega) hr
  | succ d ih =>
    intro i j hd h1 h2 h3 h4 h5
    by_cases hij : i < j
    · by_cases hp : Pd ((i + j) / 2)
      · obtain ⟨p, q1, q2, q3, q4, q5⟩ := ih ((i + j) / 2 + 1) j (by omega) (by omega) (by omega) h3 (fun t ha hb => hm t ((i + j) / 2) ha (by omega) (by omega) hp) h5
        refine ⟨p, q1, q2, q3, q4, fun r hr => Ev.succ ?_⟩
        refine Ev.congr (fun k => hF k i j h1 h2 h3) ?_
        exact Ev.ite_pos hij (Ev.ite_pos hp (q5 r hr))
      · obtain ⟨p, q1, q2, q3, q4, q5⟩ := ih i ((i + j) / 2) (by omega) h1 (by omega) (by omega) h4 (fun t ha hb hc => hp (hm ((i + j) / 2) t (by omega) ha hb hc))
        refine ⟨p, q1, q2, q3, q4, fun r hr => Ev.succ ?_⟩
        refine Ev.congr (fun k => hF k i j h1 h2 h3) ?_
        exact Ev.ite_pos hij (Ev.ite_neg hp (q5 r hr))
    · refine ⟨i, h1, by omega, h4, fun t ht => h5 t (by omega), fun r hr => Ev.succ ?_⟩
      refine Ev.congr (fun k => hF k i j h1 h2 h3) ?_
      exact Ev.ite_neg (by omega) hr
theorem sym_l1 (x : Int) : ∀ (B P R : List Int) (lim q : Int), q = P.length → lim = (P.length : Int) + 1 + B.length → Ev (fun k => slices_symMergeCmpFunc_int64.l1 k (P ++ x :: (B ++ R)) lim q) (P ++ B ++ x :: R) := by
  intro B
  induction B with
  | nil =>
    intro P R lim q hq hl
    simp only [List.length_nil] at hl
    refine Ev.succ ?_
    simp only [slices_symMergeCmpFunc_int64.l1]
    refine Ev.ite_pos (by simp; omega) (Ev.ite_neg (by omega) ?_)
    simpa using Ev.now _
  | cons y B ih =>
    intro P R lim q hq hl
    simp only [List.length_cons] at hl
    refine Ev.succ ?_
    simp only [slices_symMergeCmpFunc_int64.l1]
    refine Ev.ite_pos (by simp; omega) (Ev.ite_pos (by omega) ?_)
    have e : sw (P ++ x :: (y :: B ++ R)) q (q + 1) = (P ++ [y]) ++ x :: (B ++ R) := by
      have := sw_mid P [] (B ++ R) x y q (q + 1) hq (by simp; omega)
      simpa using this
    rw [e]
    simpa using ih (P ++ [y]) R lim (q + 1) (by simp; omega) (by simp; omega)
theorem sym_l3 (y : Int) : ∀ (rs P R : List Int) (lim q : Int), lim = P.length → q = (P.length : Int) + rs.length → Ev (fun k => slices_symMergeCmpFunc_int64.l3 k (P ++ rs.reverse ++ y :: R) lim q) (P ++ y :: (rs.reverse ++ R)) := by
  intro rs
  induction rs with
  | nil =>
    intro P R lim q hl hq
    simp only [List.length_nil] at hq
    refine Ev.succ ?_
    simp only [slices_symMergeCmpFunc_int64.l3]
    refine Ev.ite_pos (by simp; omega) (Ev.ite_neg (by omega) ?_)
    simpa using Ev.now _
  | cons s rs ih =>
    intro P R lim q hl hq
    simp only [List.length_cons] at hq
    refine Ev.succ ?_
    simp only [slices_symMergeCmpFunc_int64.l3]
    refine Ev.ite_pos (by simp; omega) (Ev.ite_pos (by omega) ?_)
    have e : sw (P ++ (s :: rs).reverse ++ y :: R) q (q - 1) = P ++ rs.reverse ++ y :: (s :: R) := by
      rw [sw_com _ _ _ (by omega)]
      have := sw_mid (P ++ rs.reverse) [] R s y (q - 1) q (by simp; omega) (by simp; omega)
      simpa using this
    rw [e]
    simpa using ih P (s :: R) lim (q - 1) hl (by omega)
theorem rd_left (A B : List Int) (i : Int) (h0 : 0 ≤ i) (h1 : i < A.length) : rd (A ++ B) i = rd A i := by
  unfold rd
  rw [List.getD_eq_getElem?_getD, List.getD_eq_getElem?_getD, List.getElem?_append_left (by omega)]
theorem rd_right (A B : List Int) (i j : Int) (h0 : 0 ≤ j) (h1 : i = (A.length : Int) + j) : rd (A ++ B) i = rd B j := by
  unfold rd
  rw [List.getD_eq_getElem?_getD, List.getD_eq_getElem?_getD, List.getElem?_append_right (by omega), show i.toNat - A.length = j.toNat by omega]
theorem mem_rd {A : List Int} {x : Int} (h : x ∈ A) : ∃ i : Int, 0 ≤ i ∧ i < A.length ∧ rd A i = x := by
  obtain ⟨n, hn, rfl⟩ := List.getElem_of_mem h
  refine ⟨n, by omega, by omega, ?_⟩
  unfold rd
  rw [List.getD_eq_getElem?_getD, Int.toNat_natCast, List.getElem?_eq_getElem hn]
  rfl
theorem TT_rd {K : Int → Int} {A : List Int} (h : A.Pairwise (TT K)) {i j : Int} (h0 : 0 ≤ i) (h1 : i < j) (h2 : j < A.length) : TT K (rd A i) (rd A j) := by
  have := List.pairwise_iff_getElem.1 h i.toNat j.toNat (by omega) (by omega) (by omega)
  unfold rd
  rw [List.getD_eq_getElem?_getD, List.getD_eq_getElem?_getD, List.getElem?_eq_getElem (by omega), List.getElem?_eq_getElem (by omega)]
  exact this
theorem TT_le {K : Int → Int} {x y : Int} (h : TT K x y) : K y ≤ K x := by
  unfold TT at h
  omega
theorem TT_rdle {K : Int → Int} {A : List Int} (h : A.Pairwise (TT K)) {i j : Int} (h0 : 0 ≤ i) (h1 : i ≤ j) (h2 : j < A.length) : K (rd A j) ≤ K (rd A i) := by
  by_cases e : i = j
  · subst e; exact Int.le_refl _
  · exact TT_le (TT_rd h h0 (by omega) h2)
theorem TT_trans {K : Int → Int} {x y z : Int} (h : TT K x y) (k : TT K y z) : TT K x z := by
  unfold TT at *
  omega
theorem cut_at (A : List Int) (n : Int) (h0 : 0 ≤ n) (h1 : n ≤ A.length) : ∃ X Y, A = X ++ Y ∧ (X.length : Int) = n := ⟨A.take n.toNat, A.drop n.toNat, (List.take_append_drop _ _).symm, by simp; omega⟩
/-- One element ahead of a run. -/
theorem sym_one (K : Int → Int) (x : Int) (B P Q : List Int) (a m b : Int) (ha : a = P.length) (hm : m = a + 1) (hb : b = m + B.length) (hB : B.Pairwise (TT K)) (hx : ∀ y ∈ B, x < y) :
    ∃ M, M.Perm (x :: B) ∧ M.Pairwise (TT K) ∧ Ev (fun k => slices_symMergeCmpFunc_int64.l0 k (cfK K) (P ++ x :: (B ++ Q)) a m b) (P ++ M ++ Q) := by
  have hr : ∀ t, m ≤ t → t < b → rd (P ++ x :: (B ++ Q)) t = rd B (t - m) := fun t h1 h2 => by
    rw [rd_right P _ t (t - a) (by omega) (by omega), show x :: (B ++ Q) = [x] ++ (B ++ Q) from rfl, rd_right [x] _ (t - a) (t - m) (by omega) (by simp; omega), rd_left B Q _ (by omega) (by omega)]
  have ha2 : rd (P ++ x :: (B ++ Q)) a = x := rd_md P x _ a ha
  obtain ⟨p, p1, p2, p3, p4, p5⟩ := halves (fun t => K x < K (rd B (t - m))) m b (fun k i j => slices_symMergeCmpFunc_int64.l0 k (cfK K) (P ++ x :: (B ++ Q)) a i j) (fun k i => slices_symMergeCmpFunc_int64.l1 k (P ++ x :: (B ++ Q)) i a)
    (fun k i j h1 h2 h3 => by
      simp only [slices_symMergeCmpFunc_int64.l0]
      rw [if_pos (by simp; omega)]
      by_cases hij : i < j
      · rw [if_pos hij, if_pos hij, hr _ (by omega) (by omega), ha2]
        simp only [cfK_neg]
      · rw [if_neg hij, if_neg hij])
    (fun s t h1 h2 h3 h4 => by
      have := TT_rdle hB (i := s - m) (j := t - m) (by omega) (by omega) (by omega)
      show K x < K (rd B (s - m))
      have h4' : K x < K (rd B (t - m)) := h4
      omega)
    (b - m).toNat m b (Nat.le_refl _) (Int.le_refl _) (by omega) (Int.le_refl _) (fun t h1 h2 => by omega) (fun t h1 h2 => by omega)
  obtain ⟨B1, B2, rfl, hB1⟩ := cut_at B (p - m) (by omega) (by omega)
  refine ⟨B1 ++ x :: B2, List.perm_middle, ?_, ?_⟩
  · obtain ⟨s1, s2, s3⟩ := List.pairwise_append.1 hB
    refine List.pairwise_append.2 ⟨s1, List.pairwise_cons.2 ⟨fun y hy => ?_, s2⟩, fun u hu y hy => ?_⟩
    · obtain ⟨i, i0, i1, rfl⟩ := mem_rd hy
      have h1 : ¬ K x < K (rd (B1 ++ B2) (p + i - m)) := p4 (p + i) (by omega) (by simp at hb; omega)
      rw [rd_right B1 B2 _ i i0 (by omega)] at h1
      have h2 := hx _ (List.mem_append_right _ hy)
      unfold TT
      omega
    · rcases List.mem_cons.1 hy with rfl | hy
      · obtain ⟨i, i0, i1, rfl⟩ := mem_rd hu
        have h1 : K y < K (rd (B1 ++ B2) (m + i - m)) := p3 (m + i) (by omega) (by omega)
        rw [show m + i - m = i by omega, rd_left B1 B2 i i0 i1] at h1
        exact .inl h1
      · exact s3 u hu y hy
  · refine p5 _ ?_
    have := sym_l1 x B1 P (B2 ++ Q) p a ha (by omega)
    simpa using this
/-- One element behind a run. -/
theorem sym_last (K : Int → Int) (y : Int) (A P Q : List Int) (a m : Int) (ha : a = P.length) (hm : m = a + A.length) (hA : A.Pairwise (TT K)) (hx : ∀ x ∈ A, x < y) :
    ∃ M, M.Perm (A ++ [y]) ∧ M.Pairwise (TT K) ∧ Ev (fun k => slices_symMergeCmpFunc_int64.l2 k (cfK K) (P ++ A ++ y :: Q) m a m) (P ++ M ++ Q) := by
  have hr : ∀ t, a ≤ t → t < m → rd (P ++ A ++ y :: Q) t = rd A (t - a) := fun t h1 h2 => by
    rw [List.append_assoc, rd_right P _ t (t - a) (by omega) (by omega), rd_left A _ _ (by omega) (by omega)]
  have ha2 : rd (P ++ A ++ y :: Q) m = y := rd_md (P ++ A) y _ m (by simp; omega)
  obtain ⟨p, p1, p2, p3, p4, p5⟩ := halves (fun t => ¬ K (rd A (t - a)) < K y) a m (fun k i j => slices_symMergeCmpFunc_int64.l2 k (cfK K) (P ++ A ++ y :: Q) m i j) (fun k i => slices_symMergeCmpFunc_int64.l3 k (P ++ A ++ y :: Q) i m)
    (fun k i j h1 h2 h3 => by
      simp only [slices_symMergeCmpFunc_int64.l2]
      rw [if_pos (by simp; omega)]
      by_cases hij : i < j
      · rw [if_pos hij, if_pos hij, ha2, hr ((i + j) / 2) (by omega) (by omega)]
        simp only [cfK_neg]
        by_cases hc : K (rd A ((i + j) / 2 - a)) < K y
        · rw [if_pos hc, if_neg (not_not_intro hc)]
        · rw [if_neg hc, if_pos hc]
      · rw [if_neg hij, if_neg hij])
    (fun s t h1 h2 h3 h4 => by
      have := TT_rdle hA (i := s - a) (j := t - a) (by omega) (by omega) (by omega)
      show ¬ K (rd A (s - a)) < K y
      have h4' : ¬ K (rd A (t - a)) < K y := h4
      omega)
    (m - a).toNat a m (Nat.le_refl _) (Int.le_refl _) (by omega) (Int.le_refl _) (fun t h1 h2 => by omega) (fun t h1 h2 => by omega)
  obtain ⟨A1, A2, rfl, hA1⟩ := cut_at A (p - a) (by omega) (by omega)
  simp only [List.length_append] at hm
  refine ⟨A1 ++ y :: A2, ?_, ?_, ?_⟩
  · rw [List.append_assoc]
    exact (List.Perm.append_left A1 (List.perm_append_comm (l₁ := [y]) (l₂ := A2)))
  · obtain ⟨s1, s2, s3⟩ := List.pairwise_append.1 hA
    refine List.pairwise_append.2 ⟨s1, List.pairwise_cons.2 ⟨fun z hz => ?_, s2⟩, fun u hu z hz => ?_⟩
    · obtain ⟨i, i0, i1, rfl⟩ := mem_rd hz
      have h1 : ¬ ¬ K (rd (A1 ++ A2) (p + i - a)) < K y := p4 (p + i) (by omega) (by omega)
      rw [rd_right A1 A2 _ i i0 (by omega)] at h1
      exact .inl (Classical.not_not.1 h1)
    · rcases List.mem_cons.1 hz with rfl | hz
      · have h2 := hx _ (List.mem_append_left _ hu)
        obtain ⟨i, i0, i1, rfl⟩ := mem_rd hu
        have h1 : ¬ K (rd (A1 ++ A2) (a + i - a)) < K z := p3 (a + i) (by omega) (by omega)
        rw [show a + i - a = i by omega, rd_left A1 A2 i i0 i1] at h1
        unfold TT
        omega
      · exact s3 u hu z hz
  · refine p5 _ ?_
    have := sym_l3 y A2.reverse (P ++ A1) Q p m (by simp; omega) (by simp; omega)
    simpa using this
theorem slices_Clone_eq (l : List Int) (h : l.length < 17592186044416) : slices_Clone_int64_int64.f l = some l := by
  unfold slices_Clone_int64_int64.f
  simp only [Option.bind_some, List.nil_append, List.length_nil, Nat.zero_add]
  rw [if_pos h]
theorem slices_Index_res (x : Int) : ∃ r, (if r ≥ 0 then 6 - r else 0) = res1 x ∧ -1 ≤ r ∧ r ≤ 5 ∧ Ev (fun k => slices_Index_int64_int64.f k [0, 12, 19, 24, 28, 31] x) r := by
  unfold slices_Index_int64_int64.f
  have st : ∀ (i : Nat) (r : Int), i < 6 → Ev (fun k => slices_Index_int64_int64.l0 k [0, 12, 19, 24, 28, 31] x (([0, 12, 19, 24, 28, 31] : List Int).length : Int) ((i + 1 : Nat) : Int)) r → Ev (fun k => slices_Index_int64_int64.l0 k [0, 12, 19, 24, 28, 31] x (([0, 12, 19, 24, 28, 31] : List Int).length : Int) (i : Int)) (if x = rd [0, 12, 19, 24, 28, 31] (i : Int) then (i : Int) else r) := by
    intro i r hi h
    refine Ev.succ ?_
    simp only [slices_Index_int64_int64.l0]
    refine Ev.ite_pos (by simp; omega) (Ev.ite_pos (by omega) (Ev.ite_pos (by simp; omega) ?_))
    rw [w64 (x := (i : Int) + 1) (by omega) (by omega)]
    by_cases hc : x = rd [0, 12, 19, 24, 28, 31] (i : Int)
    · rw [if_pos hc]
      exact Ev.ite_pos hc (Ev.now _)
    · rw [if_neg hc]
      exact Ev.ite_neg hc (by simpa using h)
  have e6 : Ev (fun k => slices_Index_int64_int64.l0 k [0, 12, 19, 24, 28, 31] x (([0, 12, 19, 24, 28, 31] : List Int).length : Int) ((6 : Nat) : Int)) (-1) := by
    refine Ev.succ ?_
    simp only [slices_Index_int64_int64.l0]
    exact Ev.ite_neg (by simp) (Ev.now _)
  have := st 0 _ (by omega) (st 1 _ (by omega) (st 2 _ (by omega) (st 3 _ (by omega) (st 4 _ (by omega) (st 5 _ (by omega) e6)))))
  refine ⟨_, ?_, ?_, ?_, by simpa using this⟩
  all_goals (simp only [rd, res1]; simp; repeat' split) <;> omega
theorem impl_unitsOf_l1 (l : List S84) (i n p q : Int) (r : List Int) (hn : n ≤ 1048576) : ∀ (d : Nat) (u : Int) (acc : List Int), (n - u).toNat = d → 0 ≤ u → acc.length + d ≤ 1048576 →
    Ev (fun k => impl_unitsOf.l0 k (acc ++ List.replicate d p) l (l.length : Int) (wrap64 (i + 1))) r → Ev (fun k => impl_unitsOf.l1 k acc l (l.length : Int) i n u p q) r := by
  intro d
  induction d with
  | zero =>
    intro u acc hd h0 ha h
    refine Ev.succ ?_
    simp only [impl_unitsOf.l1]
    refine Ev.ite_neg (by omega) ?_
    simpa using h
  | succ d ih =>
    intro u acc hd h0 ha h
    refine Ev.succ ?_
    simp only [impl_unitsOf.l1]
    refine Ev.ite_pos (by omega) ?_
    refine Ev.ite_pos (by omega) ?_
    rw [w64 (x := u + 1) (by omega) (by omega)]
    refine ih (u + 1) (acc ++ [p]) (by omega) (by omega) (by simp; omega) ?_
    simpa [List.replicate_succ] using h
theorem impl_unitsOf_l0 (l : List S84) (hv : l.all okN = true) (hl : l.length ≤ 48) : ∀ (d i : Nat) (acc : List Int), l.length - i = d → acc.length ≤ 64 * i → Ev (fun k => impl_unitsOf.l0 k acc l (l.length : Int) i) (acc ++ unitsM (l.drop i)) := by
  intro d
  induction d with
  | zero =>
    intro i acc hd ha
    refine Ev.succ ?_
    simp only [impl_unitsOf.l0]
    refine Ev.ite_neg (by omega) ?_
    rw [List.drop_of_length_le (by omega)]
    simpa [unitsM] using Ev.now _
  | succ d ih =>
    intro i acc hd ha
    have hq := okN_rd hv (show i < l.length by omega)
    refine Ev.succ ?_
    simp only [impl_unitsOf.l0]
    refine Ev.ite_pos (by omega) ?_
    refine Ev.ite_pos (by omega) ?_
    refine Ev.ite_pos (by omega) ?_
    refine impl_unitsOf_l1 l i _ _ _ _ (by omega) ((rd_T84 l i).f1).toNat 0 acc (by omega) (by omega) (by omega) ?_
    rw [w64 (x := (i : Int) + 1) (by omega) (by omega), unitsM_drop (by omega), ← List.append_assoc]
    simpa using ih (i + 1) (acc ++ List.replicate ((rd_T84 l i).f1).toNat (rd_T84 l i).f0) (by omega) (by simp; omega)
theorem impl_unitsOf_ev (l : List S84) (h : melB l = true) : Ev (fun k => impl_unitsOf.f k l) (unitsM l) := by
  unfold impl_unitsOf.f
  simpa using impl_unitsOf_l0 l (melB_all h).1 (melB_all h).2 l.length 0 [] (by omega) (by simp)
theorem sym_ev (K : Int → Int) : ∀ (d : Nat) (A B P Q : List Int) (a m b : Int), A.length + B.length ≤ d → 0 < A.length → 0 < B.length → a = P.length → m = a + A.length → b = m + B.length → A.Pairwise (TT K) → B.Pairwise (TT K) → (∀ x ∈ A, ∀ y ∈ B, x < y) →
    ∃ M, M.Perm (A ++ B) ∧ M.Pairwise (TT K) ∧ Ev (fun k => slices_symMergeCmpFunc_int64.f k (cfK K) (P ++ A ++ B ++ Q) a m b) (P ++ M ++ Q) := by
  intro d
  induction d with
  | zero => intro A B P Q a m b h1 h2; omega
  | succ d ih =>
    intro A B P Q a m b hd hA0 hB0 ha hm hb hA hB hx
    have guard : 0 ≤ a ∧ a < m ∧ m < b ∧ b ≤ ((P ++ A ++ B ++ Q).length : Int) := by simp; omega
    by_cases c1 : m - a = 1
    · obtain ⟨x, rfl⟩ : ∃ x, A = [x] := List.length_eq_one_iff.1 (by omega)
      obtain ⟨M, h1, h2, h3⟩ := sym_one K x B P Q a m b ha (by omega) hb hB (fun y hy => hx x (by simp) y hy)
      refine ⟨M, h1, h2, Ev.succ ?_⟩
      simp only [slices_symMergeCmpFunc_int64.f]
      refine Ev.ite_pos guard (Ev.ite_pos c1 ?_)
      simpa using h3
    by_cases c2 : b - m = 1
    · obtain ⟨y, rfl⟩ : ∃ y, B = [y] := List.length_eq_one_iff.1 (by omega)
      obtain ⟨M, h1, h2, h3⟩ := sym_last K y A P Q a m ha hm hA (fun x hxx => hx x hxx y (by simp))
      refine ⟨M, h1, h2, Ev.succ ?_⟩
      simp only [slices_symMergeCmpFunc_int64.f]
      refine Ev.ite_pos guard (Ev.ite_neg c1 (Ev.ite_pos c2 ?_))
      simpa using h3
    have sub : ∀ (X Y P Q : List Int) (a m b : Int), X.length + Y.length ≤ d → a = P.length → m = a + X.length → b = m + Y.length → X.Pairwise (TT K) → Y.Pairwise (TT K) → (∀ x ∈ X, ∀ y ∈ Y, x < y) →
        ∃ M, M.Perm (X ++ Y) ∧ M.Pairwise (TT K) ∧ Ev (fun k => if a < m ∧ m < b then slices_symMergeCmpFunc_int64.f k (cfK K) (P ++ X ++ Y ++ Q) a m b else some (P ++ X ++ Y ++ Q)) (P ++ M ++ Q) := by
      intro X Y P Q a m b h1 h2 h3 h4 h5 h6 h7
      by_cases c : a < m ∧ m < b
      · obtain ⟨M, q1, q2, q3⟩ := ih X Y P Q a m b h1 (by omega) (by omega) h2 h3 h4 h5 h6 h7
        exact ⟨M, q1, q2, Ev.ite_pos c q3⟩
      · refine ⟨X ++ Y, List.Perm.refl _, ?_, Ev.ite_neg c (by simpa using Ev.now _)⟩
        by_cases e : X.length = 0
        · have : X = [] := List.eq_nil_of_length_eq_zero e
          subst this
          simpa using h6
        · have : Y = [] := List.eq_nil_of_length_eq_zero (by omega)
          subst this
          simpa using h5
    obtain ⟨mid, hmid⟩ : ∃ z, (a + b) / 2 = z := ⟨_, rfl⟩
    -- behind the search
    have go : ∀ st0 r0 : Int, a ≤ st0 → st0 ≤ r0 → r0 ≤ m → r0 ≤ mid → mid + m - st0 ≤ b → (st0 = a ∨ mid + m - st0 = b) → (r0 = m ∨ r0 = mid) →
        ∃ M, M.Perm (A ++ B) ∧ M.Pairwise (TT K) ∧ Ev (fun k => slices_symMergeCmpFunc_int64.l4 k (cfK K) (P ++ A ++ B ++ Q) a m b st0 r0) (P ++ M ++ Q) := by
      intro st0 r0 g1 g2 g3 g4 g5 g6 g7
      have rA : ∀ t, a ≤ t → t < m → rd (P ++ A ++ B ++ Q) t = rd A (t - a) := fun t h1 h2 => by
        rw [List.append_assoc, List.append_assoc, rd_right P _ t (t - a) (by omega) (by omega), rd_left A _ _ (by omega) (by omega)]
      have rB : ∀ t, m ≤ t → t < b → rd (P ++ A ++ B ++ Q) t = rd B (t - m) := fun t h1 h2 => by
        rw [List.append_assoc, rd_right (P ++ A) _ t (t - m) (by omega) (by simp; omega), rd_left B _ _ (by omega) (by omega)]
      obtain ⟨s, p1, p2, p3, p4, p5⟩ := halves (fun t => ¬ K (rd A (t - a)) < K (rd B (mid + m - 1 - t - m))) st0 r0 (fun k i j => slices_symMergeCmpFunc_int64.l4 k (cfK K) (P ++ A ++ B ++ Q) a m b i j) (fun k i => slices_symMergeCmpFunc_int64.l5 k (cfK K) (P ++ A ++ B ++ Q) a m b i)
        (fun k i j h1 h2 h3 => by
          simp only [slices_symMergeCmpFunc_int64.l4]
          rw [hmid, if_pos (by simp; omega)]
          by_cases hij : i < j
          · rw [if_pos hij, if_pos hij, rB (mid + m - 1 - (i + j) / 2) (by omega) (by omega), rA ((i + j) / 2) (by omega) (by omega)]
            simp only [cfK_neg]
            by_cases hc : K (rd A ((i + j) / 2 - a)) < K (rd B (mid + m - 1 - (i + j) / 2 - m))
            · rw [if_pos hc, if_neg (not_not_intro hc)]
            · rw [if_neg hc, if_pos hc]
          · rw [if_neg hij, if_neg hij])
        (fun s t h1 h2 h3 h4 => by
          have q1 := TT_rdle hA (i := s - a) (j := t - a) (by omega) (by omega) (by omega)
          have q2 := TT_rdle hB (i := mid + m - 1 - t - m) (j := mid + m - 1 - s - m) (by omega) (by omega) (by omega)
          show ¬ K (rd A (s - a)) < K (rd B (mid + m - 1 - s - m))
          have h4' : ¬ K (rd A (t - a)) < K (rd B (mid + m - 1 - t - m)) := h4
          omega)
        (r0 - st0).toNat st0 r0 (Nat.le_refl _) (Int.le_refl _) g2 (Int.le_refl _) (fun t h1 h2 => by omega) (fun t h1 h2 => by omega)
      obtain ⟨A1, A2, rfl, hA1⟩ := cut_at A (s - a) (by omega) (by omega)
      obtain ⟨B1, B2, rfl, hB1⟩ := cut_at B (mid - s) (by omega) (by omega)
      simp only [List.length_append] at hm hb hd
      obtain ⟨u1, u2, u3⟩ := List.pairwise_append.1 hA
      obtain ⟨v1, v2, v3⟩ := List.pairwise_append.1 hB
      have x1 : ∀ x ∈ A1, ∀ y ∈ B2, TT K x y := by
        intro x hxx y hyy
        have hlt := hx x (List.mem_append_left _ hxx) y (List.mem_append_right _ hyy)
        obtain ⟨i, i0, i1, rfl⟩ := mem_rd hxx
        obtain ⟨j, j0, j1, rfl⟩ := mem_rd hyy
        have h1 : ¬ K (rd (A1 ++ A2) (s - 1 - a)) < K (rd (B1 ++ B2) (mid + m - 1 - (s - 1) - m)) := p3 (s - 1) (by omega) (by omega)
        have q1 := TT_rdle hA (i := i) (j := s - 1 - a) (by omega) (by omega) (by simp; omega)
        have q2 := TT_rdle hB (i := mid + m - 1 - (s - 1) - m) (j := (B1.length : Int) + j) (by omega) (by omega) (by simp; omega)
        rw [rd_left A1 A2 i i0 i1] at q1
        rw [rd_right B1 B2 _ j j0 rfl] at q2
        unfold TT
        omega
      have x2 : ∀ x ∈ B1, ∀ y ∈ A2, TT K x y := by
        intro x hxx y hyy
        obtain ⟨i, i0, i1, rfl⟩ := mem_rd hxx
        obtain ⟨j, j0, j1, rfl⟩ := mem_rd hyy
        have h1 : ¬ ¬ K (rd (A1 ++ A2) (s - a)) < K (rd (B1 ++ B2) (mid + m - 1 - s - m)) := p4 s (Int.le_refl _) (by omega)
        have h1 := Classical.not_not.1 h1
        have q1 := TT_rdle hA (i := s - a) (j := (A1.length : Int) + j) (by omega) (by omega) (by simp; omega)
        have q2 := TT_rdle hB (i := i) (j := mid + m - 1 - s - m) (by omega) (by omega) (by simp; omega)
        rw [rd_right A1 A2 _ j j0 rfl] at q1
        rw [rd_left B1 B2 i i0 i1] at q2
        exact .inl (by omega)
      obtain ⟨M1, m1, m2, m3⟩ := sub A1 B1 P (A2 ++ B2 ++ Q) a s mid (by omega) ha (by omega) (by omega) u1 v1 (fun x h y k => hx x (List.mem_append_left _ h) y (List.mem_append_left _ k))
      have m4 := m1.length_eq
      simp only [List.length_append] at m4
      obtain ⟨M2, n1, n2, n3⟩ := sub A2 B2 (P ++ M1) Q mid (mid + m - s) b (by omega) (by simp; omega) (by omega) (by omega) u2 v2 (fun x h y k => hx x (List.mem_append_right _ h) y (List.mem_append_right _ k))
      refine ⟨M1 ++ M2, ?_, ?_, p5 _ (Ev.succ ?_)⟩
      · refine (m1.append n1).trans ?_
        rw [List.append_assoc, List.append_assoc]
        refine List.Perm.append_left A1 ?_
        rw [← List.append_assoc, ← List.append_assoc]
        exact List.perm_append_comm.append_right B2
      · refine List.pairwise_append.2 ⟨m2, n2, fun x hxx y hyy => ?_⟩
        rcases List.mem_append.1 (m1.mem_iff.1 hxx) with h1 | h1 <;> rcases List.mem_append.1 (n1.mem_iff.1 hyy) with h2 | h2
        · exact u3 x h1 y h2
        · exact x1 x h1 y h2
        · exact x2 x h1 y h2
        · exact v3 x h1 y h2
      · simp only [slices_symMergeCmpFunc_int64.l5]
        rw [hmid]
        refine Ev.bind (a := P ++ A1 ++ B1 ++ (A2 ++ B2 ++ Q)) ?_ (Ev.bind m3 ?_)
        · by_cases c : s < m ∧ m < mid + m - s
          · refine Ev.ite_pos c ?_
            have := rotate_ev A2 B1 (P ++ A1) (B2 ++ Q) s m (mid + m - s) (by omega) (by omega) (by simp; omega) (by simp; omega) (by simp; omega)
            simpa using this
          · refine Ev.ite_neg c ?_
            by_cases e : A2.length = 0
            · have : A2 = [] := List.eq_nil_of_length_eq_zero e
              subst this
              simpa using Ev.now _
            · have : B1 = [] := List.eq_nil_of_length_eq_zero (by omega)
              subst this
              simpa using Ev.now _
        · simpa using n3
    by_cases c3 : mid < m
    · obtain ⟨M, h1, h2, h3⟩ := go (mid + m - b) mid (by omega) (by omega) (by omega) (by omega) (by omega) (by omega) (by omega)
      refine ⟨M, h1, h2, Ev.succ ?_⟩
      simp only [slices_symMergeCmpFunc_int64.f]
      rw [hmid]
      exact Ev.ite_pos guard (Ev.ite_neg c1 (Ev.ite_neg c2 (Ev.ite_pos c3 h3)))
    · obtain ⟨M, h1, h2, h3⟩ := go a m (by omega) (by omega) (by omega) (by omega) (by omega) (by omega) (by omega)
      refine ⟨M, h1, h2, Ev.succ ?_⟩
      simp only [slices_symMergeCmpFunc_int64.f]
      rw [hmid]
      exact Ev.ite_pos guard (Ev.ite_neg c1 (Ev.ite_neg c2 (Ev.ite_neg c3 h3)))
/-- 36 elements: two runs, one merge. -/
theorem stable_ev (K : Int → Int) (x y : Int) (vs us : List Int) (hv : vs.length = 19) (hu : us.length = 15) (ho : (x :: (vs ++ y :: us)).Pairwise (fun a b => a < b)) :
    ∃ M, M.Perm (x :: (vs ++ y :: us)) ∧ M.Pairwise (TT K) ∧ Ev (fun k => slices_stableCmpFunc_int64.f k (cfK K) (x :: (vs ++ y :: us)) 36) M := by
  obtain ⟨o1, o2, o3⟩ := List.pairwise_append.1 (show ((x :: vs) ++ (y :: us)).Pairwise (fun a b => a < b) by simpa using ho)
  have p1 : (isort K [x] vs).reverse.Perm (x :: vs) := (List.reverse_perm _).trans (isort_perm K vs [x])
  have p2 : (isort K [y] us).reverse.Perm (y :: us) := (List.reverse_perm _).trans (isort_perm K us [y])
  have s1 : (isort K [x] vs).reverse.Pairwise (TT K) := List.pairwise_reverse.2 (isort_sorted K vs [x] (by simp) (List.pairwise_cons.1 o1).2 (fun s hs v hvv => by rw [List.mem_singleton.1 hs]; exact (List.pairwise_cons.1 o1).1 v hvv))
  have s2 : (isort K [y] us).reverse.Pairwise (TT K) := List.pairwise_reverse.2 (isort_sorted K us [y] (by simp) (List.pairwise_cons.1 o2).2 (fun s hs v hvv => by rw [List.mem_singleton.1 hs]; exact (List.pairwise_cons.1 o2).1 v hvv))
  have l1 := p1.length_eq
  have l2 := p2.length_eq
  simp only [List.length_cons] at l1 l2
  obtain ⟨M, h1, h2, h3⟩ := sym_ev K 36 (isort K [x] vs).reverse (isort K [y] us).reverse [] [] 0 20 36 (by omega) (by omega) (by omega) (by simp) (by omega) (by omega) s1 s2 (fun a ha b hb => o3 a (p1.mem_iff.1 ha) b (p2.mem_iff.1 hb))
  have e1 := ins_ev K x vs [] (y :: us) 0 20 (by simp) (by simp; omega)
  have e2 := ins_ev K y us (isort K [x] vs).reverse [] 20 36 (by omega) (by omega)
  refine ⟨M, h1.trans (by simpa using p1.append p2), h2, ?_⟩
  unfold slices_stableCmpFunc_int64.f
  refine Ev.succ ?_
  simp only [slices_stableCmpFunc_int64.l0]
  refine Ev.ite_pos (by omega) (Ev.ite_pos (by omega) (Ev.bind (by simpa using e1) (Ev.succ ?_)))
  simp only [slices_stableCmpFunc_int64.l0]
  refine Ev.ite_pos (by omega) (Ev.ite_neg (by omega) (Ev.bind (by simpa using e2) (Ev.succ ?_)))
  simp only [slices_stableCmpFunc_int64.l1]
  refine Ev.ite_pos (by omega) (Ev.ite_pos (by omega) (Ev.succ ?_))
  simp only [slices_stableCmpFunc_int64.l2]
  refine Ev.ite_pos (by omega) (Ev.ite_neg (by omega) (Ev.bind (Ev.ite_pos (by omega) (by simpa using h3)) (Ev.succ ?_)))
  simp only [slices_stableCmpFunc_int64.l1]
  refine Ev.ite_pos (by omega) (Ev.ite_neg (by omega) (Ev.now _))
end Go.Proofs.Ytgdiabfmjcejdaa.P
end
