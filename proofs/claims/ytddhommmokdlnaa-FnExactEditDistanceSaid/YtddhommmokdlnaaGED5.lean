/- Texts of this seat, merged: LIn, LMin, LDropAt, LInP, LSInP, LPitches, LRdL, LWithin, LEdit. -/
import Derived.Test.YtddhommmokdlnaaGED1
import Derived.Test.YtddhommmokdlnaaGED2
import Derived.Test.YtddhommmokdlnaaGED3
import Derived.Test.YtddhommmokdlnaaGED4
section
/- A number from low to high: the reference's word. Plain Lean. -/
namespace Go.Proofs.Ytddhommmokdlnaa.P
open Go.RowKit Go.Proofs.Ytddhommmokdlnaa.P Go.Proofs.YtddhommmokdlnaaW.PrintWords Go.Proofs.YtddhommmokdlnaaW.PrintLast Go.Proofs.YtddhommmokdlnaaW.PrintMore
set_option linter.unusedVariables false
set_option linter.unusedSimpArgs false

theorem spec_l00In_eq (n a b : Int) : spec_l00In.f n a b = some (decide (a ≤ n) && decide (n ≤ b)) := by
  unfold spec_l00In.f
  by_cases h : n ≥ a
  · have : a ≤ n := h
    simp [this]
  · have : ¬ a ≤ n := h
    simp [this]

end Go.Proofs.Ytddhommmokdlnaa.P
end

section
/- The lesser of two. Plain Lean. -/
namespace Go.Proofs.Ytddhommmokdlnaa.P
open Go.RowKit Go.Proofs.Ytddhommmokdlnaa.P Go.Proofs.YtddhommmokdlnaaW.PrintWords Go.Proofs.YtddhommmokdlnaaW.PrintLast Go.Proofs.YtddhommmokdlnaaW.PrintMore
set_option linter.unusedVariables false
set_option linter.unusedSimpArgs false

theorem spec_l00Min_eq (a b : Int) : spec_l00Min.f a b = some (min a b) := by
  unfold spec_l00Min.f
  by_cases h : a < b
  · rw [if_pos h, Int.min_def, if_pos (by omega)]
  · rw [if_neg h, Int.min_def]
    split
    · congr 1; omega
    · rfl

end Go.Proofs.Ytddhommmokdlnaa.P
end

section
/- A list from a place on. Plain Lean. -/
namespace Go.Proofs.Ytddhommmokdlnaa.P
open Go.RowKit Go.Proofs.Ytddhommmokdlnaa.P Go.Proofs.YtddhommmokdlnaaW.PrintWords Go.Proofs.YtddhommmokdlnaaW.PrintLast Go.Proofs.YtddhommmokdlnaaW.PrintMore
set_option linter.unusedVariables false
set_option linter.unusedSimpArgs false

theorem all_drop_at {l : List Int} {i : Nat} (q : Int → Bool) (h : i < l.length) : (l.drop i).all q = (q (rd l i) && (l.drop (i + 1)).all q) := by
  rw [List.drop_eq_getElem_cons h, List.all_cons, rd_at h]

end Go.Proofs.Ytddhommmokdlnaa.P
end

section
/- Is a number a pitch. Plain Lean. -/
namespace Go.Proofs.Ytddhommmokdlnaa.P
open Go.RowKit Go.Proofs.Ytddhommmokdlnaa.P Go.Proofs.YtddhommmokdlnaaW.PrintWords Go.Proofs.YtddhommmokdlnaaW.PrintLast Go.Proofs.YtddhommmokdlnaaW.PrintMore
set_option linter.unusedVariables false
set_option linter.unusedSimpArgs false

def inP (n : Int) : Bool := decide (-12 ≤ n) && decide (n ≤ 23)

end Go.Proofs.Ytddhommmokdlnaa.P
end

section
/- Is a number a pitch: the reference. Plain Lean. -/
namespace Go.Proofs.Ytddhommmokdlnaa.P
open Go.RowKit Go.Proofs.Ytddhommmokdlnaa.P Go.Proofs.YtddhommmokdlnaaW.PrintWords Go.Proofs.YtddhommmokdlnaaW.PrintLast Go.Proofs.YtddhommmokdlnaaW.PrintMore
set_option linter.unusedVariables false
set_option linter.unusedSimpArgs false

theorem spec_l03Pitch_eq (n : Int) : spec_l03Pitch.f n = some (inP n) := by
  unfold spec_l03Pitch.f
  rw [spec_l00In_eq]
  rfl

end Go.Proofs.Ytddhommmokdlnaa.P
end

section
/- Are all numbers pitches, and not too many: the reference and the program. Plain Lean. -/
namespace Go.Proofs.Ytddhommmokdlnaa.P
open Go.RowKit Go.Proofs.Ytddhommmokdlnaa.P Go.Proofs.YtddhommmokdlnaaW.PrintWords Go.Proofs.YtddhommmokdlnaaW.PrintLast Go.Proofs.YtddhommmokdlnaaW.PrintMore
set_option linter.unusedVariables false
set_option linter.unusedSimpArgs false

def pitchesB (l : List Int) : Bool := decide (l.length ≤ 64) && l.all inP
theorem spec_l05Pitches_l0 (l : List Int) (hl : l.length ≤ 9223372036854775807) : ∀ (d i : Nat), l.length - i = d → i ≤ l.length → Ev (fun k => spec_l05Pitches.l0 k l i) ((l.drop i).all inP && decide (l.length ≤ 64)) := by
  intro d
  induction d with
  | zero =>
    intro i hd hi
    refine Ev.succ ?_
    simp only [spec_l05Pitches.l0]
    refine Ev.ite_neg (by omega) ?_
    rw [List.drop_of_length_le (by omega)]
    refine Ev.cast (Ev.now _) ?_
    simp
    omega
  | succ d ih =>
    intro i hd hi
    refine Ev.succ ?_
    simp only [spec_l05Pitches.l0]
    refine Ev.ite_pos (by omega) ?_
    refine Ev.ite_pos (by omega) ?_
    refine Ev.bindc (spec_l03Pitch_eq _) ?_
    rw [all_drop_at inP (by omega)]
    cases hq : inP (rd l i) with
    | true =>
      refine Ev.ite_pos rfl ?_
      rw [w64 (x := (i : Int) + 1) (by omega) (by omega)]
      simpa using ih (i + 1) (by omega) (by omega)
    | false =>
      refine Ev.ite_neg (by decide) ?_
      simpa using Ev.now false
theorem spec_l05Pitches_ev (l : List Int) (hl : l.length ≤ 9223372036854775807) : Ev (fun k => spec_l05Pitches.f k l) (pitchesB l) := by
  unfold spec_l05Pitches.f pitchesB
  have := spec_l05Pitches_l0 l hl l.length 0 (by omega) (by omega)
  rw [Bool.and_comm]
  simpa using this
theorem impl_pitchesOk_eq (l : List Int) : impl_pitchesOk.f l = some (pitchesB l) := by
  unfold impl_pitchesOk.f impl_allWithin.f pitchesB
  by_cases h : l.length ≤ 64
  · have h' : (l.length : Int) ≤ 64 := by omega
    simp only [h', h, if_true, decide_true, Bool.true_and]
    rfl
  · have h' : ¬ (l.length : Int) ≤ 64 := by omega
    simp [h]
    omega
theorem pitchesB_len {l : List Int} (h : pitchesB l = true) : l.length ≤ 64 := by
  simp only [pitchesB, Bool.and_eq_true, decide_eq_true_eq] at h
  exact h.1
theorem pitchesB_rd {l : List Int} (h : pitchesB l = true) {i : Int} (h0 : 0 ≤ i) (h1 : i < l.length) : -12 ≤ rd l i ∧ rd l i ≤ 23 := by
  simp only [pitchesB, Bool.and_eq_true, decide_eq_true_eq, List.all_eq_true] at h
  obtain ⟨n, rfl⟩ := Int.eq_ofNat_of_zero_le h0
  rw [rd_at (show n < l.length by omega)]
  have := h.2 l[n] (List.getElem_mem _)
  simpa [inP] using this

end Go.Proofs.Ytddhommmokdlnaa.P
end

section
/- An element of a list of lists. Plain Lean. -/
namespace Go.Proofs.Ytddhommmokdlnaa.P
open Go.RowKit Go.Proofs.Ytddhommmokdlnaa.P Go.Proofs.YtddhommmokdlnaaW.PrintWords Go.Proofs.YtddhommmokdlnaaW.PrintLast Go.Proofs.YtddhommmokdlnaaW.PrintMore
set_option linter.unusedVariables false
set_option linter.unusedSimpArgs false

theorem rdL_at {f : List (List Int)} {i : Nat} (h : i < f.length) : rd_L1 f (i : Int) = f[i] := by simp [rd_L1, h]

end Go.Proofs.Ytddhommmokdlnaa.P
end

section
/- A number from low to high: the program's word. Plain Lean. -/
namespace Go.Proofs.Ytddhommmokdlnaa.P
open Go.RowKit Go.Proofs.Ytddhommmokdlnaa.P Go.Proofs.YtddhommmokdlnaaW.PrintWords Go.Proofs.YtddhommmokdlnaaW.PrintLast Go.Proofs.YtddhommmokdlnaaW.PrintMore
set_option linter.unusedVariables false
set_option linter.unusedSimpArgs false

theorem impl_within_eq (n a b : Int) : impl_within.f n a b = some (decide (a ≤ n) && decide (n ≤ b)) := by
  unfold impl_within.f
  by_cases h : n ≥ a
  · have : a ≤ n := h
    simp [this]
  · have : ¬ a ≤ n := h
    simp [this]

end Go.Proofs.Ytddhommmokdlnaa.P
end

section
/- The table of the least costs: the reference and the program make the same one. Plain Lean. -/
namespace Go.Proofs.Ytddhommmokdlnaa.P
open Go.RowKit Go.Proofs.Ytddhommmokdlnaa.P Go.Proofs.YtddhommmokdlnaaW.PrintWords Go.Proofs.YtddhommmokdlnaaW.PrintLast Go.Proofs.YtddhommmokdlnaaW.PrintMore
set_option linter.unusedVariables false
set_option linter.unusedSimpArgs false

def ecell (a b : List Int) (ch g : Int) (T : List (List Int)) (i c : Nat) : Int :=
  if i = a.length then wrap64 (g * ((b.length : Int) - c)) else if c = b.length then wrap64 (g * ((a.length : Int) - i)) else
  min (min (if rd a i = rd b c then rd (rd_L1 T ((i : Int) + 1)) ((c : Int) + 1) else wrap64 (rd (rd_L1 T ((i : Int) + 1)) ((c : Int) + 1) + ch)) (wrap64 (rd (rd_L1 T ((i : Int) + 1)) c + g))) (wrap64 (rd (rd_L1 T i) ((c : Int) + 1) + g))
def estep (a b : List Int) (ch g : Int) (i c : Nat) (T : List (List Int)) : List (List Int) := T.set i ((rd_L1 T i).set c (ecell a b ch g T i c))
def erow (a b : List Int) (ch g : Int) (i : Nat) : Nat → List (List Int) → List (List Int)
  | 0, T => T
  | c + 1, T => erow a b ch g i c (estep a b ch g i c T)
def eallS (a b : List Int) (ch g : Int) : Nat → List (List Int) → List (List Int)
  | 0, T => T
  | r + 1, T => eallS a b ch g r (erow a b ch g r (b.length + 1) T)
def eallI (a b : List Int) (ch g : Int) : Nat → List (List Int) → List (List Int)
  | 0, T => T
  | r + 1, T => eallI a b ch g r (erow a b ch g r (b.length + 1) (T.set r (List.replicate (b.length + 1) 0)))
theorem rdL_set_eq {T : List (List Int)} {i : Nat} {R : List Int} (h : i < T.length) : rd_L1 (T.set i R) (i : Int) = R := by
  simp [rd_L1, h]
theorem rdL_set_ne {T : List (List Int)} {i : Nat} {R : List Int} {j : Int} (hj : 0 ≤ j) (h : j ≠ i) : rd_L1 (T.set i R) j = rd_L1 T j := by
  obtain ⟨n, rfl⟩ := Int.eq_ofNat_of_zero_le hj
  have : i ≠ n := by omega
  simp [rd_L1, List.getElem?_set, this]
theorem rdI_set_ne {T : List Int} {i : Nat} {R : Int} {j : Int} (hj : 0 ≤ j) (h : j ≠ i) : rd (T.set i R) j = rd T j := by
  obtain ⟨n, rfl⟩ := Int.eq_ofNat_of_zero_le hj
  have : i ≠ n := by omega
  simp [rd, List.getElem?_set, this]
theorem rdI_set_eq {T : List Int} {i : Nat} {R : Int} (h : i < T.length) : rd (T.set i R) (i : Int) = R := by
  simp [rd, h]
theorem estep_len (a b : List Int) (ch g : Int) (i c : Nat) (T : List (List Int)) : (estep a b ch g i c T).length = T.length := by simp [estep]
theorem estep_ne (a b : List Int) (ch g : Int) (i c : Nat) (T : List (List Int)) {j : Int} (hj : 0 ≤ j) (h : j ≠ i) : rd_L1 (estep a b ch g i c T) j = rd_L1 T j := rdL_set_ne hj h
theorem estep_eq (a b : List Int) (ch g : Int) (i c : Nat) (T : List (List Int)) (h : i < T.length) : rd_L1 (estep a b ch g i c T) i = (rd_L1 T i).set c (ecell a b ch g T i c) := rdL_set_eq h
theorem erow_len (a b : List Int) (ch g : Int) (i : Nat) : ∀ c T, (erow a b ch g i c T).length = T.length
  | 0, T => rfl
  | c + 1, T => by rw [erow, erow_len, estep_len]
theorem erow_ne (a b : List Int) (ch g : Int) (i : Nat) {j : Int} (hj : 0 ≤ j) (h : j ≠ i) : ∀ c T, rd_L1 (erow a b ch g i c T) j = rd_L1 T j
  | 0, T => rfl
  | c + 1, T => by rw [erow, erow_ne a b ch g i hj h, estep_ne a b ch g i c T hj h]
theorem erow_row (a b : List Int) (ch g : Int) (i : Nat) : ∀ c T, i < T.length → (rd_L1 (erow a b ch g i c T) i).length = (rd_L1 T i).length
  | 0, T, _ => rfl
  | c + 1, T, h => by rw [erow, erow_row a b ch g i c _ (by rw [estep_len]; exact h), estep_eq _ _ _ _ _ _ _ h, List.length_set]
theorem erow_ge (a b : List Int) (ch g : Int) (i : Nat) {q : Int} : ∀ (c : Nat) T, (c : Int) ≤ q → i < T.length → rd (rd_L1 (erow a b ch g i c T) i) q = rd (rd_L1 T i) q
  | 0, T, _, _ => rfl
  | c + 1, T, hc, h => by rw [erow, erow_ge a b ch g i c _ (by omega) (by rw [estep_len]; exact h), estep_eq _ _ _ _ _ _ _ h, rdI_set_ne (by omega) (by omega)]
theorem erow_last (a b : List Int) (ch g : Int) (i : Nat) (T : List (List Int)) (h : i < T.length) (hr : (rd_L1 T i).length = b.length + 1) : rd (rd_L1 (erow a b ch g i (b.length + 1) T) i) b.length = wrap64 (g * ((a.length : Int) - i)) := by
  rw [erow, erow_ge a b ch g i b.length _ (by omega) (by rw [estep_len]; exact h), estep_eq _ _ _ _ _ _ _ h, rdI_set_eq (by omega), ecell]
  by_cases e : i = a.length
  · rw [if_pos e, e]; simp
  · rw [if_neg e, if_pos rfl]
theorem erow_agree (a b : List Int) (ch g : Int) (i : Nat) : ∀ (c : Nat) (X Y : List (List Int)), i < X.length → i < Y.length → (∀ j : Int, (i : Int) ≤ j → rd_L1 X j = rd_L1 Y j) → ∀ j : Int, (i : Int) ≤ j → rd_L1 (erow a b ch g i c X) j = rd_L1 (erow a b ch g i c Y) j
  | 0, X, Y, _, _, h => h
  | c + 1, X, Y, hx, hy, h => by
    refine erow_agree a b ch g i c _ _ (by rw [estep_len]; exact hx) (by rw [estep_len]; exact hy) ?_
    intro j hj
    by_cases e : j = i
    · subst e
      rw [estep_eq _ _ _ _ _ _ _ hx, estep_eq _ _ _ _ _ _ _ hy]
      have e1 := h i (by omega)
      have e2 := h ((i : Int) + 1) (by omega)
      rw [e1, ecell, ecell, e1, e2]
    · rw [estep_ne _ _ _ _ _ _ _ (by omega) e, estep_ne _ _ _ _ _ _ _ (by omega) e, h j hj]
theorem tab_ext {X Y : List (List Int)} (hl : X.length = Y.length) (h : ∀ j : Int, 0 ≤ j → rd_L1 X j = rd_L1 Y j) : X = Y := by
  refine List.ext_getElem hl fun n h1 h2 => ?_
  have := h n (by omega)
  rwa [rdL_at h1, rdL_at h2] at this
theorem eall_eq (a b : List Int) (ch g : Int) (n : Nat) : ∀ (r : Nat) (S I : List (List Int)), r ≤ n → S.length = n → I.length = n → (∀ j : Int, (r : Int) ≤ j → rd_L1 S j = rd_L1 I j) → (∀ j : Int, 0 ≤ j → j < r → rd_L1 S j = List.replicate (b.length + 1) 0) → eallS a b ch g r S = eallI a b ch g r I
  | 0, S, I, _, hs, hi, h, _ => tab_ext (hs.trans hi.symm) (fun j hj => h j (by omega))
  | r + 1, S, I, hr, hs, hi, h, h0 => by
    rw [eallS, eallI]
    refine eall_eq a b ch g n r _ _ (by omega) (by rw [erow_len]; exact hs) (by rw [erow_len, List.length_set]; exact hi) ?_ ?_
    · refine erow_agree a b ch g r _ _ _ (by omega) (by rw [List.length_set]; omega) ?_
      intro j hj
      by_cases e : j = r
      · subst e
        rw [rdL_set_eq (by omega), h0 r (by omega) (by omega)]
      · rw [rdL_set_ne (by omega) e, h j (by omega)]
    · intro j h1 h2
      rw [erow_ne _ _ _ _ _ h1 (by omega), h0 j h1 (by omega)]
def egood (a b : List Int) (g : Int) (T : List (List Int)) (r : Nat) : Prop := ∀ j : Int, (r : Int) ≤ j → j ≤ a.length → (rd_L1 T j).length = b.length + 1 ∧ rd (rd_L1 T j) b.length = wrap64 (g * ((a.length : Int) - j))
theorem erow_good (a b : List Int) (ch g : Int) (r : Nat) (I : List (List Int)) (hr : r ≤ a.length) (hi : I.length = a.length + 1) (h : egood a b g I (r + 1)) : egood a b g (erow a b ch g r (b.length + 1) (I.set r (List.replicate (b.length + 1) 0))) r := by
  intro j h1 h2
  by_cases e : j = r
  · subst e
    have h3 : (rd_L1 (I.set r (List.replicate (b.length + 1) 0)) (r : Int)).length = b.length + 1 := by rw [rdL_set_eq (by omega)]; simp
    exact ⟨by rw [erow_row _ _ _ _ _ _ _ (by rw [List.length_set]; omega), h3], erow_last a b ch g r _ (by rw [List.length_set]; omega) h3⟩
  · rw [erow_ne _ _ _ _ _ (by omega) e, rdL_set_ne (by omega) e]
    exact h j (by omega) h2
theorem eall_good (a b : List Int) (ch g : Int) : ∀ (r : Nat) (I : List (List Int)), r ≤ a.length + 1 → I.length = a.length + 1 → egood a b g I r → (eallI a b ch g r I).length = a.length + 1 ∧ egood a b g (eallI a b ch g r I) 0
  | 0, I, _, hi, h => ⟨hi, h⟩
  | r + 1, I, hr, hi, h => by
    rw [eallI]
    exact eall_good a b ch g r _ (by omega) (by rw [erow_len, List.length_set]; exact hi) (erow_good a b ch g r I (by omega) hi h)
def etab (a b : List Int) (ch g : Int) : List (List Int) := eallI a b ch g (a.length + 1) (List.replicate (a.length + 1) [])
theorem etab_good (a b : List Int) (ch g : Int) : (etab a b ch g).length = a.length + 1 ∧ egood a b g (etab a b ch g) 0 := by
  refine eall_good a b ch g _ _ (Nat.le_refl _) (by simp) ?_
  intro j h1 h2
  exact absurd h1 (by omega)
theorem etab_ref (a b : List Int) (ch g : Int) : eallS a b ch g (a.length + 1) (List.replicate (a.length + 1) (List.replicate (b.length + 1) 0)) = etab a b ch g := by
  refine eall_eq a b ch g (a.length + 1) _ _ _ (Nat.le_refl _) (by simp) (by simp) ?_ ?_
  · intro j hj
    obtain ⟨n, rfl⟩ := Int.eq_ofNat_of_zero_le (show 0 ≤ j by omega)
    have : ¬ n < a.length + 1 := by omega
    simp [rd_L1, List.getElem?_replicate, this]
  · intro j h1 h2
    obtain ⟨n, rfl⟩ := Int.eq_ofNat_of_zero_le h1
    have : n < a.length + 1 := by omega
    simp [rd_L1, List.getElem?_replicate, this]
theorem spec_l12Edit_l2 (a b : List Int) (ch g : Int) (ha : a.length ≤ 64) (hb : b.length ≤ 64) (i : Nat) (hi : i ≤ a.length) (r : List (List Int)) : ∀ (c : Nat) (T : List (List Int)), c ≤ b.length + 1 → T.length = a.length + 1 → (rd_L1 T i).length = b.length + 1 → (i < a.length → (rd_L1 T ((i : Int) + 1)).length = b.length + 1) → Ev (fun k => spec_l12Edit.l1 k a b ch g (erow a b ch g i c T) ((i : Int) - 1)) r → Ev (fun k => spec_l12Edit.l2 k a b ch g T i ((c : Int) - 1)) r
  | 0, T, _, _, _, _, h => by
    refine Ev.succ ?_
    simp only [spec_l12Edit.l2]
    refine Ev.ite_neg (by omega) ?_
    rw [w64 (by omega) (by omega)]
    exact h
  | c + 1, T, hc, hT, hr, hr1, h => by
    have e1 : ((c + 1 : Nat) : Int) - 1 = c := by omega
    have ih := spec_l12Edit_l2 a b ch g ha hb i hi r c (estep a b ch g i c T) (by omega) (by rw [estep_len]; exact hT) (by rw [estep_eq _ _ _ _ _ _ _ (by omega), List.length_set]; exact hr) (fun q => by rw [estep_ne _ _ _ _ _ _ _ (by omega) (by omega)]; exact hr1 q) h
    rw [e1]
    refine Ev.succ ?_
    simp only [spec_l12Edit.l2]
    refine Ev.ite_pos (by omega) ?_
    rw [w64 (x := (c : Int) - 1) (by omega) (by omega), w64 (x := (c : Int) + 1) (by omega) (by omega), w64 (x := (i : Int) + 1) (by omega) (by omega), w64 (x := (b.length : Int) - c) (by omega) (by omega), w64 (x := (a.length : Int) - i) (by omega) (by omega)]
    simp only [Int.toNat_natCast]
    rw [estep] at ih
    by_cases hn : i = a.length
    · refine Ev.ite_pos (by omega) (Ev.ite_pos (by omega) (Ev.ite_pos (by omega) (Ev.ite_pos (by omega) (Ev.ite_pos (by omega) ?_))))
      rw [ecell, if_pos hn] at ih
      exact ih
    · refine Ev.ite_neg (by omega) ?_
      by_cases hm : c = b.length
      · refine Ev.ite_pos (by omega) (Ev.ite_pos (by omega) (Ev.ite_pos (by omega) (Ev.ite_pos (by omega) (Ev.ite_pos (by omega) ?_))))
        rw [ecell, if_neg hn, if_pos hm] at ih
        exact ih
      · have hr2 := hr1 (by omega)
        refine Ev.ite_neg (by omega) (Ev.ite_pos (by omega) (Ev.ite_pos (by omega) (Ev.ite_pos (by omega) (Ev.ite_pos (by omega) (Ev.ite_pos (by omega) (Ev.ite_pos (by omega) (Ev.ite_pos (by omega) (Ev.ite_pos (by omega) ?_))))))))
        rw [ecell, if_neg hn, if_neg hm] at ih
        by_cases hv : rd a i = rd b c
        · rw [if_pos hv] at ih
          exact Ev.ite_pos hv (Ev.ite_pos (by omega) (Ev.bindc (spec_l00Min_eq _ _) (Ev.ite_pos (by omega) (Ev.ite_pos (by omega) (Ev.bindc (spec_l00Min_eq _ _) (Ev.ite_pos (by omega) ih))))))
        · rw [if_neg hv] at ih
          exact Ev.ite_neg hv (Ev.ite_pos (by omega) (Ev.bindc (spec_l00Min_eq _ _) (Ev.ite_pos (by omega) (Ev.ite_pos (by omega) (Ev.bindc (spec_l00Min_eq _ _) (Ev.ite_pos (by omega) ih))))))
theorem spec_l12Edit_l1 (a b : List Int) (ch g : Int) (ha : a.length ≤ 64) (hb : b.length ≤ 64) : ∀ (r : Nat) (T : List (List Int)), r ≤ a.length + 1 → T.length = a.length + 1 → (∀ j : Int, 0 ≤ j → j ≤ a.length → (rd_L1 T j).length = b.length + 1) → Ev (fun k => spec_l12Edit.l1 k a b ch g T ((r : Int) - 1)) (eallS a b ch g r T)
  | 0, T, _, _, _ => by
    refine Ev.succ ?_
    simp only [spec_l12Edit.l1]
    exact Ev.ite_neg (by omega) (Ev.now _)
  | r + 1, T, hr, hT, h => by
    have e1 : ((r + 1 : Nat) : Int) - 1 = r := by omega
    have ih := spec_l12Edit_l1 a b ch g ha hb r (erow a b ch g r (b.length + 1) T) (by omega) (by rw [erow_len]; exact hT) (by
      intro j h1 h2
      by_cases e : j = r
      · subst e
        rw [erow_row _ _ _ _ _ _ _ (by omega)]
        exact h _ h1 h2
      · rw [erow_ne _ _ _ _ _ h1 e]
        exact h _ h1 h2)
    rw [e1]
    refine Ev.succ ?_
    simp only [spec_l12Edit.l1]
    refine Ev.ite_pos (by omega) ?_
    have := spec_l12Edit_l2 a b ch g ha hb r (by omega) _ (b.length + 1) T (Nat.le_refl _) hT (h _ (by omega) (by omega)) (fun q => h _ (by omega) (by omega)) ih
    have e2 : ((b.length + 1 : Nat) : Int) - 1 = b.length := by omega
    rw [e2] at this
    exact this
theorem spec_l12Edit_l0 (a b : List Int) (ch g : Int) (ha : a.length ≤ 64) (hb : b.length ≤ 64) : ∀ (d i : Nat), a.length + 1 - i = d → i ≤ a.length + 1 → Ev (fun k => spec_l12Edit.l0 k a b ch g (List.replicate i (List.replicate (b.length + 1) 0)) i) (etab a b ch g) := by
  intro d
  induction d with
  | zero =>
    intro i hd hi
    have : i = a.length + 1 := by omega
    subst this
    refine Ev.succ ?_
    simp only [spec_l12Edit.l0]
    refine Ev.ite_neg (by omega) ?_
    have := spec_l12Edit_l1 a b ch g ha hb (a.length + 1) (List.replicate (a.length + 1) (List.replicate (b.length + 1) 0)) (Nat.le_refl _) (by simp) (by
      intro j h1 h2
      obtain ⟨n, rfl⟩ := Int.eq_ofNat_of_zero_le h1
      have : n < a.length + 1 := by omega
      simp [rd_L1, List.getElem?_replicate, this])
    rw [etab_ref] at this
    have e2 : ((a.length + 1 : Nat) : Int) - 1 = a.length := by omega
    rw [e2] at this
    exact this
  | succ d ih =>
    intro i hd hi
    refine Ev.succ ?_
    simp only [spec_l12Edit.l0]
    have e0 : wrap64 ((b.length : Int) + 1) = ((b.length + 1 : Nat) : Int) := by rw [w64 (by omega) (by omega)]; omega
    rw [e0, w64 (x := (i : Int) + 1) (by omega) (by omega)]
    simp only [Int.toNat_natCast]
    refine Ev.ite_pos (by omega) (Ev.ite_pos (by omega) (Ev.ite_pos (by omega) (Ev.ite_pos (by simp; omega) ?_)))
    have := ih (i + 1) (by omega) (by omega)
    rw [List.replicate_succ'] at this
    exact this
theorem spec_l12Edit_ev (a b : List Int) (ch g : Int) (ha : a.length ≤ 64) (hb : b.length ≤ 64) : Ev (fun k => spec_l12Edit.f k a b ch g) (etab a b ch g) := by
  unfold spec_l12Edit.f
  exact spec_l12Edit_l0 a b ch g ha hb _ 0 rfl (by omega)
theorem impl_editCosts_l1 (a b : List Int) (ch g : Int) (ha : a.length ≤ 64) (hb : b.length ≤ 64) (i : Nat) (hi : i ≤ a.length) (r : List (List Int)) : ∀ (c : Nat) (T : List (List Int)), c ≤ b.length + 1 → T.length = a.length + 1 → (rd_L1 T i).length = b.length + 1 → (i < a.length → (rd_L1 T ((i : Int) + 1)).length = b.length + 1) → Ev (fun k => impl_editCosts.l0 k a b ch g (erow a b ch g i c T) ((i : Int) - 1)) r → Ev (fun k => impl_editCosts.l1 k a b ch g T i ((c : Int) - 1)) r
  | 0, T, _, _, _, _, h => by
    refine Ev.succ ?_
    simp only [impl_editCosts.l1]
    refine Ev.ite_neg (by omega) ?_
    rw [w64 (by omega) (by omega)]
    exact h
  | c + 1, T, hc, hT, hr, hr1, h => by
    have e1 : ((c + 1 : Nat) : Int) - 1 = c := by omega
    have ih := impl_editCosts_l1 a b ch g ha hb i hi r c (estep a b ch g i c T) (by omega) (by rw [estep_len]; exact hT) (by rw [estep_eq _ _ _ _ _ _ _ (by omega), List.length_set]; exact hr) (fun q => by rw [estep_ne _ _ _ _ _ _ _ (by omega) (by omega)]; exact hr1 q) h
    rw [e1]
    refine Ev.succ ?_
    simp only [impl_editCosts.l1]
    refine Ev.ite_pos (by omega) ?_
    rw [w64 (x := (c : Int) - 1) (by omega) (by omega), w64 (x := (c : Int) + 1) (by omega) (by omega), w64 (x := (i : Int) + 1) (by omega) (by omega), w64 (x := (b.length : Int) - c) (by omega) (by omega), w64 (x := (a.length : Int) - i) (by omega) (by omega)]
    simp only [Int.toNat_natCast, mn_eq, Int.add_comm g]
    rw [estep] at ih
    by_cases hn : i = a.length
    · refine Ev.ite_pos (by omega) (Ev.ite_pos (by omega) (Ev.ite_pos (by omega) (Ev.ite_pos (by omega) (Ev.ite_pos (by omega) ?_))))
      rw [ecell, if_pos hn] at ih
      exact ih
    · refine Ev.ite_neg (by omega) ?_
      by_cases hm : c = b.length
      · refine Ev.ite_pos (by omega) (Ev.ite_pos (by omega) (Ev.ite_pos (by omega) (Ev.ite_pos (by omega) (Ev.ite_pos (by omega) ?_))))
        rw [ecell, if_neg hn, if_pos hm] at ih
        exact ih
      · have hr2 := hr1 (by omega)
        refine Ev.ite_neg (by omega) (Ev.ite_pos (by omega) (Ev.ite_pos (by omega) (Ev.ite_pos (by omega) (Ev.ite_pos (by omega) (Ev.ite_pos (by omega) (Ev.ite_pos (by omega) (Ev.ite_pos (by omega) (Ev.ite_pos (by omega) ?_))))))))
        rw [ecell, if_neg hn, if_neg hm] at ih
        by_cases hv : rd a i = rd b c
        · rw [if_pos hv] at ih
          exact Ev.ite_pos hv (Ev.ite_pos (by omega) (Ev.ite_pos (by omega) (Ev.ite_pos (by omega) (Ev.ite_pos (by omega) ih))))
        · rw [if_neg hv] at ih
          exact Ev.ite_neg hv (Ev.ite_pos (by omega) (Ev.ite_pos (by omega) (Ev.ite_pos (by omega) (Ev.ite_pos (by omega) ih))))
theorem impl_editCosts_l0 (a b : List Int) (ch g : Int) (ha : a.length ≤ 64) (hb : b.length ≤ 64) : ∀ (r : Nat) (T : List (List Int)), r ≤ a.length + 1 → T.length = a.length + 1 → egood a b g T r → Ev (fun k => impl_editCosts.l0 k a b ch g T ((r : Int) - 1)) (eallI a b ch g r T)
  | 0, T, _, _, _ => by
    refine Ev.succ ?_
    simp only [impl_editCosts.l0]
    exact Ev.ite_neg (by omega) (Ev.now _)
  | r + 1, T, hr, hT, h => by
    have e1 : ((r + 1 : Nat) : Int) - 1 = r := by omega
    have ih := impl_editCosts_l0 a b ch g ha hb r _ (by omega) (by rw [erow_len, List.length_set]; exact hT) (erow_good a b ch g r T (by omega) hT h)
    rw [e1]
    refine Ev.succ ?_
    simp only [impl_editCosts.l0]
    have e0 : wrap64 ((b.length : Int) + 1) = ((b.length + 1 : Nat) : Int) := by rw [w64 (by omega) (by omega)]; omega
    rw [e0]
    simp only [Int.toNat_natCast]
    refine Ev.ite_pos (by omega) (Ev.ite_pos (by omega) (Ev.ite_pos (by omega) (Ev.ite_pos (by omega) (Ev.ite_pos (by omega) ?_))))
    have := impl_editCosts_l1 a b ch g ha hb r (by omega) _ (b.length + 1) (T.set r (List.replicate (b.length + 1) 0)) (Nat.le_refl _) (by rw [List.length_set]; exact hT) (by rw [rdL_set_eq (by omega)]; simp) (fun q => by rw [rdL_set_ne (by omega) (by omega)]; exact (h _ (by omega) (by omega)).1) ih
    have e2 : ((b.length + 1 : Nat) : Int) - 1 = b.length := by omega
    rw [e2] at this
    exact this
theorem impl_editCosts_ev (a b : List Int) (ch g : Int) (ha : a.length ≤ 64) (hb : b.length ≤ 64) : Ev (fun k => impl_editCosts.f k a b ch g) (etab a b ch g) := by
  unfold impl_editCosts.f
  have e0 : wrap64 ((a.length : Int) + 1) = ((a.length + 1 : Nat) : Int) := by rw [w64 (by omega) (by omega)]; omega
  rw [e0]
  simp only [Int.toNat_natCast]
  refine Ev.ite_pos (by omega) (Ev.ite_pos (by omega) ?_)
  have := impl_editCosts_l0 a b ch g ha hb (a.length + 1) (List.replicate (a.length + 1) []) (Nat.le_refl _) (by simp) (fun j h1 h2 => absurd h1 (by omega))
  have e2 : ((a.length + 1 : Nat) : Int) - 1 = a.length := by omega
  rw [e2] at this
  exact this
def ecode (a b : List Int) (ch g : Int) : Int := if pitchesB a && pitchesB b then (if (0 ≤ ch ∧ ch ≤ 100) ∧ 0 ≤ g ∧ g ≤ 100 then 0 else 2) else 7
theorem spec_l12Ask_j0 (ch g : Int) (e : Bool) : Ev (fun k => spec_l12Ask.j0 k ch g e) (if e then 7 else if (0 ≤ ch ∧ ch ≤ 100) ∧ 0 ≤ g ∧ g ≤ 100 then 0 else 2) := by
  refine Ev.succ ?_
  simp only [spec_l12Ask.j0]
  cases e with
  | true => exact Ev.ite_pos rfl (Ev.now _)
  | false =>
    refine Ev.ite_neg (by decide) (Ev.bindc (spec_l00In_eq _ _ _) ?_)
    by_cases c1 : 0 ≤ ch ∧ ch ≤ 100
    · refine Ev.ite_pos (by simp [c1]) (Ev.bindc (spec_l00In_eq _ _ _) ?_)
      by_cases c2 : 0 ≤ g ∧ g ≤ 100
      · refine Ev.ite_pos (by simp [c2]) (Ev.cast (Ev.now _) ?_)
        simp [c1, c2]
      · refine Ev.ite_neg (by simpa using c2) (Ev.cast (Ev.now _) ?_)
        simp [c1, c2]
    · refine Ev.ite_neg (by simpa using c1) (Ev.cast (Ev.now _) ?_)
      simp [c1]
theorem spec_l12Ask_ev (a b : List Int) (ch g : Int) (ha : a.length ≤ 1048576) (hb : b.length ≤ 1048576) : Ev (fun k => spec_l12Ask.f k a b ch g) (ecode a b ch g) := by
  unfold spec_l12Ask.f ecode
  refine Ev.bind (spec_l05Pitches_ev a (by omega)) ?_
  cases h : pitchesB a with
  | false => exact Ev.ite_neg (by decide) (spec_l12Ask_j0 ch g true)
  | true =>
    refine Ev.ite_pos rfl (Ev.bind (spec_l05Pitches_ev b (by omega)) ?_)
    cases h2 : pitchesB b with
    | false => exact spec_l12Ask_j0 ch g true
    | true => exact spec_l12Ask_j0 ch g false
theorem impl_editCode_j0 (ch g : Int) (e : Bool) : Ev (fun k => impl_editCode.j0 k ch g e) (if e then 7 else if (0 ≤ ch ∧ ch ≤ 100) ∧ 0 ≤ g ∧ g ≤ 100 then 0 else 2) := by
  refine Ev.succ ?_
  simp only [impl_editCode.j0]
  cases e with
  | true => exact Ev.ite_pos rfl (Ev.now _)
  | false =>
    refine Ev.ite_neg (by decide) (Ev.bindc (impl_within_eq _ _ _) ?_)
    by_cases c1 : 0 ≤ ch ∧ ch ≤ 100
    · refine Ev.ite_pos (by simp [c1]) (Ev.bindc (impl_within_eq _ _ _) ?_)
      by_cases c2 : 0 ≤ g ∧ g ≤ 100
      · refine Ev.ite_pos (by simp [c2]) (Ev.cast (Ev.now _) ?_)
        simp [c1, c2]
      · refine Ev.ite_neg (by simpa using c2) (Ev.cast (Ev.now _) ?_)
        simp [c1, c2]
    · refine Ev.ite_neg (by simpa using c1) (Ev.cast (Ev.now _) ?_)
      simp [c1]
theorem impl_editCode_ev (a b : List Int) (ch g : Int) : Ev (fun k => impl_editCode.f k a b ch g) (ecode a b ch g) := by
  unfold impl_editCode.f ecode
  refine Ev.bindc (impl_pitchesOk_eq a) ?_
  cases h : pitchesB a with
  | false => exact Ev.ite_neg (by decide) (impl_editCode_j0 ch g true)
  | true =>
    refine Ev.ite_pos rfl (Ev.bindc (impl_pitchesOk_eq b) ?_)
    cases h2 : pitchesB b with
    | false => exact impl_editCode_j0 ch g true
    | true => exact impl_editCode_j0 ch g false
theorem ecode_ok {a b : List Int} {ch g : Int} (h : ecode a b ch g = 0) : a.length ≤ 64 ∧ b.length ≤ 64 ∧ 0 ≤ g ∧ g ≤ 100 := by
  unfold ecode at h
  split at h
  · rename_i h1
    rw [Bool.and_eq_true] at h1
    split at h
    · rename_i h2
      exact ⟨pitchesB_len h1.1, pitchesB_len h1.2, h2.2⟩
    · omega
  · omega

end Go.Proofs.Ytddhommmokdlnaa.P
end
