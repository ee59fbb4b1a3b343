/- Texts of this seat, merged: LIScale, LTn, LRaga, LRdL, LWithin, LIRaga, LDropAt, LInP, LSInP, LPitches, LSSCopy, LRagaCopy, LMax, LSHasOne, LSScale, LSRaga, LEvid, LRagas. -/
import Derived.Test.YtmibjceanfhhlaaGBR1
import Derived.Test.YtmibjceanfhhlaaGBR2
import Derived.Test.YtmibjceanfhhlaaGBR3
import Derived.Test.YtmibjceanfhhlaaGBR4
import Derived.Test.YtmibjceanfhhlaaGBR5
import Derived.Test.YtmibjceanfhhlaaGBR7
import Derived.Test.YtmibjceanfhhlaaGBR8
import Derived.Test.YtmibjceanfhhlaaGBR9
import Derived.Test.YtmibjceanfhhlaaGBR10
import Derived.Test.YtmibjceanfhhlaaGBR11
import Derived.Test.YtmibjceanfhhlaaGBR12
import Derived.Test.YtmibjceanfhhlaaGBR13
section
namespace Go.Proofs.Ytmibjceanfhhlaa.P
open Go.RowKit Go.Proofs.Ytmibjceanfhhlaa.P Go.Proofs.YtmibjceanfhhlaaW.PrintWords Go.Proofs.YtmibjceanfhhlaaW.PrintLast Go.Proofs.YtmibjceanfhhlaaW.PrintMore
set_option linter.unusedVariables false
set_option linter.unusedSimpArgs false
theorem inc_at {l : List Int} (h : incB l 1 (l.length - 1) = true) : ∀ (d i : Nat), i + d < l.length → rd l i ≤ rd l ((i + d : Nat) : Int) := by
  have hh : ∀ j : Nat, 1 ≤ j → j < l.length → rd l ((j : Int) - 1) < rd l j := by
    intro j h1 h2
    simp only [incB, List.all_eq_true, List.mem_range'_1, decide_eq_true_eq] at h
    exact h j (by omega)
  intro d
  induction d with
  | zero => intro i _; exact Int.le_refl _
  | succ d ih =>
    intro i hi
    have h1 := ih i (by omega)
    have h2 := hh (i + d + 1) (by omega) (by omega)
    have e : (((i + d + 1 : Nat) : Int) - 1) = ((i + d : Nat) : Int) := by omega
    rw [e] at h2
    have e2 : ((i + (d + 1) : Nat) : Int) = ((i + d + 1 : Nat) : Int) := by omega
    rw [e2]
    omega
theorem scale_key (l : List Int) (h5 : 5 ≤ l.length) (h0 : rd l 0 = 0) : rgB l 0 11 0 l.length = (incB l 1 (l.length - 1) && decide (rd l ((l.length : Int) - 1) < 12)) := by
  rw [Bool.eq_iff_iff]
  constructor
  · intro hh
    simp only [rgB, List.all_eq_true, List.mem_range'_1, Bool.and_eq_true, decide_eq_true_eq, Bool.or_eq_true] at hh
    simp only [Bool.and_eq_true, decide_eq_true_eq, incB, List.all_eq_true, List.mem_range'_1]
    refine ⟨fun j hj => ?_, ?_⟩
    · rcases (hh j (by omega)).2 with h | h
      · omega
      · exact h
    · have := (hh (l.length - 1) (by omega)).1
      have e : ((l.length - 1 : Nat) : Int) = (l.length : Int) - 1 := by omega
      rw [e] at this
      omega
  · intro hh
    rw [Bool.and_eq_true, decide_eq_true_eq] at hh
    have ha := inc_at hh.1
    have hi := hh.1
    simp only [incB, List.all_eq_true, List.mem_range'_1, decide_eq_true_eq] at hi
    simp only [rgB, List.all_eq_true, List.mem_range'_1, Bool.and_eq_true, decide_eq_true_eq, Bool.or_eq_true]
    intro j hj
    have h1 := ha j 0 (by omega)
    have h2 := ha (l.length - 1 - j) j (by omega)
    have e : ((j + (l.length - 1 - j) : Nat) : Int) = (l.length : Int) - 1 := by omega
    rw [e] at h2
    have e0 : ((0 + j : Nat) : Int) = (j : Int) := by omega
    have e1 : ((0 : Nat) : Int) = 0 := rfl
    rw [e0, e1, h0] at h1
    refine ⟨⟨h1, by omega⟩, ?_⟩
    by_cases hz : j = 0
    · exact .inl hz
    · exact .inr (hi j (by omega))
theorem impl_ValidScale_ev (l : List Int) (hl : l.length ≤ 9223372036854775807) : Ev (fun k => impl_ValidScale.f k l) (scaleB l) := by
  unfold impl_ValidScale.f scaleB
  by_cases h : 5 ≤ l.length
  · refine Ev.ite_pos (by omega) (Ev.ite_pos (by omega) ?_)
    by_cases h0 : rd l 0 = 0
    · refine Ev.ite_pos h0 ?_
      refine Ev.bind (a := incB l 1 (l.length - 1)) ?_ ?_
      · unfold impl_increasing.f
        simpa using impl_increasing_l0 l hl (l.length - 1) 1 (by omega) (by omega)
      · rw [scale_key l h h0, w64 (x := (l.length : Int) - 1) (by omega) (by omega)]
        cases g : incB l 1 (l.length - 1) with
        | true =>
          refine Ev.ite_pos rfl (Ev.ite_pos (by omega) (Ev.ite_pos (by omega) ?_))
          refine Ev.cast (Ev.now _) ?_
          simp [h, h0]
        | false =>
          refine Ev.ite_neg (by decide) ?_
          simpa using Ev.now false
    · refine Ev.ite_neg h0 ?_
      refine Ev.cast (Ev.now false) ?_
      simp [h0]
  · refine Ev.ite_neg (by omega) ?_
    simpa [h] using Ev.now false
def tn (a : Int) : Int := Int.tmod (wrap64 ((Int.tmod a 12) + 12)) 12
def toneB (u d : List Int) (t : Int) : Bool := hasM u t || hasM d t
def pairB (p : List Int) : Bool := decide (p.length = 2) && ((decide (0 ≤ rd p 0) && decide (rd p 0 ≤ 11)) && ((decide (0 ≤ rd p 1) && decide (rd p 1 ≤ 11)) && decide (rd p 0 ≠ rd p 1)))
def ltP (p q : List Int) : Bool := decide (rd p 0 < rd q 0) || (decide (rd p 0 = rd q 0) && decide (rd p 1 < rd q 1))
def pairsM (f : List (List Int)) : Nat → Nat → Bool
  | 0, _ => true
  | d + 1, i => (pairB (rd_L1 f i) && (decide (i = 0) || ltP (rd_L1 f ((i : Int) - 1)) (rd_L1 f i))) && pairsM f d (i + 1)
def ragaB (s : ByteArray) (u d : List Int) (st wk : Int) (f : List (List Int)) : Bool :=
  nameB s && (scaleB u && (scaleB d && (toneB u d st && (toneB u d wk && (decide (st ≠ wk) && (pairsM f f.length 0 && decide (f.length ≤ 8)))))))
theorem pairsM_at {f : List (List Int)} : ∀ (d i : Nat), pairsM f d i = true → ∀ j, i ≤ j → j < i + d → pairB (rd_L1 f j) = true := by
  intro d
  induction d with
  | zero => intro i _ j h1 h2; omega
  | succ d ih =>
    intro i h j h1 h2
    simp only [pairsM, Bool.and_eq_true] at h
    by_cases e : j = i
    · subst e
      exact h.1.1
    · exact ih (i + 1) h.2 j (by omega) (by omega)
theorem pairB_len {p : List Int} (h : pairB p = true) : p.length = 2 := by
  simp only [pairB, Bool.and_eq_true, decide_eq_true_eq] at h
  exact h.1
theorem ragaB_parts {s : ByteArray} {u d : List Int} {st wk : Int} {f : List (List Int)} (h : ragaB s u d st wk f = true) : scaleB u = true ∧ scaleB d = true ∧ f.length ≤ 8 ∧ ∀ j, j < f.length → (rd_L1 f j).length = 2 := by
  simp only [ragaB, Bool.and_eq_true, decide_eq_true_eq] at h
  exact ⟨h.2.1, h.2.2.1, h.2.2.2.2.2.2.2, fun j hj => pairB_len (pairsM_at _ _ h.2.2.2.2.2.2.1 j (by omega) (by omega))⟩
def pairQ (a b : Int) (p : List Int) : Bool := decide (rd p 0 = a) && decide (rd p 1 = b)
def reasonR (u d : List Int) (f : List (List Int)) (a b : Int) : Int :=
  if (toneB u d (tn a) && toneB u d (tn b)) = true then (if max (a - b) (b - a) > 12 then 2 else if b > a ∧ hasM u (tn b) = false then 3 else if b < a ∧ hasM d (tn b) = false then 4 else if f.any (pairQ (tn a) (tn b)) = true then 5 else 0) else 1
theorem rdL_at {f : List (List Int)} {i : Nat} (h : i < f.length) : rd_L1 f (i : Int) = f[i] := by simp [rd_L1, h]
theorem impl_within_eq (n a b : Int) : impl_within.f n a b = some (decide (a ≤ n) && decide (n ≤ b)) := by
  unfold impl_within.f
  by_cases h : n ≥ a
  · have : a ≤ n := h
    simp [this]
  · have : ¬ a ≤ n := h
    simp [this]
theorem impl_hasTone_ev (s : ByteArray) (u d : List Int) (st wk : Int) (f : List (List Int)) (t : Int) (hu : u.length ≤ 1048576) (hd : d.length ≤ 1048576) : Ev (fun k => impl_Raga_hasTone.f k s u d st wk f t) (toneB u d t) := by
  unfold impl_Raga_hasTone.f toneB
  refine Ev.bind (slices_Contains_ev u t hu) ?_
  cases h : hasM u t with
  | true => exact Ev.ite_pos rfl (Ev.now _)
  | false => exact Ev.ite_neg (by decide) (Ev.bind (slices_Contains_ev d t hd) (Ev.now _))
theorem impl_toneOk_eq (n : Int) : impl_toneOk.f n = some (decide (0 ≤ n) && decide (n ≤ 11)) := by
  unfold impl_toneOk.f
  rw [impl_within_eq]
  rfl
def cmpM (a b : Int) : Int := if a < b then -1 else if a > b then 1 else 0
theorem cmp_Compare_eq (a b : Int) : cmp_Compare_int64.f a b = some (cmpM a b) := by
  unfold cmp_Compare_int64.f cmp_isNaN_int64.f cmpM
  simp only [bne_self_eq_false, Option.bind_some]
  rw [if_neg (by decide), if_neg (by decide)]
  split
  · rfl
  · split <;> rfl
theorem slices_Compare_ev (p q : List Int) (hp : p.length = 2) (hq : q.length = 2) : ∃ r, (r ≥ 0 ↔ ltP p q = false) ∧ Ev (fun k => slices_Compare_int64_int64.f k p q) r := by
  have st : ∀ (i : Nat) (r : Int), i < 2 → Ev (fun k => slices_Compare_int64_int64.l0 k p q p (p.length : Int) ((i + 1 : Nat) : Int)) r → Ev (fun k => slices_Compare_int64_int64.l0 k p q p (p.length : Int) (i : Int)) (if cmpM (rd p (i : Int)) (rd q (i : Int)) = 0 then r else cmpM (rd p (i : Int)) (rd q (i : Int))) := by
    intro i r hi h
    refine Ev.succ ?_
    simp only [slices_Compare_int64_int64.l0]
    rw [w64 (x := (i : Int) + 1) (by omega) (by omega)]
    refine Ev.ite_pos (by omega) (Ev.ite_pos (by omega) (Ev.ite_pos (by omega) (Ev.ite_neg (by omega) (Ev.ite_pos (by omega) (Ev.bindc (cmp_Compare_eq _ _) ?_)))))
    by_cases c : cmpM (rd p (i : Int)) (rd q (i : Int)) = 0
    · exact Ev.ite_pos c (Ev.cast h (if_pos c).symm)
    · exact Ev.ite_neg c (Ev.cast (Ev.now _) (if_neg c).symm)
  have e2 : Ev (fun k => slices_Compare_int64_int64.l0 k p q p (p.length : Int) ((2 : Nat) : Int)) 0 := by
    refine Ev.succ ?_
    simp only [slices_Compare_int64_int64.l0]
    exact Ev.ite_neg (by omega) (Ev.ite_neg (by omega) (Ev.now _))
  refine ⟨_, ?_, by unfold slices_Compare_int64_int64.f; exact st 0 _ (by omega) (st 1 _ (by omega) e2)⟩
  simp only [ltP, cmpM]
  have e0 : ((0 : Nat) : Int) = 0 := rfl
  have e1 : ((1 : Nat) : Int) = 1 := rfl
  rw [e0, e1]
  by_cases c1 : rd p 0 < rd q 0
  · simp [c1]
  · by_cases c2 : rd p 0 > rd q 0
    · have c3 : ¬ rd p 0 = rd q 0 := by omega
      simp [c1, c2, c3]
    · have c3 : rd p 0 = rd q 0 := by omega
      by_cases c4 : rd p 1 < rd q 1
      · simp [c3, c4]
      · by_cases c5 : rd p 1 > rd q 1
        · simp [c3, c4, c5]
        · simp [c3, c4, c5]
theorem impl_ValidRaga_l0 (s : ByteArray) (u e : List Int) (st wk : Int) (f : List (List Int)) (hf : f.length ≤ 1048576) : ∀ (d i : Nat), f.length - i = d → (i ≠ 0 → i ≤ f.length ∧ pairB (rd_L1 f ((i : Int) - 1)) = true) → Ev (fun k => impl_ValidRaga.l0 k f (f.length : Int) i s u e st wk f) (pairsM f d i) := by
  intro d
  induction d with
  | zero =>
    intro i hd hp
    refine Ev.succ ?_
    simp only [impl_ValidRaga.l0]
    exact Ev.ite_neg (by omega) (Ev.now _)
  | succ d ih =>
    intro i hd hp
    have hn : pairB (rd_L1 f i) = true → Ev (fun k => impl_ValidRaga.l0 k f (f.length : Int) ((i : Int) + 1) s u e st wk f) (pairsM f d (i + 1)) := fun h => by
      have := ih (i + 1) (by omega) (fun _ => ⟨by omega, by rw [show ((i + 1 : Nat) : Int) - 1 = (i : Int) by omega]; exact h⟩)
      simpa using this
    refine Ev.succ ?_
    simp only [impl_ValidRaga.l0, pairsM]
    rw [w64 (x := (i : Int) + 1) (by omega) (by omega)]
    refine Ev.ite_pos (by omega) (Ev.ite_pos (by omega) (Ev.ite_pos (by omega) ?_))
    by_cases hl : (rd_L1 f i).length = 2
    · refine Ev.ite_pos (by omega) (Ev.ite_pos (by omega) (Ev.bindc (impl_toneOk_eq _) ?_))
      cases h1 : (decide (0 ≤ rd (rd_L1 f i) 0) && decide (rd (rd_L1 f i) 0 ≤ 11)) with
      | false =>
        have e : pairB (rd_L1 f i) = false := by simp [pairB, h1]
        rw [e]
        exact Ev.ite_neg (by decide) (Ev.cast (Ev.now false) (by simp))
      | true =>
        refine Ev.ite_pos rfl (Ev.ite_pos (by omega) (Ev.bindc (impl_toneOk_eq _) ?_))
        cases h2 : (decide (0 ≤ rd (rd_L1 f i) 1) && decide (rd (rd_L1 f i) 1 ≤ 11)) with
        | false =>
          have e : pairB (rd_L1 f i) = false := by simp [pairB, h2]
          rw [e]
          exact Ev.ite_neg (by decide) (Ev.cast (Ev.now false) (by simp))
        | true =>
          refine Ev.ite_pos rfl ?_
          by_cases h3 : rd (rd_L1 f i) 0 = rd (rd_L1 f i) 1
          · have e : pairB (rd_L1 f i) = false := by simp [pairB, h3]
            rw [e]
            exact Ev.ite_pos h3 (Ev.cast (Ev.now false) (by simp))
          · have e : pairB (rd_L1 f i) = true := by simp [pairB, hl, h1, h2, h3]
            refine Ev.ite_neg h3 ?_
            rw [e]
            by_cases h0 : i = 0
            · refine Ev.ite_neg (by omega) (Ev.cast (hn e) ?_)
              simp [h0]
            · obtain ⟨g1, g2⟩ := hp h0
              have hl2 := pairB_len g2
              obtain ⟨r, r1, r2⟩ := slices_Compare_ev (rd_L1 f ((i : Int) - 1)) (rd_L1 f i) hl2 hl
              refine Ev.ite_pos (by omega) ?_
              rw [w64 (x := (i : Int) - 1) (by omega) (by omega)]
              refine Ev.ite_pos (by omega) (Ev.ite_pos (by omega) (Ev.bind r2 ?_))
              by_cases c : r ≥ 0
              · refine Ev.ite_pos c (Ev.cast (Ev.now false) ?_)
                simp [h0, r1.1 c]
              · refine Ev.ite_neg c (Ev.cast (hn e) ?_)
                have : ltP (rd_L1 f ((i : Int) - 1)) (rd_L1 f i) = true := by
                  cases q : ltP (rd_L1 f ((i : Int) - 1)) (rd_L1 f i) with
                  | true => rfl
                  | false => exact absurd (r1.2 q) c
                simp [this]
    · have e : pairB (rd_L1 f i) = false := by simp [pairB, hl]
      rw [e]
      exact Ev.ite_neg (by omega) (Ev.cast (Ev.now false) (by simp))
theorem impl_ValidRaga_ev (s : ByteArray) (u d : List Int) (st wk : Int) (f : List (List Int)) (hs : s.size ≤ 1048576) (hu : u.length ≤ 1048576) (hd : d.length ≤ 1048576) (hf : f.length ≤ 1048576) : Ev (fun k => impl_ValidRaga.f k s u d st wk f) (ragaB s u d st wk f) := by
  have jt : Ev (fun k => impl_ValidRaga.j0 k true s u d st wk f) false := by
    refine Ev.succ ?_
    simp only [impl_ValidRaga.j0]
    exact Ev.ite_pos (by decide) (Ev.now _)
  unfold impl_ValidRaga.f ragaB
  refine Ev.bind (impl_IsName_ev s) ?_
  cases h1 : nameB s with
  | false => exact Ev.ite_neg (by decide) jt
  | true =>
    refine Ev.ite_pos rfl (Ev.bind (impl_ValidScale_ev u (by omega)) ?_)
    cases h2 : scaleB u with
    | false => exact Ev.ite_neg (by decide) jt
    | true =>
      refine Ev.ite_pos rfl (Ev.bind (impl_ValidScale_ev d (by omega)) ?_)
      cases h3 : scaleB d with
      | false => exact Ev.ite_neg (by decide) jt
      | true =>
        refine Ev.ite_pos rfl ?_
        by_cases h6 : st = wk
        · refine Ev.ite_pos h6 (Ev.cast jt ?_)
          simp [h6]
        · refine Ev.ite_neg h6 (Ev.bind (impl_hasTone_ev s u d st wk f st hu hd) ?_)
          cases h4 : toneB u d st with
          | false => exact Ev.ite_neg (by decide) jt
          | true =>
            refine Ev.ite_pos rfl (Ev.bind (impl_hasTone_ev s u d st wk f wk hu hd) ?_)
            cases h5 : toneB u d wk with
            | false => exact Ev.ite_neg (by decide) jt
            | true =>
              refine Ev.ite_pos rfl ?_
              by_cases h8 : (f.length : Int) > 8
              · have e : decide ((f.length : Int) > 8) = true := by simpa using h8
                rw [e]
                refine Ev.cast jt ?_
                have : ¬ f.length ≤ 8 := by omega
                simp [this]
              · have e : decide ((f.length : Int) > 8) = false := by simpa using h8
                rw [e]
                refine Ev.succ ?_
                simp only [impl_ValidRaga.j0]
                refine Ev.ite_neg (by decide) (Ev.cast (by simpa using impl_ValidRaga_l0 s u d st wk f hf f.length 0 (by omega) (by simp)) ?_)
                have : f.length ≤ 8 := by omega
                simp [this, h6]
theorem impl_reason_1_eq (p : List Int) (a b : Int) (h : p.length = 2) : impl_Raga_reason_1.f p a b = some (pairQ a b p) := by
  unfold impl_Raga_reason_1.f pairQ
  rw [if_pos (by omega)]
  by_cases c : rd p 0 = a
  · rw [if_pos c, if_pos (by omega)]
    simp [c]
    rfl
  · rw [if_neg c]
    simp [c]
theorem impl_reason_any_eq (f : List (List Int)) (a b : Int) (hp : ∀ j, j < f.length → (rd_L1 f j).length = 2) : impl_reason_any.f f a b = some (f.any (pairQ a b)) := by
  have hm : ∀ p ∈ f, impl_Raga_reason_1.f p a b = some (pairQ a b p) := by
    intro p hp'
    obtain ⟨j, hj, rfl⟩ := List.getElem_of_mem hp'
    refine impl_reason_1_eq _ a b ?_
    have := hp j hj
    rwa [rdL_at hj] at this
  unfold impl_reason_any.f
  rw [if_pos (by
    rw [List.all_eq_true]
    intro p hp'
    rw [hm p hp']
    rfl)]
  congr 1
  rw [Bool.eq_iff_iff, List.any_eq_true, List.any_eq_true]
  constructor
  · rintro ⟨p, hp', h⟩
    refine ⟨p, hp', ?_⟩
    rw [hm p hp'] at h
    simpa using h
  · rintro ⟨p, hp', h⟩
    refine ⟨p, hp', ?_⟩
    rw [hm p hp', h]
    rfl
theorem impl_reason_ev (s : ByteArray) (u d : List Int) (st wk : Int) (f : List (List Int)) (a b : Int) (ha : -1000 ≤ a ∧ a ≤ 1000) (hb : -1000 ≤ b ∧ b ≤ 1000) (hu : u.length ≤ 1048576) (hd : d.length ≤ 1048576) (hf : f.length ≤ 8) (hp : ∀ j, j < f.length → (rd_L1 f j).length = 2) :
    Ev (fun k => impl_Raga_reason.f k s u d st wk f a b) (reasonR u d f a b) := by
  have hj : ∀ t : Bool, (toneB u d (tn a) && toneB u d (tn b)) = !t → Ev (fun k => impl_Raga_reason.j0 k a b t s u d st wk f (tn a) (tn b)) (reasonR u d f a b) := by
    intro t ht
    refine Ev.succ ?_
    simp only [impl_Raga_reason.j0]
    unfold reasonR
    rw [ht]
    cases t with
    | true => exact Ev.ite_pos rfl (Ev.now _)
    | false =>
      rw [w64 (x := a - b) (by omega) (by omega)]
      refine Ev.ite_neg (by decide) (Ev.bindc (impl_abs_eq _ (by omega) (by omega)) ?_)
      rw [if_pos (show (!false) = true from rfl), show max (a - b) (-(a - b)) = max (a - b) (b - a) by omega]
      by_cases c1 : max (a - b) (b - a) > 12
      · exact Ev.ite_pos c1 (Ev.cast (Ev.now _) (if_pos c1).symm)
      · refine Ev.ite_neg c1 (Ev.cast ?_ (if_neg c1).symm)
        have h2 : ∀ t2 : Bool, (t2 = true ↔ (b < a ∧ hasM d (tn b) = false)) → Ev (fun k => impl_Raga_reason.j2 k t2 s u d st wk f (tn a) (tn b)) (if b < a ∧ hasM d (tn b) = false then 4 else if f.any (pairQ (tn a) (tn b)) = true then 5 else 0) := by
          intro t2 e2
          refine Ev.succ ?_
          simp only [impl_Raga_reason.j2]
          by_cases c : t2 = true
          · exact Ev.ite_pos c (Ev.cast (Ev.now _) (if_pos (e2.1 c)).symm)
          · refine Ev.ite_neg c (Ev.cast ?_ (if_neg (fun z => c (e2.2 z))).symm)
            refine Ev.bindc (impl_reason_any_eq f _ _ hp) ?_
            by_cases c5 : f.any (pairQ (tn a) (tn b)) = true
            · exact Ev.ite_pos c5 (Ev.cast (Ev.now _) (if_pos c5).symm)
            · exact Ev.ite_neg c5 (Ev.cast (Ev.now _) (if_neg c5).symm)
        have h1 : ∀ t1 : Bool, (t1 = true ↔ (b > a ∧ hasM u (tn b) = false)) → Ev (fun k => impl_Raga_reason.j1 k a b t1 s u d st wk f (tn a) (tn b)) (if b > a ∧ hasM u (tn b) = false then 3 else if b < a ∧ hasM d (tn b) = false then 4 else if f.any (pairQ (tn a) (tn b)) = true then 5 else 0) := by
          intro t1 e1
          refine Ev.succ ?_
          simp only [impl_Raga_reason.j1]
          by_cases c : t1 = true
          · exact Ev.ite_pos c (Ev.cast (Ev.now _) (if_pos (e1.1 c)).symm)
          · refine Ev.ite_neg c (Ev.cast ?_ (if_neg (fun z => c (e1.2 z))).symm)
            by_cases cb : b < a
            · refine Ev.ite_pos cb (Ev.bind (slices_Contains_ev d _ hd) (h2 _ ?_))
              cases hasM d (tn b) <;> simp [cb]
            · refine Ev.ite_neg cb (h2 _ ?_)
              simp [cb]
        by_cases cb : b > a
        · refine Ev.ite_pos cb (Ev.bind (slices_Contains_ev u _ hu) (h1 _ ?_))
          cases hasM u (tn b) <;> simp [cb]
        · refine Ev.ite_neg cb (h1 _ ?_)
          simp [cb]
  unfold impl_Raga_reason.f
  refine Ev.bindc (show impl_ToneOf.f a = some (tn a) from rfl) (Ev.bindc (show impl_ToneOf.f b = some (tn b) from rfl) (Ev.bind (impl_hasTone_ev s u d st wk f _ hu hd) ?_))
  cases h1 : toneB u d (tn a) with
  | true =>
    refine Ev.ite_pos rfl (Ev.bind (impl_hasTone_ev s u d st wk f _ hu hd) (hj _ ?_))
    simp [h1]
  | false =>
    refine Ev.ite_neg (by decide) (hj _ ?_)
    simp [h1]
theorem all_drop_at {l : List Int} {i : Nat} (q : Int → Bool) (h : i < l.length) : (l.drop i).all q = (q (rd l i) && (l.drop (i + 1)).all q) := by
  rw [List.drop_eq_getElem_cons h, List.all_cons, rd_at h]
def inP (n : Int) : Bool := decide (-12 ≤ n) && decide (n ≤ 23)
theorem spec_l03Pitch_eq (n : Int) : spec_l03Pitch.f n = some (inP n) := by
  unfold spec_l03Pitch.f
  rw [spec_l00In_eq]
  rfl
def pitchesB (l : List Int) : Bool := decide (l.length ≤ 64) && l.all inP
theorem spec_l05Pitches_l0 (l : List Int) (hl : l.length ≤ 9223372036854775807) : ∀ (d i : Nat), l.length - i = d → i ≤ l.length → Ev (fun k => spec_l05Pitches.l0 k l i) ((l.drop i).all inP && decide (l.length ≤ 64)) := by
  intro d
  induction d with
  | zero =>
    intro i hd hi
    refine Ev.succ ?_
    simp only [spec_l05Pitches.l0]
    refine Ev.ite_neg (by omega) ?_
    rw [List.drop_of_length_le (by omega)]
    refine Ev.cast (Ev.now _) ?_
    simp
    omega
  | succ d ih =>
    intro i hd hi
    refine Ev.succ ?_
    simp only [spec_l05Pitches.l0]
    refine Ev.ite_pos (by omega) ?_
    refine Ev.ite_pos (by omega) ?_
    refine Ev.bindc (spec_l03Pitch_eq _) ?_
    rw [all_drop_at inP (by omega)]
    cases hq : inP (rd l i) with
    | true =>
      refine Ev.ite_pos rfl ?_
      rw [w64 (x := (i : Int) + 1) (by omega) (by omega)]
      simpa using ih (i + 1) (by omega) (by omega)
    | false =>
      refine Ev.ite_neg (by decide) ?_
      simpa using Ev.now false
theorem spec_l05Pitches_ev (l : List Int) (hl : l.length ≤ 9223372036854775807) : Ev (fun k => spec_l05Pitches.f k l) (pitchesB l) := by
  unfold spec_l05Pitches.f pitchesB
  have := spec_l05Pitches_l0 l hl l.length 0 (by omega) (by omega)
  rw [Bool.and_comm]
  simpa using this
theorem impl_pitchesOk_eq (l : List Int) : impl_pitchesOk.f l = some (pitchesB l) := by
  unfold impl_pitchesOk.f impl_allWithin.f pitchesB
  by_cases h : l.length ≤ 64
  · have h' : (l.length : Int) ≤ 64 := by omega
    simp only [h', h, if_true, decide_true, Bool.true_and]
    rfl
  · have h' : ¬ (l.length : Int) ≤ 64 := by omega
    simp [h]
    omega
theorem pitchesB_len {l : List Int} (h : pitchesB l = true) : l.length ≤ 64 := by
  simp only [pitchesB, Bool.and_eq_true, decide_eq_true_eq] at h
  exact h.1
theorem pitchesB_rd {l : List Int} (h : pitchesB l = true) {i : Int} (h0 : 0 ≤ i) (h1 : i < l.length) : -12 ≤ rd l i ∧ rd l i ≤ 23 := by
  simp only [pitchesB, Bool.and_eq_true, decide_eq_true_eq, List.all_eq_true] at h
  obtain ⟨n, rfl⟩ := Int.eq_ofNat_of_zero_le h0
  rw [rd_at (show n < l.length by omega)]
  have := h.2 l[n] (List.getElem_mem _)
  simpa [inP] using this
theorem szInt64S_ge (l : List Int) (a : Int) (h0 : 0 ≤ a) (h1 : a ≤ 1048576) (hl : l.length ≤ 9223372036854775807) : ∃ t, laws_szInt64S.f l a = some t ∧ (t < 0 ∨ (0 ≤ t ∧ t ≤ a ∧ l.length ≤ 1048576)) := by
  unfold laws_szInt64S.f
  rw [w64 (x := a - l.length) (by omega) (by omega)]
  by_cases h : a - (l.length : Int) < 0
  · exact ⟨-1, by rw [if_pos h], .inl (by omega)⟩
  · exact ⟨_, by rw [if_neg h], .inr (by omega)⟩
theorem szInt64SS_l0 (f : List (List Int)) (hf : f.length ≤ 9223372036854775807) (hr : ∀ y ∈ f, y.length ≤ 9223372036854775807) : ∀ (d i : Nat) (a : Int), f.length - i = d → 0 ≤ a → a ≤ 1048576 → (∀ j, j < i → j < f.length → (rd_L1 f j).length ≤ 1048576) →
    ∃ t, Ev (fun k => laws_szInt64SS.l0 k f a i) t ∧ (t < 0 ∨ (0 ≤ t ∧ t ≤ a ∧ ∀ j, j < f.length → (rd_L1 f j).length ≤ 1048576)) := by
  intro d
  induction d with
  | zero =>
    intro i a hd h0 h1 hj
    refine ⟨a, Ev.succ ?_, .inr ⟨h0, Int.le_refl _, fun j h => hj j (by omega) h⟩⟩
    simp only [laws_szInt64SS.l0]
    exact Ev.ite_neg (by omega) (Ev.now _)
  | succ d ih =>
    intro i a hd h0 h1 hj
    have hi : i < f.length := by omega
    obtain ⟨t, ht, hc⟩ := szInt64S_ge (rd_L1 f i) a h0 h1 (by rw [rdL_at hi]; exact hr _ (List.getElem_mem hi))
    rcases hc with hc | ⟨c0, c1, c2⟩
    · refine ⟨-1, Ev.succ ?_, .inl (by omega)⟩
      simp only [laws_szInt64SS.l0]
      exact Ev.ite_pos (by omega) (Ev.ite_pos (by omega) (Ev.bindc ht (Ev.ite_pos hc (Ev.now _))))
    · obtain ⟨r, hr1, hr2⟩ := ih (i + 1) t (by omega) c0 (by omega) (fun j h1 h2 => by
        by_cases e : j = i
        · subst e
          exact c2
        · exact hj j (by omega) h2)
      refine ⟨r, Ev.succ ?_, ?_⟩
      · simp only [laws_szInt64SS.l0]
        rw [w64 (x := (i : Int) + 1) (by omega) (by omega)]
        exact Ev.ite_pos (by omega) (Ev.ite_pos (by omega) (Ev.bindc ht (Ev.ite_neg (by omega) (by simpa using hr1))))
      · rcases hr2 with h | ⟨g0, g1, g2⟩
        · exact .inl h
        · exact .inr ⟨g0, by omega, g2⟩
theorem szInt64SS_ge (f : List (List Int)) (a : Int) (h0 : 0 ≤ a) (h1 : a ≤ 1048576) (hf : f.length ≤ 9223372036854775807) (hr : ∀ y ∈ f, y.length ≤ 9223372036854775807) :
    ∃ t, Ev (fun k => laws_szInt64SS.f k f a) t ∧ (t < 0 ∨ (0 ≤ t ∧ t ≤ a ∧ f.length ≤ 1048576 ∧ ∀ j, j < f.length → (rd_L1 f j).length ≤ 1048576)) := by
  unfold laws_szInt64SS.f
  rw [w64 (x := a - f.length) (by omega) (by omega)]
  by_cases h : a - (f.length : Int) < 0
  · exact ⟨-1, Ev.ite_pos h (Ev.now _), .inl (by omega)⟩
  · obtain ⟨t, h2, h3⟩ := szInt64SS_l0 f hf hr f.length 0 (a - f.length) (by omega) (by omega) (by omega) (fun j h => by omega)
    refine ⟨t, Ev.ite_neg h (by simpa using h2), ?_⟩
    rcases h3 with h3 | ⟨g0, g1, g2⟩
    · exact .inl h3
    · exact .inr ⟨g0, by omega, by omega, g2⟩
theorem setL_at {l : List (List Int)} {i : Nat} {v : List Int} {m : List (List Int)} (h : i < l.length) (e : l.take i = m) : (l.set i v).take (i + 1) = m ++ [v] := by
  rw [List.take_succ_eq_append_getElem (by simpa using h)]
  simp [List.take_set_of_le, e]
theorem toInt64SS_l0 (l : List (List Int)) (hl : l.length ≤ 1048576) (hr : ∀ j, j < l.length → (rd_L1 l j).length ≤ 1048576) : ∀ (d i : Nat) (m : List (List Int)), l.length - i = d → i ≤ l.length → m.length = l.length → m.take i = l.take i → Ev (fun k => laws_toInt64SS.l0 k l m i) l := by
  intro d
  induction d with
  | zero =>
    intro i m hd hi hm ht
    have : i = l.length := by omega
    subst this
    refine Ev.succ ?_
    simp only [laws_toInt64SS.l0]
    refine Ev.ite_neg (by omega) ?_
    rw [List.take_of_length_le (by omega), List.take_of_length_le (Nat.le_refl _)] at ht
    rw [ht]
    exact Ev.now _
  | succ d ih =>
    intro i m hd hi hm ht
    have hi' : i < l.length := by omega
    refine Ev.succ ?_
    simp only [laws_toInt64SS.l0]
    refine Ev.ite_pos (by omega) (Ev.ite_pos (by omega) (Ev.bind (toInt64S_ev (rd_L1 l i) (by have := hr i hi'; omega)) (Ev.ite_pos (by omega) ?_)))
    rw [w64 (x := (i : Int) + 1) (by omega) (by omega), rdL_at hi', Int.toNat_natCast]
    have := ih (i + 1) (m.set i l[i]) (by omega) (by omega) (by simpa using hm) (by
      rw [setL_at (by omega) ht, ← List.take_succ_eq_append_getElem (by omega)])
    simpa using this
theorem toInt64SS_ev (l : List (List Int)) (h : l.length ≤ 1048576) (hr : ∀ j, j < l.length → (rd_L1 l j).length ≤ 1048576) : Ev (fun k => laws_toInt64SS.f k l) l := by
  unfold laws_toInt64SS.f
  refine Ev.ite_pos (by omega) (Ev.ite_pos (by omega) ?_)
  exact toInt64SS_l0 l h hr l.length 0 _ (by omega) (by omega) (by simp) (by simp)
theorem eqInt64SS_l0 (l : List (List Int)) (hl : l.length ≤ 1048576) (hr : ∀ j, j < l.length → (rd_L1 l j).length ≤ 1048576) : ∀ (d i : Nat), l.length - i = d → Ev (fun k => laws_eqInt64SS.l0 k l l i) true := by
  intro d
  induction d with
  | zero =>
    intro i hd
    refine Ev.succ ?_
    simp only [laws_eqInt64SS.l0]
    exact Ev.ite_neg (by omega) (Ev.now _)
  | succ d ih =>
    intro i hd
    refine Ev.succ ?_
    simp only [laws_eqInt64SS.l0]
    rw [w64 (x := (i : Int) + 1) (by omega) (by omega)]
    exact Ev.ite_pos (by omega) (Ev.ite_pos (by omega) (Ev.ite_pos (by omega) (Ev.bind (eqInt64S_self _ (by have := hr i (by omega); omega)) (Ev.ite_pos rfl (by simpa using ih (i + 1) (by omega))))))
theorem eqInt64SS_self (l : List (List Int)) (hl : l.length ≤ 1048576) (hr : ∀ j, j < l.length → (rd_L1 l j).length ≤ 1048576) : Ev (fun k => laws_eqInt64SS.f k l l) true := by
  unfold laws_eqInt64SS.f
  exact Ev.ite_pos rfl (by simpa using eqInt64SS_l0 l hl hr l.length 0 (by omega))
def Fits (s : ByteArray) (u d : List Int) (f : List (List Int)) : Prop := s.size ≤ 1048576 ∧ u.length ≤ 1048576 ∧ d.length ≤ 1048576 ∧ f.length ≤ 1048576 ∧ ∀ j, j < f.length → (rd_L1 f j).length ≤ 1048576
theorem szRaga_ge (s : ByteArray) (u d : List Int) (st wk : Int) (f : List (List Int)) (a : Int) (h0 : 0 ≤ a) (h1 : a ≤ 1048576) (hs : s.size ≤ maxLen) (hu : u.length ≤ maxLen) (hd : d.length ≤ maxLen) (hf : f.length ≤ maxLen) (hr : ∀ y ∈ f, y.length ≤ maxLen) :
    ∃ t, Ev (fun k => laws_szRaga.f k s u d st wk f a) t ∧ (t < 0 ∨ (0 ≤ t ∧ t ≤ a ∧ Fits s u d f)) := by
  have e : maxLen ≤ 9223372036854775807 := by decide
  unfold laws_szRaga.f
  rw [w64 (x := a - s.size) (by omega) (by omega)]
  by_cases h : a - (s.size : Int) < 0
  · exact ⟨-1, Ev.ite_pos h (Ev.now _), .inl (by omega)⟩
  obtain ⟨t1, e1, c1⟩ := szInt64S_ge u (a - s.size) (by omega) (by omega) (Nat.le_trans hu e)
  rcases c1 with c1 | ⟨a1, b1, d1⟩
  · exact ⟨-1, Ev.ite_neg h (Ev.bindc e1 (Ev.ite_pos c1 (Ev.now _))), .inl (by omega)⟩
  obtain ⟨t2, e2, c2⟩ := szInt64S_ge d t1 (by omega) (by omega) (Nat.le_trans hd e)
  rcases c2 with c2 | ⟨a2, b2, d2⟩
  · exact ⟨-1, Ev.ite_neg h (Ev.bindc e1 (Ev.ite_neg (by omega) (Ev.bindc e2 (Ev.ite_pos c2 (Ev.now _))))), .inl (by omega)⟩
  obtain ⟨t3, e3, c3⟩ := szInt64SS_ge f t2 (by omega) (by omega) (Nat.le_trans hf e) (fun y hy => Nat.le_trans (hr y hy) e)
  rcases c3 with c3 | ⟨a3, b3, d3, f3⟩
  · exact ⟨-1, Ev.ite_neg h (Ev.bindc e1 (Ev.ite_neg (by omega) (Ev.bindc e2 (Ev.ite_neg (by omega) (Ev.bind e3 (Ev.ite_pos c3 (Ev.now _))))))), .inl (by omega)⟩
  · exact ⟨t3, Ev.ite_neg h (Ev.bindc e1 (Ev.ite_neg (by omega) (Ev.bindc e2 (Ev.ite_neg (by omega) (Ev.bind e3 (Ev.ite_neg (by omega) (Ev.now _))))))), .inr ⟨a3, by omega, by omega, d1, d2, d3, f3⟩⟩
theorem toRaga_ev {s : ByteArray} {u d : List Int} {f : List (List Int)} (h : Fits s u d f) (st wk : Int) : Ev (fun k => laws_toRaga.f k s u d st wk f) (s, u, d, st, wk, f) := by
  unfold laws_toRaga.f
  exact Ev.bind (toInt64S_ev u (by have := h.2.1; omega)) (Ev.bind (toInt64S_ev d (by have := h.2.2.1; omega)) (Ev.bind (toInt64SS_ev f h.2.2.2.1 h.2.2.2.2) (Ev.now _)))
theorem eqRaga_self {s : ByteArray} {u d : List Int} {f : List (List Int)} (h : Fits s u d f) (st wk : Int) : Ev (fun k => laws_eqRaga.f k s u d st wk f s u d st wk f) true := by
  unfold laws_eqRaga.f
  exact Ev.ite_pos rfl (Ev.bind (eqInt64S_self u (by have := h.2.1; omega)) (Ev.ite_pos rfl (Ev.bind (eqInt64S_self d (by have := h.2.2.1; omega)) (Ev.ite_pos rfl (Ev.ite_pos rfl (Ev.ite_pos rfl (Ev.bind (eqInt64SS_self f h.2.2.2.1 h.2.2.2.2) (Ev.ite_pos rfl (Ev.now _)))))))))
theorem spec_l00Max_eq (a b : Int) : spec_l00Max.f a b = some (max a b) := by
  unfold spec_l00Max.f
  by_cases h : a > b
  · rw [if_pos h, Int.max_def, if_neg (by omega)]
  · rw [if_neg h, Int.max_def, if_pos (by omega)]
theorem spec_l00Has_l0 (s : List Int) (t : Int) (hl : s.length ≤ 1048576) : ∀ (d i : Nat), s.length - i = d → Ev (fun k => spec_l00Has.l0 k s t i) (hasM (s.drop i) t) := by
  intro d
  induction d with
  | zero =>
    intro i hd
    refine Ev.succ ?_
    simp only [spec_l00Has.l0]
    refine Ev.ite_neg (by omega) ?_
    rw [List.drop_of_length_le (by omega)]
    exact Ev.now _
  | succ d ih =>
    intro i hd
    have hi : i < s.length := by omega
    refine Ev.succ ?_
    simp only [spec_l00Has.l0]
    rw [w64 (x := (i : Int) + 1) (by omega) (by omega), List.drop_eq_getElem_cons hi, ← rd_at hi]
    refine Ev.ite_pos (by omega) (Ev.ite_pos (by omega) ?_)
    by_cases h : rd s i = t
    · refine Ev.ite_pos h (Ev.cast (Ev.now _) ?_)
      simp [hasM, h]
    · refine Ev.ite_neg h (Ev.cast (by simpa using ih (i + 1) (by omega)) ?_)
      simp [hasM, h]
theorem spec_l00Has_ev (s : List Int) (t : Int) (hl : s.length ≤ 1048576) : Ev (fun k => spec_l00Has.f k s t) (hasM s t) := by
  unfold spec_l00Has.f
  simpa using spec_l00Has_l0 s t hl s.length 0 (by omega)
theorem spec_l03Scale_ev (l : List Int) (hl : l.length ≤ 9223372036854775807) : Ev (fun k => spec_l03Scale.f k l) (scaleB l) := by
  unfold spec_l03Scale.f scaleB
  by_cases h : 5 ≤ l.length
  · refine Ev.ite_pos (by omega) ?_
    refine Ev.bind (a := rgB l 0 11 0 l.length) ?_ ?_
    · unfold spec_l00Rises.f
      simpa using spec_l00Rises_l0 l 0 11 hl l.length 0 (by omega) (by omega)
    · cases g : rgB l 0 11 0 l.length with
      | true =>
        refine Ev.ite_pos rfl (Ev.ite_pos (by omega) ?_)
        simpa [h] using Ev.now _
      | false =>
        refine Ev.ite_neg (by decide) ?_
        simpa using Ev.now false
  · refine Ev.ite_neg (by omega) ?_
    simpa [h] using Ev.now false
theorem spec_l05Tone_ev (s : ByteArray) (u d : List Int) (st wk : Int) (f : List (List Int)) (t : Int) (hu : u.length ≤ 1048576) (hd : d.length ≤ 1048576) : Ev (fun k => spec_l05Tone.f k s u d st wk f t) (toneB u d t) := by
  unfold spec_l05Tone.f toneB
  refine Ev.bind (spec_l00Has_ev u t hu) ?_
  cases h : hasM u t with
  | true => exact Ev.ite_pos rfl (Ev.now _)
  | false => exact Ev.ite_neg (by decide) (Ev.bind (spec_l00Has_ev d t hd) (Ev.now _))
theorem spec_l05Pair_eq (p : List Int) : spec_l05Pair.f p = some (pairB p) := by
  unfold spec_l05Pair.f pairB
  by_cases h : p.length = 2
  · rw [if_pos (by omega), if_pos (by omega), spec_l00In_eq, spec_l00In_eq]
    simp only [Option.bind_some]
    cases h1 : (decide (0 ≤ rd p 0) && decide (rd p 0 ≤ 11)) with
    | false => simp [h]
    | true =>
      rw [if_pos rfl, if_pos (by omega)]
      cases h2 : (decide (0 ≤ rd p 1) && decide (rd p 1 ≤ 11)) with
      | false => simp [h]
      | true =>
        rw [if_pos rfl]
        by_cases h3 : rd p 0 = rd p 1 <;> simp [h, h3]
  · rw [if_neg (by omega)]
    simp [h]
theorem spec_l05Pairs_l0 (f : List (List Int)) (hf : f.length ≤ 1048576) : ∀ (d i : Nat), f.length - i = d → (i ≠ 0 → i ≤ f.length ∧ pairB (rd_L1 f ((i : Int) - 1)) = true) → Ev (fun k => spec_l05Pairs.l0 k f i) (pairsM f d i && decide (f.length ≤ 8)) := by
  intro d
  induction d with
  | zero =>
    intro i hd hp
    refine Ev.succ ?_
    simp only [spec_l05Pairs.l0]
    refine Ev.ite_neg (by omega) (Ev.cast (Ev.now _) ?_)
    simp [pairsM]
    omega
  | succ d ih =>
    intro i hd hp
    have hn : pairB (rd_L1 f i) = true → Ev (fun k => spec_l05Pairs.l0 k f ((i : Int) + 1)) (pairsM f d (i + 1) && decide (f.length ≤ 8)) := fun h => by
      have := ih (i + 1) (by omega) (fun _ => ⟨by omega, by rw [show ((i + 1 : Nat) : Int) - 1 = (i : Int) by omega]; exact h⟩)
      simpa using this
    refine Ev.succ ?_
    simp only [spec_l05Pairs.l0, pairsM]
    rw [w64 (x := (i : Int) + 1) (by omega) (by omega)]
    refine Ev.ite_pos (by omega) (Ev.ite_pos (by omega) (Ev.bindc (spec_l05Pair_eq _) ?_))
    cases h : pairB (rd_L1 f i) with
    | false =>
      refine Ev.ite_neg (by decide) (Ev.cast (Ev.now false) ?_)
      simp
    | true =>
      have hl := pairB_len h
      refine Ev.ite_pos rfl ?_
      by_cases h0 : i = 0
      · refine Ev.ite_neg (by omega) (Ev.cast (hn h) ?_)
        simp [h0]
      · obtain ⟨h1, h2⟩ := hp h0
        have hl2 := pairB_len h2
        refine Ev.ite_pos (by omega) ?_
        rw [w64 (x := (i : Int) - 1) (by omega) (by omega)]
        refine Ev.ite_pos (by omega) (Ev.ite_pos (by omega) (Ev.ite_pos (by omega) (Ev.ite_pos (by omega) ?_)))
        by_cases c1 : rd (rd_L1 f ((i : Int) - 1)) 0 > rd (rd_L1 f i) 0
        · refine Ev.ite_pos c1 (Ev.cast (Ev.now false) ?_)
          have e1 : ¬ rd (rd_L1 f ((i : Int) - 1)) 0 < rd (rd_L1 f i) 0 := by omega
          have e2 : ¬ rd (rd_L1 f ((i : Int) - 1)) 0 = rd (rd_L1 f i) 0 := by omega
          simp [h0, ltP, e1, e2]
        · refine Ev.ite_neg c1 ?_
          by_cases c2 : rd (rd_L1 f ((i : Int) - 1)) 0 = rd (rd_L1 f i) 0
          · refine Ev.ite_pos c2 (Ev.ite_pos (by omega) (Ev.ite_pos (by omega) ?_))
            by_cases c3 : rd (rd_L1 f ((i : Int) - 1)) 1 ≥ rd (rd_L1 f i) 1
            · refine Ev.ite_pos c3 (Ev.cast (Ev.now false) ?_)
              have e1 : ¬ rd (rd_L1 f ((i : Int) - 1)) 1 < rd (rd_L1 f i) 1 := by omega
              simp [h0, ltP, c2, e1]
            · refine Ev.ite_neg c3 (Ev.cast (hn h) ?_)
              have e1 : rd (rd_L1 f ((i : Int) - 1)) 1 < rd (rd_L1 f i) 1 := by omega
              simp [h0, ltP, c2, e1]
          · refine Ev.ite_neg c2 (Ev.cast (hn h) ?_)
            have e1 : rd (rd_L1 f ((i : Int) - 1)) 0 < rd (rd_L1 f i) 0 := by omega
            simp [h0, ltP, e1]
theorem spec_l05Ok_ev (s : ByteArray) (u d : List Int) (st wk : Int) (f : List (List Int)) (hs : s.size ≤ 1048576) (hu : u.length ≤ 1048576) (hd : d.length ≤ 1048576) (hf : f.length ≤ 1048576) : Ev (fun k => spec_l05Ok.f k s u d st wk f) (ragaB s u d st wk f) := by
  unfold spec_l05Ok.f ragaB
  refine Ev.bind (spec_l01Name_ev s) ?_
  cases h1 : nameB s with
  | false => exact Ev.ite_neg (by decide) (Ev.now _)
  | true =>
    refine Ev.ite_pos rfl (Ev.bind (spec_l03Scale_ev u (by omega)) ?_)
    cases h2 : scaleB u with
    | false => exact Ev.ite_neg (by decide) (Ev.now _)
    | true =>
      refine Ev.ite_pos rfl (Ev.bind (spec_l03Scale_ev d (by omega)) ?_)
      cases h3 : scaleB d with
      | false => exact Ev.ite_neg (by decide) (Ev.now _)
      | true =>
        refine Ev.ite_pos rfl (Ev.bind (spec_l05Tone_ev s u d st wk f st hu hd) ?_)
        cases h4 : toneB u d st with
        | false => exact Ev.ite_neg (by decide) (Ev.now _)
        | true =>
          refine Ev.ite_pos rfl (Ev.bind (spec_l05Tone_ev s u d st wk f wk hu hd) ?_)
          cases h5 : toneB u d wk with
          | false => exact Ev.ite_neg (by decide) (Ev.now _)
          | true =>
            refine Ev.ite_pos rfl ?_
            by_cases h6 : st = wk
            · refine Ev.ite_pos h6 (Ev.cast (Ev.now false) ?_)
              simp [h6]
            · refine Ev.ite_neg h6 ?_
              refine Ev.bind (a := pairsM f f.length 0 && decide (f.length ≤ 8)) ?_ (Ev.cast (Ev.now _) (by simp [h6]))
              unfold spec_l05Pairs.f
              simpa using spec_l05Pairs_l0 f hf f.length 0 (by omega) (by simp)
theorem spec_l05Reason_l0 (s : ByteArray) (u d : List Int) (st wk : Int) (f : List (List Int)) (a b : Int) (hf : f.length ≤ 8) (hp : ∀ j, j < f.length → (rd_L1 f j).length = 2) : ∀ (m i : Nat), f.length - i = m → Ev (fun k => spec_l05Reason.l0 k a b i s u d st wk f) (if (f.drop i).any (pairQ a b) = true then 5 else 0) := by
  intro m
  induction m with
  | zero =>
    intro i hm
    refine Ev.succ ?_
    simp only [spec_l05Reason.l0]
    refine Ev.ite_neg (by omega) (Ev.cast (Ev.now _) ?_)
    rw [List.drop_of_length_le (by omega)]
    rfl
  | succ m ih =>
    intro i hm
    have hl := hp i (by omega)
    have hn : Ev (fun k => spec_l05Reason.l0 k a b ((i : Int) + 1) s u d st wk f) (if (f.drop (i + 1)).any (pairQ a b) = true then 5 else 0) := ih (i + 1) (by omega)
    refine Ev.succ ?_
    simp only [spec_l05Reason.l0]
    rw [w64 (x := (i : Int) + 1) (by omega) (by omega), List.drop_eq_getElem_cons (show i < f.length by omega), ← rdL_at (show i < f.length by omega), List.any_cons]
    refine Ev.ite_pos (by omega) (Ev.ite_pos (by omega) (Ev.ite_pos (by omega) ?_))
    by_cases c1 : rd (rd_L1 f i) 0 = a
    · refine Ev.ite_pos c1 (Ev.ite_pos (by omega) ?_)
      by_cases c2 : rd (rd_L1 f i) 1 = b
      · have e : pairQ a b (rd_L1 f i) = true := by simp [pairQ, c1, c2]
        refine Ev.ite_pos c2 (Ev.cast (Ev.now _) ?_)
        rw [e, Bool.true_or, if_pos rfl]
      · have e : pairQ a b (rd_L1 f i) = false := by simp [pairQ, c2]
        rw [e, Bool.false_or]
        exact Ev.ite_neg c2 hn
    · have e : pairQ a b (rd_L1 f i) = false := by simp [pairQ, c1]
      rw [e, Bool.false_or]
      exact Ev.ite_neg c1 hn
theorem spec_l05Reason_ev (s : ByteArray) (u d : List Int) (st wk : Int) (f : List (List Int)) (a b : Int) (ha : -1000 ≤ a ∧ a ≤ 1000) (hb : -1000 ≤ b ∧ b ≤ 1000) (hu : u.length ≤ 1048576) (hd : d.length ≤ 1048576) (hf : f.length ≤ 8) (hp : ∀ j, j < f.length → (rd_L1 f j).length = 2) :
    Ev (fun k => spec_l05Reason.f k s u d st wk f a b) (reasonR u d f a b) := by
  have hj : ∀ t : Bool, (toneB u d (tn a) && toneB u d (tn b)) = !t → Ev (fun k => spec_l05Reason.j0 k a b (tn a) (tn b) t s u d st wk f) (reasonR u d f a b) := by
    intro t ht
    refine Ev.succ ?_
    simp only [spec_l05Reason.j0]
    unfold reasonR
    rw [ht]
    cases t with
    | true => exact Ev.ite_pos rfl (Ev.now _)
    | false =>
      rw [w64 (x := a - b) (by omega) (by omega), w64 (x := b - a) (by omega) (by omega)]
      refine Ev.ite_neg (by decide) (Ev.bindc (spec_l00Max_eq _ _) ?_)
      rw [if_pos (show (!false) = true from rfl)]
      by_cases c1 : max (a - b) (b - a) > 12
      · exact Ev.ite_pos c1 (Ev.cast (Ev.now _) (if_pos c1).symm)
      · refine Ev.ite_neg c1 (Ev.cast ?_ (if_neg c1).symm)
        have h2 : ∀ t2 : Bool, (t2 = true ↔ (b < a ∧ hasM d (tn b) = false)) → Ev (fun k => spec_l05Reason.j2 k (tn a) (tn b) t2 s u d st wk f) (if b < a ∧ hasM d (tn b) = false then 4 else if f.any (pairQ (tn a) (tn b)) = true then 5 else 0) := by
          intro t2 e2
          refine Ev.succ ?_
          simp only [spec_l05Reason.j2]
          by_cases c : t2 = true
          · exact Ev.ite_pos c (Ev.cast (Ev.now _) (if_pos (e2.1 c)).symm)
          · refine Ev.ite_neg c (Ev.cast ?_ (if_neg (fun z => c (e2.2 z))).symm)
            simpa using spec_l05Reason_l0 s u d st wk f (tn a) (tn b) hf hp f.length 0 (by omega)
        have h1 : ∀ t1 : Bool, (t1 = true ↔ (b > a ∧ hasM u (tn b) = false)) → Ev (fun k => spec_l05Reason.j1 k a b (tn a) (tn b) t1 s u d st wk f) (if b > a ∧ hasM u (tn b) = false then 3 else if b < a ∧ hasM d (tn b) = false then 4 else if f.any (pairQ (tn a) (tn b)) = true then 5 else 0) := by
          intro t1 e1
          refine Ev.succ ?_
          simp only [spec_l05Reason.j1]
          by_cases c : t1 = true
          · exact Ev.ite_pos c (Ev.cast (Ev.now _) (if_pos (e1.1 c)).symm)
          · refine Ev.ite_neg c (Ev.cast ?_ (if_neg (fun z => c (e1.2 z))).symm)
            by_cases cb : b < a
            · refine Ev.ite_pos cb (Ev.bind (spec_l00Has_ev d _ hd) (h2 _ ?_))
              cases hasM d (tn b) <;> simp [cb]
            · refine Ev.ite_neg cb (h2 _ ?_)
              simp [cb]
        by_cases cb : b > a
        · refine Ev.ite_pos cb (Ev.bind (spec_l00Has_ev u _ hu) (h1 _ ?_))
          cases hasM u (tn b) <;> simp [cb]
        · refine Ev.ite_neg cb (h1 _ ?_)
          simp [cb]
  unfold spec_l05Reason.f
  refine Ev.bindc (show spec_l03Tone.f a = some (tn a) from rfl) (Ev.bindc (show spec_l03Tone.f b = some (tn b) from rfl) (Ev.bind (spec_l05Tone_ev s u d st wk f _ hu hd) ?_))
  cases h1 : toneB u d (tn a) with
  | true =>
    refine Ev.ite_pos rfl (Ev.bind (spec_l05Tone_ev s u d st wk f _ hu hd) (hj _ ?_))
    simp [h1]
  | false =>
    refine Ev.ite_neg (by decide) (hj _ ?_)
    simp [h1]
def wrongC (u0 d0 : List Int) (f0 : List (List Int)) (l : List Int) : Nat → Nat → Int
  | 0, _ => 0
  | m + 1, i => (if reasonR u0 d0 f0 (rd l ((i : Int) - 1)) (rd l i) = 0 then 0 else 1) + wrongC u0 d0 f0 l m (i + 1)
theorem impl_evid_l0 (s0 : ByteArray) (u0 d0 : List Int) (st0 wk0 : Int) (f0 : List (List Int)) (l : List Int) (h0 : Fits s0 u0 d0 f0) (v0 : ragaB s0 u0 d0 st0 wk0 f0 = true) (hp : pitchesB l = true) : ∀ (m i : Nat) (x : Int), l.length - i = m → 1 ≤ i → 0 ≤ x → x ≤ i → Ev (fun k => impl_Raga_wrongMoves.l0 k l x i s0 u0 d0 st0 wk0 f0) (x + wrongC u0 d0 f0 l m i) := by
  obtain ⟨p1, p2, p3, p4⟩ := ragaB_parts v0
  have hl := pitchesB_len hp
  intro m
  induction m with
  | zero =>
    intro i x hm hi x0 x1
    refine Ev.succ ?_
    simp only [impl_Raga_wrongMoves.l0]
    refine Ev.ite_neg (by omega) ?_
    simpa [wrongC] using Ev.now _
  | succ m ih =>
    intro i x hm hi x0 x1
    have q1 := pitchesB_rd hp (i := (i : Int) - 1) (by omega) (by omega)
    have q2 := pitchesB_rd hp (i := (i : Int)) (by omega) (by omega)
    refine Ev.succ ?_
    simp only [impl_Raga_wrongMoves.l0, wrongC]
    rw [w64 (x := (i : Int) - 1) (by omega) (by omega), w64 (x := (i : Int) + 1) (by omega) (by omega), w64 (x := x + 1) (by omega) (by omega)]
    refine Ev.ite_pos (by omega) (Ev.ite_pos (by omega) (Ev.ite_pos (by omega) (Ev.ite_pos (by omega) (Ev.bind (impl_reason_ev s0 u0 d0 st0 wk0 f0 _ _ (by omega) (by omega) h0.2.1 h0.2.2.1 p3 p4) ?_))))
    by_cases c : reasonR u0 d0 f0 (rd l ((i : Int) - 1)) (rd l i) = 0
    · rw [if_pos c]
      exact Ev.ite_pos c (Ev.cast (ih (i + 1) x (by omega) (by omega) (by omega) (by omega)) (by omega))
    · rw [if_neg c]
      exact Ev.ite_neg c (Ev.cast (ih (i + 1) (x + 1) (by omega) (by omega) (by omega) (by omega)) (by omega))
theorem spec_evid_l0 (s0 : ByteArray) (u0 d0 : List Int) (st0 wk0 : Int) (f0 : List (List Int)) (l : List Int) (h0 : Fits s0 u0 d0 f0) (v0 : ragaB s0 u0 d0 st0 wk0 f0 = true) (hp : pitchesB l = true) : ∀ (m i : Nat) (g x : Int), l.length - i = m → 1 ≤ i → 0 ≤ x → x ≤ i → 0 ≤ g → g ≤ i → Ev (fun k => spec_l12Evidence.l0 k l g x i s0 u0 d0 st0 wk0 f0) (g + ((m : Int) - wrongC u0 d0 f0 l m i), x + wrongC u0 d0 f0 l m i) := by
  obtain ⟨p1, p2, p3, p4⟩ := ragaB_parts v0
  have hl := pitchesB_len hp
  intro m
  induction m with
  | zero =>
    intro i g x hm hi x0 x1 g0 g1
    refine Ev.succ ?_
    simp only [spec_l12Evidence.l0]
    refine Ev.ite_neg (by omega) ?_
    simpa [wrongC] using Ev.now _
  | succ m ih =>
    intro i g x hm hi x0 x1 g0 g1
    have q1 := pitchesB_rd hp (i := (i : Int) - 1) (by omega) (by omega)
    have q2 := pitchesB_rd hp (i := (i : Int)) (by omega) (by omega)
    refine Ev.succ ?_
    simp only [spec_l12Evidence.l0, wrongC]
    rw [w64 (x := (i : Int) - 1) (by omega) (by omega), w64 (x := (i : Int) + 1) (by omega) (by omega), w64 (x := x + 1) (by omega) (by omega), w64 (x := g + 1) (by omega) (by omega)]
    refine Ev.ite_pos (by omega) (Ev.ite_pos (by omega) (Ev.ite_pos (by omega) (Ev.ite_pos (by omega) (Ev.bind (spec_l05Reason_ev s0 u0 d0 st0 wk0 f0 _ _ (by omega) (by omega) h0.2.1 h0.2.2.1 p3 p4) ?_))))
    by_cases c : reasonR u0 d0 f0 (rd l ((i : Int) - 1)) (rd l i) = 0
    · rw [if_pos c]
      refine Ev.ite_pos c (Ev.cast (ih (i + 1) (g + 1) x (by omega) (by omega) (by omega) (by omega) (by omega) (by omega)) ?_)
      rw [show g + 1 + ((m : Int) - wrongC u0 d0 f0 l m (i + 1)) = g + (((m + 1 : Nat) : Int) - (0 + wrongC u0 d0 f0 l m (i + 1))) by omega, Int.zero_add]
    · rw [if_neg c]
      refine Ev.ite_neg c (Ev.cast (ih (i + 1) g (x + 1) (by omega) (by omega) (by omega) (by omega) (by omega) (by omega)) ?_)
      rw [show g + ((m : Int) - wrongC u0 d0 f0 l m (i + 1)) = g + (((m + 1 : Nat) : Int) - (1 + wrongC u0 d0 f0 l m (i + 1))) by omega, show x + 1 + wrongC u0 d0 f0 l m (i + 1) = x + (1 + wrongC u0 d0 f0 l m (i + 1)) by omega]
def ragaOf (x : S36) : S42 := ⟨x.f0, x.f1, x.f2, x.f3, x.f4, x.f5⟩
theorem rdr_at {l : List S42} {i : Nat} (h : i < l.length) : rd_T42 l (i : Int) = l[i] := by simp [rd_T42, h]
theorem rds_at {l : List S36} {i : Nat} (h : i < l.length) : rd_T36 l (i : Int) = l[i] := by simp [rd_T36, h]
theorem setr_at {l : List S42} {i : Nat} {v : S42} {m : List S42} (h : i < l.length) (e : l.take i = m) : (l.set i v).take (i + 1) = m ++ [v] := by
  rw [List.take_succ_eq_append_getElem (by simpa using h)]
  simp [List.take_set_of_le, e]
def FitX (x : S36) : Prop := Fits x.f0 x.f1 x.f2 x.f5
def InMem (x : S36) : Prop := x.f0.size ≤ maxLen ∧ x.f1.length ≤ maxLen ∧ x.f2.length ≤ maxLen ∧ x.f5.length ≤ maxLen ∧ ∀ y ∈ x.f5, y.length ≤ maxLen
theorem szRagaS_l0 (l : List S36) (hl : l.length ≤ 1048576) (hs : ∀ x ∈ l, InMem x) : ∀ (d i : Nat) (a : Int), l.length - i = d → 0 ≤ a → a ≤ 1048576 → ∃ t, Ev (fun k => laws_szRagaS.l0 k l a i) t ∧ (t < 0 ∨ ∀ j (hj : j < l.length), i ≤ j → FitX l[j]) := by
  intro d
  induction d with
  | zero =>
    intro i a hd h0 h1
    refine ⟨a, Ev.succ ?_, .inr fun j hj hi => by omega⟩
    simp only [laws_szRagaS.l0]
    exact Ev.ite_neg (by omega) (Ev.now _)
  | succ d ih =>
    intro i a hd h0 h1
    have hi : i < l.length := by omega
    obtain ⟨q0, q1, q2, q5, q6⟩ := hs l[i] (List.getElem_mem hi)
    obtain ⟨t, et, ct⟩ := szRaga_ge l[i].f0 l[i].f1 l[i].f2 l[i].f3 l[i].f4 l[i].f5 a h0 h1 q0 q1 q2 q5 q6
    rcases ct with ct | ⟨c0, c1, hf⟩
    · refine ⟨-1, Ev.succ ?_, .inl (by omega)⟩
      simp only [laws_szRagaS.l0]
      rw [rds_at hi]
      exact Ev.ite_pos (by omega) (Ev.ite_pos (by omega) (Ev.bind et (Ev.ite_pos ct (Ev.now _))))
    · obtain ⟨t', et', ct'⟩ := ih (i + 1) t (by omega) c0 (by omega)
      refine ⟨t', Ev.succ ?_, ct'.imp id fun h j hj hij => ?_⟩
      · simp only [laws_szRagaS.l0]
        rw [rds_at hi, w64 (x := (i : Int) + 1) (by omega) (by omega)]
        exact Ev.ite_pos (by omega) (Ev.ite_pos (by omega) (Ev.bind et (Ev.ite_neg (by omega) (by simpa using et'))))
      · by_cases e : i = j
        · subst e; exact hf
        · exact h j hj (by omega)
theorem szRagaS_ge (l : List S36) (hl : l.length ≤ maxLen) (hs : ∀ x ∈ l, InMem x) : ∃ t, Ev (fun k => laws_szRagaS.f k l 1048576) t ∧ (t < 0 ∨ (l.length ≤ 1048576 ∧ ∀ x ∈ l, FitX x)) := by
  have e : maxLen ≤ 9223372036854775807 := by decide
  unfold laws_szRagaS.f
  rw [w64 (x := (1048576 : Int) - l.length) (by omega) (by omega)]
  by_cases h : (1048576 : Int) - (l.length : Int) < 0
  · exact ⟨-1, Ev.ite_pos h (Ev.now _), .inl (by omega)⟩
  · obtain ⟨t, ht, ct⟩ := szRagaS_l0 l (by omega) hs l.length 0 (1048576 - l.length) (by omega) (by omega) (by omega)
    refine ⟨t, Ev.ite_neg h (by simpa using ht), ct.imp id fun c => ⟨by omega, fun x hx => ?_⟩⟩
    obtain ⟨j, hj, rfl⟩ := List.getElem_of_mem hx
    exact c j hj (by omega)
theorem toRagaS_l0 (l : List S36) (hl : l.length ≤ 9223372036854775807) (hf : ∀ x ∈ l, FitX x) : ∀ (d i : Nat) (m : List S42), l.length - i = d → i ≤ l.length → m.length = l.length → m.take i = (l.map ragaOf).take i → Ev (fun k => laws_toRagaS.l0 k l m i) (l.map ragaOf) := by
  intro d
  induction d with
  | zero =>
    intro i m hd hi hm ht
    have : i = l.length := by omega
    subst this
    refine Ev.succ ?_
    simp only [laws_toRagaS.l0]
    refine Ev.ite_neg (by omega) ?_
    rw [List.take_of_length_le (by omega), List.take_of_length_le (by simp)] at ht
    rw [ht]
    exact Ev.now _
  | succ d ih =>
    intro i m hd hi hm ht
    have hi' : i < l.length := by omega
    have hx := toRaga_ev (hf l[i] (List.getElem_mem hi')) l[i].f3 l[i].f4
    refine Ev.succ ?_
    simp only [laws_toRagaS.l0]
    rw [w64 (x := (i : Int) + 1) (by omega) (by omega), rds_at hi', Int.toNat_natCast]
    refine Ev.ite_pos (by omega) (Ev.ite_pos (by omega) (Ev.bind hx (Ev.ite_pos (by omega) ?_)))
    have := ih (i + 1) (m.set i (ragaOf l[i])) (by omega) (by omega) (by simpa using hm) (by
      rw [setr_at (by omega) ht, List.take_succ_eq_append_getElem (by simpa using hi')]
      simp)
    simpa [ragaOf] using this
theorem toRagaS_ev (l : List S36) (h : l.length ≤ 1048576) (hf : ∀ x ∈ l, FitX x) : Ev (fun k => laws_toRagaS.f k l) (l.map ragaOf) := by
  unfold laws_toRagaS.f
  refine Ev.ite_pos (by omega) ?_
  refine Ev.ite_pos (by omega) ?_
  exact toRagaS_l0 l (by omega) hf l.length 0 _ (by omega) (by omega) (by simp) (by simp)
def FitR (x : S42) : Prop := Fits x.f0 x.f1 x.f2 x.f5
theorem eqRagaS_l0 (a : List S42) (hl : a.length ≤ 9223372036854775807) (hf : ∀ x ∈ a, FitR x) : ∀ (d i : Nat), a.length - i = d → Ev (fun k => laws_eqRagaS.l0 k a a i) true := by
  intro d
  induction d with
  | zero =>
    intro i hd
    refine Ev.succ ?_
    simp only [laws_eqRagaS.l0]
    exact Ev.ite_neg (by omega) (Ev.now _)
  | succ d ih =>
    intro i hd
    have hi : i < a.length := by omega
    refine Ev.succ ?_
    simp only [laws_eqRagaS.l0]
    rw [w64 (x := (i : Int) + 1) (by omega) (by omega), rdr_at hi]
    exact Ev.ite_pos (by omega) (Ev.ite_pos (by omega) (Ev.ite_pos (by omega) (Ev.bind (eqRaga_self (hf a[i] (List.getElem_mem hi)) a[i].f3 a[i].f4) (Ev.ite_pos rfl (by simpa using ih (i + 1) (by omega))))))
theorem eqRagaS_self (a : List S42) (hl : a.length ≤ 9223372036854775807) (hf : ∀ x ∈ a, FitR x) : Ev (fun k => laws_eqRagaS.f k a a) true := by
  unfold laws_eqRagaS.f
  exact Ev.ite_pos rfl (by simpa using eqRagaS_l0 a hl hf a.length 0 (by omega))
def ragR (x : S42) : Bool := ragaB x.f0 x.f1 x.f2 x.f3 x.f4 x.f5
theorem spec_l12List_l0 (l : List S42) (hl : l.length ≤ 9223372036854775806) (hf : ∀ x ∈ l, FitR x) : ∀ (d i : Nat), l.length - i = d → Ev (fun k => spec_l12List.l0 k l i) ((l.drop i).all ragR && decide ((l.length : Int) ≤ 12)) := by
  intro d
  induction d with
  | zero =>
    intro i hd
    refine Ev.succ ?_
    simp only [spec_l12List.l0]
    rw [List.drop_of_length_le (by omega)]
    exact Ev.ite_neg (by omega) (Ev.now _)
  | succ d ih =>
    intro i hd
    have hi : i < l.length := by omega
    have h0 := hf l[i] (List.getElem_mem hi)
    refine Ev.succ ?_
    simp only [spec_l12List.l0]
    rw [w64 (x := (i : Int) + 1) (by omega) (by omega), rdr_at hi, List.drop_eq_getElem_cons hi, List.all_cons]
    refine Ev.ite_pos (by omega) (Ev.ite_pos (by omega) (Ev.bind (spec_l05Ok_ev l[i].f0 l[i].f1 l[i].f2 l[i].f3 l[i].f4 l[i].f5 h0.1 h0.2.1 h0.2.2.1 h0.2.2.2.1) ?_))
    cases c : ragR l[i] with
    | true => exact Ev.ite_pos c (by simpa using ih (i + 1) (by omega))
    | false => exact Ev.ite_neg (by rw [show ragaB _ _ _ _ _ _ = false from c]; decide) (Ev.now _)
def ragasB (l : List S42) : Bool := l.all ragR && decide ((l.length : Int) ≤ 12)
theorem spec_l12List_ev (l : List S42) (hl : l.length ≤ 1048576) (hf : ∀ x ∈ l, FitR x) : Ev (fun k => spec_l12List.f k l) (ragasB l) := by
  unfold spec_l12List.f ragasB
  simpa using spec_l12List_l0 l (by omega) hf l.length 0 (by omega)
theorem Ev.listR {g : S42 → Nat → Option Bool} {r : S42 → Bool} : ∀ (l : List S42), (∀ p ∈ l, Ev (g p) (r p)) → ∃ K, ∀ k, K ≤ k → ∀ p ∈ l, g p k = some (r p)
  | [], _ => ⟨0, fun _ _ p hp => by cases hp⟩
  | x :: l, h => by
    obtain ⟨K, hK⟩ := h x List.mem_cons_self
    obtain ⟨K2, hK2⟩ := Ev.listR l (fun p hp => h p (List.mem_cons_of_mem _ hp))
    refine ⟨max K K2, fun k hk p hp => ?_⟩
    rcases List.mem_cons.1 hp with e | e
    · rw [e]; exact hK k (by omega)
    · exact hK2 k (by omega) p e
theorem impl_ragasOk_ev (l : List S42) (hf : ∀ x ∈ l, FitR x) : Ev (fun k => impl_ragasOk.f k l) (ragasB l) := by
  unfold impl_ragasOk.f ragasB
  have ha : Ev (fun k => impl_raga_any.f k l) (l.any fun p => !ragR p) := by
    obtain ⟨K, hK⟩ := Ev.listR (g := fun p k => impl_ragasOk_1.f k p.f0 p.f1 p.f2 p.f3 p.f4 p.f5) (r := fun p => !ragR p) l (fun p hp => by
      unfold impl_ragasOk_1.f
      have h0 := hf p hp
      exact Ev.bind (impl_ValidRaga_ev p.f0 p.f1 p.f2 p.f3 p.f4 p.f5 h0.1 h0.2.1 h0.2.2.1 h0.2.2.2.1) (Ev.now _))
    refine ⟨K, fun k hk => ?_⟩
    have e := hK k hk
    show impl_raga_any.f k l = _
    unfold impl_raga_any.f
    rw [if_pos (List.all_eq_true.2 fun p hp => by rw [e p hp]; rfl)]
    congr 1
    rw [Bool.eq_iff_iff, List.any_eq_true, List.any_eq_true]
    exact ⟨fun ⟨p, hp, hq⟩ => ⟨p, hp, by rw [e p hp] at hq; simpa using hq⟩, fun ⟨p, hp, hq⟩ => ⟨p, hp, by rw [e p hp]; simpa using hq⟩⟩
  by_cases c : (l.length : Int) ≤ 12
  · refine Ev.ite_pos c (Ev.bind ha (Ev.cast (Ev.now _) ?_))
    rw [decide_eq_true c, Bool.and_true, List.not_any_eq_all_not]
    simp
  · exact Ev.ite_neg c (Ev.cast (Ev.now _) (by rw [decide_eq_false c, Bool.and_false]))
def sizeC (u d : List Int) : Nat → Nat → Int
  | 0, _ => 0
  | m + 1, i => (if toneB u d (i : Int) = true then 1 else 0) + sizeC u d m (i + 1)
theorem spec_l12Size_l0 (s : ByteArray) (u d : List Int) (st wk : Int) (f : List (List Int)) (hu : u.length ≤ 1048576) (hd : d.length ≤ 1048576) : ∀ (m i : Nat) (x : Int), 12 - i = m → i ≤ 12 → 0 ≤ x → x ≤ i → Ev (fun k => spec_l12Size.l0 k x i s u d st wk f) (x + sizeC u d m i) := by
  intro m
  induction m with
  | zero =>
    intro i x hm hi h0 h1
    refine Ev.succ ?_
    simp only [spec_l12Size.l0, sizeC]
    exact Ev.ite_neg (by omega) (Ev.cast (Ev.now _) (by omega))
  | succ m ih =>
    intro i x hm hi h0 h1
    refine Ev.succ ?_
    simp only [spec_l12Size.l0, sizeC]
    rw [w64 (x := (i : Int) + 1) (by omega) (by omega), w64 (x := x + 1) (by omega) (by omega)]
    refine Ev.ite_pos (by omega) (Ev.bind (spec_l05Tone_ev s u d st wk f (i : Int) hu hd) ?_)
    by_cases c : toneB u d (i : Int) = true
    · rw [if_pos c]
      exact Ev.ite_pos c (Ev.cast (ih (i + 1) (x + 1) (by omega) (by omega) (by omega) (by omega)) (by omega))
    · rw [if_neg c]
      exact Ev.ite_neg c (Ev.cast (ih (i + 1) x (by omega) (by omega) (by omega) (by omega)) (by omega))
theorem impl_toneCount_l0 (s : ByteArray) (u d : List Int) (st wk : Int) (f : List (List Int)) (hu : u.length ≤ 1048576) (hd : d.length ≤ 1048576) : ∀ (m i : Nat) (x : Int), 12 - i = m → i ≤ 12 → 0 ≤ x → x ≤ i → Ev (fun k => impl_Raga_toneCount.l0 k x i s u d st wk f) (x + sizeC u d m i) := by
  intro m
  induction m with
  | zero =>
    intro i x hm hi h0 h1
    refine Ev.succ ?_
    simp only [impl_Raga_toneCount.l0, sizeC]
    exact Ev.ite_neg (by omega) (Ev.cast (Ev.now _) (by omega))
  | succ m ih =>
    intro i x hm hi h0 h1
    refine Ev.succ ?_
    simp only [impl_Raga_toneCount.l0, sizeC]
    rw [w64 (x := (i : Int) + 1) (by omega) (by omega), w64 (x := x + 1) (by omega) (by omega)]
    refine Ev.ite_pos (by omega) (Ev.bind (impl_hasTone_ev s u d st wk f (i : Int) hu hd) ?_)
    by_cases c : toneB u d (i : Int) = true
    · rw [if_pos c]
      exact Ev.ite_pos c (Ev.cast (ih (i + 1) (x + 1) (by omega) (by omega) (by omega) (by omega)) (by omega))
    · rw [if_neg c]
      exact Ev.ite_neg c (Ev.cast (ih (i + 1) x (by omega) (by omega) (by omega) (by omega)) (by omega))
/-- How many tones a raga has; how many moves are wrong. -/
def zR (x : S42) : Int := sizeC x.f1 x.f2 12 0
def wR (ps : List Int) (x : S42) : Int := wrongC x.f1 x.f2 x.f5 ps (ps.length - 1) 1
theorem spec_l12Size_ev (x : S42) (h : FitR x) : Ev (fun k => spec_l12Size.f k x.f0 x.f1 x.f2 x.f3 x.f4 x.f5) (zR x) := by
  unfold spec_l12Size.f zR
  simpa using spec_l12Size_l0 x.f0 x.f1 x.f2 x.f3 x.f4 x.f5 h.2.1 h.2.2.1 12 0 0 (by omega) (by omega) (by omega) (by omega)
theorem impl_toneCount_ev (x : S42) (h : FitR x) : Ev (fun k => impl_Raga_toneCount.f k x.f0 x.f1 x.f2 x.f3 x.f4 x.f5) (zR x) := by
  unfold impl_Raga_toneCount.f zR
  simpa using impl_toneCount_l0 x.f0 x.f1 x.f2 x.f3 x.f4 x.f5 h.2.1 h.2.2.1 12 0 0 (by omega) (by omega) (by omega) (by omega)
theorem spec_evidence_ev (ps : List Int) (hp : pitchesB ps = true) (x : S42) (h : FitR x) (v : ragR x = true) : ∃ g, Ev (fun k => spec_l12Evidence.f k x.f0 x.f1 x.f2 x.f3 x.f4 x.f5 ps) (g, wR ps x) := by
  have := spec_evid_l0 x.f0 x.f1 x.f2 x.f3 x.f4 x.f5 ps h v hp (ps.length - 1) 1 0 0 (by omega) (by omega) (by omega) (by omega) (by omega) (by omega)
  unfold spec_l12Evidence.f wR
  exact ⟨_, by simpa using this⟩
theorem impl_wrongs_ev (ps : List Int) (hp : pitchesB ps = true) (x : S42) (h : FitR x) (v : ragR x = true) : Ev (fun k => impl_Raga_wrongMoves.f k x.f0 x.f1 x.f2 x.f3 x.f4 x.f5 ps) (wR ps x) := by
  unfold impl_Raga_wrongMoves.f wR
  simpa using impl_evid_l0 x.f0 x.f1 x.f2 x.f3 x.f4 x.f5 ps h v hp (ps.length - 1) 1 0 (by omega) (by omega) (by omega) (by omega)
end Go.Proofs.Ytmibjceanfhhlaa.P
end
