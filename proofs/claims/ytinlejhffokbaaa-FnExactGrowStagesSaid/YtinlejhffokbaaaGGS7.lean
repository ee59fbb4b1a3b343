/- Texts of this seat, merged: LIRaga, LPickB, LPickOne, LSteps, LISteps, LInB, LMarkSS, LSSCopy, LRagaCopy, LMarkRaga, LPick, LRangeOk, LSInP, LMax, LSHasOne, LSScale, LSRaga, LSSteps. -/
import Derived.Test.YtinlejhffokbaaaGGS1
import Derived.Test.YtinlejhffokbaaaGGS2
import Derived.Test.YtinlejhffokbaaaGGS4
import Derived.Test.YtinlejhffokbaaaGGS5
import Derived.Test.YtinlejhffokbaaaGGS6
section
namespace Go.Proofs.Ytinlejhffokbaaa.P
open Go.RowKit Go.Proofs.Ytinlejhffokbaaa.P Go.Proofs.YtinlejhffokbaaaW.PrintWords Go.Proofs.YtinlejhffokbaaaW.PrintLast Go.Proofs.YtinlejhffokbaaaW.PrintMore
set_option linter.unusedVariables false
set_option linter.unusedSimpArgs false
theorem impl_hasTone_ev (s : ByteArray) (u d : List Int) (st wk : Int) (f : List (List Int)) (t : Int) (hu : u.length ≤ 1048576) (hd : d.length ≤ 1048576) : Ev (fun k => impl_Raga_hasTone.f k s u d st wk f t) (toneB u d t) := by
  unfold impl_Raga_hasTone.f toneB
  refine Ev.bind (slices_Contains_ev u t hu) ?_
  cases h : hasM u t with
  | true => exact Ev.ite_pos rfl (Ev.now _)
  | false => exact Ev.ite_neg (by decide) (Ev.bind (slices_Contains_ev d t hd) (Ev.now _))
theorem impl_toneOk_eq (n : Int) : impl_toneOk.f n = some (decide (0 ≤ n) && decide (n ≤ 11)) := by
  unfold impl_toneOk.f
  rw [impl_within_eq]
  rfl
def cmpM (a b : Int) : Int := if a < b then -1 else if a > b then 1 else 0
theorem cmp_Compare_eq (a b : Int) : cmp_Compare_int64.f a b = some (cmpM a b) := by
  unfold cmp_Compare_int64.f cmp_isNaN_int64.f cmpM
  simp only [bne_self_eq_false, Option.bind_some]
  rw [if_neg (by decide), if_neg (by decide)]
  split
  · rfl
  · split <;> rfl
theorem slices_Compare_ev (p q : List Int) (hp : p.length = 2) (hq : q.length = 2) : ∃ r, (r ≥ 0 ↔ ltP p q = false) ∧ Ev (fun k => slices_Compare_int64_int64.f k p q) r := by
  have st : ∀ (i : Nat) (r : Int), i < 2 → Ev (fun k => slices_Compare_int64_int64.l0 k p q p (p.length : Int) ((i + 1 : Nat) : Int)) r → Ev (fun k => slices_Compare_int64_int64.l0 k p q p (p.length : Int) (i : Int)) (if cmpM (rd p (i : Int)) (rd q (i : Int)) = 0 then r else cmpM (rd p (i : Int)) (rd q (i : Int))) := by
    intro i r hi h
    refine Ev.succ ?_
    simp only [slices_Compare_int64_int64.l0]
    rw [w64 (x := (i : Int) + 1) (by omega) (by omega)]
    refine Ev.ite_pos (by omega) (Ev.ite_pos (by omega) (Ev.ite_pos (by omega) (Ev.ite_neg (by omega) (Ev.ite_pos (by omega) (Ev.bindc (cmp_Compare_eq _ _) ?_)))))
    by_cases c : cmpM (rd p (i : Int)) (rd q (i : Int)) = 0
    · exact Ev.ite_pos c (Ev.cast h (if_pos c).symm)
    · exact Ev.ite_neg c (Ev.cast (Ev.now _) (if_neg c).symm)
  have e2 : Ev (fun k => slices_Compare_int64_int64.l0 k p q p (p.length : Int) ((2 : Nat) : Int)) 0 := by
    refine Ev.succ ?_
    simp only [slices_Compare_int64_int64.l0]
    exact Ev.ite_neg (by omega) (Ev.ite_neg (by omega) (Ev.now _))
  refine ⟨_, ?_, by unfold slices_Compare_int64_int64.f; exact st 0 _ (by omega) (st 1 _ (by omega) e2)⟩
  simp only [ltP, cmpM]
  have e0 : ((0 : Nat) : Int) = 0 := rfl
  have e1 : ((1 : Nat) : Int) = 1 := rfl
  rw [e0, e1]
  by_cases c1 : rd p 0 < rd q 0
  · simp [c1]
  · by_cases c2 : rd p 0 > rd q 0
    · have c3 : ¬ rd p 0 = rd q 0 := by omega
      simp [c1, c2, c3]
    · have c3 : rd p 0 = rd q 0 := by omega
      by_cases c4 : rd p 1 < rd q 1
      · simp [c3, c4]
      · by_cases c5 : rd p 1 > rd q 1
        · simp [c3, c4, c5]
        · simp [c3, c4, c5]
theorem impl_ValidRaga_l0 (s : ByteArray) (u e : List Int) (st wk : Int) (f : List (List Int)) (hf : f.length ≤ 1048576) : ∀ (d i : Nat), f.length - i = d → (i ≠ 0 → i ≤ f.length ∧ pairB (rd_L1 f ((i : Int) - 1)) = true) → Ev (fun k => impl_ValidRaga.l0 k f (f.length : Int) i s u e st wk f) (pairsM f d i) := by
  intro d
  induction d with
  | zero =>
    intro i hd hp
    refine Ev.succ ?_
    simp only [impl_ValidRaga.l0]
    exact Ev.ite_neg (by omega) (Ev.now _)
  | succ d ih =>
    intro i hd hp
    have hn : pairB (rd_L1 f i) = true → Ev (fun k => impl_ValidRaga.l0 k f (f.length : Int) ((i : Int) + 1) s u e st wk f) (pairsM f d (i + 1)) := fun h => by
      have := ih (i + 1) (by omega) (fun _ => ⟨by omega, by rw [show ((i + 1 : Nat) : Int) - 1 = (i : Int) by omega]; exact h⟩)
      simpa using this
    refine Ev.succ ?_
    simp only [impl_ValidRaga.l0, pairsM]
    rw [w64 (x := (i : Int) + 1) (by omega) (by omega)]
    refine Ev.ite_pos (by omega) (Ev.ite_pos (by omega) (Ev.ite_pos (by omega) ?_))
    by_cases hl : (rd_L1 f i).length = 2
    · refine Ev.ite_pos (by omega) (Ev.ite_pos (by omega) (Ev.bindc (impl_toneOk_eq _) ?_))
      cases h1 : (decide (0 ≤ rd (rd_L1 f i) 0) && decide (rd (rd_L1 f i) 0 ≤ 11)) with
      | false =>
        have e : pairB (rd_L1 f i) = false := by simp [pairB, h1]
        rw [e]
        exact Ev.ite_neg (by decide) (Ev.cast (Ev.now false) (by simp))
      | true =>
        refine Ev.ite_pos rfl (Ev.ite_pos (by omega) (Ev.bindc (impl_toneOk_eq _) ?_))
        cases h2 : (decide (0 ≤ rd (rd_L1 f i) 1) && decide (rd (rd_L1 f i) 1 ≤ 11)) with
        | false =>
          have e : pairB (rd_L1 f i) = false := by simp [pairB, h2]
          rw [e]
          exact Ev.ite_neg (by decide) (Ev.cast (Ev.now false) (by simp))
        | true =>
          refine Ev.ite_pos rfl ?_
          by_cases h3 : rd (rd_L1 f i) 0 = rd (rd_L1 f i) 1
          · have e : pairB (rd_L1 f i) = false := by simp [pairB, h3]
            rw [e]
            exact Ev.ite_pos h3 (Ev.cast (Ev.now false) (by simp))
          · have e : pairB (rd_L1 f i) = true := by simp [pairB, hl, h1, h2, h3]
            refine Ev.ite_neg h3 ?_
            rw [e]
            by_cases h0 : i = 0
            · refine Ev.ite_neg (by omega) (Ev.cast (hn e) ?_)
              simp [h0]
            · obtain ⟨g1, g2⟩ := hp h0
              have hl2 := pairB_len g2
              obtain ⟨r, r1, r2⟩ := slices_Compare_ev (rd_L1 f ((i : Int) - 1)) (rd_L1 f i) hl2 hl
              refine Ev.ite_pos (by omega) ?_
              rw [w64 (x := (i : Int) - 1) (by omega) (by omega)]
              refine Ev.ite_pos (by omega) (Ev.ite_pos (by omega) (Ev.bind r2 ?_))
              by_cases c : r ≥ 0
              · refine Ev.ite_pos c (Ev.cast (Ev.now false) ?_)
                simp [h0, r1.1 c]
              · refine Ev.ite_neg c (Ev.cast (hn e) ?_)
                have : ltP (rd_L1 f ((i : Int) - 1)) (rd_L1 f i) = true := by
                  cases q : ltP (rd_L1 f ((i : Int) - 1)) (rd_L1 f i) with
                  | true => rfl
                  | false => exact absurd (r1.2 q) c
                simp [this]
    · have e : pairB (rd_L1 f i) = false := by simp [pairB, hl]
      rw [e]
      exact Ev.ite_neg (by omega) (Ev.cast (Ev.now false) (by simp))
theorem impl_ValidRaga_ev (s : ByteArray) (u d : List Int) (st wk : Int) (f : List (List Int)) (hs : s.size ≤ 1048576) (hu : u.length ≤ 1048576) (hd : d.length ≤ 1048576) (hf : f.length ≤ 1048576) : Ev (fun k => impl_ValidRaga.f k s u d st wk f) (ragaB s u d st wk f) := by
  have jt : Ev (fun k => impl_ValidRaga.j0 k true s u d st wk f) false := by
    refine Ev.succ ?_
    simp only [impl_ValidRaga.j0]
    exact Ev.ite_pos (by decide) (Ev.now _)
  unfold impl_ValidRaga.f ragaB
  refine Ev.bind (impl_IsName_ev s) ?_
  cases h1 : nameB s with
  | false => exact Ev.ite_neg (by decide) jt
  | true =>
    refine Ev.ite_pos rfl (Ev.bind (impl_ValidScale_ev u (by omega)) ?_)
    cases h2 : scaleB u with
    | false => exact Ev.ite_neg (by decide) jt
    | true =>
      refine Ev.ite_pos rfl (Ev.bind (impl_ValidScale_ev d (by omega)) ?_)
      cases h3 : scaleB d with
      | false => exact Ev.ite_neg (by decide) jt
      | true =>
        refine Ev.ite_pos rfl ?_
        by_cases h6 : st = wk
        · refine Ev.ite_pos h6 (Ev.cast jt ?_)
          simp [h6]
        · refine Ev.ite_neg h6 (Ev.bind (impl_hasTone_ev s u d st wk f st hu hd) ?_)
          cases h4 : toneB u d st with
          | false => exact Ev.ite_neg (by decide) jt
          | true =>
            refine Ev.ite_pos rfl (Ev.bind (impl_hasTone_ev s u d st wk f wk hu hd) ?_)
            cases h5 : toneB u d wk with
            | false => exact Ev.ite_neg (by decide) jt
            | true =>
              refine Ev.ite_pos rfl ?_
              by_cases h8 : (f.length : Int) > 8
              · have e : decide ((f.length : Int) > 8) = true := by simpa using h8
                rw [e]
                refine Ev.cast jt ?_
                have : ¬ f.length ≤ 8 := by omega
                simp [this]
              · have e : decide ((f.length : Int) > 8) = false := by simpa using h8
                rw [e]
                refine Ev.succ ?_
                simp only [impl_ValidRaga.j0]
                refine Ev.ite_neg (by decide) (Ev.cast (by simpa using impl_ValidRaga_l0 s u d st wk f hf f.length 0 (by omega) (by simp)) ?_)
                have : f.length ≤ 8 := by omega
                simp [this, h6]
theorem impl_reason_1_eq (p : List Int) (a b : Int) (h : p.length = 2) : impl_Raga_reason_1.f p a b = some (pairQ a b p) := by
  unfold impl_Raga_reason_1.f pairQ
  rw [if_pos (by omega)]
  by_cases c : rd p 0 = a
  · rw [if_pos c, if_pos (by omega)]
    simp [c]
    rfl
  · rw [if_neg c]
    simp [c]
theorem impl_reason_any_eq (f : List (List Int)) (a b : Int) (hp : ∀ j, j < f.length → (rd_L1 f j).length = 2) : impl_reason_any.f f a b = some (f.any (pairQ a b)) := by
  have hm : ∀ p ∈ f, impl_Raga_reason_1.f p a b = some (pairQ a b p) := by
    intro p hp'
    obtain ⟨j, hj, rfl⟩ := List.getElem_of_mem hp'
    refine impl_reason_1_eq _ a b ?_
    have := hp j hj
    rwa [rdL_at hj] at this
  unfold impl_reason_any.f
  rw [if_pos (by
    rw [List.all_eq_true]
    intro p hp'
    rw [hm p hp']
    rfl)]
  congr 1
  rw [Bool.eq_iff_iff, List.any_eq_true, List.any_eq_true]
  constructor
  · rintro ⟨p, hp', h⟩
    refine ⟨p, hp', ?_⟩
    rw [hm p hp'] at h
    simpa using h
  · rintro ⟨p, hp', h⟩
    refine ⟨p, hp', ?_⟩
    rw [hm p hp', h]
    rfl
theorem impl_reason_ev (s : ByteArray) (u d : List Int) (st wk : Int) (f : List (List Int)) (a b : Int) (ha : -1000 ≤ a ∧ a ≤ 1000) (hb : -1000 ≤ b ∧ b ≤ 1000) (hu : u.length ≤ 1048576) (hd : d.length ≤ 1048576) (hf : f.length ≤ 8) (hp : ∀ j, j < f.length → (rd_L1 f j).length = 2) :
    Ev (fun k => impl_Raga_reason.f k s u d st wk f a b) (reasonR u d f a b) := by
  have hj : ∀ t : Bool, (toneB u d (tn a) && toneB u d (tn b)) = !t → Ev (fun k => impl_Raga_reason.j0 k a b t s u d st wk f (tn a) (tn b)) (reasonR u d f a b) := by
    intro t ht
    refine Ev.succ ?_
    simp only [impl_Raga_reason.j0]
    unfold reasonR
    rw [ht]
    cases t with
    | true => exact Ev.ite_pos rfl (Ev.now _)
    | false =>
      rw [w64 (x := a - b) (by omega) (by omega)]
      refine Ev.ite_neg (by decide) (Ev.bindc (impl_abs_eq _ (by omega) (by omega)) ?_)
      rw [if_pos (show (!false) = true from rfl), show max (a - b) (-(a - b)) = max (a - b) (b - a) by omega]
      by_cases c1 : max (a - b) (b - a) > 12
      · exact Ev.ite_pos c1 (Ev.cast (Ev.now _) (if_pos c1).symm)
      · refine Ev.ite_neg c1 (Ev.cast ?_ (if_neg c1).symm)
        have h2 : ∀ t2 : Bool, (t2 = true ↔ (b < a ∧ hasM d (tn b) = false)) → Ev (fun k => impl_Raga_reason.j2 k t2 s u d st wk f (tn a) (tn b)) (if b < a ∧ hasM d (tn b) = false then 4 else if f.any (pairQ (tn a) (tn b)) = true then 5 else 0) := by
          intro t2 e2
          refine Ev.succ ?_
          simp only [impl_Raga_reason.j2]
          by_cases c : t2 = true
          · exact Ev.ite_pos c (Ev.cast (Ev.now _) (if_pos (e2.1 c)).symm)
          · refine Ev.ite_neg c (Ev.cast ?_ (if_neg (fun z => c (e2.2 z))).symm)
            refine Ev.bindc (impl_reason_any_eq f _ _ hp) ?_
            by_cases c5 : f.any (pairQ (tn a) (tn b)) = true
            · exact Ev.ite_pos c5 (Ev.cast (Ev.now _) (if_pos c5).symm)
            · exact Ev.ite_neg c5 (Ev.cast (Ev.now _) (if_neg c5).symm)
        have h1 : ∀ t1 : Bool, (t1 = true ↔ (b > a ∧ hasM u (tn b) = false)) → Ev (fun k => impl_Raga_reason.j1 k a b t1 s u d st wk f (tn a) (tn b)) (if b > a ∧ hasM u (tn b) = false then 3 else if b < a ∧ hasM d (tn b) = false then 4 else if f.any (pairQ (tn a) (tn b)) = true then 5 else 0) := by
          intro t1 e1
          refine Ev.succ ?_
          simp only [impl_Raga_reason.j1]
          by_cases c : t1 = true
          · exact Ev.ite_pos c (Ev.cast (Ev.now _) (if_pos (e1.1 c)).symm)
          · refine Ev.ite_neg c (Ev.cast ?_ (if_neg (fun z => c (e1.2 z))).symm)
            by_cases cb : b < a
            · refine Ev.ite_pos cb (Ev.bind (slices_Contains_ev d _ hd) (h2 _ ?_))
              cases hasM d (tn b) <;> simp [cb]
            · refine Ev.ite_neg cb (h2 _ ?_)
              simp [cb]
        by_cases cb : b > a
        · refine Ev.ite_pos cb (Ev.bind (slices_Contains_ev u _ hu) (h1 _ ?_))
          cases hasM u (tn b) <;> simp [cb]
        · refine Ev.ite_neg cb (h1 _ ?_)
          simp [cb]
  unfold impl_Raga_reason.f
  refine Ev.bindc (show impl_ToneOf.f a = some (tn a) from rfl) (Ev.bindc (show impl_ToneOf.f b = some (tn b) from rfl) (Ev.bind (impl_hasTone_ev s u d st wk f _ hu hd) ?_))
  cases h1 : toneB u d (tn a) with
  | true =>
    refine Ev.ite_pos rfl (Ev.bind (impl_hasTone_ev s u d st wk f _ hu hd) (hj _ ?_))
    simp [h1]
  | false =>
    refine Ev.ite_neg (by decide) (hj _ ?_)
    simp [h1]
def nextM (a : Int) : Int := (a * 7141 + 54773) % 1000000
def pickM (a n : Int) : Int := nextM a * n / 1000000
theorem nextM_bound (a : Int) : 0 ≤ nextM a ∧ nextM a ≤ 999999 := by unfold nextM; omega
theorem pickM_bound (a n : Int) (h0 : 0 < n) : 0 ≤ pickM a n ∧ pickM a n < n := by
  have h := nextM_bound a
  unfold pickM
  have h1 : 0 ≤ nextM a * n := Int.mul_nonneg h.1 (by omega)
  have h2 : nextM a * n ≤ 999999 * n := Int.mul_le_mul_of_nonneg_right h.2 (by omega)
  omega
theorem spec_l13Pick_eq (a n : Int) (a0 : 0 ≤ a) (a1 : a ≤ 999999) (n0 : 0 < n) (n1 : n ≤ 1000000) : spec_l13Pick.f a n = some (pickM a n, nextM a) := by
  have h := nextM_bound a
  have hp := pickM_bound a n n0
  have h1 : 0 ≤ nextM a * n := Int.mul_nonneg h.1 (by omega)
  have h2 : nextM a * n ≤ 999999 * n := Int.mul_le_mul_of_nonneg_right h.2 (by omega)
  have e : spec_l13Next.f a = some (nextM a) := by
    unfold spec_l13Next.f
    rw [w64 (x := a * 7141) (by omega) (by omega), w64 (x := a * 7141 + 54773) (by omega) (by omega), Int.tmod_eq_emod_of_nonneg (by omega)]
    rfl
  unfold spec_l13Pick.f
  rw [e]
  simp only [Option.bind_some]
  rw [w64 (x := nextM a * n) (by omega) (by omega), Int.tdiv_eq_ediv_of_nonneg h1]
  rw [show nextM a * n / 1000000 = pickM a n from rfl, w64 (by omega) (by omega)]
theorem pick_eq (a n : Int) : impl_picker_pick.f a n = spec_l13Pick.f a n := by
  unfold impl_picker_pick.f spec_l13Pick.f impl_nextSeed.f spec_l13Next.f
  rfl
def segM (p : Int) : Nat → List Int
  | 0 => []
  | n + 1 => p :: segM (p + 1) n
theorem segM_mem {q : Int} : ∀ (n : Nat) (p : Int), q ∈ segM p n ↔ p ≤ q ∧ q < p + n := by
  intro n
  induction n with
  | zero => intro p; simp only [segM, List.not_mem_nil, false_iff]; omega
  | succ n ih =>
    intro p
    simp only [segM, List.mem_cons, ih (p + 1)]
    omega
theorem segM_add : ∀ (a b : Nat) (p : Int), segM p (a + b) = segM p a ++ segM (p + a) b := by
  intro a
  induction a with
  | zero => intro b p; simp [segM]
  | succ a ih =>
    intro b p
    rw [show a + 1 + b = (a + b) + 1 by omega]
    simp only [segM, List.cons_append]
    rw [ih b (p + 1), show p + 1 + (a : Int) = p + ((a + 1 : Nat) : Int) by omega]
theorem segM_length : ∀ (n : Nat) (p : Int), (segM p n).length = n := by
  intro n
  induction n with
  | zero => intro p; rfl
  | succ n ih => intro p; simp [segM, ih]
def stepsM (u d : List Int) (f : List (List Int)) (a p : Int) (n : Nat) : List Int := (segM p n).filter fun q => decide (reasonR u d f a q = 0)
theorem stepsM_length (u d : List Int) (f : List (List Int)) (a p : Int) (n : Nat) : (stepsM u d f a p n).length ≤ n := by
  have := List.length_filter_le (fun q => decide (reasonR u d f a q = 0)) (segM p n)
  rw [segM_length] at this
  exact this
theorem stepsM_mem {u d : List Int} {f : List (List Int)} {a p q : Int} {n : Nat} (h : q ∈ stepsM u d f a p n) : p ≤ q ∧ q < p + n := (segM_mem n p).1 (List.mem_filter.1 h).1
theorem stepsM_range (u d : List Int) (f : List (List Int)) (a lo hi : Int) (h1 : -12 ≤ lo) (h2 : lo ≤ hi) (h3 : hi ≤ 23) : (stepsM u d f a (-12) 36).filter (fun q => decide (lo ≤ q) && decide (q ≤ hi)) = stepsM u d f a lo (hi + 1 - lo).toNat := by
  have e : (segM (-12) 36).filter (fun q => decide (lo ≤ q) && decide (q ≤ hi)) = segM lo (hi + 1 - lo).toNat := by
    rw [show 36 = (lo + 12).toNat + ((hi + 1 - lo).toNat + (23 - hi).toNat) by omega, segM_add, segM_add, List.filter_append, List.filter_append, show -12 + (((lo + 12).toNat : Nat) : Int) = lo by omega]
    rw [List.filter_eq_nil_iff.2 (fun q hq => by have := (segM_mem _ _).1 hq; simp; omega), List.filter_eq_self.2 (fun q hq => by have := (segM_mem _ _).1 hq; simp; omega), List.filter_eq_nil_iff.2 (fun q hq => by have := (segM_mem _ _).1 hq; simp; omega)]
    simp
  unfold stepsM
  rw [← e, List.filter_filter, List.filter_filter]
  congr 1
  funext q
  exact Bool.and_comm _ _
def lastM (out : List Int) : Int := rd out ((out.length : Int) - 1)
theorem lastM_snoc (out : List Int) (x : Int) : lastM (out ++ [x]) = x := by
  unfold lastM rd
  rw [List.length_append, List.length_singleton, show (((out.length + 1 : Nat) : Int) - 1).toNat = out.length by omega, List.getD_eq_getElem?_getD, List.getElem?_append_right (Nat.le_refl _)]
  simp
theorem rd_in {l : List Int} {i : Int} (h0 : 0 ≤ i) (h1 : i < l.length) : rd l i ∈ l := by
  unfold rd
  rw [List.getD_eq_getElem?_getD, List.getElem?_eq_getElem (by omega)]
  exact List.getElem_mem _
/-- Growth: n more pitches. -/
def growM (u d : List Int) (f : List (List Int)) (lo hi : Int) : Nat → Int → List Int → Option (List Int × Int)
  | 0, s, out => some (out, s)
  | n + 1, s, out => if (stepsM u d f (lastM out) lo (hi + 1 - lo).toNat).length = 0 then none else growM u d f lo hi n (nextM s) (out ++ [rd (stepsM u d f (lastM out) lo (hi + 1 - lo).toNat) (pickM s (stepsM u d f (lastM out) lo (hi + 1 - lo).toNat).length)])
/-- What growth starts from: pitches, the last one in the range; a seed. -/
def Grown (lo hi : Int) (s : Int) (out : List Int) : Prop := 0 < out.length ∧ out.length ≤ 1000 ∧ (lo ≤ lastM out ∧ lastM out ≤ hi) ∧ 0 ≤ s ∧ s ≤ 999999
theorem growM_step {u d : List Int} {f : List (List Int)} {lo hi s : Int} {out : List Int} (h : Grown lo hi s out) (h2 : lo ≤ hi) (hn : (stepsM u d f (lastM out) lo (hi + 1 - lo).toNat).length ≠ 0) (hl : out.length < 1000) :
    Grown lo hi (nextM s) (out ++ [rd (stepsM u d f (lastM out) lo (hi + 1 - lo).toNat) (pickM s (stepsM u d f (lastM out) lo (hi + 1 - lo).toNat).length)]) := by
  have hp := pickM_bound s (stepsM u d f (lastM out) lo (hi + 1 - lo).toNat).length (by omega)
  have hm := stepsM_mem (rd_in hp.1 hp.2)
  have hs := nextM_bound s
  refine ⟨by simp, by simp; omega, ?_, hs.1, hs.2⟩
  rw [lastM_snoc]
  omega
theorem growM_length {u d : List Int} {f : List (List Int)} {lo hi : Int} : ∀ (n : Nat) (s : Int) (out o : List Int) (t : Int), growM u d f lo hi n s out = some (o, t) → o.length = out.length + n := by
  intro n
  induction n with
  | zero => intro s out o t h; simp only [growM, Option.some.injEq, Prod.mk.injEq] at h; rw [← h.1]; rfl
  | succ n ih =>
    intro s out o t h
    simp only [growM] at h
    split at h
    · cases h
    · have := ih _ _ _ _ h
      simp at this
      omega
/-- One pitch more. -/
def grow1 (l : List Int) (sd : Int) : Int × Bool × Int := if l.length = 0 then (0, false, sd) else (rd l (pickM sd l.length), true, nextM sd)
theorem impl_picker_grow_l0 (s : ByteArray) (u d : List Int) (st wk : Int) (f : List (List Int)) (a hi sd : Int) (ha : -1000 ≤ a ∧ a ≤ 1000) (h3 : hi ≤ 23) (hu : u.length ≤ 1048576) (hd : d.length ≤ 1048576) (hf : f.length ≤ 8) (hp : ∀ j, j < f.length → (rd_L1 f j).length = 2) (s0 : 0 ≤ sd) (s1 : sd ≤ 999999) :
    ∀ (m : Nat) (p : Int) (out : List Int), p = hi + 1 - m → -12 ≤ p → out.length + m ≤ 100 → Ev (fun k => impl_picker_grow.l0 k a hi out p sd s u d st wk f) (grow1 (out ++ stepsM u d f a p m) sd) := by
  intro m
  induction m with
  | zero =>
    intro p out e _ hl
    refine Ev.succ ?_
    simp only [impl_picker_grow.l0]
    rw [show stepsM u d f a p 0 = [] from rfl, List.append_nil]
    refine Ev.ite_neg (by omega) ?_
    unfold grow1
    by_cases c : out.length = 0
    · rw [if_pos c]
      exact Ev.ite_pos (by omega) (Ev.now _)
    · rw [if_neg c]
      have hb := pickM_bound sd out.length (by omega)
      exact Ev.ite_neg (by omega) (Ev.bindc ((pick_eq _ _).trans (spec_l13Pick_eq _ _ s0 s1 (by omega) (by omega))) (Ev.ite_pos hb.1 (Ev.ite_pos hb.2 (Ev.now _))))
  | succ m ih =>
    intro p out e h1 hl
    refine Ev.succ ?_
    simp only [impl_picker_grow.l0]
    rw [w64 (x := p + 1) (by omega) (by omega)]
    refine Ev.ite_pos (by omega) (Ev.bind (impl_reason_ev s u d st wk f a p ha (by omega) hu hd hf hp) ?_)
    by_cases c : reasonR u d f a p = 0
    · refine Ev.ite_pos c (Ev.ite_pos (by omega) (Ev.cast (ih (p + 1) (out ++ [p]) (by omega) (by omega) (by simp; omega)) ?_))
      simp [stepsM, segM, c]
    · refine Ev.ite_neg c (Ev.cast (ih (p + 1) out (by omega) (by omega) (by omega)) ?_)
      simp [stepsM, segM, c]
theorem impl_picker_grow_ev (s : ByteArray) (u d : List Int) (st wk : Int) (f : List (List Int)) (a lo hi sd : Int) (ha : -1000 ≤ a ∧ a ≤ 1000) (h1 : -12 ≤ lo) (h2 : lo ≤ hi) (h3 : hi ≤ 23) (hu : u.length ≤ 1048576) (hd : d.length ≤ 1048576) (hf : f.length ≤ 8) (hp : ∀ j, j < f.length → (rd_L1 f j).length = 2) (s0 : 0 ≤ sd) (s1 : sd ≤ 999999) :
    Ev (fun k => impl_picker_grow.f k sd s u d st wk f a lo hi) (grow1 (stepsM u d f a lo (hi + 1 - lo).toNat) sd) := by
  unfold impl_picker_grow.f
  simpa using impl_picker_grow_l0 s u d st wk f a hi sd ha h3 hu hd hf hp s0 s1 (hi + 1 - lo).toNat lo [] (by omega) h1 (by simp; omega)
def inB (n a b : Int) : Bool := decide (a ≤ n) && decide (n ≤ b)
theorem markInt64SS_any : ∀ (m i : Nat) (L : List (List Int)) (v : Int), L.length - i = m → (∀ j, i ≤ j → j < L.length → (rd_L1 L j).length ≤ 1048576) → L.length ≤ 1048576 → 0 ≤ v → v + 1048576 * m ≤ 4611686018427387903 →
    ∃ v' M, (0 ≤ v' ∧ v' ≤ v + 1048576 * m) ∧ Ev (fun k => laws_markInt64SS.l0 k L v i) (v', M) := by
  intro m
  induction m with
  | zero =>
    intro i L v hm _ hL h0 _
    refine ⟨v, L, by omega, Ev.succ ?_⟩
    simp only [laws_markInt64SS.l0]
    exact Ev.ite_neg (by omega) (Ev.now _)
  | succ m ih =>
    intro i L v hm hr hL h0 hv
    have hi : i < L.length := by omega
    have hl := hr i (Nat.le_refl _) hi
    obtain ⟨v', M, h1, e⟩ := ih (i + 1) (L.set i (marks (rd_L1 L i).length v)) (v + (rd_L1 L i).length) (by simp; omega)
      (fun j h1 h2 => by
        have h2' : j < L.length := by simpa using h2
        rw [show rd_L1 (L.set i (marks (rd_L1 L i).length v)) (j : Int) = rd_L1 L j by simp [rd_L1, List.getElem?_set_ne (show i ≠ j by omega)]]
        exact hr j (by omega) h2')
      (by simpa using hL) (by omega) (by omega)
    refine ⟨v', M, by omega, Ev.succ ?_⟩
    simp only [laws_markInt64SS.l0]
    rw [w64 (x := (i : Int) + 1) (by omega) (by omega)]
    refine Ev.ite_pos (by omega) (Ev.ite_pos (by omega) (Ev.bind (markInt64S_ev _ _ (by omega) h0 (by omega)) ?_))
    simpa using e
theorem markInt64SS_ev (L : List (List Int)) (v : Int) (hr : ∀ j, j < L.length → (rd_L1 L j).length ≤ 1048576) (hL : L.length ≤ 1048576) (h0 : 0 ≤ v) (hv : v ≤ 1125899906842624) : ∃ v' M, (0 ≤ v' ∧ v' ≤ v + 1048576 * L.length) ∧ Ev (fun k => laws_markInt64SS.f k L v) (v', M) := by
  unfold laws_markInt64SS.f
  exact markInt64SS_any L.length 0 L v (by omega) (fun j _ h => hr j h) hL h0 (by omega)
theorem szInt64S_ge (l : List Int) (a : Int) (h0 : 0 ≤ a) (h1 : a ≤ 1048576) (hl : l.length ≤ 9223372036854775807) : ∃ t, laws_szInt64S.f l a = some t ∧ (t < 0 ∨ (0 ≤ t ∧ t ≤ a ∧ l.length ≤ 1048576)) := by
  unfold laws_szInt64S.f
  rw [w64 (x := a - l.length) (by omega) (by omega)]
  by_cases h : a - (l.length : Int) < 0
  · exact ⟨-1, by rw [if_pos h], .inl (by omega)⟩
  · exact ⟨_, by rw [if_neg h], .inr (by omega)⟩
theorem szInt64SS_l0 (f : List (List Int)) (hf : f.length ≤ 9223372036854775807) (hr : ∀ y ∈ f, y.length ≤ 9223372036854775807) : ∀ (d i : Nat) (a : Int), f.length - i = d → 0 ≤ a → a ≤ 1048576 → (∀ j, j < i → j < f.length → (rd_L1 f j).length ≤ 1048576) →
    ∃ t, Ev (fun k => laws_szInt64SS.l0 k f a i) t ∧ (t < 0 ∨ (0 ≤ t ∧ t ≤ a ∧ ∀ j, j < f.length → (rd_L1 f j).length ≤ 1048576)) := by
  intro d
  induction d with
  | zero =>
    intro i a hd h0 h1 hj
    refine ⟨a, Ev.succ ?_, .inr ⟨h0, Int.le_refl _, fun j h => hj j (by omega) h⟩⟩
    simp only [laws_szInt64SS.l0]
    exact Ev.ite_neg (by omega) (Ev.now _)
  | succ d ih =>
    intro i a hd h0 h1 hj
    have hi : i < f.length := by omega
    obtain ⟨t, ht, hc⟩ := szInt64S_ge (rd_L1 f i) a h0 h1 (by rw [rdL_at hi]; exact hr _ (List.getElem_mem hi))
    rcases hc with hc | ⟨c0, c1, c2⟩
    · refine ⟨-1, Ev.succ ?_, .inl (by omega)⟩
      simp only [laws_szInt64SS.l0]
      exact Ev.ite_pos (by omega) (Ev.ite_pos (by omega) (Ev.bindc ht (Ev.ite_pos hc (Ev.now _))))
    · obtain ⟨r, hr1, hr2⟩ := ih (i + 1) t (by omega) c0 (by omega) (fun j h1 h2 => by
        by_cases e : j = i
        · subst e
          exact c2
        · exact hj j (by omega) h2)
      refine ⟨r, Ev.succ ?_, ?_⟩
      · simp only [laws_szInt64SS.l0]
        rw [w64 (x := (i : Int) + 1) (by omega) (by omega)]
        exact Ev.ite_pos (by omega) (Ev.ite_pos (by omega) (Ev.bindc ht (Ev.ite_neg (by omega) (by simpa using hr1))))
      · rcases hr2 with h | ⟨g0, g1, g2⟩
        · exact .inl h
        · exact .inr ⟨g0, by omega, g2⟩
theorem szInt64SS_ge (f : List (List Int)) (a : Int) (h0 : 0 ≤ a) (h1 : a ≤ 1048576) (hf : f.length ≤ 9223372036854775807) (hr : ∀ y ∈ f, y.length ≤ 9223372036854775807) :
    ∃ t, Ev (fun k => laws_szInt64SS.f k f a) t ∧ (t < 0 ∨ (0 ≤ t ∧ t ≤ a ∧ f.length ≤ 1048576 ∧ ∀ j, j < f.length → (rd_L1 f j).length ≤ 1048576)) := by
  unfold laws_szInt64SS.f
  rw [w64 (x := a - f.length) (by omega) (by omega)]
  by_cases h : a - (f.length : Int) < 0
  · exact ⟨-1, Ev.ite_pos h (Ev.now _), .inl (by omega)⟩
  · obtain ⟨t, h2, h3⟩ := szInt64SS_l0 f hf hr f.length 0 (a - f.length) (by omega) (by omega) (by omega) (fun j h => by omega)
    refine ⟨t, Ev.ite_neg h (by simpa using h2), ?_⟩
    rcases h3 with h3 | ⟨g0, g1, g2⟩
    · exact .inl h3
    · exact .inr ⟨g0, by omega, by omega, g2⟩
theorem setL_at {l : List (List Int)} {i : Nat} {v : List Int} {m : List (List Int)} (h : i < l.length) (e : l.take i = m) : (l.set i v).take (i + 1) = m ++ [v] := by
  rw [List.take_succ_eq_append_getElem (by simpa using h)]
  simp [List.take_set_of_le, e]
theorem toInt64SS_l0 (l : List (List Int)) (hl : l.length ≤ 1048576) (hr : ∀ j, j < l.length → (rd_L1 l j).length ≤ 1048576) : ∀ (d i : Nat) (m : List (List Int)), l.length - i = d → i ≤ l.length → m.length = l.length → m.take i = l.take i → Ev (fun k => laws_toInt64SS.l0 k l m i) l := by
  intro d
  induction d with
  | zero =>
    intro i m hd hi hm ht
    have : i = l.length := by omega
    subst this
    refine Ev.succ ?_
    simp only [laws_toInt64SS.l0]
    refine Ev.ite_neg (by omega) ?_
    rw [List.take_of_length_le (by omega), List.take_of_length_le (Nat.le_refl _)] at ht
    rw [ht]
    exact Ev.now _
  | succ d ih =>
    intro i m hd hi hm ht
    have hi' : i < l.length := by omega
    refine Ev.succ ?_
    simp only [laws_toInt64SS.l0]
    refine Ev.ite_pos (by omega) (Ev.ite_pos (by omega) (Ev.bind (toInt64S_ev (rd_L1 l i) (by have := hr i hi'; omega)) (Ev.ite_pos (by omega) ?_)))
    rw [w64 (x := (i : Int) + 1) (by omega) (by omega), rdL_at hi', Int.toNat_natCast]
    have := ih (i + 1) (m.set i l[i]) (by omega) (by omega) (by simpa using hm) (by
      rw [setL_at (by omega) ht, ← List.take_succ_eq_append_getElem (by omega)])
    simpa using this
theorem toInt64SS_ev (l : List (List Int)) (h : l.length ≤ 1048576) (hr : ∀ j, j < l.length → (rd_L1 l j).length ≤ 1048576) : Ev (fun k => laws_toInt64SS.f k l) l := by
  unfold laws_toInt64SS.f
  refine Ev.ite_pos (by omega) (Ev.ite_pos (by omega) ?_)
  exact toInt64SS_l0 l h hr l.length 0 _ (by omega) (by omega) (by simp) (by simp)
theorem eqInt64SS_l0 (l : List (List Int)) (hl : l.length ≤ 1048576) (hr : ∀ j, j < l.length → (rd_L1 l j).length ≤ 1048576) : ∀ (d i : Nat), l.length - i = d → Ev (fun k => laws_eqInt64SS.l0 k l l i) true := by
  intro d
  induction d with
  | zero =>
    intro i hd
    refine Ev.succ ?_
    simp only [laws_eqInt64SS.l0]
    exact Ev.ite_neg (by omega) (Ev.now _)
  | succ d ih =>
    intro i hd
    refine Ev.succ ?_
    simp only [laws_eqInt64SS.l0]
    rw [w64 (x := (i : Int) + 1) (by omega) (by omega)]
    exact Ev.ite_pos (by omega) (Ev.ite_pos (by omega) (Ev.ite_pos (by omega) (Ev.bind (eqInt64S_self _ (by have := hr i (by omega); omega)) (Ev.ite_pos rfl (by simpa using ih (i + 1) (by omega))))))
theorem eqInt64SS_self (l : List (List Int)) (hl : l.length ≤ 1048576) (hr : ∀ j, j < l.length → (rd_L1 l j).length ≤ 1048576) : Ev (fun k => laws_eqInt64SS.f k l l) true := by
  unfold laws_eqInt64SS.f
  exact Ev.ite_pos rfl (by simpa using eqInt64SS_l0 l hl hr l.length 0 (by omega))
def Fits (s : ByteArray) (u d : List Int) (f : List (List Int)) : Prop := s.size ≤ 1048576 ∧ u.length ≤ 1048576 ∧ d.length ≤ 1048576 ∧ f.length ≤ 1048576 ∧ ∀ j, j < f.length → (rd_L1 f j).length ≤ 1048576
theorem szRaga_ge (s : ByteArray) (u d : List Int) (st wk : Int) (f : List (List Int)) (a : Int) (h0 : 0 ≤ a) (h1 : a ≤ 1048576) (hs : s.size ≤ maxLen) (hu : u.length ≤ maxLen) (hd : d.length ≤ maxLen) (hf : f.length ≤ maxLen) (hr : ∀ y ∈ f, y.length ≤ maxLen) :
    ∃ t, Ev (fun k => laws_szRaga.f k s u d st wk f a) t ∧ (t < 0 ∨ (0 ≤ t ∧ t ≤ a ∧ Fits s u d f)) := by
  have e : maxLen ≤ 9223372036854775807 := by decide
  unfold laws_szRaga.f
  rw [w64 (x := a - s.size) (by omega) (by omega)]
  by_cases h : a - (s.size : Int) < 0
  · exact ⟨-1, Ev.ite_pos h (Ev.now _), .inl (by omega)⟩
  obtain ⟨t1, e1, c1⟩ := szInt64S_ge u (a - s.size) (by omega) (by omega) (Nat.le_trans hu e)
  rcases c1 with c1 | ⟨a1, b1, d1⟩
  · exact ⟨-1, Ev.ite_neg h (Ev.bindc e1 (Ev.ite_pos c1 (Ev.now _))), .inl (by omega)⟩
  obtain ⟨t2, e2, c2⟩ := szInt64S_ge d t1 (by omega) (by omega) (Nat.le_trans hd e)
  rcases c2 with c2 | ⟨a2, b2, d2⟩
  · exact ⟨-1, Ev.ite_neg h (Ev.bindc e1 (Ev.ite_neg (by omega) (Ev.bindc e2 (Ev.ite_pos c2 (Ev.now _))))), .inl (by omega)⟩
  obtain ⟨t3, e3, c3⟩ := szInt64SS_ge f t2 (by omega) (by omega) (Nat.le_trans hf e) (fun y hy => Nat.le_trans (hr y hy) e)
  rcases c3 with c3 | ⟨a3, b3, d3, f3⟩
  · exact ⟨-1, Ev.ite_neg h (Ev.bindc e1 (Ev.ite_neg (by omega) (Ev.bindc e2 (Ev.ite_neg (by omega) (Ev.bind e3 (Ev.ite_pos c3 (Ev.now _))))))), .inl (by omega)⟩
  · exact ⟨t3, Ev.ite_neg h (Ev.bindc e1 (Ev.ite_neg (by omega) (Ev.bindc e2 (Ev.ite_neg (by omega) (Ev.bind e3 (Ev.ite_neg (by omega) (Ev.now _))))))), .inr ⟨a3, by omega, by omega, d1, d2, d3, f3⟩⟩
theorem toRaga_ev {s : ByteArray} {u d : List Int} {f : List (List Int)} (h : Fits s u d f) (st wk : Int) : Ev (fun k => laws_toRaga.f k s u d st wk f) (s, u, d, st, wk, f) := by
  unfold laws_toRaga.f
  exact Ev.bind (toInt64S_ev u (by have := h.2.1; omega)) (Ev.bind (toInt64S_ev d (by have := h.2.2.1; omega)) (Ev.bind (toInt64SS_ev f h.2.2.2.1 h.2.2.2.2) (Ev.now _)))
theorem eqRaga_self {s : ByteArray} {u d : List Int} {f : List (List Int)} (h : Fits s u d f) (st wk : Int) : Ev (fun k => laws_eqRaga.f k s u d st wk f s u d st wk f) true := by
  unfold laws_eqRaga.f
  exact Ev.ite_pos rfl (Ev.bind (eqInt64S_self u (by have := h.2.1; omega)) (Ev.ite_pos rfl (Ev.bind (eqInt64S_self d (by have := h.2.2.1; omega)) (Ev.ite_pos rfl (Ev.ite_pos rfl (Ev.ite_pos rfl (Ev.bind (eqInt64SS_self f h.2.2.2.1 h.2.2.2.2) (Ev.ite_pos rfl (Ev.now _)))))))))
theorem markRaga_le (s : ByteArray) (u d : List Int) (st wk : Int) (f : List (List Int)) (h : Fits s u d f) : ∃ v, (0 ≤ v ∧ v ≤ 2199023255552) ∧ Ev (fun k => laws_markRaga.f k s u d st wk f 1) v := by
  obtain ⟨h1, h2, h3, h4, h5⟩ := h
  obtain ⟨v, M, hv, e⟩ := markInt64SS_ev f (1 + (u.length : Int) + (d.length : Int)) h5 h4 (by omega) (by omega)
  refine ⟨v, by omega, ?_⟩
  unfold laws_markRaga.f
  exact Ev.bind (markInt64S_ev u 1 (by omega) (by omega) (by omega)) (Ev.bind (markInt64S_ev d _ (by omega) (by omega) (by omega)) (Ev.bind e (Ev.now _)))
theorem markRaga_ev (s : ByteArray) (u d : List Int) (st wk : Int) (f : List (List Int)) (h : Fits s u d f) : ∃ v, 0 ≤ v ∧ Ev (fun k => laws_markRaga.f k s u d st wk f 1) v :=
  have ⟨v, h1, h2⟩ := markRaga_le s u d st wk f h
  ⟨v, h1.1, h2⟩
theorem spec_l13Seed_eq (n : Int) : spec_l13Seed.f n = some (decide (0 ≤ n) && decide (n ≤ 999999)) := by
  unfold spec_l13Seed.f
  rw [spec_l00In_eq]
  rfl
theorem impl_seedOk_eq (n : Int) : impl_seedOk.f n = some (decide (0 ≤ n) && decide (n ≤ 999999)) := by
  unfold impl_seedOk.f
  rw [impl_within_eq]
  rfl
theorem impl_rangeOk_eq (a b : Int) : impl_rangeOk.f a b = some (inP a && inB b a 23) := by
  unfold impl_rangeOk.f
  rw [impl_pitchOk_eq, impl_within_eq]
  simp only [Option.bind_some]
  cases inP a with
  | true => rw [if_pos rfl]; rfl
  | false => rw [if_neg (by decide)]; rfl
theorem spec_l03Pitch_eq (n : Int) : spec_l03Pitch.f n = some (inP n) := by
  unfold spec_l03Pitch.f
  rw [spec_l00In_eq]
  rfl
theorem spec_l00Max_eq (a b : Int) : spec_l00Max.f a b = some (max a b) := by
  unfold spec_l00Max.f
  by_cases h : a > b
  · rw [if_pos h, Int.max_def, if_neg (by omega)]
  · rw [if_neg h, Int.max_def, if_pos (by omega)]
theorem spec_l00Has_l0 (s : List Int) (t : Int) (hl : s.length ≤ 1048576) : ∀ (d i : Nat), s.length - i = d → Ev (fun k => spec_l00Has.l0 k s t i) (hasM (s.drop i) t) := by
  intro d
  induction d with
  | zero =>
    intro i hd
    refine Ev.succ ?_
    simp only [spec_l00Has.l0]
    refine Ev.ite_neg (by omega) ?_
    rw [List.drop_of_length_le (by omega)]
    exact Ev.now _
  | succ d ih =>
    intro i hd
    have hi : i < s.length := by omega
    refine Ev.succ ?_
    simp only [spec_l00Has.l0]
    rw [w64 (x := (i : Int) + 1) (by omega) (by omega), List.drop_eq_getElem_cons hi, ← rd_at hi]
    refine Ev.ite_pos (by omega) (Ev.ite_pos (by omega) ?_)
    by_cases h : rd s i = t
    · refine Ev.ite_pos h (Ev.cast (Ev.now _) ?_)
      simp [hasM, h]
    · refine Ev.ite_neg h (Ev.cast (by simpa using ih (i + 1) (by omega)) ?_)
      simp [hasM, h]
theorem spec_l00Has_ev (s : List Int) (t : Int) (hl : s.length ≤ 1048576) : Ev (fun k => spec_l00Has.f k s t) (hasM s t) := by
  unfold spec_l00Has.f
  simpa using spec_l00Has_l0 s t hl s.length 0 (by omega)
theorem spec_l03Scale_ev (l : List Int) (hl : l.length ≤ 9223372036854775807) : Ev (fun k => spec_l03Scale.f k l) (scaleB l) := by
  unfold spec_l03Scale.f scaleB
  by_cases h : 5 ≤ l.length
  · refine Ev.ite_pos (by omega) ?_
    refine Ev.bind (a := rgB l 0 11 0 l.length) ?_ ?_
    · unfold spec_l00Rises.f
      simpa using spec_l00Rises_l0 l 0 11 hl l.length 0 (by omega) (by omega)
    · cases g : rgB l 0 11 0 l.length with
      | true =>
        refine Ev.ite_pos rfl (Ev.ite_pos (by omega) ?_)
        simpa [h] using Ev.now _
      | false =>
        refine Ev.ite_neg (by decide) ?_
        simpa using Ev.now false
  · refine Ev.ite_neg (by omega) ?_
    simpa [h] using Ev.now false
theorem spec_l05Tone_ev (s : ByteArray) (u d : List Int) (st wk : Int) (f : List (List Int)) (t : Int) (hu : u.length ≤ 1048576) (hd : d.length ≤ 1048576) : Ev (fun k => spec_l05Tone.f k s u d st wk f t) (toneB u d t) := by
  unfold spec_l05Tone.f toneB
  refine Ev.bind (spec_l00Has_ev u t hu) ?_
  cases h : hasM u t with
  | true => exact Ev.ite_pos rfl (Ev.now _)
  | false => exact Ev.ite_neg (by decide) (Ev.bind (spec_l00Has_ev d t hd) (Ev.now _))
theorem spec_l05Pair_eq (p : List Int) : spec_l05Pair.f p = some (pairB p) := by
  unfold spec_l05Pair.f pairB
  by_cases h : p.length = 2
  · rw [if_pos (by omega), if_pos (by omega), spec_l00In_eq, spec_l00In_eq]
    simp only [Option.bind_some]
    cases h1 : (decide (0 ≤ rd p 0) && decide (rd p 0 ≤ 11)) with
    | false => simp [h]
    | true =>
      rw [if_pos rfl, if_pos (by omega)]
      cases h2 : (decide (0 ≤ rd p 1) && decide (rd p 1 ≤ 11)) with
      | false => simp [h]
      | true =>
        rw [if_pos rfl]
        by_cases h3 : rd p 0 = rd p 1 <;> simp [h, h3]
  · rw [if_neg (by omega)]
    simp [h]
theorem spec_l05Pairs_l0 (f : List (List Int)) (hf : f.length ≤ 1048576) : ∀ (d i : Nat), f.length - i = d → (i ≠ 0 → i ≤ f.length ∧ pairB (rd_L1 f ((i : Int) - 1)) = true) → Ev (fun k => spec_l05Pairs.l0 k f i) (pairsM f d i && decide (f.length ≤ 8)) := by
  intro d
  induction d with
  | zero =>
    intro i hd hp
    refine Ev.succ ?_
    simp only [spec_l05Pairs.l0]
    refine Ev.ite_neg (by omega) (Ev.cast (Ev.now _) ?_)
    simp [pairsM]
    omega
  | succ d ih =>
    intro i hd hp
    have hn : pairB (rd_L1 f i) = true → Ev (fun k => spec_l05Pairs.l0 k f ((i : Int) + 1)) (pairsM f d (i + 1) && decide (f.length ≤ 8)) := fun h => by
      have := ih (i + 1) (by omega) (fun _ => ⟨by omega, by rw [show ((i + 1 : Nat) : Int) - 1 = (i : Int) by omega]; exact h⟩)
      simpa using this
    refine Ev.succ ?_
    simp only [spec_l05Pairs.l0, pairsM]
    rw [w64 (x := (i : Int) + 1) (by omega) (by omega)]
    refine Ev.ite_pos (by omega) (Ev.ite_pos (by omega) (Ev.bindc (spec_l05Pair_eq _) ?_))
    cases h : pairB (rd_L1 f i) with
    | false =>
      refine Ev.ite_neg (by decide) (Ev.cast (Ev.now false) ?_)
      simp
    | true =>
      have hl := pairB_len h
      refine Ev.ite_pos rfl ?_
      by_cases h0 : i = 0
      · refine Ev.ite_neg (by omega) (Ev.cast (hn h) ?_)
        simp [h0]
      · obtain ⟨h1, h2⟩ := hp h0
        have hl2 := pairB_len h2
        refine Ev.ite_pos (by omega) ?_
        rw [w64 (x := (i : Int) - 1) (by omega) (by omega)]
        refine Ev.ite_pos (by omega) (Ev.ite_pos (by omega) (Ev.ite_pos (by omega) (Ev.ite_pos (by omega) ?_)))
        by_cases c1 : rd (rd_L1 f ((i : Int) - 1)) 0 > rd (rd_L1 f i) 0
        · refine Ev.ite_pos c1 (Ev.cast (Ev.now false) ?_)
          have e1 : ¬ rd (rd_L1 f ((i : Int) - 1)) 0 < rd (rd_L1 f i) 0 := by omega
          have e2 : ¬ rd (rd_L1 f ((i : Int) - 1)) 0 = rd (rd_L1 f i) 0 := by omega
          simp [h0, ltP, e1, e2]
        · refine Ev.ite_neg c1 ?_
          by_cases c2 : rd (rd_L1 f ((i : Int) - 1)) 0 = rd (rd_L1 f i) 0
          · refine Ev.ite_pos c2 (Ev.ite_pos (by omega) (Ev.ite_pos (by omega) ?_))
            by_cases c3 : rd (rd_L1 f ((i : Int) - 1)) 1 ≥ rd (rd_L1 f i) 1
            · refine Ev.ite_pos c3 (Ev.cast (Ev.now false) ?_)
              have e1 : ¬ rd (rd_L1 f ((i : Int) - 1)) 1 < rd (rd_L1 f i) 1 := by omega
              simp [h0, ltP, c2, e1]
            · refine Ev.ite_neg c3 (Ev.cast (hn h) ?_)
              have e1 : rd (rd_L1 f ((i : Int) - 1)) 1 < rd (rd_L1 f i) 1 := by omega
              simp [h0, ltP, c2, e1]
          · refine Ev.ite_neg c2 (Ev.cast (hn h) ?_)
            have e1 : rd (rd_L1 f ((i : Int) - 1)) 0 < rd (rd_L1 f i) 0 := by omega
            simp [h0, ltP, e1]
theorem spec_l05Ok_ev (s : ByteArray) (u d : List Int) (st wk : Int) (f : List (List Int)) (hs : s.size ≤ 1048576) (hu : u.length ≤ 1048576) (hd : d.length ≤ 1048576) (hf : f.length ≤ 1048576) : Ev (fun k => spec_l05Ok.f k s u d st wk f) (ragaB s u d st wk f) := by
  unfold spec_l05Ok.f ragaB
  refine Ev.bind (spec_l01Name_ev s) ?_
  cases h1 : nameB s with
  | false => exact Ev.ite_neg (by decide) (Ev.now _)
  | true =>
    refine Ev.ite_pos rfl (Ev.bind (spec_l03Scale_ev u (by omega)) ?_)
    cases h2 : scaleB u with
    | false => exact Ev.ite_neg (by decide) (Ev.now _)
    | true =>
      refine Ev.ite_pos rfl (Ev.bind (spec_l03Scale_ev d (by omega)) ?_)
      cases h3 : scaleB d with
      | false => exact Ev.ite_neg (by decide) (Ev.now _)
      | true =>
        refine Ev.ite_pos rfl (Ev.bind (spec_l05Tone_ev s u d st wk f st hu hd) ?_)
        cases h4 : toneB u d st with
        | false => exact Ev.ite_neg (by decide) (Ev.now _)
        | true =>
          refine Ev.ite_pos rfl (Ev.bind (spec_l05Tone_ev s u d st wk f wk hu hd) ?_)
          cases h5 : toneB u d wk with
          | false => exact Ev.ite_neg (by decide) (Ev.now _)
          | true =>
            refine Ev.ite_pos rfl ?_
            by_cases h6 : st = wk
            · refine Ev.ite_pos h6 (Ev.cast (Ev.now false) ?_)
              simp [h6]
            · refine Ev.ite_neg h6 ?_
              refine Ev.bind (a := pairsM f f.length 0 && decide (f.length ≤ 8)) ?_ (Ev.cast (Ev.now _) (by simp [h6]))
              unfold spec_l05Pairs.f
              simpa using spec_l05Pairs_l0 f hf f.length 0 (by omega) (by simp)
theorem spec_l05Reason_l0 (s : ByteArray) (u d : List Int) (st wk : Int) (f : List (List Int)) (a b : Int) (hf : f.length ≤ 8) (hp : ∀ j, j < f.length → (rd_L1 f j).length = 2) : ∀ (m i : Nat), f.length - i = m → Ev (fun k => spec_l05Reason.l0 k a b i s u d st wk f) (if (f.drop i).any (pairQ a b) = true then 5 else 0) := by
  intro m
  induction m with
  | zero =>
    intro i hm
    refine Ev.succ ?_
    simp only [spec_l05Reason.l0]
    refine Ev.ite_neg (by omega) (Ev.cast (Ev.now _) ?_)
    rw [List.drop_of_length_le (by omega)]
    rfl
  | succ m ih =>
    intro i hm
    have hl := hp i (by omega)
    have hn : Ev (fun k => spec_l05Reason.l0 k a b ((i : Int) + 1) s u d st wk f) (if (f.drop (i + 1)).any (pairQ a b) = true then 5 else 0) := ih (i + 1) (by omega)
    refine Ev.succ ?_
    simp only [spec_l05Reason.l0]
    rw [w64 (x := (i : Int) + 1) (by omega) (by omega), List.drop_eq_getElem_cons (show i < f.length by omega), ← rdL_at (show i < f.length by omega), List.any_cons]
    refine Ev.ite_pos (by omega) (Ev.ite_pos (by omega) (Ev.ite_pos (by omega) ?_))
    by_cases c1 : rd (rd_L1 f i) 0 = a
    · refine Ev.ite_pos c1 (Ev.ite_pos (by omega) ?_)
      by_cases c2 : rd (rd_L1 f i) 1 = b
      · have e : pairQ a b (rd_L1 f i) = true := by simp [pairQ, c1, c2]
        refine Ev.ite_pos c2 (Ev.cast (Ev.now _) ?_)
        rw [e, Bool.true_or, if_pos rfl]
      · have e : pairQ a b (rd_L1 f i) = false := by simp [pairQ, c2]
        rw [e, Bool.false_or]
        exact Ev.ite_neg c2 hn
    · have e : pairQ a b (rd_L1 f i) = false := by simp [pairQ, c1]
      rw [e, Bool.false_or]
      exact Ev.ite_neg c1 hn
theorem spec_l05Reason_ev (s : ByteArray) (u d : List Int) (st wk : Int) (f : List (List Int)) (a b : Int) (ha : -1000 ≤ a ∧ a ≤ 1000) (hb : -1000 ≤ b ∧ b ≤ 1000) (hu : u.length ≤ 1048576) (hd : d.length ≤ 1048576) (hf : f.length ≤ 8) (hp : ∀ j, j < f.length → (rd_L1 f j).length = 2) :
    Ev (fun k => spec_l05Reason.f k s u d st wk f a b) (reasonR u d f a b) := by
  have hj : ∀ t : Bool, (toneB u d (tn a) && toneB u d (tn b)) = !t → Ev (fun k => spec_l05Reason.j0 k a b (tn a) (tn b) t s u d st wk f) (reasonR u d f a b) := by
    intro t ht
    refine Ev.succ ?_
    simp only [spec_l05Reason.j0]
    unfold reasonR
    rw [ht]
    cases t with
    | true => exact Ev.ite_pos rfl (Ev.now _)
    | false =>
      rw [w64 (x := a - b) (by omega) (by omega), w64 (x := b - a) (by omega) (by omega)]
      refine Ev.ite_neg (by decide) (Ev.bindc (spec_l00Max_eq _ _) ?_)
      rw [if_pos (show (!false) = true from rfl)]
      by_cases c1 : max (a - b) (b - a) > 12
      · exact Ev.ite_pos c1 (Ev.cast (Ev.now _) (if_pos c1).symm)
      · refine Ev.ite_neg c1 (Ev.cast ?_ (if_neg c1).symm)
        have h2 : ∀ t2 : Bool, (t2 = true ↔ (b < a ∧ hasM d (tn b) = false)) → Ev (fun k => spec_l05Reason.j2 k (tn a) (tn b) t2 s u d st wk f) (if b < a ∧ hasM d (tn b) = false then 4 else if f.any (pairQ (tn a) (tn b)) = true then 5 else 0) := by
          intro t2 e2
          refine Ev.succ ?_
          simp only [spec_l05Reason.j2]
          by_cases c : t2 = true
          · exact Ev.ite_pos c (Ev.cast (Ev.now _) (if_pos (e2.1 c)).symm)
          · refine Ev.ite_neg c (Ev.cast ?_ (if_neg (fun z => c (e2.2 z))).symm)
            simpa using spec_l05Reason_l0 s u d st wk f (tn a) (tn b) hf hp f.length 0 (by omega)
        have h1 : ∀ t1 : Bool, (t1 = true ↔ (b > a ∧ hasM u (tn b) = false)) → Ev (fun k => spec_l05Reason.j1 k a b (tn a) (tn b) t1 s u d st wk f) (if b > a ∧ hasM u (tn b) = false then 3 else if b < a ∧ hasM d (tn b) = false then 4 else if f.any (pairQ (tn a) (tn b)) = true then 5 else 0) := by
          intro t1 e1
          refine Ev.succ ?_
          simp only [spec_l05Reason.j1]
          by_cases c : t1 = true
          · exact Ev.ite_pos c (Ev.cast (Ev.now _) (if_pos (e1.1 c)).symm)
          · refine Ev.ite_neg c (Ev.cast ?_ (if_neg (fun z => c (e1.2 z))).symm)
            by_cases cb : b < a
            · refine Ev.ite_pos cb (Ev.bind (spec_l00Has_ev d _ hd) (h2 _ ?_))
              cases hasM d (tn b) <;> simp [cb]
            · refine Ev.ite_neg cb (h2 _ ?_)
              simp [cb]
        by_cases cb : b > a
        · refine Ev.ite_pos cb (Ev.bind (spec_l00Has_ev u _ hu) (h1 _ ?_))
          cases hasM u (tn b) <;> simp [cb]
        · refine Ev.ite_neg cb (h1 _ ?_)
          simp [cb]
  unfold spec_l05Reason.f
  refine Ev.bindc (show spec_l03Tone.f a = some (tn a) from rfl) (Ev.bindc (show spec_l03Tone.f b = some (tn b) from rfl) (Ev.bind (spec_l05Tone_ev s u d st wk f _ hu hd) ?_))
  cases h1 : toneB u d (tn a) with
  | true =>
    refine Ev.ite_pos rfl (Ev.bind (spec_l05Tone_ev s u d st wk f _ hu hd) (hj _ ?_))
    simp [h1]
  | false =>
    refine Ev.ite_neg (by decide) (hj _ ?_)
    simp [h1]
theorem spec_l05Next_l0 (s : ByteArray) (u d : List Int) (st wk : Int) (f : List (List Int)) (a : Int) (ha : -1000 ≤ a ∧ a ≤ 1000) (hu : u.length ≤ 1048576) (hd : d.length ≤ 1048576) (hf : f.length ≤ 8) (hp : ∀ j, j < f.length → (rd_L1 f j).length = 2) :
    ∀ (m : Nat) (p : Int) (out : List Int), p = 24 - m → m ≤ 36 → out.length + m ≤ 100 → Ev (fun k => spec_l05Next.l0 k a out p s u d st wk f) (out ++ stepsM u d f a p m) := by
  intro m
  induction m with
  | zero =>
    intro p out e _ _
    refine Ev.succ ?_
    simp only [spec_l05Next.l0]
    refine Ev.ite_neg (by omega) (Ev.cast (Ev.now _) ?_)
    simp [stepsM, segM]
  | succ m ih =>
    intro p out e hm hl
    refine Ev.succ ?_
    simp only [spec_l05Next.l0]
    rw [w64 (x := p + 1) (by omega) (by omega)]
    refine Ev.ite_pos (by omega) (Ev.bind (spec_l05Reason_ev s u d st wk f a p ha (by omega) hu hd hf hp) ?_)
    by_cases c : reasonR u d f a p = 0
    · refine Ev.ite_pos c (Ev.ite_pos (by omega) (Ev.cast (ih (p + 1) (out ++ [p]) (by omega) (by omega) (by simp; omega)) ?_))
      simp [stepsM, segM, c]
    · refine Ev.ite_neg c (Ev.cast (ih (p + 1) out (by omega) (by omega) (by omega)) ?_)
      simp [stepsM, segM, c]
theorem spec_l05Next_ev (s : ByteArray) (u d : List Int) (st wk : Int) (f : List (List Int)) (a : Int) (ha : -1000 ≤ a ∧ a ≤ 1000) (hu : u.length ≤ 1048576) (hd : d.length ≤ 1048576) (hf : f.length ≤ 8) (hp : ∀ j, j < f.length → (rd_L1 f j).length = 2) : Ev (fun k => spec_l05Next.f k s u d st wk f a) (stepsM u d f a (-12) 36) := by
  unfold spec_l05Next.f
  simpa using spec_l05Next_l0 s u d st wk f a ha hu hd hf hp 36 (-12) [] (by omega) (by omega) (by simp)
theorem spec_l13In_l0 (l : List Int) (lo hi : Int) (hl : l.length ≤ 1048576) : ∀ (m i : Nat) (out : List Int), l.length - i = m → out.length ≤ i → Ev (fun k => spec_l13In.l0 k l lo hi out i) (out ++ (l.drop i).filter fun q => decide (lo ≤ q) && decide (q ≤ hi)) := by
  intro m
  induction m with
  | zero =>
    intro i out hm _
    refine Ev.succ ?_
    simp only [spec_l13In.l0]
    refine Ev.ite_neg (by omega) (Ev.cast (Ev.now _) ?_)
    rw [List.drop_of_length_le (by omega)]
    simp
  | succ m ih =>
    intro i out hm ho
    have hi' : i < l.length := by omega
    refine Ev.succ ?_
    simp only [spec_l13In.l0]
    rw [w64 (x := (i : Int) + 1) (by omega) (by omega), List.drop_eq_getElem_cons hi', ← rd_at hi', List.filter_cons]
    refine Ev.ite_pos (by omega) (Ev.ite_pos (by omega) (Ev.bindc (spec_l00In_eq _ _ _) ?_))
    cases c : (decide (lo ≤ rd l i) && decide (rd l i ≤ hi)) with
    | true =>
      refine Ev.ite_pos rfl (Ev.ite_pos (by omega) (Ev.cast (ih (i + 1) (out ++ [rd l i]) (by omega) (by simp; omega)) ?_))
      simp
    | false =>
      refine Ev.ite_neg (by decide) (Ev.cast (ih (i + 1) out (by omega) (by omega)) ?_)
      simp
theorem spec_l13In_ev (l : List Int) (lo hi : Int) (hl : l.length ≤ 1048576) : Ev (fun k => spec_l13In.f k l lo hi) (l.filter fun q => decide (lo ≤ q) && decide (q ≤ hi)) := by
  unfold spec_l13In.f
  simpa using spec_l13In_l0 l lo hi hl l.length 0 [] (by omega) (by simp)
def growS : Option (List Int × Int) → List Int × Int × Bool
  | some (o, t) => (o, t, true)
  | none => ([], 0, false)
theorem spec_l13Grow_l0 (s : ByteArray) (u d : List Int) (st wk : Int) (f : List (List Int)) (lo hi n : Int) (h1 : -12 ≤ lo) (h2 : lo ≤ hi) (h3 : hi ≤ 23) (hn : n ≤ 100) (hu : u.length ≤ 1048576) (hd : d.length ≤ 1048576) (hf : f.length ≤ 8) (hp : ∀ j, j < f.length → (rd_L1 f j).length = 2) :
    ∀ (m : Nat) (i sd : Int) (out : List Int), (n - i).toNat = m → 0 ≤ i → i ≤ 100 → Grown lo hi sd out → out.length + m < 1000 → Ev (fun k => spec_l13Grow.l0 k sd out n lo hi i s u d st wk f) (growS (growM u d f lo hi m sd out)) := by
  intro m
  induction m with
  | zero =>
    intro i sd out hm hi0 _ _ _
    refine Ev.succ ?_
    simp only [spec_l13Grow.l0]
    exact Ev.ite_neg (by omega) (Ev.now _)
  | succ m ih =>
    intro i sd out hm hi0 hi1 hg hl
    have ⟨g1, g2, g3, g4, g5⟩ := hg
    refine Ev.succ ?_
    simp only [spec_l13Grow.l0, growM]
    rw [w64 (x := i + 1) (by omega) (by omega), w64 (x := (out.length : Int) - 1) (by omega) (by omega)]
    have e := stepsM_range u d f (lastM out) lo hi h1 h2 h3
    have hs := stepsM_length u d f (lastM out) (-12) 36
    refine Ev.ite_pos (by omega) (Ev.ite_pos (by omega) (Ev.ite_pos (by omega) (Ev.bind (spec_l05Next_ev s u d st wk f (lastM out) (by omega) hu hd hf hp) (Ev.bind (Ev.cast (spec_l13In_ev _ lo hi (by omega)) e) ?_))))
    have hl2 := stepsM_length u d f (lastM out) lo (hi + 1 - lo).toNat
    by_cases c : (stepsM u d f (lastM out) lo (hi + 1 - lo).toNat).length = 0
    · rw [if_pos c]
      exact Ev.ite_pos (by omega) (Ev.now _)
    · rw [if_neg c]
      have hb := pickM_bound sd (stepsM u d f (lastM out) lo (hi + 1 - lo).toNat).length (by omega)
      exact Ev.ite_neg (by omega) (Ev.bindc (spec_l13Pick_eq _ _ g4 g5 (by omega) (by omega)) (Ev.ite_pos hb.1 (Ev.ite_pos hb.2 (Ev.ite_pos (by omega) (ih (i + 1) (nextM sd) _ (by omega) (by omega) (by omega) (growM_step hg h2 c (by omega)) (by simp; omega))))))
theorem spec_l13Grow_ev (s : ByteArray) (u d : List Int) (st wk : Int) (f : List (List Int)) (lo hi n sd : Int) (out : List Int) (h1 : -12 ≤ lo) (h2 : lo ≤ hi) (h3 : hi ≤ 23) (hn : n ≤ 100) (hu : u.length ≤ 1048576) (hd : d.length ≤ 1048576) (hf : f.length ≤ 8) (hp : ∀ j, j < f.length → (rd_L1 f j).length = 2)
    (hg : Grown lo hi sd out) (hl : out.length + n.toNat < 1000) : Ev (fun k => spec_l13Grow.f k s u d st wk f sd out n lo hi) (growS (growM u d f lo hi n.toNat sd out)) := by
  unfold spec_l13Grow.f
  exact spec_l13Grow_l0 s u d st wk f lo hi n h1 h2 h3 hn hu hd hf hp n.toNat 0 sd out (by omega) (by omega) (by omega) hg hl
end Go.Proofs.Ytinlejhffokbaaa.P
end
