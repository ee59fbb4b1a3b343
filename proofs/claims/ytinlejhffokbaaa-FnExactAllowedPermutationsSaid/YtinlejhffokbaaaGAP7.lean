/- Texts of this seat, merged: LRaga, LRdL, LWithin, LIRaga, LInP, LMarkLL, LMarkSS, LSSCopy, LRagaCopy, LMarkRaga, LDropAt, LSHasOne, LSInP, LPerm, LNumb, LMax, LSScale, LSRaga, LWrong. -/
import Derived.Test.YtinlejhffokbaaaGAP1
import Derived.Test.YtinlejhffokbaaaGAP2
import Derived.Test.YtinlejhffokbaaaGAP3
import Derived.Test.YtinlejhffokbaaaGAP4
import Derived.Test.YtinlejhffokbaaaGAP5
import Derived.Test.YtinlejhffokbaaaGAP6
section
namespace Go.Proofs.Ytinlejhffokbaaa.P
open Go.RowKit Go.Proofs.Ytinlejhffokbaaa.P Go.Proofs.YtinlejhffokbaaaW.PrintWords Go.Proofs.YtinlejhffokbaaaW.PrintLast Go.Proofs.YtinlejhffokbaaaW.PrintMore
set_option linter.unusedVariables false
set_option linter.unusedSimpArgs false
def toneB (u d : List Int) (t : Int) : Bool := hasM u t || hasM d t
def pairB (p : List Int) : Bool := decide (p.length = 2) && ((decide (0 ≤ rd p 0) && decide (rd p 0 ≤ 11)) && ((decide (0 ≤ rd p 1) && decide (rd p 1 ≤ 11)) && decide (rd p 0 ≠ rd p 1)))
def ltP (p q : List Int) : Bool := decide (rd p 0 < rd q 0) || (decide (rd p 0 = rd q 0) && decide (rd p 1 < rd q 1))
def pairsM (f : List (List Int)) : Nat → Nat → Bool
  | 0, _ => true
  | d + 1, i => (pairB (rd_L1 f i) && (decide (i = 0) || ltP (rd_L1 f ((i : Int) - 1)) (rd_L1 f i))) && pairsM f d (i + 1)
def ragaB (s : ByteArray) (u d : List Int) (st wk : Int) (f : List (List Int)) : Bool :=
  nameB s && (scaleB u && (scaleB d && (toneB u d st && (toneB u d wk && (decide (st ≠ wk) && (pairsM f f.length 0 && decide (f.length ≤ 8)))))))
theorem pairsM_at {f : List (List Int)} : ∀ (d i : Nat), pairsM f d i = true → ∀ j, i ≤ j → j < i + d → pairB (rd_L1 f j) = true := by
  intro d
  induction d with
  | zero => intro i _ j h1 h2; omega
  | succ d ih =>
    intro i h j h1 h2
    simp only [pairsM, Bool.and_eq_true] at h
    by_cases e : j = i
    · subst e
      exact h.1.1
    · exact ih (i + 1) h.2 j (by omega) (by omega)
theorem pairB_len {p : List Int} (h : pairB p = true) : p.length = 2 := by
  simp only [pairB, Bool.and_eq_true, decide_eq_true_eq] at h
  exact h.1
theorem ragaB_parts {s : ByteArray} {u d : List Int} {st wk : Int} {f : List (List Int)} (h : ragaB s u d st wk f = true) : scaleB u = true ∧ scaleB d = true ∧ f.length ≤ 8 ∧ ∀ j, j < f.length → (rd_L1 f j).length = 2 := by
  simp only [ragaB, Bool.and_eq_true, decide_eq_true_eq] at h
  exact ⟨h.2.1, h.2.2.1, h.2.2.2.2.2.2.2, fun j hj => pairB_len (pairsM_at _ _ h.2.2.2.2.2.2.1 j (by omega) (by omega))⟩
def pairQ (a b : Int) (p : List Int) : Bool := decide (rd p 0 = a) && decide (rd p 1 = b)
def reasonR (u d : List Int) (f : List (List Int)) (a b : Int) : Int :=
  if (toneB u d (tn a) && toneB u d (tn b)) = true then (if max (a - b) (b - a) > 12 then 2 else if b > a ∧ hasM u (tn b) = false then 3 else if b < a ∧ hasM d (tn b) = false then 4 else if f.any (pairQ (tn a) (tn b)) = true then 5 else 0) else 1
theorem rdL_at {f : List (List Int)} {i : Nat} (h : i < f.length) : rd_L1 f (i : Int) = f[i] := by simp [rd_L1, h]
theorem impl_within_eq (n a b : Int) : impl_within.f n a b = some (decide (a ≤ n) && decide (n ≤ b)) := by
  unfold impl_within.f
  by_cases h : n ≥ a
  · have : a ≤ n := h
    simp [this]
  · have : ¬ a ≤ n := h
    simp [this]
theorem impl_hasTone_ev (s : ByteArray) (u d : List Int) (st wk : Int) (f : List (List Int)) (t : Int) (hu : u.length ≤ 1048576) (hd : d.length ≤ 1048576) : Ev (fun k => impl_Raga_hasTone.f k s u d st wk f t) (toneB u d t) := by
  unfold impl_Raga_hasTone.f toneB
  refine Ev.bind (slices_Contains_ev u t hu) ?_
  cases h : hasM u t with
  | true => exact Ev.ite_pos rfl (Ev.now _)
  | false => exact Ev.ite_neg (by decide) (Ev.bind (slices_Contains_ev d t hd) (Ev.now _))
theorem impl_toneOk_eq (n : Int) : impl_toneOk.f n = some (decide (0 ≤ n) && decide (n ≤ 11)) := by
  unfold impl_toneOk.f
  rw [impl_within_eq]
  rfl
def cmpM (a b : Int) : Int := if a < b then -1 else if a > b then 1 else 0
theorem cmp_Compare_eq (a b : Int) : cmp_Compare_int64.f a b = some (cmpM a b) := by
  unfold cmp_Compare_int64.f cmp_isNaN_int64.f cmpM
  simp only [bne_self_eq_false, Option.bind_some]
  rw [if_neg (by decide), if_neg (by decide)]
  split
  · rfl
  · split <;> rfl
theorem slices_Compare_ev (p q : List Int) (hp : p.length = 2) (hq : q.length = 2) : ∃ r, (r ≥ 0 ↔ ltP p q = false) ∧ Ev (fun k => slices_Compare_int64_int64.f k p q) r := by
  have st : ∀ (i : Nat) (r : Int), i < 2 → Ev (fun k => slices_Compare_int64_int64.l0 k p q p (p.length : Int) ((i + 1 : Nat) : Int)) r → Ev (fun k => slices_Compare_int64_int64.l0 k p q p (p.length : Int) (i : Int)) (if cmpM (rd p (i : Int)) (rd q (i : Int)) = 0 then r else cmpM (rd p (i : Int)) (rd q (i : Int))) := by
    intro i r hi h
    refine Ev.succ ?_
    simp only [slices_Compare_int64_int64.l0]
    rw [w64 (x := (i : Int) + 1) (by omega) (by omega)]
    refine Ev.ite_pos (by omega) (Ev.ite_pos (by omega) (Ev.ite_pos (by omega) (Ev.ite_neg (by omega) (Ev.ite_pos (by omega) (Ev.bindc (cmp_Compare_eq _ _) ?_)))))
    by_cases c : cmpM (rd p (i : Int)) (rd q (i : Int)) = 0
    · exact Ev.ite_pos c (Ev.cast h (if_pos c).symm)
    · exact Ev.ite_neg c (Ev.cast (Ev.now _) (if_neg c).symm)
  have e2 : Ev (fun k => slices_Compare_int64_int64.l0 k p q p (p.length : Int) ((2 : Nat) : Int)) 0 := by
    refine Ev.succ ?_
    simp only [slices_Compare_int64_int64.l0]
    exact Ev.ite_neg (by omega) (Ev.ite_neg (by omega) (Ev.now _))
  refine ⟨_, ?_, by unfold slices_Compare_int64_int64.f; exact st 0 _ (by omega) (st 1 _ (by omega) e2)⟩
  simp only [ltP, cmpM]
  have e0 : ((0 : Nat) : Int) = 0 := rfl
  have e1 : ((1 : Nat) : Int) = 1 := rfl
  rw [e0, e1]
  by_cases c1 : rd p 0 < rd q 0
  · simp [c1]
  · by_cases c2 : rd p 0 > rd q 0
    · have c3 : ¬ rd p 0 = rd q 0 := by omega
      simp [c1, c2, c3]
    · have c3 : rd p 0 = rd q 0 := by omega
      by_cases c4 : rd p 1 < rd q 1
      · simp [c3, c4]
      · by_cases c5 : rd p 1 > rd q 1
        · simp [c3, c4, c5]
        · simp [c3, c4, c5]
theorem impl_ValidRaga_l0 (s : ByteArray) (u e : List Int) (st wk : Int) (f : List (List Int)) (hf : f.length ≤ 1048576) : ∀ (d i : Nat), f.length - i = d → (i ≠ 0 → i ≤ f.length ∧ pairB (rd_L1 f ((i : Int) - 1)) = true) → Ev (fun k => impl_ValidRaga.l0 k f (f.length : Int) i s u e st wk f) (pairsM f d i) := by
  intro d
  induction d with
  | zero =>
    intro i hd hp
    refine Ev.succ ?_
    simp only [impl_ValidRaga.l0]
    exact Ev.ite_neg (by omega) (Ev.now _)
  | succ d ih =>
    intro i hd hp
    have hn : pairB (rd_L1 f i) = true → Ev (fun k => impl_ValidRaga.l0 k f (f.length : Int) ((i : Int) + 1) s u e st wk f) (pairsM f d (i + 1)) := fun h => by
      have := ih (i + 1) (by omega) (fun _ => ⟨by omega, by rw [show ((i + 1 : Nat) : Int) - 1 = (i : Int) by omega]; exact h⟩)
      simpa using this
    refine Ev.succ ?_
    simp only [impl_ValidRaga.l0, pairsM]
    rw [w64 (x := (i : Int) + 1) (by omega) (by omega)]
    refine Ev.ite_pos (by omega) (Ev.ite_pos (by omega) (Ev.ite_pos (by omega) ?_))
    by_cases hl : (rd_L1 f i).length = 2
    · refine Ev.ite_pos (by omega) (Ev.ite_pos (by omega) (Ev.bindc (impl_toneOk_eq _) ?_))
      cases h1 : (decide (0 ≤ rd (rd_L1 f i) 0) && decide (rd (rd_L1 f i) 0 ≤ 11)) with
      | false =>
        have e : pairB (rd_L1 f i) = false := by simp [pairB, h1]
        rw [e]
        exact Ev.ite_neg (by decide) (Ev.cast (Ev.now false) (by simp))
      | true =>
        refine Ev.ite_pos rfl (Ev.ite_pos (by omega) (Ev.bindc (impl_toneOk_eq _) ?_))
        cases h2 : (decide (0 ≤ rd (rd_L1 f i) 1) && decide (rd (rd_L1 f i) 1 ≤ 11)) with
        | false =>
          have e : pairB (rd_L1 f i) = false := by simp [pairB, h2]
          rw [e]
          exact Ev.ite_neg (by decide) (Ev.cast (Ev.now false) (by simp))
        | true =>
          refine Ev.ite_pos rfl ?_
          by_cases h3 : rd (rd_L1 f i) 0 = rd (rd_L1 f i) 1
          · have e : pairB (rd_L1 f i) = false := by simp [pairB, h3]
            rw [e]
            exact Ev.ite_pos h3 (Ev.cast (Ev.now false) (by simp))
          · have e : pairB (rd_L1 f i) = true := by simp [pairB, hl, h1, h2, h3]
            refine Ev.ite_neg h3 ?_
            rw [e]
            by_cases h0 : i = 0
            · refine Ev.ite_neg (by omega) (Ev.cast (hn e) ?_)
              simp [h0]
            · obtain ⟨g1, g2⟩ := hp h0
              have hl2 := pairB_len g2
              obtain ⟨r, r1, r2⟩ := slices_Compare_ev (rd_L1 f ((i : Int) - 1)) (rd_L1 f i) hl2 hl
              refine Ev.ite_pos (by omega) ?_
              rw [w64 (x := (i : Int) - 1) (by omega) (by omega)]
              refine Ev.ite_pos (by omega) (Ev.ite_pos (by omega) (Ev.bind r2 ?_))
              by_cases c : r ≥ 0
              · refine Ev.ite_pos c (Ev.cast (Ev.now false) ?_)
                simp [h0, r1.1 c]
              · refine Ev.ite_neg c (Ev.cast (hn e) ?_)
                have : ltP (rd_L1 f ((i : Int) - 1)) (rd_L1 f i) = true := by
                  cases q : ltP (rd_L1 f ((i : Int) - 1)) (rd_L1 f i) with
                  | true => rfl
                  | false => exact absurd (r1.2 q) c
                simp [this]
    · have e : pairB (rd_L1 f i) = false := by simp [pairB, hl]
      rw [e]
      exact Ev.ite_neg (by omega) (Ev.cast (Ev.now false) (by simp))
theorem impl_ValidRaga_ev (s : ByteArray) (u d : List Int) (st wk : Int) (f : List (List Int)) (hs : s.size ≤ 1048576) (hu : u.length ≤ 1048576) (hd : d.length ≤ 1048576) (hf : f.length ≤ 1048576) : Ev (fun k => impl_ValidRaga.f k s u d st wk f) (ragaB s u d st wk f) := by
  have jt : Ev (fun k => impl_ValidRaga.j0 k true s u d st wk f) false := by
    refine Ev.succ ?_
    simp only [impl_ValidRaga.j0]
    exact Ev.ite_pos (by decide) (Ev.now _)
  unfold impl_ValidRaga.f ragaB
  refine Ev.bind (impl_IsName_ev s) ?_
  cases h1 : nameB s with
  | false => exact Ev.ite_neg (by decide) jt
  | true =>
    refine Ev.ite_pos rfl (Ev.bind (impl_ValidScale_ev u (by omega)) ?_)
    cases h2 : scaleB u with
    | false => exact Ev.ite_neg (by decide) jt
    | true =>
      refine Ev.ite_pos rfl (Ev.bind (impl_ValidScale_ev d (by omega)) ?_)
      cases h3 : scaleB d with
      | false => exact Ev.ite_neg (by decide) jt
      | true =>
        refine Ev.ite_pos rfl ?_
        by_cases h6 : st = wk
        · refine Ev.ite_pos h6 (Ev.cast jt ?_)
          simp [h6]
        · refine Ev.ite_neg h6 (Ev.bind (impl_hasTone_ev s u d st wk f st hu hd) ?_)
          cases h4 : toneB u d st with
          | false => exact Ev.ite_neg (by decide) jt
          | true =>
            refine Ev.ite_pos rfl (Ev.bind (impl_hasTone_ev s u d st wk f wk hu hd) ?_)
            cases h5 : toneB u d wk with
            | false => exact Ev.ite_neg (by decide) jt
            | true =>
              refine Ev.ite_pos rfl ?_
              by_cases h8 : (f.length : Int) > 8
              · have e : decide ((f.length : Int) > 8) = true := by simpa using h8
                rw [e]
                refine Ev.cast jt ?_
                have : ¬ f.length ≤ 8 := by omega
                simp [this]
              · have e : decide ((f.length : Int) > 8) = false := by simpa using h8
                rw [e]
                refine Ev.succ ?_
                simp only [impl_ValidRaga.j0]
                refine Ev.ite_neg (by decide) (Ev.cast (by simpa using impl_ValidRaga_l0 s u d st wk f hf f.length 0 (by omega) (by simp)) ?_)
                have : f.length ≤ 8 := by omega
                simp [this, h6]
theorem impl_reason_1_eq (p : List Int) (a b : Int) (h : p.length = 2) : impl_Raga_reason_1.f p a b = some (pairQ a b p) := by
  unfold impl_Raga_reason_1.f pairQ
  rw [if_pos (by omega)]
  by_cases c : rd p 0 = a
  · rw [if_pos c, if_pos (by omega)]
    simp [c]
    rfl
  · rw [if_neg c]
    simp [c]
theorem impl_reason_any_eq (f : List (List Int)) (a b : Int) (hp : ∀ j, j < f.length → (rd_L1 f j).length = 2) : impl_reason_any.f f a b = some (f.any (pairQ a b)) := by
  have hm : ∀ p ∈ f, impl_Raga_reason_1.f p a b = some (pairQ a b p) := by
    intro p hp'
    obtain ⟨j, hj, rfl⟩ := List.getElem_of_mem hp'
    refine impl_reason_1_eq _ a b ?_
    have := hp j hj
    rwa [rdL_at hj] at this
  unfold impl_reason_any.f
  rw [if_pos (by
    rw [List.all_eq_true]
    intro p hp'
    rw [hm p hp']
    rfl)]
  congr 1
  rw [Bool.eq_iff_iff, List.any_eq_true, List.any_eq_true]
  constructor
  · rintro ⟨p, hp', h⟩
    refine ⟨p, hp', ?_⟩
    rw [hm p hp'] at h
    simpa using h
  · rintro ⟨p, hp', h⟩
    refine ⟨p, hp', ?_⟩
    rw [hm p hp', h]
    rfl
theorem impl_reason_ev (s : ByteArray) (u d : List Int) (st wk : Int) (f : List (List Int)) (a b : Int) (ha : -1000 ≤ a ∧ a ≤ 1000) (hb : -1000 ≤ b ∧ b ≤ 1000) (hu : u.length ≤ 1048576) (hd : d.length ≤ 1048576) (hf : f.length ≤ 8) (hp : ∀ j, j < f.length → (rd_L1 f j).length = 2) :
    Ev (fun k => impl_Raga_reason.f k s u d st wk f a b) (reasonR u d f a b) := by
  have hj : ∀ t : Bool, (toneB u d (tn a) && toneB u d (tn b)) = !t → Ev (fun k => impl_Raga_reason.j0 k a b t s u d st wk f (tn a) (tn b)) (reasonR u d f a b) := by
    intro t ht
    refine Ev.succ ?_
    simp only [impl_Raga_reason.j0]
    unfold reasonR
    rw [ht]
    cases t with
    | true => exact Ev.ite_pos rfl (Ev.now _)
    | false =>
      rw [w64 (x := a - b) (by omega) (by omega)]
      refine Ev.ite_neg (by decide) (Ev.bindc (impl_abs_eq _ (by omega) (by omega)) ?_)
      rw [if_pos (show (!false) = true from rfl), show max (a - b) (-(a - b)) = max (a - b) (b - a) by omega]
      by_cases c1 : max (a - b) (b - a) > 12
      · exact Ev.ite_pos c1 (Ev.cast (Ev.now _) (if_pos c1).symm)
      · refine Ev.ite_neg c1 (Ev.cast ?_ (if_neg c1).symm)
        have h2 : ∀ t2 : Bool, (t2 = true ↔ (b < a ∧ hasM d (tn b) = false)) → Ev (fun k => impl_Raga_reason.j2 k t2 s u d st wk f (tn a) (tn b)) (if b < a ∧ hasM d (tn b) = false then 4 else if f.any (pairQ (tn a) (tn b)) = true then 5 else 0) := by
          intro t2 e2
          refine Ev.succ ?_
          simp only [impl_Raga_reason.j2]
          by_cases c : t2 = true
          · exact Ev.ite_pos c (Ev.cast (Ev.now _) (if_pos (e2.1 c)).symm)
          · refine Ev.ite_neg c (Ev.cast ?_ (if_neg (fun z => c (e2.2 z))).symm)
            refine Ev.bindc (impl_reason_any_eq f _ _ hp) ?_
            by_cases c5 : f.any (pairQ (tn a) (tn b)) = true
            · exact Ev.ite_pos c5 (Ev.cast (Ev.now _) (if_pos c5).symm)
            · exact Ev.ite_neg c5 (Ev.cast (Ev.now _) (if_neg c5).symm)
        have h1 : ∀ t1 : Bool, (t1 = true ↔ (b > a ∧ hasM u (tn b) = false)) → Ev (fun k => impl_Raga_reason.j1 k a b t1 s u d st wk f (tn a) (tn b)) (if b > a ∧ hasM u (tn b) = false then 3 else if b < a ∧ hasM d (tn b) = false then 4 else if f.any (pairQ (tn a) (tn b)) = true then 5 else 0) := by
          intro t1 e1
          refine Ev.succ ?_
          simp only [impl_Raga_reason.j1]
          by_cases c : t1 = true
          · exact Ev.ite_pos c (Ev.cast (Ev.now _) (if_pos (e1.1 c)).symm)
          · refine Ev.ite_neg c (Ev.cast ?_ (if_neg (fun z => c (e1.2 z))).symm)
            by_cases cb : b < a
            · refine Ev.ite_pos cb (Ev.bind (slices_Contains_ev d _ hd) (h2 _ ?_))
              cases hasM d (tn b) <;> simp [cb]
            · refine Ev.ite_neg cb (h2 _ ?_)
              simp [cb]
        by_cases cb : b > a
        · refine Ev.ite_pos cb (Ev.bind (slices_Contains_ev u _ hu) (h1 _ ?_))
          cases hasM u (tn b) <;> simp [cb]
        · refine Ev.ite_neg cb (h1 _ ?_)
          simp [cb]
  unfold impl_Raga_reason.f
  refine Ev.bindc (show impl_ToneOf.f a = some (tn a) from rfl) (Ev.bindc (show impl_ToneOf.f b = some (tn b) from rfl) (Ev.bind (impl_hasTone_ev s u d st wk f _ hu hd) ?_))
  cases h1 : toneB u d (tn a) with
  | true =>
    refine Ev.ite_pos rfl (Ev.bind (impl_hasTone_ev s u d st wk f _ hu hd) (hj _ ?_))
    simp [h1]
  | false =>
    refine Ev.ite_neg (by decide) (hj _ ?_)
    simp [h1]
def inP (n : Int) : Bool := decide (-12 ≤ n) && decide (n ≤ 23)
def marksL (c : Nat) : List (List Int) → Int → List (List Int)
  | [], _ => []
  | _ :: r, v => marks c v :: marksL c r (v + c)
theorem marksL_len (c : Nat) : ∀ l v, (marksL c l v).length = l.length
  | [], _ => rfl
  | _ :: r, v => by simp [marksL, marksL_len c r (v + c)]
theorem rdL_mid (pre suf : List (List Int)) (l : List Int) : rd_L1 (pre ++ l :: suf) (pre.length : Int) = l := by simp [rd_L1]
theorem setL_mid (pre suf : List (List Int)) (l l' : List Int) : (pre ++ l :: suf).set pre.length l' = pre ++ l' :: suf := by simp
theorem markLL_l0 (c : Nat) (hc : c ≤ 8) : ∀ (rest pre : List (List Int)) (v : Int), (∀ l ∈ rest, l.length = c) → pre.length + rest.length ≤ 100 → 0 ≤ v → v ≤ 1000 + 8 * pre.length → Ev (fun k => laws_markInt64SS.l0 k (pre ++ rest) v pre.length) (v + (c * rest.length : Nat), pre ++ marksL c rest v)
  | [], pre, v, _, h, h0, h1 => by
    refine Ev.succ ?_
    simp only [laws_markInt64SS.l0]
    rw [List.append_nil]
    refine Ev.ite_neg (by omega) ?_
    simpa [marksL] using Ev.now (v, pre)
  | l :: rest, pre, v, hl, h, h0, h1 => by
    have l2 := hl l (List.mem_cons_self)
    have hlen : (pre ++ l :: rest).length = pre.length + rest.length + 1 := by simp; omega
    have hlen2 : pre.length + (rest.length + 1) ≤ 100 := by simpa using h
    refine Ev.succ ?_
    simp only [laws_markInt64SS.l0]
    rw [w64 (x := (pre.length : Int) + 1) (by omega) (by omega), rdL_mid]
    refine Ev.ite_pos (by omega) (Ev.ite_pos (by omega) (Ev.bind (markInt64S_ev l v (by omega) h0 (by omega)) ?_))
    rw [Int.toNat_natCast, setL_mid, l2]
    have ih := markLL_l0 c hc rest (pre ++ [marks c v]) (v + c) (fun x hx => hl x (List.mem_cons_of_mem _ hx)) (by simp; omega) (by omega) (by simp; omega)
    have e1 : (((pre ++ [marks c v]).length : Nat) : Int) = (pre.length : Int) + 1 := by simp
    have e2 : (v + c) + (c * rest.length : Nat) = v + (c * (l :: rest).length : Nat) := by
      rw [List.length_cons, Nat.mul_succ]; omega
    rw [e1, e2, List.append_assoc, List.append_assoc] at ih
    exact ih
theorem heldLL_l0 (c : Nat) (hc : c ≤ 8) : ∀ (rest pre : List (List Int)) (v : Int), pre.length + rest.length ≤ 100 → 0 ≤ v → v ≤ 1000 + 8 * pre.length → Ev (fun k => laws_heldInt64SS.l0 k (pre ++ marksL c rest v) v pre.length) (v + (c * rest.length : Nat))
  | [], pre, v, h, h0, h1 => by
    refine Ev.succ ?_
    simp only [laws_heldInt64SS.l0]
    rw [marksL, List.append_nil]
    refine Ev.ite_neg (by omega) ?_
    simpa using Ev.now v
  | l :: rest, pre, v, h, h0, h1 => by
    have hlen : (pre ++ marksL c (l :: rest) v).length = pre.length + rest.length + 1 := by rw [List.length_append, marksL_len]; simp; omega
    have hlen2 : pre.length + (rest.length + 1) ≤ 100 := by simpa using h
    refine Ev.succ ?_
    simp only [laws_heldInt64SS.l0]
    rw [w64 (x := (pre.length : Int) + 1) (by omega) (by omega)]
    have e0 : rd_L1 (pre ++ marksL c (l :: rest) v) (pre.length : Int) = marks c v := rdL_mid pre _ _
    rw [e0]
    refine Ev.ite_pos (by omega) (Ev.ite_pos (by omega) (Ev.bind (heldInt64S_ev c v (by omega) h0 (by omega)) (Ev.ite_neg (by omega) ?_)))
    have ih := heldLL_l0 c hc rest (pre ++ [marks c v]) (v + c) (by simp; omega) (by omega) (by simp; omega)
    have e1 : (((pre ++ [marks c v]).length : Nat) : Int) = (pre.length : Int) + 1 := by simp
    have e2 : (v + c) + (c * rest.length : Nat) = v + (c * (l :: rest).length : Nat) := by
      rw [List.length_cons, Nat.mul_succ]; omega
    rw [e1, e2, List.append_assoc] at ih
    exact ih
theorem markInt64SS_any : ∀ (m i : Nat) (L : List (List Int)) (v : Int), L.length - i = m → (∀ j, i ≤ j → j < L.length → (rd_L1 L j).length ≤ 1048576) → L.length ≤ 1048576 → 0 ≤ v → v + 1048576 * m ≤ 4611686018427387903 →
    ∃ v' M, (0 ≤ v' ∧ v' ≤ v + 1048576 * m) ∧ Ev (fun k => laws_markInt64SS.l0 k L v i) (v', M) := by
  intro m
  induction m with
  | zero =>
    intro i L v hm _ hL h0 _
    refine ⟨v, L, by omega, Ev.succ ?_⟩
    simp only [laws_markInt64SS.l0]
    exact Ev.ite_neg (by omega) (Ev.now _)
  | succ m ih =>
    intro i L v hm hr hL h0 hv
    have hi : i < L.length := by omega
    have hl := hr i (Nat.le_refl _) hi
    obtain ⟨v', M, h1, e⟩ := ih (i + 1) (L.set i (marks (rd_L1 L i).length v)) (v + (rd_L1 L i).length) (by simp; omega)
      (fun j h1 h2 => by
        have h2' : j < L.length := by simpa using h2
        rw [show rd_L1 (L.set i (marks (rd_L1 L i).length v)) (j : Int) = rd_L1 L j by simp [rd_L1, List.getElem?_set_ne (show i ≠ j by omega)]]
        exact hr j (by omega) h2')
      (by simpa using hL) (by omega) (by omega)
    refine ⟨v', M, by omega, Ev.succ ?_⟩
    simp only [laws_markInt64SS.l0]
    rw [w64 (x := (i : Int) + 1) (by omega) (by omega)]
    refine Ev.ite_pos (by omega) (Ev.ite_pos (by omega) (Ev.bind (markInt64S_ev _ _ (by omega) h0 (by omega)) ?_))
    simpa using e
theorem markInt64SS_ev (L : List (List Int)) (v : Int) (hr : ∀ j, j < L.length → (rd_L1 L j).length ≤ 1048576) (hL : L.length ≤ 1048576) (h0 : 0 ≤ v) (hv : v ≤ 1125899906842624) : ∃ v' M, (0 ≤ v' ∧ v' ≤ v + 1048576 * L.length) ∧ Ev (fun k => laws_markInt64SS.f k L v) (v', M) := by
  unfold laws_markInt64SS.f
  exact markInt64SS_any L.length 0 L v (by omega) (fun j _ h => hr j h) hL h0 (by omega)
theorem szInt64S_ge (l : List Int) (a : Int) (h0 : 0 ≤ a) (h1 : a ≤ 1048576) (hl : l.length ≤ 9223372036854775807) : ∃ t, laws_szInt64S.f l a = some t ∧ (t < 0 ∨ (0 ≤ t ∧ t ≤ a ∧ l.length ≤ 1048576)) := by
  unfold laws_szInt64S.f
  rw [w64 (x := a - l.length) (by omega) (by omega)]
  by_cases h : a - (l.length : Int) < 0
  · exact ⟨-1, by rw [if_pos h], .inl (by omega)⟩
  · exact ⟨_, by rw [if_neg h], .inr (by omega)⟩
theorem szInt64SS_l0 (f : List (List Int)) (hf : f.length ≤ 9223372036854775807) (hr : ∀ y ∈ f, y.length ≤ 9223372036854775807) : ∀ (d i : Nat) (a : Int), f.length - i = d → 0 ≤ a → a ≤ 1048576 → (∀ j, j < i → j < f.length → (rd_L1 f j).length ≤ 1048576) →
    ∃ t, Ev (fun k => laws_szInt64SS.l0 k f a i) t ∧ (t < 0 ∨ (0 ≤ t ∧ t ≤ a ∧ ∀ j, j < f.length → (rd_L1 f j).length ≤ 1048576)) := by
  intro d
  induction d with
  | zero =>
    intro i a hd h0 h1 hj
    refine ⟨a, Ev.succ ?_, .inr ⟨h0, Int.le_refl _, fun j h => hj j (by omega) h⟩⟩
    simp only [laws_szInt64SS.l0]
    exact Ev.ite_neg (by omega) (Ev.now _)
  | succ d ih =>
    intro i a hd h0 h1 hj
    have hi : i < f.length := by omega
    obtain ⟨t, ht, hc⟩ := szInt64S_ge (rd_L1 f i) a h0 h1 (by rw [rdL_at hi]; exact hr _ (List.getElem_mem hi))
    rcases hc with hc | ⟨c0, c1, c2⟩
    · refine ⟨-1, Ev.succ ?_, .inl (by omega)⟩
      simp only [laws_szInt64SS.l0]
      exact Ev.ite_pos (by omega) (Ev.ite_pos (by omega) (Ev.bindc ht (Ev.ite_pos hc (Ev.now _))))
    · obtain ⟨r, hr1, hr2⟩ := ih (i + 1) t (by omega) c0 (by omega) (fun j h1 h2 => by
        by_cases e : j = i
        · subst e
          exact c2
        · exact hj j (by omega) h2)
      refine ⟨r, Ev.succ ?_, ?_⟩
      · simp only [laws_szInt64SS.l0]
        rw [w64 (x := (i : Int) + 1) (by omega) (by omega)]
        exact Ev.ite_pos (by omega) (Ev.ite_pos (by omega) (Ev.bindc ht (Ev.ite_neg (by omega) (by simpa using hr1))))
      · rcases hr2 with h | ⟨g0, g1, g2⟩
        · exact .inl h
        · exact .inr ⟨g0, by omega, g2⟩
theorem szInt64SS_ge (f : List (List Int)) (a : Int) (h0 : 0 ≤ a) (h1 : a ≤ 1048576) (hf : f.length ≤ 9223372036854775807) (hr : ∀ y ∈ f, y.length ≤ 9223372036854775807) :
    ∃ t, Ev (fun k => laws_szInt64SS.f k f a) t ∧ (t < 0 ∨ (0 ≤ t ∧ t ≤ a ∧ f.length ≤ 1048576 ∧ ∀ j, j < f.length → (rd_L1 f j).length ≤ 1048576)) := by
  unfold laws_szInt64SS.f
  rw [w64 (x := a - f.length) (by omega) (by omega)]
  by_cases h : a - (f.length : Int) < 0
  · exact ⟨-1, Ev.ite_pos h (Ev.now _), .inl (by omega)⟩
  · obtain ⟨t, h2, h3⟩ := szInt64SS_l0 f hf hr f.length 0 (a - f.length) (by omega) (by omega) (by omega) (fun j h => by omega)
    refine ⟨t, Ev.ite_neg h (by simpa using h2), ?_⟩
    rcases h3 with h3 | ⟨g0, g1, g2⟩
    · exact .inl h3
    · exact .inr ⟨g0, by omega, by omega, g2⟩
theorem setL_at {l : List (List Int)} {i : Nat} {v : List Int} {m : List (List Int)} (h : i < l.length) (e : l.take i = m) : (l.set i v).take (i + 1) = m ++ [v] := by
  rw [List.take_succ_eq_append_getElem (by simpa using h)]
  simp [List.take_set_of_le, e]
theorem toInt64SS_l0 (l : List (List Int)) (hl : l.length ≤ 1048576) (hr : ∀ j, j < l.length → (rd_L1 l j).length ≤ 1048576) : ∀ (d i : Nat) (m : List (List Int)), l.length - i = d → i ≤ l.length → m.length = l.length → m.take i = l.take i → Ev (fun k => laws_toInt64SS.l0 k l m i) l := by
  intro d
  induction d with
  | zero =>
    intro i m hd hi hm ht
    have : i = l.length := by omega
    subst this
    refine Ev.succ ?_
    simp only [laws_toInt64SS.l0]
    refine Ev.ite_neg (by omega) ?_
    rw [List.take_of_length_le (by omega), List.take_of_length_le (Nat.le_refl _)] at ht
    rw [ht]
    exact Ev.now _
  | succ d ih =>
    intro i m hd hi hm ht
    have hi' : i < l.length := by omega
    refine Ev.succ ?_
    simp only [laws_toInt64SS.l0]
    refine Ev.ite_pos (by omega) (Ev.ite_pos (by omega) (Ev.bind (toInt64S_ev (rd_L1 l i) (by have := hr i hi'; omega)) (Ev.ite_pos (by omega) ?_)))
    rw [w64 (x := (i : Int) + 1) (by omega) (by omega), rdL_at hi', Int.toNat_natCast]
    have := ih (i + 1) (m.set i l[i]) (by omega) (by omega) (by simpa using hm) (by
      rw [setL_at (by omega) ht, ← List.take_succ_eq_append_getElem (by omega)])
    simpa using this
theorem toInt64SS_ev (l : List (List Int)) (h : l.length ≤ 1048576) (hr : ∀ j, j < l.length → (rd_L1 l j).length ≤ 1048576) : Ev (fun k => laws_toInt64SS.f k l) l := by
  unfold laws_toInt64SS.f
  refine Ev.ite_pos (by omega) (Ev.ite_pos (by omega) ?_)
  exact toInt64SS_l0 l h hr l.length 0 _ (by omega) (by omega) (by simp) (by simp)
theorem eqInt64SS_l0 (l : List (List Int)) (hl : l.length ≤ 1048576) (hr : ∀ j, j < l.length → (rd_L1 l j).length ≤ 1048576) : ∀ (d i : Nat), l.length - i = d → Ev (fun k => laws_eqInt64SS.l0 k l l i) true := by
  intro d
  induction d with
  | zero =>
    intro i hd
    refine Ev.succ ?_
    simp only [laws_eqInt64SS.l0]
    exact Ev.ite_neg (by omega) (Ev.now _)
  | succ d ih =>
    intro i hd
    refine Ev.succ ?_
    simp only [laws_eqInt64SS.l0]
    rw [w64 (x := (i : Int) + 1) (by omega) (by omega)]
    exact Ev.ite_pos (by omega) (Ev.ite_pos (by omega) (Ev.ite_pos (by omega) (Ev.bind (eqInt64S_self _ (by have := hr i (by omega); omega)) (Ev.ite_pos rfl (by simpa using ih (i + 1) (by omega))))))
theorem eqInt64SS_self (l : List (List Int)) (hl : l.length ≤ 1048576) (hr : ∀ j, j < l.length → (rd_L1 l j).length ≤ 1048576) : Ev (fun k => laws_eqInt64SS.f k l l) true := by
  unfold laws_eqInt64SS.f
  exact Ev.ite_pos rfl (by simpa using eqInt64SS_l0 l hl hr l.length 0 (by omega))
def Fits (s : ByteArray) (u d : List Int) (f : List (List Int)) : Prop := s.size ≤ 1048576 ∧ u.length ≤ 1048576 ∧ d.length ≤ 1048576 ∧ f.length ≤ 1048576 ∧ ∀ j, j < f.length → (rd_L1 f j).length ≤ 1048576
theorem szRaga_ge (s : ByteArray) (u d : List Int) (st wk : Int) (f : List (List Int)) (a : Int) (h0 : 0 ≤ a) (h1 : a ≤ 1048576) (hs : s.size ≤ maxLen) (hu : u.length ≤ maxLen) (hd : d.length ≤ maxLen) (hf : f.length ≤ maxLen) (hr : ∀ y ∈ f, y.length ≤ maxLen) :
    ∃ t, Ev (fun k => laws_szRaga.f k s u d st wk f a) t ∧ (t < 0 ∨ (0 ≤ t ∧ t ≤ a ∧ Fits s u d f)) := by
  have e : maxLen ≤ 9223372036854775807 := by decide
  unfold laws_szRaga.f
  rw [w64 (x := a - s.size) (by omega) (by omega)]
  by_cases h : a - (s.size : Int) < 0
  · exact ⟨-1, Ev.ite_pos h (Ev.now _), .inl (by omega)⟩
  obtain ⟨t1, e1, c1⟩ := szInt64S_ge u (a - s.size) (by omega) (by omega) (Nat.le_trans hu e)
  rcases c1 with c1 | ⟨a1, b1, d1⟩
  · exact ⟨-1, Ev.ite_neg h (Ev.bindc e1 (Ev.ite_pos c1 (Ev.now _))), .inl (by omega)⟩
  obtain ⟨t2, e2, c2⟩ := szInt64S_ge d t1 (by omega) (by omega) (Nat.le_trans hd e)
  rcases c2 with c2 | ⟨a2, b2, d2⟩
  · exact ⟨-1, Ev.ite_neg h (Ev.bindc e1 (Ev.ite_neg (by omega) (Ev.bindc e2 (Ev.ite_pos c2 (Ev.now _))))), .inl (by omega)⟩
  obtain ⟨t3, e3, c3⟩ := szInt64SS_ge f t2 (by omega) (by omega) (Nat.le_trans hf e) (fun y hy => Nat.le_trans (hr y hy) e)
  rcases c3 with c3 | ⟨a3, b3, d3, f3⟩
  · exact ⟨-1, Ev.ite_neg h (Ev.bindc e1 (Ev.ite_neg (by omega) (Ev.bindc e2 (Ev.ite_neg (by omega) (Ev.bind e3 (Ev.ite_pos c3 (Ev.now _))))))), .inl (by omega)⟩
  · exact ⟨t3, Ev.ite_neg h (Ev.bindc e1 (Ev.ite_neg (by omega) (Ev.bindc e2 (Ev.ite_neg (by omega) (Ev.bind e3 (Ev.ite_neg (by omega) (Ev.now _))))))), .inr ⟨a3, by omega, by omega, d1, d2, d3, f3⟩⟩
theorem toRaga_ev {s : ByteArray} {u d : List Int} {f : List (List Int)} (h : Fits s u d f) (st wk : Int) : Ev (fun k => laws_toRaga.f k s u d st wk f) (s, u, d, st, wk, f) := by
  unfold laws_toRaga.f
  exact Ev.bind (toInt64S_ev u (by have := h.2.1; omega)) (Ev.bind (toInt64S_ev d (by have := h.2.2.1; omega)) (Ev.bind (toInt64SS_ev f h.2.2.2.1 h.2.2.2.2) (Ev.now _)))
theorem eqRaga_self {s : ByteArray} {u d : List Int} {f : List (List Int)} (h : Fits s u d f) (st wk : Int) : Ev (fun k => laws_eqRaga.f k s u d st wk f s u d st wk f) true := by
  unfold laws_eqRaga.f
  exact Ev.ite_pos rfl (Ev.bind (eqInt64S_self u (by have := h.2.1; omega)) (Ev.ite_pos rfl (Ev.bind (eqInt64S_self d (by have := h.2.2.1; omega)) (Ev.ite_pos rfl (Ev.ite_pos rfl (Ev.ite_pos rfl (Ev.bind (eqInt64SS_self f h.2.2.2.1 h.2.2.2.2) (Ev.ite_pos rfl (Ev.now _)))))))))
theorem markRaga_le (s : ByteArray) (u d : List Int) (st wk : Int) (f : List (List Int)) (h : Fits s u d f) : ∃ v, (0 ≤ v ∧ v ≤ 2199023255552) ∧ Ev (fun k => laws_markRaga.f k s u d st wk f 1) v := by
  obtain ⟨h1, h2, h3, h4, h5⟩ := h
  obtain ⟨v, M, hv, e⟩ := markInt64SS_ev f (1 + (u.length : Int) + (d.length : Int)) h5 h4 (by omega) (by omega)
  refine ⟨v, by omega, ?_⟩
  unfold laws_markRaga.f
  exact Ev.bind (markInt64S_ev u 1 (by omega) (by omega) (by omega)) (Ev.bind (markInt64S_ev d _ (by omega) (by omega) (by omega)) (Ev.bind e (Ev.now _)))
theorem markRaga_ev (s : ByteArray) (u d : List Int) (st wk : Int) (f : List (List Int)) (h : Fits s u d f) : ∃ v, 0 ≤ v ∧ Ev (fun k => laws_markRaga.f k s u d st wk f 1) v :=
  have ⟨v, h1, h2⟩ := markRaga_le s u d st wk f h
  ⟨v, h1.1, h2⟩
theorem all_drop_at {l : List Int} {i : Nat} (q : Int → Bool) (h : i < l.length) : (l.drop i).all q = (q (rd l i) && (l.drop (i + 1)).all q) := by
  rw [List.drop_eq_getElem_cons h, List.all_cons, rd_at h]
theorem spec_l00Has_l0 (s : List Int) (t : Int) (hl : s.length ≤ 1048576) : ∀ (d i : Nat), s.length - i = d → Ev (fun k => spec_l00Has.l0 k s t i) (hasM (s.drop i) t) := by
  intro d
  induction d with
  | zero =>
    intro i hd
    refine Ev.succ ?_
    simp only [spec_l00Has.l0]
    refine Ev.ite_neg (by omega) ?_
    rw [List.drop_of_length_le (by omega)]
    exact Ev.now _
  | succ d ih =>
    intro i hd
    have hi : i < s.length := by omega
    refine Ev.succ ?_
    simp only [spec_l00Has.l0]
    rw [w64 (x := (i : Int) + 1) (by omega) (by omega), List.drop_eq_getElem_cons hi, ← rd_at hi]
    refine Ev.ite_pos (by omega) (Ev.ite_pos (by omega) ?_)
    by_cases h : rd s i = t
    · refine Ev.ite_pos h (Ev.cast (Ev.now _) ?_)
      simp [hasM, h]
    · refine Ev.ite_neg h (Ev.cast (by simpa using ih (i + 1) (by omega)) ?_)
      simp [hasM, h]
theorem spec_l00Has_ev (s : List Int) (t : Int) (hl : s.length ≤ 1048576) : Ev (fun k => spec_l00Has.f k s t) (hasM s t) := by
  unfold spec_l00Has.f
  simpa using spec_l00Has_l0 s t hl s.length 0 (by omega)
theorem spec_l03Pitch_eq (n : Int) : spec_l03Pitch.f n = some (inP n) := by
  unfold spec_l03Pitch.f
  rw [spec_l00In_eq]
  rfl
def dupF (l : List Int) : Nat → Nat → Bool
  | 0, _ => true
  | d + 1, i => !(hasM (l.take i) (rd l i)) && dupF l d (i + 1)
def permB (l : List Int) : Bool := (l.all inP && dupF l l.length 0) && (decide (1 ≤ l.length) && decide (l.length ≤ 8))
theorem impl_permutedOk_l0 (l : List Int) (hl : l.length ≤ 1048576) : ∀ (d i : Nat), l.length - i = d → i ≤ l.length → Ev (fun k => impl_permutedOk.l0 k l l (l.length : Int) i) ((dupF l d i) && (decide (1 ≤ l.length) && (decide (l.length ≤ 8) && l.all inP))) := by
  intro d
  induction d with
  | zero =>
    intro i hd hi
    refine Ev.succ ?_
    simp only [impl_permutedOk.l0]
    refine Ev.ite_neg (by omega) ?_
    by_cases h : (l.length : Int) ≥ 1
    · have h' : 1 ≤ l.length := by omega
      refine Ev.ite_pos h ?_
      by_cases g : (l.length : Int) ≤ 8
      · have g' : l.length ≤ 8 := by omega
        refine Ev.ite_pos g (Ev.bindc (show impl_allWithin.f l (-12) 23 = some _ from rfl) (Ev.cast (Ev.now _) ?_))
        simp only [dupF, h', g', decide_true, Bool.true_and]
        rfl
      · have g' : ¬ l.length ≤ 8 := by omega
        refine Ev.ite_neg g (Ev.cast (Ev.now _) ?_)
        simp [g']
    · have h' : ¬ 1 ≤ l.length := by omega
      refine Ev.ite_neg h (Ev.cast (Ev.now _) ?_)
      simp [h']
  | succ d ih =>
    intro i hd hi
    refine Ev.succ ?_
    simp only [impl_permutedOk.l0]
    rw [w64 (x := (i : Int) + 1) (by omega) (by omega), Int.toNat_natCast]
    refine Ev.ite_pos (by omega) (Ev.ite_pos (by omega) (Ev.ite_pos (by omega) (Ev.ite_pos (by omega) (Ev.bind (slices_Contains_ev (l.take i) (rd l i) (by simp; omega)) ?_))))
    cases h : hasM (l.take i) (rd l i) with
    | true =>
      refine Ev.ite_pos rfl (Ev.cast (Ev.now _) ?_)
      simp [dupF, h]
    | false =>
      refine Ev.ite_neg (by decide) (Ev.cast (by simpa using ih (i + 1) (by omega) (by omega)) ?_)
      simp [dupF, h]
theorem impl_permutedOk_ev (l : List Int) (hl : l.length ≤ 1048576) : Ev (fun k => impl_permutedOk.f k l) (permB l) := by
  unfold impl_permutedOk.f
  refine Ev.cast (by simpa using impl_permutedOk_l0 l hl l.length 0 (by omega) (by omega)) ?_
  unfold permB
  cases dupF l l.length 0 <;> cases l.all inP <;> simp
theorem spec_l14Permuted_l0 (l : List Int) (hl : l.length ≤ 1048576) : ∀ (d i : Nat), l.length - i = d → i ≤ l.length → Ev (fun k => spec_l14Permuted.l0 k l i) (((l.drop i).all inP && dupF l d i) && (decide (1 ≤ l.length) && decide (l.length ≤ 8))) := by
  intro d
  induction d with
  | zero =>
    intro i hd hi
    refine Ev.succ ?_
    simp only [spec_l14Permuted.l0]
    refine Ev.ite_neg (by omega) ?_
    rw [List.drop_of_length_le (by omega)]
    by_cases h : (l.length : Int) ≥ 1
    · have h' : 1 ≤ l.length := by omega
      refine Ev.ite_pos h (Ev.cast (Ev.now _) ?_)
      simp [dupF, h']
      omega
    · have h' : ¬ 1 ≤ l.length := by omega
      refine Ev.ite_neg h (Ev.cast (Ev.now _) ?_)
      simp [h']
  | succ d ih =>
    intro i hd hi
    refine Ev.succ ?_
    simp only [spec_l14Permuted.l0]
    rw [w64 (x := (i : Int) + 1) (by omega) (by omega), Int.toNat_natCast, all_drop_at inP (by omega)]
    refine Ev.ite_pos (by omega) (Ev.ite_pos (by omega) (Ev.bindc (spec_l03Pitch_eq _) ?_))
    cases hp : inP (rd l i) with
    | false =>
      refine Ev.ite_neg (by decide) (Ev.cast (Ev.now _) ?_)
      simp
    | true =>
      refine Ev.ite_pos rfl (Ev.ite_pos (by omega) (Ev.bind (spec_l00Has_ev (l.take i) (rd l i) (by simp; omega)) ?_))
      cases h : hasM (l.take i) (rd l i) with
      | true =>
        refine Ev.ite_pos rfl (Ev.cast (Ev.now _) ?_)
        simp [dupF, h]
      | false =>
        refine Ev.ite_neg (by decide) (Ev.cast (by simpa using ih (i + 1) (by omega) (by omega)) ?_)
        simp [dupF, h]
theorem spec_l14Permuted_ev (l : List Int) (hl : l.length ≤ 1048576) : Ev (fun k => spec_l14Permuted.f k l) (permB l) := by
  unfold spec_l14Permuted.f permB
  simpa using spec_l14Permuted_l0 l hl l.length 0 (by omega) (by omega)
def fact : Nat → Int
  | 0 => 1
  | n + 1 => ((n : Int) + 1) * fact n
theorem fact_bound : ∀ n, n ≤ 8 → 1 ≤ fact n ∧ fact n ≤ 40320 := by
  intro n hn
  have : n = 0 ∨ n = 1 ∨ n = 2 ∨ n = 3 ∨ n = 4 ∨ n = 5 ∨ n = 6 ∨ n = 7 ∨ n = 8 := by omega
  rcases this with rfl | rfl | rfl | rfl | rfl | rfl | rfl | rfl | rfl <;> decide
theorem spec_l14Factorial_l0 (n : Nat) (hn : n ≤ 8) : ∀ (d i : Nat), n - i = d → i ≤ n → 1 ≤ i → Ev (fun k => spec_l14Factorial.l0 k (n : Int) (fact i) ((i : Int) + 1)) (fact n) := by
  intro d
  induction d with
  | zero =>
    intro i hd hi h1
    have : i = n := by omega
    subst this
    refine Ev.succ ?_
    simp only [spec_l14Factorial.l0]
    exact Ev.ite_neg (by omega) (Ev.now _)
  | succ d ih =>
    intro i hd hi h1
    have hb := fact_bound (i + 1) (by omega)
    have e : fact i * ((i : Int) + 1) = fact (i + 1) := by simp only [fact]; rw [Int.mul_comm]
    refine Ev.succ ?_
    simp only [spec_l14Factorial.l0]
    rw [e, w64 (x := fact (i + 1)) (by omega) (by omega), w64 (x := (i : Int) + 1 + 1) (by omega) (by omega)]
    refine Ev.ite_pos (by omega) ?_
    have := ih (i + 1) (by omega) (by omega) (by omega)
    rw [show ((i + 1 : Nat) : Int) + 1 = (i : Int) + 1 + 1 by omega] at this
    exact this
theorem spec_l14Factorial_ev (n : Nat) (hn : n ≤ 8) : Ev (fun k => spec_l14Factorial.f k (n : Int)) (fact n) := by
  unfold spec_l14Factorial.f
  rcases Nat.eq_zero_or_pos n with rfl | h
  · refine Ev.succ ?_
    simp only [spec_l14Factorial.l0]
    exact Ev.ite_neg (by omega) (Ev.now _)
  · simpa [fact] using spec_l14Factorial_l0 n hn (n - 1) 1 (by omega) (by omega) (by omega)
def insM (x : Int) : List Int → List Int
  | [] => [x]
  | y :: l => if x < y then x :: y :: l else y :: insM x l
theorem insM_perm (x : Int) : ∀ l, (insM x l).Perm (x :: l)
  | [] => List.Perm.refl _
  | y :: l => by
    simp only [insM]
    split
    · exact List.Perm.refl _
    · exact ((insM_perm x l).cons y).trans (List.Perm.swap x y l)
theorem insM_sorted (x : Int) : ∀ l : List Int, l.Pairwise (fun a b => decide (a ≤ b) = true) → (insM x l).Pairwise (fun a b => decide (a ≤ b) = true)
  | [], _ => by simp [insM]
  | y :: l, h => by
    simp only [insM]
    have h1 := List.pairwise_cons.mp h
    split
    · rename_i c
      refine List.pairwise_cons.mpr ⟨fun z hz => ?_, h⟩
      rcases List.mem_cons.mp hz with rfl | hz
      · exact decide_eq_true (by omega)
      · have := of_decide_eq_true (h1.1 z hz)
        exact decide_eq_true (by omega)
    · rename_i c
      refine List.pairwise_cons.mpr ⟨fun z hz => ?_, insM_sorted x l h1.2⟩
      rcases List.mem_cons.mp ((insM_perm x l).mem_iff.mp hz) with rfl | hz
      · exact decide_eq_true (by omega)
      · exact h1.1 z hz
theorem spec_l00Put_done (l : List Int) (x : Int) (hl : l.length ≤ 900) : ∀ (m i : Nat) (out : List Int), l.length - i = m → i ≤ l.length → out.length + m ≤ 1000 → Ev (fun k => spec_l00Put.l0 k l x out true i) (out ++ l.drop i) := by
  intro m
  induction m with
  | zero =>
    intro i out hm hi _
    refine Ev.succ ?_
    simp only [spec_l00Put.l0]
    refine Ev.ite_neg (by omega) (Ev.ite_pos trivial (Ev.cast (Ev.now _) ?_))
    rw [List.drop_of_length_le (by omega), List.append_nil]
  | succ m ih =>
    intro i out hm hi ho
    have hi' : i < l.length := by omega
    refine Ev.succ ?_
    simp only [spec_l00Put.l0]
    refine Ev.ite_pos (by omega) (Ev.ite_pos trivial (Ev.succ ?_))
    simp only [spec_l00Put.j1]
    rw [w64 (x := (i : Int) + 1) (by omega) (by omega)]
    refine Ev.ite_neg (by decide) (Ev.ite_pos (by omega) (Ev.ite_pos (by omega) (Ev.ite_pos (by omega) ?_)))
    have h := ih (i + 1) (out ++ [rd l i]) (by omega) (by omega) (by simp; omega)
    rw [List.drop_eq_getElem_cons hi', ← rd_at hi']
    simpa using h
theorem spec_l00Put_l0 (l : List Int) (x : Int) (hx : x ∉ l) (hl : l.length ≤ 900) : ∀ (m i : Nat) (out : List Int), l.length - i = m → i ≤ l.length → out.length + m ≤ 900 → Ev (fun k => spec_l00Put.l0 k l x out false i) (out ++ insM x (l.drop i)) := by
  intro m
  induction m with
  | zero =>
    intro i out hm hi _
    refine Ev.succ ?_
    simp only [spec_l00Put.l0]
    refine Ev.ite_neg (by omega) (Ev.ite_neg (by decide) (Ev.ite_pos (by omega) (Ev.cast (Ev.now _) ?_)))
    rw [List.drop_of_length_le (by omega)]
    rfl
  | succ m ih =>
    intro i out hm hi ho
    have hi' : i < l.length := by omega
    have hne : rd l i ≠ x := fun e => hx (by rw [← e, rd_at hi']; exact List.getElem_mem hi')
    refine Ev.succ ?_
    simp only [spec_l00Put.l0]
    refine Ev.ite_pos (by omega) (Ev.ite_neg (by decide) (Ev.ite_pos (by omega) (Ev.succ ?_)))
    simp only [spec_l00Put.j1]
    rw [w64 (x := (i : Int) + 1) (by omega) (by omega), List.drop_eq_getElem_cons hi', ← rd_at hi']
    simp only [insM]
    by_cases c : rd l i ≥ x
    · rw [if_pos (show x < rd l i by omega)]
      refine Ev.ite_pos (decide_eq_true c) (Ev.ite_pos (by omega) (Ev.ite_pos (by omega) (Ev.ite_pos (by omega) (Ev.ite_pos (by omega) (Ev.bindc rfl (Ev.ite_pos (by simp; omega) ?_))))))
      have h := spec_l00Put_done l x hl m (i + 1) ((out ++ [x]) ++ [rd l i]) (by omega) (by omega) (by simp; omega)
      simpa using h
    · rw [if_neg (show ¬ x < rd l i by omega)]
      refine Ev.ite_neg (by simpa using c) (Ev.ite_pos (by omega) (Ev.ite_pos (by omega) (Ev.ite_pos (by omega) ?_)))
      have h := ih (i + 1) (out ++ [rd l i]) (by omega) (by omega) (by simp; omega)
      simpa using h
theorem spec_l00Put_ev (l : List Int) (x : Int) (hx : x ∉ l) (hl : l.length ≤ 900) : Ev (fun k => spec_l00Put.f k l x) (insM x l) := by
  unfold spec_l00Put.f
  simpa using spec_l00Put_l0 l x hx hl l.length 0 [] (by omega) (by omega) (by simp; omega)
theorem perm_take_succ {l out : List Int} {i : Nat} (hi : i < l.length) (h : out.Perm (l.take i)) : (insM (rd l i) out).Perm (l.take (i + 1)) := by
  refine (insM_perm _ _).trans ?_
  rw [List.take_succ_eq_append_getElem hi, ← rd_at hi]
  exact (h.cons _).trans (List.perm_append_comm (l₁ := [rd l i]) (l₂ := l.take i))
theorem spec_l14Sorted_l0 (l : List Int) (hl : l.length ≤ 8) (hd : ∀ i, i < l.length → rd l i ∉ l.take i) : ∀ (m i : Nat) (out : List Int), l.length - i = m → i ≤ l.length → out.Perm (l.take i) → out.Pairwise (fun a b => decide (a ≤ b) = true) →
    ∃ r : List Int, r.Perm l ∧ r.Pairwise (fun a b => decide (a ≤ b) = true) ∧ Ev (fun k => spec_l14Sorted.l0 k l out i) r := by
  intro m
  induction m with
  | zero =>
    intro i out hm hi hp hs
    refine ⟨out, by rwa [List.take_of_length_le (by omega)] at hp, hs, Ev.succ ?_⟩
    simp only [spec_l14Sorted.l0]
    exact Ev.ite_neg (by omega) (Ev.now _)
  | succ m ih =>
    intro i out hm hi hp hs
    have hi' : i < l.length := by omega
    have hn : rd l i ∉ out := fun h => hd i hi' (hp.mem_iff.mp h)
    have hol : out.length ≤ 8 := by rw [hp.length_eq]; simp; omega
    obtain ⟨r, r1, r2, r3⟩ := ih (i + 1) (insM (rd l i) out) (by omega) (by omega) (perm_take_succ hi' hp) (insM_sorted _ _ hs)
    refine ⟨r, r1, r2, Ev.succ ?_⟩
    simp only [spec_l14Sorted.l0]
    rw [w64 (x := (i : Int) + 1) (by omega) (by omega)]
    exact Ev.ite_pos (by omega) (Ev.ite_pos (by omega) (Ev.bind (spec_l00Put_ev out (rd l i) hn (by omega)) (by simpa using r3)))
theorem own_eq (l : List Int) (h : l.length < 1000) : spec_l00Own.f l = some l := by
  unfold spec_l00Own.f
  simp
  omega
theorem hasM_iff {l : List Int} {v : Int} : hasM l v = true ↔ v ∈ l := by
  simp only [hasM, List.any_eq_true, decide_eq_true_eq]
  exact ⟨fun ⟨x, h, e⟩ => e ▸ h, fun h => ⟨v, h, rfl⟩⟩
def srtM (l : List Int) : List Int := l.mergeSort (fun x y => decide (x ≤ y))
theorem srtM_length (l : List Int) : (srtM l).length = l.length := List.length_mergeSort l
theorem srtM_perm (l : List Int) : (srtM l).Perm l := List.mergeSort_perm l _
theorem spec_l14Sorted_ev (l : List Int) (hl : l.length ≤ 8) (hd : ∀ i, i < l.length → rd l i ∉ l.take i) : Ev (fun k => spec_l14Sorted.f k l) (srtM l) := by
  unfold spec_l14Sorted.f
  obtain ⟨r, r1, r2, r3⟩ := spec_l14Sorted_l0 l hl hd l.length 0 [] (by omega) (by omega) (by simp) List.Pairwise.nil
  have tr : ∀ a b c : Int, decide (a ≤ b) = true → decide (b ≤ c) = true → decide (a ≤ c) = true := fun a b c h1 h2 => by simp only [decide_eq_true_eq] at *; omega
  have tot : ∀ a b : Int, (decide (a ≤ b) || decide (b ≤ a)) = true := fun a b => by simp only [Bool.or_eq_true, decide_eq_true_eq]; omega
  refine Ev.cast (by simpa using r3) ?_
  refine List.Perm.eq_of_pairwise (le := fun a b => decide (a ≤ b) = true) (fun a b _ _ h1 h2 => ?_) r2 (List.pairwise_mergeSort tr tot l) (r1.trans (List.mergeSort_perm l _).symm)
  simp only [decide_eq_true_eq] at h1 h2
  omega
/-- The permutation of a sorted list with a number. -/
def numM : Nat → List Int → Int → List Int
  | 0, _, _ => []
  | d + 1, rest, n => rd rest (n / fact d) :: numM d (rest.take (n / fact d).toNat ++ rest.drop ((n / fact d).toNat + 1)) (n % fact d)
theorem numM_length : ∀ d rest n, (numM d rest n).length = d := by
  intro d
  induction d with
  | zero => intro rest n; rfl
  | succ d ih => intro rest n; simp [numM, ih]
theorem quot_at {n : Int} {d : Nat} (hd : d ≤ 7) (h0 : 0 ≤ n) (h1 : n < fact (d + 1)) : 0 ≤ n / fact d ∧ n / fact d ≤ d ∧ 0 ≤ n % fact d ∧ n % fact d < fact d ∧ 1 ≤ fact d ∧ n.tdiv (fact d) = n / fact d ∧ n.tmod (fact d) = n % fact d := by
  have hb := fact_bound d (by omega)
  have hf : fact (d + 1) = ((d : Int) + 1) * fact d := rfl
  refine ⟨Int.ediv_nonneg h0 (by omega), ?_, Int.emod_nonneg _ (by omega), Int.emod_lt_of_pos _ (by omega), hb.1, Int.tdiv_eq_ediv_of_nonneg h0, Int.tmod_eq_emod_of_nonneg h0⟩
  have := (Int.ediv_lt_iff_lt_mul (by omega : 0 < fact d)).mpr (show n < ((d : Int) + 1) * fact d by rw [← hf]; exact h1)
  omega
theorem numM_mem : ∀ d rest n, d ≤ 8 → rest.length = d → 0 ≤ n → n < fact d → ∀ x ∈ numM d rest n, x ∈ rest := by
  intro d
  induction d with
  | zero => intro rest n _ _ _ _ x hx; simp [numM] at hx
  | succ d ih =>
    intro rest n hd hl h0 h1 x hx
    obtain ⟨q1, q2, q3, q4, q5, _, _⟩ := quot_at (by omega) h0 h1
    simp only [numM, List.mem_cons] at hx
    rcases hx with rfl | hx
    · obtain ⟨i, hi⟩ : ∃ i : Nat, n / fact d = i := ⟨(n / fact d).toNat, by omega⟩
      rw [hi, rd_at (by omega)]
      exact List.getElem_mem _
    · have := ih _ _ (by omega) (by simp; omega) q3 q4 x hx
      rcases List.mem_append.mp this with h | h
      · exact List.mem_of_mem_take h
      · exact List.mem_of_mem_drop h
theorem impl_factorial_l0 (n : Nat) (hn : n ≤ 8) : ∀ (d i : Nat), n - i = d → i ≤ n → 1 ≤ i → Ev (fun k => impl_factorial.l0 k (n : Int) (fact i) ((i : Int) + 1)) (fact n) := by
  intro d
  induction d with
  | zero =>
    intro i hd hi h1
    have : i = n := by omega
    subst this
    refine Ev.succ ?_
    simp only [impl_factorial.l0]
    exact Ev.ite_neg (by omega) (Ev.now _)
  | succ d ih =>
    intro i hd hi h1
    have hb := fact_bound (i + 1) (by omega)
    have e : fact i * ((i : Int) + 1) = fact (i + 1) := by simp only [fact]; rw [Int.mul_comm]
    refine Ev.succ ?_
    simp only [impl_factorial.l0]
    rw [e, w64 (x := fact (i + 1)) (by omega) (by omega), w64 (x := (i : Int) + 1 + 1) (by omega) (by omega)]
    exact Ev.ite_pos (by omega) (by simpa using ih (i + 1) (by omega) (by omega) (by omega))
theorem impl_factorial_ev (n : Nat) (hn : n ≤ 8) : Ev (fun k => impl_factorial.f k (n : Int)) (fact n) := by
  unfold impl_factorial.f
  rcases Nat.eq_zero_or_pos n with rfl | h
  · refine Ev.succ ?_
    simp only [impl_factorial.l0]
    exact Ev.ite_neg (by omega) (Ev.now _)
  · simpa [fact] using impl_factorial_l0 n hn (n - 1) 1 (by omega) (by omega) (by omega)
theorem impl_numbered_l0 : ∀ (d : Nat) (rest out : List Int) (n : Int), d ≤ 8 → rest.length = d → out.length + d ≤ 100 → 0 ≤ n → n < fact d → Ev (fun k => impl_numberedPermutation.l0 k n rest out) (out ++ numM d rest n) := by
  intro d
  induction d with
  | zero =>
    intro rest out n _ hl _ _ _
    refine Ev.succ ?_
    simp only [impl_numberedPermutation.l0]
    refine Ev.ite_neg (by omega) (Ev.cast (Ev.now _) ?_)
    simp [numM]
  | succ d ih =>
    intro rest out n hd hl ho h0 h1
    obtain ⟨q1, q2, q3, q4, q5, q6, q7⟩ := quot_at (by omega) h0 h1
    obtain ⟨i, hi⟩ : ∃ i : Nat, n / fact d = i := ⟨(n / fact d).toNat, by omega⟩
    have hf : Ev (fun k => impl_factorial.f k (wrap64 ((rest.length : Int) - 1))) (fact d) := by
      rw [w64 (by omega) (by omega), show (rest.length : Int) - 1 = (d : Nat) by omega]
      exact impl_factorial_ev d (by omega)
    refine Ev.succ ?_
    simp only [impl_numberedPermutation.l0]
    refine Ev.ite_pos (by omega) (Ev.bind hf (Ev.ite_neg (by omega) ?_))
    rw [q6, q7, hi, w64 (x := (i : Int)) (by omega) (by omega), w64 (x := (i : Int) + 1) (by omega) (by omega)]
    refine Ev.ite_pos (by omega) (Ev.ite_pos (by omega) (Ev.ite_pos (by omega) (Ev.bindc (a := rest.take i ++ rest.drop (i + 1)) ?_ ?_)))
    · unfold slices_Delete_int64_int64.f
      rw [if_pos (by omega), Int.toNat_natCast, show ((i : Int) + 1).toNat = i + 1 by omega]
    · have h := ih (rest.take i ++ rest.drop (i + 1)) (out ++ [rd rest i]) (n % fact d) (by omega) (by simp; omega) (by simp; omega) q3 q4
      simpa [numM, hi] using h
theorem impl_numbered_ev (l : List Int) (n : Int) (hl1 : 1 ≤ l.length) (hl : l.length ≤ 8) (h0 : 0 ≤ n) (h1 : n < fact l.length) : Ev (fun k => impl_numberedPermutation.f k l n) (numM l.length (srtM l) n) := by
  unfold impl_numberedPermutation.f
  refine Ev.ite_pos ⟨by omega, by omega⟩ ?_
  have h := impl_numbered_l0 l.length (srtM l) [] n hl (srtM_length l) (by simp; omega) h0 h1
  rw [List.nil_append] at h
  exact h
theorem spec_numbered_l0 : ∀ (d : Nat) (rest out : List Int) (n : Int), d ≤ 8 → rest.length = d → out.length + d ≤ 100 → 0 ≤ n → n < fact d → Ev (fun k => spec_l14Numbered.l0 k n rest out) (out ++ numM d rest n) := by
  intro d
  induction d with
  | zero =>
    intro rest out n _ hl _ _ _
    refine Ev.succ ?_
    simp only [spec_l14Numbered.l0]
    refine Ev.ite_neg (by omega) (Ev.cast (Ev.now _) ?_)
    simp [numM]
  | succ d ih =>
    intro rest out n hd hl ho h0 h1
    obtain ⟨q1, q2, q3, q4, q5, q6, q7⟩ := quot_at (by omega) h0 h1
    obtain ⟨i, hi⟩ : ∃ i : Nat, n / fact d = i := ⟨(n / fact d).toNat, by omega⟩
    have hf : Ev (fun k => spec_l14Factorial.f k (wrap64 ((rest.length : Int) - 1))) (fact d) := by
      rw [w64 (by omega) (by omega), show (rest.length : Int) - 1 = (d : Nat) by omega]
      exact spec_l14Factorial_ev d (by omega)
    refine Ev.succ ?_
    simp only [spec_l14Numbered.l0]
    refine Ev.ite_pos (by omega) (Ev.bind hf (Ev.ite_neg (by omega) ?_))
    rw [q6, q7, hi, w64 (x := (i : Int)) (by omega) (by omega), w64 (x := (i : Int) + 1) (by omega) (by omega), Int.toNat_natCast, show ((i : Int) + 1).toNat = i + 1 by omega]
    refine Ev.ite_pos (by omega) (Ev.ite_pos (by omega) (Ev.ite_pos (by omega) (Ev.ite_pos (by omega) (Ev.bindc (own_eq (rest.take i) (by simp; omega)) (Ev.ite_pos (by omega) (Ev.ite_pos (by omega) (Ev.bindc rfl (Ev.ite_pos (by simp; omega) ?_))))))))
    have h := ih (rest.take i ++ rest.drop (i + 1)) (out ++ [rd rest i]) (n % fact d) (by omega) (by simp; omega) (by simp; omega) q3 q4
    simpa [numM, hi] using h
theorem spec_numbered_ev (l : List Int) (n : Int) (hl1 : 1 ≤ l.length) (hl : l.length ≤ 8) (hd : ∀ i, i < l.length → rd l i ∉ l.take i) (h0 : 0 ≤ n) (h1 : n < fact l.length) : Ev (fun k => spec_l14Numbered.f k l n) (numM l.length (srtM l) n) := by
  unfold spec_l14Numbered.f
  exact Ev.bind (spec_l14Sorted_ev l hl hd) (by simpa using spec_numbered_l0 l.length (srtM l) [] n hl (srtM_length l) (by simp; omega) h0 h1)
theorem dupF_all {l : List Int} : ∀ (d i : Nat), dupF l d i = true → ∀ j, i ≤ j → j < i + d → rd l j ∉ l.take j := by
  intro d
  induction d with
  | zero => intro i _ j h1 h2; omega
  | succ d ih =>
    intro i h j h1 h2
    simp only [dupF, Bool.and_eq_true, Bool.not_eq_true'] at h
    rcases Nat.eq_or_lt_of_le h1 with rfl | h3
    · intro hm
      have := hasM_iff.mpr hm
      rw [this] at h
      exact absurd h.1 (by decide)
    · exact ih (i + 1) h.2 j h3 (by omega)
theorem permB_parts {l : List Int} (h : permB l = true) : 1 ≤ l.length ∧ l.length ≤ 8 ∧ (∀ i, i < l.length → rd l i ∉ l.take i) ∧ ∀ x ∈ l, inP x = true := by
  simp only [permB, Bool.and_eq_true, decide_eq_true_eq, List.all_eq_true] at h
  exact ⟨h.2.1, h.2.2, fun i hi => dupF_all l.length 0 h.1.2 i (by omega) (by omega), h.1.1⟩
theorem spec_l00Max_eq (a b : Int) : spec_l00Max.f a b = some (max a b) := by
  unfold spec_l00Max.f
  by_cases h : a > b
  · rw [if_pos h, Int.max_def, if_neg (by omega)]
  · rw [if_neg h, Int.max_def, if_pos (by omega)]
theorem spec_l03Scale_ev (l : List Int) (hl : l.length ≤ 9223372036854775807) : Ev (fun k => spec_l03Scale.f k l) (scaleB l) := by
  unfold spec_l03Scale.f scaleB
  by_cases h : 5 ≤ l.length
  · refine Ev.ite_pos (by omega) ?_
    refine Ev.bind (a := rgB l 0 11 0 l.length) ?_ ?_
    · unfold spec_l00Rises.f
      simpa using spec_l00Rises_l0 l 0 11 hl l.length 0 (by omega) (by omega)
    · cases g : rgB l 0 11 0 l.length with
      | true =>
        refine Ev.ite_pos rfl (Ev.ite_pos (by omega) ?_)
        simpa [h] using Ev.now _
      | false =>
        refine Ev.ite_neg (by decide) ?_
        simpa using Ev.now false
  · refine Ev.ite_neg (by omega) ?_
    simpa [h] using Ev.now false
theorem spec_l05Tone_ev (s : ByteArray) (u d : List Int) (st wk : Int) (f : List (List Int)) (t : Int) (hu : u.length ≤ 1048576) (hd : d.length ≤ 1048576) : Ev (fun k => spec_l05Tone.f k s u d st wk f t) (toneB u d t) := by
  unfold spec_l05Tone.f toneB
  refine Ev.bind (spec_l00Has_ev u t hu) ?_
  cases h : hasM u t with
  | true => exact Ev.ite_pos rfl (Ev.now _)
  | false => exact Ev.ite_neg (by decide) (Ev.bind (spec_l00Has_ev d t hd) (Ev.now _))
theorem spec_l05Pair_eq (p : List Int) : spec_l05Pair.f p = some (pairB p) := by
  unfold spec_l05Pair.f pairB
  by_cases h : p.length = 2
  · rw [if_pos (by omega), if_pos (by omega), spec_l00In_eq, spec_l00In_eq]
    simp only [Option.bind_some]
    cases h1 : (decide (0 ≤ rd p 0) && decide (rd p 0 ≤ 11)) with
    | false => simp [h]
    | true =>
      rw [if_pos rfl, if_pos (by omega)]
      cases h2 : (decide (0 ≤ rd p 1) && decide (rd p 1 ≤ 11)) with
      | false => simp [h]
      | true =>
        rw [if_pos rfl]
        by_cases h3 : rd p 0 = rd p 1 <;> simp [h, h3]
  · rw [if_neg (by omega)]
    simp [h]
theorem spec_l05Pairs_l0 (f : List (List Int)) (hf : f.length ≤ 1048576) : ∀ (d i : Nat), f.length - i = d → (i ≠ 0 → i ≤ f.length ∧ pairB (rd_L1 f ((i : Int) - 1)) = true) → Ev (fun k => spec_l05Pairs.l0 k f i) (pairsM f d i && decide (f.length ≤ 8)) := by
  intro d
  induction d with
  | zero =>
    intro i hd hp
    refine Ev.succ ?_
    simp only [spec_l05Pairs.l0]
    refine Ev.ite_neg (by omega) (Ev.cast (Ev.now _) ?_)
    simp [pairsM]
    omega
  | succ d ih =>
    intro i hd hp
    have hn : pairB (rd_L1 f i) = true → Ev (fun k => spec_l05Pairs.l0 k f ((i : Int) + 1)) (pairsM f d (i + 1) && decide (f.length ≤ 8)) := fun h => by
      have := ih (i + 1) (by omega) (fun _ => ⟨by omega, by rw [show ((i + 1 : Nat) : Int) - 1 = (i : Int) by omega]; exact h⟩)
      simpa using this
    refine Ev.succ ?_
    simp only [spec_l05Pairs.l0, pairsM]
    rw [w64 (x := (i : Int) + 1) (by omega) (by omega)]
    refine Ev.ite_pos (by omega) (Ev.ite_pos (by omega) (Ev.bindc (spec_l05Pair_eq _) ?_))
    cases h : pairB (rd_L1 f i) with
    | false =>
      refine Ev.ite_neg (by decide) (Ev.cast (Ev.now false) ?_)
      simp
    | true =>
      have hl := pairB_len h
      refine Ev.ite_pos rfl ?_
      by_cases h0 : i = 0
      · refine Ev.ite_neg (by omega) (Ev.cast (hn h) ?_)
        simp [h0]
      · obtain ⟨h1, h2⟩ := hp h0
        have hl2 := pairB_len h2
        refine Ev.ite_pos (by omega) ?_
        rw [w64 (x := (i : Int) - 1) (by omega) (by omega)]
        refine Ev.ite_pos (by omega) (Ev.ite_pos (by omega) (Ev.ite_pos (by omega) (Ev.ite_pos (by omega) ?_)))
        by_cases c1 : rd (rd_L1 f ((i : Int) - 1)) 0 > rd (rd_L1 f i) 0
        · refine Ev.ite_pos c1 (Ev.cast (Ev.now false) ?_)
          have e1 : ¬ rd (rd_L1 f ((i : Int) - 1)) 0 < rd (rd_L1 f i) 0 := by omega
          have e2 : ¬ rd (rd_L1 f ((i : Int) - 1)) 0 = rd (rd_L1 f i) 0 := by omega
          simp [h0, ltP, e1, e2]
        · refine Ev.ite_neg c1 ?_
          by_cases c2 : rd (rd_L1 f ((i : Int) - 1)) 0 = rd (rd_L1 f i) 0
          · refine Ev.ite_pos c2 (Ev.ite_pos (by omega) (Ev.ite_pos (by omega) ?_))
            by_cases c3 : rd (rd_L1 f ((i : Int) - 1)) 1 ≥ rd (rd_L1 f i) 1
            · refine Ev.ite_pos c3 (Ev.cast (Ev.now false) ?_)
              have e1 : ¬ rd (rd_L1 f ((i : Int) - 1)) 1 < rd (rd_L1 f i) 1 := by omega
              simp [h0, ltP, c2, e1]
            · refine Ev.ite_neg c3 (Ev.cast (hn h) ?_)
              have e1 : rd (rd_L1 f ((i : Int) - 1)) 1 < rd (rd_L1 f i) 1 := by omega
              simp [h0, ltP, c2, e1]
          · refine Ev.ite_neg c2 (Ev.cast (hn h) ?_)
            have e1 : rd (rd_L1 f ((i : Int) - 1)) 0 < rd (rd_L1 f i) 0 := by omega
            simp [h0, ltP, e1]
theorem spec_l05Ok_ev (s : ByteArray) (u d : List Int) (st wk : Int) (f : List (List Int)) (hs : s.size ≤ 1048576) (hu : u.length ≤ 1048576) (hd : d.length ≤ 1048576) (hf : f.length ≤ 1048576) : Ev (fun k => spec_l05Ok.f k s u d st wk f) (ragaB s u d st wk f) := by
  unfold spec_l05Ok.f ragaB
  refine Ev.bind (spec_l01Name_ev s) ?_
  cases h1 : nameB s with
  | false => exact Ev.ite_neg (by decide) (Ev.now _)
  | true =>
    refine Ev.ite_pos rfl (Ev.bind (spec_l03Scale_ev u (by omega)) ?_)
    cases h2 : scaleB u with
    | false => exact Ev.ite_neg (by decide) (Ev.now _)
    | true =>
      refine Ev.ite_pos rfl (Ev.bind (spec_l03Scale_ev d (by omega)) ?_)
      cases h3 : scaleB d with
      | false => exact Ev.ite_neg (by decide) (Ev.now _)
      | true =>
        refine Ev.ite_pos rfl (Ev.bind (spec_l05Tone_ev s u d st wk f st hu hd) ?_)
        cases h4 : toneB u d st with
        | false => exact Ev.ite_neg (by decide) (Ev.now _)
        | true =>
          refine Ev.ite_pos rfl (Ev.bind (spec_l05Tone_ev s u d st wk f wk hu hd) ?_)
          cases h5 : toneB u d wk with
          | false => exact Ev.ite_neg (by decide) (Ev.now _)
          | true =>
            refine Ev.ite_pos rfl ?_
            by_cases h6 : st = wk
            · refine Ev.ite_pos h6 (Ev.cast (Ev.now false) ?_)
              simp [h6]
            · refine Ev.ite_neg h6 ?_
              refine Ev.bind (a := pairsM f f.length 0 && decide (f.length ≤ 8)) ?_ (Ev.cast (Ev.now _) (by simp [h6]))
              unfold spec_l05Pairs.f
              simpa using spec_l05Pairs_l0 f hf f.length 0 (by omega) (by simp)
theorem spec_l05Reason_l0 (s : ByteArray) (u d : List Int) (st wk : Int) (f : List (List Int)) (a b : Int) (hf : f.length ≤ 8) (hp : ∀ j, j < f.length → (rd_L1 f j).length = 2) : ∀ (m i : Nat), f.length - i = m → Ev (fun k => spec_l05Reason.l0 k a b i s u d st wk f) (if (f.drop i).any (pairQ a b) = true then 5 else 0) := by
  intro m
  induction m with
  | zero =>
    intro i hm
    refine Ev.succ ?_
    simp only [spec_l05Reason.l0]
    refine Ev.ite_neg (by omega) (Ev.cast (Ev.now _) ?_)
    rw [List.drop_of_length_le (by omega)]
    rfl
  | succ m ih =>
    intro i hm
    have hl := hp i (by omega)
    have hn : Ev (fun k => spec_l05Reason.l0 k a b ((i : Int) + 1) s u d st wk f) (if (f.drop (i + 1)).any (pairQ a b) = true then 5 else 0) := ih (i + 1) (by omega)
    refine Ev.succ ?_
    simp only [spec_l05Reason.l0]
    rw [w64 (x := (i : Int) + 1) (by omega) (by omega), List.drop_eq_getElem_cons (show i < f.length by omega), ← rdL_at (show i < f.length by omega), List.any_cons]
    refine Ev.ite_pos (by omega) (Ev.ite_pos (by omega) (Ev.ite_pos (by omega) ?_))
    by_cases c1 : rd (rd_L1 f i) 0 = a
    · refine Ev.ite_pos c1 (Ev.ite_pos (by omega) ?_)
      by_cases c2 : rd (rd_L1 f i) 1 = b
      · have e : pairQ a b (rd_L1 f i) = true := by simp [pairQ, c1, c2]
        refine Ev.ite_pos c2 (Ev.cast (Ev.now _) ?_)
        rw [e, Bool.true_or, if_pos rfl]
      · have e : pairQ a b (rd_L1 f i) = false := by simp [pairQ, c2]
        rw [e, Bool.false_or]
        exact Ev.ite_neg c2 hn
    · have e : pairQ a b (rd_L1 f i) = false := by simp [pairQ, c1]
      rw [e, Bool.false_or]
      exact Ev.ite_neg c1 hn
theorem spec_l05Reason_ev (s : ByteArray) (u d : List Int) (st wk : Int) (f : List (List Int)) (a b : Int) (ha : -1000 ≤ a ∧ a ≤ 1000) (hb : -1000 ≤ b ∧ b ≤ 1000) (hu : u.length ≤ 1048576) (hd : d.length ≤ 1048576) (hf : f.length ≤ 8) (hp : ∀ j, j < f.length → (rd_L1 f j).length = 2) :
    Ev (fun k => spec_l05Reason.f k s u d st wk f a b) (reasonR u d f a b) := by
  have hj : ∀ t : Bool, (toneB u d (tn a) && toneB u d (tn b)) = !t → Ev (fun k => spec_l05Reason.j0 k a b (tn a) (tn b) t s u d st wk f) (reasonR u d f a b) := by
    intro t ht
    refine Ev.succ ?_
    simp only [spec_l05Reason.j0]
    unfold reasonR
    rw [ht]
    cases t with
    | true => exact Ev.ite_pos rfl (Ev.now _)
    | false =>
      rw [w64 (x := a - b) (by omega) (by omega), w64 (x := b - a) (by omega) (by omega)]
      refine Ev.ite_neg (by decide) (Ev.bindc (spec_l00Max_eq _ _) ?_)
      rw [if_pos (show (!false) = true from rfl)]
      by_cases c1 : max (a - b) (b - a) > 12
      · exact Ev.ite_pos c1 (Ev.cast (Ev.now _) (if_pos c1).symm)
      · refine Ev.ite_neg c1 (Ev.cast ?_ (if_neg c1).symm)
        have h2 : ∀ t2 : Bool, (t2 = true ↔ (b < a ∧ hasM d (tn b) = false)) → Ev (fun k => spec_l05Reason.j2 k (tn a) (tn b) t2 s u d st wk f) (if b < a ∧ hasM d (tn b) = false then 4 else if f.any (pairQ (tn a) (tn b)) = true then 5 else 0) := by
          intro t2 e2
          refine Ev.succ ?_
          simp only [spec_l05Reason.j2]
          by_cases c : t2 = true
          · exact Ev.ite_pos c (Ev.cast (Ev.now _) (if_pos (e2.1 c)).symm)
          · refine Ev.ite_neg c (Ev.cast ?_ (if_neg (fun z => c (e2.2 z))).symm)
            simpa using spec_l05Reason_l0 s u d st wk f (tn a) (tn b) hf hp f.length 0 (by omega)
        have h1 : ∀ t1 : Bool, (t1 = true ↔ (b > a ∧ hasM u (tn b) = false)) → Ev (fun k => spec_l05Reason.j1 k a b (tn a) (tn b) t1 s u d st wk f) (if b > a ∧ hasM u (tn b) = false then 3 else if b < a ∧ hasM d (tn b) = false then 4 else if f.any (pairQ (tn a) (tn b)) = true then 5 else 0) := by
          intro t1 e1
          refine Ev.succ ?_
          simp only [spec_l05Reason.j1]
          by_cases c : t1 = true
          · exact Ev.ite_pos c (Ev.cast (Ev.now _) (if_pos (e1.1 c)).symm)
          · refine Ev.ite_neg c (Ev.cast ?_ (if_neg (fun z => c (e1.2 z))).symm)
            by_cases cb : b < a
            · refine Ev.ite_pos cb (Ev.bind (spec_l00Has_ev d _ hd) (h2 _ ?_))
              cases hasM d (tn b) <;> simp [cb]
            · refine Ev.ite_neg cb (h2 _ ?_)
              simp [cb]
        by_cases cb : b > a
        · refine Ev.ite_pos cb (Ev.bind (spec_l00Has_ev u _ hu) (h1 _ ?_))
          cases hasM u (tn b) <;> simp [cb]
        · refine Ev.ite_neg cb (h1 _ ?_)
          simp [cb]
  unfold spec_l05Reason.f
  refine Ev.bindc (show spec_l03Tone.f a = some (tn a) from rfl) (Ev.bindc (show spec_l03Tone.f b = some (tn b) from rfl) (Ev.bind (spec_l05Tone_ev s u d st wk f _ hu hd) ?_))
  cases h1 : toneB u d (tn a) with
  | true =>
    refine Ev.ite_pos rfl (Ev.bind (spec_l05Tone_ev s u d st wk f _ hu hd) (hj _ ?_))
    simp [h1]
  | false =>
    refine Ev.ite_neg (by decide) (hj _ ?_)
    simp [h1]
def seqM (u d : List Int) (f : List (List Int)) (l : List Int) : Nat → Nat → Bool
  | 0, _ => true
  | m + 1, i => decide (reasonR u d f (rd l ((i : Int) - 1)) (rd l i) = 0) && seqM u d f l m (i + 1)
def okM (u d : List Int) (f : List (List Int)) (l : List Int) : Bool := toneB u d (tn (rd l 0)) && seqM u d f l (l.length - 1) 1
theorem inP_iff {x : Int} (h : inP x = true) : -12 ≤ x ∧ x ≤ 23 := by
  simp only [inP, Bool.and_eq_true, decide_eq_true_eq] at h
  exact h
theorem rd_in {l : List Int} (h : ∀ x ∈ l, inP x = true) (i : Nat) (hi : i < l.length) : -1000 ≤ rd l i ∧ rd l i ≤ 1000 := by
  rw [rd_at hi]
  have := inP_iff (h _ (List.getElem_mem hi))
  omega
theorem firstWrong_l0 (s : ByteArray) (u d : List Int) (a b : Int) (f : List (List Int)) (l : List Int) (hl : l.length ≤ 1000) (hin : ∀ x ∈ l, inP x = true) (hu : u.length ≤ 1048576) (hd : d.length ≤ 1048576) (hf : f.length ≤ 8) (hp : ∀ j, j < f.length → (rd_L1 f j).length = 2) :
    ∀ (m i : Nat), l.length - i = m → 1 ≤ i → ∃ x r : Int, (r = 0 ↔ seqM u d f l m i = true) ∧ Ev (fun k => impl_Raga_firstWrong.l0 k l l (l.length : Int) i s u d a b f) (x, r) := by
  intro m
  induction m with
  | zero =>
    intro i hm h1
    refine ⟨0, 0, by simp [seqM], Ev.succ ?_⟩
    simp only [impl_Raga_firstWrong.l0]
    exact Ev.ite_neg (by omega) (Ev.now _)
  | succ m ih =>
    intro i hm h1
    have hi : i < l.length := by omega
    have e1 : (i : Int) - 1 = ((i - 1 : Nat) : Int) := by omega
    have hr := impl_reason_ev s u d a b f (rd l ((i : Int) - 1)) (rd l i) (by rw [e1]; exact rd_in hin (i - 1) (by omega)) (rd_in hin i hi) hu hd hf hp
    have step : ∀ x r, Ev (fun k => impl_Raga_firstWrong.j1 k l (i : Int) (rd l i) l (l.length : Int) i false s u d a b f) (x, r) → Ev (fun k => impl_Raga_firstWrong.l0 k l l (l.length : Int) i s u d a b f) (x, r) := fun x r h => Ev.succ (by
      simp only [impl_Raga_firstWrong.l0]
      exact Ev.ite_pos (by omega) (Ev.ite_pos (by omega) (Ev.ite_pos (by omega) (Ev.ite_neg (by omega) h))))
    by_cases c : reasonR u d f (rd l ((i : Int) - 1)) (rd l i) = 0
    · obtain ⟨x, r, h2, h3⟩ := ih (i + 1) (by omega) (by omega)
      refine ⟨x, r, by simp [seqM, c, h2], step _ _ (Ev.succ ?_)⟩
      simp only [impl_Raga_firstWrong.j1]
      rw [w64 (x := (i : Int) - 1) (by omega) (by omega), w64 (x := (i : Int) + 1) (by omega) (by omega)]
      exact Ev.ite_neg (by decide) (Ev.ite_pos (by omega) (Ev.ite_pos (by omega) (Ev.ite_pos (by omega) (Ev.bind hr (Ev.ite_pos c (by simpa using h3))))))
    · refine ⟨(i : Int), reasonR u d f (rd l ((i : Int) - 1)) (rd l i), by simp [seqM, c], step _ _ (Ev.succ ?_)⟩
      simp only [impl_Raga_firstWrong.j1]
      rw [w64 (x := (i : Int) - 1) (by omega) (by omega)]
      exact Ev.ite_neg (by decide) (Ev.ite_pos (by omega) (Ev.ite_pos (by omega) (Ev.ite_pos (by omega) (Ev.bind hr (Ev.ite_neg c (Ev.bind hr (Ev.now _)))))))
theorem firstWrong_ev (s : ByteArray) (u d : List Int) (a b : Int) (f : List (List Int)) (l : List Int) (h1 : 1 ≤ l.length) (hl : l.length ≤ 1000) (hin : ∀ x ∈ l, inP x = true) (hu : u.length ≤ 1048576) (hd : d.length ≤ 1048576) (hf : f.length ≤ 8) (hp : ∀ j, j < f.length → (rd_L1 f j).length = 2) :
    ∃ x r : Int, (r = 0 ↔ okM u d f l = true) ∧ Ev (fun k => impl_Raga_firstWrong.f k s u d a b f l) (x, r) := by
  have ht := impl_hasTone_ev s u d a b f (tn (rd l 0)) hu hd
  have step : ∀ x r, Ev (fun k => impl_Raga_firstWrong.j1 k l 0 (rd l 0) l (l.length : Int) 0 (!toneB u d (tn (rd l 0))) s u d a b f) (x, r) → Ev (fun k => impl_Raga_firstWrong.f k s u d a b f l) (x, r) := fun x r h => by
    unfold impl_Raga_firstWrong.f
    refine Ev.succ ?_
    simp only [impl_Raga_firstWrong.l0]
    exact Ev.ite_pos (by omega) (Ev.ite_pos (by omega) (Ev.ite_pos (by omega) (Ev.ite_pos trivial (Ev.bindc (show impl_ToneOf.f (rd l 0) = some (tn (rd l 0)) from rfl) (Ev.bind ht h)))))
  cases c : toneB u d (tn (rd l 0)) with
  | false =>
    refine ⟨0, 1, by simp [okM, c], step _ _ (Ev.succ ?_)⟩
    simp only [impl_Raga_firstWrong.j1]
    rw [c]
    exact Ev.ite_pos rfl (Ev.now _)
  | true =>
    obtain ⟨x, r, h2, h3⟩ := firstWrong_l0 s u d a b f l hl hin hu hd hf hp (l.length - 1) 1 rfl (Nat.le_refl _)
    refine ⟨x, r, by simp [okM, c, h2], step _ _ (Ev.succ ?_)⟩
    simp only [impl_Raga_firstWrong.j1]
    rw [c, w64 (x := (0 : Int) + 1) (by omega) (by omega)]
    exact Ev.ite_neg (by decide) (Ev.ite_neg (by omega) (by simpa using h3))
end Go.Proofs.Ytinlejhffokbaaa.P
end
