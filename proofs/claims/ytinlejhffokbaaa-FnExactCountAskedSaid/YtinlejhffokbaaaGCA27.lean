/- Texts of this seat, merged: LRaga, LIRaga, LMax, LSHasOne, LSScale, LSRaga, LSame, LSlEq, LHas, LReps, LWrong. -/
import Derived.Test.YtinlejhffokbaaaGCA2
import Derived.Test.YtinlejhffokbaaaGCA3
import Derived.Test.YtinlejhffokbaaaGCA4
import Derived.Test.YtinlejhffokbaaaGCA5
import Derived.Test.YtinlejhffokbaaaGCA6
import Derived.Test.YtinlejhffokbaaaGCA10
import Derived.Test.YtinlejhffokbaaaGCA11
import Derived.Test.YtinlejhffokbaaaGCA12
import Derived.Test.YtinlejhffokbaaaGCA17
import Derived.Test.YtinlejhffokbaaaGCA18
import Derived.Test.YtinlejhffokbaaaGCA19
import Derived.Test.YtinlejhffokbaaaGCA21
import Derived.Test.YtinlejhffokbaaaGCA22
import Derived.Test.YtinlejhffokbaaaGCA23
import Derived.Test.YtinlejhffokbaaaGCA25
import Derived.Test.YtinlejhffokbaaaGCA26
section
namespace Go.Proofs.Ytinlejhffokbaaa.P
open Go.RowKit Go.Proofs.Ytinlejhffokbaaa.P Go.Proofs.YtinlejhffokbaaaW.PrintWords Go.Proofs.YtinlejhffokbaaaW.PrintLast Go.Proofs.YtinlejhffokbaaaW.PrintMore
set_option linter.unusedVariables false
set_option linter.unusedSimpArgs false
set_option maxHeartbeats 16000000
set_option maxRecDepth 100000
def toneB (u d : List Int) (t : Int) : Bool := hasM u t || hasM d t
def pairB (p : List Int) : Bool := decide (p.length = 2) && ((decide (0 ≤ rd p 0) && decide (rd p 0 ≤ 11)) && ((decide (0 ≤ rd p 1) && decide (rd p 1 ≤ 11)) && decide (rd p 0 ≠ rd p 1)))
def ltP (p q : List Int) : Bool := decide (rd p 0 < rd q 0) || (decide (rd p 0 = rd q 0) && decide (rd p 1 < rd q 1))
def pairsM (f : List (List Int)) : Nat → Nat → Bool
  | 0, _ => true
  | d + 1, i => (pairB (rd_L1 f i) && (decide (i = 0) || ltP (rd_L1 f ((i : Int) - 1)) (rd_L1 f i))) && pairsM f d (i + 1)
def ragaB (s : ByteArray) (u d : List Int) (st wk : Int) (f : List (List Int)) : Bool :=
  nameB s && (scaleB u && (scaleB d && (toneB u d st && (toneB u d wk && (decide (st ≠ wk) && (pairsM f f.length 0 && decide (f.length ≤ 8)))))))
theorem pairsM_at {f : List (List Int)} : ∀ (d i : Nat), pairsM f d i = true → ∀ j, i ≤ j → j < i + d → pairB (rd_L1 f j) = true := by
  intro d
  induction d with
  | zero => intro i _ j h1 h2; omega
  | succ d ih =>
    intro i h j h1 h2; simp only [pairsM, Bool.and_eq_true] at h
    by_cases e : j = i
    · subst e; exact h.1.1
    · exact ih (i + 1) h.2 j (by omega) (by omega)
theorem pairB_len {p : List Int} (h : pairB p = true) : p.length = 2 := by
  simp only [pairB, Bool.and_eq_true, decide_eq_true_eq] at h; exact h.1
theorem ragaB_parts {s : ByteArray} {u d : List Int} {st wk : Int} {f : List (List Int)} (h : ragaB s u d st wk f = true) : scaleB u = true ∧ scaleB d = true ∧ f.length ≤ 8 ∧ ∀ j, j < f.length → (rd_L1 f j).length = 2 := by
  simp only [ragaB, Bool.and_eq_true, decide_eq_true_eq] at h; exact ⟨h.2.1, h.2.2.1, h.2.2.2.2.2.2.2, fun j hj => pairB_len (pairsM_at _ _ h.2.2.2.2.2.2.1 j (by omega) (by omega))⟩
def pairQ (a b : Int) (p : List Int) : Bool := decide (rd p 0 = a) && decide (rd p 1 = b)
def reasonR (u d : List Int) (f : List (List Int)) (a b : Int) : Int :=
  if (toneB u d (tn a) && toneB u d (tn b)) = true then (if max (a - b) (b - a) > 12 then 2 else if b > a ∧ hasM u (tn b) = false then 3 else if b < a ∧ hasM d (tn b) = false then 4 else if f.any (pairQ (tn a) (tn b)) = true then 5 else 0) else 1
theorem impl_hasTone_ev (s : ByteArray) (u d : List Int) (st wk : Int) (f : List (List Int)) (t : Int) (hu : u.length ≤ 1048576) (hd : d.length ≤ 1048576) : Ev (fun k => impl_Raga_hasTone.f k s u d st wk f t) (toneB u d t) := by
  unfold impl_Raga_hasTone.f toneB; refine Ev.bind (slices_Contains_ev u t hu) ?_
  cases h : hasM u t with
  | true => exact Ev.ite_pos rfl (Ev.now _)
  | false => exact Ev.ite_neg (by decide) (Ev.bind (slices_Contains_ev d t hd) (Ev.now _))
theorem impl_toneOk_eq (n : Int) : impl_toneOk.f n = some (decide (0 ≤ n) && decide (n ≤ 11)) := by
  unfold impl_toneOk.f; rw [impl_within_eq]; rfl
def cmpM (a b : Int) : Int := if a < b then -1 else if a > b then 1 else 0
theorem cmp_Compare_eq (a b : Int) : cmp_Compare_int64.f a b = some (cmpM a b) := by
  unfold cmp_Compare_int64.f cmp_isNaN_int64.f cmpM; simp only [bne_self_eq_false, Option.bind_some]; rw [if_neg (by decide), if_neg (by decide)]
  split
  · rfl
  · split <;> rfl
theorem slices_Compare_ev (p q : List Int) (hp : p.length = 2) (hq : q.length = 2) : ∃ r, (r ≥ 0 ↔ ltP p q = false) ∧ Ev (fun k => slices_Compare_int64_int64.f k p q) r := by
  have st : ∀ (i : Nat) (r : Int), i < 2 → Ev (fun k => slices_Compare_int64_int64.l0 k p q p (p.length : Int) ((i + 1 : Nat) : Int)) r → Ev (fun k => slices_Compare_int64_int64.l0 k p q p (p.length : Int) (i : Int)) (if cmpM (rd p (i : Int)) (rd q (i : Int)) = 0 then r else cmpM (rd p (i : Int)) (rd q (i : Int))) := by
    intro i r hi h; refine Ev.succ ?_; simp only [slices_Compare_int64_int64.l0]; rw [w64 (x := (i : Int) + 1) (by omega) (by omega)]; refine Ev.ite_pos (by omega) (Ev.ite_pos (by omega) (Ev.ite_pos (by omega) (Ev.ite_neg (by omega) (Ev.ite_pos (by omega) (Ev.bindc (cmp_Compare_eq _ _) ?_)))))
    by_cases c : cmpM (rd p (i : Int)) (rd q (i : Int)) = 0
    · exact Ev.ite_pos c (Ev.cast h (if_pos c).symm)
    · exact Ev.ite_neg c (Ev.cast (Ev.now _) (if_neg c).symm)
  have e2 : Ev (fun k => slices_Compare_int64_int64.l0 k p q p (p.length : Int) ((2 : Nat) : Int)) 0 := by
    refine Ev.succ ?_; simp only [slices_Compare_int64_int64.l0]; exact Ev.ite_neg (by omega) (Ev.ite_neg (by omega) (Ev.now _))
  refine ⟨_, ?_, by unfold slices_Compare_int64_int64.f; exact st 0 _ (by omega) (st 1 _ (by omega) e2)⟩; simp only [ltP, cmpM]; have e0 : ((0 : Nat) : Int) = 0 := rfl; have e1 : ((1 : Nat) : Int) = 1 := rfl; rw [e0, e1]
  by_cases c1 : rd p 0 < rd q 0
  · simp [c1]
  · by_cases c2 : rd p 0 > rd q 0
    · have c3 : ¬ rd p 0 = rd q 0 := by omega
      simp [c1, c2, c3]
    · have c3 : rd p 0 = rd q 0 := by omega
      by_cases c4 : rd p 1 < rd q 1
      · simp [c3, c4]
      · by_cases c5 : rd p 1 > rd q 1
        · simp [c3, c4, c5]
        · simp [c3, c4, c5]
theorem impl_ValidRaga_l0 (s : ByteArray) (u e : List Int) (st wk : Int) (f : List (List Int)) (hf : f.length ≤ 1048576) : ∀ (d i : Nat), f.length - i = d → (i ≠ 0 → i ≤ f.length ∧ pairB (rd_L1 f ((i : Int) - 1)) = true) → Ev (fun k => impl_ValidRaga.l0 k f (f.length : Int) i s u e st wk f) (pairsM f d i) := by
  intro d
  induction d with
  | zero =>
    intro i hd hp; refine Ev.succ ?_; simp only [impl_ValidRaga.l0]; exact Ev.ite_neg (by omega) (Ev.now _)
  | succ d ih =>
    intro i hd hp
    have hn : pairB (rd_L1 f i) = true → Ev (fun k => impl_ValidRaga.l0 k f (f.length : Int) ((i : Int) + 1) s u e st wk f) (pairsM f d (i + 1)) := fun h => by
      have := ih (i + 1) (by omega) (fun _ => ⟨by omega, by rw [show ((i + 1 : Nat) : Int) - 1 = (i : Int) by omega]; exact h⟩)
      simpa using this
    refine Ev.succ ?_; simp only [impl_ValidRaga.l0, pairsM]; rw [w64 (x := (i : Int) + 1) (by omega) (by omega)]; refine Ev.ite_pos (by omega) (Ev.ite_pos (by omega) (Ev.ite_pos (by omega) ?_))
    by_cases hl : (rd_L1 f i).length = 2
    · refine Ev.ite_pos (by omega) (Ev.ite_pos (by omega) (Ev.bindc (impl_toneOk_eq _) ?_))
      cases h1 : (decide (0 ≤ rd (rd_L1 f i) 0) && decide (rd (rd_L1 f i) 0 ≤ 11)) with
      | false =>
        have e : pairB (rd_L1 f i) = false := by simp [pairB, h1]
        rw [e]; exact Ev.ite_neg (by decide) (Ev.cast (Ev.now false) (by simp))
      | true =>
        refine Ev.ite_pos rfl (Ev.ite_pos (by omega) (Ev.bindc (impl_toneOk_eq _) ?_))
        cases h2 : (decide (0 ≤ rd (rd_L1 f i) 1) && decide (rd (rd_L1 f i) 1 ≤ 11)) with
        | false =>
          have e : pairB (rd_L1 f i) = false := by simp [pairB, h2]
          rw [e]; exact Ev.ite_neg (by decide) (Ev.cast (Ev.now false) (by simp))
        | true =>
          refine Ev.ite_pos rfl ?_
          by_cases h3 : rd (rd_L1 f i) 0 = rd (rd_L1 f i) 1
          · have e : pairB (rd_L1 f i) = false := by simp [pairB, h3]
            rw [e]; exact Ev.ite_pos h3 (Ev.cast (Ev.now false) (by simp))
          · have e : pairB (rd_L1 f i) = true := by simp [pairB, hl, h1, h2, h3]
            refine Ev.ite_neg h3 ?_; rw [e]
            by_cases h0 : i = 0
            · refine Ev.ite_neg (by omega) (Ev.cast (hn e) ?_)
              simp [h0]
            · obtain ⟨g1, g2⟩ := hp h0; have hl2 := pairB_len g2; obtain ⟨r, r1, r2⟩ := slices_Compare_ev (rd_L1 f ((i : Int) - 1)) (rd_L1 f i) hl2 hl; refine Ev.ite_pos (by omega) ?_; rw [w64 (x := (i : Int) - 1) (by omega) (by omega)]; refine Ev.ite_pos (by omega) (Ev.ite_pos (by omega) (Ev.bind r2 ?_))
              by_cases c : r ≥ 0
              · refine Ev.ite_pos c (Ev.cast (Ev.now false) ?_)
                simp [h0, r1.1 c]
              · refine Ev.ite_neg c (Ev.cast (hn e) ?_)
                have : ltP (rd_L1 f ((i : Int) - 1)) (rd_L1 f i) = true := by
                  cases q : ltP (rd_L1 f ((i : Int) - 1)) (rd_L1 f i) with
                  | true => rfl
                  | false => exact absurd (r1.2 q) c
                simp [this]
    · have e : pairB (rd_L1 f i) = false := by simp [pairB, hl]
      rw [e]; exact Ev.ite_neg (by omega) (Ev.cast (Ev.now false) (by simp))
theorem impl_ValidRaga_ev (s : ByteArray) (u d : List Int) (st wk : Int) (f : List (List Int)) (hs : s.size ≤ 1048576) (hu : u.length ≤ 1048576) (hd : d.length ≤ 1048576) (hf : f.length ≤ 1048576) : Ev (fun k => impl_ValidRaga.f k s u d st wk f) (ragaB s u d st wk f) := by
  have jt : Ev (fun k => impl_ValidRaga.j0 k true s u d st wk f) false := by
    refine Ev.succ ?_; simp only [impl_ValidRaga.j0]; exact Ev.ite_pos (by decide) (Ev.now _)
  unfold impl_ValidRaga.f ragaB; refine Ev.bind (impl_IsName_ev s) ?_
  cases h1 : nameB s with
  | false => exact Ev.ite_neg (by decide) jt
  | true =>
    refine Ev.ite_pos rfl (Ev.bind (impl_ValidScale_ev u (by omega)) ?_)
    cases h2 : scaleB u with
    | false => exact Ev.ite_neg (by decide) jt
    | true =>
      refine Ev.ite_pos rfl (Ev.bind (impl_ValidScale_ev d (by omega)) ?_)
      cases h3 : scaleB d with
      | false => exact Ev.ite_neg (by decide) jt
      | true =>
        refine Ev.ite_pos rfl ?_
        by_cases h6 : st = wk
        · refine Ev.ite_pos h6 (Ev.cast jt ?_)
          simp [h6]
        · refine Ev.ite_neg h6 (Ev.bind (impl_hasTone_ev s u d st wk f st hu hd) ?_)
          cases h4 : toneB u d st with
          | false => exact Ev.ite_neg (by decide) jt
          | true =>
            refine Ev.ite_pos rfl (Ev.bind (impl_hasTone_ev s u d st wk f wk hu hd) ?_)
            cases h5 : toneB u d wk with
            | false => exact Ev.ite_neg (by decide) jt
            | true =>
              refine Ev.ite_pos rfl ?_
              by_cases h8 : (f.length : Int) > 8
              · have e : decide ((f.length : Int) > 8) = true := by simpa using h8
                rw [e]; refine Ev.cast jt ?_
                have : ¬ f.length ≤ 8 := by omega
                simp [this]
              · have e : decide ((f.length : Int) > 8) = false := by simpa using h8
                rw [e]; refine Ev.succ ?_; simp only [impl_ValidRaga.j0]; refine Ev.ite_neg (by decide) (Ev.cast (by simpa using impl_ValidRaga_l0 s u d st wk f hf f.length 0 (by omega) (by simp)) ?_)
                have : f.length ≤ 8 := by omega
                simp [this, h6]
theorem impl_reason_1_eq (p : List Int) (a b : Int) (h : p.length = 2) : impl_Raga_reason_1.f p a b = some (pairQ a b p) := by
  unfold impl_Raga_reason_1.f pairQ; rw [if_pos (by omega)]
  by_cases c : rd p 0 = a
  · rw [if_pos c, if_pos (by omega)]
    simp [c]
    rfl
  · rw [if_neg c]
    simp [c]
theorem impl_reason_any_eq (f : List (List Int)) (a b : Int) (hp : ∀ j, j < f.length → (rd_L1 f j).length = 2) : impl_reason_any.f f a b = some (f.any (pairQ a b)) := by
  have hm : ∀ p ∈ f, impl_Raga_reason_1.f p a b = some (pairQ a b p) := by
    intro p hp'; obtain ⟨j, hj, rfl⟩ := List.getElem_of_mem hp'; refine impl_reason_1_eq _ a b ?_; have := hp j hj
    rwa [rdL_at hj] at this
  unfold impl_reason_any.f
  rw [if_pos (by
    rw [List.all_eq_true]; intro p hp'; rw [hm p hp']
    rfl)]
  congr 1
  rw [Bool.eq_iff_iff, List.any_eq_true, List.any_eq_true]
  constructor
  · rintro ⟨p, hp', h⟩; refine ⟨p, hp', ?_⟩; rw [hm p hp'] at h
    simpa using h
  · rintro ⟨p, hp', h⟩; refine ⟨p, hp', ?_⟩; rw [hm p hp', h]; rfl
theorem impl_reason_ev (s : ByteArray) (u d : List Int) (st wk : Int) (f : List (List Int)) (a b : Int) (ha : -1000 ≤ a ∧ a ≤ 1000) (hb : -1000 ≤ b ∧ b ≤ 1000) (hu : u.length ≤ 1048576) (hd : d.length ≤ 1048576) (hf : f.length ≤ 8) (hp : ∀ j, j < f.length → (rd_L1 f j).length = 2) :
    Ev (fun k => impl_Raga_reason.f k s u d st wk f a b) (reasonR u d f a b) := by
  have hj : ∀ t : Bool, (toneB u d (tn a) && toneB u d (tn b)) = !t → Ev (fun k => impl_Raga_reason.j0 k a b t s u d st wk f (tn a) (tn b)) (reasonR u d f a b) := by
    intro t ht; refine Ev.succ ?_; simp only [impl_Raga_reason.j0]; unfold reasonR; rw [ht]
    cases t with
    | true => exact Ev.ite_pos rfl (Ev.now _)
    | false =>
      rw [w64 (x := a - b) (by omega) (by omega)]; refine Ev.ite_neg (by decide) (Ev.bindc (impl_abs_eq _ (by omega) (by omega)) ?_); rw [if_pos (show (!false) = true from rfl), show max (a - b) (-(a - b)) = max (a - b) (b - a) by omega]
      by_cases c1 : max (a - b) (b - a) > 12
      · exact Ev.ite_pos c1 (Ev.cast (Ev.now _) (if_pos c1).symm)
      · refine Ev.ite_neg c1 (Ev.cast ?_ (if_neg c1).symm)
        have h2 : ∀ t2 : Bool, (t2 = true ↔ (b < a ∧ hasM d (tn b) = false)) → Ev (fun k => impl_Raga_reason.j2 k t2 s u d st wk f (tn a) (tn b)) (if b < a ∧ hasM d (tn b) = false then 4 else if f.any (pairQ (tn a) (tn b)) = true then 5 else 0) := by
          intro t2 e2; refine Ev.succ ?_; simp only [impl_Raga_reason.j2]
          by_cases c : t2 = true
          · exact Ev.ite_pos c (Ev.cast (Ev.now _) (if_pos (e2.1 c)).symm)
          · refine Ev.ite_neg c (Ev.cast ?_ (if_neg (fun z => c (e2.2 z))).symm); refine Ev.bindc (impl_reason_any_eq f _ _ hp) ?_
            by_cases c5 : f.any (pairQ (tn a) (tn b)) = true
            · exact Ev.ite_pos c5 (Ev.cast (Ev.now _) (if_pos c5).symm)
            · exact Ev.ite_neg c5 (Ev.cast (Ev.now _) (if_neg c5).symm)
        have h1 : ∀ t1 : Bool, (t1 = true ↔ (b > a ∧ hasM u (tn b) = false)) → Ev (fun k => impl_Raga_reason.j1 k a b t1 s u d st wk f (tn a) (tn b)) (if b > a ∧ hasM u (tn b) = false then 3 else if b < a ∧ hasM d (tn b) = false then 4 else if f.any (pairQ (tn a) (tn b)) = true then 5 else 0) := by
          intro t1 e1; refine Ev.succ ?_; simp only [impl_Raga_reason.j1]
          by_cases c : t1 = true
          · exact Ev.ite_pos c (Ev.cast (Ev.now _) (if_pos (e1.1 c)).symm)
          · refine Ev.ite_neg c (Ev.cast ?_ (if_neg (fun z => c (e1.2 z))).symm)
            by_cases cb : b < a
            · refine Ev.ite_pos cb (Ev.bind (slices_Contains_ev d _ hd) (h2 _ ?_))
              cases hasM d (tn b) <;> simp [cb]
            · refine Ev.ite_neg cb (h2 _ ?_)
              simp [cb]
        by_cases cb : b > a
        · refine Ev.ite_pos cb (Ev.bind (slices_Contains_ev u _ hu) (h1 _ ?_))
          cases hasM u (tn b) <;> simp [cb]
        · refine Ev.ite_neg cb (h1 _ ?_)
          simp [cb]
  unfold impl_Raga_reason.f; refine Ev.bindc (show impl_ToneOf.f a = some (tn a) from rfl) (Ev.bindc (show impl_ToneOf.f b = some (tn b) from rfl) (Ev.bind (impl_hasTone_ev s u d st wk f _ hu hd) ?_))
  cases h1 : toneB u d (tn a) with
  | true =>
    refine Ev.ite_pos rfl (Ev.bind (impl_hasTone_ev s u d st wk f _ hu hd) (hj _ ?_))
    simp [h1]
  | false =>
    refine Ev.ite_neg (by decide) (hj _ ?_)
    simp [h1]
theorem spec_l00Max_eq (a b : Int) : spec_l00Max.f a b = some (max a b) := by
  unfold spec_l00Max.f
  by_cases h : a > b
  · rw [if_pos h, Int.max_def, if_neg (by omega)]
  · rw [if_neg h, Int.max_def, if_pos (by omega)]
theorem spec_l00Has_l0 (s : List Int) (t : Int) (hl : s.length ≤ 1048576) : ∀ (d i : Nat), s.length - i = d → Ev (fun k => spec_l00Has.l0 k s t i) (hasM (s.drop i) t) := by
  intro d
  induction d with
  | zero =>
    intro i hd; refine Ev.succ ?_; simp only [spec_l00Has.l0]; refine Ev.ite_neg (by omega) ?_; rw [List.drop_of_length_le (by omega)]; exact Ev.now _
  | succ d ih =>
    intro i hd
    have hi : i < s.length := by omega
    refine Ev.succ ?_; simp only [spec_l00Has.l0]; rw [w64 (x := (i : Int) + 1) (by omega) (by omega), List.drop_eq_getElem_cons hi, ← rd_at hi]; refine Ev.ite_pos (by omega) (Ev.ite_pos (by omega) ?_)
    by_cases h : rd s i = t
    · refine Ev.ite_pos h (Ev.cast (Ev.now _) ?_)
      simp [hasM, h]
    · refine Ev.ite_neg h (Ev.cast (by simpa using ih (i + 1) (by omega)) ?_)
      simp [hasM, h]
theorem spec_l00Has_ev (s : List Int) (t : Int) (hl : s.length ≤ 1048576) : Ev (fun k => spec_l00Has.f k s t) (hasM s t) := by
  unfold spec_l00Has.f
  simpa using spec_l00Has_l0 s t hl s.length 0 (by omega)
theorem spec_l03Scale_ev (l : List Int) (hl : l.length ≤ 9223372036854775807) : Ev (fun k => spec_l03Scale.f k l) (scaleB l) := by
  unfold spec_l03Scale.f scaleB
  by_cases h : 5 ≤ l.length
  · refine Ev.ite_pos (by omega) ?_; refine Ev.bind (a := rgB l 0 11 0 l.length) ?_ ?_
    · unfold spec_l00Rises.f
      simpa using spec_l00Rises_l0 l 0 11 hl l.length 0 (by omega) (by omega)
    · cases g : rgB l 0 11 0 l.length with
      | true =>
        refine Ev.ite_pos rfl (Ev.ite_pos (by omega) ?_)
        simpa [h] using Ev.now _
      | false =>
        refine Ev.ite_neg (by decide) ?_
        simpa using Ev.now false
  · refine Ev.ite_neg (by omega) ?_
    simpa [h] using Ev.now false
theorem spec_l05Tone_ev (s : ByteArray) (u d : List Int) (st wk : Int) (f : List (List Int)) (t : Int) (hu : u.length ≤ 1048576) (hd : d.length ≤ 1048576) : Ev (fun k => spec_l05Tone.f k s u d st wk f t) (toneB u d t) := by
  unfold spec_l05Tone.f toneB; refine Ev.bind (spec_l00Has_ev u t hu) ?_
  cases h : hasM u t with
  | true => exact Ev.ite_pos rfl (Ev.now _)
  | false => exact Ev.ite_neg (by decide) (Ev.bind (spec_l00Has_ev d t hd) (Ev.now _))
theorem spec_l05Pair_eq (p : List Int) : spec_l05Pair.f p = some (pairB p) := by
  unfold spec_l05Pair.f pairB
  by_cases h : p.length = 2
  · rw [if_pos (by omega), if_pos (by omega), spec_l00In_eq, spec_l00In_eq]; simp only [Option.bind_some]
    cases h1 : (decide (0 ≤ rd p 0) && decide (rd p 0 ≤ 11)) with
    | false => simp [h]
    | true =>
      rw [if_pos rfl, if_pos (by omega)]
      cases h2 : (decide (0 ≤ rd p 1) && decide (rd p 1 ≤ 11)) with
      | false => simp [h]
      | true =>
        rw [if_pos rfl]
        by_cases h3 : rd p 0 = rd p 1 <;> simp [h, h3]
  · rw [if_neg (by omega)]
    simp [h]
theorem spec_l05Pairs_l0 (f : List (List Int)) (hf : f.length ≤ 1048576) : ∀ (d i : Nat), f.length - i = d → (i ≠ 0 → i ≤ f.length ∧ pairB (rd_L1 f ((i : Int) - 1)) = true) → Ev (fun k => spec_l05Pairs.l0 k f i) (pairsM f d i && decide (f.length ≤ 8)) := by
  intro d
  induction d with
  | zero =>
    intro i hd hp; refine Ev.succ ?_; simp only [spec_l05Pairs.l0]; refine Ev.ite_neg (by omega) (Ev.cast (Ev.now _) ?_)
    simp [pairsM]
    omega
  | succ d ih =>
    intro i hd hp
    have hn : pairB (rd_L1 f i) = true → Ev (fun k => spec_l05Pairs.l0 k f ((i : Int) + 1)) (pairsM f d (i + 1) && decide (f.length ≤ 8)) := fun h => by
      have := ih (i + 1) (by omega) (fun _ => ⟨by omega, by rw [show ((i + 1 : Nat) : Int) - 1 = (i : Int) by omega]; exact h⟩)
      simpa using this
    refine Ev.succ ?_; simp only [spec_l05Pairs.l0, pairsM]; rw [w64 (x := (i : Int) + 1) (by omega) (by omega)]; refine Ev.ite_pos (by omega) (Ev.ite_pos (by omega) (Ev.bindc (spec_l05Pair_eq _) ?_))
    cases h : pairB (rd_L1 f i) with
    | false =>
      refine Ev.ite_neg (by decide) (Ev.cast (Ev.now false) ?_)
      simp
    | true =>
      have hl := pairB_len h; refine Ev.ite_pos rfl ?_
      by_cases h0 : i = 0
      · refine Ev.ite_neg (by omega) (Ev.cast (hn h) ?_)
        simp [h0]
      · obtain ⟨h1, h2⟩ := hp h0; have hl2 := pairB_len h2; refine Ev.ite_pos (by omega) ?_; rw [w64 (x := (i : Int) - 1) (by omega) (by omega)]; refine Ev.ite_pos (by omega) (Ev.ite_pos (by omega) (Ev.ite_pos (by omega) (Ev.ite_pos (by omega) ?_)))
        by_cases c1 : rd (rd_L1 f ((i : Int) - 1)) 0 > rd (rd_L1 f i) 0
        · refine Ev.ite_pos c1 (Ev.cast (Ev.now false) ?_)
          have e1 : ¬ rd (rd_L1 f ((i : Int) - 1)) 0 < rd (rd_L1 f i) 0 := by omega
          have e2 : ¬ rd (rd_L1 f ((i : Int) - 1)) 0 = rd (rd_L1 f i) 0 := by omega
          simp [h0, ltP, e1, e2]
        · refine Ev.ite_neg c1 ?_
          by_cases c2 : rd (rd_L1 f ((i : Int) - 1)) 0 = rd (rd_L1 f i) 0
          · refine Ev.ite_pos c2 (Ev.ite_pos (by omega) (Ev.ite_pos (by omega) ?_))
            by_cases c3 : rd (rd_L1 f ((i : Int) - 1)) 1 ≥ rd (rd_L1 f i) 1
            · refine Ev.ite_pos c3 (Ev.cast (Ev.now false) ?_)
              have e1 : ¬ rd (rd_L1 f ((i : Int) - 1)) 1 < rd (rd_L1 f i) 1 := by omega
              simp [h0, ltP, c2, e1]
            · refine Ev.ite_neg c3 (Ev.cast (hn h) ?_)
              have e1 : rd (rd_L1 f ((i : Int) - 1)) 1 < rd (rd_L1 f i) 1 := by omega
              simp [h0, ltP, c2, e1]
          · refine Ev.ite_neg c2 (Ev.cast (hn h) ?_)
            have e1 : rd (rd_L1 f ((i : Int) - 1)) 0 < rd (rd_L1 f i) 0 := by omega
            simp [h0, ltP, e1]
theorem spec_l05Ok_ev (s : ByteArray) (u d : List Int) (st wk : Int) (f : List (List Int)) (hs : s.size ≤ 1048576) (hu : u.length ≤ 1048576) (hd : d.length ≤ 1048576) (hf : f.length ≤ 1048576) : Ev (fun k => spec_l05Ok.f k s u d st wk f) (ragaB s u d st wk f) := by
  unfold spec_l05Ok.f ragaB; refine Ev.bind (spec_l01Name_ev s) ?_
  cases h1 : nameB s with
  | false => exact Ev.ite_neg (by decide) (Ev.now _)
  | true =>
    refine Ev.ite_pos rfl (Ev.bind (spec_l03Scale_ev u (by omega)) ?_)
    cases h2 : scaleB u with
    | false => exact Ev.ite_neg (by decide) (Ev.now _)
    | true =>
      refine Ev.ite_pos rfl (Ev.bind (spec_l03Scale_ev d (by omega)) ?_)
      cases h3 : scaleB d with
      | false => exact Ev.ite_neg (by decide) (Ev.now _)
      | true =>
        refine Ev.ite_pos rfl (Ev.bind (spec_l05Tone_ev s u d st wk f st hu hd) ?_)
        cases h4 : toneB u d st with
        | false => exact Ev.ite_neg (by decide) (Ev.now _)
        | true =>
          refine Ev.ite_pos rfl (Ev.bind (spec_l05Tone_ev s u d st wk f wk hu hd) ?_)
          cases h5 : toneB u d wk with
          | false => exact Ev.ite_neg (by decide) (Ev.now _)
          | true =>
            refine Ev.ite_pos rfl ?_
            by_cases h6 : st = wk
            · refine Ev.ite_pos h6 (Ev.cast (Ev.now false) ?_)
              simp [h6]
            · refine Ev.ite_neg h6 ?_; refine Ev.bind (a := pairsM f f.length 0 && decide (f.length ≤ 8)) ?_ (Ev.cast (Ev.now _) (by simp [h6])); unfold spec_l05Pairs.f
              simpa using spec_l05Pairs_l0 f hf f.length 0 (by omega) (by simp)
theorem spec_l05Reason_l0 (s : ByteArray) (u d : List Int) (st wk : Int) (f : List (List Int)) (a b : Int) (hf : f.length ≤ 8) (hp : ∀ j, j < f.length → (rd_L1 f j).length = 2) : ∀ (m i : Nat), f.length - i = m → Ev (fun k => spec_l05Reason.l0 k a b i s u d st wk f) (if (f.drop i).any (pairQ a b) = true then 5 else 0) := by
  intro m
  induction m with
  | zero =>
    intro i hm; refine Ev.succ ?_; simp only [spec_l05Reason.l0]; refine Ev.ite_neg (by omega) (Ev.cast (Ev.now _) ?_); rw [List.drop_of_length_le (by omega)]; rfl
  | succ m ih =>
    intro i hm; have hl := hp i (by omega); have hn : Ev (fun k => spec_l05Reason.l0 k a b ((i : Int) + 1) s u d st wk f) (if (f.drop (i + 1)).any (pairQ a b) = true then 5 else 0) := ih (i + 1) (by omega); refine Ev.succ ?_; simp only [spec_l05Reason.l0]; rw [w64 (x := (i : Int) + 1) (by omega) (by omega), List.drop_eq_getElem_cons (show i < f.length by omega), ← rdL_at (show i < f.length by omega), List.any_cons]; refine Ev.ite_pos (by omega) (Ev.ite_pos (by omega) (Ev.ite_pos (by omega) ?_))
    by_cases c1 : rd (rd_L1 f i) 0 = a
    · refine Ev.ite_pos c1 (Ev.ite_pos (by omega) ?_)
      by_cases c2 : rd (rd_L1 f i) 1 = b
      · have e : pairQ a b (rd_L1 f i) = true := by simp [pairQ, c1, c2]
        refine Ev.ite_pos c2 (Ev.cast (Ev.now _) ?_); rw [e, Bool.true_or, if_pos rfl]
      · have e : pairQ a b (rd_L1 f i) = false := by simp [pairQ, c2]
        rw [e, Bool.false_or]; exact Ev.ite_neg c2 hn
    · have e : pairQ a b (rd_L1 f i) = false := by simp [pairQ, c1]
      rw [e, Bool.false_or]; exact Ev.ite_neg c1 hn
theorem spec_l05Reason_ev (s : ByteArray) (u d : List Int) (st wk : Int) (f : List (List Int)) (a b : Int) (ha : -1000 ≤ a ∧ a ≤ 1000) (hb : -1000 ≤ b ∧ b ≤ 1000) (hu : u.length ≤ 1048576) (hd : d.length ≤ 1048576) (hf : f.length ≤ 8) (hp : ∀ j, j < f.length → (rd_L1 f j).length = 2) :
    Ev (fun k => spec_l05Reason.f k s u d st wk f a b) (reasonR u d f a b) := by
  have hj : ∀ t : Bool, (toneB u d (tn a) && toneB u d (tn b)) = !t → Ev (fun k => spec_l05Reason.j0 k a b (tn a) (tn b) t s u d st wk f) (reasonR u d f a b) := by
    intro t ht; refine Ev.succ ?_; simp only [spec_l05Reason.j0]; unfold reasonR; rw [ht]
    cases t with
    | true => exact Ev.ite_pos rfl (Ev.now _)
    | false =>
      rw [w64 (x := a - b) (by omega) (by omega), w64 (x := b - a) (by omega) (by omega)]; refine Ev.ite_neg (by decide) (Ev.bindc (spec_l00Max_eq _ _) ?_); rw [if_pos (show (!false) = true from rfl)]
      by_cases c1 : max (a - b) (b - a) > 12
      · exact Ev.ite_pos c1 (Ev.cast (Ev.now _) (if_pos c1).symm)
      · refine Ev.ite_neg c1 (Ev.cast ?_ (if_neg c1).symm)
        have h2 : ∀ t2 : Bool, (t2 = true ↔ (b < a ∧ hasM d (tn b) = false)) → Ev (fun k => spec_l05Reason.j2 k (tn a) (tn b) t2 s u d st wk f) (if b < a ∧ hasM d (tn b) = false then 4 else if f.any (pairQ (tn a) (tn b)) = true then 5 else 0) := by
          intro t2 e2; refine Ev.succ ?_; simp only [spec_l05Reason.j2]
          by_cases c : t2 = true
          · exact Ev.ite_pos c (Ev.cast (Ev.now _) (if_pos (e2.1 c)).symm)
          · refine Ev.ite_neg c (Ev.cast ?_ (if_neg (fun z => c (e2.2 z))).symm)
            simpa using spec_l05Reason_l0 s u d st wk f (tn a) (tn b) hf hp f.length 0 (by omega)
        have h1 : ∀ t1 : Bool, (t1 = true ↔ (b > a ∧ hasM u (tn b) = false)) → Ev (fun k => spec_l05Reason.j1 k a b (tn a) (tn b) t1 s u d st wk f) (if b > a ∧ hasM u (tn b) = false then 3 else if b < a ∧ hasM d (tn b) = false then 4 else if f.any (pairQ (tn a) (tn b)) = true then 5 else 0) := by
          intro t1 e1; refine Ev.succ ?_; simp only [spec_l05Reason.j1]
          by_cases c : t1 = true
          · exact Ev.ite_pos c (Ev.cast (Ev.now _) (if_pos (e1.1 c)).symm)
          · refine Ev.ite_neg c (Ev.cast ?_ (if_neg (fun z => c (e1.2 z))).symm)
            by_cases cb : b < a
            · refine Ev.ite_pos cb (Ev.bind (spec_l00Has_ev d _ hd) (h2 _ ?_))
              cases hasM d (tn b) <;> simp [cb]
            · refine Ev.ite_neg cb (h2 _ ?_)
              simp [cb]
        by_cases cb : b > a
        · refine Ev.ite_pos cb (Ev.bind (spec_l00Has_ev u _ hu) (h1 _ ?_))
          cases hasM u (tn b) <;> simp [cb]
        · refine Ev.ite_neg cb (h1 _ ?_)
          simp [cb]
  unfold spec_l05Reason.f; refine Ev.bindc (show spec_l03Tone.f a = some (tn a) from rfl) (Ev.bindc (show spec_l03Tone.f b = some (tn b) from rfl) (Ev.bind (spec_l05Tone_ev s u d st wk f _ hu hd) ?_))
  cases h1 : toneB u d (tn a) with
  | true =>
    refine Ev.ite_pos rfl (Ev.bind (spec_l05Tone_ev s u d st wk f _ hu hd) (hj _ ?_))
    simp [h1]
  | false =>
    refine Ev.ite_neg (by decide) (hj _ ?_)
    simp [h1]
theorem spec_l00Same_l0 (a b : List Int) (hl : a.length ≤ 9223372036854775807) (hab : a.length = b.length) : ∀ (d i : Nat), a.length - i = d → i ≤ a.length → a.take i = b.take i → Ev (fun k => spec_l00Same.l0 k a b i) (decide (a = b)) := by
  intro d
  induction d with
  | zero =>
    intro i hd hi ht; refine Ev.succ ?_; simp only [spec_l00Same.l0]; refine Ev.ite_neg (by omega) ?_; rw [List.take_of_length_le (by omega), List.take_of_length_le (by omega)] at ht
    simpa [ht] using Ev.now true
  | succ d ih =>
    intro i hd hi ht; refine Ev.succ ?_; simp only [spec_l00Same.l0]; refine Ev.ite_pos (by omega) ?_; refine Ev.ite_pos (by omega) ?_; refine Ev.ite_pos (by omega) ?_
    by_cases he : rd a i = rd b i
    · refine Ev.ite_pos he ?_; rw [w64 (x := (i : Int) + 1) (by omega) (by omega)]; rw [rd_at (show i < a.length by omega), rd_at (show i < b.length by omega)] at he
      have := ih (i + 1) (by omega) (by omega) (by
        rw [List.take_succ_eq_append_getElem (by omega), List.take_succ_eq_append_getElem (by omega), ht, he])
      simpa using this
    · refine Ev.ite_neg he ?_
      have : ¬ a = b := fun e => he (by rw [e])
      simpa [this] using Ev.now false
theorem spec_l00Same_ev (a b : List Int) (hl : a.length ≤ 9223372036854775807) : Ev (fun k => spec_l00Same.f k a b) (decide (a = b)) := by
  unfold spec_l00Same.f
  by_cases h : a.length = b.length
  · refine Ev.ite_pos (by omega) ?_; exact spec_l00Same_l0 a b hl h a.length 0 (by omega) (by omega) (by simp)
  · refine Ev.ite_neg (by omega) ?_
    have : ¬ a = b := fun e => h (by rw [e])
    simpa [this] using Ev.now false
theorem slices_Equal_l0 (a b : List Int) (hl : a.length ≤ 9223372036854775807) (hab : a.length = b.length) : ∀ (d i : Nat), a.length - i = d → i ≤ a.length → a.take i = b.take i → Ev (fun k => slices_Equal_int64_int64.l0 k a b (a.length : Int) i) (decide (a = b)) := by
  intro d
  induction d with
  | zero =>
    intro i hd hi ht; refine Ev.succ ?_; simp only [slices_Equal_int64_int64.l0]; refine Ev.ite_neg (by omega) ?_; rw [List.take_of_length_le (by omega), List.take_of_length_le (by omega)] at ht
    simpa [ht] using Ev.now true
  | succ d ih =>
    intro i hd hi ht; refine Ev.succ ?_; simp only [slices_Equal_int64_int64.l0]; refine Ev.ite_pos (by omega) ?_; refine Ev.ite_pos (by omega) ?_; refine Ev.ite_pos (by omega) ?_; refine Ev.ite_pos (by omega) ?_
    by_cases he : rd a i = rd b i
    · refine Ev.ite_pos he ?_; rw [w64 (x := (i : Int) + 1) (by omega) (by omega)]; rw [rd_at (show i < a.length by omega), rd_at (show i < b.length by omega)] at he
      have := ih (i + 1) (by omega) (by omega) (by
        rw [List.take_succ_eq_append_getElem (by omega), List.take_succ_eq_append_getElem (by omega), ht, he])
      simpa using this
    · refine Ev.ite_neg he ?_
      have : ¬ a = b := fun e => he (by rw [e])
      simpa [this] using Ev.now false
theorem slices_Equal_ev (a b : List Int) (hl : a.length ≤ 9223372036854775807) : Ev (fun k => slices_Equal_int64_int64.f k a b) (decide (a = b)) := by
  unfold slices_Equal_int64_int64.f
  by_cases h : a.length = b.length
  · refine Ev.ite_pos (by omega) ?_; exact slices_Equal_l0 a b hl h a.length 0 (by omega) (by omega) (by simp)
  · refine Ev.ite_neg (by omega) ?_
    have : ¬ a = b := fun e => h (by rw [e])
    simpa [this] using Ev.now false
def cutAt (a b : List Int) (j : Nat) : List Int := (a.take (j + b.length)).drop j
theorem spec_l15Has_l0 (a b : List Int) (ha : a.length ≤ 64) (hb : b.length ≤ 64) : ∀ (d i : Nat), a.length + 1 - b.length - i = d → i ≤ 65 → Ev (fun k => spec_l15Has.l0 k a b i) ((List.range' i d).any fun j => decide (cutAt a b j = b)) := by
  intro d
  induction d with
  | zero =>
    intro i hd hi; refine Ev.succ ?_; simp only [spec_l15Has.l0]; rw [w64 (x := (i : Int) + b.length) (by omega) (by omega)]; refine Ev.ite_neg (by omega) ?_; exact Ev.now _
  | succ d ih =>
    intro i hd hi; refine Ev.succ ?_; simp only [spec_l15Has.l0]; rw [w64 (x := (i : Int) + b.length) (by omega) (by omega), w64 (x := (i : Int) + 1) (by omega) (by omega)]; refine Ev.ite_pos (by omega) ?_; refine Ev.ite_pos (by omega) ?_; refine Ev.ite_pos (by omega) ?_
    have e : ((i : Int) + (b.length : Int)).toNat = i + b.length := by omega
    rw [e, Int.toNat_natCast]; refine Ev.bind (spec_l00Same_ev (cutAt a b i) b (by simp [cutAt]; omega)) ?_
    by_cases h : cutAt a b i = b
    · refine Ev.ite_pos (by simpa using h) ?_; refine Ev.cast (Ev.now true) ?_
      simp [List.range'_succ, h]
    · refine Ev.ite_neg (by simpa using h) ?_; refine Ev.cast (by simpa using ih (i + 1) (by omega) (by omega)) ?_
      simp [List.range'_succ, h]
theorem impl_occurrences_l0 (a b : List Int) (ha : a.length ≤ 64) (hb : b.length ≤ 64) : ∀ (d i : Nat) (acc : List Int), a.length + 1 - b.length - i = d → i ≤ 65 → acc.length ≤ i →
    Ev (fun k => impl_occurrences.l0 k a b acc i) (acc ++ ((List.range' i d).filter fun j => decide (cutAt a b j = b)).map Int.ofNat) := by
  intro d
  induction d with
  | zero =>
    intro i acc hd hi hc; refine Ev.succ ?_; simp only [impl_occurrences.l0]; rw [w64 (x := (i : Int) + b.length) (by omega) (by omega)]; refine Ev.ite_neg (by omega) ?_
    simpa using Ev.now _
  | succ d ih =>
    intro i acc hd hi hc; refine Ev.succ ?_; simp only [impl_occurrences.l0]; rw [w64 (x := (i : Int) + b.length) (by omega) (by omega), w64 (x := (i : Int) + 1) (by omega) (by omega)]; refine Ev.ite_pos (by omega) ?_; refine Ev.ite_pos (by omega) ?_; refine Ev.ite_pos (by omega) ?_
    have e : ((i : Int) + (b.length : Int)).toNat = i + b.length := by omega
    rw [e, Int.toNat_natCast]; refine Ev.bind (slices_Equal_ev (cutAt a b i) b (by simp [cutAt]; omega)) ?_
    by_cases h : cutAt a b i = b
    · refine Ev.ite_pos (by simpa using h) ?_; refine Ev.ite_pos (by omega) ?_; refine Ev.cast (by simpa using ih (i + 1) (acc ++ [(i : Int)]) (by omega) (by omega) (by simp; omega)) ?_
      simp [List.range'_succ, h]
    · refine Ev.ite_neg (by simpa using h) ?_; refine Ev.cast (by simpa using ih (i + 1) acc (by omega) (by omega) (by omega)) ?_
      simp [List.range'_succ, h]
def hasB (a b : List Int) : Bool := (List.range' 0 (a.length + 1 - b.length)).any fun j => decide (cutAt a b j = b)
theorem spec_l15Has_ev (a b : List Int) (ha : a.length ≤ 64) (hb : b.length ≤ 64) : Ev (fun k => spec_l15Has.f k a b) (hasB a b) := by
  unfold spec_l15Has.f hasB
  simpa using spec_l15Has_l0 a b ha hb (a.length + 1 - b.length) 0 (by omega) (by omega)
def occM (a b : List Int) : List Int := ((List.range' 0 (a.length + 1 - b.length)).filter fun j => decide (cutAt a b j = b)).map Int.ofNat
theorem impl_occurrences_ev (a b : List Int) (ha : a.length ≤ 64) (hb : b.length ≤ 64) : Ev (fun k => impl_occurrences.f k a b) (occM a b) := by
  unfold impl_occurrences.f occM
  simpa using impl_occurrences_l0 a b ha hb (a.length + 1 - b.length) 0 [] (by omega) (by omega) (by simp)
theorem occM_len (a b : List Int) : decide (((occM a b).length : Int) > 0) = hasB a b := by
  rw [Bool.eq_iff_iff, decide_eq_true_eq, hasB, List.any_eq_true]; unfold occM; rw [List.length_map]
  constructor
  · intro h; obtain ⟨x, hx⟩ := List.exists_mem_of_length_pos (l := (List.range' 0 (a.length + 1 - b.length)).filter fun j => decide (cutAt a b j = b)) (by omega); rw [List.mem_filter] at hx; exact ⟨x, hx.1, hx.2⟩
  · rintro ⟨x, h1, h2⟩; have : 0 < ((List.range' 0 (a.length + 1 - b.length)).filter fun j => decide (cutAt a b j = b)).length := List.length_pos_of_mem (List.mem_filter.2 ⟨h1, h2⟩)
    omega
def repM (l : List Int) : Nat → Nat → Int → Int → Int
  | 0, _, m, _ => m
  | d + 1, i, m, r => if rd l i = rd l ((i : Int) - 1) then repM l d (i + 1) (max m (r + 1)) (r + 1) else repM l d (i + 1) (max m 0) 0
theorem spec_l15Repeats_l0 (l : List Int) (hl : l.length ≤ 64) : ∀ (d i : Nat) (m r : Int), l.length - i = d → 1 ≤ i → 0 ≤ r → r ≤ i → Ev (fun k => spec_l15Repeats.l0 k l m r i) (repM l d i m r) := by
  intro d
  induction d with
  | zero =>
    intro i m r hd hi h0 h1; refine Ev.succ ?_; simp only [spec_l15Repeats.l0]; refine Ev.ite_neg (by omega) ?_; exact Ev.now _
  | succ d ih =>
    intro i m r hd hi h0 h1; refine Ev.succ ?_; simp only [spec_l15Repeats.l0]; refine Ev.ite_pos (by omega) ?_; refine Ev.ite_pos (by omega) ?_; rw [w64 (x := (i : Int) - 1) (by omega) (by omega), w64 (x := (i : Int) + 1) (by omega) (by omega), w64 (x := r + 1) (by omega) (by omega)]; refine Ev.ite_pos (by omega) ?_; refine Ev.ite_pos (by omega) ?_
    by_cases he : rd l i = rd l ((i : Int) - 1)
    · refine Ev.ite_pos he ?_; refine Ev.bindc (spec_l00Max_eq _ _) ?_; have := ih (i + 1) (max m (r + 1)) (r + 1) (by omega) (by omega) (by omega) (by omega)
      simpa [repM, he] using this
    · refine Ev.ite_neg he ?_; refine Ev.bindc (spec_l00Max_eq _ _) ?_; have := ih (i + 1) (max m 0) 0 (by omega) (by omega) (by omega) (by omega)
      simpa [repM, he] using this
theorem impl_mostRepeats_l0 (l : List Int) (hl : l.length ≤ 64) : ∀ (d i : Nat) (m r : Int), l.length - i = d → 1 ≤ i → 0 ≤ r → r ≤ i → Ev (fun k => impl_mostRepeats.l0 k l m r i) (repM l d i m r) := by
  intro d
  induction d with
  | zero =>
    intro i m r hd hi h0 h1; refine Ev.succ ?_; simp only [impl_mostRepeats.l0]; refine Ev.ite_neg (by omega) ?_; exact Ev.now _
  | succ d ih =>
    intro i m r hd hi h0 h1; refine Ev.succ ?_; simp only [impl_mostRepeats.l0]; refine Ev.ite_pos (by omega) ?_; refine Ev.ite_pos (by omega) ?_; rw [w64 (x := (i : Int) - 1) (by omega) (by omega), w64 (x := (i : Int) + 1) (by omega) (by omega), w64 (x := r + 1) (by omega) (by omega)]; refine Ev.ite_pos (by omega) ?_; refine Ev.ite_pos (by omega) ?_
    by_cases he : rd l i = rd l ((i : Int) - 1)
    · refine Ev.ite_pos he ?_; have := ih (i + 1) (max m (r + 1)) (r + 1) (by omega) (by omega) (by omega) (by omega)
      simpa [repM, he, mx_eq] using this
    · refine Ev.ite_neg he ?_; have := ih (i + 1) (max m 0) 0 (by omega) (by omega) (by omega) (by omega)
      simpa [repM, he, mx_eq] using this
theorem spec_l15Repeats_ev (l : List Int) (hl : l.length ≤ 64) : Ev (fun k => spec_l15Repeats.f k l) (repM l (l.length - 1) 1 0 0) := by
  unfold spec_l15Repeats.f
  simpa using spec_l15Repeats_l0 l hl (l.length - 1) 1 0 0 rfl (Nat.le_refl _) (by omega) (by omega)
theorem impl_mostRepeats_ev (l : List Int) (hl : l.length ≤ 64) : Ev (fun k => impl_mostRepeats.f k l) (repM l (l.length - 1) 1 0 0) := by
  unfold impl_mostRepeats.f
  simpa using impl_mostRepeats_l0 l hl (l.length - 1) 1 0 0 rfl (Nat.le_refl _) (by omega) (by omega)
def seqM (u d : List Int) (f : List (List Int)) (l : List Int) : Nat → Nat → Bool
  | 0, _ => true
  | m + 1, i => decide (reasonR u d f (rd l ((i : Int) - 1)) (rd l i) = 0) && seqM u d f l m (i + 1)
def okM (u d : List Int) (f : List (List Int)) (l : List Int) : Bool := toneB u d (tn (rd l 0)) && seqM u d f l (l.length - 1) 1
theorem inP_iff {x : Int} (h : inP x = true) : -12 ≤ x ∧ x ≤ 23 := by
  simp only [inP, Bool.and_eq_true, decide_eq_true_eq] at h; exact h
theorem rd_inW {l : List Int} (h : ∀ x ∈ l, inP x = true) (i : Nat) (hi : i < l.length) : -1000 ≤ rd l i ∧ rd l i ≤ 1000 := by
  rw [rd_at hi]; have := inP_iff (h _ (List.getElem_mem hi))
  omega
theorem firstWrong_l0 (s : ByteArray) (u d : List Int) (a b : Int) (f : List (List Int)) (l : List Int) (hl : l.length ≤ 1000) (hin : ∀ x ∈ l, inP x = true) (hu : u.length ≤ 1048576) (hd : d.length ≤ 1048576) (hf : f.length ≤ 8) (hp : ∀ j, j < f.length → (rd_L1 f j).length = 2) :
    ∀ (m i : Nat), l.length - i = m → 1 ≤ i → ∃ x r : Int, (r = 0 ↔ seqM u d f l m i = true) ∧ Ev (fun k => impl_Raga_firstWrong.l0 k l l (l.length : Int) i s u d a b f) (x, r) := by
  intro m
  induction m with
  | zero =>
    intro i hm h1; refine ⟨0, 0, by simp [seqM], Ev.succ ?_⟩; simp only [impl_Raga_firstWrong.l0]; exact Ev.ite_neg (by omega) (Ev.now _)
  | succ m ih =>
    intro i hm h1
    have hi : i < l.length := by omega
    have e1 : (i : Int) - 1 = ((i - 1 : Nat) : Int) := by omega
    have hr := impl_reason_ev s u d a b f (rd l ((i : Int) - 1)) (rd l i) (by rw [e1]; exact rd_inW hin (i - 1) (by omega)) (rd_inW hin i hi) hu hd hf hp
    have step : ∀ x r, Ev (fun k => impl_Raga_firstWrong.j1 k l (i : Int) (rd l i) l (l.length : Int) i false s u d a b f) (x, r) → Ev (fun k => impl_Raga_firstWrong.l0 k l l (l.length : Int) i s u d a b f) (x, r) := fun x r h => Ev.succ (by
      simp only [impl_Raga_firstWrong.l0]
      exact Ev.ite_pos (by omega) (Ev.ite_pos (by omega) (Ev.ite_pos (by omega) (Ev.ite_neg (by omega) h))))
    by_cases c : reasonR u d f (rd l ((i : Int) - 1)) (rd l i) = 0
    · obtain ⟨x, r, h2, h3⟩ := ih (i + 1) (by omega) (by omega); refine ⟨x, r, by simp [seqM, c, h2], step _ _ (Ev.succ ?_)⟩; simp only [impl_Raga_firstWrong.j1]; rw [w64 (x := (i : Int) - 1) (by omega) (by omega), w64 (x := (i : Int) + 1) (by omega) (by omega)]; exact Ev.ite_neg (by decide) (Ev.ite_pos (by omega) (Ev.ite_pos (by omega) (Ev.ite_pos (by omega) (Ev.bind hr (Ev.ite_pos c (by simpa using h3))))))
    · refine ⟨(i : Int), reasonR u d f (rd l ((i : Int) - 1)) (rd l i), by simp [seqM, c], step _ _ (Ev.succ ?_)⟩; simp only [impl_Raga_firstWrong.j1]; rw [w64 (x := (i : Int) - 1) (by omega) (by omega)]; exact Ev.ite_neg (by decide) (Ev.ite_pos (by omega) (Ev.ite_pos (by omega) (Ev.ite_pos (by omega) (Ev.bind hr (Ev.ite_neg c (Ev.bind hr (Ev.now _)))))))
theorem firstWrong_ev (s : ByteArray) (u d : List Int) (a b : Int) (f : List (List Int)) (l : List Int) (h1 : 1 ≤ l.length) (hl : l.length ≤ 1000) (hin : ∀ x ∈ l, inP x = true) (hu : u.length ≤ 1048576) (hd : d.length ≤ 1048576) (hf : f.length ≤ 8) (hp : ∀ j, j < f.length → (rd_L1 f j).length = 2) :
    ∃ x r : Int, (r = 0 ↔ okM u d f l = true) ∧ Ev (fun k => impl_Raga_firstWrong.f k s u d a b f l) (x, r) := by
  have ht := impl_hasTone_ev s u d a b f (tn (rd l 0)) hu hd
  have step : ∀ x r, Ev (fun k => impl_Raga_firstWrong.j1 k l 0 (rd l 0) l (l.length : Int) 0 (!toneB u d (tn (rd l 0))) s u d a b f) (x, r) → Ev (fun k => impl_Raga_firstWrong.f k s u d a b f l) (x, r) := fun x r h => by
    unfold impl_Raga_firstWrong.f; refine Ev.succ ?_; simp only [impl_Raga_firstWrong.l0]; exact Ev.ite_pos (by omega) (Ev.ite_pos (by omega) (Ev.ite_pos (by omega) (Ev.ite_pos trivial (Ev.bindc (show impl_ToneOf.f (rd l 0) = some (tn (rd l 0)) from rfl) (Ev.bind ht h)))))
  cases c : toneB u d (tn (rd l 0)) with
  | false =>
    refine ⟨0, 1, by simp [okM, c], step _ _ (Ev.succ ?_)⟩; simp only [impl_Raga_firstWrong.j1]; rw [c]; exact Ev.ite_pos rfl (Ev.now _)
  | true =>
    obtain ⟨x, r, h2, h3⟩ := firstWrong_l0 s u d a b f l hl hin hu hd hf hp (l.length - 1) 1 rfl (Nat.le_refl _); refine ⟨x, r, by simp [okM, c, h2], step _ _ (Ev.succ ?_)⟩; simp only [impl_Raga_firstWrong.j1]; rw [c, w64 (x := (0 : Int) + 1) (by omega) (by omega)]; exact Ev.ite_neg (by decide) (Ev.ite_neg (by omega) (by simpa using h3))
end Go.Proofs.Ytinlejhffokbaaa.P
end
