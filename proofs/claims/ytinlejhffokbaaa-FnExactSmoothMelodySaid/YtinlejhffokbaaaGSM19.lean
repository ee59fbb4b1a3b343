/- Texts of this seat, merged: LIRaga, LSHasOne, LSScale, LSRaga, LSame, LSlEq, LHas, LReps, LWrong, LSatB, LCloneP, QSpecL13Next, QSpecL13Pick, LPickB, LSteps, LSrchM, LSrchI. -/
import Derived.Test.YtinlejhffokbaaaGSM1
import Derived.Test.YtinlejhffokbaaaGSM2
import Derived.Test.YtinlejhffokbaaaGSM3
import Derived.Test.YtinlejhffokbaaaGSM4
import Derived.Test.YtinlejhffokbaaaGSM5
import Derived.Test.YtinlejhffokbaaaGSM6
import Derived.Test.YtinlejhffokbaaaGSM7
import Derived.Test.YtinlejhffokbaaaGSM11
import Derived.Test.YtinlejhffokbaaaGSM12
import Derived.Test.YtinlejhffokbaaaGSM13
import Derived.Test.YtinlejhffokbaaaGSM14
import Derived.Test.YtinlejhffokbaaaGSM15
import Derived.Test.YtinlejhffokbaaaGSM16
import Derived.Test.YtinlejhffokbaaaGSM18
section
namespace Go.Proofs.Ytinlejhffokbaaa.P
open Go.RowKit Go.Proofs.Ytinlejhffokbaaa.P Go.Proofs.YtinlejhffokbaaaW.PrintWords Go.Proofs.YtinlejhffokbaaaW.PrintLast Go.Proofs.YtinlejhffokbaaaW.PrintMore
set_option linter.unusedVariables false
set_option linter.unusedSimpArgs false
set_option maxHeartbeats 16000000
set_option maxRecDepth 100000
theorem impl_hasTone_ev (s : ByteArray) (u d : List Int) (st wk : Int) (f : List (List Int)) (t : Int) (hu : u.length ≤ 1048576) (hd : d.length ≤ 1048576) : Ev (fun k => impl_Raga_hasTone.f k s u d st wk f t) (toneB u d t) := by
  unfold impl_Raga_hasTone.f toneB; refine Ev.bind (slices_Contains_ev u t hu) ?_
  cases h : hasM u t with
  | true => exact Ev.ite_pos rfl (Ev.now _)
  | false => exact Ev.ite_neg (by decide) (Ev.bind (slices_Contains_ev d t hd) (Ev.now _))
theorem impl_toneOk_eq (n : Int) : impl_toneOk.f n = some (decide (0 ≤ n) && decide (n ≤ 11)) := by
  unfold impl_toneOk.f; rw [impl_within_eq]; rfl
def cmpM (a b : Int) : Int := if a < b then -1 else if a > b then 1 else 0
theorem cmp_Compare_eq (a b : Int) : cmp_Compare_int64.f a b = some (cmpM a b) := by
  unfold cmp_Compare_int64.f cmp_isNaN_int64.f cmpM; simp only [bne_self_eq_false, Option.bind_some]; rw [if_neg (by decide), if_neg (by decide)]
  split
  · rfl
  · split <;> rfl
theorem slices_Compare_ev (p q : List Int) (hp : p.length = 2) (hq : q.length = 2) : ∃ r, (r ≥ 0 ↔ ltP p q = false) ∧ Ev (fun k => slices_Compare_int64_int64.f k p q) r := by
  have st : ∀ (i : Nat) (r : Int), i < 2 → Ev (fun k => slices_Compare_int64_int64.l0 k p q p (p.length : Int) ((i + 1 : Nat) : Int)) r → Ev (fun k => slices_Compare_int64_int64.l0 k p q p (p.length : Int) (i : Int)) (if cmpM (rd p (i : Int)) (rd q (i : Int)) = 0 then r else cmpM (rd p (i : Int)) (rd q (i : Int))) := by
    intro i r hi h; refine Ev.succ ?_; simp only [slices_Compare_int64_int64.l0]; rw [w64 (x := (i : Int) + 1) (by omega) (by omega)]; refine Ev.ite_pos (by omega) (Ev.ite_pos (by omega) (Ev.ite_pos (by omega) (Ev.ite_neg (by omega) (Ev.ite_pos (by omega) (Ev.bindc (cmp_Compare_eq _ _) ?_)))))
    by_cases c : cmpM (rd p (i : Int)) (rd q (i : Int)) = 0
    · exact Ev.ite_pos c (Ev.cast h (if_pos c).symm)
    · exact Ev.ite_neg c (Ev.cast (Ev.now _) (if_neg c).symm)
  have e2 : Ev (fun k => slices_Compare_int64_int64.l0 k p q p (p.length : Int) ((2 : Nat) : Int)) 0 := by
    refine Ev.succ ?_; simp only [slices_Compare_int64_int64.l0]; exact Ev.ite_neg (by omega) (Ev.ite_neg (by omega) (Ev.now _))
  refine ⟨_, ?_, by unfold slices_Compare_int64_int64.f; exact st 0 _ (by omega) (st 1 _ (by omega) e2)⟩; simp only [ltP, cmpM]; have e0 : ((0 : Nat) : Int) = 0 := rfl; have e1 : ((1 : Nat) : Int) = 1 := rfl; rw [e0, e1]
  by_cases c1 : rd p 0 < rd q 0
  · simp [c1]
  · by_cases c2 : rd p 0 > rd q 0
    · have c3 : ¬ rd p 0 = rd q 0 := by omega
      simp [c1, c2, c3]
    · have c3 : rd p 0 = rd q 0 := by omega
      by_cases c4 : rd p 1 < rd q 1
      · simp [c3, c4]
      · by_cases c5 : rd p 1 > rd q 1
        · simp [c3, c4, c5]
        · simp [c3, c4, c5]
theorem impl_ValidRaga_l0 (s : ByteArray) (u e : List Int) (st wk : Int) (f : List (List Int)) (hf : f.length ≤ 1048576) : ∀ (d i : Nat), f.length - i = d → (i ≠ 0 → i ≤ f.length ∧ pairB (rd_L1 f ((i : Int) - 1)) = true) → Ev (fun k => impl_ValidRaga.l0 k f (f.length : Int) i s u e st wk f) (pairsM f d i) := by
  intro d
  induction d with
  | zero =>
    intro i hd hp; refine Ev.succ ?_; simp only [impl_ValidRaga.l0]; exact Ev.ite_neg (by omega) (Ev.now _)
  | succ d ih =>
    intro i hd hp
    have hn : pairB (rd_L1 f i) = true → Ev (fun k => impl_ValidRaga.l0 k f (f.length : Int) ((i : Int) + 1) s u e st wk f) (pairsM f d (i + 1)) := fun h => by
      have := ih (i + 1) (by omega) (fun _ => ⟨by omega, by rw [show ((i + 1 : Nat) : Int) - 1 = (i : Int) by omega]; exact h⟩)
      simpa using this
    refine Ev.succ ?_; simp only [impl_ValidRaga.l0, pairsM]; rw [w64 (x := (i : Int) + 1) (by omega) (by omega)]; refine Ev.ite_pos (by omega) (Ev.ite_pos (by omega) (Ev.ite_pos (by omega) ?_))
    by_cases hl : (rd_L1 f i).length = 2
    · refine Ev.ite_pos (by omega) (Ev.ite_pos (by omega) (Ev.bindc (impl_toneOk_eq _) ?_))
      cases h1 : (decide (0 ≤ rd (rd_L1 f i) 0) && decide (rd (rd_L1 f i) 0 ≤ 11)) with
      | false =>
        have e : pairB (rd_L1 f i) = false := by simp [pairB, h1]
        rw [e]; exact Ev.ite_neg (by decide) (Ev.cast (Ev.now false) (by simp))
      | true =>
        refine Ev.ite_pos rfl (Ev.ite_pos (by omega) (Ev.bindc (impl_toneOk_eq _) ?_))
        cases h2 : (decide (0 ≤ rd (rd_L1 f i) 1) && decide (rd (rd_L1 f i) 1 ≤ 11)) with
        | false =>
          have e : pairB (rd_L1 f i) = false := by simp [pairB, h2]
          rw [e]; exact Ev.ite_neg (by decide) (Ev.cast (Ev.now false) (by simp))
        | true =>
          refine Ev.ite_pos rfl ?_
          by_cases h3 : rd (rd_L1 f i) 0 = rd (rd_L1 f i) 1
          · have e : pairB (rd_L1 f i) = false := by simp [pairB, h3]
            rw [e]; exact Ev.ite_pos h3 (Ev.cast (Ev.now false) (by simp))
          · have e : pairB (rd_L1 f i) = true := by simp [pairB, hl, h1, h2, h3]
            refine Ev.ite_neg h3 ?_; rw [e]
            by_cases h0 : i = 0
            · refine Ev.ite_neg (by omega) (Ev.cast (hn e) ?_)
              simp [h0]
            · obtain ⟨g1, g2⟩ := hp h0; have hl2 := pairB_len g2; obtain ⟨r, r1, r2⟩ := slices_Compare_ev (rd_L1 f ((i : Int) - 1)) (rd_L1 f i) hl2 hl; refine Ev.ite_pos (by omega) ?_; rw [w64 (x := (i : Int) - 1) (by omega) (by omega)]; refine Ev.ite_pos (by omega) (Ev.ite_pos (by omega) (Ev.bind r2 ?_))
              by_cases c : r ≥ 0
              · refine Ev.ite_pos c (Ev.cast (Ev.now false) ?_)
                simp [h0, r1.1 c]
              · refine Ev.ite_neg c (Ev.cast (hn e) ?_)
                have : ltP (rd_L1 f ((i : Int) - 1)) (rd_L1 f i) = true := by
                  cases q : ltP (rd_L1 f ((i : Int) - 1)) (rd_L1 f i) with
                  | true => rfl
                  | false => exact absurd (r1.2 q) c
                simp [this]
    · have e : pairB (rd_L1 f i) = false := by simp [pairB, hl]
      rw [e]; exact Ev.ite_neg (by omega) (Ev.cast (Ev.now false) (by simp))
theorem impl_ValidRaga_ev (s : ByteArray) (u d : List Int) (st wk : Int) (f : List (List Int)) (hs : s.size ≤ 1048576) (hu : u.length ≤ 1048576) (hd : d.length ≤ 1048576) (hf : f.length ≤ 1048576) : Ev (fun k => impl_ValidRaga.f k s u d st wk f) (ragaB s u d st wk f) := by
  have jt : Ev (fun k => impl_ValidRaga.j0 k true s u d st wk f) false := by
    refine Ev.succ ?_; simp only [impl_ValidRaga.j0]; exact Ev.ite_pos (by decide) (Ev.now _)
  unfold impl_ValidRaga.f ragaB; refine Ev.bind (impl_IsName_ev s) ?_
  cases h1 : nameB s with
  | false => exact Ev.ite_neg (by decide) jt
  | true =>
    refine Ev.ite_pos rfl (Ev.bind (impl_ValidScale_ev u (by omega)) ?_)
    cases h2 : scaleB u with
    | false => exact Ev.ite_neg (by decide) jt
    | true =>
      refine Ev.ite_pos rfl (Ev.bind (impl_ValidScale_ev d (by omega)) ?_)
      cases h3 : scaleB d with
      | false => exact Ev.ite_neg (by decide) jt
      | true =>
        refine Ev.ite_pos rfl ?_
        by_cases h6 : st = wk
        · refine Ev.ite_pos h6 (Ev.cast jt ?_)
          simp [h6]
        · refine Ev.ite_neg h6 (Ev.bind (impl_hasTone_ev s u d st wk f st hu hd) ?_)
          cases h4 : toneB u d st with
          | false => exact Ev.ite_neg (by decide) jt
          | true =>
            refine Ev.ite_pos rfl (Ev.bind (impl_hasTone_ev s u d st wk f wk hu hd) ?_)
            cases h5 : toneB u d wk with
            | false => exact Ev.ite_neg (by decide) jt
            | true =>
              refine Ev.ite_pos rfl ?_
              by_cases h8 : (f.length : Int) > 8
              · have e : decide ((f.length : Int) > 8) = true := by simpa using h8
                rw [e]; refine Ev.cast jt ?_
                have : ¬ f.length ≤ 8 := by omega
                simp [this]
              · have e : decide ((f.length : Int) > 8) = false := by simpa using h8
                rw [e]; refine Ev.succ ?_; simp only [impl_ValidRaga.j0]; refine Ev.ite_neg (by decide) (Ev.cast (by simpa using impl_ValidRaga_l0 s u d st wk f hf f.length 0 (by omega) (by simp)) ?_)
                have : f.length ≤ 8 := by omega
                simp [this, h6]
theorem impl_reason_1_eq (p : List Int) (a b : Int) (h : p.length = 2) : impl_Raga_reason_1.f p a b = some (pairQ a b p) := by
  unfold impl_Raga_reason_1.f pairQ; rw [if_pos (by omega)]
  by_cases c : rd p 0 = a
  · rw [if_pos c, if_pos (by omega)]
    simp [c]
    rfl
  · rw [if_neg c]
    simp [c]
theorem impl_reason_any_eq (f : List (List Int)) (a b : Int) (hp : ∀ j, j < f.length → (rd_L1 f j).length = 2) : impl_reason_any.f f a b = some (f.any (pairQ a b)) := by
  have hm : ∀ p ∈ f, impl_Raga_reason_1.f p a b = some (pairQ a b p) := by
    intro p hp'; obtain ⟨j, hj, rfl⟩ := List.getElem_of_mem hp'; refine impl_reason_1_eq _ a b ?_; have := hp j hj
    rwa [rdL_at hj] at this
  unfold impl_reason_any.f
  rw [if_pos (by
    rw [List.all_eq_true]; intro p hp'; rw [hm p hp']
    rfl)]
  congr 1
  rw [Bool.eq_iff_iff, List.any_eq_true, List.any_eq_true]
  constructor
  · rintro ⟨p, hp', h⟩; refine ⟨p, hp', ?_⟩; rw [hm p hp'] at h
    simpa using h
  · rintro ⟨p, hp', h⟩; refine ⟨p, hp', ?_⟩; rw [hm p hp', h]; rfl
theorem impl_reason_ev (s : ByteArray) (u d : List Int) (st wk : Int) (f : List (List Int)) (a b : Int) (ha : -1000 ≤ a ∧ a ≤ 1000) (hb : -1000 ≤ b ∧ b ≤ 1000) (hu : u.length ≤ 1048576) (hd : d.length ≤ 1048576) (hf : f.length ≤ 8) (hp : ∀ j, j < f.length → (rd_L1 f j).length = 2) :
    Ev (fun k => impl_Raga_reason.f k s u d st wk f a b) (reasonR u d f a b) := by
  have hj : ∀ t : Bool, (toneB u d (tn a) && toneB u d (tn b)) = !t → Ev (fun k => impl_Raga_reason.j0 k a b t s u d st wk f (tn a) (tn b)) (reasonR u d f a b) := by
    intro t ht; refine Ev.succ ?_; simp only [impl_Raga_reason.j0]; unfold reasonR; rw [ht]
    cases t with
    | true => exact Ev.ite_pos rfl (Ev.now _)
    | false =>
      rw [w64 (x := a - b) (by omega) (by omega)]; refine Ev.ite_neg (by decide) (Ev.bindc (impl_abs_eq _ (by omega) (by omega)) ?_); rw [if_pos (show (!false) = true from rfl), show max (a - b) (-(a - b)) = max (a - b) (b - a) by omega]
      by_cases c1 : max (a - b) (b - a) > 12
      · exact Ev.ite_pos c1 (Ev.cast (Ev.now _) (if_pos c1).symm)
      · refine Ev.ite_neg c1 (Ev.cast ?_ (if_neg c1).symm)
        have h2 : ∀ t2 : Bool, (t2 = true ↔ (b < a ∧ hasM d (tn b) = false)) → Ev (fun k => impl_Raga_reason.j2 k t2 s u d st wk f (tn a) (tn b)) (if b < a ∧ hasM d (tn b) = false then 4 else if f.any (pairQ (tn a) (tn b)) = true then 5 else 0) := by
          intro t2 e2; refine Ev.succ ?_; simp only [impl_Raga_reason.j2]
          by_cases c : t2 = true
          · exact Ev.ite_pos c (Ev.cast (Ev.now _) (if_pos (e2.1 c)).symm)
          · refine Ev.ite_neg c (Ev.cast ?_ (if_neg (fun z => c (e2.2 z))).symm); refine Ev.bindc (impl_reason_any_eq f _ _ hp) ?_
            by_cases c5 : f.any (pairQ (tn a) (tn b)) = true
            · exact Ev.ite_pos c5 (Ev.cast (Ev.now _) (if_pos c5).symm)
            · exact Ev.ite_neg c5 (Ev.cast (Ev.now _) (if_neg c5).symm)
        have h1 : ∀ t1 : Bool, (t1 = true ↔ (b > a ∧ hasM u (tn b) = false)) → Ev (fun k => impl_Raga_reason.j1 k a b t1 s u d st wk f (tn a) (tn b)) (if b > a ∧ hasM u (tn b) = false then 3 else if b < a ∧ hasM d (tn b) = false then 4 else if f.any (pairQ (tn a) (tn b)) = true then 5 else 0) := by
          intro t1 e1; refine Ev.succ ?_; simp only [impl_Raga_reason.j1]
          by_cases c : t1 = true
          · exact Ev.ite_pos c (Ev.cast (Ev.now _) (if_pos (e1.1 c)).symm)
          · refine Ev.ite_neg c (Ev.cast ?_ (if_neg (fun z => c (e1.2 z))).symm)
            by_cases cb : b < a
            · refine Ev.ite_pos cb (Ev.bind (slices_Contains_ev d _ hd) (h2 _ ?_))
              cases hasM d (tn b) <;> simp [cb]
            · refine Ev.ite_neg cb (h2 _ ?_)
              simp [cb]
        by_cases cb : b > a
        · refine Ev.ite_pos cb (Ev.bind (slices_Contains_ev u _ hu) (h1 _ ?_))
          cases hasM u (tn b) <;> simp [cb]
        · refine Ev.ite_neg cb (h1 _ ?_)
          simp [cb]
  unfold impl_Raga_reason.f; refine Ev.bindc (show impl_ToneOf.f a = some (tn a) from rfl) (Ev.bindc (show impl_ToneOf.f b = some (tn b) from rfl) (Ev.bind (impl_hasTone_ev s u d st wk f _ hu hd) ?_))
  cases h1 : toneB u d (tn a) with
  | true =>
    refine Ev.ite_pos rfl (Ev.bind (impl_hasTone_ev s u d st wk f _ hu hd) (hj _ ?_))
    simp [h1]
  | false =>
    refine Ev.ite_neg (by decide) (hj _ ?_)
    simp [h1]
theorem spec_l00Has_l0 (s : List Int) (t : Int) (hl : s.length ≤ 1048576) : ∀ (d i : Nat), s.length - i = d → Ev (fun k => spec_l00Has.l0 k s t i) (hasM (s.drop i) t) := by
  intro d
  induction d with
  | zero =>
    intro i hd; refine Ev.succ ?_; simp only [spec_l00Has.l0]; refine Ev.ite_neg (by omega) ?_; rw [List.drop_of_length_le (by omega)]; exact Ev.now _
  | succ d ih =>
    intro i hd
    have hi : i < s.length := by omega
    refine Ev.succ ?_; simp only [spec_l00Has.l0]; rw [w64 (x := (i : Int) + 1) (by omega) (by omega), List.drop_eq_getElem_cons hi, ← rd_at hi]; refine Ev.ite_pos (by omega) (Ev.ite_pos (by omega) ?_)
    by_cases h : rd s i = t
    · refine Ev.ite_pos h (Ev.cast (Ev.now _) ?_)
      simp [hasM, h]
    · refine Ev.ite_neg h (Ev.cast (by simpa using ih (i + 1) (by omega)) ?_)
      simp [hasM, h]
theorem spec_l00Has_ev (s : List Int) (t : Int) (hl : s.length ≤ 1048576) : Ev (fun k => spec_l00Has.f k s t) (hasM s t) := by
  unfold spec_l00Has.f
  simpa using spec_l00Has_l0 s t hl s.length 0 (by omega)
theorem spec_l03Scale_ev (l : List Int) (hl : l.length ≤ 9223372036854775807) : Ev (fun k => spec_l03Scale.f k l) (scaleB l) := by
  unfold spec_l03Scale.f scaleB
  by_cases h : 5 ≤ l.length
  · refine Ev.ite_pos (by omega) ?_; refine Ev.bind (a := rgB l 0 11 0 l.length) ?_ ?_
    · unfold spec_l00Rises.f
      simpa using spec_l00Rises_l0 l 0 11 hl l.length 0 (by omega) (by omega)
    · cases g : rgB l 0 11 0 l.length with
      | true =>
        refine Ev.ite_pos rfl (Ev.ite_pos (by omega) ?_)
        simpa [h] using Ev.now _
      | false =>
        refine Ev.ite_neg (by decide) ?_
        simpa using Ev.now false
  · refine Ev.ite_neg (by omega) ?_
    simpa [h] using Ev.now false
theorem spec_l05Tone_ev (s : ByteArray) (u d : List Int) (st wk : Int) (f : List (List Int)) (t : Int) (hu : u.length ≤ 1048576) (hd : d.length ≤ 1048576) : Ev (fun k => spec_l05Tone.f k s u d st wk f t) (toneB u d t) := by
  unfold spec_l05Tone.f toneB; refine Ev.bind (spec_l00Has_ev u t hu) ?_
  cases h : hasM u t with
  | true => exact Ev.ite_pos rfl (Ev.now _)
  | false => exact Ev.ite_neg (by decide) (Ev.bind (spec_l00Has_ev d t hd) (Ev.now _))
theorem spec_l05Pair_eq (p : List Int) : spec_l05Pair.f p = some (pairB p) := by
  unfold spec_l05Pair.f pairB
  by_cases h : p.length = 2
  · rw [if_pos (by omega), if_pos (by omega), spec_l00In_eq, spec_l00In_eq]; simp only [Option.bind_some]
    cases h1 : (decide (0 ≤ rd p 0) && decide (rd p 0 ≤ 11)) with
    | false => simp [h]
    | true =>
      rw [if_pos rfl, if_pos (by omega)]
      cases h2 : (decide (0 ≤ rd p 1) && decide (rd p 1 ≤ 11)) with
      | false => simp [h]
      | true =>
        rw [if_pos rfl]
        by_cases h3 : rd p 0 = rd p 1 <;> simp [h, h3]
  · rw [if_neg (by omega)]
    simp [h]
theorem spec_l05Pairs_l0 (f : List (List Int)) (hf : f.length ≤ 1048576) : ∀ (d i : Nat), f.length - i = d → (i ≠ 0 → i ≤ f.length ∧ pairB (rd_L1 f ((i : Int) - 1)) = true) → Ev (fun k => spec_l05Pairs.l0 k f i) (pairsM f d i && decide (f.length ≤ 8)) := by
  intro d
  induction d with
  | zero =>
    intro i hd hp; refine Ev.succ ?_; simp only [spec_l05Pairs.l0]; refine Ev.ite_neg (by omega) (Ev.cast (Ev.now _) ?_)
    simp [pairsM]
    omega
  | succ d ih =>
    intro i hd hp
    have hn : pairB (rd_L1 f i) = true → Ev (fun k => spec_l05Pairs.l0 k f ((i : Int) + 1)) (pairsM f d (i + 1) && decide (f.length ≤ 8)) := fun h => by
      have := ih (i + 1) (by omega) (fun _ => ⟨by omega, by rw [show ((i + 1 : Nat) : Int) - 1 = (i : Int) by omega]; exact h⟩)
      simpa using this
    refine Ev.succ ?_; simp only [spec_l05Pairs.l0, pairsM]; rw [w64 (x := (i : Int) + 1) (by omega) (by omega)]; refine Ev.ite_pos (by omega) (Ev.ite_pos (by omega) (Ev.bindc (spec_l05Pair_eq _) ?_))
    cases h : pairB (rd_L1 f i) with
    | false =>
      refine Ev.ite_neg (by decide) (Ev.cast (Ev.now false) ?_)
      simp
    | true =>
      have hl := pairB_len h; refine Ev.ite_pos rfl ?_
      by_cases h0 : i = 0
      · refine Ev.ite_neg (by omega) (Ev.cast (hn h) ?_)
        simp [h0]
      · obtain ⟨h1, h2⟩ := hp h0; have hl2 := pairB_len h2; refine Ev.ite_pos (by omega) ?_; rw [w64 (x := (i : Int) - 1) (by omega) (by omega)]; refine Ev.ite_pos (by omega) (Ev.ite_pos (by omega) (Ev.ite_pos (by omega) (Ev.ite_pos (by omega) ?_)))
        by_cases c1 : rd (rd_L1 f ((i : Int) - 1)) 0 > rd (rd_L1 f i) 0
        · refine Ev.ite_pos c1 (Ev.cast (Ev.now false) ?_)
          have e1 : ¬ rd (rd_L1 f ((i : Int) - 1)) 0 < rd (rd_L1 f i) 0 := by omega
          have e2 : ¬ rd (rd_L1 f ((i : Int) - 1)) 0 = rd (rd_L1 f i) 0 := by omega
          simp [h0, ltP, e1, e2]
        · refine Ev.ite_neg c1 ?_
          by_cases c2 : rd (rd_L1 f ((i : Int) - 1)) 0 = rd (rd_L1 f i) 0
          · refine Ev.ite_pos c2 (Ev.ite_pos (by omega) (Ev.ite_pos (by omega) ?_))
            by_cases c3 : rd (rd_L1 f ((i : Int) - 1)) 1 ≥ rd (rd_L1 f i) 1
            · refine Ev.ite_pos c3 (Ev.cast (Ev.now false) ?_)
              have e1 : ¬ rd (rd_L1 f ((i : Int) - 1)) 1 < rd (rd_L1 f i) 1 := by omega
              simp [h0, ltP, c2, e1]
            · refine Ev.ite_neg c3 (Ev.cast (hn h) ?_)
              have e1 : rd (rd_L1 f ((i : Int) - 1)) 1 < rd (rd_L1 f i) 1 := by omega
              simp [h0, ltP, c2, e1]
          · refine Ev.ite_neg c2 (Ev.cast (hn h) ?_)
            have e1 : rd (rd_L1 f ((i : Int) - 1)) 0 < rd (rd_L1 f i) 0 := by omega
            simp [h0, ltP, e1]
theorem spec_l05Ok_ev (s : ByteArray) (u d : List Int) (st wk : Int) (f : List (List Int)) (hs : s.size ≤ 1048576) (hu : u.length ≤ 1048576) (hd : d.length ≤ 1048576) (hf : f.length ≤ 1048576) : Ev (fun k => spec_l05Ok.f k s u d st wk f) (ragaB s u d st wk f) := by
  unfold spec_l05Ok.f ragaB; refine Ev.bind (spec_l01Name_ev s) ?_
  cases h1 : nameB s with
  | false => exact Ev.ite_neg (by decide) (Ev.now _)
  | true =>
    refine Ev.ite_pos rfl (Ev.bind (spec_l03Scale_ev u (by omega)) ?_)
    cases h2 : scaleB u with
    | false => exact Ev.ite_neg (by decide) (Ev.now _)
    | true =>
      refine Ev.ite_pos rfl (Ev.bind (spec_l03Scale_ev d (by omega)) ?_)
      cases h3 : scaleB d with
      | false => exact Ev.ite_neg (by decide) (Ev.now _)
      | true =>
        refine Ev.ite_pos rfl (Ev.bind (spec_l05Tone_ev s u d st wk f st hu hd) ?_)
        cases h4 : toneB u d st with
        | false => exact Ev.ite_neg (by decide) (Ev.now _)
        | true =>
          refine Ev.ite_pos rfl (Ev.bind (spec_l05Tone_ev s u d st wk f wk hu hd) ?_)
          cases h5 : toneB u d wk with
          | false => exact Ev.ite_neg (by decide) (Ev.now _)
          | true =>
            refine Ev.ite_pos rfl ?_
            by_cases h6 : st = wk
            · refine Ev.ite_pos h6 (Ev.cast (Ev.now false) ?_)
              simp [h6]
            · refine Ev.ite_neg h6 ?_; refine Ev.bind (a := pairsM f f.length 0 && decide (f.length ≤ 8)) ?_ (Ev.cast (Ev.now _) (by simp [h6])); unfold spec_l05Pairs.f
              simpa using spec_l05Pairs_l0 f hf f.length 0 (by omega) (by simp)
theorem spec_l05Reason_l0 (s : ByteArray) (u d : List Int) (st wk : Int) (f : List (List Int)) (a b : Int) (hf : f.length ≤ 8) (hp : ∀ j, j < f.length → (rd_L1 f j).length = 2) : ∀ (m i : Nat), f.length - i = m → Ev (fun k => spec_l05Reason.l0 k a b i s u d st wk f) (if (f.drop i).any (pairQ a b) = true then 5 else 0) := by
  intro m
  induction m with
  | zero =>
    intro i hm; refine Ev.succ ?_; simp only [spec_l05Reason.l0]; refine Ev.ite_neg (by omega) (Ev.cast (Ev.now _) ?_); rw [List.drop_of_length_le (by omega)]; rfl
  | succ m ih =>
    intro i hm; have hl := hp i (by omega); have hn : Ev (fun k => spec_l05Reason.l0 k a b ((i : Int) + 1) s u d st wk f) (if (f.drop (i + 1)).any (pairQ a b) = true then 5 else 0) := ih (i + 1) (by omega); refine Ev.succ ?_; simp only [spec_l05Reason.l0]; rw [w64 (x := (i : Int) + 1) (by omega) (by omega), List.drop_eq_getElem_cons (show i < f.length by omega), ← rdL_at (show i < f.length by omega), List.any_cons]; refine Ev.ite_pos (by omega) (Ev.ite_pos (by omega) (Ev.ite_pos (by omega) ?_))
    by_cases c1 : rd (rd_L1 f i) 0 = a
    · refine Ev.ite_pos c1 (Ev.ite_pos (by omega) ?_)
      by_cases c2 : rd (rd_L1 f i) 1 = b
      · have e : pairQ a b (rd_L1 f i) = true := by simp [pairQ, c1, c2]
        refine Ev.ite_pos c2 (Ev.cast (Ev.now _) ?_); rw [e, Bool.true_or, if_pos rfl]
      · have e : pairQ a b (rd_L1 f i) = false := by simp [pairQ, c2]
        rw [e, Bool.false_or]; exact Ev.ite_neg c2 hn
    · have e : pairQ a b (rd_L1 f i) = false := by simp [pairQ, c1]
      rw [e, Bool.false_or]; exact Ev.ite_neg c1 hn
theorem spec_l05Reason_ev (s : ByteArray) (u d : List Int) (st wk : Int) (f : List (List Int)) (a b : Int) (ha : -1000 ≤ a ∧ a ≤ 1000) (hb : -1000 ≤ b ∧ b ≤ 1000) (hu : u.length ≤ 1048576) (hd : d.length ≤ 1048576) (hf : f.length ≤ 8) (hp : ∀ j, j < f.length → (rd_L1 f j).length = 2) :
    Ev (fun k => spec_l05Reason.f k s u d st wk f a b) (reasonR u d f a b) := by
  have hj : ∀ t : Bool, (toneB u d (tn a) && toneB u d (tn b)) = !t → Ev (fun k => spec_l05Reason.j0 k a b (tn a) (tn b) t s u d st wk f) (reasonR u d f a b) := by
    intro t ht; refine Ev.succ ?_; simp only [spec_l05Reason.j0]; unfold reasonR; rw [ht]
    cases t with
    | true => exact Ev.ite_pos rfl (Ev.now _)
    | false =>
      rw [w64 (x := a - b) (by omega) (by omega), w64 (x := b - a) (by omega) (by omega)]; refine Ev.ite_neg (by decide) (Ev.bindc (spec_l00Max_eq _ _) ?_); rw [if_pos (show (!false) = true from rfl)]
      by_cases c1 : max (a - b) (b - a) > 12
      · exact Ev.ite_pos c1 (Ev.cast (Ev.now _) (if_pos c1).symm)
      · refine Ev.ite_neg c1 (Ev.cast ?_ (if_neg c1).symm)
        have h2 : ∀ t2 : Bool, (t2 = true ↔ (b < a ∧ hasM d (tn b) = false)) → Ev (fun k => spec_l05Reason.j2 k (tn a) (tn b) t2 s u d st wk f) (if b < a ∧ hasM d (tn b) = false then 4 else if f.any (pairQ (tn a) (tn b)) = true then 5 else 0) := by
          intro t2 e2; refine Ev.succ ?_; simp only [spec_l05Reason.j2]
          by_cases c : t2 = true
          · exact Ev.ite_pos c (Ev.cast (Ev.now _) (if_pos (e2.1 c)).symm)
          · refine Ev.ite_neg c (Ev.cast ?_ (if_neg (fun z => c (e2.2 z))).symm)
            simpa using spec_l05Reason_l0 s u d st wk f (tn a) (tn b) hf hp f.length 0 (by omega)
        have h1 : ∀ t1 : Bool, (t1 = true ↔ (b > a ∧ hasM u (tn b) = false)) → Ev (fun k => spec_l05Reason.j1 k a b (tn a) (tn b) t1 s u d st wk f) (if b > a ∧ hasM u (tn b) = false then 3 else if b < a ∧ hasM d (tn b) = false then 4 else if f.any (pairQ (tn a) (tn b)) = true then 5 else 0) := by
          intro t1 e1; refine Ev.succ ?_; simp only [spec_l05Reason.j1]
          by_cases c : t1 = true
          · exact Ev.ite_pos c (Ev.cast (Ev.now _) (if_pos (e1.1 c)).symm)
          · refine Ev.ite_neg c (Ev.cast ?_ (if_neg (fun z => c (e1.2 z))).symm)
            by_cases cb : b < a
            · refine Ev.ite_pos cb (Ev.bind (spec_l00Has_ev d _ hd) (h2 _ ?_))
              cases hasM d (tn b) <;> simp [cb]
            · refine Ev.ite_neg cb (h2 _ ?_)
              simp [cb]
        by_cases cb : b > a
        · refine Ev.ite_pos cb (Ev.bind (spec_l00Has_ev u _ hu) (h1 _ ?_))
          cases hasM u (tn b) <;> simp [cb]
        · refine Ev.ite_neg cb (h1 _ ?_)
          simp [cb]
  unfold spec_l05Reason.f; refine Ev.bindc (show spec_l03Tone.f a = some (tn a) from rfl) (Ev.bindc (show spec_l03Tone.f b = some (tn b) from rfl) (Ev.bind (spec_l05Tone_ev s u d st wk f _ hu hd) ?_))
  cases h1 : toneB u d (tn a) with
  | true =>
    refine Ev.ite_pos rfl (Ev.bind (spec_l05Tone_ev s u d st wk f _ hu hd) (hj _ ?_))
    simp [h1]
  | false =>
    refine Ev.ite_neg (by decide) (hj _ ?_)
    simp [h1]
theorem spec_l00Same_l0 (a b : List Int) (hl : a.length ≤ 9223372036854775807) (hab : a.length = b.length) : ∀ (d i : Nat), a.length - i = d → i ≤ a.length → a.take i = b.take i → Ev (fun k => spec_l00Same.l0 k a b i) (decide (a = b)) := by
  intro d
  induction d with
  | zero =>
    intro i hd hi ht; refine Ev.succ ?_; simp only [spec_l00Same.l0]; refine Ev.ite_neg (by omega) ?_; rw [List.take_of_length_le (by omega), List.take_of_length_le (by omega)] at ht
    simpa [ht] using Ev.now true
  | succ d ih =>
    intro i hd hi ht; refine Ev.succ ?_; simp only [spec_l00Same.l0]; refine Ev.ite_pos (by omega) ?_; refine Ev.ite_pos (by omega) ?_; refine Ev.ite_pos (by omega) ?_
    by_cases he : rd a i = rd b i
    · refine Ev.ite_pos he ?_; rw [w64 (x := (i : Int) + 1) (by omega) (by omega)]; rw [rd_at (show i < a.length by omega), rd_at (show i < b.length by omega)] at he
      have := ih (i + 1) (by omega) (by omega) (by
        rw [List.take_succ_eq_append_getElem (by omega), List.take_succ_eq_append_getElem (by omega), ht, he])
      simpa using this
    · refine Ev.ite_neg he ?_
      have : ¬ a = b := fun e => he (by rw [e])
      simpa [this] using Ev.now false
theorem spec_l00Same_ev (a b : List Int) (hl : a.length ≤ 9223372036854775807) : Ev (fun k => spec_l00Same.f k a b) (decide (a = b)) := by
  unfold spec_l00Same.f
  by_cases h : a.length = b.length
  · refine Ev.ite_pos (by omega) ?_; exact spec_l00Same_l0 a b hl h a.length 0 (by omega) (by omega) (by simp)
  · refine Ev.ite_neg (by omega) ?_
    have : ¬ a = b := fun e => h (by rw [e])
    simpa [this] using Ev.now false
theorem slices_Equal_l0 (a b : List Int) (hl : a.length ≤ 9223372036854775807) (hab : a.length = b.length) : ∀ (d i : Nat), a.length - i = d → i ≤ a.length → a.take i = b.take i → Ev (fun k => slices_Equal_int64_int64.l0 k a b (a.length : Int) i) (decide (a = b)) := by
  intro d
  induction d with
  | zero =>
    intro i hd hi ht; refine Ev.succ ?_; simp only [slices_Equal_int64_int64.l0]; refine Ev.ite_neg (by omega) ?_; rw [List.take_of_length_le (by omega), List.take_of_length_le (by omega)] at ht
    simpa [ht] using Ev.now true
  | succ d ih =>
    intro i hd hi ht; refine Ev.succ ?_; simp only [slices_Equal_int64_int64.l0]; refine Ev.ite_pos (by omega) ?_; refine Ev.ite_pos (by omega) ?_; refine Ev.ite_pos (by omega) ?_; refine Ev.ite_pos (by omega) ?_
    by_cases he : rd a i = rd b i
    · refine Ev.ite_pos he ?_; rw [w64 (x := (i : Int) + 1) (by omega) (by omega)]; rw [rd_at (show i < a.length by omega), rd_at (show i < b.length by omega)] at he
      have := ih (i + 1) (by omega) (by omega) (by
        rw [List.take_succ_eq_append_getElem (by omega), List.take_succ_eq_append_getElem (by omega), ht, he])
      simpa using this
    · refine Ev.ite_neg he ?_
      have : ¬ a = b := fun e => he (by rw [e])
      simpa [this] using Ev.now false
theorem slices_Equal_ev (a b : List Int) (hl : a.length ≤ 9223372036854775807) : Ev (fun k => slices_Equal_int64_int64.f k a b) (decide (a = b)) := by
  unfold slices_Equal_int64_int64.f
  by_cases h : a.length = b.length
  · refine Ev.ite_pos (by omega) ?_; exact slices_Equal_l0 a b hl h a.length 0 (by omega) (by omega) (by simp)
  · refine Ev.ite_neg (by omega) ?_
    have : ¬ a = b := fun e => h (by rw [e])
    simpa [this] using Ev.now false
def cutAt (a b : List Int) (j : Nat) : List Int := (a.take (j + b.length)).drop j
theorem spec_l15Has_l0 (a b : List Int) (ha : a.length ≤ 64) (hb : b.length ≤ 64) : ∀ (d i : Nat), a.length + 1 - b.length - i = d → i ≤ 65 → Ev (fun k => spec_l15Has.l0 k a b i) ((List.range' i d).any fun j => decide (cutAt a b j = b)) := by
  intro d
  induction d with
  | zero =>
    intro i hd hi; refine Ev.succ ?_; simp only [spec_l15Has.l0]; rw [w64 (x := (i : Int) + b.length) (by omega) (by omega)]; refine Ev.ite_neg (by omega) ?_; exact Ev.now _
  | succ d ih =>
    intro i hd hi; refine Ev.succ ?_; simp only [spec_l15Has.l0]; rw [w64 (x := (i : Int) + b.length) (by omega) (by omega), w64 (x := (i : Int) + 1) (by omega) (by omega)]; refine Ev.ite_pos (by omega) ?_; refine Ev.ite_pos (by omega) ?_; refine Ev.ite_pos (by omega) ?_
    have e : ((i : Int) + (b.length : Int)).toNat = i + b.length := by omega
    rw [e, Int.toNat_natCast]; refine Ev.bind (spec_l00Same_ev (cutAt a b i) b (by simp [cutAt]; omega)) ?_
    by_cases h : cutAt a b i = b
    · refine Ev.ite_pos (by simpa using h) ?_; refine Ev.cast (Ev.now true) ?_
      simp [List.range'_succ, h]
    · refine Ev.ite_neg (by simpa using h) ?_; refine Ev.cast (by simpa using ih (i + 1) (by omega) (by omega)) ?_
      simp [List.range'_succ, h]
theorem impl_occurrences_l0 (a b : List Int) (ha : a.length ≤ 64) (hb : b.length ≤ 64) : ∀ (d i : Nat) (acc : List Int), a.length + 1 - b.length - i = d → i ≤ 65 → acc.length ≤ i →
    Ev (fun k => impl_occurrences.l0 k a b acc i) (acc ++ ((List.range' i d).filter fun j => decide (cutAt a b j = b)).map Int.ofNat) := by
  intro d
  induction d with
  | zero =>
    intro i acc hd hi hc; refine Ev.succ ?_; simp only [impl_occurrences.l0]; rw [w64 (x := (i : Int) + b.length) (by omega) (by omega)]; refine Ev.ite_neg (by omega) ?_
    simpa using Ev.now _
  | succ d ih =>
    intro i acc hd hi hc; refine Ev.succ ?_; simp only [impl_occurrences.l0]; rw [w64 (x := (i : Int) + b.length) (by omega) (by omega), w64 (x := (i : Int) + 1) (by omega) (by omega)]; refine Ev.ite_pos (by omega) ?_; refine Ev.ite_pos (by omega) ?_; refine Ev.ite_pos (by omega) ?_
    have e : ((i : Int) + (b.length : Int)).toNat = i + b.length := by omega
    rw [e, Int.toNat_natCast]; refine Ev.bind (slices_Equal_ev (cutAt a b i) b (by simp [cutAt]; omega)) ?_
    by_cases h : cutAt a b i = b
    · refine Ev.ite_pos (by simpa using h) ?_; refine Ev.ite_pos (by omega) ?_; refine Ev.cast (by simpa using ih (i + 1) (acc ++ [(i : Int)]) (by omega) (by omega) (by simp; omega)) ?_
      simp [List.range'_succ, h]
    · refine Ev.ite_neg (by simpa using h) ?_; refine Ev.cast (by simpa using ih (i + 1) acc (by omega) (by omega) (by omega)) ?_
      simp [List.range'_succ, h]
def hasB (a b : List Int) : Bool := (List.range' 0 (a.length + 1 - b.length)).any fun j => decide (cutAt a b j = b)
theorem spec_l15Has_ev (a b : List Int) (ha : a.length ≤ 64) (hb : b.length ≤ 64) : Ev (fun k => spec_l15Has.f k a b) (hasB a b) := by
  unfold spec_l15Has.f hasB
  simpa using spec_l15Has_l0 a b ha hb (a.length + 1 - b.length) 0 (by omega) (by omega)
def occM (a b : List Int) : List Int := ((List.range' 0 (a.length + 1 - b.length)).filter fun j => decide (cutAt a b j = b)).map Int.ofNat
theorem impl_occurrences_ev (a b : List Int) (ha : a.length ≤ 64) (hb : b.length ≤ 64) : Ev (fun k => impl_occurrences.f k a b) (occM a b) := by
  unfold impl_occurrences.f occM
  simpa using impl_occurrences_l0 a b ha hb (a.length + 1 - b.length) 0 [] (by omega) (by omega) (by simp)
theorem occM_len (a b : List Int) : decide (((occM a b).length : Int) > 0) = hasB a b := by
  rw [Bool.eq_iff_iff, decide_eq_true_eq, hasB, List.any_eq_true]; unfold occM; rw [List.length_map]
  constructor
  · intro h; obtain ⟨x, hx⟩ := List.exists_mem_of_length_pos (l := (List.range' 0 (a.length + 1 - b.length)).filter fun j => decide (cutAt a b j = b)) (by omega); rw [List.mem_filter] at hx; exact ⟨x, hx.1, hx.2⟩
  · rintro ⟨x, h1, h2⟩; have : 0 < ((List.range' 0 (a.length + 1 - b.length)).filter fun j => decide (cutAt a b j = b)).length := List.length_pos_of_mem (List.mem_filter.2 ⟨h1, h2⟩)
    omega
def repM (l : List Int) : Nat → Nat → Int → Int → Int
  | 0, _, m, _ => m
  | d + 1, i, m, r => if rd l i = rd l ((i : Int) - 1) then repM l d (i + 1) (max m (r + 1)) (r + 1) else repM l d (i + 1) (max m 0) 0
theorem spec_l15Repeats_l0 (l : List Int) (hl : l.length ≤ 64) : ∀ (d i : Nat) (m r : Int), l.length - i = d → 1 ≤ i → 0 ≤ r → r ≤ i → Ev (fun k => spec_l15Repeats.l0 k l m r i) (repM l d i m r) := by
  intro d
  induction d with
  | zero =>
    intro i m r hd hi h0 h1; refine Ev.succ ?_; simp only [spec_l15Repeats.l0]; refine Ev.ite_neg (by omega) ?_; exact Ev.now _
  | succ d ih =>
    intro i m r hd hi h0 h1; refine Ev.succ ?_; simp only [spec_l15Repeats.l0]; refine Ev.ite_pos (by omega) ?_; refine Ev.ite_pos (by omega) ?_; rw [w64 (x := (i : Int) - 1) (by omega) (by omega), w64 (x := (i : Int) + 1) (by omega) (by omega), w64 (x := r + 1) (by omega) (by omega)]; refine Ev.ite_pos (by omega) ?_; refine Ev.ite_pos (by omega) ?_
    by_cases he : rd l i = rd l ((i : Int) - 1)
    · refine Ev.ite_pos he ?_; refine Ev.bindc (spec_l00Max_eq _ _) ?_; have := ih (i + 1) (max m (r + 1)) (r + 1) (by omega) (by omega) (by omega) (by omega)
      simpa [repM, he] using this
    · refine Ev.ite_neg he ?_; refine Ev.bindc (spec_l00Max_eq _ _) ?_; have := ih (i + 1) (max m 0) 0 (by omega) (by omega) (by omega) (by omega)
      simpa [repM, he] using this
theorem impl_mostRepeats_l0 (l : List Int) (hl : l.length ≤ 64) : ∀ (d i : Nat) (m r : Int), l.length - i = d → 1 ≤ i → 0 ≤ r → r ≤ i → Ev (fun k => impl_mostRepeats.l0 k l m r i) (repM l d i m r) := by
  intro d
  induction d with
  | zero =>
    intro i m r hd hi h0 h1; refine Ev.succ ?_; simp only [impl_mostRepeats.l0]; refine Ev.ite_neg (by omega) ?_; exact Ev.now _
  | succ d ih =>
    intro i m r hd hi h0 h1; refine Ev.succ ?_; simp only [impl_mostRepeats.l0]; refine Ev.ite_pos (by omega) ?_; refine Ev.ite_pos (by omega) ?_; rw [w64 (x := (i : Int) - 1) (by omega) (by omega), w64 (x := (i : Int) + 1) (by omega) (by omega), w64 (x := r + 1) (by omega) (by omega)]; refine Ev.ite_pos (by omega) ?_; refine Ev.ite_pos (by omega) ?_
    by_cases he : rd l i = rd l ((i : Int) - 1)
    · refine Ev.ite_pos he ?_; have := ih (i + 1) (max m (r + 1)) (r + 1) (by omega) (by omega) (by omega) (by omega)
      simpa [repM, he, mx_eq] using this
    · refine Ev.ite_neg he ?_; have := ih (i + 1) (max m 0) 0 (by omega) (by omega) (by omega) (by omega)
      simpa [repM, he, mx_eq] using this
theorem spec_l15Repeats_ev (l : List Int) (hl : l.length ≤ 64) : Ev (fun k => spec_l15Repeats.f k l) (repM l (l.length - 1) 1 0 0) := by
  unfold spec_l15Repeats.f
  simpa using spec_l15Repeats_l0 l hl (l.length - 1) 1 0 0 rfl (Nat.le_refl _) (by omega) (by omega)
theorem impl_mostRepeats_ev (l : List Int) (hl : l.length ≤ 64) : Ev (fun k => impl_mostRepeats.f k l) (repM l (l.length - 1) 1 0 0) := by
  unfold impl_mostRepeats.f
  simpa using impl_mostRepeats_l0 l hl (l.length - 1) 1 0 0 rfl (Nat.le_refl _) (by omega) (by omega)
def seqM (u d : List Int) (f : List (List Int)) (l : List Int) : Nat → Nat → Bool
  | 0, _ => true
  | m + 1, i => decide (reasonR u d f (rd l ((i : Int) - 1)) (rd l i) = 0) && seqM u d f l m (i + 1)
def okM (u d : List Int) (f : List (List Int)) (l : List Int) : Bool := toneB u d (tn (rd l 0)) && seqM u d f l (l.length - 1) 1
theorem inP_iff {x : Int} (h : inP x = true) : -12 ≤ x ∧ x ≤ 23 := by
  simp only [inP, Bool.and_eq_true, decide_eq_true_eq] at h; exact h
theorem rd_inW {l : List Int} (h : ∀ x ∈ l, inP x = true) (i : Nat) (hi : i < l.length) : -1000 ≤ rd l i ∧ rd l i ≤ 1000 := by
  rw [rd_at hi]; have := inP_iff (h _ (List.getElem_mem hi))
  omega
theorem firstWrong_l0 (s : ByteArray) (u d : List Int) (a b : Int) (f : List (List Int)) (l : List Int) (hl : l.length ≤ 1000) (hin : ∀ x ∈ l, inP x = true) (hu : u.length ≤ 1048576) (hd : d.length ≤ 1048576) (hf : f.length ≤ 8) (hp : ∀ j, j < f.length → (rd_L1 f j).length = 2) :
    ∀ (m i : Nat), l.length - i = m → 1 ≤ i → ∃ x r : Int, (r = 0 ↔ seqM u d f l m i = true) ∧ Ev (fun k => impl_Raga_firstWrong.l0 k l l (l.length : Int) i s u d a b f) (x, r) := by
  intro m
  induction m with
  | zero =>
    intro i hm h1; refine ⟨0, 0, by simp [seqM], Ev.succ ?_⟩; simp only [impl_Raga_firstWrong.l0]; exact Ev.ite_neg (by omega) (Ev.now _)
  | succ m ih =>
    intro i hm h1
    have hi : i < l.length := by omega
    have e1 : (i : Int) - 1 = ((i - 1 : Nat) : Int) := by omega
    have hr := impl_reason_ev s u d a b f (rd l ((i : Int) - 1)) (rd l i) (by rw [e1]; exact rd_inW hin (i - 1) (by omega)) (rd_inW hin i hi) hu hd hf hp
    have step : ∀ x r, Ev (fun k => impl_Raga_firstWrong.j1 k l (i : Int) (rd l i) l (l.length : Int) i false s u d a b f) (x, r) → Ev (fun k => impl_Raga_firstWrong.l0 k l l (l.length : Int) i s u d a b f) (x, r) := fun x r h => Ev.succ (by
      simp only [impl_Raga_firstWrong.l0]
      exact Ev.ite_pos (by omega) (Ev.ite_pos (by omega) (Ev.ite_pos (by omega) (Ev.ite_neg (by omega) h))))
    by_cases c : reasonR u d f (rd l ((i : Int) - 1)) (rd l i) = 0
    · obtain ⟨x, r, h2, h3⟩ := ih (i + 1) (by omega) (by omega); refine ⟨x, r, by simp [seqM, c, h2], step _ _ (Ev.succ ?_)⟩; simp only [impl_Raga_firstWrong.j1]; rw [w64 (x := (i : Int) - 1) (by omega) (by omega), w64 (x := (i : Int) + 1) (by omega) (by omega)]; exact Ev.ite_neg (by decide) (Ev.ite_pos (by omega) (Ev.ite_pos (by omega) (Ev.ite_pos (by omega) (Ev.bind hr (Ev.ite_pos c (by simpa using h3))))))
    · refine ⟨(i : Int), reasonR u d f (rd l ((i : Int) - 1)) (rd l i), by simp [seqM, c], step _ _ (Ev.succ ?_)⟩; simp only [impl_Raga_firstWrong.j1]; rw [w64 (x := (i : Int) - 1) (by omega) (by omega)]; exact Ev.ite_neg (by decide) (Ev.ite_pos (by omega) (Ev.ite_pos (by omega) (Ev.ite_pos (by omega) (Ev.bind hr (Ev.ite_neg c (Ev.bind hr (Ev.now _)))))))
theorem firstWrong_ev (s : ByteArray) (u d : List Int) (a b : Int) (f : List (List Int)) (l : List Int) (h1 : 1 ≤ l.length) (hl : l.length ≤ 1000) (hin : ∀ x ∈ l, inP x = true) (hu : u.length ≤ 1048576) (hd : d.length ≤ 1048576) (hf : f.length ≤ 8) (hp : ∀ j, j < f.length → (rd_L1 f j).length = 2) :
    ∃ x r : Int, (r = 0 ↔ okM u d f l = true) ∧ Ev (fun k => impl_Raga_firstWrong.f k s u d a b f l) (x, r) := by
  have ht := impl_hasTone_ev s u d a b f (tn (rd l 0)) hu hd
  have step : ∀ x r, Ev (fun k => impl_Raga_firstWrong.j1 k l 0 (rd l 0) l (l.length : Int) 0 (!toneB u d (tn (rd l 0))) s u d a b f) (x, r) → Ev (fun k => impl_Raga_firstWrong.f k s u d a b f l) (x, r) := fun x r h => by
    unfold impl_Raga_firstWrong.f; refine Ev.succ ?_; simp only [impl_Raga_firstWrong.l0]; exact Ev.ite_pos (by omega) (Ev.ite_pos (by omega) (Ev.ite_pos (by omega) (Ev.ite_pos trivial (Ev.bindc (show impl_ToneOf.f (rd l 0) = some (tn (rd l 0)) from rfl) (Ev.bind ht h)))))
  cases c : toneB u d (tn (rd l 0)) with
  | false =>
    refine ⟨0, 1, by simp [okM, c], step _ _ (Ev.succ ?_)⟩; simp only [impl_Raga_firstWrong.j1]; rw [c]; exact Ev.ite_pos rfl (Ev.now _)
  | true =>
    obtain ⟨x, r, h2, h3⟩ := firstWrong_l0 s u d a b f l hl hin hu hd hf hp (l.length - 1) 1 rfl (Nat.le_refl _); refine ⟨x, r, by simp [okM, c, h2], step _ _ (Ev.succ ?_)⟩; simp only [impl_Raga_firstWrong.j1]; rw [c, w64 (x := (0 : Int) + 1) (by omega) (by omega)]; exact Ev.ite_neg (by decide) (Ev.ite_neg (by omega) (by simpa using h3))
def satB (u d : List Int) (f : List (List Int)) (lg st en lo hi : Int) (q : List (List Int)) (rp : Int) (p : List Int) : Bool :=
  decide ((p.length : Int) = lg) && (decide (rd p 0 = st) && (decide (rd p (lg - 1) = en) && (p.all (fun n => decide (lo ≤ n) && decide (n ≤ hi)) && (okM u d f p && (q.all (hasB p) && decide (repM p (p.length - 1) 1 0 0 ≤ rp))))))
theorem evList {α β : Type} {g : α → Nat → Option β} {r : α → β} : ∀ (l : List α), (∀ p ∈ l, Ev (g p) (r p)) → ∃ K, ∀ k, K ≤ k → ∀ p ∈ l, g p k = some (r p)
  | [], _ => ⟨0, fun _ _ _ h => by simp at h⟩
  | a :: l, h => by
    obtain ⟨K, hK⟩ := evList l (fun p hp => h p (List.mem_cons_of_mem _ hp)); obtain ⟨K2, hK2⟩ := h a (List.mem_cons_self); refine ⟨max K K2, fun k hk p hp => ?_⟩
    rcases List.mem_cons.1 hp with e | e
    · subst e; exact hK2 k (by omega)
    · exact hK k (by omega) p e
theorem reasonR_nn (u d : List Int) (f : List (List Int)) (a b : Int) : 0 ≤ reasonR u d f a b := by
  unfold reasonR
  split
  · split
    · omega
    · split
      · omega
      · split
        · omega
        · split <;> omega
  · omega
theorem missing_ev (p : List Int) (hp : p.length ≤ 64) (y : List Int) (hy : y.length ≤ 64) : Ev (fun k => impl_satisfies_1.f k y p) (!hasB p y) := by
  unfold impl_satisfies_1.f; refine Ev.bind (impl_occurrences_ev p y hp hy) (Ev.cast (Ev.now _) ?_); rw [← occM_len]
  cases h : (occM p y) with
  | nil => rfl
  | cons a l =>
    simp
    omega
theorem missing_any_ev (p : List Int) (hp : p.length ≤ 64) (q : List (List Int)) (hq : ∀ y ∈ q, y.length ≤ 64) : Ev (fun k => impl_satisfies_any.f k q p) (!q.all (hasB p)) := by
  obtain ⟨K, hK⟩ := evList (g := fun y k => impl_satisfies_1.f k y p) (r := fun y => !hasB p y) q (fun y hy => missing_ev p hp y (hq y hy)); refine ⟨K, fun k hk => ?_⟩
  show impl_satisfies_any.f k q p = _
  unfold impl_satisfies_any.f; rw [if_pos (List.all_eq_true.2 fun y hy => by rw [hK k hk y hy]; rfl)]
  congr 1
  rw [Bool.eq_iff_iff, List.any_eq_true]
  constructor
  · rintro ⟨y, hy, h⟩; rw [hK k hk y hy] at h
    have h' : hasB p y = false := by simpa using h
    rw [Bool.not_eq_true', ← Bool.not_eq_true, List.all_eq_true]; intro ha; rw [ha y hy] at h'; exact absurd h' (by decide)
  · intro h; rw [Bool.not_eq_true', ← Bool.not_eq_true, List.all_eq_true] at h
    have : ∃ y, y ∈ q ∧ hasB p y = false := Classical.byContradiction fun hn => h fun y hy => by
      cases e : hasB p y with
      | true => rfl
      | false => exact absurd ⟨y, hy, e⟩ hn
    obtain ⟨y, hy, e⟩ := this; exact ⟨y, hy, by rw [hK k hk y hy, e]; rfl⟩
theorem spec_parts_l0 (lg st en lo hi : Int) (q : List (List Int)) (rp : Int) (p : List Int) (hp : p.length ≤ 64) (hl : q.length ≤ 1048576) (hq : ∀ y ∈ q, y.length ≤ 64) : ∀ (m i : Nat), q.length - i = m → Ev (fun k => spec_l15Parts.l0 k p i lg st en lo hi q rp) ((q.drop i).all (hasB p)) := by
  intro m
  induction m with
  | zero =>
    intro i hm; refine Ev.succ ?_; simp only [spec_l15Parts.l0]; rw [List.drop_of_length_le (by omega)]; exact Ev.ite_neg (by omega) (Ev.now _)
  | succ m ih =>
    intro i hm
    have hi' : i < q.length := by omega
    refine Ev.succ ?_; simp only [spec_l15Parts.l0]; rw [w64 (x := (i : Int) + 1) (by omega) (by omega), rdL_at hi', List.drop_eq_getElem_cons hi', List.all_cons]; refine Ev.ite_pos (by omega) (Ev.ite_pos (by omega) (Ev.bind (spec_l15Has_ev p q[i] hp (hq _ (List.getElem_mem hi'))) ?_))
    cases h : hasB p q[i] with
    | false => exact Ev.ite_neg (by decide) (Ev.now _)
    | true => exact Ev.ite_pos rfl (by simpa using ih (i + 1) (by omega))
theorem spec_parts_ev (lg st en lo hi : Int) (q : List (List Int)) (rp : Int) (p : List Int) (hp : p.length ≤ 64) (hl : q.length ≤ 1048576) (hq : ∀ y ∈ q, y.length ≤ 64) : Ev (fun k => spec_l15Parts.f k lg st en lo hi q rp p) (q.all (hasB p)) := by
  unfold spec_l15Parts.f
  simpa using spec_parts_l0 lg st en lo hi q rp p hp hl hq q.length 0 (by omega)
theorem spec_wrong_l0 (s : ByteArray) (u d : List Int) (a b : Int) (f : List (List Int)) (l : List Int) (hl : l.length ≤ 1000) (hin : ∀ x ∈ l, inP x = true) (hu : u.length ≤ 1048576) (hd : d.length ≤ 1048576) (hf : f.length ≤ 8) (hp : ∀ j, j < f.length → (rd_L1 f j).length = 2) :
    ∀ (m i : Nat), l.length - i = m → 1 ≤ i → ∃ x r : Int, (x < 0 ↔ seqM u d f l m i = true) ∧ Ev (fun k => spec_l05Wrong.l0 k l i s u d a b f) (x, r) := by
  intro m
  induction m with
  | zero =>
    intro i hm h1; refine ⟨-1, 0, by simp [seqM], Ev.succ ?_⟩; simp only [spec_l05Wrong.l0]; exact Ev.ite_neg (by omega) (Ev.now _)
  | succ m ih =>
    intro i hm h1
    have hi : i < l.length := by omega
    have e1 : (i : Int) - 1 = ((i - 1 : Nat) : Int) := by omega
    have hr := spec_l05Reason_ev s u d a b f (rd l ((i : Int) - 1)) (rd l i) (by rw [e1]; exact rd_inW hin (i - 1) (by omega)) (rd_inW hin i hi) hu hd hf hp; have hn := reasonR_nn u d f (rd l ((i : Int) - 1)) (rd l i)
    by_cases c : reasonR u d f (rd l ((i : Int) - 1)) (rd l i) = 0
    · obtain ⟨x, r, h2, h3⟩ := ih (i + 1) (by omega) (by omega); refine ⟨x, r, by simp [seqM, c, h2], Ev.succ ?_⟩; simp only [spec_l05Wrong.l0]; rw [w64 (x := (i : Int) - 1) (by omega) (by omega), w64 (x := (i : Int) + 1) (by omega) (by omega)]; exact Ev.ite_pos (by omega) (Ev.ite_pos (by omega) (Ev.ite_pos (by omega) (Ev.ite_pos (by omega) (Ev.ite_pos (by omega) (Ev.bind hr (Ev.ite_neg (by omega) (by simpa using h3)))))))
    · refine ⟨(i : Int), reasonR u d f (rd l ((i : Int) - 1)) (rd l i), ?_, Ev.succ ?_⟩
      · simp [seqM, c]
      simp only [spec_l05Wrong.l0]; rw [w64 (x := (i : Int) - 1) (by omega) (by omega)]; exact Ev.ite_pos (by omega) (Ev.ite_pos (by omega) (Ev.ite_pos (by omega) (Ev.ite_pos (by omega) (Ev.ite_pos (by omega) (Ev.bind hr (Ev.ite_pos (by omega) (Ev.now _)))))))
theorem spec_wrong_ev (s : ByteArray) (u d : List Int) (a b : Int) (f : List (List Int)) (l : List Int) (h1 : 1 ≤ l.length) (hl : l.length ≤ 1000) (hin : ∀ x ∈ l, inP x = true) (hu : u.length ≤ 1048576) (hd : d.length ≤ 1048576) (hf : f.length ≤ 8) (hp : ∀ j, j < f.length → (rd_L1 f j).length = 2) :
    ∃ x r : Int, (x < 0 ↔ okM u d f l = true) ∧ Ev (fun k => spec_l05Wrong.f k s u d a b f l) (x, r) := by
  have ht := spec_l05Tone_ev s u d a b f (tn (rd l 0)) hu hd; unfold spec_l05Wrong.f
  cases c : toneB u d (tn (rd l 0)) with
  | false =>
    refine ⟨0, 1, by simp [okM, c], Ev.succ ?_⟩; simp only [spec_l05Wrong.l0]; exact Ev.ite_pos (by omega) (Ev.ite_neg (by omega) (Ev.ite_pos (by omega) (Ev.bindc (show spec_l03Tone.f (rd l 0) = some (tn (rd l 0)) from rfl) (Ev.bind ht (Ev.ite_neg (by rw [c]; decide) (Ev.ite_pos (by decide) (Ev.now _)))))))
  | true =>
    obtain ⟨x, r, h2, h3⟩ := spec_wrong_l0 s u d a b f l hl hin hu hd hf hp (l.length - 1) 1 rfl (Nat.le_refl _); refine ⟨x, r, by simp [okM, c, h2], Ev.succ ?_⟩; simp only [spec_l05Wrong.l0]; rw [w64 (x := (0 : Int) + 1) (by omega) (by omega)]; exact Ev.ite_pos (by omega) (Ev.ite_neg (by omega) (Ev.ite_pos (by omega) (Ev.bindc (show spec_l03Tone.f (rd l 0) = some (tn (rd l 0)) from rfl) (Ev.bind ht (Ev.ite_pos c (Ev.ite_neg (by decide) (by simpa using h3)))))))
theorem pitchesB_parts {p : List Int} (h : pitchesB p = true) : p.length ≤ 64 ∧ ∀ x ∈ p, inP x = true := by
  simp only [pitchesB, Bool.and_eq_true, decide_eq_true_eq, List.all_eq_true] at h; exact h
theorem impl_satisfies_ev (s : ByteArray) (u d : List Int) (a b : Int) (f : List (List Int)) (lg st en lo hi : Int) (q : List (List Int)) (rp : Int) (p : List Int) (hg : 1 ≤ lg) (hp : pitchesB p = true) (hq : ∀ y ∈ q, y.length ≤ 64) (hu : u.length ≤ 1048576) (hd : d.length ≤ 1048576) (hf : f.length ≤ 8) (hf2 : ∀ j, j < f.length → (rd_L1 f j).length = 2) :
    Ev (fun k => impl_satisfies.f k s u d a b f lg st en lo hi q rp p) (satB u d f lg st en lo hi q rp p) := by
  obtain ⟨p1, p2⟩ := pitchesB_parts hp; have jt : Ev (fun k => impl_satisfies.j0 k true s u d a b f lg st en lo hi q rp p) false := Ev.succ (by simp only [impl_satisfies.j0]; exact Ev.ite_pos trivial (Ev.now _)); unfold impl_satisfies.f satB
  by_cases c1 : (p.length : Int) = lg
  · rw [w64 (x := lg - 1) (by omega) (by omega), decide_eq_true c1, Bool.true_and]; refine Ev.ite_pos c1 (Ev.ite_pos (by omega) ?_)
    by_cases c2 : rd p 0 = st
    · rw [decide_eq_true c2, Bool.true_and]; refine Ev.ite_pos c2 (Ev.ite_pos (by omega) (Ev.ite_pos (by omega) ?_))
      by_cases c3 : rd p (lg - 1) = en
      · rw [decide_eq_true c3, Bool.true_and]; refine Ev.ite_pos c3 (Ev.bindc (show impl_allWithin.f p lo hi = some _ from rfl) ?_)
        cases c4 : (p.all fun n => decide (lo ≤ n) && decide (n ≤ hi)) with
        | false => exact jt
        | true =>
          obtain ⟨x, r, h1, h2⟩ := firstWrong_ev s u d a b f p (by omega) (by omega) p2 hu hd hf hf2; refine Ev.succ ?_; simp only [impl_satisfies.j0]; refine Ev.ite_neg (by decide) (Ev.bind h2 ?_); rw [Bool.true_and]
          cases c5 : okM u d f p with
          | false => exact Ev.ite_neg (fun e => by rw [h1.mp e] at c5; cases c5) (Ev.now _)
          | true =>
            refine Ev.ite_pos (h1.mpr c5) (Ev.bind (missing_any_ev p p1 q hq) ?_)
            cases c6 : q.all (hasB p) with
            | false => exact Ev.ite_pos rfl (Ev.now _)
            | true => exact Ev.ite_neg (by decide) (Ev.bind (impl_mostRepeats_ev p p1) (Ev.now _))
      · rw [decide_eq_false c3, Bool.false_and]; exact Ev.ite_neg c3 jt
    · rw [decide_eq_false c2, Bool.false_and]; exact Ev.ite_neg c2 jt
  · rw [decide_eq_false c1, Bool.false_and]; exact Ev.ite_neg c1 jt
theorem spec_is_l0 (s : ByteArray) (u d : List Int) (a b : Int) (f : List (List Int)) (lg st en lo hi : Int) (q : List (List Int)) (rp : Int) (p : List Int) (h1 : 1 ≤ p.length) (hp : pitchesB p = true) (hl : q.length ≤ 1048576) (hq : ∀ y ∈ q, y.length ≤ 64) (hu : u.length ≤ 1048576) (hd : d.length ≤ 1048576) (hf : f.length ≤ 8) (hf2 : ∀ j, j < f.length → (rd_L1 f j).length = 2) :
    ∀ (m i : Nat), p.length - i = m → Ev (fun k => spec_l15Is.l0 k p i s u d a b f lg st en lo hi q rp) ((p.drop i).all (fun n => decide (lo ≤ n) && decide (n ≤ hi)) && (okM u d f p && (q.all (hasB p) && decide (repM p (p.length - 1) 1 0 0 ≤ rp)))) := by
  obtain ⟨p1, p2⟩ := pitchesB_parts hp; intro m
  induction m with
  | zero =>
    intro i hm; refine Ev.succ ?_; simp only [spec_l15Is.l0]; rw [List.drop_of_length_le (by omega), List.all_nil, Bool.true_and]; obtain ⟨x, r, e1, e2⟩ := spec_wrong_ev s u d a b f p h1 (by omega) p2 hu hd hf hf2; refine Ev.ite_neg (by omega) (Ev.bind e2 ?_)
    cases c5 : okM u d f p with
    | false => exact Ev.ite_neg (fun e => by rw [e1.mp e] at c5; cases c5) (Ev.now _)
    | true =>
      refine Ev.ite_pos (e1.mpr c5) (Ev.bind (spec_l15Repeats_ev p p1) ?_); rw [Bool.true_and]
      by_cases c7 : repM p (p.length - 1) 1 0 0 ≤ rp
      · rw [decide_eq_true c7, Bool.and_true]; exact Ev.ite_pos c7 (Ev.bind (spec_parts_ev lg st en lo hi q rp p p1 hl hq) (Ev.now _))
      · rw [decide_eq_false c7, Bool.and_false]; exact Ev.ite_neg c7 (Ev.now _)
  | succ m ih =>
    intro i hm
    have hi' : i < p.length := by omega
    refine Ev.succ ?_; simp only [spec_l15Is.l0]; rw [w64 (x := (i : Int) + 1) (by omega) (by omega), List.drop_eq_getElem_cons hi', ← rd_at hi', List.all_cons]; refine Ev.ite_pos (by omega) (Ev.ite_pos (by omega) (Ev.bindc (spec_l00In_eq _ _ _) ?_))
    cases c : (decide (lo ≤ rd p i) && decide (rd p i ≤ hi)) with
    | false => exact Ev.ite_neg (by decide) (Ev.now _)
    | true => exact Ev.ite_pos rfl (by simpa using ih (i + 1) (by omega))
theorem spec_is_ev (s : ByteArray) (u d : List Int) (a b : Int) (f : List (List Int)) (lg st en lo hi : Int) (q : List (List Int)) (rp : Int) (p : List Int) (hg : 1 ≤ lg) (hp : pitchesB p = true) (hl : q.length ≤ 1048576) (hq : ∀ y ∈ q, y.length ≤ 64) (hu : u.length ≤ 1048576) (hd : d.length ≤ 1048576) (hf : f.length ≤ 8) (hf2 : ∀ j, j < f.length → (rd_L1 f j).length = 2) :
    Ev (fun k => spec_l15Is.f k s u d a b f lg st en lo hi q rp p) (satB u d f lg st en lo hi q rp p) := by
  obtain ⟨p1, p2⟩ := pitchesB_parts hp; have jt : Ev (fun k => spec_l15Is.j0 k p true s u d a b f lg st en lo hi q rp) false := Ev.succ (by simp only [spec_l15Is.j0]; exact Ev.ite_pos trivial (Ev.now _)); unfold spec_l15Is.f satB
  by_cases c1 : (p.length : Int) = lg
  · rw [w64 (x := lg - 1) (by omega) (by omega), decide_eq_true c1, Bool.true_and]; refine Ev.ite_pos c1 (Ev.ite_pos (by omega) ?_)
    by_cases c2 : rd p 0 = st
    · rw [decide_eq_true c2, Bool.true_and]; refine Ev.ite_pos c2 (Ev.ite_pos (by omega) (Ev.ite_pos (by omega) ?_))
      by_cases c3 : rd p (lg - 1) = en
      · rw [decide_eq_true c3, Bool.true_and, show (rd p (lg - 1) != en) = false from by simp [c3]]; refine Ev.succ ?_; simp only [spec_l15Is.j0]; exact Ev.ite_neg (by decide) (by simpa using spec_is_l0 s u d a b f lg st en lo hi q rp p (by omega) hp hl hq hu hd hf hf2 p.length 0 (by omega))
      · rw [decide_eq_false c3, Bool.false_and, show (rd p (lg - 1) != en) = true from by simp [c3]]; exact jt
    · rw [decide_eq_false c2, Bool.false_and]; exact Ev.ite_neg c2 jt
  · rw [decide_eq_false c1, Bool.false_and]; exact Ev.ite_neg c1 jt
theorem partsB_all {q : List (List Int)} : ∀ (d i : Nat), partsB q d i = true → ∀ j, i ≤ j → j < i + d → (rd_L1 q j).length ≤ 8 := by
  intro d
  induction d with
  | zero => intro i _ j h1 h2; omega
  | succ d ih =>
    intro i h j h1 h2; simp only [partsB, Bool.and_eq_true] at h
    rcases Nat.eq_or_lt_of_le h1 with rfl | h3
    · have := h.1; simp only [partB, Bool.and_eq_true, decide_eq_true_eq] at this; exact this.1.2
    · exact ih (i + 1) h.2 j h3 (by omega)
theorem askB_parts {lg st en lo hi : Int} {q : List (List Int)} {rp : Int} (h : askB lg st en lo hi q rp = true) : (1 ≤ lg ∧ lg ≤ 16) ∧ (-12 ≤ lo ∧ lo ≤ hi ∧ hi ≤ 23) ∧ (lo ≤ st ∧ st ≤ hi) ∧ (0 ≤ rp ∧ rp ≤ 16) ∧ q.length ≤ 4 ∧ ∀ y ∈ q, y.length ≤ 64 := by
  simp only [askB, inB, inP, Bool.and_eq_true, decide_eq_true_eq] at h; obtain ⟨h1, h2, h3, h4, h5, h6, h7, h8⟩ := h; refine ⟨h1, ⟨h2.1, h3.1, h3.2⟩, h4, h6, h8, fun y hy => ?_⟩; obtain ⟨i, hi', e⟩ := List.mem_iff_getElem.mp hy; have := partsB_all q.length 0 h7 i (by omega) (by omega); rw [rdL_at hi', e] at this
  omega
theorem slices_Clone_eq (l : List Int) (h : l.length < 17592186044416) : slices_Clone_int64_int64.f l = some l := by
  unfold slices_Clone_int64_int64.f; simp only [Option.bind_some, List.nil_append, List.length_nil, Nat.zero_add]; rw [if_pos h]
end Go.Proofs.Ytinlejhffokbaaa.P
end

section
namespace Go.Proofs.Ytinlejhffokbaaa.P
open Go.RowKit Go.Proofs.YtinlejhffokbaaaW.PrintWords Go.Proofs.YtinlejhffokbaaaW.PrintLast Go.Proofs.YtinlejhffokbaaaW.PrintMore
attribute [local go_sem] max2_int min2_int max_two min_two max_three min_three max_four min_four
set_option linter.unusedVariables false
set_option linter.unusedSimpArgs false
def spec_l13Next.f (a0 : Int) : Option (Int) := some (Int.tmod (wrap64 ((wrap64 (a0 * 7141)) + 54773)) 1000000)
def spec_l13Pick.f (a0 : Int) (a1 : Int) : Option (Int × Int) := (spec_l13Next.f a0).bind fun t155 => (some (wrap64 (Int.tdiv (wrap64 (t155 * a1)) 1000000), t155))
end Go.Proofs.Ytinlejhffokbaaa.P
end

section
namespace Go.Proofs.Ytinlejhffokbaaa.P
open Go.RowKit Go.Proofs.Ytinlejhffokbaaa.P Go.Proofs.YtinlejhffokbaaaW.PrintWords Go.Proofs.YtinlejhffokbaaaW.PrintLast Go.Proofs.YtinlejhffokbaaaW.PrintMore
set_option linter.unusedVariables false
set_option linter.unusedSimpArgs false
def segM (p : Int) : Nat → List Int
  | 0 => []
  | n + 1 => p :: segM (p + 1) n
theorem segM_mem {q : Int} : ∀ (n : Nat) (p : Int), q ∈ segM p n ↔ p ≤ q ∧ q < p + n := by
  intro n
  induction n with
  | zero => intro p; simp only [segM, List.not_mem_nil, false_iff]; omega
  | succ n ih =>
    intro p; simp only [segM, List.mem_cons, ih (p + 1)]
    omega
theorem segM_add : ∀ (a b : Nat) (p : Int), segM p (a + b) = segM p a ++ segM (p + a) b := by
  intro a
  induction a with
  | zero => intro b p; simp [segM]
  | succ a ih =>
    intro b p; rw [show a + 1 + b = (a + b) + 1 by omega]; simp only [segM, List.cons_append]; rw [ih b (p + 1), show p + 1 + (a : Int) = p + ((a + 1 : Nat) : Int) by omega]
theorem segM_length : ∀ (n : Nat) (p : Int), (segM p n).length = n := by
  intro n
  induction n with
  | zero => intro p; rfl
  | succ n ih => intro p; simp [segM, ih]
def stepsM (u d : List Int) (f : List (List Int)) (a p : Int) (n : Nat) : List Int := (segM p n).filter fun q => decide (reasonR u d f a q = 0)
theorem stepsM_length (u d : List Int) (f : List (List Int)) (a p : Int) (n : Nat) : (stepsM u d f a p n).length ≤ n := by
  have := List.length_filter_le (fun q => decide (reasonR u d f a q = 0)) (segM p n); rw [segM_length] at this; exact this
theorem stepsM_mem {u d : List Int} {f : List (List Int)} {a p q : Int} {n : Nat} (h : q ∈ stepsM u d f a p n) : p ≤ q ∧ q < p + n := (segM_mem n p).1 (List.mem_filter.1 h).1
theorem stepsM_range (u d : List Int) (f : List (List Int)) (a lo hi : Int) (h1 : -12 ≤ lo) (h2 : lo ≤ hi) (h3 : hi ≤ 23) : (stepsM u d f a (-12) 36).filter (fun q => decide (lo ≤ q) && decide (q ≤ hi)) = stepsM u d f a lo (hi + 1 - lo).toNat := by
  have e : (segM (-12) 36).filter (fun q => decide (lo ≤ q) && decide (q ≤ hi)) = segM lo (hi + 1 - lo).toNat := by
    rw [show 36 = (lo + 12).toNat + ((hi + 1 - lo).toNat + (23 - hi).toNat) by omega, segM_add, segM_add, List.filter_append, List.filter_append, show -12 + (((lo + 12).toNat : Nat) : Int) = lo by omega]; rw [List.filter_eq_nil_iff.2 (fun q hq => by have := (segM_mem _ _).1 hq; simp; omega), List.filter_eq_self.2 (fun q hq => by have := (segM_mem _ _).1 hq; simp; omega), List.filter_eq_nil_iff.2 (fun q hq => by have := (segM_mem _ _).1 hq; simp; omega)]
    simp
  unfold stepsM; rw [← e, List.filter_filter, List.filter_filter]
  congr 1
  funext q
  exact Bool.and_comm _ _
def lastM (out : List Int) : Int := rd out ((out.length : Int) - 1)
abbrev SrS := List Int × Int × Int
def leapsT (l : List Int) : Int := leapsM l (l.length - 1) 1 0
def loopM (V : List Int → SrS → Bool × SrS) (ps : List Int) : List Int → SrS → Bool × SrS
  | [], σ => (false, σ)
  | t :: ts, σ => if (V (ps ++ [t]) σ).1 = true then (true, (V (ps ++ [t]) σ).2) else loopM V ps ts (V (ps ++ [t]) σ).2
def leafM (ps : List Int) (fst : Bool) (σ : SrS) : Bool × SrS :=
  if σ.2.1 = 0 then (fst, (ps, σ.2.1 + 1, σ.2.2)) else if leapsT ps < leapsT σ.1 then (fst, (ps, σ.2.1 + 1, σ.2.2)) else (fst, (σ.1, σ.2.1 + 1, σ.2.2))
def visM (u d : List Int) (f : List (List Int)) (sat : List Int → Bool) (lo hi : Int) (fst : Bool) (bud : Int) : Nat → List Int → SrS → Bool × SrS
  | 0, ps, σ => if bud < σ.2.2 + 1 then (true, (σ.1, σ.2.1, σ.2.2 + 1)) else if sat ps = true then leafM ps fst (σ.1, σ.2.1, σ.2.2 + 1) else (false, (σ.1, σ.2.1, σ.2.2 + 1))
  | m + 1, ps, σ => if bud < σ.2.2 + 1 then (true, (σ.1, σ.2.1, σ.2.2 + 1)) else loopM (visM u d f sat lo hi fst bud m) ps (stepsM u d f (lastM ps) lo (hi + 1 - lo).toNat) (σ.1, σ.2.1, σ.2.2 + 1)
def endM (fst : Bool) (bud : Int) (σ : SrS) : Bool := decide (bud < σ.2.2) || (fst && decide (0 < σ.2.1))
structure SrOk (bud : Int) (σ : SrS) : Prop where
  c0 : 0 ≤ σ.2.1
  c1 : σ.2.1 ≤ σ.2.2
  n1 : σ.2.2 ≤ bud + 1
  bs : σ.2.1 = 0 ∨ pitchesB σ.1 = true
  ln : σ.1.length ≤ 64
structure SrStep (fst : Bool) (bud : Int) (r : Bool × SrS) : Prop where
  ok : SrOk bud r.2
  ends : r.1 = endM fst bud r.2
theorem loopM_ok {V : List Int → SrS → Bool × SrS} {fst : Bool} {bud : Int} {ps : List Int} : ∀ (ts : List Int), (∀ t ∈ ts, ∀ σ, SrOk bud σ → endM fst bud σ = false → SrStep fst bud (V (ps ++ [t]) σ)) → ∀ σ, SrOk bud σ → endM fst bud σ = false → SrStep fst bud (loopM V ps ts σ)
  | [], _, σ, h, he => ⟨h, he.symm⟩
  | t :: ts, hV, σ, h, he => by
    have hs := hV t (List.mem_cons_self) σ h he; unfold loopM
    cases c : (V (ps ++ [t]) σ).1 with
    | true => rw [if_pos rfl]; exact ⟨hs.ok, by rw [← hs.ends, c]⟩
    | false =>
      rw [if_neg Bool.false_ne_true]; exact loopM_ok ts (fun t ht => hV t (List.mem_cons_of_mem _ ht)) _ hs.ok (by rw [← hs.ends, c])
theorem snoc_pitches {ps : List Int} {t : Int} (h : pitchesB ps = true) (hl : ps.length < 64) (h1 : -12 ≤ t) (h2 : t ≤ 23) : pitchesB (ps ++ [t]) = true := by
  simp [pitchesB, inP] at h ⊢
  exact ⟨by omega, h.2, by omega, by omega⟩
theorem leafM_ok {fst : Bool} {bud : Int} {ps : List Int} {σ : SrS} (hp : pitchesB ps = true) (h : SrOk bud σ) (hc : σ.2.1 < σ.2.2) (hb : ¬ bud < σ.2.2) : SrStep fst bud (leafM ps fst σ) := by
  have h0 := h.c0; have hl := pitchesB_len hp
  have e : ∀ x : List Int, fst = endM fst bud (x, σ.2.1 + 1, σ.2.2) := fun x => by
    simp only [endM]; rw [decide_eq_false hb, decide_eq_true (show (0 : Int) < σ.2.1 + 1 by omega)]
    simp
  unfold leafM
  by_cases c : σ.2.1 = 0
  · rw [if_pos c]; exact ⟨⟨by show 0 ≤ σ.2.1 + 1; omega, by show σ.2.1 + 1 ≤ σ.2.2; omega, h.n1, .inr hp, hl⟩, e _⟩
  · rw [if_neg c]
    by_cases c2 : leapsT ps < leapsT σ.1
    · rw [if_pos c2]; exact ⟨⟨by show 0 ≤ σ.2.1 + 1; omega, by show σ.2.1 + 1 ≤ σ.2.2; omega, h.n1, .inr hp, hl⟩, e _⟩
    · rw [if_neg c2]; exact ⟨⟨by show 0 ≤ σ.2.1 + 1; omega, by show σ.2.1 + 1 ≤ σ.2.2; omega, h.n1, .inr (h.bs.resolve_left c), h.ln⟩, e _⟩
theorem end_false {fst : Bool} {bud : Int} {σ : SrS} (h : endM fst bud σ = false) : ¬ bud < σ.2.2 ∧ (fst && decide (0 < σ.2.1)) = false := by
  simp only [endM, Bool.or_eq_false_iff] at h; exact ⟨of_decide_eq_false h.1, h.2⟩
theorem visM_ok (u d : List Int) (f : List (List Int)) (sat : List Int → Bool) (lo hi : Int) (h1 : -12 ≤ lo) (h3 : hi ≤ 23) (fst : Bool) (bud : Int) : ∀ (m : Nat) (ps : List Int) (σ : SrS), pitchesB ps = true → ps.length + m ≤ 64 → SrOk bud σ → endM fst bud σ = false → SrStep fst bud (visM u d f sat lo hi fst bud m ps σ) := by
  have full : ∀ σ : SrS, SrOk bud σ → endM fst bud σ = false → bud < σ.2.2 + 1 → SrStep fst bud (true, (σ.1, σ.2.1, σ.2.2 + 1)) := fun σ h he hb => by
    have := (end_false he).1; have := h.c1; have := h.n1; refine ⟨⟨h.c0, by show σ.2.1 ≤ σ.2.2 + 1; omega, by show σ.2.2 + 1 ≤ bud + 1; omega, h.bs, h.ln⟩, ?_⟩; simp only [endM]; rw [decide_eq_true (show bud < σ.2.2 + 1 from hb)]; rfl
  have next : ∀ σ : SrS, SrOk bud σ → endM fst bud σ = false → ¬ bud < σ.2.2 + 1 → SrOk bud (σ.1, σ.2.1, σ.2.2 + 1) ∧ endM fst bud (σ.1, σ.2.1, σ.2.2 + 1) = false := fun σ h he hb => by
    have := h.c1; refine ⟨⟨h.c0, by show σ.2.1 ≤ σ.2.2 + 1; omega, by show σ.2.2 + 1 ≤ bud + 1; omega, h.bs, h.ln⟩, ?_⟩; simp only [endM]; rw [decide_eq_false (show ¬ bud < σ.2.2 + 1 from hb), (end_false he).2]; rfl
  intro m
  induction m with
  | zero =>
    intro ps σ hp hl h he; unfold visM
    by_cases c : bud < σ.2.2 + 1
    · rw [if_pos c]; exact full σ h he c
    · rw [if_neg c]; obtain ⟨ho, hf⟩ := next σ h he c
      by_cases c2 : sat ps = true
      · rw [if_pos c2]; have := h.c1; exact leafM_ok hp ho (by show σ.2.1 < σ.2.2 + 1; omega) c
      · rw [if_neg c2]; exact ⟨ho, hf.symm⟩
  | succ m ih =>
    intro ps σ hp hl h he; unfold visM
    by_cases c : bud < σ.2.2 + 1
    · rw [if_pos c]; exact full σ h he c
    · rw [if_neg c]; obtain ⟨ho, hf⟩ := next σ h he c; refine loopM_ok _ (fun t ht σ' h' he' => ?_) _ ho hf; have hm := stepsM_mem ht; exact ih _ _ (snoc_pitches hp (by omega) (by omega) (by omega)) (by simp; omega) h' he'
theorem endI (fst : Bool) (bud : Int) (σ : SrS) : (decide (bud - σ.2.2 < 0) || (fst && decide (0 < σ.2.1))) = endM fst bud σ := by
  unfold endM
  congr 1
  exact decide_eq_decide.2 (by omega)
theorem impl_visit_l0 (s : ByteArray) (u d : List Int) (a b : Int) (f : List (List Int)) (lg st en lo hi : Int) (q : List (List Int)) (rp : Int) (fst : Bool) (bud : Int) (hlo : -12 ≤ lo) (hhi : hi ≤ 23) (hu : u.length ≤ 1048576) (hd : d.length ≤ 1048576) (hf : f.length ≤ 8) (hf2 : ∀ j, j < f.length → (rd_L1 f j).length = 2)
    (V : List Int → SrS → Bool × SrS) (ps : List Int) (last : Int) (hlast : -1000 ≤ last ∧ last ≤ 1000) (hps : ps.length < 1000)
    (hV : ∀ t, lo ≤ t → t ≤ hi → ∀ σ, SrOk bud σ → endM fst bud σ = false → SrStep fst bud (V (ps ++ [t]) σ) ∧ Ev (fun k => impl_askSearch_visit.f k s u d a b f lg st en lo hi q rp fst (bud - σ.2.2) (ps ++ [t]) σ.1 σ.2.1) (bud - (V (ps ++ [t]) σ).2.2.2, (V (ps ++ [t]) σ).2.1, (V (ps ++ [t]) σ).2.2.1)) :
    ∀ (n : Nat) (tz : Int) (σ : SrS), tz + n = hi + 1 → lo ≤ tz → SrOk bud σ → endM fst bud σ = false →
      Ev (fun k => impl_askSearch_visit.l0 k s u d a b f lg st en lo hi q rp fst last tz (bud - σ.2.2) ps σ.1 σ.2.1) (bud - (loopM V ps (stepsM u d f last tz n) σ).2.2.2, (loopM V ps (stepsM u d f last tz n) σ).2.1, (loopM V ps (stepsM u d f last tz n) σ).2.2.1) := by
  intro n
  induction n with
  | zero =>
    intro tz σ e _ _ _; refine Ev.succ ?_; simp only [impl_askSearch_visit.l0]; exact Ev.ite_neg (by omega) (Ev.now _)
  | succ n ih =>
    intro tz σ e ht hok he; refine Ev.succ ?_; simp only [impl_askSearch_visit.l0]; rw [w64 (x := tz + 1) (by omega) (by omega)]; refine Ev.ite_pos (by omega) (Ev.bind (impl_reason_ev s u d a b f last tz hlast (by omega) hu hd hf hf2) ?_)
    by_cases c : reasonR u d f last tz = 0
    · have es : stepsM u d f last tz (n + 1) = tz :: stepsM u d f last (tz + 1) n := by simp [stepsM, segM, c]
      rw [es]; obtain ⟨hs, hv⟩ := hV tz ht (by omega) σ hok he; refine Ev.ite_pos c (Ev.ite_pos hps (Ev.bind hv ?_))
      cases cz : (V (ps ++ [tz]) σ).1 with
      | true =>
        have el : loopM V ps (tz :: stepsM u d f last (tz + 1) n) σ = (true, (V (ps ++ [tz]) σ).2) := by rw [loopM, if_pos cz]
        rw [el]; refine Ev.ite_pos ?_ (Ev.now _)
        show (decide (bud - (V (ps ++ [tz]) σ).2.2.2 < 0) || (fst && decide (0 < (V (ps ++ [tz]) σ).2.2.1))) = true
        rw [endI, ← hs.ends, cz]
      | false =>
        have el : loopM V ps (tz :: stepsM u d f last (tz + 1) n) σ = loopM V ps (stepsM u d f last (tz + 1) n) (V (ps ++ [tz]) σ).2 := by rw [loopM, if_neg (by rw [cz]; decide)]
        rw [el]; refine Ev.ite_neg ?_ (ih (tz + 1) (V (ps ++ [tz]) σ).2 (by omega) (by omega) hs.ok (by rw [← hs.ends, cz]))
        show ¬ (decide (bud - (V (ps ++ [tz]) σ).2.2.2 < 0) || (fst && decide (0 < (V (ps ++ [tz]) σ).2.2.1))) = true
        rw [endI, ← hs.ends, cz]
        decide
    · have es : stepsM u d f last tz (n + 1) = stepsM u d f last (tz + 1) n := by simp [stepsM, segM, c]
      rw [es]; exact Ev.ite_neg c (ih (tz + 1) σ (by omega) (by omega) hok he)
theorem lastM_bound {ps : List Int} (hp : pitchesB ps = true) (h1 : 1 ≤ ps.length) : -12 ≤ lastM ps ∧ lastM ps ≤ 23 := pitchesB_rd hp (by omega) (by omega)
theorem impl_visit_ev (s : ByteArray) (u d : List Int) (a b : Int) (f : List (List Int)) (lg st en lo hi : Int) (q : List (List Int)) (rp : Int) (fst : Bool) (bud : Int) (hg : 1 ≤ lg) (hg2 : lg ≤ 16) (hlo : -12 ≤ lo) (hlh : lo ≤ hi) (hhi : hi ≤ 23) (hq : ∀ y ∈ q, y.length ≤ 64) (hu : u.length ≤ 1048576) (hd : d.length ≤ 1048576) (hf : f.length ≤ 8) (hf2 : ∀ j, j < f.length → (rd_L1 f j).length = 2) (hb : 0 ≤ bud) (hb2 : bud ≤ 20000) :
    ∀ (m : Nat) (ps : List Int) (σ : SrS), (ps.length : Int) + m = lg → 1 ≤ ps.length → pitchesB ps = true → SrOk bud σ → endM fst bud σ = false →
      Ev (fun k => impl_askSearch_visit.f k s u d a b f lg st en lo hi q rp fst (bud - σ.2.2) ps σ.1 σ.2.1) (bud - (visM u d f (satB u d f lg st en lo hi q rp) lo hi fst bud m ps σ).2.2.2, (visM u d f (satB u d f lg st en lo hi q rp) lo hi fst bud m ps σ).2.1, (visM u d f (satB u d f lg st en lo hi q rp) lo hi fst bud m ps σ).2.2.1) := by
  intro m
  induction m with
  | zero =>
    intro ps σ hl h1 hp hok he; have k1 := hok.c0; have k2 := hok.c1; have k3 := hok.n1; have hlen := pitchesB_len hp; refine Ev.succ ?_; simp only [impl_askSearch_visit.f]; rw [w64 (x := bud - σ.2.2 - 1) (by omega) (by omega), w64 (x := σ.2.1 + 1) (by omega) (by omega), show bud - σ.2.2 - 1 = bud - (σ.2.2 + 1) by omega]; unfold visM
    by_cases c : bud < σ.2.2 + 1
    · rw [if_pos c]; exact Ev.ite_pos (by omega) (Ev.now _)
    · rw [if_neg c]; refine Ev.ite_neg (by omega) (Ev.ite_pos (by omega) (Ev.bind (impl_satisfies_ev s u d a b f lg st en lo hi q rp ps hg hp hq hu hd hf hf2) ?_))
      by_cases c2 : satB u d f lg st en lo hi q rp ps = true
      · rw [if_pos c2]; refine Ev.ite_pos c2 ?_; unfold leafM
        by_cases c3 : σ.2.1 = 0
        · rw [if_pos c3]; exact Ev.ite_pos (by omega) (Ev.bindc (slices_Clone_eq ps (by omega)) (Ev.now _))
        · rw [if_neg c3]; refine Ev.ite_neg (by omega) (Ev.bind (impl_leapsOf_ev ps hp) (Ev.bind (impl_leapsOf_ev σ.1 (hok.bs.resolve_left c3)) ?_))
          by_cases c4 : leapsT ps < leapsT σ.1
          · rw [if_pos c4]; exact Ev.ite_pos c4 (Ev.bindc (slices_Clone_eq ps (by omega)) (Ev.now _))
          · rw [if_neg c4]; exact Ev.ite_neg c4 (Ev.now _)
      · rw [if_neg c2]; exact Ev.ite_neg c2 (Ev.now _)
  | succ m ih =>
    intro ps σ hl h1 hp hok he; have k1 := hok.c0; have k2 := hok.c1; have k3 := hok.n1; have hlen := pitchesB_len hp; refine Ev.succ ?_; simp only [impl_askSearch_visit.f]; rw [w64 (x := bud - σ.2.2 - 1) (by omega) (by omega), show bud - σ.2.2 - 1 = bud - (σ.2.2 + 1) by omega, w64 (x := (ps.length : Int) - 1) (by omega) (by omega)]; unfold visM
    by_cases c : bud < σ.2.2 + 1
    · rw [if_pos c]; exact Ev.ite_pos (by omega) (Ev.now _)
    · rw [if_neg c]; refine Ev.ite_neg (by omega) (Ev.ite_neg (by omega) (Ev.ite_pos (by omega) ?_)); have hb1 := lastM_bound hp h1
      have hn : SrOk bud (σ.1, σ.2.1, σ.2.2 + 1) ∧ endM fst bud (σ.1, σ.2.1, σ.2.2 + 1) = false := by
        refine ⟨⟨hok.c0, by show σ.2.1 ≤ σ.2.2 + 1; omega, by show σ.2.2 + 1 ≤ bud + 1; omega, hok.bs, hok.ln⟩, ?_⟩; simp only [endM]; rw [decide_eq_false (show ¬ bud < σ.2.2 + 1 from c), (end_false he).2]; rfl
      exact impl_visit_l0 s u d a b f lg st en lo hi q rp fst bud hlo hhi hu hd hf hf2 (visM u d f (satB u d f lg st en lo hi q rp) lo hi fst bud m) ps (lastM ps) (by omega) (by omega)
        (fun t t1 t2 σ' h' he' => by
          have hp' := snoc_pitches hp (show ps.length < 64 by omega) (show -12 ≤ t by omega) (show t ≤ 23 by omega)
          have hl' : ((ps ++ [t]).length : Int) + m = lg := by simp; omega
          exact ⟨visM_ok u d f _ lo hi hlo hhi fst bud m _ σ' hp' (by simp; omega) h' he', ih _ σ' hl' (by simp) hp' h' he'⟩)
        (hi + 1 - lo).toNat lo (σ.1, σ.2.1, σ.2.2 + 1) (by omega) (Int.le_refl _) hn.1 hn.2
end Go.Proofs.Ytinlejhffokbaaa.P
end
