/- Texts of this seat, merged: LSatB, LCloneP, LLeaps, QSpecL13Next, QSpecL13Pick, LPickB, LSteps, LSrchM, LSrchI. -/
import Derived.Test.YtinlejhffokbaaaGCA1
import Derived.Test.YtinlejhffokbaaaGCA2
import Derived.Test.YtinlejhffokbaaaGCA4
import Derived.Test.YtinlejhffokbaaaGCA6
import Derived.Test.YtinlejhffokbaaaGCA7
import Derived.Test.YtinlejhffokbaaaGCA8
import Derived.Test.YtinlejhffokbaaaGCA9
import Derived.Test.YtinlejhffokbaaaGCA21
import Derived.Test.YtinlejhffokbaaaGCA22
import Derived.Test.YtinlejhffokbaaaGCA23
import Derived.Test.YtinlejhffokbaaaGCA24
import Derived.Test.YtinlejhffokbaaaGCA25
import Derived.Test.YtinlejhffokbaaaGCA26
import Derived.Test.YtinlejhffokbaaaGCA27
section
namespace Go.Proofs.Ytinlejhffokbaaa.P
open Go.RowKit Go.Proofs.Ytinlejhffokbaaa.P Go.Proofs.YtinlejhffokbaaaW.PrintWords Go.Proofs.YtinlejhffokbaaaW.PrintLast Go.Proofs.YtinlejhffokbaaaW.PrintMore
set_option linter.unusedVariables false
set_option linter.unusedSimpArgs false
set_option maxHeartbeats 16000000
set_option maxRecDepth 100000
def satB (u d : List Int) (f : List (List Int)) (lg st en lo hi : Int) (q : List (List Int)) (rp : Int) (p : List Int) : Bool :=
  decide ((p.length : Int) = lg) && (decide (rd p 0 = st) && (decide (rd p (lg - 1) = en) && (p.all (fun n => decide (lo ≤ n) && decide (n ≤ hi)) && (okM u d f p && (q.all (hasB p) && decide (repM p (p.length - 1) 1 0 0 ≤ rp))))))
theorem evList {α β : Type} {g : α → Nat → Option β} {r : α → β} : ∀ (l : List α), (∀ p ∈ l, Ev (g p) (r p)) → ∃ K, ∀ k, K ≤ k → ∀ p ∈ l, g p k = some (r p)
  | [], _ => ⟨0, fun _ _ _ h => by simp at h⟩
  | a :: l, h => by
    obtain ⟨K, hK⟩ := evList l (fun p hp => h p (List.mem_cons_of_mem _ hp)); obtain ⟨K2, hK2⟩ := h a (List.mem_cons_self); refine ⟨max K K2, fun k hk p hp => ?_⟩
    rcases List.mem_cons.1 hp with e | e
    · subst e; exact hK2 k (by omega)
    · exact hK k (by omega) p e
theorem reasonR_nn (u d : List Int) (f : List (List Int)) (a b : Int) : 0 ≤ reasonR u d f a b := by
  unfold reasonR
  split
  · split
    · omega
    · split
      · omega
      · split
        · omega
        · split <;> omega
  · omega
theorem missing_ev (p : List Int) (hp : p.length ≤ 64) (y : List Int) (hy : y.length ≤ 64) : Ev (fun k => impl_satisfies_1.f k y p) (!hasB p y) := by
  unfold impl_satisfies_1.f; refine Ev.bind (impl_occurrences_ev p y hp hy) (Ev.cast (Ev.now _) ?_); rw [← occM_len]
  cases h : (occM p y) with
  | nil => rfl
  | cons a l =>
    simp
    omega
theorem missing_any_ev (p : List Int) (hp : p.length ≤ 64) (q : List (List Int)) (hq : ∀ y ∈ q, y.length ≤ 64) : Ev (fun k => impl_satisfies_any.f k q p) (!q.all (hasB p)) := by
  obtain ⟨K, hK⟩ := evList (g := fun y k => impl_satisfies_1.f k y p) (r := fun y => !hasB p y) q (fun y hy => missing_ev p hp y (hq y hy)); refine ⟨K, fun k hk => ?_⟩
  show impl_satisfies_any.f k q p = _
  unfold impl_satisfies_any.f; rw [if_pos (List.all_eq_true.2 fun y hy => by rw [hK k hk y hy]; rfl)]
  congr 1
  rw [Bool.eq_iff_iff, List.any_eq_true]
  constructor
  · rintro ⟨y, hy, h⟩; rw [hK k hk y hy] at h
    have h' : hasB p y = false := by simpa using h
    rw [Bool.not_eq_true', ← Bool.not_eq_true, List.all_eq_true]; intro ha; rw [ha y hy] at h'; exact absurd h' (by decide)
  · intro h; rw [Bool.not_eq_true', ← Bool.not_eq_true, List.all_eq_true] at h
    have : ∃ y, y ∈ q ∧ hasB p y = false := Classical.byContradiction fun hn => h fun y hy => by
      cases e : hasB p y with
      | true => rfl
      | false => exact absurd ⟨y, hy, e⟩ hn
    obtain ⟨y, hy, e⟩ := this; exact ⟨y, hy, by rw [hK k hk y hy, e]; rfl⟩
theorem spec_parts_l0 (lg st en lo hi : Int) (q : List (List Int)) (rp : Int) (p : List Int) (hp : p.length ≤ 64) (hl : q.length ≤ 1048576) (hq : ∀ y ∈ q, y.length ≤ 64) : ∀ (m i : Nat), q.length - i = m → Ev (fun k => spec_l15Parts.l0 k p i lg st en lo hi q rp) ((q.drop i).all (hasB p)) := by
  intro m
  induction m with
  | zero =>
    intro i hm; refine Ev.succ ?_; simp only [spec_l15Parts.l0]; rw [List.drop_of_length_le (by omega)]; exact Ev.ite_neg (by omega) (Ev.now _)
  | succ m ih =>
    intro i hm
    have hi' : i < q.length := by omega
    refine Ev.succ ?_; simp only [spec_l15Parts.l0]; rw [w64 (x := (i : Int) + 1) (by omega) (by omega), rdL_at hi', List.drop_eq_getElem_cons hi', List.all_cons]; refine Ev.ite_pos (by omega) (Ev.ite_pos (by omega) (Ev.bind (spec_l15Has_ev p q[i] hp (hq _ (List.getElem_mem hi'))) ?_))
    cases h : hasB p q[i] with
    | false => exact Ev.ite_neg (by decide) (Ev.now _)
    | true => exact Ev.ite_pos rfl (by simpa using ih (i + 1) (by omega))
theorem spec_parts_ev (lg st en lo hi : Int) (q : List (List Int)) (rp : Int) (p : List Int) (hp : p.length ≤ 64) (hl : q.length ≤ 1048576) (hq : ∀ y ∈ q, y.length ≤ 64) : Ev (fun k => spec_l15Parts.f k lg st en lo hi q rp p) (q.all (hasB p)) := by
  unfold spec_l15Parts.f
  simpa using spec_parts_l0 lg st en lo hi q rp p hp hl hq q.length 0 (by omega)
theorem spec_wrong_l0 (s : ByteArray) (u d : List Int) (a b : Int) (f : List (List Int)) (l : List Int) (hl : l.length ≤ 1000) (hin : ∀ x ∈ l, inP x = true) (hu : u.length ≤ 1048576) (hd : d.length ≤ 1048576) (hf : f.length ≤ 8) (hp : ∀ j, j < f.length → (rd_L1 f j).length = 2) :
    ∀ (m i : Nat), l.length - i = m → 1 ≤ i → ∃ x r : Int, (x < 0 ↔ seqM u d f l m i = true) ∧ Ev (fun k => spec_l05Wrong.l0 k l i s u d a b f) (x, r) := by
  intro m
  induction m with
  | zero =>
    intro i hm h1; refine ⟨-1, 0, by simp [seqM], Ev.succ ?_⟩; simp only [spec_l05Wrong.l0]; exact Ev.ite_neg (by omega) (Ev.now _)
  | succ m ih =>
    intro i hm h1
    have hi : i < l.length := by omega
    have e1 : (i : Int) - 1 = ((i - 1 : Nat) : Int) := by omega
    have hr := spec_l05Reason_ev s u d a b f (rd l ((i : Int) - 1)) (rd l i) (by rw [e1]; exact rd_inW hin (i - 1) (by omega)) (rd_inW hin i hi) hu hd hf hp; have hn := reasonR_nn u d f (rd l ((i : Int) - 1)) (rd l i)
    by_cases c : reasonR u d f (rd l ((i : Int) - 1)) (rd l i) = 0
    · obtain ⟨x, r, h2, h3⟩ := ih (i + 1) (by omega) (by omega); refine ⟨x, r, by simp [seqM, c, h2], Ev.succ ?_⟩; simp only [spec_l05Wrong.l0]; rw [w64 (x := (i : Int) - 1) (by omega) (by omega), w64 (x := (i : Int) + 1) (by omega) (by omega)]; exact Ev.ite_pos (by omega) (Ev.ite_pos (by omega) (Ev.ite_pos (by omega) (Ev.ite_pos (by omega) (Ev.ite_pos (by omega) (Ev.bind hr (Ev.ite_neg (by omega) (by simpa using h3)))))))
    · refine ⟨(i : Int), reasonR u d f (rd l ((i : Int) - 1)) (rd l i), ?_, Ev.succ ?_⟩
      · simp [seqM, c]
      simp only [spec_l05Wrong.l0]; rw [w64 (x := (i : Int) - 1) (by omega) (by omega)]; exact Ev.ite_pos (by omega) (Ev.ite_pos (by omega) (Ev.ite_pos (by omega) (Ev.ite_pos (by omega) (Ev.ite_pos (by omega) (Ev.bind hr (Ev.ite_pos (by omega) (Ev.now _)))))))
theorem spec_wrong_ev (s : ByteArray) (u d : List Int) (a b : Int) (f : List (List Int)) (l : List Int) (h1 : 1 ≤ l.length) (hl : l.length ≤ 1000) (hin : ∀ x ∈ l, inP x = true) (hu : u.length ≤ 1048576) (hd : d.length ≤ 1048576) (hf : f.length ≤ 8) (hp : ∀ j, j < f.length → (rd_L1 f j).length = 2) :
    ∃ x r : Int, (x < 0 ↔ okM u d f l = true) ∧ Ev (fun k => spec_l05Wrong.f k s u d a b f l) (x, r) := by
  have ht := spec_l05Tone_ev s u d a b f (tn (rd l 0)) hu hd; unfold spec_l05Wrong.f
  cases c : toneB u d (tn (rd l 0)) with
  | false =>
    refine ⟨0, 1, by simp [okM, c], Ev.succ ?_⟩; simp only [spec_l05Wrong.l0]; exact Ev.ite_pos (by omega) (Ev.ite_neg (by omega) (Ev.ite_pos (by omega) (Ev.bindc (show spec_l03Tone.f (rd l 0) = some (tn (rd l 0)) from rfl) (Ev.bind ht (Ev.ite_neg (by rw [c]; decide) (Ev.ite_pos (by decide) (Ev.now _)))))))
  | true =>
    obtain ⟨x, r, h2, h3⟩ := spec_wrong_l0 s u d a b f l hl hin hu hd hf hp (l.length - 1) 1 rfl (Nat.le_refl _); refine ⟨x, r, by simp [okM, c, h2], Ev.succ ?_⟩; simp only [spec_l05Wrong.l0]; rw [w64 (x := (0 : Int) + 1) (by omega) (by omega)]; exact Ev.ite_pos (by omega) (Ev.ite_neg (by omega) (Ev.ite_pos (by omega) (Ev.bindc (show spec_l03Tone.f (rd l 0) = some (tn (rd l 0)) from rfl) (Ev.bind ht (Ev.ite_pos c (Ev.ite_neg (by decide) (by simpa using h3)))))))
theorem pitchesB_parts {p : List Int} (h : pitchesB p = true) : p.length ≤ 64 ∧ ∀ x ∈ p, inP x = true := by
  simp only [pitchesB, Bool.and_eq_true, decide_eq_true_eq, List.all_eq_true] at h; exact h
theorem impl_satisfies_ev (s : ByteArray) (u d : List Int) (a b : Int) (f : List (List Int)) (lg st en lo hi : Int) (q : List (List Int)) (rp : Int) (p : List Int) (hg : 1 ≤ lg) (hp : pitchesB p = true) (hq : ∀ y ∈ q, y.length ≤ 64) (hu : u.length ≤ 1048576) (hd : d.length ≤ 1048576) (hf : f.length ≤ 8) (hf2 : ∀ j, j < f.length → (rd_L1 f j).length = 2) :
    Ev (fun k => impl_satisfies.f k s u d a b f lg st en lo hi q rp p) (satB u d f lg st en lo hi q rp p) := by
  obtain ⟨p1, p2⟩ := pitchesB_parts hp; have jt : Ev (fun k => impl_satisfies.j0 k true s u d a b f lg st en lo hi q rp p) false := Ev.succ (by simp only [impl_satisfies.j0]; exact Ev.ite_pos trivial (Ev.now _)); unfold impl_satisfies.f satB
  by_cases c1 : (p.length : Int) = lg
  · rw [w64 (x := lg - 1) (by omega) (by omega), decide_eq_true c1, Bool.true_and]; refine Ev.ite_pos c1 (Ev.ite_pos (by omega) ?_)
    by_cases c2 : rd p 0 = st
    · rw [decide_eq_true c2, Bool.true_and]; refine Ev.ite_pos c2 (Ev.ite_pos (by omega) (Ev.ite_pos (by omega) ?_))
      by_cases c3 : rd p (lg - 1) = en
      · rw [decide_eq_true c3, Bool.true_and]; refine Ev.ite_pos c3 (Ev.bindc (show impl_allWithin.f p lo hi = some _ from rfl) ?_)
        cases c4 : (p.all fun n => decide (lo ≤ n) && decide (n ≤ hi)) with
        | false => exact jt
        | true =>
          obtain ⟨x, r, h1, h2⟩ := firstWrong_ev s u d a b f p (by omega) (by omega) p2 hu hd hf hf2; refine Ev.succ ?_; simp only [impl_satisfies.j0]; refine Ev.ite_neg (by decide) (Ev.bind h2 ?_); rw [Bool.true_and]
          cases c5 : okM u d f p with
          | false => exact Ev.ite_neg (fun e => by rw [h1.mp e] at c5; cases c5) (Ev.now _)
          | true =>
            refine Ev.ite_pos (h1.mpr c5) (Ev.bind (missing_any_ev p p1 q hq) ?_)
            cases c6 : q.all (hasB p) with
            | false => exact Ev.ite_pos rfl (Ev.now _)
            | true => exact Ev.ite_neg (by decide) (Ev.bind (impl_mostRepeats_ev p p1) (Ev.now _))
      · rw [decide_eq_false c3, Bool.false_and]; exact Ev.ite_neg c3 jt
    · rw [decide_eq_false c2, Bool.false_and]; exact Ev.ite_neg c2 jt
  · rw [decide_eq_false c1, Bool.false_and]; exact Ev.ite_neg c1 jt
theorem spec_is_l0 (s : ByteArray) (u d : List Int) (a b : Int) (f : List (List Int)) (lg st en lo hi : Int) (q : List (List Int)) (rp : Int) (p : List Int) (h1 : 1 ≤ p.length) (hp : pitchesB p = true) (hl : q.length ≤ 1048576) (hq : ∀ y ∈ q, y.length ≤ 64) (hu : u.length ≤ 1048576) (hd : d.length ≤ 1048576) (hf : f.length ≤ 8) (hf2 : ∀ j, j < f.length → (rd_L1 f j).length = 2) :
    ∀ (m i : Nat), p.length - i = m → Ev (fun k => spec_l15Is.l0 k p i s u d a b f lg st en lo hi q rp) ((p.drop i).all (fun n => decide (lo ≤ n) && decide (n ≤ hi)) && (okM u d f p && (q.all (hasB p) && decide (repM p (p.length - 1) 1 0 0 ≤ rp)))) := by
  obtain ⟨p1, p2⟩ := pitchesB_parts hp; intro m
  induction m with
  | zero =>
    intro i hm; refine Ev.succ ?_; simp only [spec_l15Is.l0]; rw [List.drop_of_length_le (by omega), List.all_nil, Bool.true_and]; obtain ⟨x, r, e1, e2⟩ := spec_wrong_ev s u d a b f p h1 (by omega) p2 hu hd hf hf2; refine Ev.ite_neg (by omega) (Ev.bind e2 ?_)
    cases c5 : okM u d f p with
    | false => exact Ev.ite_neg (fun e => by rw [e1.mp e] at c5; cases c5) (Ev.now _)
    | true =>
      refine Ev.ite_pos (e1.mpr c5) (Ev.bind (spec_l15Repeats_ev p p1) ?_); rw [Bool.true_and]
      by_cases c7 : repM p (p.length - 1) 1 0 0 ≤ rp
      · rw [decide_eq_true c7, Bool.and_true]; exact Ev.ite_pos c7 (Ev.bind (spec_parts_ev lg st en lo hi q rp p p1 hl hq) (Ev.now _))
      · rw [decide_eq_false c7, Bool.and_false]; exact Ev.ite_neg c7 (Ev.now _)
  | succ m ih =>
    intro i hm
    have hi' : i < p.length := by omega
    refine Ev.succ ?_; simp only [spec_l15Is.l0]; rw [w64 (x := (i : Int) + 1) (by omega) (by omega), List.drop_eq_getElem_cons hi', ← rd_at hi', List.all_cons]; refine Ev.ite_pos (by omega) (Ev.ite_pos (by omega) (Ev.bindc (spec_l00In_eq _ _ _) ?_))
    cases c : (decide (lo ≤ rd p i) && decide (rd p i ≤ hi)) with
    | false => exact Ev.ite_neg (by decide) (Ev.now _)
    | true => exact Ev.ite_pos rfl (by simpa using ih (i + 1) (by omega))
theorem spec_is_ev (s : ByteArray) (u d : List Int) (a b : Int) (f : List (List Int)) (lg st en lo hi : Int) (q : List (List Int)) (rp : Int) (p : List Int) (hg : 1 ≤ lg) (hp : pitchesB p = true) (hl : q.length ≤ 1048576) (hq : ∀ y ∈ q, y.length ≤ 64) (hu : u.length ≤ 1048576) (hd : d.length ≤ 1048576) (hf : f.length ≤ 8) (hf2 : ∀ j, j < f.length → (rd_L1 f j).length = 2) :
    Ev (fun k => spec_l15Is.f k s u d a b f lg st en lo hi q rp p) (satB u d f lg st en lo hi q rp p) := by
  obtain ⟨p1, p2⟩ := pitchesB_parts hp; have jt : Ev (fun k => spec_l15Is.j0 k p true s u d a b f lg st en lo hi q rp) false := Ev.succ (by simp only [spec_l15Is.j0]; exact Ev.ite_pos trivial (Ev.now _)); unfold spec_l15Is.f satB
  by_cases c1 : (p.length : Int) = lg
  · rw [w64 (x := lg - 1) (by omega) (by omega), decide_eq_true c1, Bool.true_and]; refine Ev.ite_pos c1 (Ev.ite_pos (by omega) ?_)
    by_cases c2 : rd p 0 = st
    · rw [decide_eq_true c2, Bool.true_and]; refine Ev.ite_pos c2 (Ev.ite_pos (by omega) (Ev.ite_pos (by omega) ?_))
      by_cases c3 : rd p (lg - 1) = en
      · rw [decide_eq_true c3, Bool.true_and, show (rd p (lg - 1) != en) = false from by simp [c3]]; refine Ev.succ ?_; simp only [spec_l15Is.j0]; exact Ev.ite_neg (by decide) (by simpa using spec_is_l0 s u d a b f lg st en lo hi q rp p (by omega) hp hl hq hu hd hf hf2 p.length 0 (by omega))
      · rw [decide_eq_false c3, Bool.false_and, show (rd p (lg - 1) != en) = true from by simp [c3]]; exact jt
    · rw [decide_eq_false c2, Bool.false_and]; exact Ev.ite_neg c2 jt
  · rw [decide_eq_false c1, Bool.false_and]; exact Ev.ite_neg c1 jt
theorem partsB_all {q : List (List Int)} : ∀ (d i : Nat), partsB q d i = true → ∀ j, i ≤ j → j < i + d → (rd_L1 q j).length ≤ 8 := by
  intro d
  induction d with
  | zero => intro i _ j h1 h2; omega
  | succ d ih =>
    intro i h j h1 h2; simp only [partsB, Bool.and_eq_true] at h
    rcases Nat.eq_or_lt_of_le h1 with rfl | h3
    · have := h.1; simp only [partB, Bool.and_eq_true, decide_eq_true_eq] at this; exact this.1.2
    · exact ih (i + 1) h.2 j h3 (by omega)
theorem askB_parts {lg st en lo hi : Int} {q : List (List Int)} {rp : Int} (h : askB lg st en lo hi q rp = true) : (1 ≤ lg ∧ lg ≤ 16) ∧ (-12 ≤ lo ∧ lo ≤ hi ∧ hi ≤ 23) ∧ (lo ≤ st ∧ st ≤ hi) ∧ (0 ≤ rp ∧ rp ≤ 16) ∧ q.length ≤ 4 ∧ ∀ y ∈ q, y.length ≤ 64 := by
  simp only [askB, inB, inP, Bool.and_eq_true, decide_eq_true_eq] at h; obtain ⟨h1, h2, h3, h4, h5, h6, h7, h8⟩ := h; refine ⟨h1, ⟨h2.1, h3.1, h3.2⟩, h4, h6, h8, fun y hy => ?_⟩; obtain ⟨i, hi', e⟩ := List.mem_iff_getElem.mp hy; have := partsB_all q.length 0 h7 i (by omega) (by omega); rw [rdL_at hi', e] at this
  omega
theorem slices_Clone_eq (l : List Int) (h : l.length < 17592186044416) : slices_Clone_int64_int64.f l = some l := by
  unfold slices_Clone_int64_int64.f; simp only [Option.bind_some, List.nil_append, List.length_nil, Nat.zero_add]; rw [if_pos h]
def leapsM (l : List Int) : Nat → Nat → Int → Int
  | 0, _, acc => acc
  | d + 1, i, acc => leapsM l d (i + 1) (acc + max (rd l i - rd l ((i : Int) - 1)) (rd l ((i : Int) - 1) - rd l i))
theorem spec_l15Leaps_l0 (l : List Int) (hp : pitchesB l = true) : ∀ (d i : Nat) (acc : Int), l.length - i = d → 1 ≤ i → 0 ≤ acc → acc ≤ 35 * i → Ev (fun k => spec_l15Leaps.l0 k l acc i) (leapsM l d i acc) := by
  intro d; have hl := pitchesB_len hp
  induction d with
  | zero =>
    intro i acc hd hi h0 h1; refine Ev.succ ?_; simp only [spec_l15Leaps.l0]; refine Ev.ite_neg (by omega) ?_; exact Ev.now _
  | succ d ih =>
    intro i acc hd hi h0 h1; have b1 := pitchesB_rd hp (i := (i : Int)) (by omega) (by omega); have b2 := pitchesB_rd hp (i := (i : Int) - 1) (by omega) (by omega); refine Ev.succ ?_; simp only [spec_l15Leaps.l0]; refine Ev.ite_pos (by omega) ?_; refine Ev.ite_pos (by omega) ?_; rw [w64 (x := (i : Int) - 1) (by omega) (by omega), w64 (x := (i : Int) + 1) (by omega) (by omega)]; refine Ev.ite_pos (by omega) ?_; refine Ev.ite_pos (by omega) ?_; rw [w64 (x := rd l (i : Int) - rd l ((i : Int) - 1)) (by omega) (by omega), w64 (x := rd l ((i : Int) - 1) - rd l (i : Int)) (by omega) (by omega)]; refine Ev.bindc (spec_l00Max_eq _ _) ?_; rw [w64 (x := acc + _) (by omega) (by omega)]; have := ih (i + 1) (acc + max (rd l i - rd l ((i : Int) - 1)) (rd l ((i : Int) - 1) - rd l i)) (by omega) (by omega) (by omega) (by omega)
    simpa [leapsM] using this
theorem impl_leapsOf_l0 (l : List Int) (hp : pitchesB l = true) : ∀ (d i : Nat) (acc : Int), l.length - i = d → 1 ≤ i → 0 ≤ acc → acc ≤ 35 * i → Ev (fun k => impl_leapsOf.l0 k l acc i) (leapsM l d i acc) := by
  intro d; have hl := pitchesB_len hp
  induction d with
  | zero =>
    intro i acc hd hi h0 h1; refine Ev.succ ?_; simp only [impl_leapsOf.l0]; refine Ev.ite_neg (by omega) ?_; exact Ev.now _
  | succ d ih =>
    intro i acc hd hi h0 h1; have b1 := pitchesB_rd hp (i := (i : Int)) (by omega) (by omega); have b2 := pitchesB_rd hp (i := (i : Int) - 1) (by omega) (by omega); refine Ev.succ ?_; simp only [impl_leapsOf.l0]; refine Ev.ite_pos (by omega) ?_; refine Ev.ite_pos (by omega) ?_; rw [w64 (x := (i : Int) - 1) (by omega) (by omega), w64 (x := (i : Int) + 1) (by omega) (by omega)]; refine Ev.ite_pos (by omega) ?_; refine Ev.ite_pos (by omega) ?_; rw [w64 (x := rd l (i : Int) - rd l ((i : Int) - 1)) (by omega) (by omega)]; refine Ev.bindc (impl_abs_eq _ (by omega) (by omega)) ?_
    have e : max (rd l (i : Int) - rd l ((i : Int) - 1)) (-(rd l (i : Int) - rd l ((i : Int) - 1))) = max (rd l i - rd l ((i : Int) - 1)) (rd l ((i : Int) - 1) - rd l i) := by omega
    rw [e, w64 (x := acc + _) (by omega) (by omega)]; have := ih (i + 1) (acc + max (rd l i - rd l ((i : Int) - 1)) (rd l ((i : Int) - 1) - rd l i)) (by omega) (by omega) (by omega) (by omega)
    simpa [leapsM] using this
theorem impl_leapsOf_ev (l : List Int) (hp : pitchesB l = true) : Ev (fun k => impl_leapsOf.f k l) (leapsM l (l.length - 1) 1 0) := by
  unfold impl_leapsOf.f
  simpa using impl_leapsOf_l0 l hp (l.length - 1) 1 0 (by omega) (by omega) (by omega) (by omega)
theorem spec_l15Leaps_ev (l : List Int) (hp : pitchesB l = true) : Ev (fun k => spec_l15Leaps.f k l) (leapsM l (l.length - 1) 1 0) := by
  unfold spec_l15Leaps.f
  simpa using spec_l15Leaps_l0 l hp (l.length - 1) 1 0 (by omega) (by omega) (by omega) (by omega)
end Go.Proofs.Ytinlejhffokbaaa.P
end

section
namespace Go.Proofs.Ytinlejhffokbaaa.P
open Go.RowKit Go.Proofs.YtinlejhffokbaaaW.PrintWords Go.Proofs.YtinlejhffokbaaaW.PrintLast Go.Proofs.YtinlejhffokbaaaW.PrintMore
attribute [local go_sem] max2_int min2_int max_two min_two max_three min_three max_four min_four   -- for this text's walks alone
set_option linter.unusedVariables false
set_option linter.unusedSimpArgs false
def spec_l13Next.f (a0 : Int) : Option (Int) := some (Int.tmod (wrap64 ((wrap64 (a0 * 7141)) + 54773)) 1000000)
def spec_l13Pick.f (a0 : Int) (a1 : Int) : Option (Int × Int) := (spec_l13Next.f a0).bind fun t155 => (some (wrap64 (Int.tdiv (wrap64 (t155 * a1)) 1000000), t155))
end Go.Proofs.Ytinlejhffokbaaa.P
end

section
namespace Go.Proofs.Ytinlejhffokbaaa.P
open Go.RowKit Go.Proofs.Ytinlejhffokbaaa.P Go.Proofs.YtinlejhffokbaaaW.PrintWords Go.Proofs.YtinlejhffokbaaaW.PrintLast Go.Proofs.YtinlejhffokbaaaW.PrintMore
set_option linter.unusedVariables false
set_option linter.unusedSimpArgs false
def segM (p : Int) : Nat → List Int
  | 0 => []
  | n + 1 => p :: segM (p + 1) n
theorem segM_mem {q : Int} : ∀ (n : Nat) (p : Int), q ∈ segM p n ↔ p ≤ q ∧ q < p + n := by
  intro n
  induction n with
  | zero => intro p; simp only [segM, List.not_mem_nil, false_iff]; omega
  | succ n ih =>
    intro p; simp only [segM, List.mem_cons, ih (p + 1)]
    omega
theorem segM_add : ∀ (a b : Nat) (p : Int), segM p (a + b) = segM p a ++ segM (p + a) b := by
  intro a
  induction a with
  | zero => intro b p; simp [segM]
  | succ a ih =>
    intro b p; rw [show a + 1 + b = (a + b) + 1 by omega]; simp only [segM, List.cons_append]; rw [ih b (p + 1), show p + 1 + (a : Int) = p + ((a + 1 : Nat) : Int) by omega]
theorem segM_length : ∀ (n : Nat) (p : Int), (segM p n).length = n := by
  intro n
  induction n with
  | zero => intro p; rfl
  | succ n ih => intro p; simp [segM, ih]
def stepsM (u d : List Int) (f : List (List Int)) (a p : Int) (n : Nat) : List Int := (segM p n).filter fun q => decide (reasonR u d f a q = 0)
theorem stepsM_length (u d : List Int) (f : List (List Int)) (a p : Int) (n : Nat) : (stepsM u d f a p n).length ≤ n := by
  have := List.length_filter_le (fun q => decide (reasonR u d f a q = 0)) (segM p n); rw [segM_length] at this; exact this
theorem stepsM_mem {u d : List Int} {f : List (List Int)} {a p q : Int} {n : Nat} (h : q ∈ stepsM u d f a p n) : p ≤ q ∧ q < p + n := (segM_mem n p).1 (List.mem_filter.1 h).1
theorem stepsM_range (u d : List Int) (f : List (List Int)) (a lo hi : Int) (h1 : -12 ≤ lo) (h2 : lo ≤ hi) (h3 : hi ≤ 23) : (stepsM u d f a (-12) 36).filter (fun q => decide (lo ≤ q) && decide (q ≤ hi)) = stepsM u d f a lo (hi + 1 - lo).toNat := by
  have e : (segM (-12) 36).filter (fun q => decide (lo ≤ q) && decide (q ≤ hi)) = segM lo (hi + 1 - lo).toNat := by
    rw [show 36 = (lo + 12).toNat + ((hi + 1 - lo).toNat + (23 - hi).toNat) by omega, segM_add, segM_add, List.filter_append, List.filter_append, show -12 + (((lo + 12).toNat : Nat) : Int) = lo by omega]; rw [List.filter_eq_nil_iff.2 (fun q hq => by have := (segM_mem _ _).1 hq; simp; omega), List.filter_eq_self.2 (fun q hq => by have := (segM_mem _ _).1 hq; simp; omega), List.filter_eq_nil_iff.2 (fun q hq => by have := (segM_mem _ _).1 hq; simp; omega)]
    simp
  unfold stepsM; rw [← e, List.filter_filter, List.filter_filter]
  congr 1
  funext q
  exact Bool.and_comm _ _
def lastM (out : List Int) : Int := rd out ((out.length : Int) - 1)
abbrev SrS := List Int × Int × Int
def leapsT (l : List Int) : Int := leapsM l (l.length - 1) 1 0
def loopM (V : List Int → SrS → Bool × SrS) (ps : List Int) : List Int → SrS → Bool × SrS
  | [], σ => (false, σ)
  | t :: ts, σ => if (V (ps ++ [t]) σ).1 = true then (true, (V (ps ++ [t]) σ).2) else loopM V ps ts (V (ps ++ [t]) σ).2
def leafM (ps : List Int) (fst : Bool) (σ : SrS) : Bool × SrS :=
  if σ.2.1 = 0 then (fst, (ps, σ.2.1 + 1, σ.2.2)) else if leapsT ps < leapsT σ.1 then (fst, (ps, σ.2.1 + 1, σ.2.2)) else (fst, (σ.1, σ.2.1 + 1, σ.2.2))
def visM (u d : List Int) (f : List (List Int)) (sat : List Int → Bool) (lo hi : Int) (fst : Bool) (bud : Int) : Nat → List Int → SrS → Bool × SrS
  | 0, ps, σ => if bud < σ.2.2 + 1 then (true, (σ.1, σ.2.1, σ.2.2 + 1)) else if sat ps = true then leafM ps fst (σ.1, σ.2.1, σ.2.2 + 1) else (false, (σ.1, σ.2.1, σ.2.2 + 1))
  | m + 1, ps, σ => if bud < σ.2.2 + 1 then (true, (σ.1, σ.2.1, σ.2.2 + 1)) else loopM (visM u d f sat lo hi fst bud m) ps (stepsM u d f (lastM ps) lo (hi + 1 - lo).toNat) (σ.1, σ.2.1, σ.2.2 + 1)
def endM (fst : Bool) (bud : Int) (σ : SrS) : Bool := decide (bud < σ.2.2) || (fst && decide (0 < σ.2.1))
structure SrOk (bud : Int) (σ : SrS) : Prop where
  c0 : 0 ≤ σ.2.1
  c1 : σ.2.1 ≤ σ.2.2
  n1 : σ.2.2 ≤ bud + 1
  bs : σ.2.1 = 0 ∨ pitchesB σ.1 = true
  ln : σ.1.length ≤ 64
structure SrStep (fst : Bool) (bud : Int) (r : Bool × SrS) : Prop where
  ok : SrOk bud r.2
  ends : r.1 = endM fst bud r.2
theorem loopM_ok {V : List Int → SrS → Bool × SrS} {fst : Bool} {bud : Int} {ps : List Int} : ∀ (ts : List Int), (∀ t ∈ ts, ∀ σ, SrOk bud σ → endM fst bud σ = false → SrStep fst bud (V (ps ++ [t]) σ)) → ∀ σ, SrOk bud σ → endM fst bud σ = false → SrStep fst bud (loopM V ps ts σ)
  | [], _, σ, h, he => ⟨h, he.symm⟩
  | t :: ts, hV, σ, h, he => by
    have hs := hV t (List.mem_cons_self) σ h he; unfold loopM
    cases c : (V (ps ++ [t]) σ).1 with
    | true => rw [if_pos rfl]; exact ⟨hs.ok, by rw [← hs.ends, c]⟩
    | false =>
      rw [if_neg Bool.false_ne_true]; exact loopM_ok ts (fun t ht => hV t (List.mem_cons_of_mem _ ht)) _ hs.ok (by rw [← hs.ends, c])
theorem snoc_pitches {ps : List Int} {t : Int} (h : pitchesB ps = true) (hl : ps.length < 64) (h1 : -12 ≤ t) (h2 : t ≤ 23) : pitchesB (ps ++ [t]) = true := by
  simp [pitchesB, inP] at h ⊢
  exact ⟨by omega, h.2, by omega, by omega⟩
theorem leafM_ok {fst : Bool} {bud : Int} {ps : List Int} {σ : SrS} (hp : pitchesB ps = true) (h : SrOk bud σ) (hc : σ.2.1 < σ.2.2) (hb : ¬ bud < σ.2.2) : SrStep fst bud (leafM ps fst σ) := by
  have h0 := h.c0; have hl := pitchesB_len hp
  have e : ∀ x : List Int, fst = endM fst bud (x, σ.2.1 + 1, σ.2.2) := fun x => by
    simp only [endM]; rw [decide_eq_false hb, decide_eq_true (show (0 : Int) < σ.2.1 + 1 by omega)]
    simp
  unfold leafM
  by_cases c : σ.2.1 = 0
  · rw [if_pos c]; exact ⟨⟨by show 0 ≤ σ.2.1 + 1; omega, by show σ.2.1 + 1 ≤ σ.2.2; omega, h.n1, .inr hp, hl⟩, e _⟩
  · rw [if_neg c]
    by_cases c2 : leapsT ps < leapsT σ.1
    · rw [if_pos c2]; exact ⟨⟨by show 0 ≤ σ.2.1 + 1; omega, by show σ.2.1 + 1 ≤ σ.2.2; omega, h.n1, .inr hp, hl⟩, e _⟩
    · rw [if_neg c2]; exact ⟨⟨by show 0 ≤ σ.2.1 + 1; omega, by show σ.2.1 + 1 ≤ σ.2.2; omega, h.n1, .inr (h.bs.resolve_left c), h.ln⟩, e _⟩
theorem end_false {fst : Bool} {bud : Int} {σ : SrS} (h : endM fst bud σ = false) : ¬ bud < σ.2.2 ∧ (fst && decide (0 < σ.2.1)) = false := by
  simp only [endM, Bool.or_eq_false_iff] at h; exact ⟨of_decide_eq_false h.1, h.2⟩
theorem visM_ok (u d : List Int) (f : List (List Int)) (sat : List Int → Bool) (lo hi : Int) (h1 : -12 ≤ lo) (h3 : hi ≤ 23) (fst : Bool) (bud : Int) : ∀ (m : Nat) (ps : List Int) (σ : SrS), pitchesB ps = true → ps.length + m ≤ 64 → SrOk bud σ → endM fst bud σ = false → SrStep fst bud (visM u d f sat lo hi fst bud m ps σ) := by
  have full : ∀ σ : SrS, SrOk bud σ → endM fst bud σ = false → bud < σ.2.2 + 1 → SrStep fst bud (true, (σ.1, σ.2.1, σ.2.2 + 1)) := fun σ h he hb => by
    have := (end_false he).1; have := h.c1; have := h.n1; refine ⟨⟨h.c0, by show σ.2.1 ≤ σ.2.2 + 1; omega, by show σ.2.2 + 1 ≤ bud + 1; omega, h.bs, h.ln⟩, ?_⟩; simp only [endM]; rw [decide_eq_true (show bud < σ.2.2 + 1 from hb)]; rfl
  have next : ∀ σ : SrS, SrOk bud σ → endM fst bud σ = false → ¬ bud < σ.2.2 + 1 → SrOk bud (σ.1, σ.2.1, σ.2.2 + 1) ∧ endM fst bud (σ.1, σ.2.1, σ.2.2 + 1) = false := fun σ h he hb => by
    have := h.c1; refine ⟨⟨h.c0, by show σ.2.1 ≤ σ.2.2 + 1; omega, by show σ.2.2 + 1 ≤ bud + 1; omega, h.bs, h.ln⟩, ?_⟩; simp only [endM]; rw [decide_eq_false (show ¬ bud < σ.2.2 + 1 from hb), (end_false he).2]; rfl
  intro m
  induction m with
  | zero =>
    intro ps σ hp hl h he; unfold visM
    by_cases c : bud < σ.2.2 + 1
    · rw [if_pos c]; exact full σ h he c
    · rw [if_neg c]; obtain ⟨ho, hf⟩ := next σ h he c
      by_cases c2 : sat ps = true
      · rw [if_pos c2]; have := h.c1; exact leafM_ok hp ho (by show σ.2.1 < σ.2.2 + 1; omega) c
      · rw [if_neg c2]; exact ⟨ho, hf.symm⟩
  | succ m ih =>
    intro ps σ hp hl h he; unfold visM
    by_cases c : bud < σ.2.2 + 1
    · rw [if_pos c]; exact full σ h he c
    · rw [if_neg c]; obtain ⟨ho, hf⟩ := next σ h he c; refine loopM_ok _ (fun t ht σ' h' he' => ?_) _ ho hf; have hm := stepsM_mem ht; exact ih _ _ (snoc_pitches hp (by omega) (by omega) (by omega)) (by simp; omega) h' he'
theorem endI (fst : Bool) (bud : Int) (σ : SrS) : (decide (bud - σ.2.2 < 0) || (fst && decide (0 < σ.2.1))) = endM fst bud σ := by
  unfold endM
  congr 1
  exact decide_eq_decide.2 (by omega)
theorem impl_visit_l0 (s : ByteArray) (u d : List Int) (a b : Int) (f : List (List Int)) (lg st en lo hi : Int) (q : List (List Int)) (rp : Int) (fst : Bool) (bud : Int) (hlo : -12 ≤ lo) (hhi : hi ≤ 23) (hu : u.length ≤ 1048576) (hd : d.length ≤ 1048576) (hf : f.length ≤ 8) (hf2 : ∀ j, j < f.length → (rd_L1 f j).length = 2)
    (V : List Int → SrS → Bool × SrS) (ps : List Int) (last : Int) (hlast : -1000 ≤ last ∧ last ≤ 1000) (hps : ps.length < 1000)
    (hV : ∀ t, lo ≤ t → t ≤ hi → ∀ σ, SrOk bud σ → endM fst bud σ = false → SrStep fst bud (V (ps ++ [t]) σ) ∧ Ev (fun k => impl_askSearch_visit.f k s u d a b f lg st en lo hi q rp fst (bud - σ.2.2) (ps ++ [t]) σ.1 σ.2.1) (bud - (V (ps ++ [t]) σ).2.2.2, (V (ps ++ [t]) σ).2.1, (V (ps ++ [t]) σ).2.2.1)) :
    ∀ (n : Nat) (tz : Int) (σ : SrS), tz + n = hi + 1 → lo ≤ tz → SrOk bud σ → endM fst bud σ = false →
      Ev (fun k => impl_askSearch_visit.l0 k s u d a b f lg st en lo hi q rp fst last tz (bud - σ.2.2) ps σ.1 σ.2.1) (bud - (loopM V ps (stepsM u d f last tz n) σ).2.2.2, (loopM V ps (stepsM u d f last tz n) σ).2.1, (loopM V ps (stepsM u d f last tz n) σ).2.2.1) := by
  intro n
  induction n with
  | zero =>
    intro tz σ e _ _ _; refine Ev.succ ?_; simp only [impl_askSearch_visit.l0]; exact Ev.ite_neg (by omega) (Ev.now _)
  | succ n ih =>
    intro tz σ e ht hok he; refine Ev.succ ?_; simp only [impl_askSearch_visit.l0]; rw [w64 (x := tz + 1) (by omega) (by omega)]; refine Ev.ite_pos (by omega) (Ev.bind (impl_reason_ev s u d a b f last tz hlast (by omega) hu hd hf hf2) ?_)
    by_cases c : reasonR u d f last tz = 0
    · have es : stepsM u d f last tz (n + 1) = tz :: stepsM u d f last (tz + 1) n := by simp [stepsM, segM, c]
      rw [es]; obtain ⟨hs, hv⟩ := hV tz ht (by omega) σ hok he; refine Ev.ite_pos c (Ev.ite_pos hps (Ev.bind hv ?_))
      cases cz : (V (ps ++ [tz]) σ).1 with
      | true =>
        have el : loopM V ps (tz :: stepsM u d f last (tz + 1) n) σ = (true, (V (ps ++ [tz]) σ).2) := by rw [loopM, if_pos cz]
        rw [el]; refine Ev.ite_pos ?_ (Ev.now _)
        show (decide (bud - (V (ps ++ [tz]) σ).2.2.2 < 0) || (fst && decide (0 < (V (ps ++ [tz]) σ).2.2.1))) = true
        rw [endI, ← hs.ends, cz]
      | false =>
        have el : loopM V ps (tz :: stepsM u d f last (tz + 1) n) σ = loopM V ps (stepsM u d f last (tz + 1) n) (V (ps ++ [tz]) σ).2 := by rw [loopM, if_neg (by rw [cz]; decide)]
        rw [el]; refine Ev.ite_neg ?_ (ih (tz + 1) (V (ps ++ [tz]) σ).2 (by omega) (by omega) hs.ok (by rw [← hs.ends, cz]))
        show ¬ (decide (bud - (V (ps ++ [tz]) σ).2.2.2 < 0) || (fst && decide (0 < (V (ps ++ [tz]) σ).2.2.1))) = true
        rw [endI, ← hs.ends, cz]
        decide
    · have es : stepsM u d f last tz (n + 1) = stepsM u d f last (tz + 1) n := by simp [stepsM, segM, c]
      rw [es]; exact Ev.ite_neg c (ih (tz + 1) σ (by omega) (by omega) hok he)
theorem lastM_bound {ps : List Int} (hp : pitchesB ps = true) (h1 : 1 ≤ ps.length) : -12 ≤ lastM ps ∧ lastM ps ≤ 23 := pitchesB_rd hp (by omega) (by omega)
theorem impl_visit_ev (s : ByteArray) (u d : List Int) (a b : Int) (f : List (List Int)) (lg st en lo hi : Int) (q : List (List Int)) (rp : Int) (fst : Bool) (bud : Int) (hg : 1 ≤ lg) (hg2 : lg ≤ 16) (hlo : -12 ≤ lo) (hlh : lo ≤ hi) (hhi : hi ≤ 23) (hq : ∀ y ∈ q, y.length ≤ 64) (hu : u.length ≤ 1048576) (hd : d.length ≤ 1048576) (hf : f.length ≤ 8) (hf2 : ∀ j, j < f.length → (rd_L1 f j).length = 2) (hb : 0 ≤ bud) (hb2 : bud ≤ 20000) :
    ∀ (m : Nat) (ps : List Int) (σ : SrS), (ps.length : Int) + m = lg → 1 ≤ ps.length → pitchesB ps = true → SrOk bud σ → endM fst bud σ = false →
      Ev (fun k => impl_askSearch_visit.f k s u d a b f lg st en lo hi q rp fst (bud - σ.2.2) ps σ.1 σ.2.1) (bud - (visM u d f (satB u d f lg st en lo hi q rp) lo hi fst bud m ps σ).2.2.2, (visM u d f (satB u d f lg st en lo hi q rp) lo hi fst bud m ps σ).2.1, (visM u d f (satB u d f lg st en lo hi q rp) lo hi fst bud m ps σ).2.2.1) := by
  intro m
  induction m with
  | zero =>
    intro ps σ hl h1 hp hok he; have k1 := hok.c0; have k2 := hok.c1; have k3 := hok.n1; have hlen := pitchesB_len hp; refine Ev.succ ?_; simp only [impl_askSearch_visit.f]; rw [w64 (x := bud - σ.2.2 - 1) (by omega) (by omega), w64 (x := σ.2.1 + 1) (by omega) (by omega), show bud - σ.2.2 - 1 = bud - (σ.2.2 + 1) by omega]; unfold visM
    by_cases c : bud < σ.2.2 + 1
    · rw [if_pos c]; exact Ev.ite_pos (by omega) (Ev.now _)
    · rw [if_neg c]; refine Ev.ite_neg (by omega) (Ev.ite_pos (by omega) (Ev.bind (impl_satisfies_ev s u d a b f lg st en lo hi q rp ps hg hp hq hu hd hf hf2) ?_))
      by_cases c2 : satB u d f lg st en lo hi q rp ps = true
      · rw [if_pos c2]; refine Ev.ite_pos c2 ?_; unfold leafM
        by_cases c3 : σ.2.1 = 0
        · rw [if_pos c3]; exact Ev.ite_pos (by omega) (Ev.bindc (slices_Clone_eq ps (by omega)) (Ev.now _))
        · rw [if_neg c3]; refine Ev.ite_neg (by omega) (Ev.bind (impl_leapsOf_ev ps hp) (Ev.bind (impl_leapsOf_ev σ.1 (hok.bs.resolve_left c3)) ?_))
          by_cases c4 : leapsT ps < leapsT σ.1
          · rw [if_pos c4]; exact Ev.ite_pos c4 (Ev.bindc (slices_Clone_eq ps (by omega)) (Ev.now _))
          · rw [if_neg c4]; exact Ev.ite_neg c4 (Ev.now _)
      · rw [if_neg c2]; exact Ev.ite_neg c2 (Ev.now _)
  | succ m ih =>
    intro ps σ hl h1 hp hok he; have k1 := hok.c0; have k2 := hok.c1; have k3 := hok.n1; have hlen := pitchesB_len hp; refine Ev.succ ?_; simp only [impl_askSearch_visit.f]; rw [w64 (x := bud - σ.2.2 - 1) (by omega) (by omega), show bud - σ.2.2 - 1 = bud - (σ.2.2 + 1) by omega, w64 (x := (ps.length : Int) - 1) (by omega) (by omega)]; unfold visM
    by_cases c : bud < σ.2.2 + 1
    · rw [if_pos c]; exact Ev.ite_pos (by omega) (Ev.now _)
    · rw [if_neg c]; refine Ev.ite_neg (by omega) (Ev.ite_neg (by omega) (Ev.ite_pos (by omega) ?_)); have hb1 := lastM_bound hp h1
      have hn : SrOk bud (σ.1, σ.2.1, σ.2.2 + 1) ∧ endM fst bud (σ.1, σ.2.1, σ.2.2 + 1) = false := by
        refine ⟨⟨hok.c0, by show σ.2.1 ≤ σ.2.2 + 1; omega, by show σ.2.2 + 1 ≤ bud + 1; omega, hok.bs, hok.ln⟩, ?_⟩; simp only [endM]; rw [decide_eq_false (show ¬ bud < σ.2.2 + 1 from c), (end_false he).2]; rfl
      exact impl_visit_l0 s u d a b f lg st en lo hi q rp fst bud hlo hhi hu hd hf hf2 (visM u d f (satB u d f lg st en lo hi q rp) lo hi fst bud m) ps (lastM ps) (by omega) (by omega)
        (fun t t1 t2 σ' h' he' => by
          have hp' := snoc_pitches hp (show ps.length < 64 by omega) (show -12 ≤ t by omega) (show t ≤ 23 by omega)
          have hl' : ((ps ++ [t]).length : Int) + m = lg := by simp; omega
          exact ⟨visM_ok u d f _ lo hi hlo hhi fst bud m _ σ' hp' (by simp; omega) h' he', ih _ σ' hl' (by simp) hp' h' he'⟩)
        (hi + 1 - lo).toNat lo (σ.1, σ.2.1, σ.2.2 + 1) (by omega) (Int.le_refl _) hn.1 hn.2
end Go.Proofs.Ytinlejhffokbaaa.P
end
