/- Texts of this seat, merged: LCopy, LRdL, LSSCopy, LAskCopy, LEvAnd, LRagaCopy, LIn, LInB, LInP, LDropAt, LSInP, LPitches, LWithin, LIInP, LRangeOk, LAskOk, LAbs, LIdx, LHasOne, LName, LIName, LInc, LRises, LScale, LIScale, LTn. -/
import Derived.Test.YtinlejhffokbaaaGCA1
import Derived.Test.YtinlejhffokbaaaGCA2
import Derived.Test.YtinlejhffokbaaaGCA4
import Derived.Test.YtinlejhffokbaaaGCA9
import Derived.Test.YtinlejhffokbaaaGCA10
import Derived.Test.YtinlejhffokbaaaGCA11
import Derived.Test.YtinlejhffokbaaaGCA14
import Derived.Test.YtinlejhffokbaaaGCA15
import Derived.Test.YtinlejhffokbaaaGCA16
import Derived.Test.YtinlejhffokbaaaGCA17
import Derived.Test.YtinlejhffokbaaaGCA19
import Derived.Test.YtinlejhffokbaaaGCA20
import Derived.Test.YtinlejhffokbaaaGCA25
section
namespace Go.Proofs.Ytinlejhffokbaaa.P
open Go.RowKit Go.Proofs.Ytinlejhffokbaaa.P Go.Proofs.YtinlejhffokbaaaW.PrintWords Go.Proofs.YtinlejhffokbaaaW.PrintLast Go.Proofs.YtinlejhffokbaaaW.PrintMore
set_option linter.unusedVariables false
set_option linter.unusedSimpArgs false
set_option maxHeartbeats 16000000
set_option maxRecDepth 100000
theorem set_at {l : List Int} {i : Nat} {v : Int} {m : List Int} (h : i < l.length) (e : l.take i = m) : (l.set i v).take (i + 1) = m ++ [v] := by
  rw [List.take_succ_eq_append_getElem (by simpa using h)]
  simp [List.take_set_of_le, e]
theorem rd_at {l : List Int} {i : Nat} (h : i < l.length) : rd l (i : Int) = l[i] := by simp [rd, h]

theorem toInt64S_l0 (l : List Int) (hl : l.length ≤ 9223372036854775807) : ∀ (d i : Nat) (m : List Int), l.length - i = d → i ≤ l.length → m.length = l.length → m.take i = l.take i → Ev (fun k => laws_toInt64S.l0 k l m i) l := by
  intro d
  induction d with
  | zero =>
    intro i m hd hi hm ht
    have : i = l.length := by omega
    subst this; refine Ev.succ ?_; simp only [laws_toInt64S.l0]; refine Ev.ite_neg (by omega) ?_; rw [List.take_of_length_le (by omega), List.take_of_length_le (Nat.le_refl _)] at ht; rw [ht]; exact Ev.now _
  | succ d ih =>
    intro i m hd hi hm ht; refine Ev.succ ?_; simp only [laws_toInt64S.l0]; refine Ev.ite_pos (by omega) ?_; refine Ev.ite_pos (by omega) ?_; refine Ev.ite_pos (by omega) ?_; rw [w64 (x := (i : Int) + 1) (by omega) (by omega), rd_at (show i < l.length by omega), Int.toNat_natCast]
    have := ih (i + 1) (m.set i l[i]) (by omega) (by omega) (by simpa using hm) (by
      rw [set_at (by omega) ht, ← List.take_succ_eq_append_getElem (by omega)])
    simpa using this
theorem toInt64S_ev (l : List Int) (h : l.length ≤ 35184372088832) : Ev (fun k => laws_toInt64S.f k l) l := by
  unfold laws_toInt64S.f; refine Ev.ite_pos (by omega) ?_; refine Ev.ite_pos (by omega) ?_; exact toInt64S_l0 l (by omega) l.length 0 _ (by omega) (by omega) (by simp) (by simp)

theorem eqInt64S_l0 (a b : List Int) (hl : a.length ≤ 9223372036854775807) (hab : a.length = b.length) : ∀ (d i : Nat), a.length - i = d → i ≤ a.length → a.take i = b.take i → Ev (fun k => laws_eqInt64S.l0 k a b i) (decide (a = b)) := by
  intro d
  induction d with
  | zero =>
    intro i hd hi ht; refine Ev.succ ?_; simp only [laws_eqInt64S.l0]; refine Ev.ite_neg (by omega) ?_; rw [List.take_of_length_le (by omega), List.take_of_length_le (by omega)] at ht
    simpa [ht] using Ev.now true
  | succ d ih =>
    intro i hd hi ht; refine Ev.succ ?_; simp only [laws_eqInt64S.l0]; refine Ev.ite_pos (by omega) ?_; refine Ev.ite_pos (by omega) ?_; refine Ev.ite_pos (by omega) ?_
    by_cases he : rd a i = rd b i
    · refine Ev.ite_pos he ?_; rw [w64 (x := (i : Int) + 1) (by omega) (by omega)]; rw [rd_at (show i < a.length by omega), rd_at (show i < b.length by omega)] at he
      have := ih (i + 1) (by omega) (by omega) (by
        rw [List.take_succ_eq_append_getElem (by omega), List.take_succ_eq_append_getElem (by omega), ht, he])
      simpa using this
    · refine Ev.ite_neg he ?_
      have : ¬ a = b := fun e => he (by rw [e])
      simpa [this] using Ev.now false
theorem eqInt64S_ev (a b : List Int) (hl : a.length ≤ 9223372036854775807) : Ev (fun k => laws_eqInt64S.f k a b) (decide (a = b)) := by
  unfold laws_eqInt64S.f
  by_cases h : a.length = b.length
  · refine Ev.ite_pos (by omega) ?_; exact eqInt64S_l0 a b hl h a.length 0 (by omega) (by omega) (by simp)
  · refine Ev.ite_neg (by omega) ?_
    have : ¬ a = b := fun e => h (by rw [e])
    simpa [this] using Ev.now false
theorem eqInt64S_self (a : List Int) (hl : a.length ≤ 9223372036854775807) : Ev (fun k => laws_eqInt64S.f k a a) true := by simpa using eqInt64S_ev a a hl

theorem rdL_at {f : List (List Int)} {i : Nat} (h : i < f.length) : rd_L1 f (i : Int) = f[i] := by simp [rd_L1, h]
theorem szInt64S_ge (l : List Int) (a : Int) (h0 : 0 ≤ a) (h1 : a ≤ 1048576) (hl : l.length ≤ 9223372036854775807) : ∃ t, laws_szInt64S.f l a = some t ∧ (t < 0 ∨ (0 ≤ t ∧ t ≤ a ∧ l.length ≤ 1048576)) := by
  unfold laws_szInt64S.f; rw [w64 (x := a - l.length) (by omega) (by omega)]
  by_cases h : a - (l.length : Int) < 0
  · exact ⟨-1, by rw [if_pos h], .inl (by omega)⟩
  · exact ⟨_, by rw [if_neg h], .inr (by omega)⟩
theorem szInt64SS_l0 (f : List (List Int)) (hf : f.length ≤ 9223372036854775807) (hr : ∀ y ∈ f, y.length ≤ 9223372036854775807) : ∀ (d i : Nat) (a : Int), f.length - i = d → 0 ≤ a → a ≤ 1048576 → (∀ j, j < i → j < f.length → (rd_L1 f j).length ≤ 1048576) →
    ∃ t, Ev (fun k => laws_szInt64SS.l0 k f a i) t ∧ (t < 0 ∨ (0 ≤ t ∧ t ≤ a ∧ ∀ j, j < f.length → (rd_L1 f j).length ≤ 1048576)) := by
  intro d
  induction d with
  | zero =>
    intro i a hd h0 h1 hj; refine ⟨a, Ev.succ ?_, .inr ⟨h0, Int.le_refl _, fun j h => hj j (by omega) h⟩⟩; simp only [laws_szInt64SS.l0]; exact Ev.ite_neg (by omega) (Ev.now _)
  | succ d ih =>
    intro i a hd h0 h1 hj
    have hi : i < f.length := by omega
    obtain ⟨t, ht, hc⟩ := szInt64S_ge (rd_L1 f i) a h0 h1 (by rw [rdL_at hi]; exact hr _ (List.getElem_mem hi))
    rcases hc with hc | ⟨c0, c1, c2⟩
    · refine ⟨-1, Ev.succ ?_, .inl (by omega)⟩; simp only [laws_szInt64SS.l0]; exact Ev.ite_pos (by omega) (Ev.ite_pos (by omega) (Ev.bindc ht (Ev.ite_pos hc (Ev.now _))))
    · obtain ⟨r, hr1, hr2⟩ := ih (i + 1) t (by omega) c0 (by omega) (fun j h1 h2 => by
        by_cases e : j = i
        · subst e; exact c2
        · exact hj j (by omega) h2)
      refine ⟨r, Ev.succ ?_, ?_⟩
      · simp only [laws_szInt64SS.l0]; rw [w64 (x := (i : Int) + 1) (by omega) (by omega)]; exact Ev.ite_pos (by omega) (Ev.ite_pos (by omega) (Ev.bindc ht (Ev.ite_neg (by omega) (by simpa using hr1))))
      · rcases hr2 with h | ⟨g0, g1, g2⟩
        · exact .inl h
        · exact .inr ⟨g0, by omega, g2⟩
theorem szInt64SS_ge (f : List (List Int)) (a : Int) (h0 : 0 ≤ a) (h1 : a ≤ 1048576) (hf : f.length ≤ 9223372036854775807) (hr : ∀ y ∈ f, y.length ≤ 9223372036854775807) :
    ∃ t, Ev (fun k => laws_szInt64SS.f k f a) t ∧ (t < 0 ∨ (0 ≤ t ∧ t ≤ a ∧ f.length ≤ 1048576 ∧ ∀ j, j < f.length → (rd_L1 f j).length ≤ 1048576)) := by
  unfold laws_szInt64SS.f; rw [w64 (x := a - f.length) (by omega) (by omega)]
  by_cases h : a - (f.length : Int) < 0
  · exact ⟨-1, Ev.ite_pos h (Ev.now _), .inl (by omega)⟩
  · obtain ⟨t, h2, h3⟩ := szInt64SS_l0 f hf hr f.length 0 (a - f.length) (by omega) (by omega) (by omega) (fun j h => by omega); refine ⟨t, Ev.ite_neg h (by simpa using h2), ?_⟩
    rcases h3 with h3 | ⟨g0, g1, g2⟩
    · exact .inl h3
    · exact .inr ⟨g0, by omega, by omega, g2⟩
theorem setL_at {l : List (List Int)} {i : Nat} {v : List Int} {m : List (List Int)} (h : i < l.length) (e : l.take i = m) : (l.set i v).take (i + 1) = m ++ [v] := by
  rw [List.take_succ_eq_append_getElem (by simpa using h)]
  simp [List.take_set_of_le, e]
theorem toInt64SS_l0 (l : List (List Int)) (hl : l.length ≤ 1048576) (hr : ∀ j, j < l.length → (rd_L1 l j).length ≤ 1048576) : ∀ (d i : Nat) (m : List (List Int)), l.length - i = d → i ≤ l.length → m.length = l.length → m.take i = l.take i → Ev (fun k => laws_toInt64SS.l0 k l m i) l := by
  intro d
  induction d with
  | zero =>
    intro i m hd hi hm ht
    have : i = l.length := by omega
    subst this; refine Ev.succ ?_; simp only [laws_toInt64SS.l0]; refine Ev.ite_neg (by omega) ?_; rw [List.take_of_length_le (by omega), List.take_of_length_le (Nat.le_refl _)] at ht; rw [ht]; exact Ev.now _
  | succ d ih =>
    intro i m hd hi hm ht
    have hi' : i < l.length := by omega
    refine Ev.succ ?_; simp only [laws_toInt64SS.l0]; refine Ev.ite_pos (by omega) (Ev.ite_pos (by omega) (Ev.bind (toInt64S_ev (rd_L1 l i) (by have := hr i hi'; omega)) (Ev.ite_pos (by omega) ?_))); rw [w64 (x := (i : Int) + 1) (by omega) (by omega), rdL_at hi', Int.toNat_natCast]
    have := ih (i + 1) (m.set i l[i]) (by omega) (by omega) (by simpa using hm) (by
      rw [setL_at (by omega) ht, ← List.take_succ_eq_append_getElem (by omega)])
    simpa using this
theorem toInt64SS_ev (l : List (List Int)) (h : l.length ≤ 1048576) (hr : ∀ j, j < l.length → (rd_L1 l j).length ≤ 1048576) : Ev (fun k => laws_toInt64SS.f k l) l := by
  unfold laws_toInt64SS.f; refine Ev.ite_pos (by omega) (Ev.ite_pos (by omega) ?_); exact toInt64SS_l0 l h hr l.length 0 _ (by omega) (by omega) (by simp) (by simp)
theorem eqInt64SS_l0 (l : List (List Int)) (hl : l.length ≤ 1048576) (hr : ∀ j, j < l.length → (rd_L1 l j).length ≤ 1048576) : ∀ (d i : Nat), l.length - i = d → Ev (fun k => laws_eqInt64SS.l0 k l l i) true := by
  intro d
  induction d with
  | zero =>
    intro i hd; refine Ev.succ ?_; simp only [laws_eqInt64SS.l0]; exact Ev.ite_neg (by omega) (Ev.now _)
  | succ d ih =>
    intro i hd; refine Ev.succ ?_; simp only [laws_eqInt64SS.l0]; rw [w64 (x := (i : Int) + 1) (by omega) (by omega)]; exact Ev.ite_pos (by omega) (Ev.ite_pos (by omega) (Ev.ite_pos (by omega) (Ev.bind (eqInt64S_self _ (by have := hr i (by omega); omega)) (Ev.ite_pos rfl (by simpa using ih (i + 1) (by omega))))))
theorem eqInt64SS_self (l : List (List Int)) (hl : l.length ≤ 1048576) (hr : ∀ j, j < l.length → (rd_L1 l j).length ≤ 1048576) : Ev (fun k => laws_eqInt64SS.f k l l) true := by
  unfold laws_eqInt64SS.f; exact Ev.ite_pos rfl (by simpa using eqInt64SS_l0 l hl hr l.length 0 (by omega))
theorem szAsk_ge (lg st en lo hi : Int) (q : List (List Int)) (rp z : Int) (z0 : 0 ≤ z) (z1 : z ≤ 1048576) (hq : q.length ≤ maxLen) (hr : ∀ y ∈ q, y.length ≤ maxLen) : ∃ t, Ev (fun k => laws_szAsk.f k lg st en lo hi q rp z) t ∧ (t < 0 ∨ (0 ≤ t ∧ t ≤ 1048576 ∧ q.length ≤ 1048576 ∧ ∀ j, j < q.length → (rd_L1 q j).length ≤ 1048576)) := by
  obtain ⟨y, ey, cy⟩ := szInt64SS_ge q z z0 z1 hq hr
  rcases cy with cy | ⟨y0, y1, hR, hRj⟩
  · refine ⟨-1, ?_, .inl (by omega)⟩; unfold laws_szAsk.f; exact Ev.bind ey (Ev.ite_pos cy (Ev.now _))
  · refine ⟨y, ?_, .inr ⟨y0, by omega, hR, hRj⟩⟩; unfold laws_szAsk.f; exact Ev.bind ey (Ev.ite_neg (by omega) (Ev.now _))
theorem toAsk_ev (lg st en lo hi : Int) (q : List (List Int)) (rp : Int) (c2 : q.length ≤ 1048576) (c3 : ∀ j, j < q.length → (rd_L1 q j).length ≤ 1048576) : Ev (fun k => laws_toAsk.f k lg st en lo hi q rp) (lg, st, en, lo, hi, q, rp) := by
  unfold laws_toAsk.f; exact Ev.bind (toInt64SS_ev q c2 c3) (Ev.now _)
theorem eqAsk_self (lg st en lo hi : Int) (q : List (List Int)) (rp : Int) (c2 : q.length ≤ 1048576) (c3 : ∀ j, j < q.length → (rd_L1 q j).length ≤ 1048576) : Ev (fun k => laws_eqAsk.f k lg st en lo hi q rp lg st en lo hi q rp) true := by
  unfold laws_eqAsk.f; exact Ev.ite_pos rfl (Ev.ite_pos rfl (Ev.ite_pos rfl (Ev.ite_pos rfl (Ev.ite_pos rfl (Ev.bind (eqInt64SS_self q c2 c3) (Ev.ite_pos rfl (Ev.ite_pos rfl (Ev.now _))))))))
theorem Ev.and {α : Type} {g : Nat → Option α} {r : α} {P : Nat → Prop} (h : Ev g r) (h' : ∃ K, ∀ k, K ≤ k → P k) : ∃ K, ∀ k, K ≤ k → (g k = some r ∧ P k) := by
  obtain ⟨a, ha⟩ := h; obtain ⟨b, hb⟩ := h'; exact ⟨max a b, fun k hk => ⟨ha k (Nat.le_trans (Nat.le_max_left _ _) hk), hb k (Nat.le_trans (Nat.le_max_right _ _) hk)⟩⟩
def Fits (s : ByteArray) (u d : List Int) (f : List (List Int)) : Prop := s.size ≤ 1048576 ∧ u.length ≤ 1048576 ∧ d.length ≤ 1048576 ∧ f.length ≤ 1048576 ∧ ∀ j, j < f.length → (rd_L1 f j).length ≤ 1048576
theorem szRaga_ge (s : ByteArray) (u d : List Int) (st wk : Int) (f : List (List Int)) (a : Int) (h0 : 0 ≤ a) (h1 : a ≤ 1048576) (hs : s.size ≤ maxLen) (hu : u.length ≤ maxLen) (hd : d.length ≤ maxLen) (hf : f.length ≤ maxLen) (hr : ∀ y ∈ f, y.length ≤ maxLen) :
    ∃ t, Ev (fun k => laws_szRaga.f k s u d st wk f a) t ∧ (t < 0 ∨ (0 ≤ t ∧ t ≤ a ∧ Fits s u d f)) := by
  have e : maxLen ≤ 9223372036854775807 := by decide
  unfold laws_szRaga.f; rw [w64 (x := a - s.size) (by omega) (by omega)]
  by_cases h : a - (s.size : Int) < 0
  · exact ⟨-1, Ev.ite_pos h (Ev.now _), .inl (by omega)⟩
  obtain ⟨t1, e1, c1⟩ := szInt64S_ge u (a - s.size) (by omega) (by omega) (Nat.le_trans hu e)
  rcases c1 with c1 | ⟨a1, b1, d1⟩
  · exact ⟨-1, Ev.ite_neg h (Ev.bindc e1 (Ev.ite_pos c1 (Ev.now _))), .inl (by omega)⟩
  obtain ⟨t2, e2, c2⟩ := szInt64S_ge d t1 (by omega) (by omega) (Nat.le_trans hd e)
  rcases c2 with c2 | ⟨a2, b2, d2⟩
  · exact ⟨-1, Ev.ite_neg h (Ev.bindc e1 (Ev.ite_neg (by omega) (Ev.bindc e2 (Ev.ite_pos c2 (Ev.now _))))), .inl (by omega)⟩
  obtain ⟨t3, e3, c3⟩ := szInt64SS_ge f t2 (by omega) (by omega) (Nat.le_trans hf e) (fun y hy => Nat.le_trans (hr y hy) e)
  rcases c3 with c3 | ⟨a3, b3, d3, f3⟩
  · exact ⟨-1, Ev.ite_neg h (Ev.bindc e1 (Ev.ite_neg (by omega) (Ev.bindc e2 (Ev.ite_neg (by omega) (Ev.bind e3 (Ev.ite_pos c3 (Ev.now _))))))), .inl (by omega)⟩
  · exact ⟨t3, Ev.ite_neg h (Ev.bindc e1 (Ev.ite_neg (by omega) (Ev.bindc e2 (Ev.ite_neg (by omega) (Ev.bind e3 (Ev.ite_neg (by omega) (Ev.now _))))))), .inr ⟨a3, by omega, by omega, d1, d2, d3, f3⟩⟩
theorem toRaga_ev {s : ByteArray} {u d : List Int} {f : List (List Int)} (h : Fits s u d f) (st wk : Int) : Ev (fun k => laws_toRaga.f k s u d st wk f) (s, u, d, st, wk, f) := by
  unfold laws_toRaga.f; exact Ev.bind (toInt64S_ev u (by have := h.2.1; omega)) (Ev.bind (toInt64S_ev d (by have := h.2.2.1; omega)) (Ev.bind (toInt64SS_ev f h.2.2.2.1 h.2.2.2.2) (Ev.now _)))
theorem eqRaga_self {s : ByteArray} {u d : List Int} {f : List (List Int)} (h : Fits s u d f) (st wk : Int) : Ev (fun k => laws_eqRaga.f k s u d st wk f s u d st wk f) true := by
  unfold laws_eqRaga.f; exact Ev.ite_pos rfl (Ev.bind (eqInt64S_self u (by have := h.2.1; omega)) (Ev.ite_pos rfl (Ev.bind (eqInt64S_self d (by have := h.2.2.1; omega)) (Ev.ite_pos rfl (Ev.ite_pos rfl (Ev.ite_pos rfl (Ev.bind (eqInt64SS_self f h.2.2.2.1 h.2.2.2.2) (Ev.ite_pos rfl (Ev.now _)))))))))
theorem spec_l00In_eq (n a b : Int) : spec_l00In.f n a b = some (decide (a ≤ n) && decide (n ≤ b)) := by
  unfold spec_l00In.f
  by_cases h : n ≥ a
  · have : a ≤ n := h
    simp [this]
  · have : ¬ a ≤ n := h
    simp [this]
def inB (n a b : Int) : Bool := decide (a ≤ n) && decide (n ≤ b)
def inP (n : Int) : Bool := decide (-12 ≤ n) && decide (n ≤ 23)
theorem all_drop_at {l : List Int} {i : Nat} (q : Int → Bool) (h : i < l.length) : (l.drop i).all q = (q (rd l i) && (l.drop (i + 1)).all q) := by
  rw [List.drop_eq_getElem_cons h, List.all_cons, rd_at h]
theorem spec_l03Pitch_eq (n : Int) : spec_l03Pitch.f n = some (inP n) := by
  unfold spec_l03Pitch.f; rw [spec_l00In_eq]; rfl
def pitchesB (l : List Int) : Bool := decide (l.length ≤ 64) && l.all inP
theorem spec_l05Pitches_l0 (l : List Int) (hl : l.length ≤ 9223372036854775807) : ∀ (d i : Nat), l.length - i = d → i ≤ l.length → Ev (fun k => spec_l05Pitches.l0 k l i) ((l.drop i).all inP && decide (l.length ≤ 64)) := by
  intro d
  induction d with
  | zero =>
    intro i hd hi; refine Ev.succ ?_; simp only [spec_l05Pitches.l0]; refine Ev.ite_neg (by omega) ?_; rw [List.drop_of_length_le (by omega)]; refine Ev.cast (Ev.now _) ?_
    simp
    omega
  | succ d ih =>
    intro i hd hi; refine Ev.succ ?_; simp only [spec_l05Pitches.l0]; refine Ev.ite_pos (by omega) ?_; refine Ev.ite_pos (by omega) ?_; refine Ev.bindc (spec_l03Pitch_eq _) ?_; rw [all_drop_at inP (by omega)]
    cases hq : inP (rd l i) with
    | true =>
      refine Ev.ite_pos rfl ?_; rw [w64 (x := (i : Int) + 1) (by omega) (by omega)]
      simpa using ih (i + 1) (by omega) (by omega)
    | false =>
      refine Ev.ite_neg (by decide) ?_
      simpa using Ev.now false
theorem spec_l05Pitches_ev (l : List Int) (hl : l.length ≤ 9223372036854775807) : Ev (fun k => spec_l05Pitches.f k l) (pitchesB l) := by
  unfold spec_l05Pitches.f pitchesB; have := spec_l05Pitches_l0 l hl l.length 0 (by omega) (by omega); rw [Bool.and_comm]
  simpa using this
theorem impl_pitchesOk_eq (l : List Int) : impl_pitchesOk.f l = some (pitchesB l) := by
  unfold impl_pitchesOk.f impl_allWithin.f pitchesB
  by_cases h : l.length ≤ 64
  · have h' : (l.length : Int) ≤ 64 := by omega
    simp only [h', h, if_true, decide_true, Bool.true_and]; rfl
  · have h' : ¬ (l.length : Int) ≤ 64 := by omega
    simp [h]
    omega
theorem pitchesB_len {l : List Int} (h : pitchesB l = true) : l.length ≤ 64 := by
  simp only [pitchesB, Bool.and_eq_true, decide_eq_true_eq] at h; exact h.1
theorem pitchesB_rd {l : List Int} (h : pitchesB l = true) {i : Int} (h0 : 0 ≤ i) (h1 : i < l.length) : -12 ≤ rd l i ∧ rd l i ≤ 23 := by
  simp only [pitchesB, Bool.and_eq_true, decide_eq_true_eq, List.all_eq_true] at h; obtain ⟨n, rfl⟩ := Int.eq_ofNat_of_zero_le h0; rw [rd_at (show n < l.length by omega)]; have := h.2 l[n] (List.getElem_mem _)
  simpa [inP] using this
theorem impl_within_eq (n a b : Int) : impl_within.f n a b = some (decide (a ≤ n) && decide (n ≤ b)) := by
  unfold impl_within.f
  by_cases h : n ≥ a
  · have : a ≤ n := h
    simp [this]
  · have : ¬ a ≤ n := h
    simp [this]
theorem impl_pitchOk_eq (n : Int) : impl_pitchOk.f n = some (inP n) := by
  unfold impl_pitchOk.f; rw [impl_within_eq]; rfl
theorem impl_rangeOk_eq (a b : Int) : impl_rangeOk.f a b = some (inP a && inB b a 23) := by
  unfold impl_rangeOk.f; rw [impl_pitchOk_eq, impl_within_eq]; simp only [Option.bind_some]
  cases inP a with
  | true => rw [if_pos rfl]; rfl
  | false => rw [if_neg (by decide)]; rfl
def partB (l : List Int) : Bool := (decide (1 ≤ l.length) && decide (l.length ≤ 8)) && pitchesB l
def partsB (p : List (List Int)) : Nat → Nat → Bool
  | 0, _ => true
  | d + 1, i => partB (rd_L1 p i) && partsB p d (i + 1)
def askB (lo st en low hi : Int) (p : List (List Int)) (rp : Int) : Bool := inB lo 1 16 && (inP low && (inB hi low 23 && (inB st low hi && (inB en low hi && (inB rp 0 16 && (partsB p p.length 0 && decide (p.length ≤ 4)))))))
theorem spec_l15Ok_l0 (lo st en low hi : Int) (p : List (List Int)) (rp : Int) (hp : p.length ≤ 1048576) (hr : ∀ j, j < p.length → (rd_L1 p j).length ≤ 1048576) : ∀ (d i : Nat), p.length - i = d → Ev (fun k => spec_l15Ok.l0 k i lo st en low hi p rp) (partsB p d i && decide (p.length ≤ 4)) := by
  intro d
  induction d with
  | zero =>
    intro i hd; refine Ev.succ ?_; simp only [spec_l15Ok.l0]; refine Ev.ite_neg (by omega) (Ev.cast (Ev.now _) ?_)
    simp [partsB]
    omega
  | succ d ih =>
    intro i hd; have hl := hr i (by omega); refine Ev.succ ?_; simp only [spec_l15Ok.l0, partsB]; rw [w64 (x := (i : Int) + 1) (by omega) (by omega)]; refine Ev.ite_pos (by omega) (Ev.ite_pos (by omega) (Ev.bindc (spec_l00In_eq _ _ _) ?_))
    have e : (decide ((1 : Int) ≤ ((rd_L1 p i).length : Int)) && decide (((rd_L1 p i).length : Int) ≤ 8)) = (decide (1 ≤ (rd_L1 p i).length) && decide ((rd_L1 p i).length ≤ 8)) := by
      rw [Bool.eq_iff_iff]; simp only [Bool.and_eq_true, decide_eq_true_eq]
      omega
    rw [e]
    cases h1 : (decide (1 ≤ (rd_L1 p i).length) && decide ((rd_L1 p i).length ≤ 8)) with
    | false => exact Ev.ite_neg (by decide) (Ev.cast (Ev.now false) (by simp [partB, h1]))
    | true =>
      refine Ev.ite_pos rfl (Ev.bind (spec_l05Pitches_ev _ (by omega)) ?_)
      cases h2 : pitchesB (rd_L1 p i) with
      | false => exact Ev.ite_neg (by decide) (Ev.cast (Ev.now false) (by simp [partB, h2]))
      | true => exact Ev.ite_pos rfl (Ev.cast (by simpa using ih (i + 1) (by omega)) (by simp [partB, h1, h2]))
theorem spec_l15Ok_ev (lo st en low hi : Int) (p : List (List Int)) (rp : Int) (hp : p.length ≤ 1048576) (hr : ∀ j, j < p.length → (rd_L1 p j).length ≤ 1048576) : Ev (fun k => spec_l15Ok.f k lo st en low hi p rp) (askB lo st en low hi p rp) := by
  have jt : Ev (fun k => spec_l15Ok.j0 k true lo st en low hi p rp) false := by
    refine Ev.succ ?_; simp only [spec_l15Ok.j0]; exact Ev.ite_pos (by decide) (Ev.now _)
  unfold spec_l15Ok.f askB; refine Ev.bindc (spec_l00In_eq _ _ _) ?_; rw [show (decide (1 ≤ lo) && decide (lo ≤ 16)) = inB lo 1 16 from rfl]
  cases h1 : inB lo 1 16 with
  | false => exact Ev.ite_neg (by decide) jt
  | true =>
    refine Ev.ite_pos rfl (Ev.bindc (spec_l03Pitch_eq _) ?_)
    cases h2 : inP low with
    | false => exact Ev.ite_neg (by decide) jt
    | true =>
      refine Ev.ite_pos rfl (Ev.bindc (spec_l00In_eq _ _ _) ?_); rw [show (decide (low ≤ hi) && decide (hi ≤ 23)) = inB hi low 23 from rfl]
      cases h3 : inB hi low 23 with
      | false => exact Ev.ite_neg (by decide) jt
      | true =>
        refine Ev.ite_pos rfl (Ev.bindc (spec_l00In_eq _ _ _) ?_); rw [show (decide (low ≤ st) && decide (st ≤ hi)) = inB st low hi from rfl]
        cases h4 : inB st low hi with
        | false => exact Ev.ite_neg (by decide) jt
        | true =>
          refine Ev.ite_pos rfl (Ev.bindc (spec_l00In_eq _ _ _) ?_); rw [show (decide (low ≤ en) && decide (en ≤ hi)) = inB en low hi from rfl]
          cases h5 : inB en low hi with
          | false => exact Ev.ite_neg (by decide) jt
          | true =>
            refine Ev.ite_pos rfl (Ev.bindc (spec_l00In_eq _ _ _) ?_); rw [show (decide (0 ≤ rp) && decide (rp ≤ 16)) = inB rp 0 16 from rfl]
            cases h6 : inB rp 0 16 with
            | false => exact jt
            | true =>
              refine Ev.succ ?_; simp only [spec_l15Ok.j0]; exact Ev.ite_neg (by decide) (by simpa using spec_l15Ok_l0 lo st en low hi p rp hp hr p.length 0 (by omega))
theorem impl_ValidAsk_l0 (p : List (List Int)) (hp : p.length ≤ 1048576) : ∀ (d i : Nat), p.length - i = d → Ev (fun k => impl_ValidAsk.l0 k p (p.length : Int) i) (partsB p d i) := by
  intro d
  induction d with
  | zero =>
    intro i hd; refine Ev.succ ?_; simp only [impl_ValidAsk.l0]; exact Ev.ite_neg (by omega) (Ev.now _)
  | succ d ih =>
    intro i hd; refine Ev.succ ?_; simp only [impl_ValidAsk.l0, partsB]; rw [w64 (x := (i : Int) + 1) (by omega) (by omega)]; refine Ev.ite_pos (by omega) (Ev.ite_pos (by omega) (Ev.ite_pos (by omega) ?_))
    by_cases h1 : ((rd_L1 p i).length : Int) < 1
    · have e : ¬ 1 ≤ (rd_L1 p i).length := by omega
      exact Ev.ite_pos h1 (Ev.cast (Ev.now false) (by simp [partB, e]))
    · refine Ev.ite_neg h1 ?_
      by_cases h2 : ((rd_L1 p i).length : Int) > 8
      · have e : ¬ (rd_L1 p i).length ≤ 8 := by omega
        exact Ev.ite_pos h2 (Ev.cast (Ev.now false) (by simp [partB, e]))
      · refine Ev.ite_neg h2 (Ev.bindc (impl_pitchesOk_eq _) ?_)
        have e1 : 1 ≤ (rd_L1 p i).length := by omega
        have e2 : (rd_L1 p i).length ≤ 8 := by omega
        cases h3 : pitchesB (rd_L1 p i) with
        | false => exact Ev.ite_neg (by decide) (Ev.cast (Ev.now false) (by simp [partB, h3]))
        | true => exact Ev.ite_pos rfl (Ev.cast (by simpa using ih (i + 1) (by omega)) (by simp [partB, e1, e2, h3]))
theorem impl_ValidAsk_ev (lo st en low hi : Int) (p : List (List Int)) (rp : Int) (hp : p.length ≤ 1048576) : Ev (fun k => impl_ValidAsk.f k lo st en low hi p rp) (askB lo st en low hi p rp) := by
  have jt : Ev (fun k => impl_ValidAsk.j0 k true lo st en low hi p rp) false := by
    refine Ev.succ ?_; simp only [impl_ValidAsk.j0]; exact Ev.ite_pos (by decide) (Ev.now _)
  unfold impl_ValidAsk.f askB; refine Ev.bindc (impl_within_eq _ _ _) ?_; rw [show (decide (1 ≤ lo) && decide (lo ≤ 16)) = inB lo 1 16 from rfl]
  cases h1 : inB lo 1 16 with
  | false => exact Ev.ite_neg (by decide) jt
  | true =>
    refine Ev.ite_pos rfl (Ev.bindc (impl_rangeOk_eq _ _) ?_)
    cases h2 : inP low with
    | false => exact Ev.ite_neg (by simp) jt
    | true =>
      cases h3 : inB hi low 23 with
      | false => exact Ev.ite_neg (by decide) jt
      | true =>
        refine Ev.ite_pos rfl (Ev.bindc (impl_within_eq _ _ _) ?_); rw [show (decide (low ≤ st) && decide (st ≤ hi)) = inB st low hi from rfl]
        cases h4 : inB st low hi with
        | false => exact Ev.ite_neg (by decide) jt
        | true =>
          refine Ev.ite_pos rfl (Ev.bindc (impl_within_eq _ _ _) ?_); rw [show (decide (low ≤ en) && decide (en ≤ hi)) = inB en low hi from rfl]
          cases h5 : inB en low hi with
          | false => exact Ev.ite_neg (by decide) jt
          | true =>
            refine Ev.ite_pos rfl ?_
            by_cases h6 : (p.length : Int) > 4
            · have e : ¬ p.length ≤ 4 := by omega
              exact Ev.ite_pos h6 (Ev.cast jt (by simp [e]))
            · have e : p.length ≤ 4 := by omega
              refine Ev.ite_neg h6 (Ev.bindc (impl_within_eq _ _ _) ?_); rw [show (decide (0 ≤ rp) && decide (rp ≤ 16)) = inB rp 0 16 from rfl]
              cases h7 : inB rp 0 16 with
              | false => exact jt
              | true =>
                refine Ev.succ ?_; simp only [impl_ValidAsk.j0]; refine Ev.ite_neg (by decide) (Ev.cast (by simpa using impl_ValidAsk_l0 p hp p.length 0 (by omega)) ?_)
                simp [e]
theorem impl_abs_eq (a : Int) (h0 : -9223372036854775807 ≤ a) (h1 : a ≤ 9223372036854775807) : impl_abs.f a = some (max a (-a)) := by
  unfold impl_abs.f; rw [w64 (x := -a) (by omega) (by omega), mx_eq]
def idxM (s : List Int) (t : Int) : Nat → Nat → Int
  | 0, _ => -1
  | d + 1, i => if rd s i = t then (i : Int) else idxM s t d (i + 1)
theorem slices_Index_l0 (s : List Int) (t : Int) (hl : s.length ≤ 1048576) : ∀ (d i : Nat), s.length - i = d → Ev (fun k => slices_Index_int64_int64.l0 k s t (s.length : Int) i) (idxM s t d i) := by
  intro d
  induction d with
  | zero =>
    intro i hd; refine Ev.succ ?_; simp only [slices_Index_int64_int64.l0]; exact Ev.ite_neg (by omega) (Ev.now _)
  | succ d ih =>
    intro i hd; refine Ev.succ ?_; simp only [slices_Index_int64_int64.l0]; rw [w64 (x := (i : Int) + 1) (by omega) (by omega)]; refine Ev.ite_pos (by omega) (Ev.ite_pos (by omega) (Ev.ite_pos (by omega) ?_)); simp only [idxM]
    by_cases h : rd s i = t
    · rw [if_pos h]; exact Ev.ite_pos h.symm (Ev.now _)
    · rw [if_neg h]; exact Ev.ite_neg (fun e => h e.symm) (by simpa using ih (i + 1) (by omega))
def hasM (l : List Int) (v : Int) : Bool := l.any fun n => decide (n = v)
theorem idxM_has (s : List Int) (t : Int) : ∀ d i, s.length - i = d → decide (idxM s t d i ≥ 0) = hasM (s.drop i) t := by
  intro d
  induction d with
  | zero =>
    intro i hd; rw [List.drop_of_length_le (by omega)]
    simp [idxM, hasM]
  | succ d ih =>
    intro i hd
    have hi : i < s.length := by omega
    by_cases h : rd s i = t
    · have e : idxM s t (d + 1) i = (i : Int) := by
        simp only [idxM]; rw [if_pos h]
      rw [e, List.drop_eq_getElem_cons hi, ← rd_at hi, decide_eq_true (show (i : Int) ≥ 0 by omega)]
      simp [hasM, h]
    · have e : idxM s t (d + 1) i = idxM s t d (i + 1) := by
        simp only [idxM]; rw [if_neg h]
      rw [e, ih (i + 1) (by omega), List.drop_eq_getElem_cons hi, ← rd_at hi]
      simp [hasM, h]
theorem slices_Contains_ev (s : List Int) (t : Int) (hl : s.length ≤ 1048576) : Ev (fun k => slices_Contains_int64_int64.f k s t) (hasM s t) := by
  unfold slices_Contains_int64_int64.f; refine Ev.bind (a := idxM s t s.length 0) ?_ ?_
  · unfold slices_Index_int64_int64.f
    simpa using slices_Index_l0 s t hl s.length 0 (by omega)
  · refine Ev.cast (Ev.now _) ?_
    simpa using idxM_has s t s.length 0 (by omega)
def smallB (b : Int) : Bool := decide (97 ≤ b) && decide (b ≤ 122)
def digitB (b : Int) : Bool := decide (48 ≤ b) && decide (b ≤ 57)
def nameB (s : ByteArray) : Bool := decide (1 ≤ s.size) && decide (s.size ≤ 10) && smallB (bt s 0) && (List.range' 0 s.size).all fun j => smallB (bt s j) || digitB (bt s j)
theorem toList_nil (s : ByteArray) : s.toList = [] ↔ s.size = 0 := by
  rw [ByteArray.toList_eq, List.eq_nil_iff_length_eq_zero]; exact Iff.rfl
theorem spec_l01Small_eq (b : Int) : spec_l01Small.f b = some (smallB b) := by
  unfold spec_l01Small.f smallB
  by_cases h : b ≥ 97
  · have : 97 ≤ b := h
    simp [this]
  · have : ¬ 97 ≤ b := h
    simp [this]
theorem spec_l01Digit_eq (b : Int) : spec_l01Digit.f b = some (digitB b) := by
  unfold spec_l01Digit.f digitB
  by_cases h : b ≥ 48
  · have : 48 ≤ b := h
    simp [this]
  · have : ¬ 48 ≤ b := h
    simp [this]
def bytesB (s : ByteArray) (i d : Nat) : Bool := (List.range' i d).all fun j => smallB (bt s j) || digitB (bt s j)
theorem bytesB_succ (s : ByteArray) (i d : Nat) : bytesB s i (d + 1) = ((smallB (bt s i) || digitB (bt s i)) && bytesB s (i + 1) d) := by
  simp [bytesB, List.range'_succ]
theorem spec_l01Name_l0 (s : ByteArray) (hs : s.size ≤ 10) : ∀ (d i : Nat), s.size - i = d → Ev (fun k => spec_l01Name.l0 k s i) (bytesB s i d) := by
  intro d
  induction d with
  | zero =>
    intro i hd; refine Ev.succ ?_; simp only [spec_l01Name.l0]; refine Ev.ite_neg (by omega) ?_; exact Ev.now _
  | succ d ih =>
    intro i hd; refine Ev.succ ?_; simp only [spec_l01Name.l0]; refine Ev.ite_pos (by omega) ?_; refine Ev.ite_pos (by omega) ?_; refine Ev.bindc (spec_l01Small_eq _) ?_
    have ih' : Ev (fun k => spec_l01Name.l0 k s ((i : Int) + 1)) (bytesB s (i + 1) d) := by simpa using ih (i + 1) (by omega)
    rw [w64 (x := (i : Int) + 1) (by omega) (by omega), bytesB_succ]
    cases h : smallB (bt s i) with
    | true =>
      refine Ev.ite_pos rfl ?_
      simpa using ih'
    | false =>
      refine Ev.ite_neg (by decide) ?_; refine Ev.bindc (spec_l01Digit_eq _) ?_
      cases h' : digitB (bt s i) with
      | true =>
        refine Ev.ite_pos rfl ?_
        simpa using ih'
      | false =>
        refine Ev.ite_neg (by decide) ?_
        simpa using Ev.now false
theorem spec_l01Name_ev (s : ByteArray) : Ev (fun k => spec_l01Name.f k s) (nameB s) := by
  unfold spec_l01Name.f nameB
  have hno : Ev (fun k => spec_l01Name.j0 k s true) false := by
    refine Ev.succ ?_; simp only [spec_l01Name.j0]; exact Ev.ite_pos (by simp) (Ev.now _)
  by_cases h0 : s.size = 0
  · refine Ev.ite_pos ((toList_nil s).2 h0) ?_; exact Ev.cast hno (by simp [h0])
  refine Ev.ite_neg (fun h => h0 ((toList_nil s).1 h)) ?_
  by_cases h1 : s.size ≤ 10
  · refine Ev.ite_neg (by omega) ?_; refine Ev.ite_pos (by omega) ?_; refine Ev.bindc (spec_l01Small_eq _) ?_
    cases h : smallB (bt s 0) with
    | true =>
      refine Ev.succ ?_; simp only [spec_l01Name.j0]; refine Ev.ite_neg (by simp) ?_; have := spec_l01Name_l0 s h1 s.size 0 (by omega); refine Ev.cast (by simpa using this) ?_
      have h2 : 1 ≤ s.size := by omega
      simp [bytesB, h1, h2]
    | false => exact Ev.cast hno (by simp)
  · refine Ev.ite_pos (by omega) ?_; exact Ev.cast hno (by simp; omega)
theorem impl_onlyNameBytes_l0 (s : ByteArray) (hs : s.size ≤ 10) : ∀ (d i : Nat), s.size - i = d → Ev (fun k => impl_onlyNameBytes.l0 k s (s.size : Int) i) (bytesB s i d) := by
  intro d
  induction d with
  | zero =>
    intro i hd; refine Ev.succ ?_; simp only [impl_onlyNameBytes.l0]; refine Ev.ite_neg (by omega) ?_; exact Ev.now _
  | succ d ih =>
    intro i hd; refine Ev.succ ?_; simp only [impl_onlyNameBytes.l0]; refine Ev.ite_pos (by omega) ?_; refine Ev.ite_pos (by omega) ?_; refine Ev.ite_pos (by omega) ?_
    have ih' : Ev (fun k => impl_onlyNameBytes.l0 k s (s.size : Int) ((i : Int) + 1)) (bytesB s (i + 1) d) := by simpa using ih (i + 1) (by omega)
    rw [w64 (x := (i : Int) + 1) (by omega) (by omega), bytesB_succ]
    have key : Ev (fun k => if bt s i < 48 then some false else if bt s i > 57 then some false else impl_onlyNameBytes.l0 k s (s.size : Int) ((i : Int) + 1)) (digitB (bt s i) && bytesB s (i + 1) d) := by
      by_cases a : bt s i < 48
      · refine Ev.ite_pos a ?_; refine Ev.cast (Ev.now false) ?_
        have : ¬ 48 ≤ bt s i := by omega
        simp [digitB, this]
      refine Ev.ite_neg a ?_
      by_cases b : bt s i > 57
      · refine Ev.ite_pos b ?_; refine Ev.cast (Ev.now false) ?_
        have : ¬ bt s i ≤ 57 := by omega
        simp [digitB, this]
      refine Ev.ite_neg b ?_; refine Ev.cast ih' ?_
      have h1 : 48 ≤ bt s i := by omega
      have h2 : bt s i ≤ 57 := by omega
      simp [digitB, h1, h2]
    by_cases a : bt s i < 97
    · refine Ev.ite_pos a ?_; refine Ev.cast key ?_
      have : ¬ 97 ≤ bt s i := by omega
      simp [smallB, this]
    refine Ev.ite_neg a ?_
    by_cases b : bt s i > 122
    · refine Ev.ite_pos b ?_; refine Ev.cast key ?_
      have : ¬ bt s i ≤ 122 := by omega
      simp [smallB, this]
    refine Ev.ite_neg b ?_; refine Ev.cast ih' ?_
    have h1 : 97 ≤ bt s i := by omega
    have h2 : bt s i ≤ 122 := by omega
    simp [smallB, h1, h2]
theorem impl_IsName_ev (s : ByteArray) : Ev (fun k => impl_IsName.f k s) (nameB s) := by
  unfold impl_IsName.f nameB
  by_cases h0 : s.size = 0
  · refine Ev.ite_pos (by omega) ?_; exact Ev.cast (Ev.now false) (by simp [h0])
  refine Ev.ite_neg (by omega) ?_
  by_cases h1 : s.size ≤ 10
  · refine Ev.ite_neg (by omega) ?_; refine Ev.ite_pos (by omega) ?_
    by_cases a : bt s 0 < 97
    · refine Ev.ite_pos a ?_; refine Ev.cast (Ev.now false) ?_
      have : ¬ 97 ≤ bt s 0 := by omega
      simp [smallB, this]
    refine Ev.ite_neg a ?_
    by_cases b : bt s 0 > 122
    · refine Ev.ite_pos b ?_; refine Ev.cast (Ev.now false) ?_
      have : ¬ bt s 0 ≤ 122 := by omega
      simp [smallB, this]
    refine Ev.ite_neg b ?_; refine Ev.bind (a := bytesB s 0 s.size) ?_ ?_
    · unfold impl_onlyNameBytes.f
      simpa using impl_onlyNameBytes_l0 s h1 s.size 0 (by omega)
    · refine Ev.cast (Ev.now _) ?_
      have h2 : 1 ≤ s.size := by omega
      have h3 : 97 ≤ bt s 0 := by omega
      have h4 : bt s 0 ≤ 122 := by omega
      simp [bytesB, h1, h2, smallB, h3, h4]
  · refine Ev.ite_pos (by omega) ?_; exact Ev.cast (Ev.now false) (by simp; omega)
def incB (l : List Int) (i d : Nat) : Bool := (List.range' i d).all fun j => decide (rd l ((j : Int) - 1) < rd l j)
theorem impl_increasing_l0 (l : List Int) (hl : l.length ≤ 9223372036854775807) : ∀ (d i : Nat), l.length - i = d → 1 ≤ i → Ev (fun k => impl_increasing.l0 k l i) (incB l i d) := by
  intro d
  induction d with
  | zero =>
    intro i hd hi; refine Ev.succ ?_; simp only [impl_increasing.l0]; refine Ev.ite_neg (by omega) ?_; exact Ev.now _
  | succ d ih =>
    intro i hd hi; refine Ev.succ ?_; simp only [impl_increasing.l0]; refine Ev.ite_pos (by omega) ?_; refine Ev.ite_pos (by omega) ?_; rw [w64 (x := (i : Int) - 1) (by omega) (by omega), w64 (x := (i : Int) + 1) (by omega) (by omega)]; refine Ev.ite_pos (by omega) ?_; refine Ev.ite_pos (by omega) ?_
    have hr : incB l i (d + 1) = (decide (rd l ((i : Int) - 1) < rd l i) && incB l (i + 1) d) := by
      simp [incB, List.range'_succ]
    rw [hr]
    by_cases hx : rd l i ≤ rd l ((i : Int) - 1)
    · refine Ev.ite_pos hx ?_; refine Ev.cast (Ev.now false) ?_
      have : ¬ rd l ((i : Int) - 1) < rd l i := by omega
      simp [this]
    · refine Ev.ite_neg hx ?_; have := ih (i + 1) (by omega) (by omega); refine Ev.cast (by simpa using this) ?_
      have : rd l ((i : Int) - 1) < rd l i := by omega
      simp [this]
def rgB (l : List Int) (a b : Int) (i d : Nat) : Bool := (List.range' i d).all fun j => decide (a ≤ rd l j) && decide (rd l j ≤ b) && (decide (j = 0) || decide (rd l ((j : Int) - 1) < rd l j))
theorem spec_l00Rises_l0 (l : List Int) (a b : Int) (hl : l.length ≤ 9223372036854775807) : ∀ (d i : Nat), l.length - i = d → i ≤ l.length → Ev (fun k => spec_l00Rises.l0 k l a b i) (rgB l a b i d) := by
  intro d
  induction d with
  | zero =>
    intro i hd hi; refine Ev.succ ?_; simp only [spec_l00Rises.l0]; refine Ev.ite_neg (by omega) ?_; exact Ev.now _
  | succ d ih =>
    intro i hd hi; refine Ev.succ ?_; simp only [spec_l00Rises.l0]; refine Ev.ite_pos (by omega) ?_; refine Ev.ite_pos (by omega) ?_; refine Ev.bindc (spec_l00In_eq _ _ _) ?_
    have hr : rgB l a b i (d + 1) = ((decide (a ≤ rd l i) && decide (rd l i ≤ b) && (decide (i = 0) || decide (rd l ((i : Int) - 1) < rd l i))) && rgB l a b (i + 1) d) := by
      simp [rgB, List.range'_succ]
    rw [hr]; have ih' := ih (i + 1) (by omega) (by omega); rw [w64 (x := (i : Int) + 1) (by omega) (by omega)]
    have ih2 : Ev (fun k => spec_l00Rises.l0 k l a b ((i : Int) + 1)) (rgB l a b (i + 1) d) := by simpa using ih'
    cases hq : (decide (a ≤ rd l i) && decide (rd l i ≤ b)) with
    | true =>
      refine Ev.ite_pos rfl ?_
      by_cases h0 : i = 0
      · refine Ev.ite_neg (by omega) ?_; refine Ev.cast ih2 ?_
        simp [h0]
      · refine Ev.ite_pos (by omega) ?_; rw [w64 (x := (i : Int) - 1) (by omega) (by omega)]; refine Ev.ite_pos (by omega) ?_; refine Ev.ite_pos (by omega) ?_
        by_cases hx : rd l ((i : Int) - 1) ≥ rd l i
        · refine Ev.ite_pos hx ?_; refine Ev.cast (Ev.now false) ?_
          have : ¬ rd l ((i : Int) - 1) < rd l i := by omega
          simp [h0, this]
        · refine Ev.ite_neg hx ?_; refine Ev.cast ih2 ?_
          have : rd l ((i : Int) - 1) < rd l i := by omega
          simp [this]
    | false =>
      refine Ev.ite_neg (by decide) ?_; refine Ev.cast (Ev.now false) ?_
      simp
def scaleB (l : List Int) : Bool := decide (5 ≤ l.length) && (rgB l 0 11 0 l.length && (rd l 0 == 0))
theorem inc_at {l : List Int} (h : incB l 1 (l.length - 1) = true) : ∀ (d i : Nat), i + d < l.length → rd l i ≤ rd l ((i + d : Nat) : Int) := by
  have hh : ∀ j : Nat, 1 ≤ j → j < l.length → rd l ((j : Int) - 1) < rd l j := by
    intro j h1 h2; simp only [incB, List.all_eq_true, List.mem_range'_1, decide_eq_true_eq] at h; exact h j (by omega)
  intro d
  induction d with
  | zero => intro i _; exact Int.le_refl _
  | succ d ih =>
    intro i hi; have h1 := ih i (by omega); have h2 := hh (i + d + 1) (by omega) (by omega)
    have e : (((i + d + 1 : Nat) : Int) - 1) = ((i + d : Nat) : Int) := by omega
    rw [e] at h2
    have e2 : ((i + (d + 1) : Nat) : Int) = ((i + d + 1 : Nat) : Int) := by omega
    rw [e2]
    omega
theorem scale_key (l : List Int) (h5 : 5 ≤ l.length) (h0 : rd l 0 = 0) : rgB l 0 11 0 l.length = (incB l 1 (l.length - 1) && decide (rd l ((l.length : Int) - 1) < 12)) := by
  rw [Bool.eq_iff_iff]
  constructor
  · intro hh; simp only [rgB, List.all_eq_true, List.mem_range'_1, Bool.and_eq_true, decide_eq_true_eq, Bool.or_eq_true] at hh; simp only [Bool.and_eq_true, decide_eq_true_eq, incB, List.all_eq_true, List.mem_range'_1]; refine ⟨fun j hj => ?_, ?_⟩
    · rcases (hh j (by omega)).2 with h | h
      · omega
      · exact h
    · have := (hh (l.length - 1) (by omega)).1
      have e : ((l.length - 1 : Nat) : Int) = (l.length : Int) - 1 := by omega
      rw [e] at this
      omega
  · intro hh; rw [Bool.and_eq_true, decide_eq_true_eq] at hh; have ha := inc_at hh.1; have hi := hh.1; simp only [incB, List.all_eq_true, List.mem_range'_1, decide_eq_true_eq] at hi; simp only [rgB, List.all_eq_true, List.mem_range'_1, Bool.and_eq_true, decide_eq_true_eq, Bool.or_eq_true]; intro j hj; have h1 := ha j 0 (by omega); have h2 := ha (l.length - 1 - j) j (by omega)
    have e : ((j + (l.length - 1 - j) : Nat) : Int) = (l.length : Int) - 1 := by omega
    rw [e] at h2
    have e0 : ((0 + j : Nat) : Int) = (j : Int) := by omega
    have e1 : ((0 : Nat) : Int) = 0 := rfl; rw [e0, e1, h0] at h1; refine ⟨⟨h1, by omega⟩, ?_⟩
    by_cases hz : j = 0
    · exact .inl hz
    · exact .inr (hi j (by omega))
theorem impl_ValidScale_ev (l : List Int) (hl : l.length ≤ 9223372036854775807) : Ev (fun k => impl_ValidScale.f k l) (scaleB l) := by
  unfold impl_ValidScale.f scaleB
  by_cases h : 5 ≤ l.length
  · refine Ev.ite_pos (by omega) (Ev.ite_pos (by omega) ?_)
    by_cases h0 : rd l 0 = 0
    · refine Ev.ite_pos h0 ?_; refine Ev.bind (a := incB l 1 (l.length - 1)) ?_ ?_
      · unfold impl_increasing.f
        simpa using impl_increasing_l0 l hl (l.length - 1) 1 (by omega) (by omega)
      · rw [scale_key l h h0, w64 (x := (l.length : Int) - 1) (by omega) (by omega)]
        cases g : incB l 1 (l.length - 1) with
        | true =>
          refine Ev.ite_pos rfl (Ev.ite_pos (by omega) (Ev.ite_pos (by omega) ?_)); refine Ev.cast (Ev.now _) ?_
          simp [h, h0]
        | false =>
          refine Ev.ite_neg (by decide) ?_
          simpa using Ev.now false
    · refine Ev.ite_neg h0 ?_; refine Ev.cast (Ev.now false) ?_
      simp [h0]
  · refine Ev.ite_neg (by omega) ?_
    simpa [h] using Ev.now false
def tn (a : Int) : Int := Int.tmod (wrap64 ((Int.tmod a 12) + 12)) 12
end Go.Proofs.Ytinlejhffokbaaa.P
end
