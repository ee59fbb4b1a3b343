/- Texts of this seat, merged: LStabD, LStabE. -/
import Derived.Test.YtgdiabfmjcejdaaGBS1
import Derived.Test.YtgdiabfmjcejdaaGBS3
import Derived.Test.YtgdiabfmjcejdaaGBS4
import Derived.Test.YtgdiabfmjcejdaaGBS5
import Derived.Test.YtgdiabfmjcejdaaGBS7
import Derived.Test.YtgdiabfmjcejdaaGBS8
import Derived.Test.YtgdiabfmjcejdaaGBS10
section
namespace Go.Proofs.Ytgdiabfmjcejdaa.P
open Go.RowKit Go.Proofs.Ytgdiabfmjcejdaa.P Go.Proofs.YtgdiabfmjcejdaaW.PrintWords Go.Proofs.YtgdiabfmjcejdaaW.PrintLast Go.Proofs.YtgdiabfmjcejdaaW.PrintMore
set_option linter.unusedVariables false
set_option linter.unusedSimpArgs false
def sndM (us : List Int) (p : Int) : Int := (us.map fun u => res1 (p - u)).sum
theorem sndM_drop {us : List Int} {i : Nat} (p : Int) (h : i < us.length) : sndM (us.drop i) p = res1 (p - rd us i) + sndM (us.drop (i + 1)) p := by
  have e := List.drop_eq_getElem_cons h
  unfold sndM
  rw [e, rd_at h, List.map_cons, List.sum_cons]
theorem res_one (us : List Int) (p u : Int) (h0 : -12 ≤ p) (h1 : p ≤ 23) (hu : -1000 ≤ u ∧ u ≤ 1000) : Ev (fun k => impl_resonanceOf.f k [p] u) (res1 (p - u)) := by
  obtain ⟨r, r1, r2, r3, r4⟩ := slices_Index_res (p - u)
  have e : rd [p] 0 = p := rfl
  have fin : ∀ acc : Int, Ev (fun k => impl_resonanceOf.l0 k u acc [p] (([p] : List Int).length : Int) 1) acc := fun acc => by
    refine Ev.succ ?_
    simp only [impl_resonanceOf.l0]
    exact Ev.ite_neg (by simp) (Ev.now _)
  unfold impl_resonanceOf.f
  refine Ev.succ ?_
  simp only [impl_resonanceOf.l0]
  rw [e, w64 (x := p - u) (by omega) (by omega)]
  refine Ev.ite_pos (by simp) (Ev.ite_pos (by omega) (Ev.ite_pos (by simp) (Ev.bind r4 ?_)))
  rw [w64 (x := (0 : Int) + 1) (by omega) (by omega), w64 (x := 6 - r) (by omega) (by omega)]
  by_cases hr : r ≥ 0
  · rw [if_pos hr] at r1
    refine Ev.ite_pos hr ?_
    rw [w64 (x := 0 + (6 - r)) (by omega) (by omega)]
    exact Ev.cast (fin _) (by omega)
  · rw [if_neg hr] at r1
    exact Ev.ite_neg hr (Ev.cast (fin _) r1)
theorem sounds_l1 (us : List Int) (p : Int) (h0 : -12 ≤ p) (h1 : p ≤ 23) (hu : ∀ i : Nat, i < us.length → -1000 ≤ rd us i ∧ rd us i ≤ 1000) (hl : us.length ≤ 3072) : ∀ (d i : Nat) (f : Int → Int), us.length - i = d → i ≤ us.length → 0 ≤ f p → f p ≤ 6 * i →
    Ev (fun k => impl_BestStrings.l1 k us p i f) (fun x => if x = p then f p + sndM (us.drop i) p else f x) := by
  intro d
  induction d with
  | zero =>
    intro i f hd hi f0 f1
    refine Ev.succ ?_
    simp only [impl_BestStrings.l1]
    refine Ev.ite_neg (by omega) (Ev.cast (Ev.now _) ?_)
    rw [List.drop_of_length_le (by omega)]
    funext x
    by_cases hx : x = p
    · subst hx; simp [sndM]
    · simp [hx]
  | succ d ih =>
    intro i f hd hi f0 f1
    have hb := res1_bound (p - rd us i)
    have h := ih (i + 1) (fun x => if x = p then wrap64 (f p + res1 (p - rd us i)) else f x) (by omega) (by omega) (by simp only [if_pos]; rw [w64 (by omega) (by omega)]; omega) (by simp only [if_pos]; rw [w64 (by omega) (by omega)]; omega)
    refine Ev.succ ?_
    simp only [impl_BestStrings.l1]
    refine Ev.ite_pos (by omega) (Ev.ite_pos (by omega) (Ev.bind (res_one us p _ h0 h1 (hu i (by omega))) ?_))
    refine Ev.cast h ?_
    funext x
    by_cases hx : x = p
    · subst hx
      simp only [if_pos]
      rw [w64 (x := f x + res1 (x - rd us i)) (by omega) (by omega), sndM_drop (us := us) (i := i) x (by omega)]
      omega
    · simp [hx]
/-- The pitches up to the j-th. -/
def plM (j : Nat) : List Int := (List.range j).map fun (i : Nat) => (i : Int) - 12
def ffM (us : List Int) (j : Nat) (x : Int) : Int := if -12 ≤ x ∧ x < (j : Int) - 12 then sndM us x else 0
theorem sounds_l0 (m : List S84) (us : List Int) (hm : Ev (fun k => impl_unitsOf.f k m) us) (hu : ∀ i : Nat, i < us.length → -1000 ≤ rd us i ∧ rd us i ≤ 1000) (hl : us.length ≤ 3072) : ∀ (d j : Nat) (p : Int), j + d = 36 → p = (j : Int) - 12 →
    Ev (fun k => impl_BestStrings.l0 k m (plM j) (ffM us j) p) (plM 36, ffM us 36) := by
  intro d
  induction d with
  | zero =>
    intro j p hj hp
    obtain rfl : j = 36 := by omega
    refine Ev.succ ?_
    simp only [impl_BestStrings.l0]
    exact Ev.ite_neg (by omega) (Ev.now _)
  | succ d ih =>
    intro j p hj hp
    have z : ffM us j p = 0 := by unfold ffM; rw [if_neg (by omega)]
    have h := sounds_l1 us p (by omega) (by omega) hu hl us.length 0 (ffM us j) (by omega) (by omega) (by omega) (by omega)
    refine Ev.succ ?_
    simp only [impl_BestStrings.l0]
    refine Ev.ite_pos (by omega) (Ev.ite_pos (by simp [plM]; omega) (Ev.bind hm (Ev.ite_pos (by omega) (Ev.bind h ?_))))
    have e1 : plM j ++ [p] = plM (j + 1) := by simp [plM, List.range_succ, hp]
    have e2 : (fun x => if x = p then ffM us j p + sndM (us.drop 0) p else ffM us j x) = ffM us (j + 1) := by
      funext x
      by_cases hx : x = p
      · subst hx
        rw [if_pos rfl, z]
        unfold ffM
        rw [if_pos (by omega)]
        simp
      · rw [if_neg hx]
        unfold ffM
        by_cases hc : -12 ≤ x ∧ x < (j : Int) - 12
        · rw [if_pos hc, if_pos (by omega)]
        · rw [if_neg hc, if_neg (by omega)]
    rw [e1, e2]
    exact ih (j + 1) (p + 1) (by omega) (by omega)
theorem plM_asc (n : Nat) : (plM n).Pairwise (fun a b => a < b) := by
  unfold plM
  rw [List.pairwise_map]
  exact List.pairwise_lt_range.imp (fun h => by omega)
theorem plM_mem {x : Int} : x ∈ plM 36 ↔ -12 ≤ x ∧ x ≤ 23 := by
  unfold plM
  rw [List.mem_map]
  constructor
  · rintro ⟨i, hi, rfl⟩
    have := List.mem_range.1 hi
    omega
  · intro h
    exact ⟨(x + 12).toNat, List.mem_range.2 (by omega), by omega⟩
theorem plM_len (n : Nat) : (plM n).length = n := by simp [plM]
theorem plM_parts : ∃ x vs y us, plM 36 = x :: (vs ++ y :: us) ∧ vs.length = 19 ∧ us.length = 15 :=
  ⟨-12, (List.range 19).map (fun (i : Nat) => (i : Int) - 11), 8, (List.range 15).map (fun (i : Nat) => (i : Int) + 9), by decide, by simp, by simp⟩
/-- The order by worth. -/
theorem stable_all (K : Int → Int) : ∃ M, M.Perm (plM 36) ∧ M.Pairwise (TT K) ∧ Ev (fun k => slices_stableCmpFunc_int64.f k (fun a b => cmpI (K b) (K a)) (plM 36) ((plM 36).length : Int)) M := by
  obtain ⟨x, vs, y, us, e, h1, h2⟩ := plM_parts
  have ha := plM_asc 36
  have hl := plM_len 36
  rw [e] at ha hl ⊢
  obtain ⟨M, q1, q2, q3⟩ := stable_ev K x y vs us h1 h2 ha
  refine ⟨M, q1, q2, ?_⟩
  rw [hl]
  exact q3
theorem impl_BestStrings_ev (m : List S84) (c : Int) (hl : m.length ≤ 1048576) (hm : melB m = true) (h0 : 0 ≤ c) (h1 : c ≤ 16) (ys : List Int) (hp : ys.Perm (plM 36))
    (hy : Ev (fun k => slices_stableCmpFunc_int64.f k (fun a b => cmpI (ffM (unitsM m) 36 b) (ffM (unitsM m) 36 a)) (plM 36) ((plM 36).length : Int)) ys) : Ev (fun k => impl_BestStrings.f k m c) (srtM (ys.take c.toNat), 0) := by
  have ho := (melB_all hm).1
  have h48 := (melB_all hm).2
  have hu := unitsM_len m ho
  unfold impl_BestStrings.f
  refine Ev.bind (impl_ValidMelody_ev m (by omega)) (Ev.ite_neg (by rw [hm]; decide) (Ev.bindc (impl_within_eq _ _ _) (Ev.ite_neg (by simp [h0, h1]) ?_)))
  have hf : (fun _ : Int => (0 : Int)) = ffM (unitsM m) 0 := by
    funext x
    unfold ffM
    rw [if_neg (by omega)]
  rw [hf]
  refine Ev.bind (sounds_l0 m (unitsM m) (impl_unitsOf_ev m hm) (fun i hi => by have := unitsM_rd m ho i hi; simp [inP] at this; omega) (by omega) 36 0 (-12) rfl (by omega)) ?_
  have hl2 := plM_len 36
  refine Ev.ite_pos (by simp only [hl2]; omega) (Ev.bind hy (Ev.ite_pos (by simp only [hl2]; omega) (Ev.bindc (slices_Clone_eq _ (by have := hp.length_eq; simp; omega)) (Ev.now _))))
theorem sndM_app (A B : List Int) (p : Int) : sndM (A ++ B) p = sndM A p + sndM B p := by
  simp [sndM]
theorem sndM_rep (u p : Int) : ∀ n : Nat, sndM (List.replicate n u) p = (n : Int) * res1 (p - u)
  | 0 => by simp [sndM]
  | n + 1 => by
    have ih := sndM_rep u p n
    simp only [sndM, List.replicate_succ, List.map_cons, List.sum_cons] at *
    rw [ih, Int.natCast_add, Int.add_mul]
    omega
def wM (us : List Int) (j : Nat) : List Int := (List.range j).map fun (i : Nat) => sndM us ((i : Int) - 12)
theorem worth_l1 (m : List S84) (c : Int) (hm : m.all okN = true) (h48 : m.length ≤ 48) (W : List Int) (p : Int) (h0 : -12 ≤ p) (h1 : p ≤ 23) (hW : W.length ≤ 100) (r : List Int × Int) : ∀ (d i : Nat) (acc : Int), m.length - i = d → i ≤ m.length → 0 ≤ acc → acc ≤ 384 * i →
    Ev (fun k => spec_BestStrings.l0 k m c (W ++ [acc + sndM (unitsM (m.drop i)) p]) (p + 1)) r → Ev (fun k => spec_BestStrings.l1 k m c W p acc i) r := by
  intro d
  induction d with
  | zero =>
    intro i acc hd hi a0 a1 h
    refine Ev.succ ?_
    simp only [spec_BestStrings.l1]
    refine Ev.ite_neg (by omega) (Ev.ite_pos (by omega) ?_)
    rw [w64 (x := p + 1) (by omega) (by omega)]
    rw [List.drop_of_length_le (by omega)] at h
    simpa [unitsM, sndM] using h
  | succ d ih =>
    intro i acc hd hi a0 a1 h
    obtain ⟨q1, q2, q3⟩ := okN_rd hm (show i < m.length by omega)
    simp only [inP, Bool.and_eq_true, decide_eq_true_eq] at q1
    have hb := res1_bound (p - (rd_T84 m i).f0)
    obtain ⟨t, ht⟩ : ∃ t, res1 (p - (rd_T84 m i).f0) = t := ⟨_, rfl⟩
    obtain ⟨n, hn⟩ : ∃ n, (rd_T84 m i).f1 = n := ⟨_, rfl⟩
    have e := unitsM_drop (show i < m.length by omega)
    have e2 : sndM (unitsM (m.drop i)) p = n * t + sndM (unitsM (m.drop (i + 1))) p := by
      rw [e, sndM_app, sndM_rep, ht, hn, Int.toNat_of_nonneg (by omega)]
    rw [ht] at hb
    rw [hn] at q2 q3
    have n0 : 0 ≤ n * t := Int.mul_nonneg (by omega) (by omega)
    have n1 : n * t ≤ 64 * 6 := Int.mul_le_mul q3 hb.2 hb.1 (by omega)
    refine Ev.succ ?_
    simp only [spec_BestStrings.l1]
    refine Ev.ite_pos (by omega) (Ev.ite_pos (by omega) (Ev.bind (spec_l16String_ev p _ (by omega) (by omega)) ?_))
    rw [ht, hn, w64 (x := n * t) (by omega) (by omega), w64 (x := acc + n * t) (by omega) (by omega), w64 (x := (i : Int) + 1) (by omega) (by omega)]
    rw [e2, ← Int.add_assoc] at h
    have := ih (i + 1) (acc + n * t) (by omega) (by omega) (by omega) (by omega) h
    simpa using this
theorem worth_l0 (m : List S84) (c : Int) (hm : m.all okN = true) (h48 : m.length ≤ 48) (r : List Int × Int) (h : Ev (fun k => spec_BestStrings.l2 k c (wM (unitsM m) 36) []) r) : ∀ (d j : Nat) (p : Int), j + d = 36 → p = (j : Int) - 12 →
    Ev (fun k => spec_BestStrings.l0 k m c (wM (unitsM m) j) p) r := by
  intro d
  induction d with
  | zero =>
    intro j p hj hp
    obtain rfl : j = 36 := by omega
    refine Ev.succ ?_
    simp only [spec_BestStrings.l0]
    exact Ev.ite_neg (by omega) h
  | succ d ih =>
    intro j p hj hp
    refine Ev.succ ?_
    simp only [spec_BestStrings.l0]
    refine Ev.ite_pos (by omega) ?_
    have e1 : wM (unitsM m) j ++ [0 + sndM (unitsM (m.drop 0)) p] = wM (unitsM m) (j + 1) := by simp [wM, List.range_succ, hp]
    have := worth_l1 m c hm h48 (wM (unitsM m) j) p (by omega) (by omega) (by simp [wM]; omega) r m.length 0 0 (by omega) (by omega) (by omega) (by omega) (by rw [e1]; exact ih (j + 1) (p + 1) (by omega) (by omega))
    simpa using this
theorem wM_len (us : List Int) (j : Nat) : (wM us j).length = j := by simp [wM]
theorem wM_rd (us : List Int) (t : Int) (h0 : 0 ≤ t) (h1 : t < 36) : rd (wM us 36) t = ffM us 36 (t - 12) := by
  unfold ffM
  rw [if_pos (by omega)]
  have : rd (wM us 36) ((t.toNat : Nat) : Int) = _ := rd_at (show t.toNat < (wM us 36).length by rw [wM_len]; omega)
  rw [show ((t.toNat : Nat) : Int) = t by omega] at this
  rw [this]
  simp only [wM, List.getElem_map, List.getElem_range]
  rw [show ((t.toNat : Nat) : Int) = t by omega]
/-- What the search for the best knows of the first t. -/
def SelI (F : Int → Int) (out : List Int) (b t : Int) : Prop := (b = -1 ∧ ∀ j, 0 ≤ j → j < t → j - 12 ∈ out) ∨ (0 ≤ b ∧ b < t ∧ b - 12 ∉ out ∧ ∀ j, 0 ≤ j → j < t → j - 12 ∉ out → j = b ∨ TT F (b - 12) (j - 12))
theorem sel_l3 (c : Int) (W out : List Int) (F : Int → Int) (hW : W.length = 36) (hWr : ∀ t, 0 ≤ t → t < 36 → rd W t = F (t - 12)) (ho : out.length ≤ 900) (r : List Int × Int)
    (hfin : ∀ b, SelI F out b 36 → Ev (fun k => (spec_l00Put.f k out (wrap64 (b + -12))).bind fun t => spec_BestStrings.l2 k c W t) r) : ∀ (d : Nat) (t b : Int), (36 - t).toNat = d → 0 ≤ t → t ≤ 36 → SelI F out b t → Ev (fun k => spec_BestStrings.l3 k c W out b t) r := by
  intro d
  induction d with
  | zero =>
    intro t b hd h0 h1 hi
    obtain rfl : t = 36 := by omega
    refine Ev.succ ?_
    simp only [spec_BestStrings.l3]
    exact Ev.ite_neg (by omega) (hfin b hi)
  | succ d ih =>
    intro t b hd h0 h1 hi
    refine Ev.succ ?_
    simp only [spec_BestStrings.l3]
    rw [w64 (x := t + -12) (by omega) (by omega), w64 (x := t + 1) (by omega) (by omega)]
    refine Ev.ite_pos (by omega) (Ev.bind (spec_l00Has_ev out _ (by omega)) ?_)
    rw [show t + -12 = t - 12 by omega]
    by_cases hh : t - 12 ∈ out
    · refine Ev.ite_pos (hasM_iff.2 hh) (ih (t + 1) b (by omega) (by omega) (by omega) ?_)
      rcases hi with ⟨e, q⟩ | ⟨q0, q1, q2, q3⟩
      · refine .inl ⟨e, fun j j0 j1 => ?_⟩
        by_cases e2 : j = t
        · subst e2; exact hh
        · exact q j j0 (by omega)
      · refine .inr ⟨q0, by omega, q2, fun j j0 j1 j2 => ?_⟩
        by_cases e2 : j = t
        · subst e2; exact absurd hh j2
        · exact q3 j j0 (by omega) j2
    · refine Ev.ite_neg (fun h_ => hh (hasM_iff.1 h_)) ?_
      rcases hi with ⟨e, q⟩ | ⟨q0, q1, q2, q3⟩
      · refine Ev.ite_pos (by omega) (ih (t + 1) t (by omega) (by omega) (by omega) (.inr ⟨h0, by omega, hh, fun j j0 j1 j2 => ?_⟩))
        by_cases e2 : j = t
        · exact .inl e2
        · exact absurd (q j j0 (by omega)) j2
      · refine Ev.ite_neg (by omega) (Ev.ite_pos (by omega) (Ev.ite_pos (by omega) (Ev.ite_pos (by omega) ?_)))
        rw [hWr t h0 (by omega), hWr b q0 (by omega)]
        by_cases hc : F (t - 12) > F (b - 12)
        · refine Ev.ite_pos hc (ih (t + 1) t (by omega) (by omega) (by omega) (.inr ⟨h0, by omega, hh, fun j j0 j1 j2 => ?_⟩))
          by_cases e2 : j = t
          · exact .inl e2
          · refine .inr ?_
            have e3 : TT F (t - 12) (b - 12) := .inl hc
            rcases q3 j j0 (by omega) j2 with rfl | h3
            · exact e3
            · exact TT_trans e3 h3
        · refine Ev.ite_neg hc (ih (t + 1) b (by omega) (by omega) (by omega) (.inr ⟨q0, by omega, q2, fun j j0 j1 j2 => ?_⟩))
          by_cases e2 : j = t
          · subst e2
            refine .inr ?_
            unfold TT
            omega
          · exact q3 j j0 (by omega) j2
theorem sel_l2 (c : Int) (W : List Int) (F : Int → Int) (hW : W.length = 36) (hWr : ∀ t, 0 ≤ t → t < 36 → rd W t = F (t - 12)) (ys : List Int) (hp : ys.Perm (plM 36)) (hs : ys.Pairwise (TT F)) (c0 : 0 ≤ c) (c1 : c ≤ 16) : ∀ (d n : Nat) (out : List Int), c.toNat - n = d → n ≤ c.toNat → out.Perm (ys.take n) → out.Pairwise (fun a b => decide (a ≤ b) = true) →
    Ev (fun k => spec_BestStrings.l2 k c W out) (srtM (ys.take c.toNat), 0) := by
  have hl : ys.length = 36 := by rw [hp.length_eq, plM_len]
  intro d
  induction d with
  | zero =>
    intro n out hd hn hq ho
    obtain rfl : n = c.toNat := by omega
    have hol := hq.length_eq
    rw [List.length_take] at hol
    refine Ev.succ ?_
    simp only [spec_BestStrings.l2]
    refine Ev.ite_neg (by omega) (Ev.cast (Ev.now _) ?_)
    have tr : ∀ a b c : Int, decide (a ≤ b) = true → decide (b ≤ c) = true → decide (a ≤ c) = true := fun a b c h1 h2 => by simp only [decide_eq_true_eq] at *; omega
    have tot : ∀ a b : Int, (decide (a ≤ b) || decide (b ≤ a)) = true := fun a b => by simp only [Bool.or_eq_true, decide_eq_true_eq]; omega
    have : out = srtM (ys.take c.toNat) := by
      refine List.Perm.eq_of_pairwise (le := fun a b => decide (a ≤ b) = true) (fun a b _ _ h1 h2 => ?_) ho (List.pairwise_mergeSort tr tot _) (hq.trans (List.mergeSort_perm _ _).symm)
      simp only [decide_eq_true_eq] at h1 h2
      omega
    rw [this]
  | succ d ih =>
    intro n out hd hn hq ho
    have hol := hq.length_eq
    rw [List.length_take] at hol
    have hn36 : n < ys.length := by omega
    have hsp : ys = ys.take n ++ rd ys n :: ys.drop (n + 1) := by
      rw [rd_at hn36, ← List.drop_eq_getElem_cons hn36, List.take_append_drop]
    rw [hsp] at hs
    obtain ⟨s1, s2, s3⟩ := List.pairwise_append.1 hs
    obtain ⟨s4, s5⟩ := List.pairwise_cons.1 s2
    have hni : rd ys n ∉ out := fun h => by
      have := s3 _ (hq.mem_iff.1 h) _ List.mem_cons_self
      unfold TT at this
      omega
    have hin : rd ys n ∈ plM 36 := hp.mem_iff.1 (by rw [hsp]; exact List.mem_append_right _ (by rw [← hsp]; exact List.mem_cons_self))
    have hrg := plM_mem.1 hin
    refine Ev.succ ?_
    simp only [spec_BestStrings.l2]
    refine Ev.ite_pos (by omega) (sel_l3 c W out F hW hWr (by omega) _ (fun b hb => ?_) 36 0 (-1) (by omega) (by omega) (by omega) (.inl ⟨rfl, fun j j0 j1 => by omega⟩))
    have eb : b + -12 = rd ys n := by
      rcases hb with ⟨_, q⟩ | ⟨q0, q1, q2, q3⟩
      · have := q (rd ys n + 12) (by omega) (by omega)
        rw [show rd ys n + 12 - 12 = rd ys n by omega] at this
        exact absurd this hni
      · rcases q3 (rd ys n + 12) (by omega) (by omega) (by rw [show rd ys n + 12 - 12 = rd ys n by omega]; exact hni) with h3 | h3
        · omega
        · rw [show rd ys n + 12 - 12 = rd ys n by omega] at h3
          have hm : b - 12 ∈ ys := hp.mem_iff.2 (plM_mem.2 (by omega))
          rw [hsp] at hm
          rcases List.mem_append.1 hm with hm | hm
          · exact absurd (hq.mem_iff.2 hm) q2
          · rcases List.mem_cons.1 hm with hm | hm
            · omega
            · have := s4 _ hm
              unfold TT at h3 this
              omega
    rw [eb, w64 (x := rd ys n) (by omega) (by omega)]
    exact Ev.bind (spec_l00Put_ev out _ hni (by omega)) (ih (n + 1) _ (by omega) (by omega) (perm_take_succ hn36 hq) (insM_sorted _ _ ho))
theorem spec_BestStrings_ev (m : List S84) (c : Int) (hl : m.length ≤ 1048576) (hm : melB m = true) (h0 : 0 ≤ c) (h1 : c ≤ 16) (ys : List Int) (hp : ys.Perm (plM 36)) (hs : ys.Pairwise (TT (ffM (unitsM m) 36))) : Ev (fun k => spec_BestStrings.f k m c) (srtM (ys.take c.toNat), 0) := by
  unfold spec_BestStrings.f
  refine Ev.bind (spec_l09Ok_ev m (by omega)) (Ev.ite_pos hm (Ev.bindc (spec_l00In_eq _ _ _) (Ev.ite_pos (by simp [h0, h1]) ?_)))
  exact worth_l0 m c (melB_all hm).1 (melB_all hm).2 _ (sel_l2 c _ _ (wM_len _ _) (wM_rd _) ys hp hs h0 h1 c.toNat 0 [] (by omega) (by omega) (by simp) List.Pairwise.nil) 36 0 (-12) rfl (by omega)
theorem bothBestStrings (m : List S84) (c : Int) (hl : m.length ≤ 1048576) : ∃ r d, r.length ≤ 1000 ∧ Ev (fun k => spec_BestStrings.f k m c) (r, d) ∧ Ev (fun k => impl_BestStrings.f k m c) (r, d) := by
  cases hm : melB m with
  | false =>
    refine ⟨[], 1, by simp, ?_, ?_⟩
    · unfold spec_BestStrings.f
      exact Ev.bind (spec_l09Ok_ev m (by omega)) (Ev.ite_neg (by rw [hm]; decide) (Ev.now _))
    · unfold impl_BestStrings.f
      exact Ev.bind (impl_ValidMelody_ev m (by omega)) (Ev.ite_pos hm (Ev.now _))
  | true =>
    cases hc : (decide (0 ≤ c) && decide (c ≤ 16)) with
    | false =>
      refine ⟨[], 2, by simp, ?_, ?_⟩
      · unfold spec_BestStrings.f
        exact Ev.bind (spec_l09Ok_ev m (by omega)) (Ev.ite_pos hm (Ev.bindc (spec_l00In_eq _ _ _) (Ev.ite_neg (by rw [hc]; decide) (Ev.now _))))
      · unfold impl_BestStrings.f
        exact Ev.bind (impl_ValidMelody_ev m (by omega)) (Ev.ite_neg (by rw [hm]; decide) (Ev.bindc (impl_within_eq _ _ _) (Ev.ite_pos hc (Ev.now _))))
    | true =>
      rw [Bool.and_eq_true, decide_eq_true_eq, decide_eq_true_eq] at hc
      obtain ⟨ys, hp, hs, he⟩ := stable_all (ffM (unitsM m) 36)
      exact ⟨srtM (ys.take c.toNat), 0, by rw [srtM_length, List.length_take]; omega, spec_BestStrings_ev m c hl hm hc.1 hc.2 ys hp hs, impl_BestStrings_ev m c hl hm hc.1 hc.2 ys hp he⟩
end Go.Proofs.Ytgdiabfmjcejdaa.P
end
