/- Texts of this seat, merged: QSlicesIndexInt64Int64, QSlicesContainsInt64Int64, QImplProgrammesearchVisit, QImplSeasonok, QImplOnlynamebytes, QImplIsname. -/
import Derived.Test.YtgdiabfmjcejdaaGCP1
section
namespace Go.Proofs.Ytgdiabfmjcejdaa.P
open Go.RowKit Go.Proofs.YtgdiabfmjcejdaaW.PrintWords Go.Proofs.YtgdiabfmjcejdaaW.PrintLast Go.Proofs.YtgdiabfmjcejdaaW.PrintMore
attribute [local go_sem] max2_int min2_int max_two min_two max_three min_three max_four min_four   -- for this text's walks alone
set_option linter.unusedVariables false
set_option linter.unusedSimpArgs false
/-! ### slices_Index_int64_int64: function 96 -/
def slices_Index_int64_int64.l0 : Nat → List Int → Int → Int → Int → Option (Int)
 | 0, _, _, _, _ => none
 | k + 1, x0, x1, x7, x8 => if x8 < x7 then (if 0 ≤ x8 then (if x8 < (x0.length : Int) then (if x1 = (rd x0 x8) then (some x8) else (slices_Index_int64_int64.l0 k x0 x1 x7 (wrap64 (x8 + 1)))) else (none)) else (none)) else (some (-1))
def slices_Index_int64_int64.f (k : Nat) (l0 : List Int) (a1 : Int) : Option (Int) := slices_Index_int64_int64.l0 k l0 a1 (l0.length : Int) 0
theorem slices_Index_int64_int64.mono_l : ∀ k, (∀ y0 y1 y2 y3, LeO (slices_Index_int64_int64.l0 k y0 y1 y2 y3) (slices_Index_int64_int64.l0 (k + 1) y0 y1 y2 y3))
 | 0 => fun _ _ _ _ r h => by simp [slices_Index_int64_int64.l0] at h
 | k + 1 => by
  have ih0 := slices_Index_int64_int64.mono_l k
  ·intro y0 y1 y2 y3
   unfold slices_Index_int64_int64.l0
   repeat' first
   | (with_reducible exact ih0 _ _ _ _)
   | (with_reducible exact LeO.refl _)
   | (with_reducible exact LeO.none _)
   | (with_reducible refine LeO.ite ?_ ?_)
   | (with_reducible refine LeO.bind ?_ (fun _ => ?_))
   | exact ih0 _ _ _ _
   | exact LeO.none _
   | refine LeO.ite ?_ ?_
   | refine LeO.bind ?_ (fun _ => ?_)
theorem slices_Index_int64_int64.mono : ∀ a0 a1 k, LeO (slices_Index_int64_int64.f k a0 a1) (slices_Index_int64_int64.f (k + 1) a0 a1) := by
 intro a0 a1 k
 have ih0 := slices_Index_int64_int64.mono_l k
 unfold slices_Index_int64_int64.f
 repeat' first
   | (with_reducible exact ih0 _ _ _ _)
   | (with_reducible exact LeO.refl _)
   | (with_reducible exact LeO.none _)
   | (with_reducible refine LeO.ite ?_ ?_)
   | (with_reducible refine LeO.bind ?_ (fun _ => ?_))
   | exact ih0 _ _ _ _
   | exact LeO.none _
   | refine LeO.ite ?_ ?_
   | refine LeO.bind ?_ (fun _ => ?_)
set_option maxHeartbeats 8000000 in
set_option maxRecDepth 100000 in
theorem slices_Index_int64_int64.calls (k : Nat) (A0 : Option Addr) (c0 : Nat) (l0 : List Int) (a1 : Int) (r : Int) (w : World) (hr0 : Kd.C (Kd.int .i64) w A0 l0.length l0) (hc0 : l0.length ≤ c0) (h : slices_Index_int64_int64.f k l0 a1 = some r) :
  Calls Try.prog 96 #[.slice A0 l0.length c0, .int .i64 a1] w fun e w' => e = .returned (.int .i64 r) ∧ Drawn0 w w' := by
 have HR0 := Aside0.mk hr0
 have HC0 := Aside0.mk hc0
 clear hr0 hc0
 have H : (slices_Index_int64_int64.l0 k l0 a1 (l0.length : Int) 0) = some r := h
 clear h
 have H' := Aside0.mk H
 clear H
 go_enter Try.func96, Try.ntmps96
 go_wp2
 go_loopg [8] k (fun kq v8 w' => ∃ (x8_1 : Int), v8 = .int .i64 x8_1 ∧ Aside0 (slices_Index_int64_int64.l0 kq l0 a1 (l0.length : Int) x8_1 = some r) ∧ Aside0 (kq ≤ k) ∧ Drawn0 w w')
 case atStart => exact ⟨(0), (by first | rfl | (simp; done) | (simp [*]; done)), H', ⟨Nat.le_refl _⟩, by repeat (first | exact Drawn0.refl _ | apply Drawn0.step)⟩
 case round =>
  clear H'
  try clear p2
  obtain ⟨x8_1, rfl, HA, HK1, ⟨m1, rfl⟩⟩ := hrel
  cases gk with
  | zero => exact absurd HA.out (by simp [slices_Index_int64_int64.l0])
  | succ k1 =>
   have H := HA.out
   clear HA
   simp only [slices_Index_int64_int64.l0] at H
   by_cases c3 : x8_1 < (l0.length : Int)
   ·rw [if_pos c3] at H
    have c3b0 : decide (x8_1 < (l0.length : Int)) = true := decide_eq_true c3
    clear c3
    by_cases c4 : 0 ≤ x8_1
    ·rw [if_pos c4] at H
     have c4b0 : decide (0 ≤ x8_1) = true := decide_eq_true c4
     clear c4
     by_cases c5 : x8_1 < (l0.length : Int)
     ·rw [if_pos c5] at H
      have c5b0 : decide (x8_1 < (l0.length : Int)) = true := decide_eq_true c5
      clear c5
      by_cases c6 : a1 = (rd l0 x8_1)
      ·rw [if_pos c6] at H
       have c6b0 : (a1 == (rd l0 x8_1)) = true := beq_iff_eq.mpr c6
       have c6b1 : (a1 != (rd l0 x8_1)) = false := bne_eq_false_iff_eq.mpr c6
       clear c6
       obtain rfl := Option.some.inj H
       have p280 : 0 ≤ (x8_1 : Int) := of_decide_eq_true (by assumption)
       have q280 : x8_1 < (l0.length : Int) := of_decide_eq_true (by assumption)
       obtain ⟨ad280, e280, hx280_0⟩ := Kd.at_int HR0.out x8_1 p280 q280
       cases e280
       replace p280 := eq_true p280
       replace q280 := eq_true q280
       go_wp2
       go_ret
       exact ⟨by first | rfl | (simp; done) | (simp [*]; done), by repeat (first | exact Drawn0.refl _ | apply Drawn0.step)⟩
      ·rw [if_neg c6] at H
       have c6b0 : (a1 == (rd l0 x8_1)) = false := beq_eq_false_iff_ne.mpr c6
       have c6b1 : (a1 != (rd l0 x8_1)) = true := bne_iff_ne.mpr c6
       have H' := Aside0.mk H
       clear H
       have p280 : 0 ≤ (x8_1 : Int) := of_decide_eq_true (by assumption)
       have q280 : x8_1 < (l0.length : Int) := of_decide_eq_true (by assumption)
       obtain ⟨ad280, e280, hx280_0⟩ := Kd.at_int HR0.out x8_1 p280 q280
       cases e280
       replace p280 := eq_true p280
       replace q280 := eq_true q280
       go_wp2
       go_roundg k1
       case measure => have := HK1.out; omega
       case rel => exact ⟨(wrap64 (x8_1 + 1)), (by first | rfl | (simp; done) | (simp [*]; done)), H', ⟨by have := HK1.out; omega⟩, by repeat (first | exact Drawn0.refl _ | apply Drawn0.step)⟩
     ·rw [if_neg c5] at H
      exact absurd H (by simp)
    ·rw [if_neg c4] at H
     exact absurd H (by simp)
   ·rw [if_neg c3] at H
    have c3b0 : decide (x8_1 < (l0.length : Int)) = false := decide_eq_false c3
    clear c3
    obtain rfl := Option.some.inj H
    go_wp2
    go_ret
    exact ⟨by first | rfl | (simp; done) | (simp [*]; done), by repeat (first | exact Drawn0.refl _ | apply Drawn0.step)⟩
/-! ### slices_Contains_int64_int64: function 79 -/
def slices_Contains_int64_int64.f (k : Nat) (l0 : List Int) (a1 : Int) : Option (Bool) := (slices_Index_int64_int64.f k l0 a1).bind fun t281 => (some (decide (t281 ≥ 0)))
theorem slices_Contains_int64_int64.mono : ∀ a0 a1 k, LeO (slices_Contains_int64_int64.f k a0 a1) (slices_Contains_int64_int64.f (k + 1) a0 a1) := by
 intro a0 a1 k
 unfold slices_Contains_int64_int64.f
 repeat' first
   | (with_reducible exact slices_Index_int64_int64.mono _ _ _)
   | (with_reducible exact LeO.refl _)
   | (with_reducible exact LeO.none _)
   | (with_reducible refine LeO.ite ?_ ?_)
   | (with_reducible refine LeO.bind ?_ (fun _ => ?_))
   | exact slices_Index_int64_int64.mono _ _ _
   | exact LeO.none _
   | refine LeO.ite ?_ ?_
   | refine LeO.bind ?_ (fun _ => ?_)
set_option maxHeartbeats 8000000 in
set_option maxRecDepth 100000 in
theorem slices_Contains_int64_int64.calls (k : Nat) (A0 : Option Addr) (c0 : Nat) (l0 : List Int) (a1 : Int) (r : Bool) (w : World) (hr0 : Kd.C (Kd.int .i64) w A0 l0.length l0) (hc0 : l0.length ≤ c0) (h : slices_Contains_int64_int64.f k l0 a1 = some r) :
  Calls Try.prog 79 #[.slice A0 l0.length c0, .int .i64 a1] w fun e w' => e = .returned (.bool r) ∧ Drawn0 w w' := by
 have HR0 := Aside0.mk hr0
 have HC0 := Aside0.mk hc0
 clear hr0 hc0
 have H : ((slices_Index_int64_int64.f k l0 a1).bind fun t281 => (some (decide (t281 ≥ 0)))) = some r := h
 clear h
 replace H := Option.bind_eq_some_iff.mp H
 obtain ⟨t281, A30, H⟩ := H
 replace H : (some (decide (t281 ≥ 0))) = some r := H
 have A3 := Aside0.mk A30
 clear A30
 obtain rfl := Option.some.inj H
 go_enter Try.func79, Try.ntmps79
 go_wp2_with (first | ((with_reducible refine gate_callee (f := 96) rfl ?_); refine goesL_ (some 7) rfl rfl Try.func96 (by kernel_rfl) rfl #[.slice A0 l0.length c0, .int .i64 a1] rfl (by first | rfl | (simp only [List.map_toArray, List.map_cons, List.map_nil]; done) | (simp only [List.map_toArray, List.map_cons, List.map_nil]; rfl)) ?_; (with_reducible refine (slices_Index_int64_int64.calls k _ _ l0 a1 t281 _ ?side1 ?side2 A3.out).mono ?_); (case side1 => repeat first | exact HR0.out | refine Kd.C_alloc ?_ _ | refine Kd.C_drewN ?_ _ | refine Kd.C_drew ?_); (case side2 => exact HC0.out); rintro e w' ⟨rfl, ⟨nd, rfl⟩⟩; refine ⟨_, rfl, ?_⟩))
 go_ret
 exact ⟨by first | rfl | (simp; done) | (simp [*]; done), by repeat (first | exact Drawn0.refl _ | apply Drawn0.step)⟩
/-! ### impl_programmeSearch_visit: function 92 (given) -/
mutual
def impl_programmeSearch_visit.f : Nat → List S75 → Int → Int → Int → Int → List Int → Option Int
  | 0, _, _, _, _, _, _ => none
  | k + 1, L, un, se, m, b, ps => if ps.length < 10000 then impl_programmeSearch_visit.l0 k L un se 0 m b ps else none
def impl_programmeSearch_visit.l0 : Nat → List S75 → Int → Int → Int → Int → Int → List Int → Option Int
  | 0, _, _, _, _, _, _, _ => none
  | k + 1, L, un, se, i, m, b, ps => if i < (L.length : Int) then (if 0 ≤ i then ((slices_Contains_int64_int64.f k ps i).bind fun t => if t = true then impl_programmeSearch_visit.l0 k L un se (wrap64 (i + 1)) m b ps else ((impl_Item_fits.f k (rd_T75 L i).f0 (rd_T75 L i).f1 (rd_T75 L i).f2 (rd_T75 L i).f3 (rd_T75 L i).f4 (rd_T75 L i).f5 (Int.tmod m 1440) se).bind fun t2 => if t2 = true then (if un < wrap64 (m + (rd_T75 L i).f4) then impl_programmeSearch_visit.l0 k L un se (wrap64 (i + 1)) m b ps else if wrap64 (b - 1) < 0 then some (wrap64 (b - 1)) else if ps.length < 10000 then ((impl_programmeSearch_visit.f k L un se (wrap64 (m + (rd_T75 L i).f4)) (wrap64 (b - 1)) (ps ++ [i])).bind fun z => if z < 0 then some z else impl_programmeSearch_visit.l0 k L un se (wrap64 (i + 1)) m z ps) else none) else impl_programmeSearch_visit.l0 k L un se (wrap64 (i + 1)) m b ps)) else none) else some b
end
theorem impl_programmeSearch_visit.mono_l : ∀ k, (∀ y0 y1 y2 y3 y4 y5 y6, LeO (impl_programmeSearch_visit.l0 k y0 y1 y2 y3 y4 y5 y6) (impl_programmeSearch_visit.l0 (k + 1) y0 y1 y2 y3 y4 y5 y6)) ∧ (∀ y0 y1 y2 y3 y4 y5, LeO (impl_programmeSearch_visit.f k y0 y1 y2 y3 y4 y5) (impl_programmeSearch_visit.f (k + 1) y0 y1 y2 y3 y4 y5))
 | 0 => ⟨fun _ _ _ _ _ _ _  r h => by simp [impl_programmeSearch_visit.l0] at h, fun _ _ _ _ _ _  r h => by simp [impl_programmeSearch_visit.f] at h⟩
 | k + 1 => by
  obtain ⟨ih0, ih1⟩ := impl_programmeSearch_visit.mono_l k
  refine ⟨?_, ?_⟩
  · intro y0 y1 y2 y3 y4 y5 y6
    unfold impl_programmeSearch_visit.l0
    repeat' first
    | (with_reducible exact ih0 _ _ _ _ _ _ _)
    | (with_reducible exact ih1 _ _ _ _ _ _)
    | (with_reducible exact slices_Contains_int64_int64.mono _ _ _)
    | (with_reducible exact impl_Item_fits.mono _ _ _ _ _ _ _ _ _)
    | (with_reducible exact LeO.refl _)
    | (with_reducible exact LeO.none _)
    | (with_reducible refine LeO.ite ?_ ?_)
    | (with_reducible refine LeO.bind ?_ (fun _ => ?_))
    | exact ih0 _ _ _ _ _ _ _
    | exact ih1 _ _ _ _ _ _
    | exact slices_Contains_int64_int64.mono _ _ _
    | exact impl_Item_fits.mono _ _ _ _ _ _ _ _ _
    | exact LeO.refl _
    | exact LeO.none _
    | refine LeO.ite ?_ ?_
    | refine LeO.bind ?_ (fun _ => ?_)
  · intro y0 y1 y2 y3 y4 y5
    unfold impl_programmeSearch_visit.f
    repeat' first
    | (with_reducible exact ih0 _ _ _ _ _ _ _)
    | (with_reducible exact ih1 _ _ _ _ _ _)
    | (with_reducible exact slices_Contains_int64_int64.mono _ _ _)
    | (with_reducible exact impl_Item_fits.mono _ _ _ _ _ _ _ _ _)
    | (with_reducible exact LeO.refl _)
    | (with_reducible exact LeO.none _)
    | (with_reducible refine LeO.ite ?_ ?_)
    | (with_reducible refine LeO.bind ?_ (fun _ => ?_))
    | exact ih0 _ _ _ _ _ _ _
    | exact ih1 _ _ _ _ _ _
    | exact slices_Contains_int64_int64.mono _ _ _
    | exact impl_Item_fits.mono _ _ _ _ _ _ _ _ _
    | exact LeO.refl _
    | exact LeO.none _
    | refine LeO.ite ?_ ?_
    | refine LeO.bind ?_ (fun _ => ?_)
theorem impl_programmeSearch_visit.cells {e : Nat} {w0 W : World} {g t : Nat} {a0 a1 a2 a3 a4 a5 a6 : Value} {vp vb : Value} {ps bs : List Int} (h : Srch e w0 W g t #[a0, a1, a2, a3, a4, a5, a6] vp ps vb bs) : W.cell? ⟨g, 0, none⟩ = some a0 ∧ W.cell? ⟨g, 1, none⟩ = some a1 ∧ W.cell? ⟨g, 2, none⟩ = some a2 ∧ W.cell? ⟨g, 3, none⟩ = some a3 ∧ W.cell? ⟨g, 4, none⟩ = some a4 ∧ W.cell? ⟨g, 5, none⟩ = some a5 ∧ W.cell? ⟨g, 6, none⟩ = some a6 ∧ ∀ j, W.frozen? ⟨g, j, none⟩ = false :=
  ⟨h.cell 0 rfl, h.cell 1 rfl, h.cell 2 rfl, h.cell 3 rfl, h.cell 4 rfl, h.cell 5 rfl, h.cell 6 rfl, fun j => h.froz j⟩
theorem impl_programmeSearch_visit.el {w : World} {ad : Addr} {n : Nat} {L : List S75} {x : S75} (h : Kd.C k75 w (some ad) n L) (i : Int) (h0 : 0 ≤ i) (h1 : i < n) (hx : rd_T75 L i = x) : w.cell? (ad.add (i.toNat * 6)) = some (.string x.f0) ∧ w.cell? ⟨((ad.add (i.toNat * 6))).block, ((ad.add (i.toNat * 6))).off + 1, none⟩ = some (.int .i64 x.f1) ∧ w.cell? ⟨((ad.add (i.toNat * 6))).block, ((ad.add (i.toNat * 6))).off + 2, none⟩ = some (.int .i64 x.f2) ∧ w.cell? ⟨((ad.add (i.toNat * 6))).block, ((ad.add (i.toNat * 6))).off + 3, none⟩ = some (.int .i64 x.f3) ∧ w.cell? ⟨((ad.add (i.toNat * 6))).block, ((ad.add (i.toNat * 6))).off + 4, none⟩ = some (.int .i64 x.f4) ∧ w.cell? ⟨((ad.add (i.toNat * 6))).block, ((ad.add (i.toNat * 6))).off + 5, none⟩ = some (.int .i64 x.f5) := by
  subst hx
  obtain ⟨ad', e_, h⟩ := at_T75 h i h0 h1
  cases e_
  exact h
theorem impl_programmeSearch_visit.own (l : List Int) (h : l.length < 10000) : slices_Clone_int64_int64.f l = some l := by
  unfold slices_Clone_int64_int64.f
  simp only [Option.bind_some, List.nil_append, List.length_nil, Nat.zero_add]
  rw [if_pos (by omega)]
theorem impl_programmeSearch_visit.box {e : Nat} {w0 W W1 : World} {g t tb gb : Nat} {cs cz : Array Value} {vp vb : Value} {ps bs : List Int} (h : Srch e w0 W g t cs vp ps vb bs) (hg : gb = W.heap.size) (hb : Below W.heap.size W W1) (hx : W1.heap[gb]? = some (.cells cz tb (0, 0))) (vs : List Value) : Srch e w0 (fill gb W1 0 vs) g t cs vp ps vb bs ∧ (fill gb W1 0 vs).heap[gb]? = some (.cells (fillA cz 0 vs) tb (0, 0)) ∧ some gb ≠ vp.ownBlock := by
  refine ⟨h.below (fill_below (Nat.le_of_eq hg.symm) _ _ _ hb), fill_blk _ _ _ _ hx, fun e_ => ?_⟩
  have := Kd.R_lt h.R1 gb e_.symm
  omega
set_option maxHeartbeats 16000000 in
set_option maxRecDepth 100000 in
theorem impl_programmeSearch_visit.calls (AL : Option Addr) (cL : Nat) (L : List S75) (un se : Int) (w0 : World) (hrL : Kd.C k75 w0 AL L.length L) (hcL : L.length ≤ cL) : ∀ (K k : Nat), k ≤ K → ∀ (g : Nat) (m wt b : Int) (vp : Value) (ps : List Int) (vb : Value) (bs : List Int) (wo b' : Int) (w : World), Srch 2 w0 w g 78 #[.slice AL L.length cL, .int .i64 un, .int .i64 se, .int .i64 (b), vp, vb, .int .i64 (wo)] (vp) (ps) (vb) (bs) → impl_programmeSearch_visit.f k L un se m b ps = some b' →
    Calls Try.prog 92 #[.pointer (some ⟨g, 0, none⟩), .int .i64 m, .int .i64 wt] w fun e w' => e = .returned (.tuple #[]) ∧ ∃ vp' vb' bs' wo', Srch 2 w0 w' g 78 #[.slice AL L.length cL, .int .i64 un, .int .i64 se, .int .i64 (b'), vp', vb', .int .i64 (wo')] (vp') (ps) (vb') (bs') := by
  intro K
  induction K with
  | zero =>
    intro k hk g m wt b vp ps vb bs wo b' w hI h
    obtain rfl : k = 0 := by omega
    exact absurd h (by simp [impl_programmeSearch_visit.f])
  | succ K IH =>
    intro k hk g m wt b vp ps vb bs wo b' w hI h
    cases k with
    | zero => exact absurd h (by simp [impl_programmeSearch_visit.f])
    | succ k =>
      have HI := Aside0.mk hI
      have HRL := Aside0.mk hrL
      have HCL := Aside0.mk hcL
      have IH := Aside0.mk IH
      have HK := Aside0.mk hk
      clear hI hk hrL hcL
      have huS := Try.underlying78
      have huI := Try.underlying75
      simp only [impl_programmeSearch_visit.f] at h
      by_cases cm0 : ps.length < 10000
      rotate_left
      · rw [if_neg cm0] at h
        exact absurd h (by simp)
      rw [if_pos cm0] at h
      have E0 := Aside0.mk (impl_programmeSearch_visit.own ps cm0)
      have CM := Aside0.mk cm0
      have H := Aside0.mk h
      clear cm0 h
      obtain ⟨Ap, cp, ep⟩ := Kd.R_slice HI.out.R1
      subst ep
      obtain ⟨Ab, cb, eb⟩ := Kd.R_slice HI.out.R2
      subst eb
      obtain ⟨x0, x1, x2, x3, x4, x5, x6, xf⟩ := impl_programmeSearch_visit.cells HI.out
      go_enter Try.func92, Try.ntmps92
      go_upto_if 13 with (fail)
      go_cut [] (fun wz => ∃ (vb_ : Value) (bs_ : List Int) (wo_ : Int), Aside0 (Srch 2 w0 wz g 78 #[.slice AL L.length cL, .int .i64 un, .int .i64 se, .int .i64 (b), .slice Ap ps.length cp, vb_, .int .i64 (wo_)] (.slice Ap ps.length cp) (ps) (vb_) (bs_)))
      case first =>
        clear H
        by_cases cw : wo < wt
        · have cw0 := decide_eq_true cw
          clear cw
          (try rw [cw0])
          have Q0 := trivial
          go_wp2_with (first | ((clear Q0); (with_reducible refine gate_callee (f := 67) rfl ?_); refine goesL_ (some _) rfl rfl Try.func67 (by kernel_rfl) rfl #[.slice Ap ps.length cp] rfl aw_ ?_; (with_reducible refine (slices_Clone_int64_int64.calls _ _ ps ps _ ?sp ?tp E0.out).mono ?_); (case sp => exact (Kd.R_reads' HI.out.R1).2.2); (case tp => exact (Kd.R_reads' HI.out.R1).2.1); rintro e w6 ⟨v6, rfl, ho, hb⟩; refine ⟨_, rfl, ?_⟩; have hi_ := HI.out.best (cs := #[.slice AL L.length cL, .int .i64 un, .int .i64 se, .int .i64 (b), .slice Ap ps.length cp, .slice Ab bs.length cb, .int .i64 (wo)]) hb ho; obtain ⟨An, cn, en_⟩ := Kd.R_slice ho; subst en_; clear HI ho hb; clear x0 x1 x2 x3 x4 x5 x6 xf ; have HI := Aside0.mk hi_; clear hi_; obtain ⟨x0, x1, x2, x3, x4, x5, x6, xf⟩ := impl_programmeSearch_visit.cells HI.out; have Q1 := trivial))
          go_meet
          case rel => exact ⟨_, _, _, ⟨(HI.out.set 5 _ rfl).set 6 _ rfl⟩⟩
        · have cw0 := decide_eq_false cw
          clear cw
          (try rw [cw0])
          go_wp2
          go_meet
          case rel => exact ⟨_, _, _, HI⟩
      case rest =>
        clear HI
        clear x0 x1 x2 x3 x4 x5 x6 xf 
        obtain ⟨vb_, bs_, wo_, HI⟩ := hcut
        obtain ⟨Ad, cd, ed⟩ := Kd.R_slice HI.out.R2
        subst ed
        obtain ⟨x0, x1, x2, x3, x4, x5, x6, xf⟩ := impl_programmeSearch_visit.cells HI.out
        go_wp2
        go_loopg [31] k (fun kq v31 w' => ∃ (i b_ : Int) (vp_ vb_ : Value) (bs_ : List Int) (wo_ : Int), v31 = .int .i64 i ∧ Aside0 (impl_programmeSearch_visit.l0 kq L un se i m b_ ps = some b') ∧ Aside0 (kq ≤ k) ∧ Aside0 (Srch 2 w0 w' g 78 #[.slice AL L.length cL, .int .i64 un, .int .i64 se, .int .i64 (b_), vp_, vb_, .int .i64 (wo_)] (vp_) (ps) (vb_) (bs_)))
        case atStart => exact ⟨0, _, _, _, _, _, rfl, H, ⟨Nat.le_refl _⟩, HI⟩
        case round =>
          clear HI H E0
          clear x0 x1 x2 x3 x4 x5 x6 xf 
          obtain ⟨i, b_, vp_, vb_, bs_, wo_, rfl, HA, HK1, HI⟩ := hrel
          obtain ⟨Aq, cq, eq_⟩ := Kd.R_slice HI.out.R1
          subst eq_
          obtain ⟨Ae, ce, ee_⟩ := Kd.R_slice HI.out.R2
          subst ee_
          obtain ⟨x0, x1, x2, x3, x4, x5, x6, xf⟩ := impl_programmeSearch_visit.cells HI.out
          cases gk with
          | zero => exact absurd HA.out (by simp [impl_programmeSearch_visit.l0])
          | succ k1 =>
            have H1 := HA.out
            clear HA
            simp only [impl_programmeSearch_visit.l0] at H1
            by_cases c9 : i < (L.length : Int)
            rotate_left
            · rw [if_neg c9] at H1
              have c90 := decide_eq_false c9
              obtain rfl : b_ = b' := by simpa using H1
              clear H1 c9
              go_wp2
              first | go_end0 | ((try simp only [Exit.inBlock, Exit.then]); refine bodyPost_ret (results_none rfl _ _ _) rfl ?_)
              exact ⟨rfl, _, _, _, _, HI.out⟩
            rw [if_pos c9] at H1
            have c90 := decide_eq_true c9
            by_cases c8 : 0 ≤ i
            rotate_left
            · rw [if_neg c8] at H1
              exact absurd H1 (by simp)
            rw [if_pos c8] at H1
            obtain ⟨x, hx⟩ : ∃ x_, rd_T75 L i = x_ := ⟨_, rfl⟩
            rw [hx] at H1
            obtain ⟨ad, ead, -⟩ := at_T75 HRL.out i c8 c9
            cases ead
            obtain ⟨z0, z1, z2, z3, z4, z5⟩ := impl_programmeSearch_visit.el (Kd.C_below HRL.out HI.out.bel) i c8 c9 hx
            have p0 := eq_true c8
            have q0 := eq_true c9
            clear hx c8 c9
            obtain ⟨t, y_, H2⟩ := Option.bind_eq_some_iff.mp H1
            have E1 := Aside0.mk y_
            have H := Aside0.mk H2
            clear y_ H1 H2
            go_wp2_with (first | ((with_reducible refine gate_dst (N := 7) rfl ?_); refine box_event ?hg (N := 7) ?hd (cs := #[.string (⟨#[]⟩ : ByteArray), .int .i64 0, .int .i64 0, .int .i64 0, .int .i64 0, .int .i64 0]) (t := 75) ?hr ?_; (case hd => rfl); (case hg => rfl); (case hr => first | (go_simp; done) | (go_simp; rfl)); intro gb hg w13 hbox hb; have BX := Aside0.mk (fun vs => impl_programmeSearch_visit.box HI.out hg hb hbox vs); obtain ⟨hcz_0, hcz_1, hcz_2, hcz_3, hcz_4, hcz_5, hcf⟩ := bx6_ hbox; clear hb hbox hg))
            obtain ⟨hi_, hb_, hn_⟩ := BX.out [.string x.f0, .int .i64 x.f1, .int .i64 x.f2, .int .i64 x.f3, .int .i64 x.f4, .int .i64 x.f5]
            obtain ⟨w7, hw_⟩ : ∃ W_, World.setCell (World.setCell (World.setCell (World.setCell (World.setCell (World.setCell w13 ⟨gb, 0, none⟩ (.string x.f0)) ⟨gb, 1, none⟩ (.int .i64 x.f1)) ⟨gb, 2, none⟩ (.int .i64 x.f2)) ⟨gb, 3, none⟩ (.int .i64 x.f3)) ⟨gb, 4, none⟩ (.int .i64 x.f4)) ⟨gb, 5, none⟩ (.int .i64 x.f5) = W_ := ⟨_, rfl⟩
            replace hi_ : Srch 2 w0 w7 g 78 #[.slice (some ad) L.length cL, .int .i64 un, .int .i64 se, .int .i64 (b_), .slice Aq ps.length cq, .slice Ae bs_.length ce, .int .i64 (wo_)] (.slice Aq ps.length cq) (ps) (.slice Ae bs_.length ce) (bs_) := hw_ ▸ hi_
            replace hb_ : w7.heap[gb]? = some (.cells #[.string x.f0, .int .i64 x.f1, .int .i64 x.f2, .int .i64 x.f3, .int .i64 x.f4, .int .i64 x.f5] 75 (0, 0)) := hw_ ▸ hb_
            rw [hw_]
            clear hw_ HI BX hcz_0 hcz_1 hcz_2 hcz_3 hcz_4 hcz_5 hcf z0 z1 z2 z3 z4 z5 p0 q0
            clear x0 x1 x2 x3 x4 x5 x6 xf 
            have HI := Aside0.mk hi_
            have BK := Aside0.mk hb_
            have NE := Aside0.mk hn_
            clear hi_ hb_ hn_
            obtain ⟨x0, x1, x2, x3, x4, x5, x6, xf⟩ := impl_programmeSearch_visit.cells HI.out
            obtain ⟨y0, y1, y2, y3, y4, y5, yf⟩ := bx6_ BK.out
            refine start_ (n := 28) (S := fun w' => w'.cell? ⟨g, 4, none⟩ = some (.slice Aq ps.length cq) ∧ w'.cell? ⟨g, 2, none⟩ = some (.int .i64 se) ∧ w'.cell? ⟨g, 1, none⟩ = some (.int .i64 un) ∧ w'.cell? ⟨gb, 0, none⟩ = some (.string x.f0) ∧ w'.cell? ⟨gb, 1, none⟩ = some (.int .i64 x.f1) ∧ w'.cell? ⟨gb, 2, none⟩ = some (.int .i64 x.f2) ∧ w'.cell? ⟨gb, 3, none⟩ = some (.int .i64 x.f3) ∧ w'.cell? ⟨gb, 4, none⟩ = some (.int .i64 x.f4) ∧ w'.cell? ⟨gb, 5, none⟩ = some (.int .i64 x.f5)) (ds := []) #[false, false, false, false, false, false, false, false, false, false, false, false, false, false, false, false, false, false, false, false, false, false, false, false, false, false, false, false] (by kernel_rfl) rfl rfl ⟨x4, x2, x1, y0, y1, y2, y3, y4, y5⟩ (fun hHeld => ?_)
            have hi_ := HI.out.drew
            have hBK_ := blk_drew BK.out
            obtain ⟨wd1, hw_⟩ : ∃ W_, World.drew w7 = W_ := ⟨_, rfl⟩
            rw [hw_] at hi_ hBK_ hHeld ⊢
            clear hw_
            clear HI BK
            clear x0 x1 x2 x3 x4 x5 x6 xf y0 y1 y2 y3 y4 y5 yf
            have HI := Aside0.mk hi_
            have BK := Aside0.mk hBK_
            clear hi_ hBK_
            obtain ⟨x0, x1, x2, x3, x4, x5, x6, xf⟩ := impl_programmeSearch_visit.cells HI.out
            obtain ⟨y0, y1, y2, y3, y4, y5, yf⟩ := bx6_ BK.out
            refine pv_ 0 36 #[true, false, false, false, false, false, false, false, false, false, false, false, false, false, false, false, false, false, false, false, false, false, false, false, false, false, false, false] ?_
            refine pv_ 1 37 #[true, true, false, false, false, false, false, false, false, false, false, false, false, false, false, false, false, false, false, false, false, false, false, false, false, false, false, false] ?_
            refine pv_ 2 38 #[true, true, true, false, false, false, false, false, false, false, false, false, false, false, false, false, false, false, false, false, false, false, false, false, false, false, false, false] ?_
            refine tv_ hHeld 3 39 #[true, true, true, true, false, false, false, false, false, false, false, false, false, false, false, false, false, false, false, false, false, false, false, false, false, false, false, false] ?_
            refine pv_ 4 40 #[true, true, true, true, true, false, false, false, false, false, false, false, false, false, false, false, false, false, false, false, false, false, false, false, false, false, false, false] ?_
            refine one_ (i := 5) (N := some 41) #[true, true, true, true, true, true, false, false, false, false, false, false, false, false, false, false, false, false, false, false, false, false, false, false, false, false, false, false] rfl rfl (by kernel_rfl) (by decide) (fun K_ hK => ?_)
            refine goes_ Try.func79 (by kernel_rfl) rfl #[.slice Aq ps.length cq, .int .i64 i] (by rfl) rfl rfl aw_ ?_
            clear hHeld
            (with_reducible refine (slices_Contains_int64_int64.calls k1 _ _ ps i t _ ?sp ?tp E1.out).mono ?_)
            (case sp => exact (Kd.R_reads' HI.out.R1).2.2)
            (case tp => exact (Kd.R_reads' HI.out.R1).2.1)
            rintro e w2 ⟨rfl, hb_⟩
            refine ⟨_, rfl, ?_⟩
            have hb := below_of hb_
            clear hb_
            have hi_ := HI.out.below hb
            have hBK_ := blk_below BK.out hb
            clear HI BK
            clear x0 x1 x2 x3 x4 x5 x6 xf y0 y1 y2 y3 y4 y5 yf
            have HI := Aside0.mk hi_
            have BK := Aside0.mk hBK_
            clear hi_ hBK_
            obtain ⟨x0, x1, x2, x3, x4, x5, x6, xf⟩ := impl_programmeSearch_visit.cells HI.out
            obtain ⟨y0, y1, y2, y3, y4, y5, yf⟩ := bx6_ BK.out
            clear hb
            refine hK.out _ _ ⟨x4, x2, x1, y0, y1, y2, y3, y4, y5⟩ (fun hHeld => ?_)
            clear hK K_
            refine norm_ (a' := ?_) ?_ ?_
            rotate_left
            · show Act.put _ (some 41) _ = _; go_simp; rfl
            refine pv_ 6 42 #[true, true, true, true, true, true, true, false, false, false, false, false, false, false, false, false, false, false, false, false, false, false, false, false, false, false, false, false] ?_
            cases t
            rotate_left
            · have H1 := (if_pos rfl).symm.trans H.out
              clear H
              have H := Aside0.mk H1
              clear H1
              refine uv_ 7 43 #[true, true, true, true, true, true, true, true, false, false, false, false, false, false, false, false, false, false, false, false, false, false, false, false, false, false, false, false] ?_
              refine uv_ 8 44 #[true, true, true, true, true, true, true, true, true, false, false, false, false, false, false, false, false, false, false, false, false, false, false, false, false, false, false, false] ?_
              refine uv_ 9 45 #[true, true, true, true, true, true, true, true, true, true, false, false, false, false, false, false, false, false, false, false, false, false, false, false, false, false, false, false] ?_
              refine uv_ 10 46 #[true, true, true, true, true, true, true, true, true, true, true, false, false, false, false, false, false, false, false, false, false, false, false, false, false, false, false, false] ?_
              refine uv_ 11 47 #[true, true, true, true, true, true, true, true, true, true, true, true, false, false, false, false, false, false, false, false, false, false, false, false, false, false, false, false] ?_
              refine uv_ 12 48 #[true, true, true, true, true, true, true, true, true, true, true, true, true, false, false, false, false, false, false, false, false, false, false, false, false, false, false, false] ?_
              refine uv_ 13 49 #[true, true, true, true, true, true, true, true, true, true, true, true, true, true, false, false, false, false, false, false, false, false, false, false, false, false, false, false] ?_
              refine uv_ 14 50 #[true, true, true, true, true, true, true, true, true, true, true, true, true, true, true, false, false, false, false, false, false, false, false, false, false, false, false, false] ?_
              refine uv_ 15 51 #[true, true, true, true, true, true, true, true, true, true, true, true, true, true, true, true, false, false, false, false, false, false, false, false, false, false, false, false] ?_
              refine pv_ 16 52 #[true, true, true, true, true, true, true, true, true, true, true, true, true, true, true, true, true, false, false, false, false, false, false, false, false, false, false, false] ?_
              refine pv_ 17 53 #[true, true, true, true, true, true, true, true, true, true, true, true, true, true, true, true, true, true, false, false, false, false, false, false, false, false, false, false] ?_
              refine uv_ 18 54 #[true, true, true, true, true, true, true, true, true, true, true, true, true, true, true, true, true, true, true, false, false, false, false, false, false, false, false, false] ?_
              refine uv_ 19 55 #[true, true, true, true, true, true, true, true, true, true, true, true, true, true, true, true, true, true, true, true, false, false, false, false, false, false, false, false] ?_
              refine uv_ 20 56 #[true, true, true, true, true, true, true, true, true, true, true, true, true, true, true, true, true, true, true, true, true, false, false, false, false, false, false, false] ?_
              refine uv_ 21 57 #[true, true, true, true, true, true, true, true, true, true, true, true, true, true, true, true, true, true, true, true, true, true, false, false, false, false, false, false] ?_
              refine uv_ 22 58 #[true, true, true, true, true, true, true, true, true, true, true, true, true, true, true, true, true, true, true, true, true, true, true, false, false, false, false, false] ?_
              refine uv_ 23 59 #[true, true, true, true, true, true, true, true, true, true, true, true, true, true, true, true, true, true, true, true, true, true, true, true, false, false, false, false] ?_
              refine uv_ 24 60 #[true, true, true, true, true, true, true, true, true, true, true, true, true, true, true, true, true, true, true, true, true, true, true, true, true, false, false, false] ?_
              refine uv_ 25 61 #[true, true, true, true, true, true, true, true, true, true, true, true, true, true, true, true, true, true, true, true, true, true, true, true, true, true, false, false] ?_
              refine uv_ 26 62 #[true, true, true, true, true, true, true, true, true, true, true, true, true, true, true, true, true, true, true, true, true, true, true, true, true, true, true, false] ?_
              refine pv_ 27 63 #[true, true, true, true, true, true, true, true, true, true, true, true, true, true, true, true, true, true, true, true, true, true, true, true, true, true, true, true] ?_
              refine done_ (by kernel_rfl) ?_
              clear hHeld
              go_wp2
              go_roundg k1
              case measure => have := HK1.out; omega
              case rel => exact ⟨_, _, _, _, _, _, rfl, H, ⟨by have := HK1.out; omega⟩, HI⟩
            have H1 := (if_neg Bool.false_ne_true).symm.trans H.out
            clear H
            obtain ⟨t2, y_, H2⟩ := Option.bind_eq_some_iff.mp H1
            have E2 := Aside0.mk y_
            have H := Aside0.mk H2
            clear y_ H1 H2
            refine tv_ hHeld 7 43 #[true, true, true, true, true, true, true, true, false, false, false, false, false, false, false, false, false, false, false, false, false, false, false, false, false, false, false, false] ?_
            refine pv_ 8 44 #[true, true, true, true, true, true, true, true, true, false, false, false, false, false, false, false, false, false, false, false, false, false, false, false, false, false, false, false] ?_
            refine pv_ 9 45 #[true, true, true, true, true, true, true, true, true, true, false, false, false, false, false, false, false, false, false, false, false, false, false, false, false, false, false, false] ?_
            refine pv_ 10 46 #[true, true, true, true, true, true, true, true, true, true, true, false, false, false, false, false, false, false, false, false, false, false, false, false, false, false, false, false] ?_
            refine pv_ 11 47 #[true, true, true, true, true, true, true, true, true, true, true, true, false, false, false, false, false, false, false, false, false, false, false, false, false, false, false, false] ?_
            refine pv_ 12 48 #[true, true, true, true, true, true, true, true, true, true, true, true, true, false, false, false, false, false, false, false, false, false, false, false, false, false, false, false] ?_
            refine tv_ hHeld 13 49 #[true, true, true, true, true, true, true, true, true, true, true, true, true, true, false, false, false, false, false, false, false, false, false, false, false, false, false, false] ?_
            refine one_ (i := 14) (N := some 50) #[true, true, true, true, true, true, true, true, true, true, true, true, true, true, true, false, false, false, false, false, false, false, false, false, false, false, false, false] rfl rfl (by kernel_rfl) (by decide) (fun K_ hK => ?_)
            refine goes_ Try.func110 (by kernel_rfl) rfl #[.agg #[.string x.f0, .int .i64 x.f1, .int .i64 x.f2, .int .i64 x.f3, .int .i64 x.f4, .int .i64 x.f5], .int .i64 (Int.tmod m 1440), .int .i64 se] (by rfl) rfl rfl aw_ ?_
            clear hHeld
            (with_reducible refine (impl_Item_fits.calls k1 x.f0 x.f1 x.f2 x.f3 x.f4 x.f5 (Int.tmod m 1440) se t2 _ E2.out).mono ?_)
            rintro e w3 ⟨rfl, hb_⟩
            refine ⟨_, rfl, ?_⟩
            have hb := below_of hb_
            clear hb_
            have hi_ := HI.out.below hb
            have hBK_ := blk_below BK.out hb
            clear HI BK
            clear x0 x1 x2 x3 x4 x5 x6 xf y0 y1 y2 y3 y4 y5 yf
            have HI := Aside0.mk hi_
            have BK := Aside0.mk hBK_
            clear hi_ hBK_
            obtain ⟨x0, x1, x2, x3, x4, x5, x6, xf⟩ := impl_programmeSearch_visit.cells HI.out
            obtain ⟨y0, y1, y2, y3, y4, y5, yf⟩ := bx6_ BK.out
            clear hb
            refine hK.out _ _ ⟨x4, x2, x1, y0, y1, y2, y3, y4, y5⟩ (fun hHeld => ?_)
            clear hK K_
            refine norm_ (a' := ?_) ?_ ?_
            rotate_left
            · show Act.put _ (some 50) _ = _; go_simp; rfl
            refine pv_ 15 51 #[true, true, true, true, true, true, true, true, true, true, true, true, true, true, true, true, false, false, false, false, false, false, false, false, false, false, false, false] ?_
            refine pv_ 16 52 #[true, true, true, true, true, true, true, true, true, true, true, true, true, true, true, true, true, false, false, false, false, false, false, false, false, false, false, false] ?_
            refine pv_ 17 53 #[true, true, true, true, true, true, true, true, true, true, true, true, true, true, true, true, true, true, false, false, false, false, false, false, false, false, false, false] ?_
            cases t2
            · have H1 := (if_neg Bool.false_ne_true).symm.trans H.out
              clear H
              have H := Aside0.mk H1
              clear H1
              refine uv_ 18 54 #[true, true, true, true, true, true, true, true, true, true, true, true, true, true, true, true, true, true, true, false, false, false, false, false, false, false, false, false] ?_
              refine uv_ 19 55 #[true, true, true, true, true, true, true, true, true, true, true, true, true, true, true, true, true, true, true, true, false, false, false, false, false, false, false, false] ?_
              refine uv_ 20 56 #[true, true, true, true, true, true, true, true, true, true, true, true, true, true, true, true, true, true, true, true, true, false, false, false, false, false, false, false] ?_
              refine uv_ 21 57 #[true, true, true, true, true, true, true, true, true, true, true, true, true, true, true, true, true, true, true, true, true, true, false, false, false, false, false, false] ?_
              refine uv_ 22 58 #[true, true, true, true, true, true, true, true, true, true, true, true, true, true, true, true, true, true, true, true, true, true, true, false, false, false, false, false] ?_
              refine uv_ 23 59 #[true, true, true, true, true, true, true, true, true, true, true, true, true, true, true, true, true, true, true, true, true, true, true, true, false, false, false, false] ?_
              refine uv_ 24 60 #[true, true, true, true, true, true, true, true, true, true, true, true, true, true, true, true, true, true, true, true, true, true, true, true, true, false, false, false] ?_
              refine uv_ 25 61 #[true, true, true, true, true, true, true, true, true, true, true, true, true, true, true, true, true, true, true, true, true, true, true, true, true, true, false, false] ?_
              refine uv_ 26 62 #[true, true, true, true, true, true, true, true, true, true, true, true, true, true, true, true, true, true, true, true, true, true, true, true, true, true, true, false] ?_
              refine pv_ 27 63 #[true, true, true, true, true, true, true, true, true, true, true, true, true, true, true, true, true, true, true, true, true, true, true, true, true, true, true, true] ?_
              refine done_ (by kernel_rfl) ?_
              clear hHeld
              go_wp2
              go_roundg k1
              case measure => have := HK1.out; omega
              case rel => exact ⟨_, _, _, _, _, _, rfl, H, ⟨by have := HK1.out; omega⟩, HI⟩
            have H1 := (if_pos rfl).symm.trans H.out
            clear H
            obtain ⟨mm, hmm⟩ : ∃ z_ : Int, wrap64 (m + x.f4) = z_ := ⟨_, rfl⟩
            rw [hmm] at H1
            have hmw : (IntKind.i64.wrap (m + x.f4)) = mm := (i64_w _).trans hmm
            refine pv_ 18 54 #[true, true, true, true, true, true, true, true, true, true, true, true, true, true, true, true, true, true, true, false, false, false, false, false, false, false, false, false] ?_
            refine pv_ 19 55 #[true, true, true, true, true, true, true, true, true, true, true, true, true, true, true, true, true, true, true, true, false, false, false, false, false, false, false, false] ?_
            refine tv_ hHeld 20 56 #[true, true, true, true, true, true, true, true, true, true, true, true, true, true, true, true, true, true, true, true, true, false, false, false, false, false, false, false] ?_
            refine pv_ 21 57 #[true, true, true, true, true, true, true, true, true, true, true, true, true, true, true, true, true, true, true, true, true, true, false, false, false, false, false, false] ?_
            refine pv_ 22 58 #[true, true, true, true, true, true, true, true, true, true, true, true, true, true, true, true, true, true, true, true, true, true, true, false, false, false, false, false] ?_
            refine pv_ 23 59 #[true, true, true, true, true, true, true, true, true, true, true, true, true, true, true, true, true, true, true, true, true, true, true, true, false, false, false, false] ?_
            refine pv_ 24 60 #[true, true, true, true, true, true, true, true, true, true, true, true, true, true, true, true, true, true, true, true, true, true, true, true, true, false, false, false] ?_
            refine tv_ hHeld 25 61 #[true, true, true, true, true, true, true, true, true, true, true, true, true, true, true, true, true, true, true, true, true, true, true, true, true, true, false, false] ?_
            refine pv_ 26 62 #[true, true, true, true, true, true, true, true, true, true, true, true, true, true, true, true, true, true, true, true, true, true, true, true, true, true, true, false] ?_
            refine pv_ 27 63 #[true, true, true, true, true, true, true, true, true, true, true, true, true, true, true, true, true, true, true, true, true, true, true, true, true, true, true, true] ?_
            refine done_ (by kernel_rfl) ?_
            clear hHeld
            by_cases cu : un < mm
            · have H := Aside0.mk ((if_pos cu).symm.trans H1)
              have cu0 := decide_eq_true cu
              rw [cu0]
              clear H1 cu
              go_wp2
              go_roundg k1
              case measure => have := HK1.out; omega
              case rel => exact ⟨_, _, _, _, _, _, rfl, H, ⟨by have := HK1.out; omega⟩, HI⟩
            have H2 := (if_neg cu).symm.trans H1
            have cu0 := decide_eq_false cu
            rw [cu0]
            clear H1 cu
            by_cases cb_ : wrap64 (b_ - 1) < 0
            · have H3 := (if_pos cb_).symm.trans H2
              have cb0 := decide_eq_true cb_
              obtain rfl : wrap64 (b_ - 1) = b' := by simpa using H3
              clear H2 H3 cb_
              go_wp2
              first | go_end0 | ((try simp only [Exit.inBlock, Exit.then]); refine bodyPost_ret (results_none rfl _ _ _) rfl ?_)
              exact ⟨rfl, _, _, _, _, HI.out.set 3 _ rfl⟩
            have H3 := (if_neg cb_).symm.trans H2
            have cb0 := decide_eq_false cb_
            clear H2 cb_
            rw [if_pos CM.out] at H3
            obtain ⟨z, y_, H4⟩ := Option.bind_eq_some_iff.mp H3
            have E3 := Aside0.mk y_
            have H := Aside0.mk H4
            clear y_ H3 H4
            obtain ⟨p1, hp1⟩ : ∃ l_, ps ++ [i] = l_ := ⟨_, rfl⟩
            rw [hp1] at E3
            have HP1 := Aside0.mk hp1
            clear hp1
            have Q0 := trivial
            go_wp2_with (first | ((clear Q0); (with_reducible refine gate_store (t := 2) (p := 70) rfl ?_); refine store_event (t := 2) (p := 70) (v := ?vo_w8) (w1 := World.setCell w3 ⟨g, 3, none⟩ (.int .i64 (wrap64 (b_ - 1)))) ?hg ?ho ?hn ?hr ?_; (case ho => rfl); (case hg => rfl); (case hn => rfl); (case hr => first | (go_simp; done) | (go_simp; rfl)); intro w8 hw_; have hi_ := HI.out.set 3 (.int .i64 (wrap64 (b_ - 1))) (cs' := #[.slice (some ad) L.length cL, .int .i64 un, .int .i64 se, .int .i64 (wrap64 (b_ - 1)), .slice Aq ps.length cq, .slice Ae bs_.length ce, .int .i64 (wo_)]) rfl; rw [← hw_] at hi_; have hBK_ := blk_far BK.out (p := ⟨g, 3, none⟩) (fun e_ => blk_ne HI.out.blk BK.out (by decide) e_.symm) (.int .i64 (wrap64 (b_ - 1))); rw [← hw_] at hBK_; clear HI BK hw_; clear x0 x1 x2 x3 x4 x5 x6 xf y0 y1 y2 y3 y4 y5 yf; have HI := Aside0.mk hi_; clear hi_; have BK := Aside0.mk hBK_; clear hBK_; obtain ⟨x0, x1, x2, x3, x4, x5, x6, xf⟩ := impl_programmeSearch_visit.cells HI.out; obtain ⟨y0, y1, y2, y3, y4, y5, yf⟩ := bx6_ BK.out; have Q1 := trivial) | ((clear Q1); (with_reducible refine gate_builtin (b := .append) (xs := #[.tmp 80, .tmp 82]) rfl ?_); at_builtin; refine Kd.R_append (Kd.int .i64) (w0 := w0) w0.heap.size rfl (.tmp 80) (.tmp 82) 22 2 (.int .i64 0) 8 rfl Try.underlying22 info2 rfl (by decide) (by omega) (.slice Aq ps.length cq) ps i [.int .i64 i] (fun k_ => k_ ≠ g ∧ some k_ ≠ (Value.slice Ae bs_.length ce).ownBlock) (fun _ => False) rfl rfl ?aP (fun _ hk => hk.elim) ?aF ?aO ?aB ?aS ?aL ?_; (case aP => exact rfl); (case aB => exact HI.out.bel); (case aF => exact HI.out.fresh); (case aO => exact HI.out.R1); (case aS => exact HI.out.bel.size); (case aL => have := CM.out; omega); intro v9 w9 ho hb hg hat; rw [HP1.out] at ho; have hi_ := HI.out.app ho hb hg hat; have hk_ := blk_grown BK.out hg NE.out; obtain ⟨An, cn, en_⟩ := Kd.R_slice ho; subst en_; clear HI ho hb hg hat; clear x0 x1 x2 x3 x4 x5 x6 xf y0 y1 y2 y3 y4 y5 yf; clear BK; have HI := Aside0.mk hi_; have BK := Aside0.mk hk_; clear hi_ hk_; obtain ⟨x0, x1, x2, x3, x4, x5, x6, xf⟩ := impl_programmeSearch_visit.cells HI.out; obtain ⟨y0, y1, y2, y3, y4, y5, yf⟩ := bx6_ BK.out; have Q2 := trivial) | ((clear Q2); (with_reducible refine gate_store (t := 22) (p := 85) rfl ?_); refine store_event (t := 22) (p := 85) (v := ?vo_w10) (w1 := World.setCell w9 ⟨g, 4, none⟩ (.slice An p1.length cn)) ?hg ?ho ?hn ?hr ?_; (case ho => rfl); (case hg => rfl); (case hn => rfl); (case hr => first | (go_simp; done) | (go_simp; rfl)); intro w10 hw_; have hi_ := HI.out.set 4 (.slice An p1.length cn) (cs' := #[.slice (some ad) L.length cL, .int .i64 un, .int .i64 se, .int .i64 (wrap64 (b_ - 1)), .slice An p1.length cn, .slice Ae bs_.length ce, .int .i64 (wo_)]) rfl; rw [← hw_] at hi_; have hBK_ := blk_far BK.out (p := ⟨g, 4, none⟩) (fun e_ => blk_ne HI.out.blk BK.out (by decide) e_.symm) (.slice An p1.length cn); rw [← hw_] at hBK_; clear HI BK hw_; clear x0 x1 x2 x3 x4 x5 x6 xf y0 y1 y2 y3 y4 y5 yf; have HI := Aside0.mk hi_; clear hi_; have BK := Aside0.mk hBK_; clear hBK_; obtain ⟨x0, x1, x2, x3, x4, x5, x6, xf⟩ := impl_programmeSearch_visit.cells HI.out; obtain ⟨y0, y1, y2, y3, y4, y5, yf⟩ := bx6_ BK.out; have Q3 := trivial) | ((clear Q3); (with_reducible refine gate_callee (f := 92) rfl ?_); refine goesL_ (some _) rfl rfl Try.func92 (by kernel_rfl) rfl #[.pointer (some ⟨g, 0, none⟩), .int .i64 mm, .int .i64 (wrap64 (wt + x.f5))] rfl aw_ ?_; refine (IH.out k1 (by have := HK1.out; have := HK.out; omega) g _ _ _ _ _ _ _ _ _ _ HI.out E3.out).mono ?_; rintro e w11 ⟨rfl, vp2, vb2, bs2, wo2, hi_⟩; refine ⟨_, rfl, ?_⟩; clear HI BK y0 y1 y2 y3 y4 y5 yf; clear x0 x1 x2 x3 x4 x5 x6 xf ; obtain ⟨Ar, cr, er⟩ := Kd.R_slice hi_.R1; subst er; have HI := Aside0.mk hi_; clear hi_; obtain ⟨x0, x1, x2, x3, x4, x5, x6, xf⟩ := impl_programmeSearch_visit.cells HI.out; have Q4 := trivial))
            clear Q4
            have hlen : (p1.length : Int) = (ps.length : Int) + 1 := by rw [← HP1.out]; simp
            have hb : (ps.length : Int) < 10000 := by have := CM.out; omega
            have hj2 : wrap64 ((p1.length : Int) - 1) = (ps.length : Int) := by rw [hlen]; unfold wrap64; omega
            have hj2w : (IntKind.i64.wrap ((p1.length : Int) - 1)) = (ps.length : Int) := (i64_w _).trans hj2
            have hcap : ps.length + 1 ≤ cr := by have := (Kd.R_reads' HI.out.R1).2.1; omega
            have k0 : (0 ≤ (ps.length : Int)) = True := eq_true (by omega)
            have k1_ : ((ps.length : Int) ≤ (cr : Int)) = True := eq_true (by omega)
            have HLN := Aside0.mk hlen
            clear hlen hb hcap
            refine start_ (n := 15) (S := fun w' => w'.cell? ⟨g, 4, none⟩ = some (.slice Ar p1.length cr) ∧ w'.frozen? ⟨g, 4, none⟩ = false) (ds := [14]) #[false, false, false, false, false, false, false, false, false, false, false, false, false, false, false] (by kernel_rfl) rfl rfl ⟨x4, xf 4⟩ (fun hHeld => ?_)
            have hi_ := HI.out.drew
            obtain ⟨wd2, hw_⟩ : ∃ W_, World.drew w11 = W_ := ⟨_, rfl⟩
            rw [hw_] at hi_ hHeld ⊢
            clear hw_
            clear HI
            clear x0 x1 x2 x3 x4 x5 x6 xf 
            have HI := Aside0.mk hi_
            clear hi_
            obtain ⟨x0, x1, x2, x3, x4, x5, x6, xf⟩ := impl_programmeSearch_visit.cells HI.out
            refine pv_ 0 96 #[true, false, false, false, false, false, false, false, false, false, false, false, false, false, false] ?_
            refine pv_ 1 97 #[true, true, false, false, false, false, false, false, false, false, false, false, false, false, false] ?_
            refine pv_ 2 98 #[true, true, true, false, false, false, false, false, false, false, false, false, false, false, false] ?_
            refine pv_ 3 99 #[true, true, true, true, false, false, false, false, false, false, false, false, false, false, false] ?_
            refine tv_ hHeld 4 100 #[true, true, true, true, true, false, false, false, false, false, false, false, false, false, false] ?_
            refine pv_ 5 101 #[true, true, true, true, true, true, false, false, false, false, false, false, false, false, false] ?_
            refine pv_ 6 102 #[true, true, true, true, true, true, true, false, false, false, false, false, false, false, false] ?_
            refine pv_ 7 103 #[true, true, true, true, true, true, true, true, false, false, false, false, false, false, false] ?_
            refine tv_ hHeld 8 104 #[true, true, true, true, true, true, true, true, true, false, false, false, false, false, false] ?_
            refine pv_ 9 105 #[true, true, true, true, true, true, true, true, true, true, false, false, false, false, false] ?_
            refine pv_ 10 106 #[true, true, true, true, true, true, true, true, true, true, true, false, false, false, false] ?_
            refine pv_ 11 107 #[true, true, true, true, true, true, true, true, true, true, true, true, false, false, false] ?_
            refine pv_ 12 108 #[true, true, true, true, true, true, true, true, true, true, true, true, true, false, false] ?_
            refine pv_ 13 109 #[true, true, true, true, true, true, true, true, true, true, true, true, true, true, false] ?_
            refine last_ (i := 14) (N := none) #[true, true, true, true, true, true, true, true, true, true, true, true, true, true, true] rfl rfl (by kernel_rfl) (by decide) (fun K_ hK => ?_)
            refine store_one (w1 := World.setCell _ ⟨g, 4, none⟩ (.slice Ar ps.length cr)) (by rfl) (by first | (go_simp; done) | (go_simp; rfl)) rfl ?_
            clear hHeld
            have hi_ := (HI.out.take (m := ps.length) (by have := HLN.out; omega)).set 4 (.slice Ar ps.length cr) (cs' := #[.slice (some ad) L.length cL, .int .i64 un, .int .i64 se, .int .i64 (z), .slice Ar ps.length cr, vb2, .int .i64 (wo2)]) rfl
            rw [show p1.take ps.length = ps from by rw [← HP1.out]; exact List.take_left' rfl] at hi_
            clear HI
            clear x0 x1 x2 x3 x4 x5 x6 xf 
            obtain ⟨w12, hw12⟩ : ∃ W_, World.setCell wd2 ⟨g, 4, none⟩ (.slice Ar ps.length cr) = W_ := ⟨_, rfl⟩
            rw [hw12] at hi_ ⊢
            have HI := Aside0.mk hi_
            clear hi_ hw12
            obtain ⟨x0, x1, x2, x3, x4, x5, x6, xf⟩ := impl_programmeSearch_visit.cells HI.out
            refine hK.out _ _ ?_
            clear hK K_
            refine done_ (by kernel_rfl) ?_
            have H1 := H.out
            clear H
            (try dsimp only at H1)
            by_cases cz : z < 0
            · have H2 := (if_pos cz).symm.trans H1
              have cz0 := decide_eq_true cz
              obtain rfl : z = b' := by simpa using H2
              clear H1 H2 cz
              go_wp2
              first | go_end0 | ((try simp only [Exit.inBlock, Exit.then]); refine bodyPost_ret (results_none rfl _ _ _) rfl ?_)
              exact ⟨rfl, _, _, _, _, HI.out⟩
            have H := Aside0.mk ((if_neg cz).symm.trans H1)
            have cz0 := decide_eq_false cz
            clear H1 cz
            go_wp2
            go_roundg k1
            case measure => have := HK1.out; omega
            case rel => exact ⟨_, _, _, _, _, _, rfl, H, ⟨by have := HK1.out; omega⟩, HI⟩
/-! ### impl_seasonOk: function 90 -/
def impl_seasonOk.f (a0 : Int) : Option (Bool) := (impl_within.f a0 0 5).bind fun t360 => (some t360)
set_option maxHeartbeats 8000000 in
set_option maxRecDepth 100000 in
theorem impl_seasonOk.calls (a0 : Int) (r : Bool) (w : World) (h : impl_seasonOk.f a0 = some r) :
  Calls Try.prog 90 #[.int .i64 a0] w fun e w' => e = .returned (.bool r) ∧ Drawn0 w w' := by
 have H : ((impl_within.f a0 0 5).bind fun t360 => (some t360)) = some r := h
 clear h
 replace H := Option.bind_eq_some_iff.mp H
 obtain ⟨t360, A20, H⟩ := H
 replace H : (some t360) = some r := H
 have A2 := Aside0.mk A20
 clear A20
 obtain rfl := Option.some.inj H
 go_enter Try.func90, Try.ntmps90
 go_wp2_with (first | ((with_reducible refine gate_callee (f := 46) rfl ?_); refine goesL_ (some 4) rfl rfl Try.func46 (by kernel_rfl) rfl #[.int .i64 a0, .int .i64 0, .int .i64 5] rfl (by first | rfl | (simp only [List.map_toArray, List.map_cons, List.map_nil]; done) | (simp only [List.map_toArray, List.map_cons, List.map_nil]; rfl)) ?_; (with_reducible refine (impl_within.calls a0 0 5 t360 _ A2.out).mono ?_); rintro e w' ⟨rfl, ⟨nd, rfl⟩⟩; refine ⟨_, rfl, ?_⟩))
 go_ret
 exact ⟨by first | rfl | (simp; done) | (simp [*]; done), by repeat (first | exact Drawn0.refl _ | apply Drawn0.step)⟩
/-! ### impl_onlyNameBytes: function 75 -/
def impl_onlyNameBytes.l0 : Nat → ByteArray → Int → Int → Option (Bool)
 | 0, _, _, _ => none
 | k + 1, x0, x6, x7 => if x7 < x6 then (if 0 ≤ x7 then (if x7 < (x0.size : Int) then (if (bt x0 x7) < 97 then (if (bt x0 x7) < 48 then (some false) else (if (bt x0 x7) > 57 then (some false) else (impl_onlyNameBytes.l0 k x0 x6 (wrap64 (x7 + 1))))) else (if (bt x0 x7) > 122 then (if (bt x0 x7) < 48 then (some false) else (if (bt x0 x7) > 57 then (some false) else (impl_onlyNameBytes.l0 k x0 x6 (wrap64 (x7 + 1))))) else (impl_onlyNameBytes.l0 k x0 x6 (wrap64 (x7 + 1))))) else (none)) else (none)) else (some true)
def impl_onlyNameBytes.f (k : Nat) (a0 : ByteArray) : Option (Bool) := impl_onlyNameBytes.l0 k a0 (a0.size : Int) 0
set_option maxHeartbeats 8000000 in
set_option maxRecDepth 100000 in
theorem impl_onlyNameBytes.calls (k : Nat) (a0 : ByteArray) (r : Bool) (w : World) (h : impl_onlyNameBytes.f k a0 = some r) :
  Calls Try.prog 75 #[.string a0] w fun e w' => e = .returned (.bool r) ∧ Drawn0 w w' := by
 have H : (impl_onlyNameBytes.l0 k a0 (a0.size : Int) 0) = some r := h
 clear h
 have H' := Aside0.mk H
 clear H
 go_enter Try.func75, Try.ntmps75
 go_wp2
 go_loopg [7] k (fun kq v7 w' => ∃ (x7_1 : Int), v7 = .int .i64 x7_1 ∧ Aside0 (impl_onlyNameBytes.l0 kq a0 (a0.size : Int) x7_1 = some r) ∧ Aside0 (kq ≤ k) ∧ Drawn0 w w')
 case atStart => exact ⟨(0), (by first | rfl | (simp; done) | (simp [*]; done)), H', ⟨Nat.le_refl _⟩, by repeat (first | exact Drawn0.refl _ | apply Drawn0.step)⟩
 case round =>
  clear H'
  obtain ⟨x7_1, rfl, HA, HK1, ⟨m1, rfl⟩⟩ := hrel
  cases gk with
  | zero => exact absurd HA.out (by simp [impl_onlyNameBytes.l0])
  | succ k1 =>
   have H := HA.out
   clear HA
   simp only [impl_onlyNameBytes.l0] at H
   by_cases c2 : x7_1 < (a0.size : Int)
   ·rw [if_pos c2] at H
    have c2b0 : decide (x7_1 < (a0.size : Int)) = true := decide_eq_true c2
    clear c2
    by_cases c3 : 0 ≤ x7_1
    ·rw [if_pos c3] at H
     have c3b0 : decide (0 ≤ x7_1) = true := decide_eq_true c3
     clear c3
     by_cases c4 : x7_1 < (a0.size : Int)
     ·rw [if_pos c4] at H
      have c4b0 : decide (x7_1 < (a0.size : Int)) = true := decide_eq_true c4
      clear c4
      by_cases c6 : (bt a0 x7_1) < 97
      ·rw [if_pos c6] at H
       have c6b0 : decide ((bt a0 x7_1) < 97) = true := decide_eq_true c6
       clear c6
       by_cases c7 : (bt a0 x7_1) < 48
       ·rw [if_pos c7] at H
        have c7b0 : decide ((bt a0 x7_1) < 48) = true := decide_eq_true c7
        clear c7
        obtain rfl := Option.some.inj H
        have p5 : 0 ≤ (x7_1 : Int) := of_decide_eq_true (by assumption)
        have q5 : x7_1 < (a0.size : Int) := of_decide_eq_true (by assumption)
        have hx5 := bt_at a0 x7_1
        replace p5 := eq_true p5
        replace q5 := eq_true q5
        go_wp2
        go_ret
        exact ⟨by first | rfl | (simp; done) | (simp [*]; done), by repeat (first | exact Drawn0.refl _ | apply Drawn0.step)⟩
       ·rw [if_neg c7] at H
        have c7b0 : decide ((bt a0 x7_1) < 48) = false := decide_eq_false c7
        clear c7
        by_cases c8 : (bt a0 x7_1) > 57
        ·rw [if_pos c8] at H
         have c8b0 : decide (57 < (bt a0 x7_1)) = true := decide_eq_true c8
         clear c8
         obtain rfl := Option.some.inj H
         have p5 : 0 ≤ (x7_1 : Int) := of_decide_eq_true (by assumption)
         have q5 : x7_1 < (a0.size : Int) := of_decide_eq_true (by assumption)
         have hx5 := bt_at a0 x7_1
         replace p5 := eq_true p5
         replace q5 := eq_true q5
         go_wp2
         go_ret
         exact ⟨by first | rfl | (simp; done) | (simp [*]; done), by repeat (first | exact Drawn0.refl _ | apply Drawn0.step)⟩
        ·rw [if_neg c8] at H
         have c8b0 : decide (57 < (bt a0 x7_1)) = false := decide_eq_false c8
         clear c8
         have H' := Aside0.mk H
         clear H
         have p5 : 0 ≤ (x7_1 : Int) := of_decide_eq_true (by assumption)
         have q5 : x7_1 < (a0.size : Int) := of_decide_eq_true (by assumption)
         have hx5 := bt_at a0 x7_1
         replace p5 := eq_true p5
         replace q5 := eq_true q5
         go_wp2
         go_roundg k1
         case measure => have := HK1.out; omega
         case rel => exact ⟨(wrap64 (x7_1 + 1)), (by first | rfl | (simp; done) | (simp [*]; done)), H', ⟨by have := HK1.out; omega⟩, by repeat (first | exact Drawn0.refl _ | apply Drawn0.step)⟩
      ·rw [if_neg c6] at H
       have c6b0 : decide ((bt a0 x7_1) < 97) = false := decide_eq_false c6
       clear c6
       by_cases c9 : (bt a0 x7_1) > 122
       ·rw [if_pos c9] at H
        have c9b0 : decide (122 < (bt a0 x7_1)) = true := decide_eq_true c9
        clear c9
        by_cases c10 : (bt a0 x7_1) < 48
        ·rw [if_pos c10] at H
         have c10b0 : decide ((bt a0 x7_1) < 48) = true := decide_eq_true c10
         clear c10
         obtain rfl := Option.some.inj H
         have p5 : 0 ≤ (x7_1 : Int) := of_decide_eq_true (by assumption)
         have q5 : x7_1 < (a0.size : Int) := of_decide_eq_true (by assumption)
         have hx5 := bt_at a0 x7_1
         replace p5 := eq_true p5
         replace q5 := eq_true q5
         go_wp2
         go_ret
         exact ⟨by first | rfl | (simp; done) | (simp [*]; done), by repeat (first | exact Drawn0.refl _ | apply Drawn0.step)⟩
        ·rw [if_neg c10] at H
         have c10b0 : decide ((bt a0 x7_1) < 48) = false := decide_eq_false c10
         clear c10
         by_cases c11 : (bt a0 x7_1) > 57
         ·rw [if_pos c11] at H
          have c11b0 : decide (57 < (bt a0 x7_1)) = true := decide_eq_true c11
          clear c11
          obtain rfl := Option.some.inj H
          have p5 : 0 ≤ (x7_1 : Int) := of_decide_eq_true (by assumption)
          have q5 : x7_1 < (a0.size : Int) := of_decide_eq_true (by assumption)
          have hx5 := bt_at a0 x7_1
          replace p5 := eq_true p5
          replace q5 := eq_true q5
          go_wp2
          go_ret
          exact ⟨by first | rfl | (simp; done) | (simp [*]; done), by repeat (first | exact Drawn0.refl _ | apply Drawn0.step)⟩
         ·rw [if_neg c11] at H
          have c11b0 : decide (57 < (bt a0 x7_1)) = false := decide_eq_false c11
          clear c11
          have H' := Aside0.mk H
          clear H
          have p5 : 0 ≤ (x7_1 : Int) := of_decide_eq_true (by assumption)
          have q5 : x7_1 < (a0.size : Int) := of_decide_eq_true (by assumption)
          have hx5 := bt_at a0 x7_1
          replace p5 := eq_true p5
          replace q5 := eq_true q5
          go_wp2
          go_roundg k1
          case measure => have := HK1.out; omega
          case rel => exact ⟨(wrap64 (x7_1 + 1)), (by first | rfl | (simp; done) | (simp [*]; done)), H', ⟨by have := HK1.out; omega⟩, by repeat (first | exact Drawn0.refl _ | apply Drawn0.step)⟩
       ·rw [if_neg c9] at H
        have c9b0 : decide (122 < (bt a0 x7_1)) = false := decide_eq_false c9
        clear c9
        have H' := Aside0.mk H
        clear H
        have p5 : 0 ≤ (x7_1 : Int) := of_decide_eq_true (by assumption)
        have q5 : x7_1 < (a0.size : Int) := of_decide_eq_true (by assumption)
        have hx5 := bt_at a0 x7_1
        replace p5 := eq_true p5
        replace q5 := eq_true q5
        go_wp2
        go_roundg k1
        case measure => have := HK1.out; omega
        case rel => exact ⟨(wrap64 (x7_1 + 1)), (by first | rfl | (simp; done) | (simp [*]; done)), H', ⟨by have := HK1.out; omega⟩, by repeat (first | exact Drawn0.refl _ | apply Drawn0.step)⟩
     ·rw [if_neg c4] at H
      exact absurd H (by simp)
    ·rw [if_neg c3] at H
     exact absurd H (by simp)
   ·rw [if_neg c2] at H
    have c2b0 : decide (x7_1 < (a0.size : Int)) = false := decide_eq_false c2
    clear c2
    obtain rfl := Option.some.inj H
    go_wp2
    go_ret
    exact ⟨by first | rfl | (simp; done) | (simp [*]; done), by repeat (first | exact Drawn0.refl _ | apply Drawn0.step)⟩
/-! ### impl_IsName: function 39 -/
def impl_IsName.f (k : Nat) (a0 : ByteArray) : Option (Bool) := if (a0.size : Int) < 1 then (some false) else (if (a0.size : Int) > 10 then (some false) else (if 0 < (a0.size : Int) then (if (bt a0 0) < 97 then (some false) else (if (bt a0 0) > 122 then (some false) else ((impl_onlyNameBytes.f k a0).bind fun t160 => (some t160)))) else (none)))
set_option maxHeartbeats 8000000 in
set_option maxRecDepth 100000 in
theorem impl_IsName.calls (k : Nat) (a0 : ByteArray) (r : Bool) (w : World) (h : impl_IsName.f k a0 = some r) :
  Calls Try.prog 39 #[.string a0] w fun e w' => e = .returned (.bool r) ∧ Drawn0 w w' := by
 have H : (if (a0.size : Int) < 1 then (some false) else (if (a0.size : Int) > 10 then (some false) else (if 0 < (a0.size : Int) then (if (bt a0 0) < 97 then (some false) else (if (bt a0 0) > 122 then (some false) else ((impl_onlyNameBytes.f k a0).bind fun t160 => (some t160)))) else (none)))) = some r := h
 clear h
 by_cases c2 : (a0.size : Int) < 1
 ·rw [if_pos c2] at H
  have c2b0 : decide ((a0.size : Int) < 1) = true := decide_eq_true c2
  have c2b1 : decide (a0.size < 1) = true := decide_eq_true (by omega)
  clear c2
  obtain rfl := Option.some.inj H
  go_enter Try.func39, Try.ntmps39
  go_wp2
  go_ret
  exact ⟨by first | rfl | (simp; done) | (simp [*]; done), by repeat (first | exact Drawn0.refl _ | apply Drawn0.step)⟩
 ·rw [if_neg c2] at H
  have c2b0 : decide ((a0.size : Int) < 1) = false := decide_eq_false c2
  have c2b1 : decide (a0.size < 1) = false := decide_eq_false (by omega)
  clear c2
  by_cases c3 : (a0.size : Int) > 10
  ·rw [if_pos c3] at H
   have c3b0 : decide (10 < (a0.size : Int)) = true := decide_eq_true c3
   have c3b1 : decide (10 < a0.size) = true := decide_eq_true (by omega)
   clear c3
   obtain rfl := Option.some.inj H
   go_enter Try.func39, Try.ntmps39
   go_wp2
   go_ret
   exact ⟨by first | rfl | (simp; done) | (simp [*]; done), by repeat (first | exact Drawn0.refl _ | apply Drawn0.step)⟩
  ·rw [if_neg c3] at H
   have c3b0 : decide (10 < (a0.size : Int)) = false := decide_eq_false c3
   have c3b1 : decide (10 < a0.size) = false := decide_eq_false (by omega)
   clear c3
   by_cases c4 : 0 < (a0.size : Int)
   ·rw [if_pos c4] at H
    have c4b0 : decide (0 < (a0.size : Int)) = true := decide_eq_true c4
    have c4b1 : decide (0 < a0.size) = true := decide_eq_true (by omega)
    clear c4
    by_cases c6 : (bt a0 0) < 97
    ·rw [if_pos c6] at H
     have c6b0 : decide ((bt a0 0) < 97) = true := decide_eq_true c6
     clear c6
     obtain rfl := Option.some.inj H
     have p5 : 0 ≤ (0 : Int) := (by omega)
     have q5 : 0 < a0.size := (by have : (0 : Int) < (a0.size : Int) := of_decide_eq_true (by assumption); omega)
     have hx5 : ∀ h : 0 < a0.size, ((a0[0]'h).toNat : Int) = bt a0 0 := bt_at a0 0
     clear p5
     have qi5 : (0 < (a0.size : Int)) = True := eq_true (of_decide_eq_true (by assumption))
     replace q5 := eq_true q5
     go_enter Try.func39, Try.ntmps39
     go_wp2
     go_ret
     exact ⟨by first | rfl | (simp; done) | (simp [*]; done), by repeat (first | exact Drawn0.refl _ | apply Drawn0.step)⟩
    ·rw [if_neg c6] at H
     have c6b0 : decide ((bt a0 0) < 97) = false := decide_eq_false c6
     clear c6
     by_cases c8 : (bt a0 0) > 122
     ·rw [if_pos c8] at H
      have c8b0 : decide (122 < (bt a0 0)) = true := decide_eq_true c8
      clear c8
      obtain rfl := Option.some.inj H
      have p5 : 0 ≤ (0 : Int) := (by omega)
      have q5 : 0 < a0.size := (by have : (0 : Int) < (a0.size : Int) := of_decide_eq_true (by assumption); omega)
      have hx5 : ∀ h : 0 < a0.size, ((a0[0]'h).toNat : Int) = bt a0 0 := bt_at a0 0
      clear p5
      have qi5 : (0 < (a0.size : Int)) = True := eq_true (of_decide_eq_true (by assumption))
      replace q5 := eq_true q5
      have p7 : 0 ≤ (0 : Int) := (by omega)
      have q7 : 0 < a0.size := (by have : (0 : Int) < (a0.size : Int) := of_decide_eq_true (by assumption); omega)
      have hx7 : ∀ h : 0 < a0.size, ((a0[0]'h).toNat : Int) = bt a0 0 := bt_at a0 0
      clear p7
      have qi7 : (0 < (a0.size : Int)) = True := eq_true (of_decide_eq_true (by assumption))
      replace q7 := eq_true q7
      go_enter Try.func39, Try.ntmps39
      go_wp2
      go_ret
      exact ⟨by first | rfl | (simp; done) | (simp [*]; done), by repeat (first | exact Drawn0.refl _ | apply Drawn0.step)⟩
     ·rw [if_neg c8] at H
      have c8b0 : decide (122 < (bt a0 0)) = false := decide_eq_false c8
      clear c8
      replace H := Option.bind_eq_some_iff.mp H
      obtain ⟨t160, A90, H⟩ := H
      replace H : (some t160) = some r := H
      have A9 := Aside0.mk A90
      clear A90
      obtain rfl := Option.some.inj H
      have p5 : 0 ≤ (0 : Int) := (by omega)
      have q5 : 0 < a0.size := (by have : (0 : Int) < (a0.size : Int) := of_decide_eq_true (by assumption); omega)
      have hx5 : ∀ h : 0 < a0.size, ((a0[0]'h).toNat : Int) = bt a0 0 := bt_at a0 0
      clear p5
      have qi5 : (0 < (a0.size : Int)) = True := eq_true (of_decide_eq_true (by assumption))
      replace q5 := eq_true q5
      have p7 : 0 ≤ (0 : Int) := (by omega)
      have q7 : 0 < a0.size := (by have : (0 : Int) < (a0.size : Int) := of_decide_eq_true (by assumption); omega)
      have hx7 : ∀ h : 0 < a0.size, ((a0[0]'h).toNat : Int) = bt a0 0 := bt_at a0 0
      clear p7
      have qi7 : (0 < (a0.size : Int)) = True := eq_true (of_decide_eq_true (by assumption))
      replace q7 := eq_true q7
      go_enter Try.func39, Try.ntmps39
      go_wp2_with (first | ((with_reducible refine gate_callee (f := 75) rfl ?_); refine goesL_ (some 22) rfl rfl Try.func75 (by kernel_rfl) rfl #[.string a0] rfl (by first | rfl | (simp only [List.map_toArray, List.map_cons, List.map_nil]; done) | (simp only [List.map_toArray, List.map_cons, List.map_nil]; rfl)) ?_; (with_reducible refine (impl_onlyNameBytes.calls k a0 t160 _ A9.out).mono ?_); rintro e w' ⟨rfl, ⟨nd, rfl⟩⟩; refine ⟨_, rfl, ?_⟩))
      go_ret
      exact ⟨by first | rfl | (simp; done) | (simp [*]; done), by repeat (first | exact Drawn0.refl _ | apply Drawn0.step)⟩
   ·rw [if_neg c4] at H
    exact absurd H (by simp)
end Go.Proofs.Ytgdiabfmjcejdaa.P
end
