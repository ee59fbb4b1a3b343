/- Texts of this seat, merged: Open, LEv, QLawsToint64S, LCopy, LInP, LWithin, LIInP, LNoteCopy, LMel, LIMelOk, LIn, LNoteMark, LAbs, LDiv, LMin, LOrn, LOrn2, LDropAt, LOrn3, LSInP, QSpecL16Drone, QSpecL16Units, LSUnits. -/
import Derived.Deep.Slices
import Derived.WideShapes
import Derived.ChangeShapes
import Derived.ChangeMaps5
import Derived.ChangeSame
import Derived.Test.YtlgigomahobfbaaGOM1
import Derived.Test.YtlgigomahobfbaaGOM2
import Derived.Test.YtlgigomahobfbaaGOM3
section
/- How the arguments of this seat's laws read, as the kinds of the printed words: an argument that the row reads has the cells of its kind, and its numbers, texts and lengths are in bounds. No condition. -/
namespace Go.Proofs.Ytlgigomahobfbaa.P
open Go.RowKit Go.ChangeShapes Go.WideShapes Go.Proofs.YtlgigomahobfbaaW.PrintWords Go.Proofs.YtlgigomahobfbaaW.PrintLast
set_option linter.unusedVariables false

section
variable {H : Type} {enc : TypeId × Value → H} {P : Program} {w : World} {held : Bool}

theorem list_choose {α : Type} (p : Nat → α → Prop) : ∀ n, (∀ i, i < n → ∃ y, p i y) → ∃ ys : List α, ys.length = n ∧ ∀ (i : Nat) (y : α), ys[i]? = some y → p i y := by
  intro n
  induction n with
  | zero => exact fun _ => ⟨[], rfl, fun i y h => by simp at h⟩
  | succ n ih =>
    intro h
    obtain ⟨ys, hl, hp⟩ := ih (fun i hi => h i (by omega))
    obtain ⟨z, hz⟩ := h n (by omega)
    refine ⟨ys ++ [z], by simp [hl], fun i y hy => ?_⟩
    rcases Nat.lt_or_ge i ys.length with hi | hi
    · rw [List.getElem?_append_left hi] at hy
      exact hp i y hy
    · rw [List.getElem?_append_right hi] at hy
      have h0 : i - ys.length = 0 := by
        rcases Nat.eq_zero_or_pos (i - ys.length) with h1 | h1
        · exact h1
        · rw [List.getElem?_eq_none (by simp; omega)] at hy
          cases hy
      rw [h0] at hy
      simp only [List.getElem?_cons_zero, Option.some.injEq] at hy
      subst hy
      have : i = n := by omega
      subst this
      exact hz

theorem len_cons {n : Nat} {cs : List Value} (h : cs.length = n + 1) : ∃ c t, cs = c :: t ∧ t.length = n := by
  cases cs with
  | nil => simp at h
  | cons c t => exact ⟨c, t, rfl, by simpa using h⟩

theorem opn_int {t : TypeId} {k : IntKind} (ht : P.underlying t = some (.int k)) {fuel : Nat} {cs : List Value} {x : DataW H × List MemPlace} (h : DataW.trod enc P w 0 (fun _ => true) held fuel t cs = some x) :
    ∃ y : Int, (Kd.int k).K w y cs ∧ (Lit.int k y).wf = true := by
  obtain ⟨n, hcs, _, hw⟩ := DataW.trod_int ht h
  exact ⟨n, hcs, hw⟩

theorem opn_bool {t : TypeId} (ht : P.underlying t = some .bool) {fuel : Nat} {cs : List Value} {x : DataW H × List MemPlace} (h : DataW.trod enc P w 0 (fun _ => true) held fuel t cs = some x) :
    ∃ y : Bool, Kd.bool.K w y cs ∧ True := by
  obtain ⟨b, hcs, _⟩ := DataW.trod_bool ht h
  exact ⟨b, hcs, trivial⟩

theorem opn_string {t : TypeId} (ht : P.underlying t = some .string) {fuel : Nat} {cs : List Value} {x : DataW H × List MemPlace} (h : DataW.trod enc P w 0 (fun _ => true) held fuel t cs = some x) :
    ∃ y : ByteArray, Kd.string.K w y cs ∧ y.size ≤ maxLen := by
  obtain ⟨s, hcs, _, hs⟩ := DataW.trod_string ht h
  exact ⟨s, hcs, hs⟩

theorem opn_slice {α : Type} (d : Kd α) (ok : α → Prop) {t e : TypeId} (ht : P.underlying t = some (.slice e)) (ce : P.cellsOf e = d.sz)
    (hE : ∀ {fuel : Nat} {cs : List Value} {x : DataW H × List MemPlace}, DataW.trod enc P w 0 (fun _ => true) held fuel e cs = some x → ∃ y : α, d.K w y cs ∧ ok y)
    {fuel : Nat} {cs : List Value} {x : DataW H × List MemPlace} (h : DataW.trod enc P w 0 (fun _ => true) held fuel t cs = some x) :
    ∃ ys : List α, (Kd.slice e d).K w ys cs ∧ ys.length ≤ maxLen ∧ ∀ y ∈ ys, ok y := by
  rcases Go.Deep.open_slice ht h with ⟨rfl, _⟩ | ⟨a, len, cap, m, n, D, Pl, rfl, hb, hl, hm, hmm, rfl, hx⟩
  · exact ⟨[], ⟨none, 0, rfl, Nat.le_refl _, rfl, by simp, fun h => absurd h (Nat.lt_irrefl 0)⟩, Nat.zero_le _, by simp⟩
  · simp only [if_true] at hmm
    subst hmm
    obtain ⟨ys, hyl, hy⟩ := list_choose (fun i (y : α) => (∃ cs', w.cells? 0 (a.add (i * P.cellsOf e)) (P.cellsOf e) = some cs' ∧ d.K w y cs') ∧ ok y) len (fun i hi => by
      obtain ⟨cs', h1, h2⟩ := hx i (by omega)
      obtain ⟨y, hk, ho⟩ := hE h2
      exact ⟨y, ⟨cs', h1, hk⟩, ho⟩)
    subst hyl
    refine ⟨ys, ⟨some a, m, rfl, hl, rfl, Nat.le_trans hl (by unfold maxLen at hm; exact hm), fun _ => ⟨a, rfl, fun j p hp => ?_⟩⟩, Nat.le_trans hl hm, fun y hmem => ?_⟩
    · obtain ⟨⟨cs', h1, hk⟩, _⟩ := hy j p hp
      obtain ⟨_, hlen, hcell⟩ := World.cells?_some h1
      rw [ce] at hlen hcell
      refine ⟨cs', hlen, hk, fun i u hu => ?_⟩
      have hi : i < d.sz := by
        rw [← hlen]
        exact (List.getElem?_eq_some_iff.1 hu).1
      have := hcell i hi
      rw [Go.Deep.add_add] at this
      rw [this, hu]
    · obtain ⟨i, hi⟩ := List.getElem?_of_mem hmem
      exact (hy i y hi).2
end
theorem opn_S77 {H : Type} {enc : TypeId × Value → H} {w : World} {held : Bool} {fuel : Nat} {cs : List Value} {x : DataW H × List MemPlace} (h : DataW.trod enc Try.prog w 0 (fun _ => true) held fuel 77 cs = some x) :
    ∃ y : S77, k77.K w y cs ∧ (Lit.int .i64 y.f0).wf = true ∧ (Lit.int .i64 y.f1).wf = true := by
  obtain ⟨xs, n, _, _, hl, hlen, hf⟩ := DataW.trod_struct Try.underlying77 h
  rw [show Try.prog.cellsOf 77 = 2 from by kernel_rfl] at hl
  obtain ⟨c0, t0, rfl, hl0⟩ := len_cons hl
  obtain ⟨c1, t1, rfl, hl1⟩ := len_cons hl0
  obtain rfl := List.eq_nil_of_length_eq_zero hl1
  have h0 := hf 0 _ rfl
  rw [List.getElem?_eq_getElem (show 0 < xs.length by rw [hlen]; decide)] at h0
  obtain ⟨y0, k0, w0⟩ := (opn_int Try.underlying2) (show DataW.trod enc Try.prog w 0 (fun _ => true) held n 2 [c0] = some _ from by simpa [show Try.prog.cellsOf 2 = 1 from by kernel_rfl] using h0)
  have h1 := hf 1 _ rfl
  rw [List.getElem?_eq_getElem (show 1 < xs.length by rw [hlen]; decide)] at h1
  obtain ⟨y1, k1, w1⟩ := (opn_int Try.underlying2) (show DataW.trod enc Try.prog w 0 (fun _ => true) held n 2 [c1] = some _ from by simpa [show Try.prog.cellsOf 2 = 1 from by kernel_rfl] using h1)
  exact ⟨⟨y0, y1⟩, ⟨[c0], [c1], rfl, k0, k1⟩, w0, w1⟩
theorem opn_L22 {H : Type} {enc : TypeId × Value → H} {w : World} {held : Bool} {fuel : Nat} {cs : List Value} {x : DataW H × List MemPlace} (h : DataW.trod enc Try.prog w 0 (fun _ => true) held fuel 22 cs = some x) :
    ∃ y : List (S77), (Kd.slice 77 k77).K w y cs ∧ y.length ≤ maxLen ∧ ∀ y0 ∈ y, ((Lit.int .i64 y0.f0).wf = true ∧ (Lit.int .i64 y0.f1).wf = true) :=
  opn_slice k77 (fun y0 => ((Lit.int .i64 y0.f0).wf = true ∧ (Lit.int .i64 y0.f1).wf = true)) Try.underlying22 (show Try.prog.cellsOf 77 = _ by kernel_rfl) (fun h => opn_S77 h) h
theorem opn_L30 {H : Type} {enc : TypeId × Value → H} {w : World} {held : Bool} {fuel : Nat} {cs : List Value} {x : DataW H × List MemPlace} (h : DataW.trod enc Try.prog w 0 (fun _ => true) held fuel 30 cs = some x) :
    ∃ y : List Int, (Kd.slice 2 (Kd.int .i64)).K w y cs ∧ y.length ≤ maxLen ∧ ∀ y0 ∈ y, (Lit.int .i64 y0).wf = true :=
  opn_slice (Kd.int .i64) (fun y0 => (Lit.int .i64 y0).wf = true) Try.underlying30 (show Try.prog.cellsOf 2 = _ by kernel_rfl) (fun h => (opn_int Try.underlying2) h) h
theorem opn_L44 {H : Type} {enc : TypeId × Value → H} {w : World} {held : Bool} {fuel : Nat} {cs : List Value} {x : DataW H × List MemPlace} (h : DataW.trod enc Try.prog w 0 (fun _ => true) held fuel 44 cs = some x) :
    ∃ y : List (List (S77)), (Kd.slice 22 (Kd.slice 77 k77)).K w y cs ∧ y.length ≤ maxLen ∧ ∀ y0 ∈ y, (y0.length ≤ maxLen ∧ ∀ y1 ∈ y0, ((Lit.int .i64 y1.f0).wf = true ∧ (Lit.int .i64 y1.f1).wf = true)) :=
  opn_slice (Kd.slice 77 k77) (fun y0 => (y0.length ≤ maxLen ∧ ∀ y1 ∈ y0, ((Lit.int .i64 y1.f0).wf = true ∧ (Lit.int .i64 y1.f1).wf = true))) Try.underlying44 (show Try.prog.cellsOf 22 = _ by kernel_rfl) (fun h => opn_L22 h) h
theorem opn_S103 {H : Type} {enc : TypeId × Value → H} {w : World} {held : Bool} {fuel : Nat} {cs : List Value} {x : DataW H × List MemPlace} (h : DataW.trod enc Try.prog w 0 (fun _ => true) held fuel 103 cs = some x) :
    ∃ y : S103, k103.K w y cs ∧ (Lit.int .i64 y.f0).wf = true ∧ (Lit.int .i64 y.f1).wf = true ∧ (Lit.int .i64 y.f2).wf = true := by
  obtain ⟨xs, n, _, _, hl, hlen, hf⟩ := DataW.trod_struct Try.underlying103 h
  rw [show Try.prog.cellsOf 103 = 3 from by kernel_rfl] at hl
  obtain ⟨c0, t0, rfl, hl0⟩ := len_cons hl
  obtain ⟨c1, t1, rfl, hl1⟩ := len_cons hl0
  obtain ⟨c2, t2, rfl, hl2⟩ := len_cons hl1
  obtain rfl := List.eq_nil_of_length_eq_zero hl2
  have h0 := hf 0 _ rfl
  rw [List.getElem?_eq_getElem (show 0 < xs.length by rw [hlen]; decide)] at h0
  obtain ⟨y0, k0, w0⟩ := (opn_int Try.underlying2) (show DataW.trod enc Try.prog w 0 (fun _ => true) held n 2 [c0] = some _ from by simpa [show Try.prog.cellsOf 2 = 1 from by kernel_rfl] using h0)
  have h1 := hf 1 _ rfl
  rw [List.getElem?_eq_getElem (show 1 < xs.length by rw [hlen]; decide)] at h1
  obtain ⟨y1, k1, w1⟩ := (opn_int Try.underlying2) (show DataW.trod enc Try.prog w 0 (fun _ => true) held n 2 [c1] = some _ from by simpa [show Try.prog.cellsOf 2 = 1 from by kernel_rfl] using h1)
  have h2 := hf 2 _ rfl
  rw [List.getElem?_eq_getElem (show 2 < xs.length by rw [hlen]; decide)] at h2
  obtain ⟨y2, k2, w2⟩ := (opn_int Try.underlying2) (show DataW.trod enc Try.prog w 0 (fun _ => true) held n 2 [c2] = some _ from by simpa [show Try.prog.cellsOf 2 = 1 from by kernel_rfl] using h2)
  exact ⟨⟨y0, y1, y2⟩, ⟨[c0], [c1, c2], rfl, k0, ⟨[c1], [c2], rfl, k1, k2⟩⟩, w0, w1, w2⟩
theorem opn_L56 {H : Type} {enc : TypeId × Value → H} {w : World} {held : Bool} {fuel : Nat} {cs : List Value} {x : DataW H × List MemPlace} (h : DataW.trod enc Try.prog w 0 (fun _ => true) held fuel 56 cs = some x) :
    ∃ y : List (S103), (Kd.slice 103 k103).K w y cs ∧ y.length ≤ maxLen ∧ ∀ y0 ∈ y, ((Lit.int .i64 y0.f0).wf = true ∧ (Lit.int .i64 y0.f1).wf = true ∧ (Lit.int .i64 y0.f2).wf = true) :=
  opn_slice k103 (fun y0 => ((Lit.int .i64 y0.f0).wf = true ∧ (Lit.int .i64 y0.f1).wf = true ∧ (Lit.int .i64 y0.f2).wf = true)) Try.underlying56 (show Try.prog.cellsOf 103 = _ by kernel_rfl) (fun h => opn_S103 h) h
end Go.Proofs.Ytlgigomahobfbaa.P
end

section
namespace Go.Proofs.Ytlgigomahobfbaa.P
open Go.RowKit Go.Proofs.Ytlgigomahobfbaa.P Go.Proofs.YtlgigomahobfbaaW.PrintWords Go.Proofs.YtlgigomahobfbaaW.PrintLast Go.Proofs.YtlgigomahobfbaaW.PrintMore
set_option linter.unusedVariables false
set_option linter.unusedSimpArgs false
theorem Ev.succ {α : Type} {g : Nat → Option α} {r : α} (h : Ev (fun k => g (k + 1)) r) : Ev g r := Ev.step (f := fun k => g (k + 1)) (fun _ => rfl) h
theorem Ev.ite_pos {α : Type} {c : Prop} [Decidable c] {f g : Nat → Option α} {r : α} (hc : c) (h : Ev f r) : Ev (fun k => if c then f k else g k) r := Ev.congr (fun _ => if_pos hc) h
theorem Ev.ite_neg {α : Type} {c : Prop} [Decidable c] {f g : Nat → Option α} {r : α} (hc : ¬ c) (h : Ev g r) : Ev (fun k => if c then f k else g k) r := Ev.congr (fun _ => if_neg hc) h
theorem Ev.bindc {α β : Type} {o : Option α} {f : Nat → α → Option β} {a : α} {r : β} (ho : o = some a) (h : Ev (fun k => f k a) r) : Ev (fun k => o.bind (f k)) r := Ev.congr (fun _ => by rw [ho]; rfl) h
theorem Ev.konst {α : Type} {o : Option α} {r : α} (h : o = some r) : Ev (fun _ => o) r := ⟨0, fun _ _ => h⟩
theorem Ev.both {α : Type} {g : Nat → Option α} {r q : α} (h : Ev g r) (h' : Ev g q) : r = q := by
  obtain ⟨a, ha⟩ := h
  obtain ⟨b, hb⟩ := h'
  have h1 := ha (max a b) (Nat.le_max_left _ _)
  have h2 := hb (max a b) (Nat.le_max_right _ _)
  rw [h1] at h2
  exact Option.some.inj h2
theorem Ev.cast {α : Type} {g : Nat → Option α} {r q : α} (h : Ev g r) (e : r = q) : Ev g q := e ▸ h
theorem Ev.out {α : Type} {g : Nat → Option α} {r : α} (h : Ev g r) : ∃ k, g k = some r := h.rounds

/-- A sum, a difference that needs no wrap. -/
theorem w64 {x : Int} (h0 : -9223372036854775808 ≤ x) (h1 : x ≤ 9223372036854775807) : wrap64 x = x := by unfold wrap64; omega
theorem mn_eq (a b : Int) : mn a b = min a b := by unfold mn; split <;> omega
theorem mx_eq (a b : Int) : mx a b = max a b := by unfold mx; split <;> omega
theorem wf64 {x : Int} (h : (Lit.int .i64 x).wf = true) : -9223372036854775808 ≤ x ∧ x ≤ 9223372036854775807 := by
  simp [Lit.wf, IntKind.min, IntKind.max, IntKind.signed, IntKind.bits] at h
  omega
end Go.Proofs.Ytlgigomahobfbaa.P
end

section
namespace Go.Proofs.Ytlgigomahobfbaa.P
open Go.RowKit Go.Proofs.YtlgigomahobfbaaW.PrintWords Go.Proofs.YtlgigomahobfbaaW.PrintLast Go.Proofs.YtlgigomahobfbaaW.PrintMore
attribute [local go_sem] max2_int min2_int max_two min_two max_three min_three max_four min_four   -- for this text's walks alone
set_option linter.unusedVariables false
set_option linter.unusedSimpArgs false
/-! ### laws_toInt64S: function 21 -/
def laws_toInt64S.l0 : Nat → List Int → List Int → Int → Option (List Int)
  | 0, _, _, _ => none
  | k + 1, x0, x3, x4 => if x4 < (x0.length : Int) then (if 0 ≤ x4 then (if x4 < (x3.length : Int) then (laws_toInt64S.l0 k x0 (x3.set (x4 : Int).toNat (rd x0 x4)) (wrap64 (x4 + 1))) else (none)) else (none)) else (some x3)
def laws_toInt64S.f (k : Nat) (l0 : List Int) : Option (List Int) := if 0 ≤ (l0.length : Int) then (if ((l0.length : Int) : Int).toNat ≤ 35184372088832 then (laws_toInt64S.l0 k l0 (List.replicate ((l0.length : Int) : Int).toNat 0) 0) else (none)) else (none)
theorem laws_toInt64S.mono_l : ∀ k, (∀ y0 y1 y2, LeO (laws_toInt64S.l0 k y0 y1 y2) (laws_toInt64S.l0 (k + 1) y0 y1 y2))
  | 0 => fun _ _ _ r h => by simp [laws_toInt64S.l0] at h
  | k + 1 => by
    have ih0 := laws_toInt64S.mono_l k
    · intro y0 y1 y2
      unfold laws_toInt64S.l0
      repeat' first
      | (with_reducible exact ih0 _ _ _)
      | (with_reducible exact LeO.refl _)
      | (with_reducible exact LeO.none _)
      | (with_reducible refine LeO.ite ?_ ?_)
      | (with_reducible refine LeO.bind ?_ (fun _ => ?_))
      | exact ih0 _ _ _
      | exact LeO.none _
      | refine LeO.ite ?_ ?_
      | refine LeO.bind ?_ (fun _ => ?_)
theorem laws_toInt64S.mono : ∀ a0 k, LeO (laws_toInt64S.f k a0) (laws_toInt64S.f (k + 1) a0) := by
  intro a0 k
  have ih0 := laws_toInt64S.mono_l k
  unfold laws_toInt64S.f
  repeat' first
      | (with_reducible exact ih0 _ _ _)
      | (with_reducible exact LeO.refl _)
      | (with_reducible exact LeO.none _)
      | (with_reducible refine LeO.ite ?_ ?_)
      | (with_reducible refine LeO.bind ?_ (fun _ => ?_))
      | exact ih0 _ _ _
      | exact LeO.none _
      | refine LeO.ite ?_ ?_
      | refine LeO.bind ?_ (fun _ => ?_)
set_option maxHeartbeats 8000000 in
set_option maxRecDepth 100000 in
theorem laws_toInt64S.calls (k : Nat) (A0 : Option Addr) (c0 : Nat) (l0 : List Int) (r : List Int) (w : World) (hr0 : Kd.C (Kd.int .i64) w A0 l0.length l0) (hc0 : l0.length ≤ c0) (h : laws_toInt64S.f k l0 = some r) :
    Calls Try.prog 21 #[.slice A0 l0.length c0] w fun e w' => ∃ v0_ : Value, e = .returned (v0_) ∧ Kd.R (Kd.int .i64) 2 w' w.heap.size (fun _ => True) v0_ r ∧ Below w.heap.size w w' := by
  have HR0 := Aside0.mk hr0
  have HC0 := Aside0.mk hc0
  clear hr0 hc0
  have HB := Aside0.mk (Below.refl w.heap.size w)
  have H : (if 0 ≤ (l0.length : Int) then (if ((l0.length : Int) : Int).toNat ≤ 35184372088832 then (laws_toInt64S.l0 k l0 (List.replicate ((l0.length : Int) : Int).toNat 0) 0) else (none)) else (none)) = some r := h
  clear h
  by_cases c2 : 0 ≤ (l0.length : Int)
  · rw [if_pos c2] at H
    have c2b0 := eq_true c2
    have c2b1 : decide (0 ≤ (l0.length : Int)) = true := decide_eq_true c2
    clear c2
    by_cases c3 : ((l0.length : Int) : Int).toNat ≤ 35184372088832
    · rw [if_pos c3] at H
      have c3b0 := eq_true c3
      have c3b1 : decide (((l0.length : Int) : Int).toNat ≤ 35184372088832) = true := decide_eq_true c3
      clear c3
      obtain ⟨y184, hy184⟩ : ∃ y_ : List Int, y_ = (List.replicate ((l0.length : Int) : Int).toNat 0) := ⟨_, rfl⟩
      replace H : (laws_toInt64S.l0 k l0 y184 0) = some r := by first | (rw [hy184]; with_reducible exact H) | (have H2_ := (Option.bind_some _ _).symm.trans H; rw [hy184]; with_reducible exact H2_) | (have H2_ := (Option.bind_some _ _).symm.trans H; with_reducible exact H2_) | with_reducible exact H | (rw [hy184]; exact H) | exact H
      have Ny184 := Aside0.mk hy184
      clear hy184
      have H' := Aside0.mk H
      clear H
      go_enter Try.func21, Try.ntmps21
      go_wp2_with (first | ((with_reducible refine gate_dst (N := 7) rfl ?_); refine Kd.R_make (Kd.int .i64) _ 2 rfl (N := 7) rfl 30 _ _ rfl (l0.length : Int) rfl rfl Try.underlying30 (.int .i64 0) 8 info2 rfl (by decide) (by omega) 0 (ok := fun _ => True) (okp := fun _ => True) rfl (fun _ hk => hk) trivial (of_decide_eq_true (by first | (with_reducible assumption) | assumption)) (Nat.le_trans (Nat.mul_le_mul_right _ (of_decide_eq_true (by first | (with_reducible assumption) | assumption) : (l0.length : Int).toNat ≤ 35184372088832)) (by omega)) (Below.refl _ _) (Nat.le_refl _) ?_; intro v185 w4 ho5 hb hg_ hnew_; clear hg_ hnew_; (first | rw [← Ny184.out] at ho5 | (simp only [Int.reduceToNat] at ho5; rw [← Ny184.out] at ho5)); have n0_ := Aside0.mk (Kd.R_lower ho5 (below_size (by repeat (first | (with_reducible first | exact HB.out | apply below_alloc | apply pw_below_drewN | apply below_drew1) | exact HB.out)))); have n1_ := Aside0.mk (below_step (by repeat (first | (with_reducible first | exact HB.out | apply below_alloc | apply pw_below_drewN | apply below_drew1) | exact HB.out)) hb); clear HB; have HO186 := n0_; have HB := n1_; clear n0_ n1_; clear hb ho5))
      go_loopg [4] k (fun kq v4 w' => ∃ (x3_1 : List Int) (x4_1 : Int), v4 = .int .i64 x4_1 ∧ Aside0 (laws_toInt64S.l0 kq l0 x3_1 x4_1 = some r) ∧ Aside0 (kq ≤ k) ∧ Aside0 (Kd.R (Kd.int .i64) 2 w' w.heap.size (fun _ => True) v185 x3_1) ∧ Aside0 (Below w.heap.size w w'))
      case atStart => exact ⟨(y184), (0), (by first | rfl | (simp; done) | (simp [*]; done)), H', ⟨Nat.le_refl _⟩, ⟨by (with_reducible repeat (first | apply Kd.R_alloc | apply Kd.R_drewN | apply Kd.R_drew)); exact HO186.out⟩, ⟨by repeat (first | (with_reducible first | exact HB.out | apply below_alloc | apply pw_below_drewN | apply below_drew1) | exact HB.out)⟩⟩
      case round =>
        clear H'
        try clear c2
        try clear c2b0
        try clear c2b1
        try clear p2
        try clear c3
        try clear c3b0
        try clear c3b1
        obtain ⟨x3_1, x4_1, rfl, HA, HK1, HO_3, HB⟩ := hrel
        cases gk with
        | zero => exact absurd HA.out (by simp [laws_toInt64S.l0])
        | succ k1 =>
          have H := HA.out
          clear HA
          simp only [laws_toInt64S.l0] at H
          by_cases c6 : x4_1 < (l0.length : Int)
          · rw [if_pos c6] at H
            have c6b0 : decide (x4_1 < (l0.length : Int)) = true := decide_eq_true c6
            clear c6
            by_cases c7 : 0 ≤ x4_1
            · rw [if_pos c7] at H
              have c7b0 : decide (0 ≤ x4_1) = true := decide_eq_true c7
              clear c7
              by_cases c8 : x4_1 < (x3_1.length : Int)
              · rw [if_pos c8] at H
                have c8b0 : decide (x4_1 < (x3_1.length : Int)) = true := decide_eq_true c8
                clear c8
                obtain ⟨y188, hy188⟩ : ∃ y_ : List Int, y_ = (x3_1.set (x4_1 : Int).toNat (rd l0 x4_1)) := ⟨_, rfl⟩
                replace H : (laws_toInt64S.l0 k1 l0 y188 (wrap64 (x4_1 + 1))) = some r := by first | (rw [hy188]; with_reducible exact H) | (have H2_ := (Option.bind_some _ _).symm.trans H; rw [hy188]; with_reducible exact H2_) | (have H2_ := (Option.bind_some _ _).symm.trans H; with_reducible exact H2_) | with_reducible exact H | (rw [hy188]; exact H) | exact H
                have Ny188 := Aside0.mk hy188
                clear hy188
                have H' := Aside0.mk H
                clear H
                have p187 : 0 ≤ (x4_1 : Int) := of_decide_eq_true (by first | (with_reducible assumption) | assumption)
                have q187 : x4_1 < (l0.length : Int) := of_decide_eq_true (by first | (with_reducible assumption) | assumption)
                obtain ⟨ad187, e187, hx187_0⟩ := Kd.at_int HR0.out x4_1 p187 q187
                cases e187
                replace hx187_0 := (HB.out.cell (World.block_lt_of_cell? w _ hx187_0)).trans hx187_0
                replace p187 := eq_true p187
                replace q187 := eq_true q187
                have p9 : 0 ≤ (x4_1 : Int) := of_decide_eq_true (by first | (with_reducible assumption) | assumption)
                have q9 : (x4_1 : Int) < ((x3_1.length : Int) : Int) := of_decide_eq_true (by first | (with_reducible assumption) | assumption)
                obtain ⟨go9, co9, eo9, gb9, gl9, cl9, HG9⟩ := Kd.R_form HO_3.out (by omega)
                (first | cases eo9 | (injection eo9 with ea_ en_ ec_; (first | subst ea_ | (injection ea_ with ea_; subst ea_)); subst ec_; clear en_))
                have GB9 := Aside0.mk gb9
                have GG9 := Aside0.mk HG9
                clear gb9 gl9 HG9
                obtain ⟨hx9_0, hf9_0⟩ := Kd.R_celln 0 HO_3.out (x4_1 : Int) p9 q9
                replace p9 := eq_true p9
                replace q9 := eq_true q9
                have HP10 := Kd.R_putg HO_3.out (x4_1 : Int) (rd l0 x4_1)
                go_wp2_with (first | ((with_reducible refine gate_store (t := 2) (p := 20) rfl ?_); refine store_event (t := 2) (p := 20) (v := ?vo_w11) (w1 := (wr.setCell ⟨go9, (x4_1 : Int).toNat, none⟩ (.int .i64 (rd l0 x4_1)))) ?hg ?ho ?hn ?hr ?_; (case ho => rfl); (case hg => rfl); (case hn => rfl); (case hr => first | (go_simp; done) | (go_simp; rfl)); intro w11 hw; have hg : wr.grownBy w11 (some go9) := (by rw [hw]; exact HP10.2); have hp_ : Kd.R (Kd.int .i64) 2 w11 w.heap.size (fun _ => True) (.slice (some ⟨go9, 0, none⟩) x3_1.length co9) y188 := (by rw [hw, Ny188.out]; exact HP10.1); clear HP10; have n0_ := Aside0.mk (hp_); have n1_ := Aside0.mk ((by rw [hw]; exact below_set (HB.out) GB9.out : Below w.heap.size w w11)); clear HO_3; clear HB; have HO_3 := n0_; have HB := n1_; clear n0_ n1_; clear hg hw hp_))
                go_roundg k1
                case measure => have := HK1.out; omega
                case rel => exact ⟨(y188), (wrap64 (x4_1 + 1)), (by first | rfl | (simp; done) | (simp [*]; done)), H', ⟨by have := HK1.out; omega⟩, ⟨by (with_reducible repeat (first | apply Kd.R_alloc | apply Kd.R_drewN | apply Kd.R_drew)); exact HO_3.out⟩, ⟨by repeat (first | (with_reducible first | exact HB.out | apply below_alloc | apply pw_below_drewN | apply below_drew1) | exact HB.out)⟩⟩
              · rw [if_neg c8] at H
                exact absurd H (by simp)
            · rw [if_neg c7] at H
              exact absurd H (by simp)
          · rw [if_neg c6] at H
            have c6b0 : decide (x4_1 < (l0.length : Int)) = false := decide_eq_false c6
            clear c6
            obtain rfl := Option.some.inj H
            go_wp2
            go_ret
            exact ⟨_, by first | rfl | (simp [errW_none, errW_some] <;> rfl) | (simp [*, errW_none, errW_some] <;> rfl), by (with_reducible repeat (first | apply Kd.R_alloc | apply Kd.R_drewN | apply Kd.R_drew)); exact HO_3.out, by repeat (first | (with_reducible first | exact HB.out | apply below_alloc | apply pw_below_drewN | apply below_drew1) | exact HB.out)⟩
    · rw [if_neg c3] at H
      exact absurd H (by simp)
  · rw [if_neg c2] at H
    exact absurd H (by simp)
end Go.Proofs.Ytlgigomahobfbaa.P
end

section
namespace Go.Proofs.Ytlgigomahobfbaa.P
open Go.RowKit Go.Proofs.Ytlgigomahobfbaa.P Go.Proofs.YtlgigomahobfbaaW.PrintWords Go.Proofs.YtlgigomahobfbaaW.PrintLast Go.Proofs.YtlgigomahobfbaaW.PrintMore
set_option linter.unusedVariables false
set_option linter.unusedSimpArgs false
theorem set_at {l : List Int} {i : Nat} {v : Int} {m : List Int} (h : i < l.length) (e : l.take i = m) : (l.set i v).take (i + 1) = m ++ [v] := by
  rw [List.take_succ_eq_append_getElem (by simpa using h)]
  simp [List.take_set_of_le, e]
theorem rd_at {l : List Int} {i : Nat} (h : i < l.length) : rd l (i : Int) = l[i] := by simp [rd, h]

theorem toInt64S_l0 (l : List Int) (hl : l.length ≤ 9223372036854775807) : ∀ (d i : Nat) (m : List Int), l.length - i = d → i ≤ l.length → m.length = l.length → m.take i = l.take i → Ev (fun k => laws_toInt64S.l0 k l m i) l := by
  intro d
  induction d with
  | zero =>
    intro i m hd hi hm ht
    have : i = l.length := by omega
    subst this
    refine Ev.succ ?_
    simp only [laws_toInt64S.l0]
    refine Ev.ite_neg (by omega) ?_
    rw [List.take_of_length_le (by omega), List.take_of_length_le (Nat.le_refl _)] at ht
    rw [ht]
    exact Ev.now _
  | succ d ih =>
    intro i m hd hi hm ht
    refine Ev.succ ?_
    simp only [laws_toInt64S.l0]
    refine Ev.ite_pos (by omega) ?_
    refine Ev.ite_pos (by omega) ?_
    refine Ev.ite_pos (by omega) ?_
    rw [w64 (x := (i : Int) + 1) (by omega) (by omega), rd_at (show i < l.length by omega), Int.toNat_natCast]
    have := ih (i + 1) (m.set i l[i]) (by omega) (by omega) (by simpa using hm) (by
      rw [set_at (by omega) ht, ← List.take_succ_eq_append_getElem (by omega)])
    simpa using this
theorem toInt64S_ev (l : List Int) (h : l.length ≤ 35184372088832) : Ev (fun k => laws_toInt64S.f k l) l := by
  unfold laws_toInt64S.f
  refine Ev.ite_pos (by omega) ?_
  refine Ev.ite_pos (by omega) ?_
  exact toInt64S_l0 l (by omega) l.length 0 _ (by omega) (by omega) (by simp) (by simp)

theorem eqInt64S_l0 (a b : List Int) (hl : a.length ≤ 9223372036854775807) (hab : a.length = b.length) : ∀ (d i : Nat), a.length - i = d → i ≤ a.length → a.take i = b.take i → Ev (fun k => laws_eqInt64S.l0 k a b i) (decide (a = b)) := by
  intro d
  induction d with
  | zero =>
    intro i hd hi ht
    refine Ev.succ ?_
    simp only [laws_eqInt64S.l0]
    refine Ev.ite_neg (by omega) ?_
    rw [List.take_of_length_le (by omega), List.take_of_length_le (by omega)] at ht
    simpa [ht] using Ev.now true
  | succ d ih =>
    intro i hd hi ht
    refine Ev.succ ?_
    simp only [laws_eqInt64S.l0]
    refine Ev.ite_pos (by omega) ?_
    refine Ev.ite_pos (by omega) ?_
    refine Ev.ite_pos (by omega) ?_
    by_cases he : rd a i = rd b i
    · refine Ev.ite_pos he ?_
      rw [w64 (x := (i : Int) + 1) (by omega) (by omega)]
      rw [rd_at (show i < a.length by omega), rd_at (show i < b.length by omega)] at he
      have := ih (i + 1) (by omega) (by omega) (by
        rw [List.take_succ_eq_append_getElem (by omega), List.take_succ_eq_append_getElem (by omega), ht, he])
      simpa using this
    · refine Ev.ite_neg he ?_
      have : ¬ a = b := fun e => he (by rw [e])
      simpa [this] using Ev.now false
theorem eqInt64S_ev (a b : List Int) (hl : a.length ≤ 9223372036854775807) : Ev (fun k => laws_eqInt64S.f k a b) (decide (a = b)) := by
  unfold laws_eqInt64S.f
  by_cases h : a.length = b.length
  · refine Ev.ite_pos (by omega) ?_
    exact eqInt64S_l0 a b hl h a.length 0 (by omega) (by omega) (by simp)
  · refine Ev.ite_neg (by omega) ?_
    have : ¬ a = b := fun e => h (by rw [e])
    simpa [this] using Ev.now false
theorem eqInt64S_self (a : List Int) (hl : a.length ≤ 9223372036854775807) : Ev (fun k => laws_eqInt64S.f k a a) true := by simpa using eqInt64S_ev a a hl

/-- The marks from v on: n of them. -/
def marks : Nat → Int → List Int
  | 0, _ => []
  | n + 1, v => v :: marks n (v + 1)
theorem marks_length : ∀ n v, (marks n v).length = n
  | 0, _ => rfl
  | n + 1, v => by simp [marks, marks_length n]
theorem marks_get : ∀ n v i, i < n → (marks n v)[i]? = some (v + i)
  | 0, _, i, h => by omega
  | n + 1, v, 0, _ => by simp [marks]
  | n + 1, v, i + 1, h => by
    simp only [marks, List.getElem?_cons_succ]
    rw [marks_get n (v + 1) i (by omega)]
    congr 1
    omega
theorem markInt64S_l0 (n : Nat) (v : Int) (hn : n ≤ 4611686018427387904) (h0 : 0 ≤ v) (hv : v ≤ 4611686018427387903) : ∀ (d i : Nat) (l : List Int), n - i = d → i ≤ n → l.length = n → (∀ j, j < i → l[j]? = some (v + j)) →
    Ev (fun k => laws_markInt64S.l0 k l (v + i) i) (v + n, marks n v) := by
  intro d
  induction d with
  | zero =>
    intro i l hd hi hl hj
    have : i = n := by omega
    subst this
    refine Ev.succ ?_
    simp only [laws_markInt64S.l0]
    refine Ev.ite_neg (by omega) ?_
    have : l = marks i v := by
      refine List.ext_getElem? fun j => ?_
      rcases Nat.lt_or_ge j i with h | h
      · rw [hj j h, marks_get i v j h]
      · rw [List.getElem?_eq_none (by omega), List.getElem?_eq_none (by rw [marks_length]; omega)]
    rw [this]
    exact Ev.now _
  | succ d ih =>
    intro i l hd hi hl hj
    refine Ev.succ ?_
    simp only [laws_markInt64S.l0]
    refine Ev.ite_pos (by omega) ?_
    refine Ev.ite_pos (by omega) ?_
    rw [w64 (x := (i : Int) + 1) (by omega) (by omega), w64 (x := v + (i : Int) + 1) (by omega) (by omega), Int.toNat_natCast]
    have := ih (i + 1) (l.set i (v + i)) (by omega) (by omega) (by simpa using hl) (fun j hj' => by
      rcases Nat.lt_or_ge j i with h | h
      · rw [List.getElem?_set_ne (by omega), hj j h]
      · have : j = i := by omega
        subst this
        rw [List.getElem?_set_self (by omega)])
    simpa [Int.add_assoc] using this
theorem markInt64S_ev (l : List Int) (v : Int) (hn : l.length ≤ 4611686018427387904) (h0 : 0 ≤ v) (hv : v ≤ 4611686018427387903) : Ev (fun k => laws_markInt64S.f k l v) (v + l.length, marks l.length v) := by
  unfold laws_markInt64S.f
  have := markInt64S_l0 l.length v hn h0 hv l.length 0 l (by omega) (by omega) rfl (fun j hj => by omega)
  simpa using this
theorem heldInt64S_l0 (n : Nat) (v : Int) (hn : n ≤ 4611686018427387904) (h0 : 0 ≤ v) (hv : v ≤ 4611686018427387903) : ∀ (d i : Nat), n - i = d → i ≤ n →
    Ev (fun k => laws_heldInt64S.l0 k (marks n v) (v + i) i) (v + n) := by
  intro d
  induction d with
  | zero =>
    intro i hd hi
    have : i = n := by omega
    subst this
    refine Ev.succ ?_
    simp only [laws_heldInt64S.l0]
    refine Ev.ite_neg (by rw [marks_length]; omega) ?_
    exact Ev.now _
  | succ d ih =>
    intro i hd hi
    refine Ev.succ ?_
    simp only [laws_heldInt64S.l0]
    refine Ev.ite_pos (by rw [marks_length]; omega) ?_
    refine Ev.ite_pos (by omega) ?_
    refine Ev.ite_pos (by
      have h := marks_get n v i (by omega)
      simp only [rd, Int.toNat_natCast, List.getD_eq_getElem?_getD, h, Option.getD_some]) ?_
    rw [w64 (x := (i : Int) + 1) (by omega) (by omega), w64 (x := v + (i : Int) + 1) (by omega) (by omega)]
    have := ih (i + 1) (by omega) (by omega)
    simpa [Int.add_assoc] using this
theorem heldInt64S_ev (n : Nat) (v : Int) (hn : n ≤ 4611686018427387904) (h0 : 0 ≤ v) (hv : v ≤ 4611686018427387903) : Ev (fun k => laws_heldInt64S.f k (marks n v) v) (v + n) := by
  unfold laws_heldInt64S.f
  have := heldInt64S_l0 n v hn h0 hv n 0 (by omega) (by omega)
  simpa using this
def inP (n : Int) : Bool := decide (-12 ≤ n) && decide (n ≤ 23)
theorem impl_within_eq (n a b : Int) : impl_within.f n a b = some (decide (a ≤ n) && decide (n ≤ b)) := by
  unfold impl_within.f
  by_cases h : n ≥ a
  · have : a ≤ n := h
    simp [this]
  · have : ¬ a ≤ n := h
    simp [this]
theorem impl_pitchOk_eq (n : Int) : impl_pitchOk.f n = some (inP n) := by
  unfold impl_pitchOk.f
  rw [impl_within_eq]
  rfl
def noteOf (x : S77) : S75 := ⟨x.f0, x.f1⟩
theorem setn_at {l : List S75} {i : Nat} {v : S75} {m : List S75} (h : i < l.length) (e : l.take i = m) : (l.set i v).take (i + 1) = m ++ [v] := by
  rw [List.take_succ_eq_append_getElem (by simpa using h)]
  simp [List.take_set_of_le, e]
theorem rdn_at {l : List S75} {i : Nat} (h : i < l.length) : rd_T75 l (i : Int) = l[i] := by simp [rd_T75, h]
theorem rdm_at {l : List S77} {i : Nat} (h : i < l.length) : rd_T77 l (i : Int) = l[i] := by simp [rd_T77, h]
theorem toNoteS_l0 (l : List S77) (hl : l.length ≤ 9223372036854775807) : ∀ (d i : Nat) (m : List S75), l.length - i = d → i ≤ l.length → m.length = l.length → m.take i = (l.map noteOf).take i → Ev (fun k => laws_toNoteS.l0 k l m i) (l.map noteOf) := by
  intro d
  induction d with
  | zero =>
    intro i m hd hi hm ht
    have : i = l.length := by omega
    subst this
    refine Ev.succ ?_
    simp only [laws_toNoteS.l0]
    refine Ev.ite_neg (by omega) ?_
    rw [List.take_of_length_le (by omega), List.take_of_length_le (by simp)] at ht
    rw [ht]
    exact Ev.now _
  | succ d ih =>
    intro i m hd hi hm ht
    refine Ev.succ ?_
    simp only [laws_toNoteS.l0]
    refine Ev.ite_pos (by omega) ?_
    refine Ev.ite_pos (by omega) ?_
    refine Ev.bindc (show laws_toNote.f _ _ = some (_, _) from rfl) ?_
    refine Ev.ite_pos (by omega) ?_
    rw [w64 (x := (i : Int) + 1) (by omega) (by omega), rdm_at (show i < l.length by omega), Int.toNat_natCast]
    have := ih (i + 1) (m.set i (noteOf l[i])) (by omega) (by omega) (by simpa using hm) (by
      rw [setn_at (by omega) ht, List.take_succ_eq_append_getElem (by simpa using (by omega : i < l.length))]
      simp)
    simpa [noteOf] using this
theorem toNoteS_ev (l : List S77) (h : l.length ≤ 1048576) : Ev (fun k => laws_toNoteS.f k l) (l.map noteOf) := by
  unfold laws_toNoteS.f
  refine Ev.ite_pos (by omega) ?_
  refine Ev.ite_pos (by omega) ?_
  exact toNoteS_l0 l (by omega) l.length 0 _ (by omega) (by omega) (by simp) (by simp)
theorem eqNoteS_l0 (a : List S75) (hl : a.length ≤ 9223372036854775807) : ∀ (d i : Nat), a.length - i = d → Ev (fun k => laws_eqNoteS.l0 k a a i) true := by
  intro d
  induction d with
  | zero =>
    intro i hd
    refine Ev.succ ?_
    simp only [laws_eqNoteS.l0]
    exact Ev.ite_neg (by omega) (Ev.now _)
  | succ d ih =>
    intro i hd
    refine Ev.succ ?_
    simp only [laws_eqNoteS.l0]
    refine Ev.ite_pos (by omega) ?_
    refine Ev.ite_pos (by omega) ?_
    refine Ev.ite_pos (by omega) ?_
    refine Ev.bindc (a := true) (by simp [laws_eqNote.f]) ?_
    refine Ev.ite_pos rfl ?_
    rw [w64 (x := (i : Int) + 1) (by omega) (by omega)]
    simpa using ih (i + 1) (by omega)
theorem eqNoteS_self (a : List S75) (hl : a.length ≤ 9223372036854775807) : Ev (fun k => laws_eqNoteS.f k a a) true := by
  unfold laws_eqNoteS.f
  refine Ev.ite_pos rfl ?_
  simpa using eqNoteS_l0 a hl a.length 0 (by omega)
theorem szNoteS_eq (l : List S77) (a : Int) (h0 : 0 ≤ a) (h1 : a ≤ 1048576) (hl : l.length ≤ 9223372036854775807) : laws_szNoteS.f l a = some (if a - l.length < 0 then -1 else a - l.length) := by
  unfold laws_szNoteS.f
  rw [w64 (x := a - l.length) (by omega) (by omega)]
  split <;> rfl
def okN (x : S75) : Bool := inP x.f0 && (decide (1 ≤ x.f1) && decide (x.f1 ≤ 64))
def melB (l : List S75) : Bool := l.all okN && decide (l.length ≤ 48)
theorem alln_drop_at {l : List S75} {i : Nat} (q : S75 → Bool) (h : i < l.length) : (l.drop i).all q = (q (rd_T75 l i) && (l.drop (i + 1)).all q) := by
  rw [List.drop_eq_getElem_cons h, List.all_cons, rdn_at h]
def unitsM (l : List S75) : List Int := l.flatMap fun x => List.replicate x.f1.toNat x.f0
theorem unitsM_len (l : List S75) (h : l.all okN = true) : (unitsM l).length ≤ 64 * l.length ∧ l.length ≤ (unitsM l).length := by
  induction l with
  | nil => simp [unitsM]
  | cons x t ih =>
    simp only [List.all_cons, Bool.and_eq_true] at h
    have := ih h.2
    have hx := h.1
    simp [okN, inP] at hx
    simp only [unitsM, List.flatMap_cons, List.length_append, List.length_replicate, List.length_cons] at this ⊢
    omega
theorem unitsM_all (l : List S75) (h : l.all okN = true) : (unitsM l).all inP = true := by
  induction l with
  | nil => simp [unitsM]
  | cons x t ih =>
    simp only [List.all_cons, Bool.and_eq_true] at h
    have := ih h.2
    have hx := h.1
    simp only [okN, Bool.and_eq_true] at hx
    simp only [unitsM, List.flatMap_cons, List.all_append, Bool.and_eq_true] at this ⊢
    refine ⟨?_, this⟩
    rw [List.all_eq_true]
    intro y hy
    rw [List.eq_of_mem_replicate hy]
    exact hx.1
theorem unitsM_rd (l : List S75) (h : l.all okN = true) (i : Nat) (hi : i < (unitsM l).length) : inP (rd (unitsM l) i) = true := by
  rw [rd_at hi]
  exact List.all_eq_true.1 (unitsM_all l h) _ (List.getElem_mem _)
theorem unitsM_drop {l : List S75} {i : Nat} (h : i < l.length) : unitsM (l.drop i) = List.replicate (rd_T75 l i).f1.toNat (rd_T75 l i).f0 ++ unitsM (l.drop (i + 1)) := by
  rw [List.drop_eq_getElem_cons h, rdn_at h]
  simp only [unitsM, List.flatMap_cons]
theorem okN_rd {l : List S75} (h : l.all okN = true) {i : Nat} (hi : i < l.length) : inP (rd_T75 l i).f0 = true ∧ 1 ≤ (rd_T75 l i).f1 ∧ (rd_T75 l i).f1 ≤ 64 := by
  rw [rdn_at hi]
  have := List.all_eq_true.1 h _ (List.getElem_mem hi)
  simp only [okN, Bool.and_eq_true, decide_eq_true_eq] at this
  exact this
theorem melB_all {l : List S75} (h : melB l = true) : l.all okN = true ∧ l.length ≤ 48 := by
  simp only [melB, Bool.and_eq_true, decide_eq_true_eq] at h
  exact h
theorem impl_lengthOk_eq (n : Int) : impl_lengthOk.f n = some (decide (1 ≤ n) && decide (n ≤ 64)) := by
  unfold impl_lengthOk.f
  rw [impl_within_eq]
  rfl
theorem impl_ValidMelody_l0 (l : List S75) (hl : l.length ≤ 9223372036854775807) : ∀ (d i : Nat), l.length - i = d → Ev (fun k => impl_ValidMelody.l0 k l (l.length : Int) i) ((l.drop i).all okN) := by
  intro d
  induction d with
  | zero =>
    intro i hd
    refine Ev.succ ?_
    simp only [impl_ValidMelody.l0]
    refine Ev.ite_neg (by omega) ?_
    rw [List.drop_of_length_le (by omega)]
    exact Ev.now _
  | succ d ih =>
    intro i hd
    refine Ev.succ ?_
    simp only [impl_ValidMelody.l0]
    refine Ev.ite_pos (by omega) ?_
    refine Ev.ite_pos (by omega) ?_
    refine Ev.ite_pos (by omega) ?_
    refine Ev.bindc (impl_pitchOk_eq _) ?_
    rw [alln_drop_at okN (by omega)]
    cases hp : inP (rd_T75 l i).f0 with
    | false =>
      refine Ev.ite_neg (by decide) ?_
      refine Ev.cast (Ev.now false) ?_
      simp [okN, hp]
    | true =>
      refine Ev.ite_pos rfl ?_
      refine Ev.bindc (impl_lengthOk_eq _) ?_
      cases hq : (decide (1 ≤ (rd_T75 l i).f1) && decide ((rd_T75 l i).f1 ≤ 64)) with
      | false =>
        refine Ev.ite_neg (by decide) ?_
        refine Ev.cast (Ev.now false) ?_
        simp [okN, hq]
      | true =>
        refine Ev.ite_pos rfl ?_
        rw [w64 (x := (i : Int) + 1) (by omega) (by omega)]
        refine Ev.cast (by simpa using ih (i + 1) (by omega)) ?_
        simp [okN, hp, hq]
theorem impl_ValidMelody_ev (l : List S75) (hl : l.length ≤ 9223372036854775807) : Ev (fun k => impl_ValidMelody.f k l) (melB l) := by
  unfold impl_ValidMelody.f melB
  by_cases h : (l.length : Int) > 48
  · refine Ev.ite_pos h ?_
    refine Ev.cast (Ev.now false) ?_
    have : ¬ l.length ≤ 48 := by omega
    simp [this]
  · refine Ev.ite_neg h ?_
    refine Ev.cast (by simpa using impl_ValidMelody_l0 l hl l.length 0 (by omega)) ?_
    have : l.length ≤ 48 := by omega
    simp [this]
theorem spec_l00In_eq (n a b : Int) : spec_l00In.f n a b = some (decide (a ≤ n) && decide (n ≤ b)) := by
  unfold spec_l00In.f
  by_cases h : n ≥ a
  · have : a ≤ n := h
    simp [this]
  · have : ¬ a ≤ n := h
    simp [this]
theorem markNoteS_l0 : ∀ (d i : Nat) (l : List S75) (v : Int), l.length ≤ 1048576 → l.length - i = d → 0 ≤ v → v ≤ 1000000000 + 2 * i → ∃ m, Ev (fun k => laws_markNoteS.l0 k l v i) (v + 2 * d, m) := by
  intro d
  induction d with
  | zero =>
    intro i l v hl hd h0 h1
    refine ⟨l, Ev.succ ?_⟩
    simp only [laws_markNoteS.l0]
    refine Ev.ite_neg (by omega) ?_
    simpa using Ev.now _
  | succ d ih =>
    intro i l v hl hd h0 h1
    obtain ⟨m, hm⟩ := ih (i + 1) ((l.set i (⟨v, (rd_T75 l i).f1⟩ : S75)).set i (⟨(rd_T75 (l.set i (⟨v, (rd_T75 l i).f1⟩ : S75)) i).f0, v + 1⟩ : S75)) (v + 2) (by simpa using hl) (by simp; omega) (by omega) (by omega)
    refine ⟨m, Ev.succ ?_⟩
    simp only [laws_markNoteS.l0]
    refine Ev.ite_pos (by omega) ?_
    refine Ev.ite_pos (by omega) ?_
    refine Ev.bindc rfl ?_
    rw [w64 (x := (i : Int) + 1) (by omega) (by omega), w64 (x := v + 1) (by omega) (by omega), w64 (x := v + 1 + 1) (by omega) (by omega)]
    have e : v + 2 * ((d + 1 : Nat) : Int) = v + 2 + 2 * (d : Int) := by omega
    rw [e]
    have e2 : v + 1 + 1 = v + 2 := by omega
    rw [e2]
    simpa using hm
theorem markNoteS_ev (l : List S75) (v : Int) (hl : l.length ≤ 1048576) (h0 : 0 ≤ v) (h1 : v ≤ 1000000000) : ∃ m, Ev (fun k => laws_markNoteS.f k l v) (v + 2 * l.length, m) := by
  unfold laws_markNoteS.f
  simpa using markNoteS_l0 l.length 0 l v hl (by omega) h0 (by omega)
theorem impl_abs_eq (a : Int) (h0 : -9223372036854775807 ≤ a) (h1 : a ≤ 9223372036854775807) : impl_abs.f a = some (max a (-a)) := by
  unfold impl_abs.f
  rw [w64 (x := -a) (by omega) (by omega), mx_eq]
theorem tdiv_n (a b : Int) (h0 : 0 ≤ a) : Int.tdiv a b = a / b := Int.tdiv_eq_ediv_of_nonneg h0
theorem impl_divRound_eq (a b : Int) (a0 : 0 ≤ a) (a1 : a ≤ 1000000000000) (b0 : 0 < b) (b1 : b ≤ 1000000000000) : impl_divRound.f a b = some ((2 * a + b) / (2 * b)) := by
  have hd : b * (a / b) + a % b = a := Int.mul_ediv_add_emod a b
  have hr0 := Int.emod_nonneg a (show b ≠ 0 by omega)
  have hr1 := Int.emod_lt_of_pos a b0
  have hq0 : 0 ≤ a / b := Int.ediv_nonneg a0 (by omega)
  have hq1 : a / b ≤ a := Int.ediv_le_self _ a0
  have e : Int.tmod a b = a % b := Int.tmod_eq_emod_of_nonneg a0
  unfold impl_divRound.f
  rw [if_neg (by omega), e, impl_abs_eq _ (by omega) (by omega), impl_abs_eq _ (by omega) (by omega)]
  simp only [Option.bind_some]
  rw [show max (a % b) (-(a % b)) = a % b by omega, show max b (-b) = b by omega, w64 (x := b - a % b) (by omega) (by omega), tdiv_n a b a0]
  rw [w64 (x := a / b) (by omega) (by omega)]
  have e2 : 2 * a + b = (2 * (a % b) + b) + (2 * b) * (a / b) := by
    have : 2 * b * (a / b) = 2 * (b * (a / b)) := by rw [Int.mul_assoc]
    rw [this]
    omega
  rw [e2, Int.add_mul_ediv_left _ _ (show 2 * b ≠ 0 by omega)]
  by_cases h : a % b ≥ b - a % b
  · rw [if_pos h, if_pos (by simp; omega), w64 (x := a / b + 1) (by omega) (by omega)]
    have : (2 * (a % b) + b) / (2 * b) = 1 := by
      rw [show 2 * (a % b) + b = (2 * (a % b) - b) + 2 * b by omega, Int.add_ediv_of_dvd_right (Int.dvd_refl _), Int.ediv_self (by omega), Int.ediv_eq_zero_of_lt (by omega) (by omega)]
      rfl
    rw [this]
    congr 1
    omega
  · rw [if_neg h]
    have : (2 * (a % b) + b) / (2 * b) = 0 := Int.ediv_eq_zero_of_lt (by omega) (by omega)
    rw [this]
    congr 1
    omega
theorem spec_l01Div_eq (a b : Int) (a0 : 0 ≤ a) (a1 : a ≤ 1000000000000) (b0 : 0 < b) (b1 : b ≤ 1000000000000) : spec_l01Div.f a b = some ((2 * a + b) / (2 * b)) := by
  unfold spec_l01Div.f
  rw [if_neg (by omega), if_neg (by omega), w64 (x := 2 * b) (by omega) (by omega), if_neg (by omega), w64 (x := 2 * a) (by omega) (by omega), w64 (x := 2 * a + b) (by omega) (by omega), tdiv_n _ _ (by omega)]
  have : (2 * a + b) / (2 * b) ≤ 2 * a + b := Int.ediv_le_self _ (by omega)
  have h2 : 0 ≤ (2 * a + b) / (2 * b) := Int.ediv_nonneg (by omega) (by omega)
  rw [w64 (by omega) (by omega)]
theorem spec_l00Min_eq (a b : Int) : spec_l00Min.f a b = some (min a b) := by
  unfold spec_l00Min.f
  by_cases h : a < b
  · rw [if_pos h, Int.min_def, if_pos (by omega)]
  · rw [if_neg h, Int.min_def]
    split
    · congr 1; omega
    · rfl
def divR (a b : Int) : Int := if a < 0 then -((2 * (-a) + b) / (2 * b)) else (2 * a + b) / (2 * b)
theorem div_key (p b : Int) (p0 : 0 ≤ p) (b0 : 0 < b) : (2 * p + b) / (2 * b) = if p % b ≥ b - p % b then p / b + 1 else p / b := by
  have hd : b * (p / b) + p % b = p := Int.mul_ediv_add_emod p b
  have hr0 := Int.emod_nonneg p (show b ≠ 0 by omega)
  have hr1 := Int.emod_lt_of_pos p b0
  have e2 : 2 * p + b = (2 * (p % b) + b) + (2 * b) * (p / b) := by
    have : 2 * b * (p / b) = 2 * (b * (p / b)) := by rw [Int.mul_assoc]
    rw [this]
    omega
  rw [e2, Int.add_mul_ediv_left _ _ (show 2 * b ≠ 0 by omega)]
  by_cases h : p % b ≥ b - p % b
  · rw [if_pos h]
    have : (2 * (p % b) + b) / (2 * b) = 1 := by
      rw [show 2 * (p % b) + b = (2 * (p % b) - b) + 2 * b by omega, Int.add_ediv_of_dvd_right (Int.dvd_refl _), Int.ediv_self (by omega), Int.ediv_eq_zero_of_lt (by omega) (by omega)]
      rfl
    omega
  · rw [if_neg h]
    have : (2 * (p % b) + b) / (2 * b) = 0 := Int.ediv_eq_zero_of_lt (by omega) (by omega)
    omega
theorem impl_divRound_R (a b : Int) (a0 : -1000000000 ≤ a) (a1 : a ≤ 1000000000) (b0 : 0 < b) (b1 : b ≤ 1000000000) : impl_divRound.f a b = some (divR a b) := by
  unfold divR
  by_cases h : a < 0
  · rw [if_pos h]
    obtain ⟨p, rfl⟩ : ∃ p, a = -p := ⟨-a, by omega⟩
    have hr0 := Int.emod_nonneg p (show b ≠ 0 by omega)
    have hr1 := Int.emod_lt_of_pos p b0
    have hq0 : 0 ≤ p / b := Int.ediv_nonneg (by omega) (by omega)
    have hq1 : p / b ≤ p := Int.ediv_le_self _ (by omega)
    have em : Int.tmod (-p) b = -(p % b) := by rw [Int.neg_tmod, Int.tmod_eq_emod_of_nonneg (by omega)]
    have ed : Int.tdiv (-p) b = -(p / b) := by rw [Int.neg_tdiv, Int.tdiv_eq_ediv_of_nonneg (by omega)]
    have k := div_key p b (by omega) b0
    unfold impl_divRound.f
    rw [if_neg (by omega), em, ed, impl_abs_eq _ (by omega) (by omega), impl_abs_eq _ (by omega) (by omega)]
    simp only [Option.bind_some]
    rw [show max (-(p % b)) (-(-(p % b))) = p % b by omega, show max b (-b) = b by omega, w64 (x := b - p % b) (by omega) (by omega), w64 (x := -(p / b)) (by omega) (by omega), Int.neg_neg, k]
    by_cases q : p % b ≥ b - p % b
    · rw [if_pos q, if_pos q, if_neg (by simp; omega), w64 (by omega) (by omega)]
      congr 1
      omega
    · rw [if_neg q, if_neg q]
  · rw [if_neg h]
    exact impl_divRound_eq a b (by omega) (by omega) b0 (by omega)
theorem spec_l01Div_R (a b : Int) (a0 : -1000000000 ≤ a) (a1 : a ≤ 1000000000) (b0 : 0 < b) (b1 : b ≤ 1000000000) : spec_l01Div.f a b = some (divR a b) := by
  unfold spec_l01Div.f divR
  rw [if_neg (by omega), w64 (x := 2 * b) (by omega) (by omega)]
  by_cases h : a < 0
  · rw [if_pos h, if_pos h, if_neg (by omega), w64 (x := 2 * a) (by omega) (by omega), w64 (x := b - 2 * a) (by omega) (by omega), Int.tdiv_eq_ediv_of_nonneg (by omega)]
    have e : b - 2 * a = 2 * (-a) + b := by omega
    rw [e]
    have h0 : 0 ≤ (2 * (-a) + b) / (2 * b) := Int.ediv_nonneg (by omega) (by omega)
    have h1 : (2 * (-a) + b) / (2 * b) ≤ 2 * (-a) + b := Int.ediv_le_self _ (by omega)
    rw [w64 (x := (2 * (-a) + b) / (2 * b)) (by omega) (by omega), w64 (by omega) (by omega)]
  · rw [if_neg h, if_neg h, if_neg (by omega), w64 (x := 2 * a) (by omega) (by omega), w64 (x := 2 * a + b) (by omega) (by omega), Int.tdiv_eq_ediv_of_nonneg (by omega)]
    have h0 : 0 ≤ (2 * a + b) / (2 * b) := Int.ediv_nonneg (by omega) (by omega)
    have h1 : (2 * a + b) / (2 * b) ≤ 2 * a + b := Int.ediv_le_self _ (by omega)
    rw [w64 (by omega) (by omega)]
theorem divR_bound (a b B : Int) (h0 : -B ≤ a) (h1 : a ≤ B) (hb : 1 ≤ b) : -(B + 1) ≤ divR a b ∧ divR a b ≤ B + 1 := by
  unfold divR
  have key : ∀ p : Int, 0 ≤ p → p ≤ B → 0 ≤ (2 * p + b) / (2 * b) ∧ (2 * p + b) / (2 * b) ≤ B + 1 := by
    intro p p0 p1
    have d := div_key p b p0 (by omega)
    have q0 : 0 ≤ p / b := Int.ediv_nonneg p0 (by omega)
    have q1 : p / b ≤ p := Int.ediv_le_self _ p0
    rw [d]
    split <;> omega
  by_cases h : a < 0
  · rw [if_pos h]
    have := key (-a) (by omega) (by omega)
    omega
  · rw [if_neg h]
    have := key a (by omega) h1
    omega
def okO (x : S98) : Prop := x.f0 = 0 ∨ ((1 ≤ x.f0 ∧ x.f0 ≤ 4) ∧ (-1200 ≤ x.f1 ∧ x.f1 ≤ 1200) ∧ 1 ≤ x.f2 ∧ x.f2 ≤ 16)
def ornM (x : S98) (L u : Int) : Int :=
  if x.f0 = 1 then divR (x.f1 * (L - u)) (L + 1) else if x.f0 = 2 then (if (u * 2 * x.f2 / L) % 2 = 1 then x.f1 else 0) else if x.f0 = 3 then (if u < x.f2 then x.f1 else 0) else if x.f0 = 4 then divR (x.f1 * min u (L - 1 - u)) L else 0
theorem mul_bound (a c : Int) (h0 : -1200 ≤ a) (h1 : a ≤ 1200) (c0 : 0 ≤ c) (c1 : c ≤ 64) : -76800 ≤ a * c ∧ a * c ≤ 76800 := by
  have h2 : a * c ≤ 1200 * c := Int.mul_le_mul_of_nonneg_right h1 c0
  have h3 : (-1200) * c ≤ a * c := Int.mul_le_mul_of_nonneg_right h0 c0
  omega
theorem spec_l10At_eq (x : S98) (L u : Int) (hx : okO x) (l0 : 1 ≤ L) (l1 : L ≤ 64) (u0 : 0 ≤ u) (u1 : u < L) : spec_l10At.f x.f0 x.f1 x.f2 L u = some (ornM x L u) := by
  unfold spec_l10At.f ornM
  rcases hx with h | ⟨⟨k0, k1⟩, ⟨d0, d1⟩, t0, t1⟩
  · rw [if_neg (by omega), if_neg (by omega), if_neg (by omega), if_neg (by omega), if_neg (by omega), if_neg (by omega), if_neg (by omega), if_neg (by omega)]
  · by_cases a1 : x.f0 = 1
    · rw [if_pos a1, if_pos a1, w64 (x := L - u) (by omega) (by omega), w64 (x := L + 1) (by omega) (by omega)]
      have m := mul_bound x.f1 (L - u) d0 d1 (by omega) (by omega)
      rw [w64 (by omega) (by omega), spec_l01Div_R _ _ (by omega) (by omega) (by omega) (by omega)]
      rfl
    rw [if_neg a1, if_neg a1]
    by_cases a2 : x.f0 = 2
    · rw [if_pos a2, if_pos a2, if_neg (by omega), w64 (x := u * 2) (by omega) (by omega)]
      have m0 : 0 ≤ u * 2 * x.f2 := Int.mul_nonneg (by omega) (by omega)
      have m1 : u * 2 * x.f2 ≤ 128 * 16 := Int.mul_le_mul (by omega) t1 (by omega) (by omega)
      have q0 : 0 ≤ u * 2 * x.f2 / L := Int.ediv_nonneg m0 (by omega)
      have q1 : u * 2 * x.f2 / L ≤ u * 2 * x.f2 := Int.ediv_le_self _ m0
      rw [w64 (x := u * 2 * x.f2) (by omega) (by omega), Int.tdiv_eq_ediv_of_nonneg m0, w64 (by omega) (by omega), Int.tmod_eq_emod_of_nonneg q0]
      split <;> rfl
    rw [if_neg a2, if_neg a2]
    by_cases a3 : x.f0 = 3
    · rw [if_pos a3, if_pos a3]
      split <;> rfl
    have a4 : x.f0 = 4 := by omega
    rw [if_neg a3, if_neg a3, if_pos a4, if_pos a4, w64 (x := L - 1) (by omega) (by omega), w64 (x := L - 1 - u) (by omega) (by omega), spec_l00Min_eq]
    have m := mul_bound x.f1 (min u (L - 1 - u)) d0 d1 (by omega) (by omega)
    simp only [Option.bind_some]
    rw [w64 (by omega) (by omega), spec_l01Div_R _ _ (by omega) (by omega) (by omega) (by omega)]
    rfl
theorem rdo_mid (pre suf : List Int) (s : Int) : rd (pre ++ s :: suf) (pre.length : Int) = s := by simp [rd]
theorem seto_mid (pre suf : List Int) (s v : Int) : (pre ++ s :: suf).set pre.length v = pre ++ v :: suf := by simp
def curO (x : S98) (L : Int) : Nat → Nat → List Int
  | 0, _ => []
  | d + 1, u => ornM x L u :: curO x L d (u + 1)
theorem curO_len (x : S98) (L : Int) : ∀ d u, (curO x L d u).length = d
  | 0, _ => rfl
  | d + 1, u => by simp [curO, curO_len x L d (u + 1)]
theorem curO_rd (x : S98) (L : Int) : ∀ (d u j : Nat), j < d → rd (curO x L d u) (j : Int) = ornM x L ((u + j : Nat) : Int)
  | 0, _, _, h => absurd h (by omega)
  | d + 1, u, 0, _ => by simp [curO, rd]
  | d + 1, u, j + 1, h => by
    have ih := curO_rd x L d (u + 1) j (by omega)
    have e : rd (curO x L (d + 1) u) ((j + 1 : Nat) : Int) = rd (curO x L d (u + 1)) (j : Int) := by simp [curO, rd]
    rw [e, ih]
    congr 1
    omega
theorem ornM_bound (x : S98) (L u : Int) (hx : okO x) (l0 : 1 ≤ L) (l1 : L ≤ 64) (u0 : 0 ≤ u) (u1 : u < L) : -76801 ≤ ornM x L u ∧ ornM x L u ≤ 76801 := by
  unfold ornM
  rcases hx with h | ⟨⟨k0, k1⟩, ⟨d0, d1⟩, t0, t1⟩
  · rw [if_neg (by omega), if_neg (by omega), if_neg (by omega), if_neg (by omega)]
    omega
  · have m1 := mul_bound x.f1 (L - u) d0 d1 (by omega) (by omega)
    have m2 := mul_bound x.f1 (min u (L - 1 - u)) d0 d1 (by omega) (by omega)
    have b1 := divR_bound (x.f1 * (L - u)) (L + 1) 76800 m1.1 m1.2 (by omega)
    have b2 := divR_bound (x.f1 * min u (L - 1 - u)) L 76800 m2.1 m2.2 l0
    split
    · exact b1
    · split
      · split <;> omega
      · split
        · split <;> omega
        · split
          · exact b2
          · omega
theorem impl_Orn_step (x : S98) (L : Nat) (hx : okO x) (hk : x.f0 ≠ 0) (l0 : 1 ≤ L) (l1 : L ≤ 64) (r : List Int) (pre suf : List Int) (u : Nat) (hp : pre.length = u) (hu : u < L) (h : Ev (fun k => impl_Ornament_curve.l0 k L (pre ++ ornM x L u :: suf) L ((u : Int) + 1) x.f0 x.f1 x.f2) r) : Ev (fun k => impl_Ornament_curve.l0 k L (pre ++ 0 :: suf) L u x.f0 x.f1 x.f2) r := by
  obtain ⟨N, hN, hN0, hN1⟩ : ∃ N, min (u : Int) ((L : Int) - 1 - u) = N ∧ 0 ≤ N ∧ N ≤ 64 := ⟨_, rfl, by omega, by omega⟩
  have hlen : (u : Int) < ((pre ++ (0 : Int) :: suf).length : Int) := by simp; omega
  have es : ∀ v : Int, (pre ++ (0 : Int) :: suf).set ((u : Int)).toNat v = pre ++ v :: suf := fun v => by rw [Int.toNat_natCast, ← hp]; exact seto_mid pre suf 0 v
  have f1 : (u : Int) < (L : Int) := by omega
  have f2 : (0 : Int) ≤ (u : Int) := by omega
  have f3 : 0 < (L : Int) + 1 := by omega
  have f4 : (L : Int) + 1 ≤ 1000000000 := by omega
  have f5 : 0 < (L : Int) := by omega
  have f6 : (L : Int) ≤ 1000000000 := by omega
  have f7 : ¬ (L : Int) = 0 := by omega
  have hz : ∀ q : Int, ¬ q % 2 = 1 → q % 2 = 0 := by intro q hq; omega
  rcases hx with h0 | ⟨⟨k0, k1⟩, ⟨d0, d1⟩, t0, t1⟩
  · exact absurd h0 hk
  have hk4 : ¬ x.f0 = 1 → ¬ x.f0 = 2 → ¬ x.f0 = 3 → x.f0 = 4 := by omega
  have g0 : -9223372036854775808 ≤ x.f1 := by omega
  have g1 : x.f1 ≤ 9223372036854775807 := by omega
  have m1 := mul_bound x.f1 ((L : Int) - u) d0 d1 (by omega) (by omega)
  have m2 := mul_bound x.f1 N d0 d1 hN0 hN1
  have n0 : 0 ≤ (u : Int) * 2 * x.f2 := Int.mul_nonneg (by omega) (by omega)
  have n1 : (u : Int) * 2 * x.f2 ≤ 128 * 16 := Int.mul_le_mul (by omega) t1 (by omega) (by omega)
  have q0 : 0 ≤ (u : Int) * 2 * x.f2 / L := Int.ediv_nonneg n0 (by omega)
  have q1 : (u : Int) * 2 * x.f2 / L ≤ 128 * 16 := Int.le_trans (Int.ediv_le_self _ n0) n1
  have w1 : wrap64 ((u : Int) + 1) = (u : Int) + 1 := w64 (by omega) (by omega)
  have w2 : wrap64 ((L : Int) - u) = (L : Int) - u := w64 (by clear w1; omega) (by clear w1; omega)
  have w3 : wrap64 ((L : Int) + 1) = (L : Int) + 1 := w64 (by clear w1 w2; omega) (by clear w1 w2; omega)
  have w4 : wrap64 ((u : Int) * 2) = (u : Int) * 2 := w64 (by clear w1 w2 w3; omega) (by clear w1 w2 w3; omega)
  have w5 : wrap64 ((L : Int) - 1) = (L : Int) - 1 := w64 (by clear w1 w2 w3 w4; omega) (by clear w1 w2 w3 w4; omega)
  have w6 : wrap64 ((L : Int) - 1 - u) = (L : Int) - 1 - u := w64 (by clear w1 w2 w3 w4 w5; omega) (by clear w1 w2 w3 w4 w5; omega)
  have w7 : wrap64 (x.f1 * ((L : Int) - u)) = x.f1 * ((L : Int) - u) := w64 (Int.le_trans (by decide) m1.1) (Int.le_trans m1.2 (by decide))
  have w8 : wrap64 (x.f1 * N) = x.f1 * N := w64 (Int.le_trans (by decide) m2.1) (Int.le_trans m2.2 (by decide))
  have w9 : wrap64 ((u : Int) * 2 * x.f2) = (u : Int) * 2 * x.f2 := w64 (Int.le_trans (by decide) n0) (Int.le_trans n1 (by decide))
  have wa : wrap64 ((u : Int) * 2 * x.f2 / L) = (u : Int) * 2 * x.f2 / L := w64 (Int.le_trans (by decide) q0) (Int.le_trans q1 (by decide))
  have e : wrap64 (x.f1 * ((u : Int) * 2 * x.f2 / L % 2)) = if (u : Int) * 2 * x.f2 / L % 2 = 1 then x.f1 else 0 := by
    by_cases z : (u : Int) * 2 * x.f2 / L % 2 = 1
    · rw [if_pos z, z, Int.mul_one, w64 g0 g1]
    · rw [if_neg z, hz _ z, Int.mul_zero, w64 (by decide) (by decide)]
  refine Ev.succ ?_
  simp only [impl_Ornament_curve.l0, w1, w2, w3, w4, w5, w6, w7, mn_eq, hN, w8, es, w9, Int.tdiv_eq_ediv_of_nonneg n0, wa, Int.tmod_eq_emod_of_nonneg q0, e]
  unfold ornM at h
  rw [hN] at h
  refine Ev.ite_pos f1 ?_
  by_cases a1 : x.f0 = 1
  · rw [if_pos a1] at h
    exact Ev.ite_pos a1 (Ev.bindc (impl_divRound_R _ _ (Int.le_trans (by decide) m1.1) (Int.le_trans m1.2 (by decide)) f3 f4) (Ev.ite_pos f2 (Ev.ite_pos hlen h)))
  rw [if_neg a1] at h
  refine Ev.ite_neg a1 ?_
  by_cases a2 : x.f0 = 2
  · rw [if_pos a2] at h
    exact Ev.ite_pos a2 (Ev.ite_neg f7 (Ev.ite_pos f2 (Ev.ite_pos hlen h)))
  rw [if_neg a2] at h
  refine Ev.ite_neg a2 ?_
  by_cases a3 : x.f0 = 3
  · rw [if_pos a3] at h
    refine Ev.ite_pos a3 ?_
    by_cases z : (u : Int) < x.f2
    · rw [if_pos z] at h
      exact Ev.ite_pos z (Ev.ite_pos f2 (Ev.ite_pos hlen h))
    · rw [if_neg z] at h
      exact Ev.ite_neg z h
  rw [if_neg a3, if_pos (hk4 a1 a2 a3)] at h
  exact Ev.ite_neg a3 (Ev.ite_pos (hk4 a1 a2 a3) (Ev.bindc (impl_divRound_R _ _ (Int.le_trans (by decide) m2.1) (Int.le_trans m2.2 (by decide)) f5 f6) (Ev.ite_pos f2 (Ev.ite_pos hlen h))))
theorem impl_Orn_l0 (x : S98) (L : Nat) (hx : okO x) (hk : x.f0 ≠ 0) (l0 : 1 ≤ L) (l1 : L ≤ 64) : ∀ (d u : Nat) (pre : List Int), L - u = d → u ≤ L → pre.length = u → Ev (fun k => impl_Ornament_curve.l0 k L (pre ++ List.replicate d 0) L u x.f0 x.f1 x.f2) (pre ++ curO x L d u) := by
  intro d
  induction d with
  | zero =>
    intro u pre hd hu hp
    refine Ev.succ ?_
    simp only [impl_Ornament_curve.l0]
    exact Ev.ite_neg (by omega) (Ev.now _)
  | succ d ih =>
    intro u pre hd hu hp
    rw [List.replicate_succ]
    refine impl_Orn_step x L hx hk l0 l1 _ pre _ u hp (by omega) ?_
    have ih' := ih (u + 1) (pre ++ [ornM x L u]) (by omega) (by omega) (by simp; omega)
    rw [List.append_assoc, List.append_assoc] at ih'
    exact ih'
theorem impl_Orn_ev (x : S98) (L : Nat) (hx : okO x) (hk : x.f0 ≠ 0) (l0 : 1 ≤ L) (l1 : L ≤ 64) : Ev (fun k => impl_Ornament_curve.f k x.f0 x.f1 x.f2 L) (curO x L L 0) := by
  unfold impl_Ornament_curve.f
  rw [Int.toNat_natCast]
  exact Ev.ite_pos (by omega) (Ev.ite_pos (by omega) (impl_Orn_l0 x L hx hk l0 l1 L 0 [] (by omega) (by omega) rfl))
def baseR (m : List S75) : Nat → Nat → List Int
  | 0, _ => []
  | d + 1, i => List.replicate (rd_T75 m i).f1.toNat (100 * (rd_T75 m i).f0) ++ baseR m d (i + 1)
theorem impl_melody_l1 (m : List S75) (i : Nat) (p : Int) (L : Nat) (hp : -12 ≤ p ∧ p ≤ 23) (hL : L ≤ 64) (hi : i < 1000) (r : List Int) : ∀ (d v : Nat) (acc : List Int), L - v = d → v ≤ L → acc.length ≤ 100000 + v → Ev (fun k => impl_melodyCurve.l0 k (acc ++ List.replicate d (100 * p)) m m.length ((i : Int) + 1)) r → Ev (fun k => impl_melodyCurve.l1 k acc m m.length i L v p L) r := by
  intro d
  induction d with
  | zero =>
    intro v acc hd hv ha h
    refine Ev.succ ?_
    simp only [impl_melodyCurve.l1]
    rw [w64 (x := (i : Int) + 1) (by omega) (by omega)]
    rw [List.replicate_zero, List.append_nil] at h
    exact Ev.ite_neg (by omega) h
  | succ d ih =>
    intro v acc hd hv ha h
    refine Ev.succ ?_
    simp only [impl_melodyCurve.l1]
    rw [w64 (x := (v : Int) + 1) (by omega) (by omega), w64 (x := 100 * p) (by omega) (by omega)]
    refine Ev.ite_pos (by omega) (Ev.ite_pos (by omega) ?_)
    refine ih (v + 1) (acc ++ [100 * p]) (by omega) (by omega) (by simp; omega) ?_
    rw [List.append_assoc]
    exact h
theorem impl_melody_l0 (m : List S75) (hm : melB m = true) : ∀ (d i : Nat) (acc : List Int), m.length - i = d → acc.length ≤ 64 * i → Ev (fun k => impl_melodyCurve.l0 k acc m m.length i) (acc ++ baseR m d i) := by
  obtain ⟨ha, hl⟩ := melB_all hm
  intro d
  induction d with
  | zero =>
    intro i acc hd hacc
    refine Ev.succ ?_
    simp only [impl_melodyCurve.l0]
    rw [baseR, List.append_nil]
    exact Ev.ite_neg (by omega) (Ev.now _)
  | succ d ih =>
    intro i acc hd hacc
    have hi : i < m.length := by omega
    obtain ⟨o1, o2, o3⟩ := okN_rd ha hi
    simp only [inP, Bool.and_eq_true, decide_eq_true_eq] at o1
    have ih' := ih (i + 1) (acc ++ List.replicate (rd_T75 m i).f1.toNat (100 * (rd_T75 m i).f0)) (by omega) (by simp; omega)
    rw [List.append_assoc] at ih'
    refine Ev.succ ?_
    simp only [impl_melodyCurve.l0]
    refine Ev.ite_pos (by omega) (Ev.ite_pos (by omega) (Ev.ite_pos (by omega) ?_))
    have := impl_melody_l1 m i (rd_T75 m i).f0 (rd_T75 m i).f1.toNat o1 (by omega) (by omega) _ (rd_T75 m i).f1.toNat 0 acc (by omega) (by omega) (by omega) ih'
    have e : (((rd_T75 m i).f1.toNat : Nat) : Int) = (rd_T75 m i).f1 := by omega
    rw [e] at this
    exact this
theorem impl_melodyCurve_ev (m : List S75) (hm : melB m = true) : Ev (fun k => impl_melodyCurve.f k m) (baseR m m.length 0) := by
  unfold impl_melodyCurve.f
  exact impl_melody_l0 m hm m.length 0 [] (by omega) (by simp)
theorem all_drop_at {l : List Int} {i : Nat} (q : Int → Bool) (h : i < l.length) : (l.drop i).all q = (q (rd l i) && (l.drop (i + 1)).all q) := by
  rw [List.drop_eq_getElem_cons h, List.all_cons, rd_at h]
def noteO (p : Int) (x : S98) (L : Int) : Nat → Nat → List Int
  | 0, _ => []
  | d + 1, u => (100 * p + ornM x L u) :: noteO p x L d (u + 1)
theorem noteO_len (p : Int) (x : S98) (L : Int) : ∀ d u, (noteO p x L d u).length = d
  | 0, _ => rfl
  | d + 1, u => by simp [noteO, noteO_len p x L d (u + 1)]
theorem noteO_zero (p : Int) (x : S98) (L : Int) (h : x.f0 = 0) : ∀ d u, noteO p x L d u = List.replicate d (100 * p)
  | 0, _ => rfl
  | d + 1, u => by
    have e : ornM x L u = 0 := by
      unfold ornM
      rw [if_neg (by omega), if_neg (by omega), if_neg (by omega), if_neg (by omega)]
    rw [noteO, noteO_zero p x L h d (u + 1), e, Int.add_zero, List.replicate_succ]
def specO (m : List S75) (ls : List S98) : Nat → Nat → List Int
  | 0, _ => []
  | d + 1, i => noteO (rd_T75 m i).f0 (rd_T98 ls i) (rd_T75 m i).f1 (rd_T75 m i).f1.toNat 0 ++ specO m ls d (i + 1)
theorem spec_Orn_l2 (m : List S75) (ls : List S98) (i : Nat) (hi : i < m.length) (hi2 : i < ls.length) (hm : m.length ≤ 48) (hx : okO (rd_T98 ls i)) (o1 : -12 ≤ (rd_T75 m i).f0 ∧ (rd_T75 m i).f0 ≤ 23) (o2 : 1 ≤ (rd_T75 m i).f1) (o3 : (rd_T75 m i).f1 ≤ 64) (r : List Int × Int) : ∀ (d u : Nat) (acc : List Int), (rd_T75 m i).f1.toNat - u = d → u ≤ (rd_T75 m i).f1.toNat → acc.length ≤ 100000 + u → Ev (fun k => spec_OrnamentMelody.l1 k m ls (acc ++ noteO (rd_T75 m i).f0 (rd_T98 ls i) (rd_T75 m i).f1 d u) ((i : Int) + 1)) r → Ev (fun k => spec_OrnamentMelody.l2 k m ls acc i u) r := by
  have f1 : (i : Int) < (m.length : Int) := by omega
  have f2 : (0 : Int) ≤ (i : Int) := by omega
  have f3 : (i : Int) < (ls.length : Int) := by omega
  intro d
  induction d with
  | zero =>
    intro u acc hd hu ha h
    rw [noteO, List.append_nil] at h
    have g : ¬ (u : Int) < (rd_T75 m i).f1 := by omega
    have w1 : wrap64 ((i : Int) + 1) = (i : Int) + 1 := w64 (by omega) (by omega)
    refine Ev.succ ?_
    simp only [spec_OrnamentMelody.l2, w1]
    exact Ev.ite_pos f2 (Ev.ite_pos f1 (Ev.ite_neg g h))
  | succ d ih =>
    intro u acc hd hu ha h
    have g : (u : Int) < (rd_T75 m i).f1 := by omega
    have g2 : acc.length < 17592186044416 := by omega
    have b := ornM_bound (rd_T98 ls i) (rd_T75 m i).f1 u hx o2 o3 (by omega) g
    have ih' := ih (u + 1) (acc ++ [100 * (rd_T75 m i).f0 + ornM (rd_T98 ls i) (rd_T75 m i).f1 u]) (by omega) (by omega) (by simp; omega) (by rw [List.append_assoc]; exact h)
    have e := spec_l10At_eq (rd_T98 ls i) (rd_T75 m i).f1 u hx o2 o3 (by omega) g
    have w2 : wrap64 (100 * (rd_T75 m i).f0) = 100 * (rd_T75 m i).f0 := w64 (by omega) (by omega)
    have w3 : wrap64 (100 * (rd_T75 m i).f0 + ornM (rd_T98 ls i) (rd_T75 m i).f1 u) = 100 * (rd_T75 m i).f0 + ornM (rd_T98 ls i) (rd_T75 m i).f1 u := w64 (by clear w2; omega) (by clear w2; omega)
    have w4 : wrap64 ((u : Int) + 1) = ((u + 1 : Nat) : Int) := by rw [w64 (by clear w2 w3; omega) (by clear w2 w3; omega)]; rfl
    refine Ev.succ ?_
    simp only [spec_OrnamentMelody.l2, w4]
    refine Ev.ite_pos f2 (Ev.ite_pos f1 (Ev.ite_pos g (Ev.ite_pos f3 (Ev.bindc e (Ev.ite_pos g2 ?_)))))
    rw [w2, w3]
    exact ih'
def curveB (l : List Int) : Bool := (l.all fun n => decide (-2000 ≤ n) && decide (n ≤ 3000)) && decide (l.length ≤ 3072)
def finO (l : List Int) : List Int × Int := if curveB l = true then (l, 0) else ([], 6)
theorem spec_l10Curve_l0 (l : List Int) (hl : l.length ≤ 1048576) : ∀ (d i : Nat), l.length - i = d → i ≤ l.length → Ev (fun k => spec_l10Curve.l0 k l i) (((l.drop i).all fun n => decide (-2000 ≤ n) && decide (n ≤ 3000)) && decide (l.length ≤ 3072)) := by
  intro d
  induction d with
  | zero =>
    intro i hd hi
    refine Ev.succ ?_
    simp only [spec_l10Curve.l0]
    refine Ev.ite_neg (by omega) ?_
    rw [List.drop_of_length_le (by omega)]
    refine Ev.cast (Ev.now _) ?_
    simp only [List.all_nil, Bool.true_and]
    exact decide_eq_decide.2 (by omega)
  | succ d ih =>
    intro i hd hi
    refine Ev.succ ?_
    simp only [spec_l10Curve.l0]
    have ih' := ih (i + 1) (by omega) (by omega)
    rw [all_drop_at (fun n => decide (-2000 ≤ n) && decide (n ≤ 3000)) (show i < l.length by omega), w64 (x := (i : Int) + 1) (by omega) (by omega)]
    refine Ev.ite_pos (by omega) (Ev.ite_pos (by omega) (Ev.bindc (a := (decide (-2000 ≤ rd l i) && decide (rd l i ≤ 3000))) ?_ ?_))
    · unfold spec_l10Cents.f
      rw [spec_l00In_eq]
      rfl
    · cases (decide (-2000 ≤ rd l i) && decide (rd l i ≤ 3000)) with
      | true => exact Ev.ite_pos rfl (Ev.cast ih' (by simp))
      | false => exact Ev.ite_neg (by decide) (Ev.cast (Ev.now _) (by simp))
theorem spec_l10Curve_ev (l : List Int) (hl : l.length ≤ 1048576) : Ev (fun k => spec_l10Curve.f k l) (curveB l) := by
  unfold spec_l10Curve.f curveB
  simpa using spec_l10Curve_l0 l hl l.length 0 (by omega) (by omega)
theorem impl_curveOk_eq (l : List Int) : impl_curveOk.f l = some (curveB l) := by
  unfold impl_curveOk.f impl_allWithin.f curveB
  by_cases h : l.length ≤ 3072
  · have h' : (l.length : Int) ≤ 3072 := by omega
    rw [if_pos h']
    simp [h]
  · have h' : ¬ (l.length : Int) ≤ 3072 := by omega
    rw [if_neg h']
    simp [h]
theorem spec_Orn_l1 (m : List S75) (ls : List S98) (hm : melB m = true) (hls : ls.length = m.length) (hx : ∀ i : Nat, i < ls.length → okO (rd_T98 ls i)) : ∀ (d i : Nat) (acc : List Int), m.length - i = d → acc.length ≤ 64 * i → i ≤ m.length → Ev (fun k => spec_OrnamentMelody.l1 k m ls acc i) (finO (acc ++ specO m ls d i)) := by
  obtain ⟨ha, hl⟩ := melB_all hm
  intro d
  induction d with
  | zero =>
    intro i acc hd hacc hi
    rw [specO, List.append_nil]
    refine Ev.succ ?_
    simp only [spec_OrnamentMelody.l1]
    refine Ev.ite_neg (by omega) (Ev.bind (spec_l10Curve_ev acc (by omega)) ?_)
    unfold finO
    cases curveB acc with
    | true => exact Ev.ite_pos rfl (Ev.now _)
    | false => exact Ev.ite_neg (by decide) (Ev.now _)
  | succ d ih =>
    intro i acc hd hacc hi
    have hi' : i < m.length := by omega
    obtain ⟨o1, o2, o3⟩ := okN_rd ha hi'
    simp only [inP, Bool.and_eq_true, decide_eq_true_eq] at o1
    have ih' := ih (i + 1) (acc ++ noteO (rd_T75 m i).f0 (rd_T98 ls i) (rd_T75 m i).f1 (rd_T75 m i).f1.toNat 0) (by omega) (by rw [List.length_append, noteO_len]; omega) (by omega)
    rw [List.append_assoc] at ih'
    refine Ev.succ ?_
    simp only [spec_OrnamentMelody.l1]
    refine Ev.ite_pos (by omega) ?_
    exact spec_Orn_l2 m ls i hi' (by omega) hl (hx i (by omega)) o1 o2 o3 _ (rd_T75 m i).f1.toNat 0 acc (by omega) (by omega) (by omega) ih'
theorem impl_Orn_l1 (m : List S75) (ls : List S98) (i : Nat) (hi : i < 1000) (p : Int) (x : S98) (L off : Nat) (hx : okO x) (l0 : 1 ≤ L) (l1 : L ≤ 64) (ho : off ≤ 100000) (o1 : -12 ≤ p ∧ p ≤ 23) (n : Int) (r : List Int × Int) (rest : List Int) : ∀ (d v : Nat) (pre : List Int), L - v = d → v ≤ L → pre.length = off + v → Ev (fun k => impl_OrnamentMelody.l0 k ls (pre ++ (noteO p x L d v ++ rest)) ((off : Int) + L) m n ((i : Int) + 1)) r → Ev (fun k => impl_OrnamentMelody.l1 k ls (pre ++ (List.replicate d (100 * p) ++ rest)) off m n i (curO x L L 0) L v p L) r := by
  have cl := curO_len x L L 0
  intro d
  induction d with
  | zero =>
    intro v pre hd hv hp h
    have g : ¬ (v : Int) < (L : Int) := by omega
    have w1 : wrap64 ((i : Int) + 1) = (i : Int) + 1 := w64 (by omega) (by omega)
    have w2 : wrap64 ((off : Int) + L) = (off : Int) + L := w64 (by clear w1; omega) (by clear w1; omega)
    refine Ev.succ ?_
    simp only [impl_OrnamentMelody.l1, w1, w2]
    exact Ev.ite_neg g h
  | succ d ih =>
    intro v pre hd hv hp h
    have g : (v : Int) < (L : Int) := by omega
    have g0 : (0 : Int) ≤ (v : Int) := by omega
    have g1 : (v : Int) < ((curO x L L 0).length : Int) := by omega
    have g2 : (0 : Int) ≤ (pre.length : Int) := by omega
    have g3 : (pre.length : Int) < ((pre ++ (100 * p) :: (List.replicate d (100 * p) ++ rest)).length : Int) := by simp; omega
    have b := ornM_bound x L v hx (by omega) (by omega) g0 g
    have c : rd (curO x L L 0) (v : Int) = ornM x L v := by
      have := curO_rd x L L 0 v (by omega)
      rwa [Nat.zero_add] at this
    have ih' := ih (v + 1) (pre ++ [100 * p + ornM x L v]) (by omega) (by omega) (by simp; omega) (by rw [List.append_assoc]; exact h)
    rw [List.append_assoc] at ih'
    have ep : (off : Int) + v = (pre.length : Int) := by omega
    have w3 : wrap64 (pre.length : Int) = (pre.length : Int) := w64 (by omega) (by omega)
    have w4 : wrap64 (100 * p + ornM x L v) = 100 * p + ornM x L v := w64 (by clear w3; omega) (by clear w3; omega)
    have w5 : wrap64 ((v : Int) + 1) = ((v + 1 : Nat) : Int) := by rw [w64 (by clear w3 w4; omega) (by clear w3 w4; omega)]; rfl
    have es : ∀ y : Int, (pre ++ (100 * p) :: (List.replicate d (100 * p) ++ rest)).set ((pre.length : Int)).toNat y = pre ++ y :: (List.replicate d (100 * p) ++ rest) := fun y => by rw [Int.toNat_natCast]; exact seto_mid pre _ _ y
    rw [List.replicate_succ, List.cons_append]
    refine Ev.succ ?_
    simp only [impl_OrnamentMelody.l1, ep, w3, w5, c, rdo_mid, w4, es]
    exact Ev.ite_pos g (Ev.ite_pos g0 (Ev.ite_pos g1 (Ev.ite_pos g2 (Ev.ite_pos g3 ih'))))
theorem impl_OrnM_l0 (m : List S75) (ls : List S98) (hm : melB m = true) (hls : ls.length = m.length) (hx : ∀ i : Nat, i < ls.length → okO (rd_T98 ls i)) : ∀ (d i : Nat) (done : List Int), m.length - i = d → done.length ≤ 64 * i → i ≤ m.length → Ev (fun k => impl_OrnamentMelody.l0 k ls (done ++ baseR m d i) done.length m m.length i) (finO (done ++ specO m ls d i)) := by
  obtain ⟨ha, hl⟩ := melB_all hm
  intro d
  induction d with
  | zero =>
    intro i done hd hacc hi
    rw [specO, baseR, List.append_nil]
    refine Ev.succ ?_
    simp only [impl_OrnamentMelody.l0]
    refine Ev.ite_neg (by omega) (Ev.bindc (impl_curveOk_eq done) ?_)
    unfold finO
    cases curveB done with
    | true => exact Ev.ite_pos rfl (Ev.now _)
    | false => exact Ev.ite_neg (by decide) (Ev.now _)
  | succ d ih =>
    intro i done hd hacc hi
    have hi' : i < m.length := by omega
    obtain ⟨o1, o2, o3⟩ := okN_rd ha hi'
    simp only [inP, Bool.and_eq_true, decide_eq_true_eq] at o1
    have hxi := hx i (by omega)
    have ih' := ih (i + 1) (done ++ noteO (rd_T75 m i).f0 (rd_T98 ls i) (rd_T75 m i).f1 (rd_T75 m i).f1.toNat 0) (by omega) (by rw [List.length_append, noteO_len]; omega) (by omega)
    have elen : (((done ++ noteO (rd_T75 m i).f0 (rd_T98 ls i) (rd_T75 m i).f1 (rd_T75 m i).f1.toNat 0).length : Nat) : Int) = (done.length : Int) + (rd_T75 m i).f1 := by rw [List.length_append, noteO_len]; omega
    rw [elen, List.append_assoc, List.append_assoc] at ih'
    have f1 : (i : Int) < (m.length : Int) := by omega
    have f2 : (0 : Int) ≤ (i : Int) := by omega
    have f3 : (i : Int) < (ls.length : Int) := by omega
    have eL : (((rd_T75 m i).f1.toNat : Nat) : Int) = (rd_T75 m i).f1 := by omega
    have n1 : i < 1000 := by omega
    have n2 : 1 ≤ (rd_T75 m i).f1.toNat := by omega
    have n3 : (rd_T75 m i).f1.toNat ≤ 64 := by omega
    have n4 : done.length ≤ 100000 := by omega
    have w1 : wrap64 ((done.length : Int) + (rd_T75 m i).f1) = (done.length : Int) + (rd_T75 m i).f1 := w64 (by omega) (by omega)
    have w2 : wrap64 ((i : Int) + 1) = ((i + 1 : Nat) : Int) := by rw [w64 (by clear w1; omega) (by clear w1; omega)]; rfl
    refine Ev.succ ?_
    simp only [impl_OrnamentMelody.l0]
    refine Ev.ite_pos f1 (Ev.ite_pos f2 (Ev.ite_pos f1 (Ev.ite_pos f3 ?_)))
    rw [baseR]
    by_cases z : (rd_T98 ls i).f0 = 0
    · refine Ev.ite_pos z ?_
      rw [w1, w2]
      rw [noteO_zero _ _ _ z] at ih'
      rw [specO, noteO_zero _ _ _ z]
      exact ih'
    · have ev := impl_Orn_ev (rd_T98 ls i) (rd_T75 m i).f1.toNat hxi z n2 n3
      rw [eL] at ev
      refine Ev.ite_neg z (Ev.bind ev ?_)
      have cl := curO_len (rd_T98 ls i) (rd_T75 m i).f1 (rd_T75 m i).f1.toNat 0
      have st := impl_Orn_l1 m ls i n1 (rd_T75 m i).f0 (rd_T98 ls i) (rd_T75 m i).f1.toNat done.length hxi n2 n3 n4 o1 m.length _ (baseR m d (i + 1)) (rd_T75 m i).f1.toNat 0 done (Nat.sub_zero _) (Nat.zero_le _) rfl (by rw [eL]; exact ih')
      rw [eL] at st
      rw [cl, eL]
      exact st
theorem spec_l03Pitch_eq (n : Int) : spec_l03Pitch.f n = some (inP n) := by
  unfold spec_l03Pitch.f
  rw [spec_l00In_eq]
  rfl
end Go.Proofs.Ytlgigomahobfbaa.P
end

section
namespace Go.Proofs.Ytlgigomahobfbaa.P
open Go.RowKit Go.Proofs.YtlgigomahobfbaaW.PrintWords Go.Proofs.YtlgigomahobfbaaW.PrintLast Go.Proofs.YtlgigomahobfbaaW.PrintMore
attribute [local go_sem] max2_int min2_int max_two min_two max_three min_three max_four min_four   -- for this text's walks alone
set_option linter.unusedVariables false
set_option linter.unusedSimpArgs false
/-! ### spec_l16Drone: function 58 -/
def spec_l16Drone.f (k : Nat) (l0 : List (S75)) : Option (Bool) := (spec_l09Ok.f k l0).bind fun t107 => (if t107 = true then (some (decide ((l0.length : Int) > 0))) else (some false))
theorem spec_l16Drone.mono : ∀ a0 k, LeO (spec_l16Drone.f k a0) (spec_l16Drone.f (k + 1) a0) := by
  intro a0 k
  unfold spec_l16Drone.f
  repeat' first
      | (with_reducible exact spec_l09Ok.mono _ _)
      | (with_reducible exact LeO.refl _)
      | (with_reducible exact LeO.none _)
      | (with_reducible refine LeO.ite ?_ ?_)
      | (with_reducible refine LeO.bind ?_ (fun _ => ?_))
      | exact spec_l09Ok.mono _ _
      | exact LeO.none _
      | refine LeO.ite ?_ ?_
      | refine LeO.bind ?_ (fun _ => ?_)
set_option maxHeartbeats 8000000 in
set_option maxRecDepth 100000 in
theorem spec_l16Drone.calls (k : Nat) (A0 : Option Addr) (c0 : Nat) (l0 : List (S75)) (r : Bool) (w : World) (hr0 : Kd.C k75 w A0 l0.length l0) (hc0 : l0.length ≤ c0) (h : spec_l16Drone.f k l0 = some r) :
    Calls Try.prog 58 #[.slice A0 l0.length c0] w fun e w' => e = .returned (.bool r) ∧ Drawn0 w w' := by
  have HR0 := Aside0.mk hr0
  have HC0 := Aside0.mk hc0
  clear hr0 hc0
  have H : ((spec_l09Ok.f k l0).bind fun t107 => (if t107 = true then (some (decide ((l0.length : Int) > 0))) else (some false))) = some r := h
  clear h
  replace H := Option.bind_eq_some_iff.mp H
  obtain ⟨t107, A20, H⟩ := H
  replace H : (if t107 = true then (some (decide ((l0.length : Int) > 0))) else (some false)) = some r := H
  have A2 := Aside0.mk A20
  clear A20
  by_cases c3 : t107 = true
  · subst c3
    have H1 : (some (decide ((l0.length : Int) > 0))) = some r := by rw [if_pos rfl] at H; exact H
    clear H
    have H := H1
    clear H1
    obtain rfl := Option.some.inj H
    go_enter Try.func58, Try.ntmps58
    go_wp2_with (first | ((with_reducible refine gate_callee (f := 72) rfl ?_); refine goesL_ (some 4) rfl rfl Try.func72 (by kernel_rfl) rfl #[.slice A0 l0.length c0] rfl (by (try simp only [List.map_toArray, List.map_cons, List.map_nil]); first | done | rfl | (simp only [List.length_drop, List.length_take]; rfl)) ?_; (with_reducible refine (spec_l09Ok.calls k _ _ l0 true _ ?side1 ?side2 A2.out).mono ?_); (case side1 => repeat (first | exact HR0.out | (with_reducible refine Kd.C_alloc ?_ _) | (with_reducible refine Kd.C_drewN ?_ _) | (with_reducible refine Kd.C_drew ?_))); (case side2 => exact HC0.out); rintro e w' ⟨rfl, ⟨nd, rfl⟩⟩; refine ⟨_, rfl, ?_⟩))
    go_ret
    exact ⟨by first | rfl | (simp; done) | (simp [*]; done), by repeat (first | exact Drawn0.refl _ | apply Drawn0.step)⟩
  · replace c3 := Bool.eq_false_iff.mpr c3
    subst c3
    have H1 : (some false) = some r := by rw [if_neg (show ¬ (false = true) by decide)] at H; exact H
    clear H
    have H := H1
    clear H1
    obtain rfl := Option.some.inj H
    go_enter Try.func58, Try.ntmps58
    go_wp2_with (first | ((with_reducible refine gate_callee (f := 72) rfl ?_); refine goesL_ (some 4) rfl rfl Try.func72 (by kernel_rfl) rfl #[.slice A0 l0.length c0] rfl (by (try simp only [List.map_toArray, List.map_cons, List.map_nil]); first | done | rfl | (simp only [List.length_drop, List.length_take]; rfl)) ?_; (with_reducible refine (spec_l09Ok.calls k _ _ l0 false _ ?side1 ?side2 A2.out).mono ?_); (case side1 => repeat (first | exact HR0.out | (with_reducible refine Kd.C_alloc ?_ _) | (with_reducible refine Kd.C_drewN ?_ _) | (with_reducible refine Kd.C_drew ?_))); (case side2 => exact HC0.out); rintro e w' ⟨rfl, ⟨nd, rfl⟩⟩; refine ⟨_, rfl, ?_⟩))
    go_ret
    exact ⟨by first | rfl | (simp; done) | (simp [*]; done), by repeat (first | exact Drawn0.refl _ | apply Drawn0.step)⟩
/-! ### spec_l16Units: function 60 -/
mutual
def spec_l16Units.l0 : Nat → List (S75) → List Int → Int → Option (List Int)
  | 0, _, _, _ => none
  | k + 1, x0, x3, x4 => if x4 < (x0.length : Int) then (spec_l16Units.l1 k x0 x3 x4 0) else (some x3)
def spec_l16Units.l1 : Nat → List (S75) → List Int → Int → Int → Option (List Int)
  | 0, _, _, _, _ => none
  | k + 1, x0, x3, x4, x5 => if 0 ≤ x4 then (if x4 < (x0.length : Int) then (if x5 < ((rd_T75 x0 x4).f1) then (if x3.length < 17592186044416 then (spec_l16Units.l1 k x0 (x3 ++ [(rd_T75 x0 x4).f0]) x4 (wrap64 (x5 + 1))) else (none)) else (spec_l16Units.l0 k x0 x3 (wrap64 (x4 + 1)))) else (none)) else (none)
end
def spec_l16Units.f (k : Nat) (l0 : List (S75)) : Option (List Int) := spec_l16Units.l0 k l0 (([] : List Int)) 0
theorem spec_l16Units.mono_l : ∀ k, (∀ y0 y1 y2, LeO (spec_l16Units.l0 k y0 y1 y2) (spec_l16Units.l0 (k + 1) y0 y1 y2)) ∧ (∀ y0 y1 y2 y3, LeO (spec_l16Units.l1 k y0 y1 y2 y3) (spec_l16Units.l1 (k + 1) y0 y1 y2 y3))
  | 0 => ⟨fun _ _ _ r h => by simp [spec_l16Units.l0] at h, fun _ _ _ _ r h => by simp [spec_l16Units.l1] at h⟩
  | k + 1 => by
    obtain ⟨ih0, ih1⟩ := spec_l16Units.mono_l k
    refine ⟨?_, ?_⟩
    · intro y0 y1 y2
      unfold spec_l16Units.l0
      repeat' first
      | (with_reducible exact ih0 _ _ _)
      | (with_reducible exact ih1 _ _ _ _)
      | (with_reducible exact LeO.refl _)
      | (with_reducible exact LeO.none _)
      | (with_reducible refine LeO.ite ?_ ?_)
      | (with_reducible refine LeO.bind ?_ (fun _ => ?_))
      | exact ih0 _ _ _
      | exact ih1 _ _ _ _
      | exact LeO.none _
      | refine LeO.ite ?_ ?_
      | refine LeO.bind ?_ (fun _ => ?_)
    · intro y0 y1 y2 y3
      unfold spec_l16Units.l1
      repeat' first
      | (with_reducible exact ih0 _ _ _)
      | (with_reducible exact ih1 _ _ _ _)
      | (with_reducible exact LeO.refl _)
      | (with_reducible exact LeO.none _)
      | (with_reducible refine LeO.ite ?_ ?_)
      | (with_reducible refine LeO.bind ?_ (fun _ => ?_))
      | exact ih0 _ _ _
      | exact ih1 _ _ _ _
      | exact LeO.none _
      | refine LeO.ite ?_ ?_
      | refine LeO.bind ?_ (fun _ => ?_)
theorem spec_l16Units.mono : ∀ a0 k, LeO (spec_l16Units.f k a0) (spec_l16Units.f (k + 1) a0) := by
  intro a0 k
  obtain ⟨ih0, ih1⟩ := spec_l16Units.mono_l k
  unfold spec_l16Units.f
  repeat' first
      | (with_reducible exact ih0 _ _ _)
      | (with_reducible exact ih1 _ _ _ _)
      | (with_reducible exact LeO.refl _)
      | (with_reducible exact LeO.none _)
      | (with_reducible refine LeO.ite ?_ ?_)
      | (with_reducible refine LeO.bind ?_ (fun _ => ?_))
      | exact ih0 _ _ _
      | exact ih1 _ _ _ _
      | exact LeO.none _
      | refine LeO.ite ?_ ?_
      | refine LeO.bind ?_ (fun _ => ?_)
set_option maxHeartbeats 8000000 in
set_option maxRecDepth 100000 in
theorem spec_l16Units.calls (k : Nat) (A0 : Option Addr) (c0 : Nat) (l0 : List (S75)) (r : List Int) (w : World) (hr0 : Kd.C k75 w A0 l0.length l0) (hc0 : l0.length ≤ c0) (h : spec_l16Units.f k l0 = some r) :
    Calls Try.prog 60 #[.slice A0 l0.length c0] w fun e w' => ∃ v0_ : Value, e = .returned (v0_) ∧ Kd.R (Kd.int .i64) 2 w' w.heap.size (fun _ => True) v0_ r ∧ Below w.heap.size w w' := by
  have HR0 := Aside0.mk hr0
  have HC0 := Aside0.mk hc0
  clear hr0 hc0
  have HB := Aside0.mk (Below.refl w.heap.size w)
  have H : (spec_l16Units.l0 k l0 (([] : List Int)) 0) = some r := h
  clear h
  obtain ⟨y108, hy108⟩ : ∃ y_ : List Int, y_ = (([] : List Int)) := ⟨_, rfl⟩
  replace H : (spec_l16Units.l0 k l0 y108 0) = some r := by first | (rw [hy108]; with_reducible exact H) | (have H2_ := (Option.bind_some _ _).symm.trans H; rw [hy108]; with_reducible exact H2_) | (have H2_ := (Option.bind_some _ _).symm.trans H; with_reducible exact H2_) | with_reducible exact H | (rw [hy108]; exact H) | exact H
  have Ny108 := Aside0.mk hy108
  clear hy108
  have H' := Aside0.mk H
  clear H
  go_enter Try.func60, Try.ntmps60
  go_wp2_with (first | ((with_reducible refine gate_dst (N := 6) rfl ?_); refine Kd.R_lit (Kd.int .i64) _ 2 ?hg (N := 6) ?hd (xs := ([] : List Int)) (inner := []) (ok := fun _ => True) (okp := fun _ => True) ?hr ?hp (fun _ hk => hk) trivial (Below.refl _ _) (Nat.le_refl _) (by simp) ?_; (case hd => rfl); (case hg => rfl); (case hr => first | (go_simp; done) | (go_simp; rfl)); (case hp => exact (Reps.none _ _)); intro v109 w2 ho3 hb hg_ hnew_; clear hg_ hnew_; (first | rw [← Ny108.out] at ho3 | (simp only [Int.reduceToNat] at ho3; rw [← Ny108.out] at ho3)); have n0_ := Aside0.mk (Kd.R_lower ho3 (below_size (by repeat (first | (with_reducible first | exact HB.out | apply below_alloc | apply pw_below_drewN | apply below_drew1) | exact HB.out)))); have n1_ := Aside0.mk (below_step (by repeat (first | (with_reducible first | exact HB.out | apply below_alloc | apply pw_below_drewN | apply below_drew1) | exact HB.out)) hb); clear HB; have HO110 := n0_; have HB := n1_; clear n0_ n1_; clear hb ho3))
  go_loopg [3, 4] k (fun kq v3 v4 w' => ∃ (x3_1 : List Int) (x4_1 : Int), v4 = .int .i64 x4_1 ∧ Aside0 (spec_l16Units.l0 kq l0 x3_1 x4_1 = some r) ∧ Aside0 (kq ≤ k) ∧ Aside0 (Kd.R (Kd.int .i64) 2 w' w.heap.size (fun _ => True) v3 x3_1) ∧ Aside0 (Below w.heap.size w w'))
  case atStart => exact ⟨(y108), (0), (by first | rfl | (simp; done) | (simp [*]; done)), H', ⟨Nat.le_refl _⟩, ⟨by (with_reducible repeat (first | apply Kd.R_alloc | apply Kd.R_drewN | apply Kd.R_drew)); exact HO110.out⟩, ⟨by repeat (first | (with_reducible first | exact HB.out | apply below_alloc | apply pw_below_drewN | apply below_drew1) | exact HB.out)⟩⟩
  case round =>
    clear H'
    try clear p2
    obtain ⟨x3_1, x4_1, rfl, HA, HK1, HO_3, HB⟩ := hrel
    cases gk with
    | zero => exact absurd HA.out (by simp [spec_l16Units.l0])
    | succ k1 =>
      have H := HA.out
      clear HA
      simp only [spec_l16Units.l0] at H
      by_cases c4 : x4_1 < (l0.length : Int)
      · rw [if_pos c4] at H
        have c4b0 : decide (x4_1 < (l0.length : Int)) = true := decide_eq_true c4
        clear c4
        have H' := Aside0.mk H
        clear H
        go_wp2
        go_loopg [3, 5] k1 (fun kq v3 v5 w' => ∃ (x3_2 : List Int) (x5_2 : Int), v5 = .int .i64 x5_2 ∧ Aside0 (spec_l16Units.l1 kq l0 x3_2 x4_1 x5_2 = some r) ∧ Aside0 (kq ≤ k1) ∧ Aside0 (Kd.R (Kd.int .i64) 2 w' w.heap.size (fun _ => True) v3 x3_2) ∧ Aside0 (Below w.heap.size w w'))
        case atStart => exact ⟨(x3_1), (0), (by first | rfl | (simp; done) | (simp [*]; done)), H', ⟨Nat.le_refl _⟩, ⟨by (with_reducible repeat (first | apply Kd.R_alloc | apply Kd.R_drewN | apply Kd.R_drew)); exact HO_3.out⟩, ⟨by repeat (first | (with_reducible first | exact HB.out | apply below_alloc | apply pw_below_drewN | apply below_drew1) | exact HB.out)⟩⟩
        case round =>
          clear H'
          try clear p2
          try clear c4
          try clear c4b0
          try clear p2
          obtain ⟨x3_2, x5_2, rfl, HA, HK2, HO_3, HB⟩ := hrel
          cases gk with
          | zero => exact absurd HA.out (by simp [spec_l16Units.l1])
          | succ k2 =>
            have H := HA.out
            clear HA
            simp only [spec_l16Units.l1] at H
            by_cases c5 : 0 ≤ x4_1
            · rw [if_pos c5] at H
              have c5b0 : decide (0 ≤ x4_1) = true := decide_eq_true c5
              clear c5
              by_cases c6 : x4_1 < (l0.length : Int)
              · rw [if_pos c6] at H
                have c6b0 : decide (x4_1 < (l0.length : Int)) = true := decide_eq_true c6
                clear c6
                by_cases c7 : x5_2 < ((rd_T75 l0 x4_1).f1)
                · rw [if_pos c7] at H
                  have c7b0 : decide (x5_2 < ((rd_T75 l0 x4_1).f1)) = true := decide_eq_true c7
                  clear c7
                  by_cases c8 : x3_2.length < 17592186044416
                  · rw [if_pos c8] at H
                    have LMc8 := Aside0.mk c8
                    clear c8
                    obtain ⟨y113, hy113⟩ : ∃ y_ : List Int, y_ = (x3_2 ++ [(rd_T75 l0 x4_1).f0]) := ⟨_, rfl⟩
                    replace H : (spec_l16Units.l1 k2 l0 y113 x4_1 (wrap64 (x5_2 + 1))) = some r := by first | (rw [hy113]; with_reducible exact H) | (have H2_ := (Option.bind_some _ _).symm.trans H; rw [hy113]; with_reducible exact H2_) | (have H2_ := (Option.bind_some _ _).symm.trans H; with_reducible exact H2_) | with_reducible exact H | (rw [hy113]; exact H) | exact H
                    have Ny113 := Aside0.mk hy113
                    clear hy113
                    have H' := Aside0.mk H
                    clear H
                    have p111 : 0 ≤ (x4_1 : Int) := of_decide_eq_true (by first | (with_reducible assumption) | assumption)
                    have q111 : x4_1 < (l0.length : Int) := of_decide_eq_true (by first | (with_reducible assumption) | assumption)
                    obtain ⟨ad111, e111, hx111_0, hx111_1⟩ := at_T75 HR0.out x4_1 p111 q111
                    cases e111
                    replace hx111_0 := (HB.out.cell (World.block_lt_of_cell? w _ hx111_0)).trans hx111_0
                    replace hx111_1 := (HB.out.cell (World.block_lt_of_cell? w _ hx111_1)).trans hx111_1
                    replace p111 := eq_true p111
                    replace q111 := eq_true q111
                    have p112 : 0 ≤ (x4_1 : Int) := of_decide_eq_true (by first | (with_reducible assumption) | assumption)
                    have q112 : x4_1 < (l0.length : Int) := of_decide_eq_true (by first | (with_reducible assumption) | assumption)
                    obtain ⟨ad112, e112, hx112_0, hx112_1⟩ := at_T75 HR0.out x4_1 p112 q112
                    obtain rfl : ad111 = ad112 := (by injection e112)
                    replace hx112_0 := (HB.out.cell (World.block_lt_of_cell? w _ hx112_0)).trans hx112_0
                    replace hx112_1 := (HB.out.cell (World.block_lt_of_cell? w _ hx112_1)).trans hx112_1
                    replace p112 := eq_true p112
                    replace q112 := eq_true q112
                    go_wp2_with (first | ((with_reducible refine gate_builtin (b := .append) (xs := #[.tmp 22, .tmp 28]) rfl ?_); at_builtin; refine Kd.R_append (Kd.int .i64) (w0 := w) w.heap.size rfl (.tmp 22) (.tmp 28) 30 2 (.int .i64 0) 8 rfl Try.underlying30 info2 rfl (by decide) (by omega) u3 x3_2 ((rd_T75 l0 x4_1).f0) [.int .i64 ((rd_T75 l0 x4_1).f0)] (fun _ => True) (fun _ => False) rfl rfl ?aP (fun _ hk => hk.elim) ?aF ?aO ?aB ?aS ?aL ?_; (case aP => exact rfl); (case aB => exact (by repeat (first | (with_reducible first | exact HB.out | apply below_alloc | apply pw_below_drewN | apply below_drew1) | exact HB.out))); (case aF => exact (fun _ _ => trivial)); (case aO => exact (by (with_reducible repeat (first | apply Kd.R_alloc | apply Kd.R_drewN | apply Kd.R_drew)); exact HO_3.out)); (case aS => exact (below_size (by repeat (first | (with_reducible first | exact HB.out | apply below_alloc | apply pw_below_drewN | apply below_drew1) | exact HB.out)))); (case aL => have := LMc8.out; omega); intro v114 w9 ho hb hg hat; rw [← Ny113.out] at ho; have n0_ := Aside0.mk (hb); have n1_ := Aside0.mk (ho); clear HB; clear HO_3; have HB := n0_; have HO115 := n1_; clear n0_ n1_; clear ho hb hg hat))
                    go_roundg k2
                    case measure => have := HK1.out; have := HK2.out; omega
                    case rel => exact ⟨(y113), (wrap64 (x5_2 + 1)), (by first | rfl | (simp; done) | (simp [*]; done)), H', ⟨by have := HK1.out; have := HK2.out; omega⟩, ⟨by (with_reducible repeat (first | apply Kd.R_alloc | apply Kd.R_drewN | apply Kd.R_drew)); exact HO115.out⟩, ⟨by repeat (first | (with_reducible first | exact HB.out | apply below_alloc | apply pw_below_drewN | apply below_drew1) | exact HB.out)⟩⟩
                  · rw [if_neg c8] at H
                    exact absurd H (by simp)
                · rw [if_neg c7] at H
                  have c7b0 : decide (x5_2 < ((rd_T75 l0 x4_1).f1)) = false := decide_eq_false c7
                  clear c7
                  have H' := Aside0.mk H
                  clear H
                  have p111 : 0 ≤ (x4_1 : Int) := of_decide_eq_true (by first | (with_reducible assumption) | assumption)
                  have q111 : x4_1 < (l0.length : Int) := of_decide_eq_true (by first | (with_reducible assumption) | assumption)
                  obtain ⟨ad111, e111, hx111_0, hx111_1⟩ := at_T75 HR0.out x4_1 p111 q111
                  cases e111
                  replace hx111_0 := (HB.out.cell (World.block_lt_of_cell? w _ hx111_0)).trans hx111_0
                  replace hx111_1 := (HB.out.cell (World.block_lt_of_cell? w _ hx111_1)).trans hx111_1
                  replace p111 := eq_true p111
                  replace q111 := eq_true q111
                  go_wp2
                  go_roundg k2
                  case measure => have := HK1.out; have := HK2.out; omega
                  case rel => exact ⟨(x3_2), (wrap64 (x4_1 + 1)), (by first | rfl | (simp; done) | (simp [*]; done)), H', ⟨by have := HK1.out; have := HK2.out; omega⟩, ⟨by (with_reducible repeat (first | apply Kd.R_alloc | apply Kd.R_drewN | apply Kd.R_drew)); exact HO_3.out⟩, ⟨by repeat (first | (with_reducible first | exact HB.out | apply below_alloc | apply pw_below_drewN | apply below_drew1) | exact HB.out)⟩⟩
              · rw [if_neg c6] at H
                exact absurd H (by simp)
            · rw [if_neg c5] at H
              exact absurd H (by simp)
      · rw [if_neg c4] at H
        have c4b0 : decide (x4_1 < (l0.length : Int)) = false := decide_eq_false c4
        clear c4
        obtain rfl := Option.some.inj H
        go_wp2
        go_ret
        exact ⟨_, by first | rfl | (simp [errW_none, errW_some] <;> rfl) | (simp [*, errW_none, errW_some] <;> rfl), by (with_reducible repeat (first | apply Kd.R_alloc | apply Kd.R_drewN | apply Kd.R_drew)); exact HO_3.out, by repeat (first | (with_reducible first | exact HB.out | apply below_alloc | apply pw_below_drewN | apply below_drew1) | exact HB.out)⟩
end Go.Proofs.Ytlgigomahobfbaa.P
end

section
namespace Go.Proofs.Ytlgigomahobfbaa.P
open Go.RowKit Go.Proofs.Ytlgigomahobfbaa.P Go.Proofs.YtlgigomahobfbaaW.PrintWords Go.Proofs.YtlgigomahobfbaaW.PrintLast Go.Proofs.YtlgigomahobfbaaW.PrintMore
set_option linter.unusedVariables false
set_option linter.unusedSimpArgs false
theorem spec_l09Length_eq (n : Int) : spec_l09Length.f n = some (decide (1 ≤ n) && decide (n ≤ 64)) := by
  unfold spec_l09Length.f
  rw [spec_l00In_eq]
  rfl
theorem spec_l09Ok_l0 (l : List S75) (hl : l.length ≤ 9223372036854775807) : ∀ (d i : Nat), l.length - i = d → Ev (fun k => spec_l09Ok.l0 k l i) ((l.drop i).all okN && decide (l.length ≤ 48)) := by
  intro d
  induction d with
  | zero =>
    intro i hd
    refine Ev.succ ?_
    simp only [spec_l09Ok.l0]
    refine Ev.ite_neg (by omega) ?_
    rw [List.drop_of_length_le (by omega)]
    refine Ev.cast (Ev.now _) ?_
    simp
    omega
  | succ d ih =>
    intro i hd
    refine Ev.succ ?_
    simp only [spec_l09Ok.l0]
    refine Ev.ite_pos (by omega) ?_
    refine Ev.ite_pos (by omega) ?_
    refine Ev.bindc (spec_l03Pitch_eq _) ?_
    rw [alln_drop_at okN (by omega)]
    cases hp : inP (rd_T75 l i).f0 with
    | false =>
      refine Ev.ite_neg (by decide) ?_
      refine Ev.cast (Ev.now false) ?_
      simp [okN, hp]
    | true =>
      refine Ev.ite_pos rfl ?_
      refine Ev.bindc (spec_l09Length_eq _) ?_
      cases hq : (decide (1 ≤ (rd_T75 l i).f1) && decide ((rd_T75 l i).f1 ≤ 64)) with
      | false =>
        refine Ev.ite_neg (by decide) ?_
        refine Ev.cast (Ev.now false) ?_
        simp [okN, hq]
      | true =>
        refine Ev.ite_pos rfl ?_
        rw [w64 (x := (i : Int) + 1) (by omega) (by omega)]
        refine Ev.cast (by simpa using ih (i + 1) (by omega)) ?_
        simp [okN, hp, hq]
theorem spec_l09Ok_ev (l : List S75) (hl : l.length ≤ 9223372036854775807) : Ev (fun k => spec_l09Ok.f k l) (melB l) := by
  unfold spec_l09Ok.f melB
  simpa using spec_l09Ok_l0 l hl l.length 0 (by omega)
theorem spec_l16Drone_ev (l : List S75) (hl : l.length ≤ 9223372036854775807) : Ev (fun k => spec_l16Drone.f k l) (melB l && decide (0 < l.length)) := by
  unfold spec_l16Drone.f
  refine Ev.bind (spec_l09Ok_ev l hl) ?_
  cases h : melB l with
  | true =>
    refine Ev.ite_pos rfl ?_
    refine Ev.cast (Ev.now _) ?_
    simp
  | false => exact Ev.ite_neg (by decide) (Ev.now _)
theorem spec_l16Units_l1 (l : List S75) (i : Nat) (r : List Int) (hi : i < l.length) (hn : (rd_T75 l i).f1 ≤ 1048576) : ∀ (d : Nat) (u : Int) (acc : List Int), ((rd_T75 l i).f1 - u).toNat = d → 0 ≤ u → acc.length + d ≤ 1048576 →
    Ev (fun k => spec_l16Units.l0 k l (acc ++ List.replicate d (rd_T75 l i).f0) (wrap64 ((i : Int) + 1))) r → Ev (fun k => spec_l16Units.l1 k l acc i u) r := by
  intro d
  induction d with
  | zero =>
    intro u acc hd h0 ha h
    refine Ev.succ ?_
    simp only [spec_l16Units.l1]
    refine Ev.ite_pos (by omega) ?_
    refine Ev.ite_pos (by omega) ?_
    refine Ev.ite_neg (by omega) ?_
    simpa using h
  | succ d ih =>
    intro u acc hd h0 ha h
    refine Ev.succ ?_
    simp only [spec_l16Units.l1]
    refine Ev.ite_pos (by omega) ?_
    refine Ev.ite_pos (by omega) ?_
    refine Ev.ite_pos (by omega) ?_
    refine Ev.ite_pos (by omega) ?_
    rw [w64 (x := u + 1) (by omega) (by omega)]
    refine ih (u + 1) (acc ++ [(rd_T75 l i).f0]) (by omega) (by omega) (by simp; omega) ?_
    simpa [List.replicate_succ] using h
theorem spec_l16Units_l0 (l : List S75) (hv : l.all okN = true) (hl : l.length ≤ 48) : ∀ (d i : Nat) (acc : List Int), l.length - i = d → acc.length ≤ 64 * i → Ev (fun k => spec_l16Units.l0 k l acc i) (acc ++ unitsM (l.drop i)) := by
  intro d
  induction d with
  | zero =>
    intro i acc hd ha
    refine Ev.succ ?_
    simp only [spec_l16Units.l0]
    refine Ev.ite_neg (by omega) ?_
    rw [List.drop_of_length_le (by omega)]
    simpa [unitsM] using Ev.now _
  | succ d ih =>
    intro i acc hd ha
    have hq := okN_rd hv (show i < l.length by omega)
    refine Ev.succ ?_
    simp only [spec_l16Units.l0]
    refine Ev.ite_pos (by omega) ?_
    refine spec_l16Units_l1 l i _ (by omega) (by omega) ((rd_T75 l i).f1).toNat 0 acc (by omega) (by omega) (by omega) ?_
    rw [w64 (x := (i : Int) + 1) (by omega) (by omega), unitsM_drop (by omega), ← List.append_assoc]
    simpa using ih (i + 1) (acc ++ List.replicate ((rd_T75 l i).f1).toNat (rd_T75 l i).f0) (by omega) (by simp; omega)
theorem spec_l16Units_ev (l : List S75) (h : melB l = true) : Ev (fun k => spec_l16Units.f k l) (unitsM l) := by
  unfold spec_l16Units.f
  simpa using spec_l16Units_l0 l (melB_all h).1 (melB_all h).2 l.length 0 [] (by omega) (by simp)
end Go.Proofs.Ytlgigomahobfbaa.P
end
