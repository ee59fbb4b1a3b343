/- Texts of this seat, merged: Open, LEv, LCopy, LRdL, LSSCopy, LAskCopy, LEvAnd, LAbs, LMax, LDropAt, LInP, LIn, LSInP, LPitches, LLeaps, LMarkSS, LMarkAsk, LRagaCopy, LMarkRaga, LInB, LWithin, LIInP, LRangeOk, LAskOk, LIdx, LHasOne, LName, LIName, LInc, LRises, LScale, LIScale, LTn, LRaga. -/
import Derived.Deep.Slices
import Derived.WideShapes
import Derived.ChangeShapes
import Derived.ChangeMaps5
import Derived.ChangeSame
import Derived.Test.YtinlejhffokbaaaGSM1
import Derived.Test.YtinlejhffokbaaaGSM2
import Derived.Test.YtinlejhffokbaaaGSM5
import Derived.Test.YtinlejhffokbaaaGSM6
import Derived.Test.YtinlejhffokbaaaGSM8
import Derived.Test.YtinlejhffokbaaaGSM9
import Derived.Test.YtinlejhffokbaaaGSM10
import Derived.Test.YtinlejhffokbaaaGSM11
import Derived.Test.YtinlejhffokbaaaGSM13
import Derived.Test.YtinlejhffokbaaaGSM14
import Derived.Test.YtinlejhffokbaaaGSM16
section
/- How the arguments of this seat's laws read, as the kinds of the printed words: an argument that the row reads has the cells of its kind, and its numbers, texts and lengths are in bounds. No condition. -/
namespace Go.Proofs.Ytinlejhffokbaaa.P
open Go.RowKit Go.ChangeShapes Go.WideShapes Go.Proofs.YtinlejhffokbaaaW.PrintWords Go.Proofs.YtinlejhffokbaaaW.PrintLast
set_option linter.unusedVariables false

section
variable {H : Type} {enc : TypeId × Value → H} {P : Program} {w : World} {held : Bool}

theorem list_choose {α : Type} (p : Nat → α → Prop) : ∀ n, (∀ i, i < n → ∃ y, p i y) → ∃ ys : List α, ys.length = n ∧ ∀ (i : Nat) (y : α), ys[i]? = some y → p i y := by
  intro n
  induction n with
  | zero => exact fun _ => ⟨[], rfl, fun i y h => by simp at h⟩
  | succ n ih =>
    intro h; obtain ⟨ys, hl, hp⟩ := ih (fun i hi => h i (by omega)); obtain ⟨z, hz⟩ := h n (by omega); refine ⟨ys ++ [z], by simp [hl], fun i y hy => ?_⟩
    rcases Nat.lt_or_ge i ys.length with hi | hi
    · rw [List.getElem?_append_left hi] at hy; exact hp i y hy
    · rw [List.getElem?_append_right hi] at hy
      have h0 : i - ys.length = 0 := by
        rcases Nat.eq_zero_or_pos (i - ys.length) with h1 | h1
        · exact h1
        · rw [List.getElem?_eq_none (by simp; omega)] at hy
          cases hy
      rw [h0] at hy; simp only [List.getElem?_cons_zero, Option.some.injEq] at hy; subst hy
      have : i = n := by omega
      subst this; exact hz

theorem len_cons {n : Nat} {cs : List Value} (h : cs.length = n + 1) : ∃ c t, cs = c :: t ∧ t.length = n := by
  cases cs with
  | nil => simp at h
  | cons c t => exact ⟨c, t, rfl, by simpa using h⟩

theorem opn_int {t : TypeId} {k : IntKind} (ht : P.underlying t = some (.int k)) {fuel : Nat} {cs : List Value} {x : DataW H × List MemPlace} (h : DataW.trod enc P w 0 (fun _ => true) held fuel t cs = some x) :
    ∃ y : Int, (Kd.int k).K w y cs ∧ (Lit.int k y).wf = true := by
  obtain ⟨n, hcs, _, hw⟩ := DataW.trod_int ht h; exact ⟨n, hcs, hw⟩

theorem opn_string {t : TypeId} (ht : P.underlying t = some .string) {fuel : Nat} {cs : List Value} {x : DataW H × List MemPlace} (h : DataW.trod enc P w 0 (fun _ => true) held fuel t cs = some x) :
    ∃ y : ByteArray, Kd.string.K w y cs ∧ y.size ≤ maxLen := by
  obtain ⟨s, hcs, _, hs⟩ := DataW.trod_string ht h; exact ⟨s, hcs, hs⟩

theorem opn_slice {α : Type} (d : Kd α) (ok : α → Prop) {t e : TypeId} (ht : P.underlying t = some (.slice e)) (ce : P.cellsOf e = d.sz)
    (hE : ∀ {fuel : Nat} {cs : List Value} {x : DataW H × List MemPlace}, DataW.trod enc P w 0 (fun _ => true) held fuel e cs = some x → ∃ y : α, d.K w y cs ∧ ok y)
    {fuel : Nat} {cs : List Value} {x : DataW H × List MemPlace} (h : DataW.trod enc P w 0 (fun _ => true) held fuel t cs = some x) :
    ∃ ys : List α, (Kd.slice e d).K w ys cs ∧ ys.length ≤ maxLen ∧ ∀ y ∈ ys, ok y := by
  rcases Go.Deep.open_slice ht h with ⟨rfl, _⟩ | ⟨a, len, cap, m, n, D, Pl, rfl, hb, hl, hm, hmm, rfl, hx⟩
  · exact ⟨[], ⟨none, 0, rfl, Nat.le_refl _, rfl, by simp, fun h => absurd h (Nat.lt_irrefl 0)⟩, Nat.zero_le _, by simp⟩
  · simp only [if_true] at hmm; subst hmm
    obtain ⟨ys, hyl, hy⟩ := list_choose (fun i (y : α) => (∃ cs', w.cells? 0 (a.add (i * P.cellsOf e)) (P.cellsOf e) = some cs' ∧ d.K w y cs') ∧ ok y) len (fun i hi => by
      obtain ⟨cs', h1, h2⟩ := hx i (by omega); obtain ⟨y, hk, ho⟩ := hE h2
      exact ⟨y, ⟨cs', h1, hk⟩, ho⟩)
    subst hyl; refine ⟨ys, ⟨some a, m, rfl, hl, rfl, Nat.le_trans hl (by unfold maxLen at hm; exact hm), fun _ => ⟨a, rfl, fun j p hp => ?_⟩⟩, Nat.le_trans hl hm, fun y hmem => ?_⟩
    · obtain ⟨⟨cs', h1, hk⟩, _⟩ := hy j p hp; obtain ⟨_, hlen, hcell⟩ := World.cells?_some h1; rw [ce] at hlen hcell; refine ⟨cs', hlen, hk, fun i u hu => ?_⟩
      have hi : i < d.sz := by
        rw [← hlen]; exact (List.getElem?_eq_some_iff.1 hu).1
      have := hcell i hi; rw [Go.Deep.add_add] at this; rw [this, hu]
    · obtain ⟨i, hi⟩ := List.getElem?_of_mem hmem; exact (hy i y hi).2
end
theorem opn_L22 {H : Type} {enc : TypeId × Value → H} {w : World} {held : Bool} {fuel : Nat} {cs : List Value} {x : DataW H × List MemPlace} (h : DataW.trod enc Try.prog w 0 (fun _ => true) held fuel 22 cs = some x) :
    ∃ y : List Int, (Kd.slice 2 (Kd.int .i64)).K w y cs ∧ y.length ≤ maxLen ∧ ∀ y0 ∈ y, (Lit.int .i64 y0).wf = true :=
  opn_slice (Kd.int .i64) (fun y0 => (Lit.int .i64 y0).wf = true) Try.underlying22 (show Try.prog.cellsOf 2 = _ by kernel_rfl) (fun h => (opn_int Try.underlying2) h) h
theorem opn_L23 {H : Type} {enc : TypeId × Value → H} {w : World} {held : Bool} {fuel : Nat} {cs : List Value} {x : DataW H × List MemPlace} (h : DataW.trod enc Try.prog w 0 (fun _ => true) held fuel 23 cs = some x) :
    ∃ y : List (List Int), (Kd.slice 22 (Kd.slice 2 (Kd.int .i64))).K w y cs ∧ y.length ≤ maxLen ∧ ∀ y0 ∈ y, (y0.length ≤ maxLen ∧ ∀ y1 ∈ y0, (Lit.int .i64 y1).wf = true) :=
  opn_slice (Kd.slice 2 (Kd.int .i64)) (fun y0 => (y0.length ≤ maxLen ∧ ∀ y1 ∈ y0, (Lit.int .i64 y1).wf = true)) Try.underlying23 (show Try.prog.cellsOf 22 = _ by kernel_rfl) (fun h => opn_L22 h) h
theorem opn_S25 {H : Type} {enc : TypeId × Value → H} {w : World} {held : Bool} {fuel : Nat} {cs : List Value} {x : DataW H × List MemPlace} (h : DataW.trod enc Try.prog w 0 (fun _ => true) held fuel 25 cs = some x) :
    ∃ y : S25, k25.K w y cs ∧ y.f0.size ≤ maxLen ∧ (y.f1.length ≤ maxLen ∧ ∀ y0 ∈ y.f1, (Lit.int .i64 y0).wf = true) ∧ (y.f2.length ≤ maxLen ∧ ∀ y0 ∈ y.f2, (Lit.int .i64 y0).wf = true) ∧ (Lit.int .i64 y.f3).wf = true ∧ (Lit.int .i64 y.f4).wf = true ∧ (y.f5.length ≤ maxLen ∧ ∀ y0 ∈ y.f5, (y0.length ≤ maxLen ∧ ∀ y1 ∈ y0, (Lit.int .i64 y1).wf = true)) := by
  obtain ⟨xs, n, _, _, hl, hlen, hf⟩ := DataW.trod_struct Try.underlying25 h; rw [show Try.prog.cellsOf 25 = 6 from by kernel_rfl] at hl; obtain ⟨c0, t0, rfl, hl0⟩ := len_cons hl; obtain ⟨c1, t1, rfl, hl1⟩ := len_cons hl0; obtain ⟨c2, t2, rfl, hl2⟩ := len_cons hl1; obtain ⟨c3, t3, rfl, hl3⟩ := len_cons hl2; obtain ⟨c4, t4, rfl, hl4⟩ := len_cons hl3; obtain ⟨c5, t5, rfl, hl5⟩ := len_cons hl4; obtain rfl := List.eq_nil_of_length_eq_zero hl5; have h0 := hf 0 _ rfl; rw [List.getElem?_eq_getElem (show 0 < xs.length by rw [hlen]; decide)] at h0; obtain ⟨y0, k0, w0⟩ := (opn_string Try.underlying9) (show DataW.trod enc Try.prog w 0 (fun _ => true) held n 9 [c0] = some _ from by simpa [show Try.prog.cellsOf 9 = 1 from by kernel_rfl] using h0); have h1 := hf 1 _ rfl; rw [List.getElem?_eq_getElem (show 1 < xs.length by rw [hlen]; decide)] at h1; obtain ⟨y1, k1, w1⟩ := opn_L22 (show DataW.trod enc Try.prog w 0 (fun _ => true) held n 22 [c1] = some _ from by simpa [show Try.prog.cellsOf 22 = 1 from by kernel_rfl] using h1); have h2 := hf 2 _ rfl; rw [List.getElem?_eq_getElem (show 2 < xs.length by rw [hlen]; decide)] at h2; obtain ⟨y2, k2, w2⟩ := opn_L22 (show DataW.trod enc Try.prog w 0 (fun _ => true) held n 22 [c2] = some _ from by simpa [show Try.prog.cellsOf 22 = 1 from by kernel_rfl] using h2); have h3 := hf 3 _ rfl; rw [List.getElem?_eq_getElem (show 3 < xs.length by rw [hlen]; decide)] at h3; obtain ⟨y3, k3, w3⟩ := (opn_int Try.underlying2) (show DataW.trod enc Try.prog w 0 (fun _ => true) held n 2 [c3] = some _ from by simpa [show Try.prog.cellsOf 2 = 1 from by kernel_rfl] using h3); have h4 := hf 4 _ rfl; rw [List.getElem?_eq_getElem (show 4 < xs.length by rw [hlen]; decide)] at h4; obtain ⟨y4, k4, w4⟩ := (opn_int Try.underlying2) (show DataW.trod enc Try.prog w 0 (fun _ => true) held n 2 [c4] = some _ from by simpa [show Try.prog.cellsOf 2 = 1 from by kernel_rfl] using h4); have h5 := hf 5 _ rfl; rw [List.getElem?_eq_getElem (show 5 < xs.length by rw [hlen]; decide)] at h5; obtain ⟨y5, k5, w5⟩ := opn_L23 (show DataW.trod enc Try.prog w 0 (fun _ => true) held n 23 [c5] = some _ from by simpa [show Try.prog.cellsOf 23 = 1 from by kernel_rfl] using h5); exact ⟨⟨y0, y1, y2, y3, y4, y5⟩, ⟨[c0], [c1, c2, c3, c4, c5], rfl, k0, ⟨[c1], [c2, c3, c4, c5], rfl, k1, ⟨[c2], [c3, c4, c5], rfl, k2, ⟨[c3], [c4, c5], rfl, k3, ⟨[c4], [c5], rfl, k4, k5⟩⟩⟩⟩⟩, w0, w1, w2, w3, w4, w5⟩
theorem opn_S59 {H : Type} {enc : TypeId × Value → H} {w : World} {held : Bool} {fuel : Nat} {cs : List Value} {x : DataW H × List MemPlace} (h : DataW.trod enc Try.prog w 0 (fun _ => true) held fuel 59 cs = some x) :
    ∃ y : S59, k59.K w y cs ∧ (Lit.int .i64 y.f0).wf = true ∧ (Lit.int .i64 y.f1).wf = true ∧ (Lit.int .i64 y.f2).wf = true ∧ (Lit.int .i64 y.f3).wf = true ∧ (Lit.int .i64 y.f4).wf = true ∧ (y.f5.length ≤ maxLen ∧ ∀ y0 ∈ y.f5, (y0.length ≤ maxLen ∧ ∀ y1 ∈ y0, (Lit.int .i64 y1).wf = true)) ∧ (Lit.int .i64 y.f6).wf = true := by
  obtain ⟨xs, n, _, _, hl, hlen, hf⟩ := DataW.trod_struct Try.underlying59 h; rw [show Try.prog.cellsOf 59 = 7 from by kernel_rfl] at hl; obtain ⟨c0, t0, rfl, hl0⟩ := len_cons hl; obtain ⟨c1, t1, rfl, hl1⟩ := len_cons hl0; obtain ⟨c2, t2, rfl, hl2⟩ := len_cons hl1; obtain ⟨c3, t3, rfl, hl3⟩ := len_cons hl2; obtain ⟨c4, t4, rfl, hl4⟩ := len_cons hl3; obtain ⟨c5, t5, rfl, hl5⟩ := len_cons hl4; obtain ⟨c6, t6, rfl, hl6⟩ := len_cons hl5; obtain rfl := List.eq_nil_of_length_eq_zero hl6; have h0 := hf 0 _ rfl; rw [List.getElem?_eq_getElem (show 0 < xs.length by rw [hlen]; decide)] at h0; obtain ⟨y0, k0, w0⟩ := (opn_int Try.underlying2) (show DataW.trod enc Try.prog w 0 (fun _ => true) held n 2 [c0] = some _ from by simpa [show Try.prog.cellsOf 2 = 1 from by kernel_rfl] using h0); have h1 := hf 1 _ rfl; rw [List.getElem?_eq_getElem (show 1 < xs.length by rw [hlen]; decide)] at h1; obtain ⟨y1, k1, w1⟩ := (opn_int Try.underlying2) (show DataW.trod enc Try.prog w 0 (fun _ => true) held n 2 [c1] = some _ from by simpa [show Try.prog.cellsOf 2 = 1 from by kernel_rfl] using h1); have h2 := hf 2 _ rfl; rw [List.getElem?_eq_getElem (show 2 < xs.length by rw [hlen]; decide)] at h2; obtain ⟨y2, k2, w2⟩ := (opn_int Try.underlying2) (show DataW.trod enc Try.prog w 0 (fun _ => true) held n 2 [c2] = some _ from by simpa [show Try.prog.cellsOf 2 = 1 from by kernel_rfl] using h2); have h3 := hf 3 _ rfl; rw [List.getElem?_eq_getElem (show 3 < xs.length by rw [hlen]; decide)] at h3; obtain ⟨y3, k3, w3⟩ := (opn_int Try.underlying2) (show DataW.trod enc Try.prog w 0 (fun _ => true) held n 2 [c3] = some _ from by simpa [show Try.prog.cellsOf 2 = 1 from by kernel_rfl] using h3); have h4 := hf 4 _ rfl; rw [List.getElem?_eq_getElem (show 4 < xs.length by rw [hlen]; decide)] at h4; obtain ⟨y4, k4, w4⟩ := (opn_int Try.underlying2) (show DataW.trod enc Try.prog w 0 (fun _ => true) held n 2 [c4] = some _ from by simpa [show Try.prog.cellsOf 2 = 1 from by kernel_rfl] using h4); have h5 := hf 5 _ rfl; rw [List.getElem?_eq_getElem (show 5 < xs.length by rw [hlen]; decide)] at h5; obtain ⟨y5, k5, w5⟩ := opn_L23 (show DataW.trod enc Try.prog w 0 (fun _ => true) held n 23 [c5] = some _ from by simpa [show Try.prog.cellsOf 23 = 1 from by kernel_rfl] using h5); have h6 := hf 6 _ rfl; rw [List.getElem?_eq_getElem (show 6 < xs.length by rw [hlen]; decide)] at h6; obtain ⟨y6, k6, w6⟩ := (opn_int Try.underlying2) (show DataW.trod enc Try.prog w 0 (fun _ => true) held n 2 [c6] = some _ from by simpa [show Try.prog.cellsOf 2 = 1 from by kernel_rfl] using h6); exact ⟨⟨y0, y1, y2, y3, y4, y5, y6⟩, ⟨[c0], [c1, c2, c3, c4, c5, c6], rfl, k0, ⟨[c1], [c2, c3, c4, c5, c6], rfl, k1, ⟨[c2], [c3, c4, c5, c6], rfl, k2, ⟨[c3], [c4, c5, c6], rfl, k3, ⟨[c4], [c5, c6], rfl, k4, ⟨[c5], [c6], rfl, k5, k6⟩⟩⟩⟩⟩⟩, w0, w1, w2, w3, w4, w5, w6⟩
end Go.Proofs.Ytinlejhffokbaaa.P
end

section
namespace Go.Proofs.Ytinlejhffokbaaa.P
open Go.RowKit Go.Proofs.Ytinlejhffokbaaa.P Go.Proofs.YtinlejhffokbaaaW.PrintWords Go.Proofs.YtinlejhffokbaaaW.PrintLast Go.Proofs.YtinlejhffokbaaaW.PrintMore
set_option linter.unusedVariables false
set_option linter.unusedSimpArgs false
set_option maxHeartbeats 16000000
set_option maxRecDepth 100000
theorem Ev.succ {α : Type} {g : Nat → Option α} {r : α} (h : Ev (fun k => g (k + 1)) r) : Ev g r := Ev.step (f := fun k => g (k + 1)) (fun _ => rfl) h
theorem Ev.ite_pos {α : Type} {c : Prop} [Decidable c] {f g : Nat → Option α} {r : α} (hc : c) (h : Ev f r) : Ev (fun k => if c then f k else g k) r := Ev.congr (fun _ => if_pos hc) h
theorem Ev.ite_neg {α : Type} {c : Prop} [Decidable c] {f g : Nat → Option α} {r : α} (hc : ¬ c) (h : Ev g r) : Ev (fun k => if c then f k else g k) r := Ev.congr (fun _ => if_neg hc) h
theorem Ev.bindc {α β : Type} {o : Option α} {f : Nat → α → Option β} {a : α} {r : β} (ho : o = some a) (h : Ev (fun k => f k a) r) : Ev (fun k => o.bind (f k)) r := Ev.congr (fun _ => by rw [ho]; rfl) h
theorem Ev.both {α : Type} {g : Nat → Option α} {r q : α} (h : Ev g r) (h' : Ev g q) : r = q := by
  obtain ⟨a, ha⟩ := h; obtain ⟨b, hb⟩ := h'; have h1 := ha (max a b) (Nat.le_max_left _ _); have h2 := hb (max a b) (Nat.le_max_right _ _); rw [h1] at h2; exact Option.some.inj h2
theorem Ev.cast {α : Type} {g : Nat → Option α} {r q : α} (h : Ev g r) (e : r = q) : Ev g q := e ▸ h
theorem Ev.out {α : Type} {g : Nat → Option α} {r : α} (h : Ev g r) : ∃ k, g k = some r := h.rounds

theorem w64 {x : Int} (h0 : -9223372036854775808 ≤ x) (h1 : x ≤ 9223372036854775807) : wrap64 x = x := by unfold wrap64; omega
theorem mx_eq (a b : Int) : mx a b = max a b := by unfold mx; split <;> omega
theorem set_at {l : List Int} {i : Nat} {v : Int} {m : List Int} (h : i < l.length) (e : l.take i = m) : (l.set i v).take (i + 1) = m ++ [v] := by
  rw [List.take_succ_eq_append_getElem (by simpa using h)]
  simp [List.take_set_of_le, e]
theorem rd_at {l : List Int} {i : Nat} (h : i < l.length) : rd l (i : Int) = l[i] := by simp [rd, h]

theorem toInt64S_l0 (l : List Int) (hl : l.length ≤ 9223372036854775807) : ∀ (d i : Nat) (m : List Int), l.length - i = d → i ≤ l.length → m.length = l.length → m.take i = l.take i → Ev (fun k => laws_toInt64S.l0 k l m i) l := by
  intro d
  induction d with
  | zero =>
    intro i m hd hi hm ht
    have : i = l.length := by omega
    subst this; refine Ev.succ ?_; simp only [laws_toInt64S.l0]; refine Ev.ite_neg (by omega) ?_; rw [List.take_of_length_le (by omega), List.take_of_length_le (Nat.le_refl _)] at ht; rw [ht]; exact Ev.now _
  | succ d ih =>
    intro i m hd hi hm ht; refine Ev.succ ?_; simp only [laws_toInt64S.l0]; refine Ev.ite_pos (by omega) ?_; refine Ev.ite_pos (by omega) ?_; refine Ev.ite_pos (by omega) ?_; rw [w64 (x := (i : Int) + 1) (by omega) (by omega), rd_at (show i < l.length by omega), Int.toNat_natCast]
    have := ih (i + 1) (m.set i l[i]) (by omega) (by omega) (by simpa using hm) (by
      rw [set_at (by omega) ht, ← List.take_succ_eq_append_getElem (by omega)])
    simpa using this
theorem toInt64S_ev (l : List Int) (h : l.length ≤ 35184372088832) : Ev (fun k => laws_toInt64S.f k l) l := by
  unfold laws_toInt64S.f; refine Ev.ite_pos (by omega) ?_; refine Ev.ite_pos (by omega) ?_; exact toInt64S_l0 l (by omega) l.length 0 _ (by omega) (by omega) (by simp) (by simp)

theorem eqInt64S_l0 (a b : List Int) (hl : a.length ≤ 9223372036854775807) (hab : a.length = b.length) : ∀ (d i : Nat), a.length - i = d → i ≤ a.length → a.take i = b.take i → Ev (fun k => laws_eqInt64S.l0 k a b i) (decide (a = b)) := by
  intro d
  induction d with
  | zero =>
    intro i hd hi ht; refine Ev.succ ?_; simp only [laws_eqInt64S.l0]; refine Ev.ite_neg (by omega) ?_; rw [List.take_of_length_le (by omega), List.take_of_length_le (by omega)] at ht
    simpa [ht] using Ev.now true
  | succ d ih =>
    intro i hd hi ht; refine Ev.succ ?_; simp only [laws_eqInt64S.l0]; refine Ev.ite_pos (by omega) ?_; refine Ev.ite_pos (by omega) ?_; refine Ev.ite_pos (by omega) ?_
    by_cases he : rd a i = rd b i
    · refine Ev.ite_pos he ?_; rw [w64 (x := (i : Int) + 1) (by omega) (by omega)]; rw [rd_at (show i < a.length by omega), rd_at (show i < b.length by omega)] at he
      have := ih (i + 1) (by omega) (by omega) (by
        rw [List.take_succ_eq_append_getElem (by omega), List.take_succ_eq_append_getElem (by omega), ht, he])
      simpa using this
    · refine Ev.ite_neg he ?_
      have : ¬ a = b := fun e => he (by rw [e])
      simpa [this] using Ev.now false
theorem eqInt64S_ev (a b : List Int) (hl : a.length ≤ 9223372036854775807) : Ev (fun k => laws_eqInt64S.f k a b) (decide (a = b)) := by
  unfold laws_eqInt64S.f
  by_cases h : a.length = b.length
  · refine Ev.ite_pos (by omega) ?_; exact eqInt64S_l0 a b hl h a.length 0 (by omega) (by omega) (by simp)
  · refine Ev.ite_neg (by omega) ?_
    have : ¬ a = b := fun e => h (by rw [e])
    simpa [this] using Ev.now false
theorem eqInt64S_self (a : List Int) (hl : a.length ≤ 9223372036854775807) : Ev (fun k => laws_eqInt64S.f k a a) true := by simpa using eqInt64S_ev a a hl

def marks : Nat → Int → List Int
  | 0, _ => []
  | n + 1, v => v :: marks n (v + 1)
theorem marks_length : ∀ n v, (marks n v).length = n
  | 0, _ => rfl
  | n + 1, v => by simp [marks, marks_length n]
theorem marks_get : ∀ n v i, i < n → (marks n v)[i]? = some (v + i)
  | 0, _, i, h => by omega
  | n + 1, v, 0, _ => by simp [marks]
  | n + 1, v, i + 1, h => by
    simp only [marks, List.getElem?_cons_succ]; rw [marks_get n (v + 1) i (by omega)]
    congr 1
    omega
theorem markInt64S_l0 (n : Nat) (v : Int) (hn : n ≤ 4611686018427387904) (h0 : 0 ≤ v) (hv : v ≤ 4611686018427387903) : ∀ (d i : Nat) (l : List Int), n - i = d → i ≤ n → l.length = n → (∀ j, j < i → l[j]? = some (v + j)) →
    Ev (fun k => laws_markInt64S.l0 k l (v + i) i) (v + n, marks n v) := by
  intro d
  induction d with
  | zero =>
    intro i l hd hi hl hj
    have : i = n := by omega
    subst this; refine Ev.succ ?_; simp only [laws_markInt64S.l0]; refine Ev.ite_neg (by omega) ?_
    have : l = marks i v := by
      refine List.ext_getElem? fun j => ?_
      rcases Nat.lt_or_ge j i with h | h
      · rw [hj j h, marks_get i v j h]
      · rw [List.getElem?_eq_none (by omega), List.getElem?_eq_none (by rw [marks_length]; omega)]
    rw [this]; exact Ev.now _
  | succ d ih =>
    intro i l hd hi hl hj; refine Ev.succ ?_; simp only [laws_markInt64S.l0]; refine Ev.ite_pos (by omega) ?_; refine Ev.ite_pos (by omega) ?_; rw [w64 (x := (i : Int) + 1) (by omega) (by omega), w64 (x := v + (i : Int) + 1) (by omega) (by omega), Int.toNat_natCast]
    have := ih (i + 1) (l.set i (v + i)) (by omega) (by omega) (by simpa using hl) (fun j hj' => by
      rcases Nat.lt_or_ge j i with h | h
      · rw [List.getElem?_set_ne (by omega), hj j h]
      · have : j = i := by omega
        subst this
        rw [List.getElem?_set_self (by omega)])
    simpa [Int.add_assoc] using this
theorem markInt64S_ev (l : List Int) (v : Int) (hn : l.length ≤ 4611686018427387904) (h0 : 0 ≤ v) (hv : v ≤ 4611686018427387903) : Ev (fun k => laws_markInt64S.f k l v) (v + l.length, marks l.length v) := by
  unfold laws_markInt64S.f; have := markInt64S_l0 l.length v hn h0 hv l.length 0 l (by omega) (by omega) rfl (fun j hj => by omega)
  simpa using this
theorem heldInt64S_l0 (n : Nat) (v : Int) (hn : n ≤ 4611686018427387904) (h0 : 0 ≤ v) (hv : v ≤ 4611686018427387903) : ∀ (d i : Nat), n - i = d → i ≤ n →
    Ev (fun k => laws_heldInt64S.l0 k (marks n v) (v + i) i) (v + n) := by
  intro d
  induction d with
  | zero =>
    intro i hd hi
    have : i = n := by omega
    subst this; refine Ev.succ ?_; simp only [laws_heldInt64S.l0]; refine Ev.ite_neg (by rw [marks_length]; omega) ?_; exact Ev.now _
  | succ d ih =>
    intro i hd hi; refine Ev.succ ?_; simp only [laws_heldInt64S.l0]; refine Ev.ite_pos (by rw [marks_length]; omega) ?_; refine Ev.ite_pos (by omega) ?_
    refine Ev.ite_pos (by
      have h := marks_get n v i (by omega)
      simp only [rd, Int.toNat_natCast, List.getD_eq_getElem?_getD, h, Option.getD_some]) ?_
    rw [w64 (x := (i : Int) + 1) (by omega) (by omega), w64 (x := v + (i : Int) + 1) (by omega) (by omega)]; have := ih (i + 1) (by omega) (by omega)
    simpa [Int.add_assoc] using this
theorem heldInt64S_ev (n : Nat) (v : Int) (hn : n ≤ 4611686018427387904) (h0 : 0 ≤ v) (hv : v ≤ 4611686018427387903) : Ev (fun k => laws_heldInt64S.f k (marks n v) v) (v + n) := by
  unfold laws_heldInt64S.f; have := heldInt64S_l0 n v hn h0 hv n 0 (by omega) (by omega)
  simpa using this
theorem rdL_at {f : List (List Int)} {i : Nat} (h : i < f.length) : rd_L1 f (i : Int) = f[i] := by simp [rd_L1, h]
theorem szInt64S_ge (l : List Int) (a : Int) (h0 : 0 ≤ a) (h1 : a ≤ 1048576) (hl : l.length ≤ 9223372036854775807) : ∃ t, laws_szInt64S.f l a = some t ∧ (t < 0 ∨ (0 ≤ t ∧ t ≤ a ∧ l.length ≤ 1048576)) := by
  unfold laws_szInt64S.f; rw [w64 (x := a - l.length) (by omega) (by omega)]
  by_cases h : a - (l.length : Int) < 0
  · exact ⟨-1, by rw [if_pos h], .inl (by omega)⟩
  · exact ⟨_, by rw [if_neg h], .inr (by omega)⟩
theorem szInt64SS_l0 (f : List (List Int)) (hf : f.length ≤ 9223372036854775807) (hr : ∀ y ∈ f, y.length ≤ 9223372036854775807) : ∀ (d i : Nat) (a : Int), f.length - i = d → 0 ≤ a → a ≤ 1048576 → (∀ j, j < i → j < f.length → (rd_L1 f j).length ≤ 1048576) →
    ∃ t, Ev (fun k => laws_szInt64SS.l0 k f a i) t ∧ (t < 0 ∨ (0 ≤ t ∧ t ≤ a ∧ ∀ j, j < f.length → (rd_L1 f j).length ≤ 1048576)) := by
  intro d
  induction d with
  | zero =>
    intro i a hd h0 h1 hj; refine ⟨a, Ev.succ ?_, .inr ⟨h0, Int.le_refl _, fun j h => hj j (by omega) h⟩⟩; simp only [laws_szInt64SS.l0]; exact Ev.ite_neg (by omega) (Ev.now _)
  | succ d ih =>
    intro i a hd h0 h1 hj
    have hi : i < f.length := by omega
    obtain ⟨t, ht, hc⟩ := szInt64S_ge (rd_L1 f i) a h0 h1 (by rw [rdL_at hi]; exact hr _ (List.getElem_mem hi))
    rcases hc with hc | ⟨c0, c1, c2⟩
    · refine ⟨-1, Ev.succ ?_, .inl (by omega)⟩; simp only [laws_szInt64SS.l0]; exact Ev.ite_pos (by omega) (Ev.ite_pos (by omega) (Ev.bindc ht (Ev.ite_pos hc (Ev.now _))))
    · obtain ⟨r, hr1, hr2⟩ := ih (i + 1) t (by omega) c0 (by omega) (fun j h1 h2 => by
        by_cases e : j = i
        · subst e; exact c2
        · exact hj j (by omega) h2)
      refine ⟨r, Ev.succ ?_, ?_⟩
      · simp only [laws_szInt64SS.l0]; rw [w64 (x := (i : Int) + 1) (by omega) (by omega)]; exact Ev.ite_pos (by omega) (Ev.ite_pos (by omega) (Ev.bindc ht (Ev.ite_neg (by omega) (by simpa using hr1))))
      · rcases hr2 with h | ⟨g0, g1, g2⟩
        · exact .inl h
        · exact .inr ⟨g0, by omega, g2⟩
theorem szInt64SS_ge (f : List (List Int)) (a : Int) (h0 : 0 ≤ a) (h1 : a ≤ 1048576) (hf : f.length ≤ 9223372036854775807) (hr : ∀ y ∈ f, y.length ≤ 9223372036854775807) :
    ∃ t, Ev (fun k => laws_szInt64SS.f k f a) t ∧ (t < 0 ∨ (0 ≤ t ∧ t ≤ a ∧ f.length ≤ 1048576 ∧ ∀ j, j < f.length → (rd_L1 f j).length ≤ 1048576)) := by
  unfold laws_szInt64SS.f; rw [w64 (x := a - f.length) (by omega) (by omega)]
  by_cases h : a - (f.length : Int) < 0
  · exact ⟨-1, Ev.ite_pos h (Ev.now _), .inl (by omega)⟩
  · obtain ⟨t, h2, h3⟩ := szInt64SS_l0 f hf hr f.length 0 (a - f.length) (by omega) (by omega) (by omega) (fun j h => by omega); refine ⟨t, Ev.ite_neg h (by simpa using h2), ?_⟩
    rcases h3 with h3 | ⟨g0, g1, g2⟩
    · exact .inl h3
    · exact .inr ⟨g0, by omega, by omega, g2⟩
theorem setL_at {l : List (List Int)} {i : Nat} {v : List Int} {m : List (List Int)} (h : i < l.length) (e : l.take i = m) : (l.set i v).take (i + 1) = m ++ [v] := by
  rw [List.take_succ_eq_append_getElem (by simpa using h)]
  simp [List.take_set_of_le, e]
theorem toInt64SS_l0 (l : List (List Int)) (hl : l.length ≤ 1048576) (hr : ∀ j, j < l.length → (rd_L1 l j).length ≤ 1048576) : ∀ (d i : Nat) (m : List (List Int)), l.length - i = d → i ≤ l.length → m.length = l.length → m.take i = l.take i → Ev (fun k => laws_toInt64SS.l0 k l m i) l := by
  intro d
  induction d with
  | zero =>
    intro i m hd hi hm ht
    have : i = l.length := by omega
    subst this; refine Ev.succ ?_; simp only [laws_toInt64SS.l0]; refine Ev.ite_neg (by omega) ?_; rw [List.take_of_length_le (by omega), List.take_of_length_le (Nat.le_refl _)] at ht; rw [ht]; exact Ev.now _
  | succ d ih =>
    intro i m hd hi hm ht
    have hi' : i < l.length := by omega
    refine Ev.succ ?_; simp only [laws_toInt64SS.l0]; refine Ev.ite_pos (by omega) (Ev.ite_pos (by omega) (Ev.bind (toInt64S_ev (rd_L1 l i) (by have := hr i hi'; omega)) (Ev.ite_pos (by omega) ?_))); rw [w64 (x := (i : Int) + 1) (by omega) (by omega), rdL_at hi', Int.toNat_natCast]
    have := ih (i + 1) (m.set i l[i]) (by omega) (by omega) (by simpa using hm) (by
      rw [setL_at (by omega) ht, ← List.take_succ_eq_append_getElem (by omega)])
    simpa using this
theorem toInt64SS_ev (l : List (List Int)) (h : l.length ≤ 1048576) (hr : ∀ j, j < l.length → (rd_L1 l j).length ≤ 1048576) : Ev (fun k => laws_toInt64SS.f k l) l := by
  unfold laws_toInt64SS.f; refine Ev.ite_pos (by omega) (Ev.ite_pos (by omega) ?_); exact toInt64SS_l0 l h hr l.length 0 _ (by omega) (by omega) (by simp) (by simp)
theorem eqInt64SS_l0 (l : List (List Int)) (hl : l.length ≤ 1048576) (hr : ∀ j, j < l.length → (rd_L1 l j).length ≤ 1048576) : ∀ (d i : Nat), l.length - i = d → Ev (fun k => laws_eqInt64SS.l0 k l l i) true := by
  intro d
  induction d with
  | zero =>
    intro i hd; refine Ev.succ ?_; simp only [laws_eqInt64SS.l0]; exact Ev.ite_neg (by omega) (Ev.now _)
  | succ d ih =>
    intro i hd; refine Ev.succ ?_; simp only [laws_eqInt64SS.l0]; rw [w64 (x := (i : Int) + 1) (by omega) (by omega)]; exact Ev.ite_pos (by omega) (Ev.ite_pos (by omega) (Ev.ite_pos (by omega) (Ev.bind (eqInt64S_self _ (by have := hr i (by omega); omega)) (Ev.ite_pos rfl (by simpa using ih (i + 1) (by omega))))))
theorem eqInt64SS_self (l : List (List Int)) (hl : l.length ≤ 1048576) (hr : ∀ j, j < l.length → (rd_L1 l j).length ≤ 1048576) : Ev (fun k => laws_eqInt64SS.f k l l) true := by
  unfold laws_eqInt64SS.f; exact Ev.ite_pos rfl (by simpa using eqInt64SS_l0 l hl hr l.length 0 (by omega))
theorem szAsk_ge (lg st en lo hi : Int) (q : List (List Int)) (rp z : Int) (z0 : 0 ≤ z) (z1 : z ≤ 1048576) (hq : q.length ≤ maxLen) (hr : ∀ y ∈ q, y.length ≤ maxLen) : ∃ t, Ev (fun k => laws_szAsk.f k lg st en lo hi q rp z) t ∧ (t < 0 ∨ (0 ≤ t ∧ t ≤ 1048576 ∧ q.length ≤ 1048576 ∧ ∀ j, j < q.length → (rd_L1 q j).length ≤ 1048576)) := by
  obtain ⟨y, ey, cy⟩ := szInt64SS_ge q z z0 z1 hq hr
  rcases cy with cy | ⟨y0, y1, hR, hRj⟩
  · refine ⟨-1, ?_, .inl (by omega)⟩; unfold laws_szAsk.f; exact Ev.bind ey (Ev.ite_pos cy (Ev.now _))
  · refine ⟨y, ?_, .inr ⟨y0, by omega, hR, hRj⟩⟩; unfold laws_szAsk.f; exact Ev.bind ey (Ev.ite_neg (by omega) (Ev.now _))
theorem toAsk_ev (lg st en lo hi : Int) (q : List (List Int)) (rp : Int) (c2 : q.length ≤ 1048576) (c3 : ∀ j, j < q.length → (rd_L1 q j).length ≤ 1048576) : Ev (fun k => laws_toAsk.f k lg st en lo hi q rp) (lg, st, en, lo, hi, q, rp) := by
  unfold laws_toAsk.f; exact Ev.bind (toInt64SS_ev q c2 c3) (Ev.now _)
theorem eqAsk_self (lg st en lo hi : Int) (q : List (List Int)) (rp : Int) (c2 : q.length ≤ 1048576) (c3 : ∀ j, j < q.length → (rd_L1 q j).length ≤ 1048576) : Ev (fun k => laws_eqAsk.f k lg st en lo hi q rp lg st en lo hi q rp) true := by
  unfold laws_eqAsk.f; exact Ev.ite_pos rfl (Ev.ite_pos rfl (Ev.ite_pos rfl (Ev.ite_pos rfl (Ev.ite_pos rfl (Ev.bind (eqInt64SS_self q c2 c3) (Ev.ite_pos rfl (Ev.ite_pos rfl (Ev.now _))))))))
theorem Ev.and {α : Type} {g : Nat → Option α} {r : α} {P : Nat → Prop} (h : Ev g r) (h' : ∃ K, ∀ k, K ≤ k → P k) : ∃ K, ∀ k, K ≤ k → (g k = some r ∧ P k) := by
  obtain ⟨a, ha⟩ := h; obtain ⟨b, hb⟩ := h'; exact ⟨max a b, fun k hk => ⟨ha k (Nat.le_trans (Nat.le_max_left _ _) hk), hb k (Nat.le_trans (Nat.le_max_right _ _) hk)⟩⟩
theorem impl_abs_eq (a : Int) (h0 : -9223372036854775807 ≤ a) (h1 : a ≤ 9223372036854775807) : impl_abs.f a = some (max a (-a)) := by
  unfold impl_abs.f; rw [w64 (x := -a) (by omega) (by omega), mx_eq]
theorem spec_l00Max_eq (a b : Int) : spec_l00Max.f a b = some (max a b) := by
  unfold spec_l00Max.f
  by_cases h : a > b
  · rw [if_pos h, Int.max_def, if_neg (by omega)]
  · rw [if_neg h, Int.max_def, if_pos (by omega)]
theorem all_drop_at {l : List Int} {i : Nat} (q : Int → Bool) (h : i < l.length) : (l.drop i).all q = (q (rd l i) && (l.drop (i + 1)).all q) := by
  rw [List.drop_eq_getElem_cons h, List.all_cons, rd_at h]
def inP (n : Int) : Bool := decide (-12 ≤ n) && decide (n ≤ 23)
theorem spec_l00In_eq (n a b : Int) : spec_l00In.f n a b = some (decide (a ≤ n) && decide (n ≤ b)) := by
  unfold spec_l00In.f
  by_cases h : n ≥ a
  · have : a ≤ n := h
    simp [this]
  · have : ¬ a ≤ n := h
    simp [this]
theorem spec_l03Pitch_eq (n : Int) : spec_l03Pitch.f n = some (inP n) := by
  unfold spec_l03Pitch.f; rw [spec_l00In_eq]; rfl
def pitchesB (l : List Int) : Bool := decide (l.length ≤ 64) && l.all inP
theorem spec_l05Pitches_l0 (l : List Int) (hl : l.length ≤ 9223372036854775807) : ∀ (d i : Nat), l.length - i = d → i ≤ l.length → Ev (fun k => spec_l05Pitches.l0 k l i) ((l.drop i).all inP && decide (l.length ≤ 64)) := by
  intro d
  induction d with
  | zero =>
    intro i hd hi; refine Ev.succ ?_; simp only [spec_l05Pitches.l0]; refine Ev.ite_neg (by omega) ?_; rw [List.drop_of_length_le (by omega)]; refine Ev.cast (Ev.now _) ?_
    simp
    omega
  | succ d ih =>
    intro i hd hi; refine Ev.succ ?_; simp only [spec_l05Pitches.l0]; refine Ev.ite_pos (by omega) ?_; refine Ev.ite_pos (by omega) ?_; refine Ev.bindc (spec_l03Pitch_eq _) ?_; rw [all_drop_at inP (by omega)]
    cases hq : inP (rd l i) with
    | true =>
      refine Ev.ite_pos rfl ?_; rw [w64 (x := (i : Int) + 1) (by omega) (by omega)]
      simpa using ih (i + 1) (by omega) (by omega)
    | false =>
      refine Ev.ite_neg (by decide) ?_
      simpa using Ev.now false
theorem spec_l05Pitches_ev (l : List Int) (hl : l.length ≤ 9223372036854775807) : Ev (fun k => spec_l05Pitches.f k l) (pitchesB l) := by
  unfold spec_l05Pitches.f pitchesB; have := spec_l05Pitches_l0 l hl l.length 0 (by omega) (by omega); rw [Bool.and_comm]
  simpa using this
theorem impl_pitchesOk_eq (l : List Int) : impl_pitchesOk.f l = some (pitchesB l) := by
  unfold impl_pitchesOk.f impl_allWithin.f pitchesB
  by_cases h : l.length ≤ 64
  · have h' : (l.length : Int) ≤ 64 := by omega
    simp only [h', h, if_true, decide_true, Bool.true_and]; rfl
  · have h' : ¬ (l.length : Int) ≤ 64 := by omega
    simp [h]
    omega
theorem pitchesB_len {l : List Int} (h : pitchesB l = true) : l.length ≤ 64 := by
  simp only [pitchesB, Bool.and_eq_true, decide_eq_true_eq] at h; exact h.1
theorem pitchesB_rd {l : List Int} (h : pitchesB l = true) {i : Int} (h0 : 0 ≤ i) (h1 : i < l.length) : -12 ≤ rd l i ∧ rd l i ≤ 23 := by
  simp only [pitchesB, Bool.and_eq_true, decide_eq_true_eq, List.all_eq_true] at h; obtain ⟨n, rfl⟩ := Int.eq_ofNat_of_zero_le h0; rw [rd_at (show n < l.length by omega)]; have := h.2 l[n] (List.getElem_mem _)
  simpa [inP] using this
def leapsM (l : List Int) : Nat → Nat → Int → Int
  | 0, _, acc => acc
  | d + 1, i, acc => leapsM l d (i + 1) (acc + max (rd l i - rd l ((i : Int) - 1)) (rd l ((i : Int) - 1) - rd l i))
theorem spec_l15Leaps_l0 (l : List Int) (hp : pitchesB l = true) : ∀ (d i : Nat) (acc : Int), l.length - i = d → 1 ≤ i → 0 ≤ acc → acc ≤ 35 * i → Ev (fun k => spec_l15Leaps.l0 k l acc i) (leapsM l d i acc) := by
  intro d; have hl := pitchesB_len hp
  induction d with
  | zero =>
    intro i acc hd hi h0 h1; refine Ev.succ ?_; simp only [spec_l15Leaps.l0]; refine Ev.ite_neg (by omega) ?_; exact Ev.now _
  | succ d ih =>
    intro i acc hd hi h0 h1; have b1 := pitchesB_rd hp (i := (i : Int)) (by omega) (by omega); have b2 := pitchesB_rd hp (i := (i : Int) - 1) (by omega) (by omega); refine Ev.succ ?_; simp only [spec_l15Leaps.l0]; refine Ev.ite_pos (by omega) ?_; refine Ev.ite_pos (by omega) ?_; rw [w64 (x := (i : Int) - 1) (by omega) (by omega), w64 (x := (i : Int) + 1) (by omega) (by omega)]; refine Ev.ite_pos (by omega) ?_; refine Ev.ite_pos (by omega) ?_; rw [w64 (x := rd l (i : Int) - rd l ((i : Int) - 1)) (by omega) (by omega), w64 (x := rd l ((i : Int) - 1) - rd l (i : Int)) (by omega) (by omega)]; refine Ev.bindc (spec_l00Max_eq _ _) ?_; rw [w64 (x := acc + _) (by omega) (by omega)]; have := ih (i + 1) (acc + max (rd l i - rd l ((i : Int) - 1)) (rd l ((i : Int) - 1) - rd l i)) (by omega) (by omega) (by omega) (by omega)
    simpa [leapsM] using this
theorem impl_leapsOf_l0 (l : List Int) (hp : pitchesB l = true) : ∀ (d i : Nat) (acc : Int), l.length - i = d → 1 ≤ i → 0 ≤ acc → acc ≤ 35 * i → Ev (fun k => impl_leapsOf.l0 k l acc i) (leapsM l d i acc) := by
  intro d; have hl := pitchesB_len hp
  induction d with
  | zero =>
    intro i acc hd hi h0 h1; refine Ev.succ ?_; simp only [impl_leapsOf.l0]; refine Ev.ite_neg (by omega) ?_; exact Ev.now _
  | succ d ih =>
    intro i acc hd hi h0 h1; have b1 := pitchesB_rd hp (i := (i : Int)) (by omega) (by omega); have b2 := pitchesB_rd hp (i := (i : Int) - 1) (by omega) (by omega); refine Ev.succ ?_; simp only [impl_leapsOf.l0]; refine Ev.ite_pos (by omega) ?_; refine Ev.ite_pos (by omega) ?_; rw [w64 (x := (i : Int) - 1) (by omega) (by omega), w64 (x := (i : Int) + 1) (by omega) (by omega)]; refine Ev.ite_pos (by omega) ?_; refine Ev.ite_pos (by omega) ?_; rw [w64 (x := rd l (i : Int) - rd l ((i : Int) - 1)) (by omega) (by omega)]; refine Ev.bindc (impl_abs_eq _ (by omega) (by omega)) ?_
    have e : max (rd l (i : Int) - rd l ((i : Int) - 1)) (-(rd l (i : Int) - rd l ((i : Int) - 1))) = max (rd l i - rd l ((i : Int) - 1)) (rd l ((i : Int) - 1) - rd l i) := by omega
    rw [e, w64 (x := acc + _) (by omega) (by omega)]; have := ih (i + 1) (acc + max (rd l i - rd l ((i : Int) - 1)) (rd l ((i : Int) - 1) - rd l i)) (by omega) (by omega) (by omega) (by omega)
    simpa [leapsM] using this
theorem impl_leapsOf_ev (l : List Int) (hp : pitchesB l = true) : Ev (fun k => impl_leapsOf.f k l) (leapsM l (l.length - 1) 1 0) := by
  unfold impl_leapsOf.f
  simpa using impl_leapsOf_l0 l hp (l.length - 1) 1 0 (by omega) (by omega) (by omega) (by omega)
theorem spec_l15Leaps_ev (l : List Int) (hp : pitchesB l = true) : Ev (fun k => spec_l15Leaps.f k l) (leapsM l (l.length - 1) 1 0) := by
  unfold spec_l15Leaps.f
  simpa using spec_l15Leaps_l0 l hp (l.length - 1) 1 0 (by omega) (by omega) (by omega) (by omega)
theorem markInt64SS_any : ∀ (m i : Nat) (L : List (List Int)) (v : Int), L.length - i = m → (∀ j, i ≤ j → j < L.length → (rd_L1 L j).length ≤ 1048576) → L.length ≤ 1048576 → 0 ≤ v → v + 1048576 * m ≤ 4611686018427387903 →
    ∃ v' M, (0 ≤ v' ∧ v' ≤ v + 1048576 * m) ∧ Ev (fun k => laws_markInt64SS.l0 k L v i) (v', M) := by
  intro m
  induction m with
  | zero =>
    intro i L v hm _ hL h0 _; refine ⟨v, L, by omega, Ev.succ ?_⟩; simp only [laws_markInt64SS.l0]; exact Ev.ite_neg (by omega) (Ev.now _)
  | succ m ih =>
    intro i L v hm hr hL h0 hv
    have hi : i < L.length := by omega
    have hl := hr i (Nat.le_refl _) hi; obtain ⟨v', M, h1, e⟩ := ih (i + 1) (L.set i (marks (rd_L1 L i).length v)) (v + (rd_L1 L i).length) (by simp; omega)
      (fun j h1 h2 => by
        have h2' : j < L.length := by simpa using h2
        rw [show rd_L1 (L.set i (marks (rd_L1 L i).length v)) (j : Int) = rd_L1 L j by simp [rd_L1, List.getElem?_set_ne (show i ≠ j by omega)]]
        exact hr j (by omega) h2')
      (by simpa using hL) (by omega) (by omega)
    refine ⟨v', M, by omega, Ev.succ ?_⟩; simp only [laws_markInt64SS.l0]; rw [w64 (x := (i : Int) + 1) (by omega) (by omega)]; refine Ev.ite_pos (by omega) (Ev.ite_pos (by omega) (Ev.bind (markInt64S_ev _ _ (by omega) h0 (by omega)) ?_))
    simpa using e
theorem markInt64SS_ev (L : List (List Int)) (v : Int) (hr : ∀ j, j < L.length → (rd_L1 L j).length ≤ 1048576) (hL : L.length ≤ 1048576) (h0 : 0 ≤ v) (hv : v ≤ 1125899906842624) : ∃ v' M, (0 ≤ v' ∧ v' ≤ v + 1048576 * L.length) ∧ Ev (fun k => laws_markInt64SS.f k L v) (v', M) := by
  unfold laws_markInt64SS.f; exact markInt64SS_any L.length 0 L v (by omega) (fun j _ h => hr j h) hL h0 (by omega)
theorem markAsk_ev (i0 i1 i2 i3 i4 : Int) (q : List (List Int)) (i6 v : Int) (hr : ∀ j, j < q.length → (rd_L1 q j).length ≤ 1048576) (hL : q.length ≤ 1048576) (h0 : 0 ≤ v) (hv : v ≤ 1125899906842624) : ∃ va, 0 ≤ va ∧ Ev (fun k => laws_markAsk.f k i0 i1 i2 i3 i4 q i6 v) va := by
  obtain ⟨v', M, ⟨h1, _⟩, h2⟩ := markInt64SS_ev q v hr hL h0 hv; exact ⟨v', h1, by unfold laws_markAsk.f; exact Ev.bind h2 (Ev.now _)⟩
def Fits (s : ByteArray) (u d : List Int) (f : List (List Int)) : Prop := s.size ≤ 1048576 ∧ u.length ≤ 1048576 ∧ d.length ≤ 1048576 ∧ f.length ≤ 1048576 ∧ ∀ j, j < f.length → (rd_L1 f j).length ≤ 1048576
theorem szRaga_ge (s : ByteArray) (u d : List Int) (st wk : Int) (f : List (List Int)) (a : Int) (h0 : 0 ≤ a) (h1 : a ≤ 1048576) (hs : s.size ≤ maxLen) (hu : u.length ≤ maxLen) (hd : d.length ≤ maxLen) (hf : f.length ≤ maxLen) (hr : ∀ y ∈ f, y.length ≤ maxLen) :
    ∃ t, Ev (fun k => laws_szRaga.f k s u d st wk f a) t ∧ (t < 0 ∨ (0 ≤ t ∧ t ≤ a ∧ Fits s u d f)) := by
  have e : maxLen ≤ 9223372036854775807 := by decide
  unfold laws_szRaga.f; rw [w64 (x := a - s.size) (by omega) (by omega)]
  by_cases h : a - (s.size : Int) < 0
  · exact ⟨-1, Ev.ite_pos h (Ev.now _), .inl (by omega)⟩
  obtain ⟨t1, e1, c1⟩ := szInt64S_ge u (a - s.size) (by omega) (by omega) (Nat.le_trans hu e)
  rcases c1 with c1 | ⟨a1, b1, d1⟩
  · exact ⟨-1, Ev.ite_neg h (Ev.bindc e1 (Ev.ite_pos c1 (Ev.now _))), .inl (by omega)⟩
  obtain ⟨t2, e2, c2⟩ := szInt64S_ge d t1 (by omega) (by omega) (Nat.le_trans hd e)
  rcases c2 with c2 | ⟨a2, b2, d2⟩
  · exact ⟨-1, Ev.ite_neg h (Ev.bindc e1 (Ev.ite_neg (by omega) (Ev.bindc e2 (Ev.ite_pos c2 (Ev.now _))))), .inl (by omega)⟩
  obtain ⟨t3, e3, c3⟩ := szInt64SS_ge f t2 (by omega) (by omega) (Nat.le_trans hf e) (fun y hy => Nat.le_trans (hr y hy) e)
  rcases c3 with c3 | ⟨a3, b3, d3, f3⟩
  · exact ⟨-1, Ev.ite_neg h (Ev.bindc e1 (Ev.ite_neg (by omega) (Ev.bindc e2 (Ev.ite_neg (by omega) (Ev.bind e3 (Ev.ite_pos c3 (Ev.now _))))))), .inl (by omega)⟩
  · exact ⟨t3, Ev.ite_neg h (Ev.bindc e1 (Ev.ite_neg (by omega) (Ev.bindc e2 (Ev.ite_neg (by omega) (Ev.bind e3 (Ev.ite_neg (by omega) (Ev.now _))))))), .inr ⟨a3, by omega, by omega, d1, d2, d3, f3⟩⟩
theorem toRaga_ev {s : ByteArray} {u d : List Int} {f : List (List Int)} (h : Fits s u d f) (st wk : Int) : Ev (fun k => laws_toRaga.f k s u d st wk f) (s, u, d, st, wk, f) := by
  unfold laws_toRaga.f; exact Ev.bind (toInt64S_ev u (by have := h.2.1; omega)) (Ev.bind (toInt64S_ev d (by have := h.2.2.1; omega)) (Ev.bind (toInt64SS_ev f h.2.2.2.1 h.2.2.2.2) (Ev.now _)))
theorem eqRaga_self {s : ByteArray} {u d : List Int} {f : List (List Int)} (h : Fits s u d f) (st wk : Int) : Ev (fun k => laws_eqRaga.f k s u d st wk f s u d st wk f) true := by
  unfold laws_eqRaga.f; exact Ev.ite_pos rfl (Ev.bind (eqInt64S_self u (by have := h.2.1; omega)) (Ev.ite_pos rfl (Ev.bind (eqInt64S_self d (by have := h.2.2.1; omega)) (Ev.ite_pos rfl (Ev.ite_pos rfl (Ev.ite_pos rfl (Ev.bind (eqInt64SS_self f h.2.2.2.1 h.2.2.2.2) (Ev.ite_pos rfl (Ev.now _)))))))))
theorem markRaga_le (s : ByteArray) (u d : List Int) (st wk : Int) (f : List (List Int)) (h : Fits s u d f) : ∃ v, (0 ≤ v ∧ v ≤ 2199023255552) ∧ Ev (fun k => laws_markRaga.f k s u d st wk f 1) v := by
  obtain ⟨h1, h2, h3, h4, h5⟩ := h; obtain ⟨v, M, hv, e⟩ := markInt64SS_ev f (1 + (u.length : Int) + (d.length : Int)) h5 h4 (by omega) (by omega); refine ⟨v, by omega, ?_⟩; unfold laws_markRaga.f; exact Ev.bind (markInt64S_ev u 1 (by omega) (by omega) (by omega)) (Ev.bind (markInt64S_ev d _ (by omega) (by omega) (by omega)) (Ev.bind e (Ev.now _)))
def inB (n a b : Int) : Bool := decide (a ≤ n) && decide (n ≤ b)
theorem impl_within_eq (n a b : Int) : impl_within.f n a b = some (decide (a ≤ n) && decide (n ≤ b)) := by
  unfold impl_within.f
  by_cases h : n ≥ a
  · have : a ≤ n := h
    simp [this]
  · have : ¬ a ≤ n := h
    simp [this]
theorem impl_pitchOk_eq (n : Int) : impl_pitchOk.f n = some (inP n) := by
  unfold impl_pitchOk.f; rw [impl_within_eq]; rfl
theorem impl_rangeOk_eq (a b : Int) : impl_rangeOk.f a b = some (inP a && inB b a 23) := by
  unfold impl_rangeOk.f; rw [impl_pitchOk_eq, impl_within_eq]; simp only [Option.bind_some]
  cases inP a with
  | true => rw [if_pos rfl]; rfl
  | false => rw [if_neg (by decide)]; rfl
def partB (l : List Int) : Bool := (decide (1 ≤ l.length) && decide (l.length ≤ 8)) && pitchesB l
def partsB (p : List (List Int)) : Nat → Nat → Bool
  | 0, _ => true
  | d + 1, i => partB (rd_L1 p i) && partsB p d (i + 1)
def askB (lo st en low hi : Int) (p : List (List Int)) (rp : Int) : Bool := inB lo 1 16 && (inP low && (inB hi low 23 && (inB st low hi && (inB en low hi && (inB rp 0 16 && (partsB p p.length 0 && decide (p.length ≤ 4)))))))
theorem spec_l15Ok_l0 (lo st en low hi : Int) (p : List (List Int)) (rp : Int) (hp : p.length ≤ 1048576) (hr : ∀ j, j < p.length → (rd_L1 p j).length ≤ 1048576) : ∀ (d i : Nat), p.length - i = d → Ev (fun k => spec_l15Ok.l0 k i lo st en low hi p rp) (partsB p d i && decide (p.length ≤ 4)) := by
  intro d
  induction d with
  | zero =>
    intro i hd; refine Ev.succ ?_; simp only [spec_l15Ok.l0]; refine Ev.ite_neg (by omega) (Ev.cast (Ev.now _) ?_)
    simp [partsB]
    omega
  | succ d ih =>
    intro i hd; have hl := hr i (by omega); refine Ev.succ ?_; simp only [spec_l15Ok.l0, partsB]; rw [w64 (x := (i : Int) + 1) (by omega) (by omega)]; refine Ev.ite_pos (by omega) (Ev.ite_pos (by omega) (Ev.bindc (spec_l00In_eq _ _ _) ?_))
    have e : (decide ((1 : Int) ≤ ((rd_L1 p i).length : Int)) && decide (((rd_L1 p i).length : Int) ≤ 8)) = (decide (1 ≤ (rd_L1 p i).length) && decide ((rd_L1 p i).length ≤ 8)) := by
      rw [Bool.eq_iff_iff]; simp only [Bool.and_eq_true, decide_eq_true_eq]
      omega
    rw [e]
    cases h1 : (decide (1 ≤ (rd_L1 p i).length) && decide ((rd_L1 p i).length ≤ 8)) with
    | false => exact Ev.ite_neg (by decide) (Ev.cast (Ev.now false) (by simp [partB, h1]))
    | true =>
      refine Ev.ite_pos rfl (Ev.bind (spec_l05Pitches_ev _ (by omega)) ?_)
      cases h2 : pitchesB (rd_L1 p i) with
      | false => exact Ev.ite_neg (by decide) (Ev.cast (Ev.now false) (by simp [partB, h2]))
      | true => exact Ev.ite_pos rfl (Ev.cast (by simpa using ih (i + 1) (by omega)) (by simp [partB, h1, h2]))
theorem spec_l15Ok_ev (lo st en low hi : Int) (p : List (List Int)) (rp : Int) (hp : p.length ≤ 1048576) (hr : ∀ j, j < p.length → (rd_L1 p j).length ≤ 1048576) : Ev (fun k => spec_l15Ok.f k lo st en low hi p rp) (askB lo st en low hi p rp) := by
  have jt : Ev (fun k => spec_l15Ok.j0 k true lo st en low hi p rp) false := by
    refine Ev.succ ?_; simp only [spec_l15Ok.j0]; exact Ev.ite_pos (by decide) (Ev.now _)
  unfold spec_l15Ok.f askB; refine Ev.bindc (spec_l00In_eq _ _ _) ?_; rw [show (decide (1 ≤ lo) && decide (lo ≤ 16)) = inB lo 1 16 from rfl]
  cases h1 : inB lo 1 16 with
  | false => exact Ev.ite_neg (by decide) jt
  | true =>
    refine Ev.ite_pos rfl (Ev.bindc (spec_l03Pitch_eq _) ?_)
    cases h2 : inP low with
    | false => exact Ev.ite_neg (by decide) jt
    | true =>
      refine Ev.ite_pos rfl (Ev.bindc (spec_l00In_eq _ _ _) ?_); rw [show (decide (low ≤ hi) && decide (hi ≤ 23)) = inB hi low 23 from rfl]
      cases h3 : inB hi low 23 with
      | false => exact Ev.ite_neg (by decide) jt
      | true =>
        refine Ev.ite_pos rfl (Ev.bindc (spec_l00In_eq _ _ _) ?_); rw [show (decide (low ≤ st) && decide (st ≤ hi)) = inB st low hi from rfl]
        cases h4 : inB st low hi with
        | false => exact Ev.ite_neg (by decide) jt
        | true =>
          refine Ev.ite_pos rfl (Ev.bindc (spec_l00In_eq _ _ _) ?_); rw [show (decide (low ≤ en) && decide (en ≤ hi)) = inB en low hi from rfl]
          cases h5 : inB en low hi with
          | false => exact Ev.ite_neg (by decide) jt
          | true =>
            refine Ev.ite_pos rfl (Ev.bindc (spec_l00In_eq _ _ _) ?_); rw [show (decide (0 ≤ rp) && decide (rp ≤ 16)) = inB rp 0 16 from rfl]
            cases h6 : inB rp 0 16 with
            | false => exact jt
            | true =>
              refine Ev.succ ?_; simp only [spec_l15Ok.j0]; exact Ev.ite_neg (by decide) (by simpa using spec_l15Ok_l0 lo st en low hi p rp hp hr p.length 0 (by omega))
theorem impl_ValidAsk_l0 (p : List (List Int)) (hp : p.length ≤ 1048576) : ∀ (d i : Nat), p.length - i = d → Ev (fun k => impl_ValidAsk.l0 k p (p.length : Int) i) (partsB p d i) := by
  intro d
  induction d with
  | zero =>
    intro i hd; refine Ev.succ ?_; simp only [impl_ValidAsk.l0]; exact Ev.ite_neg (by omega) (Ev.now _)
  | succ d ih =>
    intro i hd; refine Ev.succ ?_; simp only [impl_ValidAsk.l0, partsB]; rw [w64 (x := (i : Int) + 1) (by omega) (by omega)]; refine Ev.ite_pos (by omega) (Ev.ite_pos (by omega) (Ev.ite_pos (by omega) ?_))
    by_cases h1 : ((rd_L1 p i).length : Int) < 1
    · have e : ¬ 1 ≤ (rd_L1 p i).length := by omega
      exact Ev.ite_pos h1 (Ev.cast (Ev.now false) (by simp [partB, e]))
    · refine Ev.ite_neg h1 ?_
      by_cases h2 : ((rd_L1 p i).length : Int) > 8
      · have e : ¬ (rd_L1 p i).length ≤ 8 := by omega
        exact Ev.ite_pos h2 (Ev.cast (Ev.now false) (by simp [partB, e]))
      · refine Ev.ite_neg h2 (Ev.bindc (impl_pitchesOk_eq _) ?_)
        have e1 : 1 ≤ (rd_L1 p i).length := by omega
        have e2 : (rd_L1 p i).length ≤ 8 := by omega
        cases h3 : pitchesB (rd_L1 p i) with
        | false => exact Ev.ite_neg (by decide) (Ev.cast (Ev.now false) (by simp [partB, h3]))
        | true => exact Ev.ite_pos rfl (Ev.cast (by simpa using ih (i + 1) (by omega)) (by simp [partB, e1, e2, h3]))
theorem impl_ValidAsk_ev (lo st en low hi : Int) (p : List (List Int)) (rp : Int) (hp : p.length ≤ 1048576) : Ev (fun k => impl_ValidAsk.f k lo st en low hi p rp) (askB lo st en low hi p rp) := by
  have jt : Ev (fun k => impl_ValidAsk.j0 k true lo st en low hi p rp) false := by
    refine Ev.succ ?_; simp only [impl_ValidAsk.j0]; exact Ev.ite_pos (by decide) (Ev.now _)
  unfold impl_ValidAsk.f askB; refine Ev.bindc (impl_within_eq _ _ _) ?_; rw [show (decide (1 ≤ lo) && decide (lo ≤ 16)) = inB lo 1 16 from rfl]
  cases h1 : inB lo 1 16 with
  | false => exact Ev.ite_neg (by decide) jt
  | true =>
    refine Ev.ite_pos rfl (Ev.bindc (impl_rangeOk_eq _ _) ?_)
    cases h2 : inP low with
    | false => exact Ev.ite_neg (by simp) jt
    | true =>
      cases h3 : inB hi low 23 with
      | false => exact Ev.ite_neg (by decide) jt
      | true =>
        refine Ev.ite_pos rfl (Ev.bindc (impl_within_eq _ _ _) ?_); rw [show (decide (low ≤ st) && decide (st ≤ hi)) = inB st low hi from rfl]
        cases h4 : inB st low hi with
        | false => exact Ev.ite_neg (by decide) jt
        | true =>
          refine Ev.ite_pos rfl (Ev.bindc (impl_within_eq _ _ _) ?_); rw [show (decide (low ≤ en) && decide (en ≤ hi)) = inB en low hi from rfl]
          cases h5 : inB en low hi with
          | false => exact Ev.ite_neg (by decide) jt
          | true =>
            refine Ev.ite_pos rfl ?_
            by_cases h6 : (p.length : Int) > 4
            · have e : ¬ p.length ≤ 4 := by omega
              exact Ev.ite_pos h6 (Ev.cast jt (by simp [e]))
            · have e : p.length ≤ 4 := by omega
              refine Ev.ite_neg h6 (Ev.bindc (impl_within_eq _ _ _) ?_); rw [show (decide (0 ≤ rp) && decide (rp ≤ 16)) = inB rp 0 16 from rfl]
              cases h7 : inB rp 0 16 with
              | false => exact jt
              | true =>
                refine Ev.succ ?_; simp only [impl_ValidAsk.j0]; refine Ev.ite_neg (by decide) (Ev.cast (by simpa using impl_ValidAsk_l0 p hp p.length 0 (by omega)) ?_)
                simp [e]
def idxM (s : List Int) (t : Int) : Nat → Nat → Int
  | 0, _ => -1
  | d + 1, i => if rd s i = t then (i : Int) else idxM s t d (i + 1)
theorem slices_Index_l0 (s : List Int) (t : Int) (hl : s.length ≤ 1048576) : ∀ (d i : Nat), s.length - i = d → Ev (fun k => slices_Index_int64_int64.l0 k s t (s.length : Int) i) (idxM s t d i) := by
  intro d
  induction d with
  | zero =>
    intro i hd; refine Ev.succ ?_; simp only [slices_Index_int64_int64.l0]; exact Ev.ite_neg (by omega) (Ev.now _)
  | succ d ih =>
    intro i hd; refine Ev.succ ?_; simp only [slices_Index_int64_int64.l0]; rw [w64 (x := (i : Int) + 1) (by omega) (by omega)]; refine Ev.ite_pos (by omega) (Ev.ite_pos (by omega) (Ev.ite_pos (by omega) ?_)); simp only [idxM]
    by_cases h : rd s i = t
    · rw [if_pos h]; exact Ev.ite_pos h.symm (Ev.now _)
    · rw [if_neg h]; exact Ev.ite_neg (fun e => h e.symm) (by simpa using ih (i + 1) (by omega))
def hasM (l : List Int) (v : Int) : Bool := l.any fun n => decide (n = v)
theorem idxM_has (s : List Int) (t : Int) : ∀ d i, s.length - i = d → decide (idxM s t d i ≥ 0) = hasM (s.drop i) t := by
  intro d
  induction d with
  | zero =>
    intro i hd; rw [List.drop_of_length_le (by omega)]
    simp [idxM, hasM]
  | succ d ih =>
    intro i hd
    have hi : i < s.length := by omega
    by_cases h : rd s i = t
    · have e : idxM s t (d + 1) i = (i : Int) := by
        simp only [idxM]; rw [if_pos h]
      rw [e, List.drop_eq_getElem_cons hi, ← rd_at hi, decide_eq_true (show (i : Int) ≥ 0 by omega)]
      simp [hasM, h]
    · have e : idxM s t (d + 1) i = idxM s t d (i + 1) := by
        simp only [idxM]; rw [if_neg h]
      rw [e, ih (i + 1) (by omega), List.drop_eq_getElem_cons hi, ← rd_at hi]
      simp [hasM, h]
theorem slices_Contains_ev (s : List Int) (t : Int) (hl : s.length ≤ 1048576) : Ev (fun k => slices_Contains_int64_int64.f k s t) (hasM s t) := by
  unfold slices_Contains_int64_int64.f; refine Ev.bind (a := idxM s t s.length 0) ?_ ?_
  · unfold slices_Index_int64_int64.f
    simpa using slices_Index_l0 s t hl s.length 0 (by omega)
  · refine Ev.cast (Ev.now _) ?_
    simpa using idxM_has s t s.length 0 (by omega)
def smallB (b : Int) : Bool := decide (97 ≤ b) && decide (b ≤ 122)
def digitB (b : Int) : Bool := decide (48 ≤ b) && decide (b ≤ 57)
def nameB (s : ByteArray) : Bool := decide (1 ≤ s.size) && decide (s.size ≤ 10) && smallB (bt s 0) && (List.range' 0 s.size).all fun j => smallB (bt s j) || digitB (bt s j)
theorem toList_nil (s : ByteArray) : s.toList = [] ↔ s.size = 0 := by
  rw [ByteArray.toList_eq, List.eq_nil_iff_length_eq_zero]; exact Iff.rfl
theorem spec_l01Small_eq (b : Int) : spec_l01Small.f b = some (smallB b) := by
  unfold spec_l01Small.f smallB
  by_cases h : b ≥ 97
  · have : 97 ≤ b := h
    simp [this]
  · have : ¬ 97 ≤ b := h
    simp [this]
theorem spec_l01Digit_eq (b : Int) : spec_l01Digit.f b = some (digitB b) := by
  unfold spec_l01Digit.f digitB
  by_cases h : b ≥ 48
  · have : 48 ≤ b := h
    simp [this]
  · have : ¬ 48 ≤ b := h
    simp [this]
def bytesB (s : ByteArray) (i d : Nat) : Bool := (List.range' i d).all fun j => smallB (bt s j) || digitB (bt s j)
theorem bytesB_succ (s : ByteArray) (i d : Nat) : bytesB s i (d + 1) = ((smallB (bt s i) || digitB (bt s i)) && bytesB s (i + 1) d) := by
  simp [bytesB, List.range'_succ]
theorem spec_l01Name_l0 (s : ByteArray) (hs : s.size ≤ 10) : ∀ (d i : Nat), s.size - i = d → Ev (fun k => spec_l01Name.l0 k s i) (bytesB s i d) := by
  intro d
  induction d with
  | zero =>
    intro i hd; refine Ev.succ ?_; simp only [spec_l01Name.l0]; refine Ev.ite_neg (by omega) ?_; exact Ev.now _
  | succ d ih =>
    intro i hd; refine Ev.succ ?_; simp only [spec_l01Name.l0]; refine Ev.ite_pos (by omega) ?_; refine Ev.ite_pos (by omega) ?_; refine Ev.bindc (spec_l01Small_eq _) ?_
    have ih' : Ev (fun k => spec_l01Name.l0 k s ((i : Int) + 1)) (bytesB s (i + 1) d) := by simpa using ih (i + 1) (by omega)
    rw [w64 (x := (i : Int) + 1) (by omega) (by omega), bytesB_succ]
    cases h : smallB (bt s i) with
    | true =>
      refine Ev.ite_pos rfl ?_
      simpa using ih'
    | false =>
      refine Ev.ite_neg (by decide) ?_; refine Ev.bindc (spec_l01Digit_eq _) ?_
      cases h' : digitB (bt s i) with
      | true =>
        refine Ev.ite_pos rfl ?_
        simpa using ih'
      | false =>
        refine Ev.ite_neg (by decide) ?_
        simpa using Ev.now false
theorem spec_l01Name_ev (s : ByteArray) : Ev (fun k => spec_l01Name.f k s) (nameB s) := by
  unfold spec_l01Name.f nameB
  have hno : Ev (fun k => spec_l01Name.j0 k s true) false := by
    refine Ev.succ ?_; simp only [spec_l01Name.j0]; exact Ev.ite_pos (by simp) (Ev.now _)
  by_cases h0 : s.size = 0
  · refine Ev.ite_pos ((toList_nil s).2 h0) ?_; exact Ev.cast hno (by simp [h0])
  refine Ev.ite_neg (fun h => h0 ((toList_nil s).1 h)) ?_
  by_cases h1 : s.size ≤ 10
  · refine Ev.ite_neg (by omega) ?_; refine Ev.ite_pos (by omega) ?_; refine Ev.bindc (spec_l01Small_eq _) ?_
    cases h : smallB (bt s 0) with
    | true =>
      refine Ev.succ ?_; simp only [spec_l01Name.j0]; refine Ev.ite_neg (by simp) ?_; have := spec_l01Name_l0 s h1 s.size 0 (by omega); refine Ev.cast (by simpa using this) ?_
      have h2 : 1 ≤ s.size := by omega
      simp [bytesB, h1, h2]
    | false => exact Ev.cast hno (by simp)
  · refine Ev.ite_pos (by omega) ?_; exact Ev.cast hno (by simp; omega)
theorem impl_onlyNameBytes_l0 (s : ByteArray) (hs : s.size ≤ 10) : ∀ (d i : Nat), s.size - i = d → Ev (fun k => impl_onlyNameBytes.l0 k s (s.size : Int) i) (bytesB s i d) := by
  intro d
  induction d with
  | zero =>
    intro i hd; refine Ev.succ ?_; simp only [impl_onlyNameBytes.l0]; refine Ev.ite_neg (by omega) ?_; exact Ev.now _
  | succ d ih =>
    intro i hd; refine Ev.succ ?_; simp only [impl_onlyNameBytes.l0]; refine Ev.ite_pos (by omega) ?_; refine Ev.ite_pos (by omega) ?_; refine Ev.ite_pos (by omega) ?_
    have ih' : Ev (fun k => impl_onlyNameBytes.l0 k s (s.size : Int) ((i : Int) + 1)) (bytesB s (i + 1) d) := by simpa using ih (i + 1) (by omega)
    rw [w64 (x := (i : Int) + 1) (by omega) (by omega), bytesB_succ]
    have key : Ev (fun k => if bt s i < 48 then some false else if bt s i > 57 then some false else impl_onlyNameBytes.l0 k s (s.size : Int) ((i : Int) + 1)) (digitB (bt s i) && bytesB s (i + 1) d) := by
      by_cases a : bt s i < 48
      · refine Ev.ite_pos a ?_; refine Ev.cast (Ev.now false) ?_
        have : ¬ 48 ≤ bt s i := by omega
        simp [digitB, this]
      refine Ev.ite_neg a ?_
      by_cases b : bt s i > 57
      · refine Ev.ite_pos b ?_; refine Ev.cast (Ev.now false) ?_
        have : ¬ bt s i ≤ 57 := by omega
        simp [digitB, this]
      refine Ev.ite_neg b ?_; refine Ev.cast ih' ?_
      have h1 : 48 ≤ bt s i := by omega
      have h2 : bt s i ≤ 57 := by omega
      simp [digitB, h1, h2]
    by_cases a : bt s i < 97
    · refine Ev.ite_pos a ?_; refine Ev.cast key ?_
      have : ¬ 97 ≤ bt s i := by omega
      simp [smallB, this]
    refine Ev.ite_neg a ?_
    by_cases b : bt s i > 122
    · refine Ev.ite_pos b ?_; refine Ev.cast key ?_
      have : ¬ bt s i ≤ 122 := by omega
      simp [smallB, this]
    refine Ev.ite_neg b ?_; refine Ev.cast ih' ?_
    have h1 : 97 ≤ bt s i := by omega
    have h2 : bt s i ≤ 122 := by omega
    simp [smallB, h1, h2]
theorem impl_IsName_ev (s : ByteArray) : Ev (fun k => impl_IsName.f k s) (nameB s) := by
  unfold impl_IsName.f nameB
  by_cases h0 : s.size = 0
  · refine Ev.ite_pos (by omega) ?_; exact Ev.cast (Ev.now false) (by simp [h0])
  refine Ev.ite_neg (by omega) ?_
  by_cases h1 : s.size ≤ 10
  · refine Ev.ite_neg (by omega) ?_; refine Ev.ite_pos (by omega) ?_
    by_cases a : bt s 0 < 97
    · refine Ev.ite_pos a ?_; refine Ev.cast (Ev.now false) ?_
      have : ¬ 97 ≤ bt s 0 := by omega
      simp [smallB, this]
    refine Ev.ite_neg a ?_
    by_cases b : bt s 0 > 122
    · refine Ev.ite_pos b ?_; refine Ev.cast (Ev.now false) ?_
      have : ¬ bt s 0 ≤ 122 := by omega
      simp [smallB, this]
    refine Ev.ite_neg b ?_; refine Ev.bind (a := bytesB s 0 s.size) ?_ ?_
    · unfold impl_onlyNameBytes.f
      simpa using impl_onlyNameBytes_l0 s h1 s.size 0 (by omega)
    · refine Ev.cast (Ev.now _) ?_
      have h2 : 1 ≤ s.size := by omega
      have h3 : 97 ≤ bt s 0 := by omega
      have h4 : bt s 0 ≤ 122 := by omega
      simp [bytesB, h1, h2, smallB, h3, h4]
  · refine Ev.ite_pos (by omega) ?_; exact Ev.cast (Ev.now false) (by simp; omega)
def incB (l : List Int) (i d : Nat) : Bool := (List.range' i d).all fun j => decide (rd l ((j : Int) - 1) < rd l j)
theorem impl_increasing_l0 (l : List Int) (hl : l.length ≤ 9223372036854775807) : ∀ (d i : Nat), l.length - i = d → 1 ≤ i → Ev (fun k => impl_increasing.l0 k l i) (incB l i d) := by
  intro d
  induction d with
  | zero =>
    intro i hd hi; refine Ev.succ ?_; simp only [impl_increasing.l0]; refine Ev.ite_neg (by omega) ?_; exact Ev.now _
  | succ d ih =>
    intro i hd hi; refine Ev.succ ?_; simp only [impl_increasing.l0]; refine Ev.ite_pos (by omega) ?_; refine Ev.ite_pos (by omega) ?_; rw [w64 (x := (i : Int) - 1) (by omega) (by omega), w64 (x := (i : Int) + 1) (by omega) (by omega)]; refine Ev.ite_pos (by omega) ?_; refine Ev.ite_pos (by omega) ?_
    have hr : incB l i (d + 1) = (decide (rd l ((i : Int) - 1) < rd l i) && incB l (i + 1) d) := by
      simp [incB, List.range'_succ]
    rw [hr]
    by_cases hx : rd l i ≤ rd l ((i : Int) - 1)
    · refine Ev.ite_pos hx ?_; refine Ev.cast (Ev.now false) ?_
      have : ¬ rd l ((i : Int) - 1) < rd l i := by omega
      simp [this]
    · refine Ev.ite_neg hx ?_; have := ih (i + 1) (by omega) (by omega); refine Ev.cast (by simpa using this) ?_
      have : rd l ((i : Int) - 1) < rd l i := by omega
      simp [this]
def rgB (l : List Int) (a b : Int) (i d : Nat) : Bool := (List.range' i d).all fun j => decide (a ≤ rd l j) && decide (rd l j ≤ b) && (decide (j = 0) || decide (rd l ((j : Int) - 1) < rd l j))
theorem spec_l00Rises_l0 (l : List Int) (a b : Int) (hl : l.length ≤ 9223372036854775807) : ∀ (d i : Nat), l.length - i = d → i ≤ l.length → Ev (fun k => spec_l00Rises.l0 k l a b i) (rgB l a b i d) := by
  intro d
  induction d with
  | zero =>
    intro i hd hi; refine Ev.succ ?_; simp only [spec_l00Rises.l0]; refine Ev.ite_neg (by omega) ?_; exact Ev.now _
  | succ d ih =>
    intro i hd hi; refine Ev.succ ?_; simp only [spec_l00Rises.l0]; refine Ev.ite_pos (by omega) ?_; refine Ev.ite_pos (by omega) ?_; refine Ev.bindc (spec_l00In_eq _ _ _) ?_
    have hr : rgB l a b i (d + 1) = ((decide (a ≤ rd l i) && decide (rd l i ≤ b) && (decide (i = 0) || decide (rd l ((i : Int) - 1) < rd l i))) && rgB l a b (i + 1) d) := by
      simp [rgB, List.range'_succ]
    rw [hr]; have ih' := ih (i + 1) (by omega) (by omega); rw [w64 (x := (i : Int) + 1) (by omega) (by omega)]
    have ih2 : Ev (fun k => spec_l00Rises.l0 k l a b ((i : Int) + 1)) (rgB l a b (i + 1) d) := by simpa using ih'
    cases hq : (decide (a ≤ rd l i) && decide (rd l i ≤ b)) with
    | true =>
      refine Ev.ite_pos rfl ?_
      by_cases h0 : i = 0
      · refine Ev.ite_neg (by omega) ?_; refine Ev.cast ih2 ?_
        simp [h0]
      · refine Ev.ite_pos (by omega) ?_; rw [w64 (x := (i : Int) - 1) (by omega) (by omega)]; refine Ev.ite_pos (by omega) ?_; refine Ev.ite_pos (by omega) ?_
        by_cases hx : rd l ((i : Int) - 1) ≥ rd l i
        · refine Ev.ite_pos hx ?_; refine Ev.cast (Ev.now false) ?_
          have : ¬ rd l ((i : Int) - 1) < rd l i := by omega
          simp [h0, this]
        · refine Ev.ite_neg hx ?_; refine Ev.cast ih2 ?_
          have : rd l ((i : Int) - 1) < rd l i := by omega
          simp [this]
    | false =>
      refine Ev.ite_neg (by decide) ?_; refine Ev.cast (Ev.now false) ?_
      simp
def scaleB (l : List Int) : Bool := decide (5 ≤ l.length) && (rgB l 0 11 0 l.length && (rd l 0 == 0))
theorem inc_at {l : List Int} (h : incB l 1 (l.length - 1) = true) : ∀ (d i : Nat), i + d < l.length → rd l i ≤ rd l ((i + d : Nat) : Int) := by
  have hh : ∀ j : Nat, 1 ≤ j → j < l.length → rd l ((j : Int) - 1) < rd l j := by
    intro j h1 h2; simp only [incB, List.all_eq_true, List.mem_range'_1, decide_eq_true_eq] at h; exact h j (by omega)
  intro d
  induction d with
  | zero => intro i _; exact Int.le_refl _
  | succ d ih =>
    intro i hi; have h1 := ih i (by omega); have h2 := hh (i + d + 1) (by omega) (by omega)
    have e : (((i + d + 1 : Nat) : Int) - 1) = ((i + d : Nat) : Int) := by omega
    rw [e] at h2
    have e2 : ((i + (d + 1) : Nat) : Int) = ((i + d + 1 : Nat) : Int) := by omega
    rw [e2]
    omega
theorem scale_key (l : List Int) (h5 : 5 ≤ l.length) (h0 : rd l 0 = 0) : rgB l 0 11 0 l.length = (incB l 1 (l.length - 1) && decide (rd l ((l.length : Int) - 1) < 12)) := by
  rw [Bool.eq_iff_iff]
  constructor
  · intro hh; simp only [rgB, List.all_eq_true, List.mem_range'_1, Bool.and_eq_true, decide_eq_true_eq, Bool.or_eq_true] at hh; simp only [Bool.and_eq_true, decide_eq_true_eq, incB, List.all_eq_true, List.mem_range'_1]; refine ⟨fun j hj => ?_, ?_⟩
    · rcases (hh j (by omega)).2 with h | h
      · omega
      · exact h
    · have := (hh (l.length - 1) (by omega)).1
      have e : ((l.length - 1 : Nat) : Int) = (l.length : Int) - 1 := by omega
      rw [e] at this
      omega
  · intro hh; rw [Bool.and_eq_true, decide_eq_true_eq] at hh; have ha := inc_at hh.1; have hi := hh.1; simp only [incB, List.all_eq_true, List.mem_range'_1, decide_eq_true_eq] at hi; simp only [rgB, List.all_eq_true, List.mem_range'_1, Bool.and_eq_true, decide_eq_true_eq, Bool.or_eq_true]; intro j hj; have h1 := ha j 0 (by omega); have h2 := ha (l.length - 1 - j) j (by omega)
    have e : ((j + (l.length - 1 - j) : Nat) : Int) = (l.length : Int) - 1 := by omega
    rw [e] at h2
    have e0 : ((0 + j : Nat) : Int) = (j : Int) := by omega
    have e1 : ((0 : Nat) : Int) = 0 := rfl; rw [e0, e1, h0] at h1; refine ⟨⟨h1, by omega⟩, ?_⟩
    by_cases hz : j = 0
    · exact .inl hz
    · exact .inr (hi j (by omega))
theorem impl_ValidScale_ev (l : List Int) (hl : l.length ≤ 9223372036854775807) : Ev (fun k => impl_ValidScale.f k l) (scaleB l) := by
  unfold impl_ValidScale.f scaleB
  by_cases h : 5 ≤ l.length
  · refine Ev.ite_pos (by omega) (Ev.ite_pos (by omega) ?_)
    by_cases h0 : rd l 0 = 0
    · refine Ev.ite_pos h0 ?_; refine Ev.bind (a := incB l 1 (l.length - 1)) ?_ ?_
      · unfold impl_increasing.f
        simpa using impl_increasing_l0 l hl (l.length - 1) 1 (by omega) (by omega)
      · rw [scale_key l h h0, w64 (x := (l.length : Int) - 1) (by omega) (by omega)]
        cases g : incB l 1 (l.length - 1) with
        | true =>
          refine Ev.ite_pos rfl (Ev.ite_pos (by omega) (Ev.ite_pos (by omega) ?_)); refine Ev.cast (Ev.now _) ?_
          simp [h, h0]
        | false =>
          refine Ev.ite_neg (by decide) ?_
          simpa using Ev.now false
    · refine Ev.ite_neg h0 ?_; refine Ev.cast (Ev.now false) ?_
      simp [h0]
  · refine Ev.ite_neg (by omega) ?_
    simpa [h] using Ev.now false
def tn (a : Int) : Int := Int.tmod (wrap64 ((Int.tmod a 12) + 12)) 12
def toneB (u d : List Int) (t : Int) : Bool := hasM u t || hasM d t
def pairB (p : List Int) : Bool := decide (p.length = 2) && ((decide (0 ≤ rd p 0) && decide (rd p 0 ≤ 11)) && ((decide (0 ≤ rd p 1) && decide (rd p 1 ≤ 11)) && decide (rd p 0 ≠ rd p 1)))
def ltP (p q : List Int) : Bool := decide (rd p 0 < rd q 0) || (decide (rd p 0 = rd q 0) && decide (rd p 1 < rd q 1))
def pairsM (f : List (List Int)) : Nat → Nat → Bool
  | 0, _ => true
  | d + 1, i => (pairB (rd_L1 f i) && (decide (i = 0) || ltP (rd_L1 f ((i : Int) - 1)) (rd_L1 f i))) && pairsM f d (i + 1)
def ragaB (s : ByteArray) (u d : List Int) (st wk : Int) (f : List (List Int)) : Bool :=
  nameB s && (scaleB u && (scaleB d && (toneB u d st && (toneB u d wk && (decide (st ≠ wk) && (pairsM f f.length 0 && decide (f.length ≤ 8)))))))
theorem pairsM_at {f : List (List Int)} : ∀ (d i : Nat), pairsM f d i = true → ∀ j, i ≤ j → j < i + d → pairB (rd_L1 f j) = true := by
  intro d
  induction d with
  | zero => intro i _ j h1 h2; omega
  | succ d ih =>
    intro i h j h1 h2; simp only [pairsM, Bool.and_eq_true] at h
    by_cases e : j = i
    · subst e; exact h.1.1
    · exact ih (i + 1) h.2 j (by omega) (by omega)
theorem pairB_len {p : List Int} (h : pairB p = true) : p.length = 2 := by
  simp only [pairB, Bool.and_eq_true, decide_eq_true_eq] at h; exact h.1
theorem ragaB_parts {s : ByteArray} {u d : List Int} {st wk : Int} {f : List (List Int)} (h : ragaB s u d st wk f = true) : scaleB u = true ∧ scaleB d = true ∧ f.length ≤ 8 ∧ ∀ j, j < f.length → (rd_L1 f j).length = 2 := by
  simp only [ragaB, Bool.and_eq_true, decide_eq_true_eq] at h; exact ⟨h.2.1, h.2.2.1, h.2.2.2.2.2.2.2, fun j hj => pairB_len (pairsM_at _ _ h.2.2.2.2.2.2.1 j (by omega) (by omega))⟩
def pairQ (a b : Int) (p : List Int) : Bool := decide (rd p 0 = a) && decide (rd p 1 = b)
def reasonR (u d : List Int) (f : List (List Int)) (a b : Int) : Int :=
  if (toneB u d (tn a) && toneB u d (tn b)) = true then (if max (a - b) (b - a) > 12 then 2 else if b > a ∧ hasM u (tn b) = false then 3 else if b < a ∧ hasM d (tn b) = false then 4 else if f.any (pairQ (tn a) (tn b)) = true then 5 else 0) else 1
end Go.Proofs.Ytinlejhffokbaaa.P
end
