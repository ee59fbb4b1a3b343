/- Texts of this seat, merged: QSpecCountprogrammes, Open, LEv, LName, LIName, LIn, LWithin, LItems, QLawsEqint64S, QLawsHeldint64S, QLawsMarkint64S, QLawsToint64S, LCopy, LIdx, LHasOne, LSHasOne, LProgram8. -/
import Derived.Deep.Slices
import Derived.WideShapes
import Derived.ChangeShapes
import Derived.ChangeMaps5
import Derived.ChangeSame
import Derived.Test.YtgdiabfmjcejdaaGCP1
import Derived.Test.YtgdiabfmjcejdaaGCP2
import Derived.Test.YtgdiabfmjcejdaaGCP3
import Derived.Test.YtgdiabfmjcejdaaGCP4
import Derived.Test.YtgdiabfmjcejdaaGCP5
import Derived.Test.YtgdiabfmjcejdaaGCP6
import Derived.Test.YtgdiabfmjcejdaaGCP7
import Derived.Test.YtgdiabfmjcejdaaGCP8
section
namespace Go.Proofs.Ytgdiabfmjcejdaa.P
open Go.RowKit Go.Proofs.YtgdiabfmjcejdaaW.PrintWords Go.Proofs.YtgdiabfmjcejdaaW.PrintLast Go.Proofs.YtgdiabfmjcejdaaW.PrintMore
attribute [local go_sem] max2_int min2_int max_two min_two max_three min_three max_four min_four   -- for this text's walks alone
set_option linter.unusedVariables false
set_option linter.unusedSimpArgs false
/-! ### spec_CountProgrammes: function 24 (given) -/
def spec_CountProgrammes.f (k : Nat) (L : List S75) (m un se bud : Int) : Option (Int × Int) := (spec_l08All.f k L m un se bud).bind fun z => if z.2 = 0 then some (z.1, 0) else some (0, z.2)
set_option maxHeartbeats 16000000 in
set_option maxRecDepth 100000 in
theorem spec_CountProgrammes.calls (k : Nat) (AL : Option Addr) (cL : Nat) (L : List S75) (m un se bud : Int) (r1 r2 : Int) (w : World) (hrL : Kd.C k75 w AL L.length L) (hcL : L.length ≤ cL) (h : spec_CountProgrammes.f k L m un se bud = some (r1, r2)) :
    Calls Try.prog 24 #[.slice AL L.length cL, .int .i64 m, .int .i64 un, .int .i64 se, .int .i64 bud] w fun e w' => e = .returned (.tuple #[.int .i64 r1, .int .i64 r2]) ∧ Below w.heap.size w w' := by
  have HRL := Aside0.mk hrL
  have HCL := Aside0.mk hcL
  clear hrL hcL
  have huS := Try.underlying74
  unfold spec_CountProgrammes.f at h
  obtain ⟨⟨co, cd⟩, z_, h⟩ := Option.bind_eq_some_iff.mp h
  have E1 := Aside0.mk z_
  clear z_
  simp only at h
  by_cases ca : cd = 0
  rotate_left
  · rw [if_neg ca] at h
    obtain ⟨rfl, rfl⟩ : 0 = r1 ∧ cd = r2 := by simpa using h
    clear h
    have ca0 : (cd == 0) = false := beq_eq_false_iff_ne.mpr ca
    have ca1 : (cd != 0) = true := bne_iff_ne.mpr ca
    go_enter Try.func24, Try.ntmps24
    go_wp2_with (first | ((with_reducible refine gate_callee (f := 52) rfl ?_); refine goesL_ (some _) rfl rfl Try.func52 (by kernel_rfl) rfl #[.slice AL L.length cL, .int .i64 m, .int .i64 un, .int .i64 se, .int .i64 bud] rfl aw_ ?_; (with_reducible refine (spec_l08All.calls k _ _ L m un se bud co cd _ ?sL ?tL E1.out).mono ?_); (case sL => exact HRL.out); (case tL => exact HCL.out); rintro e w1 ⟨g, rfl, x6, hb⟩; refine ⟨_, rfl, ?_⟩; have HB := Aside0.mk hb; clear hb))
    go_ret2
    exact ⟨rfl, HB.out⟩
  rw [if_pos ca] at h
  subst ca
  obtain ⟨rfl, rfl⟩ : co = r1 ∧ 0 = r2 := by simpa using h
  clear h
  go_enter Try.func24, Try.ntmps24
  go_wp2_with (first | ((with_reducible refine gate_callee (f := 52) rfl ?_); refine goesL_ (some _) rfl rfl Try.func52 (by kernel_rfl) rfl #[.slice AL L.length cL, .int .i64 m, .int .i64 un, .int .i64 se, .int .i64 bud] rfl aw_ ?_; (with_reducible refine (spec_l08All.calls k _ _ L m un se bud co 0 _ ?sL ?tL E1.out).mono ?_); (case sL => exact HRL.out); (case tL => exact HCL.out); rintro e w1 ⟨g, rfl, x6, hb⟩; refine ⟨_, rfl, ?_⟩; have HB := Aside0.mk hb; clear hb))
  go_ret2
  exact ⟨rfl, HB.out⟩
end Go.Proofs.Ytgdiabfmjcejdaa.P
end

section
/- How the arguments of this seat's laws read, as the kinds of the printed words: an argument that the row reads has the cells of its kind, and its numbers, texts and lengths are in bounds. No condition. -/
namespace Go.Proofs.Ytgdiabfmjcejdaa.P
open Go.RowKit Go.ChangeShapes Go.WideShapes Go.Proofs.YtgdiabfmjcejdaaW.PrintWords Go.Proofs.YtgdiabfmjcejdaaW.PrintLast
set_option linter.unusedVariables false

section
variable {H : Type} {enc : TypeId × Value → H} {P : Program} {w : World} {held : Bool}

theorem list_choose {α : Type} (p : Nat → α → Prop) : ∀ n, (∀ i, i < n → ∃ y, p i y) → ∃ ys : List α, ys.length = n ∧ ∀ (i : Nat) (y : α), ys[i]? = some y → p i y := by
  intro n
  induction n with
  | zero => exact fun _ => ⟨[], rfl, fun i y h => by simp at h⟩
  | succ n ih =>
    intro h
    obtain ⟨ys, hl, hp⟩ := ih (fun i hi => h i (by omega))
    obtain ⟨z, hz⟩ := h n (by omega)
    refine ⟨ys ++ [z], by simp [hl], fun i y hy => ?_⟩
    rcases Nat.lt_or_ge i ys.length with hi | hi
    · rw [List.getElem?_append_left hi] at hy
      exact hp i y hy
    · rw [List.getElem?_append_right hi] at hy
      have h0 : i - ys.length = 0 := by
        rcases Nat.eq_zero_or_pos (i - ys.length) with h1 | h1
        · exact h1
        · rw [List.getElem?_eq_none (by simp; omega)] at hy
          cases hy
      rw [h0] at hy
      simp only [List.getElem?_cons_zero, Option.some.injEq] at hy
      subst hy
      have : i = n := by omega
      subst this
      exact hz

theorem len_cons {n : Nat} {cs : List Value} (h : cs.length = n + 1) : ∃ c t, cs = c :: t ∧ t.length = n := by
  cases cs with
  | nil => simp at h
  | cons c t => exact ⟨c, t, rfl, by simpa using h⟩

theorem opn_int {t : TypeId} {k : IntKind} (ht : P.underlying t = some (.int k)) {fuel : Nat} {cs : List Value} {x : DataW H × List MemPlace} (h : DataW.trod enc P w 0 (fun _ => true) held fuel t cs = some x) :
    ∃ y : Int, (Kd.int k).K w y cs ∧ (Lit.int k y).wf = true := by
  obtain ⟨n, hcs, _, hw⟩ := DataW.trod_int ht h
  exact ⟨n, hcs, hw⟩

theorem opn_string {t : TypeId} (ht : P.underlying t = some .string) {fuel : Nat} {cs : List Value} {x : DataW H × List MemPlace} (h : DataW.trod enc P w 0 (fun _ => true) held fuel t cs = some x) :
    ∃ y : ByteArray, Kd.string.K w y cs ∧ y.size ≤ maxLen := by
  obtain ⟨s, hcs, _, hs⟩ := DataW.trod_string ht h
  exact ⟨s, hcs, hs⟩

theorem opn_slice {α : Type} (d : Kd α) (ok : α → Prop) {t e : TypeId} (ht : P.underlying t = some (.slice e)) (ce : P.cellsOf e = d.sz)
    (hE : ∀ {fuel : Nat} {cs : List Value} {x : DataW H × List MemPlace}, DataW.trod enc P w 0 (fun _ => true) held fuel e cs = some x → ∃ y : α, d.K w y cs ∧ ok y)
    {fuel : Nat} {cs : List Value} {x : DataW H × List MemPlace} (h : DataW.trod enc P w 0 (fun _ => true) held fuel t cs = some x) :
    ∃ ys : List α, (Kd.slice e d).K w ys cs ∧ ys.length ≤ maxLen ∧ ∀ y ∈ ys, ok y := by
  rcases Go.Deep.open_slice ht h with ⟨rfl, _⟩ | ⟨a, len, cap, m, n, D, Pl, rfl, hb, hl, hm, hmm, rfl, hx⟩
  · exact ⟨[], ⟨none, 0, rfl, Nat.le_refl _, rfl, by simp, fun h => absurd h (Nat.lt_irrefl 0)⟩, Nat.zero_le _, by simp⟩
  · simp only [if_true] at hmm
    subst hmm
    obtain ⟨ys, hyl, hy⟩ := list_choose (fun i (y : α) => (∃ cs', w.cells? 0 (a.add (i * P.cellsOf e)) (P.cellsOf e) = some cs' ∧ d.K w y cs') ∧ ok y) len (fun i hi => by
      obtain ⟨cs', h1, h2⟩ := hx i (by omega)
      obtain ⟨y, hk, ho⟩ := hE h2
      exact ⟨y, ⟨cs', h1, hk⟩, ho⟩)
    subst hyl
    refine ⟨ys, ⟨some a, m, rfl, hl, rfl, Nat.le_trans hl (by unfold maxLen at hm; exact hm), fun _ => ⟨a, rfl, fun j p hp => ?_⟩⟩, Nat.le_trans hl hm, fun y hmem => ?_⟩
    · obtain ⟨⟨cs', h1, hk⟩, _⟩ := hy j p hp
      obtain ⟨_, hlen, hcell⟩ := World.cells?_some h1
      rw [ce] at hlen hcell
      refine ⟨cs', hlen, hk, fun i u hu => ?_⟩
      have hi : i < d.sz := by
        rw [← hlen]
        exact (List.getElem?_eq_some_iff.1 hu).1
      have := hcell i hi
      rw [Go.Deep.add_add] at this
      rw [this, hu]
    · obtain ⟨i, hi⟩ := List.getElem?_of_mem hmem
      exact (hy i y hi).2
end
theorem opn_S69 {H : Type} {enc : TypeId × Value → H} {w : World} {held : Bool} {fuel : Nat} {cs : List Value} {x : DataW H × List MemPlace} (h : DataW.trod enc Try.prog w 0 (fun _ => true) held fuel 69 cs = some x) :
    ∃ y : S69, k69.K w y cs ∧ y.f0.size ≤ maxLen ∧ (Lit.int .i64 y.f1).wf = true ∧ (Lit.int .i64 y.f2).wf = true ∧ (Lit.int .i64 y.f3).wf = true ∧ (Lit.int .i64 y.f4).wf = true ∧ (Lit.int .i64 y.f5).wf = true := by
  obtain ⟨xs, n, _, _, hl, hlen, hf⟩ := DataW.trod_struct Try.underlying69 h
  rw [show Try.prog.cellsOf 69 = 6 from by kernel_rfl] at hl
  obtain ⟨c0, t0, rfl, hl0⟩ := len_cons hl
  obtain ⟨c1, t1, rfl, hl1⟩ := len_cons hl0
  obtain ⟨c2, t2, rfl, hl2⟩ := len_cons hl1
  obtain ⟨c3, t3, rfl, hl3⟩ := len_cons hl2
  obtain ⟨c4, t4, rfl, hl4⟩ := len_cons hl3
  obtain ⟨c5, t5, rfl, hl5⟩ := len_cons hl4
  obtain rfl := List.eq_nil_of_length_eq_zero hl5
  have h0 := hf 0 _ rfl
  rw [List.getElem?_eq_getElem (show 0 < xs.length by rw [hlen]; decide)] at h0
  obtain ⟨y0, k0, w0⟩ := (opn_string Try.underlying9) (show DataW.trod enc Try.prog w 0 (fun _ => true) held n 9 [c0] = some _ from by simpa [show Try.prog.cellsOf 9 = 1 from by kernel_rfl] using h0)
  have h1 := hf 1 _ rfl
  rw [List.getElem?_eq_getElem (show 1 < xs.length by rw [hlen]; decide)] at h1
  obtain ⟨y1, k1, w1⟩ := (opn_int Try.underlying2) (show DataW.trod enc Try.prog w 0 (fun _ => true) held n 2 [c1] = some _ from by simpa [show Try.prog.cellsOf 2 = 1 from by kernel_rfl] using h1)
  have h2 := hf 2 _ rfl
  rw [List.getElem?_eq_getElem (show 2 < xs.length by rw [hlen]; decide)] at h2
  obtain ⟨y2, k2, w2⟩ := (opn_int Try.underlying2) (show DataW.trod enc Try.prog w 0 (fun _ => true) held n 2 [c2] = some _ from by simpa [show Try.prog.cellsOf 2 = 1 from by kernel_rfl] using h2)
  have h3 := hf 3 _ rfl
  rw [List.getElem?_eq_getElem (show 3 < xs.length by rw [hlen]; decide)] at h3
  obtain ⟨y3, k3, w3⟩ := (opn_int Try.underlying2) (show DataW.trod enc Try.prog w 0 (fun _ => true) held n 2 [c3] = some _ from by simpa [show Try.prog.cellsOf 2 = 1 from by kernel_rfl] using h3)
  have h4 := hf 4 _ rfl
  rw [List.getElem?_eq_getElem (show 4 < xs.length by rw [hlen]; decide)] at h4
  obtain ⟨y4, k4, w4⟩ := (opn_int Try.underlying2) (show DataW.trod enc Try.prog w 0 (fun _ => true) held n 2 [c4] = some _ from by simpa [show Try.prog.cellsOf 2 = 1 from by kernel_rfl] using h4)
  have h5 := hf 5 _ rfl
  rw [List.getElem?_eq_getElem (show 5 < xs.length by rw [hlen]; decide)] at h5
  obtain ⟨y5, k5, w5⟩ := (opn_int Try.underlying2) (show DataW.trod enc Try.prog w 0 (fun _ => true) held n 2 [c5] = some _ from by simpa [show Try.prog.cellsOf 2 = 1 from by kernel_rfl] using h5)
  exact ⟨⟨y0, y1, y2, y3, y4, y5⟩, ⟨[c0], [c1, c2, c3, c4, c5], rfl, k0, ⟨[c1], [c2, c3, c4, c5], rfl, k1, ⟨[c2], [c3, c4, c5], rfl, k2, ⟨[c3], [c4, c5], rfl, k3, ⟨[c4], [c5], rfl, k4, k5⟩⟩⟩⟩⟩, w0, w1, w2, w3, w4, w5⟩
theorem opn_L41 {H : Type} {enc : TypeId × Value → H} {w : World} {held : Bool} {fuel : Nat} {cs : List Value} {x : DataW H × List MemPlace} (h : DataW.trod enc Try.prog w 0 (fun _ => true) held fuel 41 cs = some x) :
    ∃ y : List (S69), (Kd.slice 69 k69).K w y cs ∧ y.length ≤ maxLen ∧ ∀ y0 ∈ y, (y0.f0.size ≤ maxLen ∧ (Lit.int .i64 y0.f1).wf = true ∧ (Lit.int .i64 y0.f2).wf = true ∧ (Lit.int .i64 y0.f3).wf = true ∧ (Lit.int .i64 y0.f4).wf = true ∧ (Lit.int .i64 y0.f5).wf = true) :=
  opn_slice k69 (fun y0 => (y0.f0.size ≤ maxLen ∧ (Lit.int .i64 y0.f1).wf = true ∧ (Lit.int .i64 y0.f2).wf = true ∧ (Lit.int .i64 y0.f3).wf = true ∧ (Lit.int .i64 y0.f4).wf = true ∧ (Lit.int .i64 y0.f5).wf = true)) Try.underlying41 (show Try.prog.cellsOf 69 = _ by kernel_rfl) (fun h => opn_S69 h) h
end Go.Proofs.Ytgdiabfmjcejdaa.P
end

section
namespace Go.Proofs.Ytgdiabfmjcejdaa.P
open Go.RowKit Go.Proofs.Ytgdiabfmjcejdaa.P Go.Proofs.YtgdiabfmjcejdaaW.PrintWords Go.Proofs.YtgdiabfmjcejdaaW.PrintLast Go.Proofs.YtgdiabfmjcejdaaW.PrintMore
set_option linter.unusedVariables false
set_option linter.unusedSimpArgs false
theorem Ev.succ {α : Type} {g : Nat → Option α} {r : α} (h : Ev (fun k => g (k + 1)) r) : Ev g r := Ev.step (f := fun k => g (k + 1)) (fun _ => rfl) h
theorem Ev.ite_pos {α : Type} {c : Prop} [Decidable c] {f g : Nat → Option α} {r : α} (hc : c) (h : Ev f r) : Ev (fun k => if c then f k else g k) r := Ev.congr (fun _ => if_pos hc) h
theorem Ev.ite_neg {α : Type} {c : Prop} [Decidable c] {f g : Nat → Option α} {r : α} (hc : ¬ c) (h : Ev g r) : Ev (fun k => if c then f k else g k) r := Ev.congr (fun _ => if_neg hc) h
theorem Ev.bindc {α β : Type} {o : Option α} {f : Nat → α → Option β} {a : α} {r : β} (ho : o = some a) (h : Ev (fun k => f k a) r) : Ev (fun k => o.bind (f k)) r := Ev.congr (fun _ => by rw [ho]; rfl) h
theorem Ev.cast {α : Type} {g : Nat → Option α} {r q : α} (h : Ev g r) (e : r = q) : Ev g q := e ▸ h
theorem Ev.out {α : Type} {g : Nat → Option α} {r : α} (h : Ev g r) : ∃ k, g k = some r := h.rounds

/-- A sum, a difference that needs no wrap. -/
theorem w64 {x : Int} (h0 : -9223372036854775808 ≤ x) (h1 : x ≤ 9223372036854775807) : wrap64 x = x := by unfold wrap64; omega
def smallB (b : Int) : Bool := decide (97 ≤ b) && decide (b ≤ 122)
def digitB (b : Int) : Bool := decide (48 ≤ b) && decide (b ≤ 57)
def nameB (s : ByteArray) : Bool := decide (1 ≤ s.size) && decide (s.size ≤ 10) && smallB (bt s 0) && (List.range' 0 s.size).all fun j => smallB (bt s j) || digitB (bt s j)
theorem toList_nil (s : ByteArray) : s.toList = [] ↔ s.size = 0 := by
  rw [ByteArray.toList_eq, List.eq_nil_iff_length_eq_zero]
  exact Iff.rfl
theorem spec_l01Small_eq (b : Int) : spec_l01Small.f b = some (smallB b) := by
  unfold spec_l01Small.f smallB
  by_cases h : b ≥ 97
  · have : 97 ≤ b := h
    simp [this]
  · have : ¬ 97 ≤ b := h
    simp [this]
theorem spec_l01Digit_eq (b : Int) : spec_l01Digit.f b = some (digitB b) := by
  unfold spec_l01Digit.f digitB
  by_cases h : b ≥ 48
  · have : 48 ≤ b := h
    simp [this]
  · have : ¬ 48 ≤ b := h
    simp [this]
def bytesB (s : ByteArray) (i d : Nat) : Bool := (List.range' i d).all fun j => smallB (bt s j) || digitB (bt s j)
theorem bytesB_succ (s : ByteArray) (i d : Nat) : bytesB s i (d + 1) = ((smallB (bt s i) || digitB (bt s i)) && bytesB s (i + 1) d) := by
  simp [bytesB, List.range'_succ]
theorem spec_l01Name_l0 (s : ByteArray) (hs : s.size ≤ 10) : ∀ (d i : Nat), s.size - i = d → Ev (fun k => spec_l01Name.l0 k s i) (bytesB s i d) := by
  intro d
  induction d with
  | zero =>
    intro i hd
    refine Ev.succ ?_
    simp only [spec_l01Name.l0]
    refine Ev.ite_neg (by omega) ?_
    exact Ev.now _
  | succ d ih =>
    intro i hd
    refine Ev.succ ?_
    simp only [spec_l01Name.l0]
    refine Ev.ite_pos (by omega) ?_
    refine Ev.ite_pos (by omega) ?_
    refine Ev.bindc (spec_l01Small_eq _) ?_
    have ih' : Ev (fun k => spec_l01Name.l0 k s ((i : Int) + 1)) (bytesB s (i + 1) d) := by simpa using ih (i + 1) (by omega)
    rw [w64 (x := (i : Int) + 1) (by omega) (by omega), bytesB_succ]
    cases h : smallB (bt s i) with
    | true =>
      refine Ev.ite_pos rfl ?_
      simpa using ih'
    | false =>
      refine Ev.ite_neg (by decide) ?_
      refine Ev.bindc (spec_l01Digit_eq _) ?_
      cases h' : digitB (bt s i) with
      | true =>
        refine Ev.ite_pos rfl ?_
        simpa using ih'
      | false =>
        refine Ev.ite_neg (by decide) ?_
        simpa using Ev.now false
theorem spec_l01Name_ev (s : ByteArray) : Ev (fun k => spec_l01Name.f k s) (nameB s) := by
  unfold spec_l01Name.f nameB
  have hno : Ev (fun k => spec_l01Name.j0 k s true) false := by
    refine Ev.succ ?_
    simp only [spec_l01Name.j0]
    exact Ev.ite_pos (by simp) (Ev.now _)
  by_cases h0 : s.size = 0
  · refine Ev.ite_pos ((toList_nil s).2 h0) ?_
    exact Ev.cast hno (by simp [h0])
  refine Ev.ite_neg (fun h => h0 ((toList_nil s).1 h)) ?_
  by_cases h1 : s.size ≤ 10
  · refine Ev.ite_neg (by omega) ?_
    refine Ev.ite_pos (by omega) ?_
    refine Ev.bindc (spec_l01Small_eq _) ?_
    cases h : smallB (bt s 0) with
    | true =>
      refine Ev.succ ?_
      simp only [spec_l01Name.j0]
      refine Ev.ite_neg (by simp) ?_
      have := spec_l01Name_l0 s h1 s.size 0 (by omega)
      refine Ev.cast (by simpa using this) ?_
      have h2 : 1 ≤ s.size := by omega
      simp [bytesB, h1, h2]
    | false => exact Ev.cast hno (by simp)
  · refine Ev.ite_pos (by omega) ?_
    exact Ev.cast hno (by simp; omega)
theorem impl_onlyNameBytes_l0 (s : ByteArray) (hs : s.size ≤ 10) : ∀ (d i : Nat), s.size - i = d → Ev (fun k => impl_onlyNameBytes.l0 k s (s.size : Int) i) (bytesB s i d) := by
  intro d
  induction d with
  | zero =>
    intro i hd
    refine Ev.succ ?_
    simp only [impl_onlyNameBytes.l0]
    refine Ev.ite_neg (by omega) ?_
    exact Ev.now _
  | succ d ih =>
    intro i hd
    refine Ev.succ ?_
    simp only [impl_onlyNameBytes.l0]
    refine Ev.ite_pos (by omega) ?_
    refine Ev.ite_pos (by omega) ?_
    refine Ev.ite_pos (by omega) ?_
    have ih' : Ev (fun k => impl_onlyNameBytes.l0 k s (s.size : Int) ((i : Int) + 1)) (bytesB s (i + 1) d) := by simpa using ih (i + 1) (by omega)
    rw [w64 (x := (i : Int) + 1) (by omega) (by omega), bytesB_succ]
    have key : Ev (fun k => if bt s i < 48 then some false else if bt s i > 57 then some false else impl_onlyNameBytes.l0 k s (s.size : Int) ((i : Int) + 1)) (digitB (bt s i) && bytesB s (i + 1) d) := by
      by_cases a : bt s i < 48
      · refine Ev.ite_pos a ?_
        refine Ev.cast (Ev.now false) ?_
        have : ¬ 48 ≤ bt s i := by omega
        simp [digitB, this]
      refine Ev.ite_neg a ?_
      by_cases b : bt s i > 57
      · refine Ev.ite_pos b ?_
        refine Ev.cast (Ev.now false) ?_
        have : ¬ bt s i ≤ 57 := by omega
        simp [digitB, this]
      refine Ev.ite_neg b ?_
      refine Ev.cast ih' ?_
      have h1 : 48 ≤ bt s i := by omega
      have h2 : bt s i ≤ 57 := by omega
      simp [digitB, h1, h2]
    by_cases a : bt s i < 97
    · refine Ev.ite_pos a ?_
      refine Ev.cast key ?_
      have : ¬ 97 ≤ bt s i := by omega
      simp [smallB, this]
    refine Ev.ite_neg a ?_
    by_cases b : bt s i > 122
    · refine Ev.ite_pos b ?_
      refine Ev.cast key ?_
      have : ¬ bt s i ≤ 122 := by omega
      simp [smallB, this]
    refine Ev.ite_neg b ?_
    refine Ev.cast ih' ?_
    have h1 : 97 ≤ bt s i := by omega
    have h2 : bt s i ≤ 122 := by omega
    simp [smallB, h1, h2]
theorem impl_IsName_ev (s : ByteArray) : Ev (fun k => impl_IsName.f k s) (nameB s) := by
  unfold impl_IsName.f nameB
  by_cases h0 : s.size = 0
  · refine Ev.ite_pos (by omega) ?_
    exact Ev.cast (Ev.now false) (by simp [h0])
  refine Ev.ite_neg (by omega) ?_
  by_cases h1 : s.size ≤ 10
  · refine Ev.ite_neg (by omega) ?_
    refine Ev.ite_pos (by omega) ?_
    by_cases a : bt s 0 < 97
    · refine Ev.ite_pos a ?_
      refine Ev.cast (Ev.now false) ?_
      have : ¬ 97 ≤ bt s 0 := by omega
      simp [smallB, this]
    refine Ev.ite_neg a ?_
    by_cases b : bt s 0 > 122
    · refine Ev.ite_pos b ?_
      refine Ev.cast (Ev.now false) ?_
      have : ¬ bt s 0 ≤ 122 := by omega
      simp [smallB, this]
    refine Ev.ite_neg b ?_
    refine Ev.bind (a := bytesB s 0 s.size) ?_ ?_
    · unfold impl_onlyNameBytes.f
      simpa using impl_onlyNameBytes_l0 s h1 s.size 0 (by omega)
    · refine Ev.cast (Ev.now _) ?_
      have h2 : 1 ≤ s.size := by omega
      have h3 : 97 ≤ bt s 0 := by omega
      have h4 : bt s 0 ≤ 122 := by omega
      simp [bytesB, h1, h2, smallB, h3, h4]
  · refine Ev.ite_pos (by omega) ?_
    exact Ev.cast (Ev.now false) (by simp; omega)
theorem spec_l00In_eq (n a b : Int) : spec_l00In.f n a b = some (decide (a ≤ n) && decide (n ≤ b)) := by
  unfold spec_l00In.f
  by_cases h : n ≥ a
  · have : a ≤ n := h
    simp [this]
  · have : ¬ a ≤ n := h
    simp [this]
theorem impl_within_eq (n a b : Int) : impl_within.f n a b = some (decide (a ≤ n) && decide (n ≤ b)) := by
  unfold impl_within.f
  by_cases h : n ≥ a
  · have : a ≤ n := h
    simp [this]
  · have : ¬ a ≤ n := h
    simp [this]
def itemOf (x : S69) : S75 := ⟨x.f0, x.f1, x.f2, x.f3, x.f4, x.f5⟩
theorem rdj_at {l : List S69} {i : Nat} (h : i < l.length) : rd_T69 l (i : Int) = l[i] := by simp [rd_T69, h]
theorem seti_at {l : List S75} {i : Nat} {v : S75} {m : List S75} (h : i < l.length) (e : l.take i = m) : (l.set i v).take (i + 1) = m ++ [v] := by
  rw [List.take_succ_eq_append_getElem (by simpa using h)]
  simp [List.take_set_of_le, e]
theorem szItemS_l0 (l : List S69) (hl : l.length ≤ 1048576) (hs : ∀ x ∈ l, x.f0.size ≤ 9223372036854775807) : ∀ (d i : Nat) (a : Int), l.length - i = d → 0 ≤ a → a ≤ 1048576 → ∃ t, Ev (fun k => laws_szItemS.l0 k l a i) t := by
  intro d
  induction d with
  | zero =>
    intro i a hd h0 h1
    refine ⟨a, Ev.succ ?_⟩
    simp only [laws_szItemS.l0]
    exact Ev.ite_neg (by omega) (Ev.now _)
  | succ d ih =>
    intro i a hd h0 h1
    have hi : i < l.length := by omega
    have hz := hs l[i] (List.getElem_mem hi)
    by_cases g : a - (l[i].f0.size : Int) < 0
    · refine ⟨-1, Ev.succ ?_⟩
      simp only [laws_szItemS.l0]
      rw [rdj_at hi]
      refine Ev.ite_pos (by omega) (Ev.ite_pos (by omega) (Ev.bindc (a := -1) ?_ (Ev.ite_pos (by omega) (Ev.now _))))
      unfold laws_szItem.f
      rw [w64 (by omega) (by omega), if_pos g]
    · obtain ⟨t, ht⟩ := ih (i + 1) (a - (l[i].f0.size : Int)) (by omega) (by omega) (by omega)
      refine ⟨t, Ev.succ ?_⟩
      simp only [laws_szItemS.l0]
      rw [rdj_at hi, w64 (x := (i : Int) + 1) (by omega) (by omega)]
      refine Ev.ite_pos (by omega) (Ev.ite_pos (by omega) (Ev.bindc (a := a - (l[i].f0.size : Int)) ?_ (Ev.ite_neg g (by simpa using ht))))
      unfold laws_szItem.f
      rw [w64 (by omega) (by omega), if_neg g]
theorem szItemS_ge (l : List S69) (hl : l.length ≤ 9223372036854775807) (hs : ∀ x ∈ l, x.f0.size ≤ 9223372036854775807) : ∃ t, Ev (fun k => laws_szItemS.f k l 1048576) t ∧ (t < 0 ∨ l.length ≤ 1048576) := by
  unfold laws_szItemS.f
  rw [w64 (x := (1048576 : Int) - l.length) (by omega) (by omega)]
  by_cases h : (1048576 : Int) - (l.length : Int) < 0
  · exact ⟨-1, Ev.ite_pos h (Ev.now _), .inl (by omega)⟩
  · obtain ⟨t, ht⟩ := szItemS_l0 l (by omega) hs l.length 0 (1048576 - l.length) (by omega) (by omega) (by omega)
    exact ⟨t, Ev.ite_neg h (by simpa using ht), .inr (by omega)⟩
theorem toItemS_l0 (l : List S69) (hl : l.length ≤ 9223372036854775807) : ∀ (d i : Nat) (m : List S75), l.length - i = d → i ≤ l.length → m.length = l.length → m.take i = (l.map itemOf).take i → Ev (fun k => laws_toItemS.l0 k l m i) (l.map itemOf) := by
  intro d
  induction d with
  | zero =>
    intro i m hd hi hm ht
    have : i = l.length := by omega
    subst this
    refine Ev.succ ?_
    simp only [laws_toItemS.l0]
    refine Ev.ite_neg (by omega) ?_
    rw [List.take_of_length_le (by omega), List.take_of_length_le (by simp)] at ht
    rw [ht]
    exact Ev.now _
  | succ d ih =>
    intro i m hd hi hm ht
    refine Ev.succ ?_
    simp only [laws_toItemS.l0]
    refine Ev.ite_pos (by omega) ?_
    refine Ev.ite_pos (by omega) ?_
    refine Ev.bindc (show laws_toItem.f _ _ _ _ _ _ = some (_, _, _, _, _, _) from rfl) ?_
    refine Ev.ite_pos (by omega) ?_
    rw [w64 (x := (i : Int) + 1) (by omega) (by omega), rdj_at (show i < l.length by omega), Int.toNat_natCast]
    have := ih (i + 1) (m.set i (itemOf l[i])) (by omega) (by omega) (by simpa using hm) (by
      rw [seti_at (by omega) ht, List.take_succ_eq_append_getElem (by simpa using (by omega : i < l.length))]
      simp)
    simpa [itemOf] using this
theorem toItemS_ev (l : List S69) (h : l.length ≤ 1048576) : Ev (fun k => laws_toItemS.f k l) (l.map itemOf) := by
  unfold laws_toItemS.f
  refine Ev.ite_pos (by omega) ?_
  refine Ev.ite_pos (by omega) ?_
  exact toItemS_l0 l (by omega) l.length 0 _ (by omega) (by omega) (by simp) (by simp)
theorem eqItemS_l0 (a : List S75) (hl : a.length ≤ 9223372036854775807) : ∀ (d i : Nat), a.length - i = d → Ev (fun k => laws_eqItemS.l0 k a a i) true := by
  intro d
  induction d with
  | zero =>
    intro i hd
    refine Ev.succ ?_
    simp only [laws_eqItemS.l0]
    exact Ev.ite_neg (by omega) (Ev.now _)
  | succ d ih =>
    intro i hd
    refine Ev.succ ?_
    simp only [laws_eqItemS.l0]
    refine Ev.ite_pos (by omega) ?_
    refine Ev.ite_pos (by omega) ?_
    refine Ev.ite_pos (by omega) ?_
    refine Ev.bindc (a := true) (by simp [laws_eqItem.f]) ?_
    refine Ev.ite_pos rfl ?_
    rw [w64 (x := (i : Int) + 1) (by omega) (by omega)]
    simpa using ih (i + 1) (by omega)
theorem eqItemS_self (a : List S75) (hl : a.length ≤ 9223372036854775807) : Ev (fun k => laws_eqItemS.f k a a) true := by
  unfold laws_eqItemS.f
  exact Ev.ite_pos rfl (by simpa using eqItemS_l0 a hl a.length 0 (by omega))
def inR (n a b : Int) : Bool := decide (a ≤ n) && decide (n ≤ b)
theorem l00In_inR (n a b : Int) : spec_l00In.f n a b = some (inR n a b) := spec_l00In_eq n a b
theorem within_inR (n a b : Int) : impl_within.f n a b = some (inR n a b) := impl_within_eq n a b
def itB (x : S75) : Bool := nameB x.f0 && (inR x.f1 0 1439 && (inR x.f2 0 1439 && (!(decide (x.f1 = x.f2)) && (inR x.f3 (-1) 5 && (inR x.f4 1 240 && inR x.f5 0 1000)))))
theorem spec_l08One_ev (x : S75) : Ev (fun k => spec_l08One.f k x.f0 x.f1 x.f2 x.f3 x.f4 x.f5) (itB x) := by
  unfold spec_l08One.f spec_l08Minute.f itB
  refine Ev.bind (spec_l01Name_ev _) ?_
  cases nameB x.f0 with
  | false => exact Ev.ite_neg (by decide) (Ev.now _)
  | true =>
    refine Ev.ite_pos rfl ?_
    simp only [l00In_inR, Option.bind_some]
    cases inR x.f1 0 1439 with
    | false => exact Ev.ite_neg (by decide) (Ev.now _)
    | true =>
      refine Ev.ite_pos rfl ?_
      cases inR x.f2 0 1439 with
      | false => exact Ev.ite_neg (by decide) (Ev.now _)
      | true =>
        refine Ev.ite_pos rfl ?_
        by_cases h : x.f1 = x.f2
        · refine Ev.ite_pos h (Ev.cast (Ev.now _) ?_)
          simp [h]
        · refine Ev.ite_neg h ?_
          cases inR x.f3 (-1) 5 with
          | false => exact Ev.ite_neg (by decide) (Ev.cast (Ev.now _) (by simp))
          | true =>
            refine Ev.ite_pos rfl ?_
            cases inR x.f4 1 240 with
            | false => exact Ev.ite_neg (by decide) (Ev.cast (Ev.now _) (by simp))
            | true => exact Ev.ite_pos rfl (Ev.cast (Ev.now _) (by simp [h]))
theorem impl_ValidItem_ev (x : S75) : Ev (fun k => impl_ValidItem.f k x.f0 x.f1 x.f2 x.f3 x.f4 x.f5) (itB x) := by
  unfold impl_ValidItem.f impl_minuteOk.f itB
  refine Ev.bind (impl_IsName_ev _) ?_
  cases nameB x.f0 with
  | false => exact Ev.ite_neg (by decide) (Ev.now _)
  | true =>
    refine Ev.ite_pos rfl ?_
    simp only [within_inR, Option.bind_some]
    cases inR x.f1 0 1439 with
    | false => exact Ev.ite_neg (by decide) (Ev.now _)
    | true =>
      refine Ev.ite_pos rfl ?_
      cases inR x.f2 0 1439 with
      | false => exact Ev.ite_neg (by decide) (Ev.now _)
      | true =>
        refine Ev.ite_pos rfl ?_
        by_cases h : x.f1 = x.f2
        · refine Ev.ite_pos h (Ev.cast (Ev.now _) ?_)
          simp [h]
        · refine Ev.ite_neg h ?_
          cases inR x.f3 (-1) 5 with
          | false => exact Ev.ite_neg (by decide) (Ev.cast (Ev.now _) (by simp))
          | true =>
            refine Ev.ite_pos rfl ?_
            cases inR x.f4 1 240 with
            | false => exact Ev.ite_neg (by decide) (Ev.cast (Ev.now _) (by simp))
            | true => exact Ev.ite_pos rfl (Ev.cast (Ev.now _) (by simp [h]))
def itP (l : List S75) (j : Nat) : Bool := itB (rd_T75 l j) && (decide (j = 0) || Op.bytesLess (rd_T75 l ((j : Int) - 1)).f0.toList (rd_T75 l j).f0.toList)
def itsB (l : List S75) (i d : Nat) : Bool := (List.range' i d).all (itP l)
theorem itsB_succ (l : List S75) (i d : Nat) : itsB l i (d + 1) = (itP l i && itsB l (i + 1) d) := by
  simp [itsB, List.range'_succ]
theorem spec_l08Ok_l0 (l : List S75) (hl : l.length ≤ 1048576) : ∀ (d i : Nat), l.length - i = d → Ev (fun k => spec_l08Ok.l0 k l i) (itsB l i d && decide (l.length ≤ 12)) := by
  intro d
  induction d with
  | zero =>
    intro i hd
    refine Ev.succ ?_
    simp only [spec_l08Ok.l0]
    refine Ev.ite_neg (by omega) (Ev.cast (Ev.now _) ?_)
    simp only [itsB, List.range'_zero, List.all_nil, Bool.true_and]
    exact decide_eq_decide.2 (by omega)
  | succ d ih =>
    intro i hd
    have f1 : (i : Int) < (l.length : Int) := by omega
    have f2 : (0 : Int) ≤ (i : Int) := by omega
    have w7 : wrap64 ((i : Int) + 1) = ((i + 1 : Nat) : Int) := by rw [w64 (by omega) (by omega)]; omega
    have w8 : wrap64 ((i : Int) - 1) = (i : Int) - 1 := w64 (by omega) (by omega)
    have ih' := ih (i + 1) (by omega)
    refine Ev.succ ?_
    simp only [spec_l08Ok.l0, w7, w8]
    rw [itsB_succ, itP]
    refine Ev.ite_pos f1 (Ev.ite_pos f2 (Ev.bind (spec_l08One_ev _) ?_))
    cases itB (rd_T75 l i) with
    | false => exact Ev.ite_neg (by decide) (Ev.now _)
    | true =>
      refine Ev.ite_pos rfl ?_
      by_cases h0 : i = 0
      · refine Ev.ite_neg (by omega) (Ev.cast ih' ?_)
        simp [h0]
      · refine Ev.ite_pos (by omega) (Ev.ite_pos (by omega) (Ev.ite_pos (by omega) ?_))
        cases hb : Op.bytesLess (rd_T75 l ((i : Int) - 1)).f0.toList (rd_T75 l i).f0.toList with
        | true => exact Ev.ite_pos rfl (Ev.cast ih' (by simp))
        | false => exact Ev.ite_neg (by decide) (Ev.cast (Ev.now _) (by simp [h0]))
theorem impl_ValidItems_l0 (l : List S75) (hl : l.length ≤ 1048576) : ∀ (d i : Nat), l.length - i = d → Ev (fun k => impl_ValidItems.l0 k l l l.length i) (itsB l i d) := by
  intro d
  induction d with
  | zero =>
    intro i hd
    refine Ev.succ ?_
    simp only [impl_ValidItems.l0]
    exact Ev.ite_neg (by omega) (Ev.now _)
  | succ d ih =>
    intro i hd
    have f1 : (i : Int) < (l.length : Int) := by omega
    have f2 : (0 : Int) ≤ (i : Int) := by omega
    have w7 : wrap64 ((i : Int) + 1) = ((i + 1 : Nat) : Int) := by rw [w64 (by omega) (by omega)]; omega
    have w8 : wrap64 ((i : Int) - 1) = (i : Int) - 1 := w64 (by omega) (by omega)
    have ih' := ih (i + 1) (by omega)
    refine Ev.succ ?_
    simp only [impl_ValidItems.l0, w7, w8]
    rw [itsB_succ, itP]
    refine Ev.ite_pos f1 (Ev.ite_pos f2 (Ev.ite_pos f1 (Ev.bind (impl_ValidItem_ev _) ?_)))
    cases itB (rd_T75 l i) with
    | false => exact Ev.ite_neg (by decide) (Ev.now _)
    | true =>
      refine Ev.ite_pos rfl ?_
      by_cases h0 : i = 0
      · refine Ev.ite_neg (by omega) (Ev.cast ih' ?_)
        simp [h0]
      · refine Ev.ite_pos (by omega) (Ev.ite_pos (by omega) (Ev.ite_pos (by omega) ?_))
        cases hb : Op.bytesLess (rd_T75 l ((i : Int) - 1)).f0.toList (rd_T75 l i).f0.toList with
        | true => exact Ev.ite_pos rfl (Ev.cast ih' (by simp))
        | false => exact Ev.ite_neg (by decide) (Ev.cast (Ev.now _) (by simp [h0]))
def itemsB (l : List S75) : Bool := itsB l 0 l.length && decide (l.length ≤ 12)
theorem spec_l08Ok_ev (l : List S75) (hl : l.length ≤ 1048576) : Ev (fun k => spec_l08Ok.f k l) (itemsB l) := by
  unfold spec_l08Ok.f
  exact spec_l08Ok_l0 l hl l.length 0 (by omega)
theorem impl_ValidItems_ev (l : List S75) (hl : l.length ≤ 1048576) : Ev (fun k => impl_ValidItems.f k l) (itemsB l) := by
  unfold impl_ValidItems.f itemsB
  by_cases h : l.length ≤ 12
  · refine Ev.ite_neg (by omega) (Ev.cast (impl_ValidItems_l0 l hl l.length 0 (by omega)) ?_)
    simp [h]
  · refine Ev.ite_pos (by omega) (Ev.cast (Ev.now _) ?_)
    simp [h]
theorem itemsB_at {l : List S75} (h : itemsB l = true) (i : Nat) (hi : i < l.length) : -1 ≤ (rd_T75 l i).f3 := by
  simp only [itemsB, itsB, Bool.and_eq_true, List.all_eq_true] at h
  have := h.1 i (List.mem_range'_1.2 ⟨by omega, by omega⟩)
  simp only [itP, itB, inR, Bool.and_eq_true, decide_eq_true_eq] at this
  exact this.1.2.2.2.2.1.1
def fitB (x : S75) (m s : Int) : Bool := (decide (x.f3 = -1) || decide (x.f3 = s)) && (if x.f1 < x.f2 then decide (x.f1 ≤ m) && decide (m < x.f2) else decide (x.f1 ≤ m) || decide (m < x.f2))
theorem impl_Item_fits_ev (x : S75) (m s : Int) : Ev (fun k => impl_Item_fits.f k x.f0 x.f1 x.f2 x.f3 x.f4 x.f5 m s) (fitB x m s) := by
  have j : ∀ b, Ev (fun k => impl_Item_fits.j0 k m b x.f0 x.f1 x.f2 x.f3 x.f4 x.f5) (!b && (if x.f1 < x.f2 then decide (x.f1 ≤ m) && decide (m < x.f2) else decide (x.f1 ≤ m) || decide (m < x.f2))) := by
    intro b
    refine Ev.succ ?_
    simp only [impl_Item_fits.j0]
    cases b with
    | true => exact Ev.ite_pos rfl (Ev.now _)
    | false =>
      refine Ev.ite_neg (by decide) ?_
      by_cases c : x.f1 < x.f2
      · refine Ev.ite_pos c ?_
        by_cases d : m ≥ x.f1
        · exact Ev.ite_pos d (Ev.cast (Ev.now _) (by simp [c, show x.f1 ≤ m from d]))
        · exact Ev.ite_neg d (Ev.cast (Ev.now _) (by simp [c, show ¬ x.f1 ≤ m from d]))
      · refine Ev.ite_neg c ?_
        by_cases d : m ≥ x.f1
        · exact Ev.ite_pos d (Ev.cast (Ev.now _) (by simp [c, show x.f1 ≤ m from d]))
        · exact Ev.ite_neg d (Ev.cast (Ev.now _) (by simp [c, show ¬ x.f1 ≤ m from d]))
  unfold impl_Item_fits.f fitB
  by_cases a : x.f3 = -1
  · refine Ev.ite_pos a (Ev.cast (j false) (by simp [a]))
  · refine Ev.ite_neg a (Ev.cast (j (x.f3 != s)) ?_)
    by_cases b : x.f3 = s
    · simp [a, b]
    · simp [a, b]
end Go.Proofs.Ytgdiabfmjcejdaa.P
end

section
namespace Go.Proofs.Ytgdiabfmjcejdaa.P
open Go.RowKit Go.Proofs.YtgdiabfmjcejdaaW.PrintWords Go.Proofs.YtgdiabfmjcejdaaW.PrintLast Go.Proofs.YtgdiabfmjcejdaaW.PrintMore
attribute [local go_sem] max2_int min2_int max_two min_two max_three min_three max_four min_four   -- for this text's walks alone
set_option linter.unusedVariables false
set_option linter.unusedSimpArgs false
/-! ### laws_eqInt64S: function 18 -/
def laws_eqInt64S.l0 : Nat → List Int → List Int → Int → Option (Bool)
 | 0, _, _, _ => none
 | k + 1, x0, x1, x5 => if x5 < (x0.length : Int) then (if 0 ≤ x5 then (if x5 < (x1.length : Int) then (if (rd x0 x5) = (rd x1 x5) then (laws_eqInt64S.l0 k x0 x1 (wrap64 (x5 + 1))) else (some false)) else (none)) else (none)) else (some true)
/-! ### laws_heldInt64S: function 20 -/
def laws_heldInt64S.l0 : Nat → List Int → Int → Int → Option (Int)
 | 0, _, _, _ => none
 | k + 1, x0, x1, x5 => if x5 < (x0.length : Int) then (if 0 ≤ x5 then (if (rd x0 x5) = x1 then (laws_heldInt64S.l0 k x0 (wrap64 (x1 + 1)) (wrap64 (x5 + 1))) else (some (-1))) else (none)) else (some x1)
/-! ### laws_markInt64S: function 19 -/
def laws_markInt64S.l0 : Nat → List Int → Int → Int → Option (Int × List Int)
 | 0, _, _, _ => none
 | k + 1, x0, x1, x5 => if x5 < (x0.length : Int) then (if 0 ≤ x5 then (laws_markInt64S.l0 k (x0.set (x5 : Int).toNat x1) (wrap64 (x1 + 1)) (wrap64 (x5 + 1))) else (none)) else (some (x1, x0))
/-! ### laws_toInt64S: function 16 -/
def laws_toInt64S.l0 : Nat → List Int → List Int → Int → Option (List Int)
 | 0, _, _, _ => none
 | k + 1, x0, x3, x4 => if x4 < (x0.length : Int) then (if 0 ≤ x4 then (if x4 < (x3.length : Int) then (laws_toInt64S.l0 k x0 (x3.set (x4 : Int).toNat (rd x0 x4)) (wrap64 (x4 + 1))) else (none)) else (none)) else (some x3)
end Go.Proofs.Ytgdiabfmjcejdaa.P
end

section
namespace Go.Proofs.Ytgdiabfmjcejdaa.P
open Go.RowKit Go.Proofs.Ytgdiabfmjcejdaa.P Go.Proofs.YtgdiabfmjcejdaaW.PrintWords Go.Proofs.YtgdiabfmjcejdaaW.PrintLast Go.Proofs.YtgdiabfmjcejdaaW.PrintMore
set_option linter.unusedVariables false
set_option linter.unusedSimpArgs false
theorem rd_at {l : List Int} {i : Nat} (h : i < l.length) : rd l (i : Int) = l[i] := by simp [rd, h]

def idxM (s : List Int) (t : Int) : Nat → Nat → Int
  | 0, _ => -1
  | d + 1, i => if rd s i = t then (i : Int) else idxM s t d (i + 1)
theorem slices_Index_l0 (s : List Int) (t : Int) (hl : s.length ≤ 1048576) : ∀ (d i : Nat), s.length - i = d → Ev (fun k => slices_Index_int64_int64.l0 k s t (s.length : Int) i) (idxM s t d i) := by
  intro d
  induction d with
  | zero =>
    intro i hd
    refine Ev.succ ?_
    simp only [slices_Index_int64_int64.l0]
    exact Ev.ite_neg (by omega) (Ev.now _)
  | succ d ih =>
    intro i hd
    refine Ev.succ ?_
    simp only [slices_Index_int64_int64.l0]
    rw [w64 (x := (i : Int) + 1) (by omega) (by omega)]
    refine Ev.ite_pos (by omega) (Ev.ite_pos (by omega) (Ev.ite_pos (by omega) ?_))
    simp only [idxM]
    by_cases h : rd s i = t
    · rw [if_pos h]
      exact Ev.ite_pos h.symm (Ev.now _)
    · rw [if_neg h]
      exact Ev.ite_neg (fun e => h e.symm) (by simpa using ih (i + 1) (by omega))
def hasM (l : List Int) (v : Int) : Bool := l.any fun n => decide (n = v)
theorem idxM_has (s : List Int) (t : Int) : ∀ d i, s.length - i = d → decide (idxM s t d i ≥ 0) = hasM (s.drop i) t := by
  intro d
  induction d with
  | zero =>
    intro i hd
    rw [List.drop_of_length_le (by omega)]
    simp [idxM, hasM]
  | succ d ih =>
    intro i hd
    have hi : i < s.length := by omega
    by_cases h : rd s i = t
    · have e : idxM s t (d + 1) i = (i : Int) := by
        simp only [idxM]
        rw [if_pos h]
      rw [e, List.drop_eq_getElem_cons hi, ← rd_at hi, decide_eq_true (show (i : Int) ≥ 0 by omega)]
      simp [hasM, h]
    · have e : idxM s t (d + 1) i = idxM s t d (i + 1) := by
        simp only [idxM]
        rw [if_neg h]
      rw [e, ih (i + 1) (by omega), List.drop_eq_getElem_cons hi, ← rd_at hi]
      simp [hasM, h]
theorem slices_Contains_ev (s : List Int) (t : Int) (hl : s.length ≤ 1048576) : Ev (fun k => slices_Contains_int64_int64.f k s t) (hasM s t) := by
  unfold slices_Contains_int64_int64.f
  refine Ev.bind (a := idxM s t s.length 0) ?_ ?_
  · unfold slices_Index_int64_int64.f
    simpa using slices_Index_l0 s t hl s.length 0 (by omega)
  · refine Ev.cast (Ev.now _) ?_
    simpa using idxM_has s t s.length 0 (by omega)
theorem spec_l00Has_l0 (s : List Int) (t : Int) (hl : s.length ≤ 1048576) : ∀ (d i : Nat), s.length - i = d → Ev (fun k => spec_l00Has.l0 k s t i) (hasM (s.drop i) t) := by
  intro d
  induction d with
  | zero =>
    intro i hd
    refine Ev.succ ?_
    simp only [spec_l00Has.l0]
    refine Ev.ite_neg (by omega) ?_
    rw [List.drop_of_length_le (by omega)]
    exact Ev.now _
  | succ d ih =>
    intro i hd
    have hi : i < s.length := by omega
    refine Ev.succ ?_
    simp only [spec_l00Has.l0]
    rw [w64 (x := (i : Int) + 1) (by omega) (by omega), List.drop_eq_getElem_cons hi, ← rd_at hi]
    refine Ev.ite_pos (by omega) (Ev.ite_pos (by omega) ?_)
    by_cases h : rd s i = t
    · refine Ev.ite_pos h (Ev.cast (Ev.now _) ?_)
      simp [hasM, h]
    · refine Ev.ite_neg h (Ev.cast (by simpa using ih (i + 1) (by omega)) ?_)
      simp [hasM, h]
theorem spec_l00Has_ev (s : List Int) (t : Int) (hl : s.length ≤ 1048576) : Ev (fun k => spec_l00Has.f k s t) (hasM s t) := by
  unfold spec_l00Has.f
  simpa using spec_l00Has_l0 s t hl s.length 0 (by omega)
theorem spec_l08Fits_any (x : S75) (m s : Int) (h3 : -1 ≤ x.f3) : spec_l08Fits.f x.f0 x.f1 x.f2 x.f3 x.f4 x.f5 m s = some (fitB x (Int.tmod m 1440) s) := by
  unfold spec_l08Fits.f fitB
  generalize Int.tmod m 1440 = q
  by_cases a : x.f3 ≥ 0
  · have a' : ¬ x.f3 = -1 := by omega
    by_cases b : x.f3 = s
    · by_cases c : x.f1 < x.f2 <;> by_cases d : x.f1 ≤ q <;> simp [a, a', b, c, d]
      all_goals (subst b; simp [a])
    · simp [a, a', b]
  · have a' : x.f3 = -1 := by omega
    by_cases c : x.f1 < x.f2 <;> by_cases d : x.f1 ≤ q <;> simp [a', c, d]
def canB (L : List S75) (un se m : Int) (ps : List Int) (i : Nat) : Bool := !(hasM ps i) && (fitB (rd_T75 L i) (Int.tmod m 1440) se && !(decide (un < m + (rd_T75 L i).f4)))
def loopP (V : Int → List Int → Int → Option Int) (L : List S75) (un se bud m : Int) (ps : List Int) : Nat → Nat → Int → Option Int
  | 0, _, n => some n
  | d + 1, i, n => if canB L un se m ps i = true then (if n = bud then none else (V (m + (rd_T75 L i).f4) (ps ++ [(i : Int)]) (n + 1)).bind fun n' => loopP V L un se bud m ps d (i + 1) n') else loopP V L un se bud m ps d (i + 1) n
def visP (L : List S75) (un se bud : Int) : Nat → Int → List Int → Int → Option Int
  | 0, _, _, n => some n
  | d + 1, m, ps, n => loopP (visP L un se bud d) L un se bud m ps L.length 0 n
def InB (bud n : Int) (r : Option Int) : Prop := ∀ x, r = some x → n ≤ x ∧ x ≤ bud
theorem loopP_in {V : Int → List Int → Int → Option Int} {L : List S75} {un se bud m : Int} {ps : List Int} (hV : ∀ m' ps' n, n ≤ bud → InB bud n (V m' ps' n)) : ∀ (d i : Nat) (n : Int), n ≤ bud → InB bud n (loopP V L un se bud m ps d i n)
  | 0, i, n, h => fun x e => by cases e; exact ⟨Int.le_refl _, h⟩
  | d + 1, i, n, h => by
    rw [loopP]
    split
    · split
      · exact fun x e => by cases e
      · intro x e
        obtain ⟨y, e1, e2⟩ := Option.bind_eq_some_iff.1 e
        have a := hV _ _ _ (by omega) y e1
        have b := loopP_in hV d (i + 1) y a.2 x e2
        exact ⟨by omega, b.2⟩
    · exact loopP_in hV d (i + 1) n h
theorem visP_in (L : List S75) (un se bud : Int) : ∀ (d : Nat) (m : Int) (ps : List Int) (n : Int), n ≤ bud → InB bud n (visP L un se bud d m ps n)
  | 0, m, ps, n, h => fun x e => by cases e; exact ⟨Int.le_refl _, h⟩
  | d + 1, m, ps, n, h => loopP_in (fun m' ps' n' h' => visP_in L un se bud d m' ps' n' h') _ _ _ h
structure ItOk (L : List S75) : Prop where
  len : L.length ≤ 12
  f3 : ∀ i : Nat, i < L.length → -1 ≤ (rd_T75 L i).f3
  f4 : ∀ i : Nat, i < L.length → 1 ≤ (rd_T75 L i).f4 ∧ (rd_T75 L i).f4 ≤ 240
theorem ItOk.of {L : List S75} (h : itemsB L = true) : ItOk L where
  len := by simp only [itemsB, Bool.and_eq_true, decide_eq_true_eq] at h; exact h.2
  f3 := itemsB_at h
  f4 := fun i hi => by
    simp only [itemsB, itsB, Bool.and_eq_true, List.all_eq_true] at h
    have := h.1 i (List.mem_range'_1.2 ⟨by omega, by omega⟩)
    simp only [itP, itB, inR, Bool.and_eq_true, decide_eq_true_eq] at this
    exact this.1.2.2.2.2.2.1
/-- What a call of the reference's search gives. -/
def outS (bud : Int) (r : Option Int) : Int × Int × Bool := (r.getD bud + 1, r.getD bud, r.isNone)
theorem spec_run_l0 (L : List S75) (un se bud m : Int) (ps : List Int) (V : Int → List Int → Int → Option Int) (ho : ItOk L) (hb : bud ≤ 20000) (hu : un ≤ 2879) (hm : 0 ≤ m) (hm2 : m ≤ 2879) (hp : (ps.length : Int) ≤ m)
    (hV : ∀ i : Nat, i < L.length → m + (rd_T75 L i).f4 ≤ un → ∀ n, 0 ≤ n → n ≤ bud → InB bud n (V (m + (rd_T75 L i).f4) (ps ++ [(i : Int)]) n) ∧ Ev (fun k => spec_l08Search_run.f k L un se bud (m + (rd_T75 L i).f4) (ps ++ [(i : Int)]) n n false) (outS bud (V (m + (rd_T75 L i).f4) (ps ++ [(i : Int)]) n))) :
    ∀ (d i : Nat) (n : Int), L.length - i = d → 0 ≤ n → n ≤ bud → Ev (fun k => spec_l08Search_run.l0 k L un se bud i m ps (n + 1) n false) (outS bud (loopP V L un se bud m ps d i n)) := by
  have hl := ho.len
  intro d
  induction d with
  | zero =>
    intro i n hd h0 h1
    refine Ev.succ ?_
    simp only [spec_l08Search_run.l0]
    exact Ev.ite_neg (by omega) (Ev.now _)
  | succ d ih =>
    intro i n hd h0 h1
    have hi : i < L.length := by omega
    obtain ⟨q1, q2⟩ := ho.f4 i hi
    have w7 : wrap64 ((i : Int) + 1) = ((i + 1 : Nat) : Int) := by rw [w64 (by omega) (by omega)]; omega
    have w8 : wrap64 (m + (rd_T75 L i).f4) = m + (rd_T75 L i).f4 := w64 (by omega) (by omega)
    have w9 : wrap64 (n + 1) = n + 1 := w64 (by omega) (by omega)
    refine Ev.succ ?_
    simp only [spec_l08Search_run.l0, w7, w8, w9]
    clear w7 w8 w9
    refine Ev.ite_pos (by omega) (Ev.ite_neg (by decide) (Ev.ite_pos (by omega) (Ev.bind (spec_l00Has_ev ps i (by omega)) ?_)))
    rw [loopP]
    cases g1 : hasM ps i with
    | true =>
      rw [if_neg (by simp [canB, g1])]
      exact Ev.ite_pos rfl (ih (i + 1) n (by omega) h0 h1)
    | false =>
      refine Ev.ite_neg (by decide) (Ev.bindc (spec_l08Fits_any _ m se (ho.f3 i hi)) ?_)
      cases g2 : fitB (rd_T75 L i) (Int.tmod m 1440) se with
      | false =>
        rw [if_neg (by simp [canB, g1, g2])]
        exact Ev.ite_neg (by decide) (ih (i + 1) n (by omega) h0 h1)
      | true =>
        refine Ev.ite_pos rfl ?_
        by_cases c : un < m + (rd_T75 L i).f4
        · rw [if_neg (by simp [canB, g1, g2, c])]
          exact Ev.ite_pos c (ih (i + 1) n (by omega) h0 h1)
        · rw [if_pos (by simp [canB, g1, g2]; omega)]
          refine Ev.ite_neg c ?_
          by_cases e : n = bud
          · rw [if_pos e]
            subst e
            exact Ev.ite_pos rfl (Ev.now _)
          · rw [if_neg e]
            obtain ⟨hin, hv⟩ := hV i hi (by omega) (n + 1) (by omega) (by omega)
            refine Ev.ite_neg e (Ev.ite_pos (by omega) (Ev.bind hv ?_))
            cases g3 : V (m + (rd_T75 L i).f4) (ps ++ [(i : Int)]) (n + 1) with
            | none =>
              show Ev (fun k => spec_l08Search_run.l0 k L un se bud ((i + 1 : Nat) : Int) m ps (bud + 1) bud true) (bud + 1, bud, true)
              refine Ev.succ ?_
              simp only [spec_l08Search_run.l0]
              by_cases c5 : ((i + 1 : Nat) : Int) < (L.length : Int)
              · exact Ev.ite_pos c5 (Ev.ite_pos (by simp) (Ev.now _))
              · exact Ev.ite_neg c5 (Ev.now _)
            | some n' =>
              have a := hin n' g3
              exact ih (i + 1) n' (by omega) (by omega) a.2
theorem spec_run_ev (L : List S75) (un se bud : Int) (ho : ItOk L) (hb : bud ≤ 20000) (hu : un ≤ 2879) : ∀ (d : Nat) (m : Int) (ps : List Int) (n : Int), (un - m).toNat < d → 0 ≤ m → m ≤ 2879 → (ps.length : Int) ≤ m → 0 ≤ n → n ≤ bud →
    Ev (fun k => spec_l08Search_run.f k L un se bud m ps n n false) (outS bud (visP L un se bud d m ps n)) := by
  intro d
  induction d with
  | zero => intro m ps n h; omega
  | succ d ih =>
    intro m ps n h hm hm2 hp h0 h1
    refine Ev.succ ?_
    simp only [spec_l08Search_run.f]
    rw [w64 (x := n + 1) (by omega) (by omega), visP]
    refine Ev.ite_pos (by omega) ?_
    refine spec_run_l0 L un se bud m ps (visP L un se bud d) ho hb hu hm hm2 hp (fun i hi hc n' h0' h1' => ?_) L.length 0 n (by omega) h0 h1
    obtain ⟨q1, q2⟩ := ho.f4 i hi
    exact ⟨visP_in L un se bud d _ _ _ h1', ih _ _ _ (by omega) (by omega) (by omega) (by simp; omega) h0' h1'⟩
/-- What a call of the program's search leaves of the budget. -/
def outI (bud : Int) (r : Option Int) : Int := match r with | none => -1 | some n => bud - n
theorem impl_visit8_l0 (L : List S75) (un se bud m : Int) (ps : List Int) (V : Int → List Int → Int → Option Int) (ho : ItOk L) (hb : bud ≤ 20000) (hu : un ≤ 2879) (hm : 0 ≤ m) (hm2 : m ≤ 2879) (hp : (ps.length : Int) ≤ m)
    (hV : ∀ i : Nat, i < L.length → m + (rd_T75 L i).f4 ≤ un → ∀ n, 0 ≤ n → n ≤ bud → InB bud n (V (m + (rd_T75 L i).f4) (ps ++ [(i : Int)]) n) ∧ Ev (fun k => impl_programmeSearch_visit.f k L un se (m + (rd_T75 L i).f4) (bud - n) (ps ++ [(i : Int)])) (outI bud (V (m + (rd_T75 L i).f4) (ps ++ [(i : Int)]) n))) :
    ∀ (d i : Nat) (n : Int), L.length - i = d → 0 ≤ n → n ≤ bud → Ev (fun k => impl_programmeSearch_visit.l0 k L un se i m (bud - n) ps) (outI bud (loopP V L un se bud m ps d i n)) := by
  have hl := ho.len
  intro d
  induction d with
  | zero =>
    intro i n hd h0 h1
    refine Ev.succ ?_
    simp only [impl_programmeSearch_visit.l0]
    exact Ev.ite_neg (by omega) (Ev.now _)
  | succ d ih =>
    intro i n hd h0 h1
    have hi : i < L.length := by omega
    obtain ⟨q1, q2⟩ := ho.f4 i hi
    have w7 : wrap64 ((i : Int) + 1) = ((i + 1 : Nat) : Int) := by rw [w64 (by omega) (by omega)]; omega
    have w8 : wrap64 (m + (rd_T75 L i).f4) = m + (rd_T75 L i).f4 := w64 (by omega) (by omega)
    have w9 : wrap64 (bud - n - 1) = bud - (n + 1) := by rw [w64 (by omega) (by omega)]; omega
    refine Ev.succ ?_
    simp only [impl_programmeSearch_visit.l0, w7, w8, w9]
    clear w7 w8 w9
    refine Ev.ite_pos (by omega) (Ev.ite_pos (by omega) (Ev.bind (slices_Contains_ev ps i (by omega)) ?_))
    rw [loopP]
    cases g1 : hasM ps i with
    | true =>
      rw [if_neg (by simp [canB, g1])]
      exact Ev.ite_pos rfl (ih (i + 1) n (by omega) h0 h1)
    | false =>
      refine Ev.ite_neg (by decide) (Ev.bind (impl_Item_fits_ev _ (Int.tmod m 1440) se) ?_)
      cases g2 : fitB (rd_T75 L i) (Int.tmod m 1440) se with
      | false =>
        rw [if_neg (by simp [canB, g1, g2])]
        exact Ev.ite_neg (by decide) (ih (i + 1) n (by omega) h0 h1)
      | true =>
        refine Ev.ite_pos rfl ?_
        by_cases c : un < m + (rd_T75 L i).f4
        · rw [if_neg (by simp [canB, g1, g2, c])]
          exact Ev.ite_pos c (ih (i + 1) n (by omega) h0 h1)
        · rw [if_pos (by simp [canB, g1, g2]; omega)]
          refine Ev.ite_neg c ?_
          by_cases e : n = bud
          · rw [if_pos e]
            subst e
            exact Ev.ite_pos (by omega) (Ev.cast (Ev.now _) (by show n - (n + 1) = -1; omega))
          · rw [if_neg e]
            obtain ⟨hin, hv⟩ := hV i hi (by omega) (n + 1) (by omega) (by omega)
            refine Ev.ite_neg (by omega) (Ev.ite_pos (by omega) (Ev.bind hv ?_))
            cases g3 : V (m + (rd_T75 L i).f4) (ps ++ [(i : Int)]) (n + 1) with
            | none => exact Ev.ite_pos (by show (-1 : Int) < 0; omega) (Ev.now _)
            | some n' =>
              have a := hin n' g3
              exact Ev.ite_neg (by show ¬ bud - n' < 0; omega) (ih (i + 1) n' (by omega) (by omega) a.2)
theorem impl_visit8_ev (L : List S75) (un se bud : Int) (ho : ItOk L) (hb : bud ≤ 20000) (hu : un ≤ 2879) : ∀ (d : Nat) (m : Int) (ps : List Int) (n : Int), (un - m).toNat < d → 0 ≤ m → m ≤ 2879 → (ps.length : Int) ≤ m → 0 ≤ n → n ≤ bud →
    Ev (fun k => impl_programmeSearch_visit.f k L un se m (bud - n) ps) (outI bud (visP L un se bud d m ps n)) := by
  intro d
  induction d with
  | zero => intro m ps n h; omega
  | succ d ih =>
    intro m ps n h hm hm2 hp h0 h1
    refine Ev.succ ?_
    simp only [impl_programmeSearch_visit.f]
    rw [visP]
    refine Ev.ite_pos (by omega) ?_
    refine impl_visit8_l0 L un se bud m ps (visP L un se bud d) ho hb hu hm hm2 hp (fun i hi hc n' h0' h1' => ?_) L.length 0 n (by omega) h0 h1
    obtain ⟨q1, q2⟩ := ho.f4 i hi
    exact ⟨visP_in L un se bud d _ _ _ h1', ih _ _ _ (by omega) (by omega) (by omega) (by simp; omega) h0' h1'⟩
end Go.Proofs.Ytgdiabfmjcejdaa.P
end
