/- Texts of this seat, merged: QImplBeststrings, QLawsEqint64S, QLawsEqnote, QLawsEqnotes. -/
import Derived.Test.YtgdiabfmjcejdaaGBS1
import Derived.Test.YtgdiabfmjcejdaaGBS2
import Derived.Test.YtgdiabfmjcejdaaGBS3
section
namespace Go.Proofs.Ytgdiabfmjcejdaa.P
open Go.RowKit Go.Proofs.YtgdiabfmjcejdaaW.PrintWords Go.Proofs.YtgdiabfmjcejdaaW.PrintLast Go.Proofs.YtgdiabfmjcejdaaW.PrintMore
attribute [local go_sem] max2_int min2_int max_two min_two max_three min_three max_four min_four   -- for this text's walks alone
set_option linter.unusedVariables false
set_option linter.unusedSimpArgs false

/-! ### impl_BestStrings: function 31 (given) -/
def impl_BestStrings.l1 : Nat → List Int → Int → Int → (Int → Int) → Option (Int → Int)
  | 0, _, _, _, _ => none
  | k + 1, u, p, i, f => if i < (u.length : Int) then (if 0 ≤ i then ((impl_resonanceOf.f k [p] (rd u i)).bind fun r => impl_BestStrings.l1 k u p (i + 1) (fun x => if x = p then wrap64 (f p + r) else f x)) else none) else some f
def impl_BestStrings.l0 : Nat → List S84 → List Int → (Int → Int) → Int → Option (List Int × (Int → Int))
  | 0, _, _, _, _ => none
  | k + 1, m, ls, f, p => if p ≤ 23 then (if -12 ≤ p ∧ ls.length < 10000 then ((impl_unitsOf.f k m).bind fun u => if u.length ≤ 1000000 then ((impl_BestStrings.l1 k u p 0 f).bind fun f1 => impl_BestStrings.l0 k m (ls ++ [p]) f1 (p + 1)) else none) else none) else some (ls, f)
def impl_BestStrings.f (k : Nat) (m : List S84) (count : Int) : Option (List Int × Int) := (impl_ValidMelody.f k m).bind fun v => if v = false then some ([], 1) else ((impl_within.f count 0 16).bind fun t => if t = false then some ([], 2) else ((impl_BestStrings.l0 k m [] (fun _ => 0) (-12)).bind fun z => if 0 < z.1.length ∧ z.1.length < 1000000 then ((slices_stableCmpFunc_int64.f k (fun a b => cmpI (z.2 b) (z.2 a)) z.1 (z.1.length : Int)).bind fun ys => if 0 ≤ count ∧ count ≤ (z.1.length : Int) then ((slices_Clone_int64_int64.f (ys.take count.toNat)).bind fun zs => some (zs.mergeSort (fun x y => decide (x ≤ y)), 0)) else none) else none))
/-- What stands while the sounds are told: the box gx holds the map bm, which holds f; the list is the call's own. -/
def Bst (w W : World) (gx bm n : Nat) (f : Int → Int) (v : Value) (ls : List Int) : Prop :=
  W.heap[gx]? = some (.cells #[.map (some bm)] 88 (0, 0)) ∧ MapI W bm n f ∧ Kd.R (Kd.int .i64) 2 W w.heap.size (fun k => k ≠ gx ∧ k ≠ bm) v ls ∧ Below w.heap.size w W ∧ w.heap.size ≤ gx ∧ w.heap.size ≤ bm ∧ bm ≠ gx ∧ ∀ i, Okv (rd ls i)
def Bs0 (w W : World) (gx bm : Nat) : Prop :=
  W.heap[gx]? = some (.cells #[.map none] 88 (0, 0)) ∧ MapI W bm 0 (fun _ => 0) ∧ Below w.heap.size w W ∧ w.heap.size ≤ gx ∧ w.heap.size ≤ bm ∧ bm ≠ gx
theorem Bst.start {w W W1 : World} {gx bm : Nat} (h1 : Below w.heap.size w W) (h2 : MapI W bm 0 (fun _ => 0)) (h3 : w.heap.size ≤ bm) (hg : gx = W.heap.size) (hb : W1.heap[gx]? = some (.cells #[.map none] 88 (0, 0))) (h4 : Below W.heap.size W W1) : Bs0 w W1 gx bm :=
  ⟨hb, h2.below h4, below_step h1 h4, by rw [hg]; exact h1.size, h3, by rw [hg]; exact Nat.ne_of_lt h2.lt⟩
theorem Bs0.store {w W : World} {gx bm : Nat} (h : Bs0 w W gx bm) : Bst w (W.setCell ⟨gx, 0, none⟩ (.map (some bm))) gx bm 0 (fun _ => 0) (.slice none 0 0) [] :=
  ⟨blk_put h.1 0 _ rfl, h.2.1.move (fun _ => Below.heap_setCell W ⟨gx, 0, none⟩ _ bm h.2.2.2.2.2), Kd.R_nil _ _ _ _ _, below_set h.2.2.1 h.2.2.2.1, h.2.2.2.1, h.2.2.2.2.1, h.2.2.2.2.2, fun i => (by simp [rd, Okv]; decide)⟩
section
variable {w W W1 : World} {gx bm n : Nat} {f : Int → Int} {v : Value} {ls : List Int}
theorem Bst.below (h : Bst w W gx bm n f v ls) (hb : Below W.heap.size W W1) : Bst w W1 gx bm n f v ls := ⟨blk_below h.1 hb, h.2.1.below hb, Kd.R_below h.2.2.1 hb, below_step h.2.2.2.1 hb, h.2.2.2.2⟩
theorem Bst.drew (h : Bst w W gx bm n f v ls) : Bst w W.drew gx bm n f v ls := h.below (below_drew1 (Below.refl _ _))
theorem Bst.map (h : Bst w W gx bm n f v ls) : MapI W bm n f := h.2.1
theorem Bst.row (h : Bst w W gx bm n f v ls) : Kd.R (Kd.int .i64) 2 W w.heap.size (fun k => k ≠ gx ∧ k ≠ bm) v ls := h.2.2.1
theorem Bst.bel (h : Bst w W gx bm n f v ls) : Below w.heap.size w W := h.2.2.2.1
theorem Bst.cell (h : Bst w W gx bm n f v ls) : W.cell? ⟨gx, 0, none⟩ = some (.map (some bm)) := (blk_cell h.1 0).trans rfl
theorem Bst.wf (h : Bst w W gx bm n f v ls) : ∀ i, Okv (rd ls i) := h.2.2.2.2.2.2.2
theorem Bst.fresh (h : Bst w W gx bm n f v ls) : ∀ k, W.heap.size ≤ k → k ≠ gx ∧ k ≠ bm := fun k hk => ⟨fun e_ => by subst e_; exact Nat.not_lt.2 hk (blk_lt h.1), fun e_ => by subst e_; exact Nat.not_lt.2 hk h.2.1.lt⟩
theorem Bst.put {g : Int → Int} (h : Bst w W gx bm n f v ls) (hm : MapI W1 bm (n + 1) g) (hg : W.grownBy W1 (some bm)) : Bst w W1 gx bm (n + 1) g v ls :=
  ⟨blk_grown h.1 hg (fun e_ => h.2.2.2.2.2.2.1 (by cases e_; rfl)), hm, Kd.R_grown h.2.2.1 hg (fun k hk e_ => hk.2 (by cases e_; rfl)), h.2.2.2.1.grown hg h.2.2.2.1.size (fun k e_ => by cases e_; exact h.2.2.2.2.2.1), h.2.2.2.2⟩
theorem okv_app {ls : List Int} {x : Int} (h : ∀ i, Okv (rd ls i)) (hx : Okv x) : ∀ i, Okv (rd (ls ++ [x]) i) := fun i => by
  have h0 : Okv 0 := by unfold Okv; decide
  unfold rd
  rw [List.getD_eq_getElem?_getD]
  rcases Nat.lt_trichotomy i.toNat ls.length with hl | hl | hl
  · rw [List.getElem?_append_left hl]
    have := h i
    unfold rd at this
    rwa [List.getD_eq_getElem?_getD] at this
  · rw [List.getElem?_append_right (Nat.le_of_eq hl.symm)]
    simpa [hl] using hx
  · rw [List.getElem?_append_right (Nat.le_of_lt hl)]
    rw [List.getElem?_eq_none (by simp; omega)]
    exact h0
theorem Bst.app (h : Bst w W gx bm n f v ls) {v1 : Value} {x : Int} (ho : Kd.R (Kd.int .i64) 2 W1 w.heap.size (fun k => k ≠ gx ∧ k ≠ bm) v1 (ls ++ [x])) (hx : Okv x) (hb : Below w.heap.size w W1) (hg : W.grownBy W1 v.ownBlock) : Bst w W1 gx bm n f v1 (ls ++ [x]) :=
  ⟨blk_grown h.1 hg (fun e_ => (h.2.2.1.1 gx e_.symm).1 rfl), h.2.1.grown hg (fun e_ => (h.2.2.1.1 bm e_.symm).2 rfl), ho, hb, h.2.2.2.2.1, h.2.2.2.2.2.1, h.2.2.2.2.2.2.1, okv_app h.wf hx⟩
end
theorem map_event {ops : Array Oper} {rest : List Oper} {o : Oper} {a : Act} {Q : Exit → Act → World → Prop} {W : World} (hgd : o.guard = none) {N : Tmp} (_hd : o.dst = some N) (hrun : (execOp a.eval o).run Try.prog W = .ok (.value (.map (some W.heap.size))) (W.alloc (.map #[] 0)))
    (h : ∀ g, g = W.heap.size → ∀ w1, MapI w1 g 0 (fun _ => 0) → Below W.heap.size W w1 → wpList Try.prog ops Q rest (a.put o.dst (.map (some g))) w1) : wpList Try.prog ops Q (o :: rest) a W :=
  Kd.event_run hgd hrun (h _ rfl _ (MapI.made W) (below_alloc (Below.refl _ _) _))
theorem R_slice0 {W : World} {e base : Nat} {ok : Nat → Prop} {v : Value} {xs : List Int} (h : Kd.R (Kd.int .i64) e W base ok v xs) (hl : 0 < xs.length) : ∃ g c, v = .slice (some ⟨g, 0, none⟩) xs.length c ∧ ok g ∧ base ≤ g := by
  obtain ⟨ad, c, e1⟩ := Kd.R_slice1 h hl
  obtain ⟨h0, inner, ho, hr⟩ := h
  rcases ho.2 with ⟨e2, _⟩ | ⟨g, cap, cur, e2, hb, _⟩
  · rw [e1] at e2
    cases e2
  · rw [e1] at e2
    injection e2 with e3 e4 e5
    injection e3 with e6
    subst e6
    exact ⟨g, c, e1, h0 g (by rw [e1]; rfl), hb⟩
theorem units_at {w W W1 : World} {gx bm n : Nat} {f : Int → Int} {v v1 : Value} {ls u : List Int} (h : Bst w W gx bm n f v ls) (ho : Kd.R (Kd.int .i64) 2 W1 W.heap.size (fun _ => True) v1 u) : Kd.R (Kd.int .i64) 2 W1 w.heap.size (fun k => k ≠ bm) v1 u :=
  Kd.R_lower (Kd.R_mono (Kd.R_bound ho) (fun k hk e_ => Nat.not_lt.2 hk.2.1 (by rw [e_]; exact h.map.lt))) h.bel.size
theorem less_at {w W : World} {gx bm n g : Nat} {f : Int → Int} {v : Value} {ls : List Int} (h : Bst w W gx bm n f v ls) (hok : g ≠ gx ∧ g ≠ bm) : ∀ W' x y, Okv x → Okv y → Kept W W' (fun k => k = g) → Calls Try.prog 65 (#[.int .i64 x, .int .i64 y] ++ #[.pointer (some ⟨gx, 0, none⟩)]) W' fun e w' => e = .returned (.int .i64 (cmpI (f y) (f x))) ∧ Drawn0 W' w' :=
  fun W' x y hx hy hk => impl_BestStrings_1.calls (h.map.kept hk (fun e_ => hok.2 e_.symm)) ((blk_cell (blk_kept h.1 hk (fun e_ => hok.1 e_.symm)) 0).trans rfl) x y hx hy
theorem Okv.of {p : Int} (h0 : -12 ≤ p) (h1 : p ≤ 23) : Okv p := WalkArith.wf_i64 (by omega)
section
open Go.RowKit Go.Maps Go.Sort Go.Shelf Go.Proofs
theorem reps_ints {xs : List Int} {cs : List Value} (h : Reps (fun x c => c = [Value.int .i64 x]) 1 xs cs) : cs = xs.map (Value.int .i64) := by
  apply List.ext_getElem?
  intro j
  by_cases hj : j < xs.length
  · have h2 := h.2 j xs[j] (List.getElem?_eq_getElem hj)
    have h4 : cs[j]? = some (.int .i64 xs[j]) := by
      have h3 : ((cs.drop (j * 1)).take 1)[0]? = some (.int .i64 xs[j]) := by rw [h2]; rfl
      simpa using h3
    rw [h4]
    simp [hj]
  · have h1 := h.1
    rw [List.getElem?_eq_none (by omega), List.getElem?_eq_none (by simp; omega)]
theorem sort_at {W : World} {base n c : Nat} {A : Option Addr} {zs : List Int} (h : Kd.R (Kd.int .i64) 2 W base (fun _ => True) (.slice A n c) zs) (hn : n ≤ 1000000) : Calls Try.prog 68 #[.slice A n c] W fun e w' => e = .returned (.tuple #[]) ∧ Kd.R (Kd.int .i64) 2 w' base (fun _ => True) (.slice A n c) (zs.mergeSort (fun x y => decide (x ≤ y))) ∧ ∀ w : World, Below w.heap.size w W → w.heap.size ≤ base → Below w.heap.size w w' := by
  have hl := (Kd.R_reads' h).1
  subst hl
  obtain ⟨h0, inner, ho, hr⟩ := h
  have hi := reps_ints hr
  subst hi
  rcases ho.2 with ⟨e1, hz⟩ | ⟨gb, cap, cur, e1, hbase, hgb, r1, r2, r3, r4⟩
  · injection e1 with e2 e3 e4
    have hss : zs = [] := List.eq_nil_of_length_eq_zero e3
    subst hss e2 e4
    refine (show Calls Try.prog 68 #[.slice none 0 0] W _ from AnyM.slices_Sort_int_none laySort none 0 W).mono ?_
    rintro e w' ⟨rfl, rfl⟩
    exact ⟨rfl, by simpa using Kd.R_nil _ _ _ _ _, fun w h _ => h⟩
  · injection e1 with e2 e3 e4
    subst e2 e4
    have hH : Holds encZ W gb 0 zs.toArray := holds_of_block_i hgb (by have r5 := r4; rw [show zs.length * (Kd.int IntKind.i64).sz = zs.length from Nat.mul_one _] at r5; exact r5)
    have hgl : gb < W.heap.size := (Array.getElem?_eq_some_iff.1 hgb).1
    have hsz : zs.length < 4611686018427387904 := by omega
    refine (show Calls Try.prog 68 #[.slice (some ⟨gb, 0, none⟩) zs.length c] W _ from AnyM.slices_Sort_int laySort gb 0 c zs W hH hgl hsz).mono ?_
    rintro e w' ⟨rfl, nn, os, rfl⟩
    refine ⟨rfl, ?_, fun w hb hle => hb.grown (grownBy_sorted_i _) hb.size (fun j hj => by cases hj; exact Nat.le_trans hle hbase)⟩
    exact Kd.R_of_own (enc := Value.int .i64) (h1 := fun _ => rfl) (by rw [List.length_mergeSort]; exact ownsRow_sorted_i (by simp) hbase hgb r1 r2 r3) (fun _ _ => trivial)
theorem clone_len {l zs : List Int} (h : slices_Clone_int64_int64.f l = some zs) : zs.length = l.length := by
  unfold slices_Clone_int64_int64.f at h
  simp only [Option.bind_some] at h
  split at h
  · obtain rfl := Option.some.inj h
    simp
  · cases h
theorem clone_at {W : World} {A : Option Addr} {m c : Nat} {l zs : List Int} (hl : m = l.length) (hr : Kd.C (Kd.int .i64) W A l.length l) (hc : m ≤ c) (h : slices_Clone_int64_int64.f l = some zs) : Calls Try.prog 67 #[.slice A m c] W fun e w' => ∃ v0_ : Value, e = .returned v0_ ∧ Kd.R (Kd.int .i64) 2 w' W.heap.size (fun _ => True) v0_ zs ∧ Below W.heap.size W w' := by
  subst hl
  exact slices_Clone_int64_int64.calls A c l zs W hr hc h
end
theorem Okv.wrap (x : Int) : Okv (wrap64 x) := wrap64_wf _
set_option maxHeartbeats 16000000 in
set_option maxRecDepth 100000 in
theorem impl_BestStrings.calls (k : Nat) (A0 : Option Addr) (c0 : Nat) (l0 : List S84) (a1 : Int) (r1 : List Int) (r2 : Int) (w : World) (hr0 : Kd.C k84 w A0 l0.length l0) (hc0 : l0.length ≤ c0) (h : impl_BestStrings.f k l0 a1 = some (r1, r2)) :
    Calls Try.prog 31 #[.slice A0 l0.length c0, .int .i64 a1] w fun e w' => ∃ v0_ : Value, e = .returned (.tuple #[v0_, .int .i64 r2]) ∧ Kd.R (Kd.int .i64) 2 w' w.heap.size (fun _ => True) v0_ r1 ∧ Below w.heap.size w w' := by
  have HR0 := Aside0.mk hr0
  have HC0 := Aside0.mk hc0
  clear hr0 hc0
  have hmm := @run_makeMap Try.prog
  unfold impl_BestStrings.f at h
  replace h := Option.bind_eq_some_iff.mp h
  obtain ⟨vt, y_, h⟩ := h
  have E0 := Aside0.mk y_
  clear y_
  cases vt
  · obtain ⟨rfl, rfl⟩ : [] = r1 ∧ 1 = r2 := by simpa using h
    clear h hmm
    have Q0 := trivial
    go_enter Try.func31, Try.ntmps31
    go_wp2_with (first | ((clear Q0); (with_reducible refine gate_callee (f := 61) rfl ?_); refine goesL_ (some _) rfl rfl Try.func61 (by kernel_rfl) rfl #[.slice A0 l0.length c0] rfl aw_ ?_; (with_reducible refine (impl_ValidMelody.calls k _ _ l0 false _ ?sp ?tp E0.out).mono ?_); (case sp => exact HR0.out); (case tp => exact HC0.out); rintro e w1 ⟨rfl, hb⟩; refine ⟨_, rfl, ?_⟩; have HB := Aside0.mk hb; clear hb; have Q1 := trivial))
    go_ret2
    exact ⟨_, rfl, Kd.R_nil _ _ _ _ _, HB.out⟩
  replace h := (if_neg (by simp)).symm.trans h
  replace h := Option.bind_eq_some_iff.mp h
  obtain ⟨tt, y_, h⟩ := h
  have E1 := Aside0.mk y_
  clear y_
  cases tt
  · obtain ⟨rfl, rfl⟩ : [] = r1 ∧ 2 = r2 := by simpa using h
    clear h hmm
    have Q0 := trivial
    go_enter Try.func31, Try.ntmps31
    go_wp2_with (first | ((clear Q0); (with_reducible refine gate_callee (f := 61) rfl ?_); refine goesL_ (some _) rfl rfl Try.func61 (by kernel_rfl) rfl #[.slice A0 l0.length c0] rfl aw_ ?_; (with_reducible refine (impl_ValidMelody.calls k _ _ l0 true _ ?sp ?tp E0.out).mono ?_); (case sp => exact HR0.out); (case tp => exact HC0.out); rintro e w1 ⟨rfl, hb⟩; refine ⟨_, rfl, ?_⟩; have HB := Aside0.mk hb; clear hb; have Q1 := trivial) | ((clear Q1); (with_reducible refine gate_callee (f := 46) rfl ?_); refine goesL_ (some _) rfl rfl Try.func46 (by kernel_rfl) rfl #[.int .i64 a1, .int .i64 0, .int .i64 16] rfl aw_ ?_; (with_reducible refine (impl_within.calls a1 0 16 false _ E1.out).mono ?_); rintro e w2 ⟨rfl, hb_⟩; refine ⟨_, rfl, ?_⟩; have hb := below_step HB.out (below_of hb_); clear HB hb_; have HB := Aside0.mk hb; clear hb; have Q2 := trivial))
    go_ret2
    exact ⟨_, rfl, Kd.R_nil _ _ _ _ _, HB.out⟩
  replace h := (if_neg (by simp)).symm.trans h
  replace h := Option.bind_eq_some_iff.mp h
  obtain ⟨z, y_, h⟩ := h
  have H' := Aside0.mk y_
  have HT := Aside0.mk h
  clear h y_
  have Q0 := trivial
  go_enter Try.func31, Try.ntmps31
  go_wp2_with (first | ((clear Q0); (with_reducible refine gate_callee (f := 61) rfl ?_); refine goesL_ (some _) rfl rfl Try.func61 (by kernel_rfl) rfl #[.slice A0 l0.length c0] rfl aw_ ?_; (with_reducible refine (impl_ValidMelody.calls k _ _ l0 true _ ?sp ?tp E0.out).mono ?_); (case sp => exact HR0.out); (case tp => exact HC0.out); rintro e w1 ⟨rfl, hb⟩; refine ⟨_, rfl, ?_⟩; have HB := Aside0.mk hb; clear hb; have Q1 := trivial) | ((clear Q1); (with_reducible refine gate_callee (f := 46) rfl ?_); refine goesL_ (some _) rfl rfl Try.func46 (by kernel_rfl) rfl #[.int .i64 a1, .int .i64 0, .int .i64 16] rfl aw_ ?_; (with_reducible refine (impl_within.calls a1 0 16 true _ E1.out).mono ?_); rintro e w2 ⟨rfl, hb_⟩; refine ⟨_, rfl, ?_⟩; have hb := below_step HB.out (below_of hb_); clear HB hb_; have HB := Aside0.mk hb; clear hb; have Q2 := trivial) | ((clear Q2); (with_reducible refine gate_dst (N := 19) rfl ?_); refine map_event ?hg (N := 19) ?hd ?hr ?_; (case hd => rfl); (case hg => rfl); (case hr => first | (go_simp; done) | (go_simp; rfl)); intro bm hbm w3 hm hb; have GM := Aside0.mk (by rw [hbm]; exact HB.out.size : w.heap.size ≤ bm); have hB_ := below_step HB.out hb; clear HB hb hbm; have HB := Aside0.mk hB_; have HM := Aside0.mk hm; clear hm hB_; have Q3 := trivial) | ((clear Q3); (with_reducible refine gate_dst (N := 6) rfl ?_); refine box_event ?hg (N := 6) ?hd (cs := #[.map none]) (t := 88) ?hr ?_; (case hd => rfl); (case hg => rfl); (case hr => first | (go_simp; done) | (go_simp; rfl)); intro gx hg w4 hbox hb; have hi_ := Bst.start HB.out HM.out GM.out hg hbox hb; have hq_ := blk_frozen hbox 0; have hc_ := blk_cell hbox 0; clear HB HM GM hg hb hbox; have HI := Aside0.mk hi_; clear hi_; have Q4 := trivial) | ((clear Q4); (with_reducible refine gate_store (t := 88) (p := 6) rfl ?_); refine store_event (t := 88) (p := 6) (v := ?vo_w) (w1 := World.setCell w4 ⟨gx, 0, none⟩ (.map (some bm))) ?hg ?ho ?hn ?hr ?_; (case ho => rfl); (case hg => rfl); (case hn => rfl); (case hr => first | (go_simp; done) | (go_simp; rfl)); intro w5 hw_; have hi_ := HI.out.store; rw [← hw_] at hi_; clear HI hw_ hq_ hc_; have HI := Aside0.mk hi_; clear hi_; have Q5 := trivial))
  go_loopg [7, 8] k (fun kq v7 v8 w' => ∃ (ls : List Int) (f : Int → Int) (p : Int) (n : Nat), v8 = .int .i64 p ∧ Aside0 (impl_BestStrings.l0 kq l0 ls f p = some z) ∧ Aside0 (kq ≤ k) ∧ Aside0 (Bst w w' gx bm n f v7 ls) ∧ Aside0 ((n : Int) ≤ (p + 12) * 1000000 ∧ -12 ≤ p ∧ p ≤ 24))
  case atStart => exact ⟨[], (fun _ => 0), -12, 0, (by first | rfl | (simp; done)), H', ⟨Nat.le_refl _⟩, HI, ⟨by omega⟩⟩
  case round =>
    clear H' HI hmm
    obtain ⟨ls, f, p, n, rfl, HA, HK1, HI, HN⟩ := hrel
    cases gk with
    | zero => exact absurd HA.out (by simp [impl_BestStrings.l0])
    | succ k1 =>
      have H := HA.out
      clear HA
      simp only [impl_BestStrings.l0] at H
      obtain ⟨Al, cl, el⟩ := Kd.R_slice HI.out.row
      subst el
      by_cases cp : p ≤ 23
      · rw [if_pos cp] at H
        have cp0 := decide_eq_true cp
        by_cases cq : -12 ≤ p ∧ ls.length < 10000
        rotate_left
        · rw [if_neg cq] at H
          exact absurd H (by simp)
        rw [if_pos cq] at H
        replace H := Option.bind_eq_some_iff.mp H
        obtain ⟨u, y_, H⟩ := H
        have E2 := Aside0.mk y_
        clear y_
        by_cases cu : u.length ≤ 1000000
        rotate_left
        · rw [if_neg cu] at H
          exact absurd H (by simp)
        rw [if_pos cu] at H
        replace H := Option.bind_eq_some_iff.mp H
        obtain ⟨f1, y_, H⟩ := H
        have E3 := Aside0.mk y_
        have HP := Aside0.mk (Okv.of cq.1 cp)
        have CQ := Aside0.mk (And.intro cq cp)
        have CU := Aside0.mk cu
        obtain ⟨ls1, hl1⟩ : ∃ l_, ls ++ [p] = l_ := ⟨_, rfl⟩
        rw [hl1] at H
        have HL1 := Aside0.mk hl1
        clear hl1
        have H := Aside0.mk H
        clear y_ cp cq cu
        obtain ⟨pn, hpn⟩ : ∃ z_ : Int, p + 1 = z_ := ⟨_, rfl⟩
        have hpw : (IntKind.i64.wrap (p + 1)) = pn := (i64_w _).trans ((by have := CQ.out; unfold wrap64; omega : wrap64 (p + 1) = p + 1).trans hpn)
        have HPN := Aside0.mk hpn
        clear hpn
        have Q0 := trivial
        go_wp2_with (first | ((clear Q0); (with_reducible refine gate_builtin (b := .append) (xs := #[.tmp 24, .tmp 26]) rfl ?_); at_builtin; refine Kd.R_append (Kd.int .i64) (w0 := w) w.heap.size rfl (.tmp 24) (.tmp 26) 22 2 (.int .i64 0) 8 rfl Try.underlying22 info2 rfl (by decide) (by omega) (.slice Al ls.length cl) ls p [.int .i64 p] (fun k_ => k_ ≠ gx ∧ k_ ≠ bm) (fun _ => False) rfl rfl ?aP (fun _ hk => hk.elim) ?aF ?aO ?aB ?aS ?aL ?_; (case aP => exact rfl); (case aB => exact HI.out.bel); (case aF => exact HI.out.fresh); (case aO => exact HI.out.row); (case aS => exact HI.out.bel.size); (case aL => have := CQ.out; omega); intro v9 w9 ho hb hg hat; have hi_ := HI.out.app ho HP.out hb hg; rw [HL1.out] at ho hi_; obtain ⟨An, cn, en_⟩ := Kd.R_slice ho; subst en_; clear HI ho hb hg hat; have HI := Aside0.mk hi_; clear hi_; have Q1 := trivial) | ((clear Q1); (with_reducible refine gate_callee (f := 62) rfl ?_); refine goesL_ (some _) rfl rfl Try.func62 (by kernel_rfl) rfl #[.slice A0 l0.length c0] rfl aw_ ?_; (with_reducible refine (impl_unitsOf.calls k1 _ _ l0 u _ ?sp ?tp E2.out).mono ?_); (case sp => exact Kd.C_below HR0.out HI.out.bel); (case tp => exact HC0.out); rintro e w10 ⟨v10, rfl, ho, hb⟩; refine ⟨_, rfl, ?_⟩; have hu_ := units_at HI.out ho; obtain ⟨Au, cu, eu⟩ := Kd.R_slice ho; subst eu; have hi_ := HI.out.below hb; clear HI ho hb; have HI := Aside0.mk hi_; have HU := Aside0.mk hu_; clear hi_ hu_; have Q2 := trivial))
        go_loopg [31] k1 (fun kq v31 w' => ∃ (i : Int) (f2 : Int → Int) (n2 : Nat), v31 = .int .i64 i ∧ Aside0 (impl_BestStrings.l1 kq u p i f2 = some f1) ∧ Aside0 (kq ≤ k1) ∧ Aside0 (Bst w w' gx bm n2 f2 (.slice An ls1.length cn) ls1) ∧ Aside0 (Kd.R (Kd.int .i64) 2 w' w.heap.size (fun k => k ≠ bm) (.slice Au u.length cu) u) ∧ Aside0 ((n2 : Int) ≤ (p + 12) * 1000000 + i ∧ i ≤ 1000000))
        case atStart => exact ⟨0, f, n, (by first | rfl | (simp; done)), E3, ⟨Nat.le_refl _⟩, HI, HU, ⟨by have := HN.out; omega⟩⟩
        case round =>
          clear E3 HI HU HN Q2
          obtain ⟨i, f2, n2, rfl, HA, HK2, HI, HU, HN⟩ := hrel
          cases gk with
          | zero => exact absurd HA.out (by simp [impl_BestStrings.l1])
          | succ k2 =>
            have G := HA.out
            clear HA
            simp only [impl_BestStrings.l1] at G
            by_cases ci : i < (u.length : Int)
            · rw [if_pos ci] at G
              have ci0 := decide_eq_true ci
              by_cases cz : 0 ≤ i
              rotate_left
              · rw [if_neg cz] at G
                exact absurd G (by simp)
              rw [if_pos cz] at G
              replace G := Option.bind_eq_some_iff.mp G
              obtain ⟨rs, y_, G⟩ := G
              have E4 := Aside0.mk y_
              have HG := Aside0.mk G
              clear y_ G
              obtain ⟨j, hj⟩ : ∃ z_ : Int, i + 1 = z_ := ⟨_, rfl⟩
              have hjw : (IntKind.i64.wrap (i + 1)) = j := (i64_w _).trans ((by have := CU.out; unfold wrap64; omega : wrap64 (i + 1) = i + 1).trans hj)
              have HJ := Aside0.mk hj
              have CI := Aside0.mk (And.intro cz ci)
              obtain ⟨ad, e_, hx_⟩ := Kd.at_int (Kd.R_reads' HU.out).2.2 i cz ci
              cases e_
              have cz0 := eq_true cz
              have cz1 := eq_true ci
              clear hj cz ci
              go_upto_region 14 with (fail)
              clear hx_ cz0 cz1
              obtain ⟨fp, hfp⟩ : ∃ z_ : Int, f2 p = z_ := ⟨_, rfl⟩
              obtain ⟨s, hs⟩ : ∃ z_ : Int, wrap64 (fp + rs) = z_ := ⟨_, rfl⟩
              have hsw : (IntKind.i64.wrap (fp + rs)) = s := (i64_w _).trans hs
              have HS := Aside0.mk hs
              have HF := Aside0.mk hfp
              clear hs hfp
              refine start_ (n := 9) (S := fun w' => w'.cell? ⟨gx, 0, none⟩ = some (.map (some bm)) ∧ (Instr.lookup 88 (.map (some bm)) (.int .i64 p) false).run Try.prog w' = .ok (.int .i64 fp) w') (ds := [8]) #[false, false, false, false, false, false, false, false, false] (by kernel_rfl) rfl rfl ⟨HI.out.drew.cell, (by rw [← HF.out]; exact HI.out.drew.map.look p HP.out)⟩ (fun hHeld => ?_)
              have hi_ := HI.out.drew
              have hu_ := Kd.R_drew HU.out
              obtain ⟨wd, hw_⟩ : ∃ W_, World.drew wr = W_ := ⟨_, rfl⟩
              rw [hw_] at hi_ hu_ hHeld ⊢
              clear hw_ HI HU
              have HI := Aside0.mk hi_
              have HU := Aside0.mk hu_
              clear hi_ hu_
              refine tv_ hHeld 0 35 #[true, false, false, false, false, false, false, false, false] ?_
              refine pv_ 1 36 #[true, true, false, false, false, false, false, false, false] ?_
              refine tv_ hHeld 2 37 #[true, true, true, false, false, false, false, false, false] ?_
              refine pv_ 3 38 #[true, true, true, true, false, false, false, false, false] ?_
              refine pv_ 5 40 #[true, true, true, true, false, true, false, false, false] ?_
              refine one_ (i := 4) (N := some 39) #[true, true, true, true, true, true, false, false, false] rfl rfl (by kernel_rfl) (by decide) (fun K_ hK => ?_)
              refine Kd.R_lit_step (Kd.int .i64) (w0 := wd) wd.heap.size 2 ?hw (N := 39) ?hd (xs := [p]) (inner := [.int .i64 p]) (ok := fun _ => True) (okp := fun _ => False) ?hr ?hp (fun _ hk => hk.elim) trivial (Below.refl _ _) (Nat.le_refl _) (by simp) ?_
              (case hw => rfl)
              (case hd => rfl)
              (case hr => first | (go_simp; done) | (go_simp; rfl))
              (case hp => exact Reps.one (show Kd.M (Kd.int .i64) _ _ _ p [.int .i64 p] from rfl) (Reps.none _ _))
              intro v39 w12 ho hb hg_ hnew_
              clear hg_ hnew_ hHeld
              obtain ⟨Al2, cl2, (en2_ : v39 = Value.slice Al2 1 cl2)⟩ := Kd.R_slice ho
              subst en2_
              have hi_ := HI.out.below hb
              have hu_ := Kd.R_below HU.out hb
              clear HI HU hb
              have HI := Aside0.mk hi_
              have HU := Aside0.mk hu_
              have HO := Aside0.mk (Kd.R_reads' ho).2
              clear hi_ hu_ ho
              refine hK.out _ _ ⟨HI.out.cell, (by rw [← HF.out]; exact HI.out.map.look p HP.out)⟩ (fun hHeld => ?_)
              clear hK K_
              refine norm_ (a' := ?_) ?_ ?_
              rotate_left
              · show Act.put _ (some 39) _ = _; go_simp; rfl
              refine one_ (i := 6) (N := some 41) #[true, true, true, true, true, true, true, false, false] rfl rfl (by kernel_rfl) (by decide) (fun K_ hK => ?_)
              refine goes_ Try.func63 (by kernel_rfl) rfl #[.slice Al2 1 cl2, .int .i64 (rd u i)] (by rfl) rfl rfl aw_ ?_
              clear hHeld
              refine (impl_resonanceOf.calls k2 Al2 cl2 [p] (rd u i) rs _ HO.out.2 HO.out.1 E4.out).mono ?_
              rintro e w13 ⟨rfl, hb⟩
              refine ⟨_, rfl, ?_⟩
              have hi_ := HI.out.below hb
              have hu_ := Kd.R_below HU.out hb
              clear HI HU hb HO
              have HI := Aside0.mk hi_
              have HU := Aside0.mk hu_
              clear hi_ hu_
              refine hK.out _ _ ⟨HI.out.cell, (by rw [← HF.out]; exact HI.out.map.look p HP.out)⟩ (fun hHeld => ?_)
              clear hK K_
              refine norm_ (a' := ?_) ?_ ?_
              rotate_left
              · show Act.put _ (some 41) _ = _; go_simp; rfl
              refine pv_ 7 42 #[true, true, true, true, true, true, true, true, false] ?_
              refine last_ (i := 8) (N := none) #[true, true, true, true, true, true, true, true, true] rfl rfl (by kernel_rfl) (by decide) (fun K_ hK => ?_)
              obtain ⟨w14, hrun, hm_, hg_⟩ := HI.out.map.put p s HP.out (by rw [← HS.out]; exact Okv.wrap _) (by have := HN.out; have := CQ.out; have := CI.out; have := CU.out; unfold maxLen; omega)
              refine store_one (w1 := w14) (by rfl) (by first | (go_simp; done) | (go_simp; rfl)) rfl ?_
              clear hHeld hrun
              have hi_ := HI.out.put hm_ hg_
              have hu_ := Kd.R_grown HU.out hg_ (fun k hk e_ => hk (by cases e_; rfl))
              clear HI HU hm_ hg_
              have HI := Aside0.mk hi_
              have HU := Aside0.mk hu_
              clear hi_ hu_
              refine hK.out _ _ ?_
              clear hK K_
              refine done_ (by kernel_rfl) ?_
              go_wp2
              go_roundg k2
              case measure => have := HK2.out; omega
              case rel => exact ⟨j, _, n2 + 1, rfl, ⟨by rw [← HJ.out]; rw [HF.out, HS.out] at HG; exact HG.out⟩, ⟨by have := HK2.out; omega⟩, HI, HU, ⟨by have := HN.out; have := HJ.out; have := CI.out; have := CU.out; omega⟩⟩
            · rw [if_neg ci] at G
              have ci0 := decide_eq_false ci
              obtain rfl := Option.some.inj G
              clear ci
              go_wp2
              go_roundg k1
              case measure => have := HK1.out; omega
              case rel => exact ⟨_, f2, pn, n2, rfl, ⟨by rw [← HPN.out]; exact H.out⟩, ⟨by have := HK1.out; omega⟩, HI, ⟨by have := HN.out; have := HPN.out; have := CQ.out; omega⟩⟩
      · rw [if_neg cp] at H
        have cp0 := decide_eq_false cp
        obtain rfl := Option.some.inj H
        have h := HT.out
        clear cp HT H
        simp only at h
        by_cases cl0 : 0 < ls.length ∧ ls.length < 1000000
        rotate_left
        · rw [if_neg cl0] at h
          exact absurd h (by simp)
        rw [if_pos cl0] at h
        replace h := Option.bind_eq_some_iff.mp h
        obtain ⟨ys, y_, h⟩ := h
        have E5 := Aside0.mk y_
        clear y_
        by_cases cc : 0 ≤ a1 ∧ a1 ≤ (ls.length : Int)
        rotate_left
        · rw [if_neg cc] at h
          exact absurd h (by simp)
        rw [if_pos cc] at h
        replace h := Option.bind_eq_some_iff.mp h
        obtain ⟨zs, y_, h⟩ := h
        have E6 := Aside0.mk y_
        clear y_
        obtain ⟨rfl, rfl⟩ : zs.mergeSort (fun x y => decide (x ≤ y)) = r1 ∧ 0 = r2 := by simpa using h
        clear h
        obtain ⟨g, c, eg, hok, hge⟩ := R_slice0 HI.out.row cl0.1
        obtain ⟨rfl, rfl⟩ : Al = some ⟨g, 0, none⟩ ∧ cl = c := by simpa using eg
        have HG := Aside0.mk hge
        have HOK := Aside0.mk hok
        have CL := Aside0.mk cl0
        have CC := Aside0.mk cc
        clear eg hok hge cl0 cc
        have Q0 := trivial
        obtain ⟨m, rfl⟩ := Int.eq_ofNat_of_zero_le CC.out.1
        have e6_ := E6.out
        rw [show ((m : Int)).toNat = m from rfl] at e6_
        clear E6
        have E6 := Aside0.mk e6_
        clear e6_
        go_wp2_with (first | ((clear Q0); (with_reducible refine gate_callee (f := 64) rfl ?_); refine goesL_ (some _) rfl rfl Try.func64 (by kernel_rfl) rfl #[.slice (some ⟨g, 0, none⟩) ls.length cl, .func (.func 65) #[] #[.pointer (some ⟨gx, 0, none⟩)]] rfl aw_ ?_; refine (slices_SortStableFunc_int64_int64.calls w.heap.size (fun k => k ≠ gx ∧ k ≠ bm) g ls.length cl #[.pointer (some ⟨gx, 0, none⟩)] (fun a b => cmpI (f b) (f a)) _ (by have := CL.out; omega) (less_at HI.out HOK.out) k ls ys _ (Sts.start HI.out.row HI.out.wf) E5.out).mono ?_; rintro e w20 ⟨rfl, hs_⟩; refine ⟨_, rfl, ?_⟩; have HB := Aside0.mk (hs_.bel HI.out.bel HG.out); have HY := Aside0.mk hs_; have HR := Aside0.mk (Kd.R_take hs_.1 (m := m) (by have := hs_.len; have := CC.out; omega)); have k0_ : (0 ≤ (m : Int)) = True := eq_true (by omega); have k1_ : ((m : Int) ≤ (cl : Int)) = True := eq_true (by have := (Kd.R_reads' HR.out).2.1; omega); clear HI hs_; have Q1 := trivial) | ((clear Q1 k0_ k1_); (with_reducible refine gate_callee (f := 67) rfl ?_); refine goesL_ (some _) rfl rfl Try.func67 (by kernel_rfl) rfl #[.slice (some ⟨g, 0, none⟩) m cl] rfl aw_ ?_; refine (clone_at (Kd.R_reads' HR.out).1 (Kd.R_reads' HR.out).2.2 (Kd.R_reads' HR.out).2.1 E6.out).mono ?_; rintro e w21 ⟨v21, rfl, ho, hb⟩; refine ⟨_, rfl, ?_⟩; have ho2 := Kd.R_lower ho HB.out.size; have hb2 := below_step HB.out hb; obtain ⟨Az, cz, ez⟩ := Kd.R_slice ho; subst ez; clear HB HR HY ho hb; have HB := Aside0.mk hb2; have HO := Aside0.mk ho2; clear ho2 hb2; have Q2 := trivial) | ((clear Q2); (with_reducible refine gate_callee (f := 68) rfl ?_); refine goesL_ (some _) rfl rfl Try.func68 (by kernel_rfl) rfl #[.slice Az zs.length cz] rfl aw_ ?_; refine (sort_at HO.out (by have := clone_len E6.out; rw [List.length_take] at this; have := CL.out; have := CC.out; omega)).mono ?_; rintro e w22 ⟨rfl, ho, hb⟩; refine ⟨_, rfl, ?_⟩; have hb2 := hb w HB.out (Nat.le_refl _); clear HB HO; have HB := Aside0.mk hb2; have HO := Aside0.mk ho; clear hb ho hb2; have Q3 := trivial))
        go_ret2
        exact ⟨_, rfl, HO.out, HB.out⟩

end Go.Proofs.Ytgdiabfmjcejdaa.P
end

section
namespace Go.Proofs.Ytgdiabfmjcejdaa.P
open Go.RowKit Go.Proofs.YtgdiabfmjcejdaaW.PrintWords Go.Proofs.YtgdiabfmjcejdaaW.PrintLast Go.Proofs.YtgdiabfmjcejdaaW.PrintMore
attribute [local go_sem] max2_int min2_int max_two min_two max_three min_three max_four min_four   -- for this text's walks alone
set_option linter.unusedVariables false
set_option linter.unusedSimpArgs false
/-! ### laws_eqInt64S: function 18 -/
def laws_eqInt64S.l0 : Nat → List Int → List Int → Int → Option (Bool)
 | 0, _, _, _ => none
 | k + 1, x0, x1, x5 => if x5 < (x0.length : Int) then (if 0 ≤ x5 then (if x5 < (x1.length : Int) then (if (rd x0 x5) = (rd x1 x5) then (laws_eqInt64S.l0 k x0 x1 (wrap64 (x5 + 1))) else (some false)) else (none)) else (none)) else (some true)
def laws_eqInt64S.f (k : Nat) (l0 : List Int) (l1 : List Int) : Option (Bool) := if (l0.length : Int) = (l1.length : Int) then (laws_eqInt64S.l0 k l0 l1 0) else (some false)
set_option maxHeartbeats 8000000 in
set_option maxRecDepth 100000 in
theorem laws_eqInt64S.calls (k : Nat) (A0 : Option Addr) (c0 : Nat) (l0 : List Int) (A1 : Option Addr) (c1 : Nat) (l1 : List Int) (r : Bool) (w : World) (hr0 : Kd.C (Kd.int .i64) w A0 l0.length l0) (hc0 : l0.length ≤ c0) (hr1 : Kd.C (Kd.int .i64) w A1 l1.length l1) (hc1 : l1.length ≤ c1) (h : laws_eqInt64S.f k l0 l1 = some r) :
  Calls Try.prog 18 #[.slice A0 l0.length c0, .slice A1 l1.length c1] w fun e w' => e = .returned (.bool r) ∧ Drawn0 w w' := by
 have HR0 := Aside0.mk hr0
 have HC0 := Aside0.mk hc0
 clear hr0 hc0
 have HR1 := Aside0.mk hr1
 have HC1 := Aside0.mk hc1
 clear hr1 hc1
 have H : (if (l0.length : Int) = (l1.length : Int) then (laws_eqInt64S.l0 k l0 l1 0) else (some false)) = some r := h
 clear h
 by_cases c3 : (l0.length : Int) = (l1.length : Int)
 ·rw [if_pos c3] at H
  have c3b0 : ((l0.length : Int) == (l1.length : Int)) = true := beq_iff_eq.mpr c3
  have c3b1 : ((l0.length : Int) != (l1.length : Int)) = false := bne_eq_false_iff_eq.mpr c3
  have c3b2 : (l0.length == l1.length) = true := by first | simpa using c3 | (simp at c3 ⊢; omega)
  clear c3
  have H' := Aside0.mk H
  clear H
  go_enter Try.func18, Try.ntmps18
  go_wp2
  repeat (go_quiet (fail); try go_wp2)
  go_loopg [5] k (fun kq v5 w' => ∃ (x5_1 : Int), v5 = .int .i64 x5_1 ∧ Aside0 (laws_eqInt64S.l0 kq l0 l1 x5_1 = some r) ∧ Aside0 (kq ≤ k) ∧ Drawn0 w w')
  case atStart => exact ⟨(0), (by first | rfl | (simp; done) | (simp [*]; done)), H', ⟨Nat.le_refl _⟩, by repeat (first | exact Drawn0.refl _ | apply Drawn0.step)⟩
  case round =>
   clear H'
   try clear c1
   try clear p2
   try clear c3
   try clear c3b0
   try clear c3b1
   try clear c3b2
   obtain ⟨x5_1, rfl, HA, HK1, ⟨m1, rfl⟩⟩ := hrel
   cases gk with
   | zero => exact absurd HA.out (by simp [laws_eqInt64S.l0])
   | succ k1 =>
    have H := HA.out
    clear HA
    simp only [laws_eqInt64S.l0] at H
    by_cases c4 : x5_1 < (l0.length : Int)
    ·rw [if_pos c4] at H
     have c4b0 : decide (x5_1 < (l0.length : Int)) = true := decide_eq_true c4
     clear c4
     by_cases c5 : 0 ≤ x5_1
     ·rw [if_pos c5] at H
      have c5b0 : decide (0 ≤ x5_1) = true := decide_eq_true c5
      clear c5
      by_cases c6 : x5_1 < (l1.length : Int)
      ·rw [if_pos c6] at H
       have c6b0 : decide (x5_1 < (l1.length : Int)) = true := decide_eq_true c6
       clear c6
       by_cases c7 : (rd l0 x5_1) = (rd l1 x5_1)
       ·rw [if_pos c7] at H
        have c7b0 : ((rd l0 x5_1) == (rd l1 x5_1)) = true := beq_iff_eq.mpr c7
        have c7b1 : ((rd l0 x5_1) != (rd l1 x5_1)) = false := bne_eq_false_iff_eq.mpr c7
        clear c7
        have H' := Aside0.mk H
        clear H
        have p200 : 0 ≤ (x5_1 : Int) := of_decide_eq_true (by assumption)
        have q200 : x5_1 < (l0.length : Int) := of_decide_eq_true (by assumption)
        obtain ⟨ad200, e200, hx200_0⟩ := Kd.at_int HR0.out x5_1 p200 q200
        cases e200
        replace p200 := eq_true p200
        replace q200 := eq_true q200
        have p201 : 0 ≤ (x5_1 : Int) := of_decide_eq_true (by assumption)
        have q201 : x5_1 < (l1.length : Int) := of_decide_eq_true (by assumption)
        obtain ⟨ad201, e201, hx201_0⟩ := Kd.at_int HR1.out x5_1 p201 q201
        cases e201
        replace p201 := eq_true p201
        replace q201 := eq_true q201
        go_wp2
        repeat (go_quiet (fail); try go_wp2)
        go_roundg k1
        case measure => have := HK1.out; omega
        case rel => exact ⟨(wrap64 (x5_1 + 1)), (by first | rfl | (simp; done) | (simp [*]; done)), H', ⟨by have := HK1.out; omega⟩, by repeat (first | exact Drawn0.refl _ | apply Drawn0.step)⟩
       ·rw [if_neg c7] at H
        have c7b0 : ((rd l0 x5_1) == (rd l1 x5_1)) = false := beq_eq_false_iff_ne.mpr c7
        have c7b1 : ((rd l0 x5_1) != (rd l1 x5_1)) = true := bne_iff_ne.mpr c7
        obtain rfl := Option.some.inj H
        have p200 : 0 ≤ (x5_1 : Int) := of_decide_eq_true (by assumption)
        have q200 : x5_1 < (l0.length : Int) := of_decide_eq_true (by assumption)
        obtain ⟨ad200, e200, hx200_0⟩ := Kd.at_int HR0.out x5_1 p200 q200
        cases e200
        replace p200 := eq_true p200
        replace q200 := eq_true q200
        have p201 : 0 ≤ (x5_1 : Int) := of_decide_eq_true (by assumption)
        have q201 : x5_1 < (l1.length : Int) := of_decide_eq_true (by assumption)
        obtain ⟨ad201, e201, hx201_0⟩ := Kd.at_int HR1.out x5_1 p201 q201
        cases e201
        replace p201 := eq_true p201
        replace q201 := eq_true q201
        go_wp2
        repeat (go_quiet (fail); try go_wp2)
        go_ret
        exact ⟨by first | rfl | (simp; done) | (simp [*]; done), by repeat (first | exact Drawn0.refl _ | apply Drawn0.step)⟩
      ·rw [if_neg c6] at H
       exact absurd H (by simp)
     ·rw [if_neg c5] at H
      exact absurd H (by simp)
    ·rw [if_neg c4] at H
     have c4b0 : decide (x5_1 < (l0.length : Int)) = false := decide_eq_false c4
     clear c4
     obtain rfl := Option.some.inj H
     go_wp2
     repeat (go_quiet (fail); try go_wp2)
     go_ret
     exact ⟨by first | rfl | (simp; done) | (simp [*]; done), by repeat (first | exact Drawn0.refl _ | apply Drawn0.step)⟩
 ·rw [if_neg c3] at H
  have c3b0 : ((l0.length : Int) == (l1.length : Int)) = false := beq_eq_false_iff_ne.mpr c3
  have c3b1 : ((l0.length : Int) != (l1.length : Int)) = true := bne_iff_ne.mpr c3
  have c3b2 : (l0.length == l1.length) = false := by first | simpa using c3 | (simp at c3 ⊢; omega)
  obtain rfl := Option.some.inj H
  go_enter Try.func18, Try.ntmps18
  go_wp2
  repeat (go_quiet (fail); try go_wp2)
  go_ret
  exact ⟨by first | rfl | (simp; done) | (simp [*]; done), by repeat (first | exact Drawn0.refl _ | apply Drawn0.step)⟩
/-! ### laws_eqNote: function 69 -/
def laws_eqNote.f (a0_0 : Int) (a0_1 : Int) (a1_0 : Int) (a1_1 : Int) : Option (Bool) := if a0_0 = a1_0 then (if a0_1 = a1_1 then (some true) else (some false)) else (some false)
set_option maxHeartbeats 8000000 in
set_option maxRecDepth 100000 in
theorem laws_eqNote.calls (a0_0 : Int) (a0_1 : Int) (a1_0 : Int) (a1_1 : Int) (r : Bool) (w : World) (h : laws_eqNote.f a0_0 a0_1 a1_0 a1_1 = some r) :
  Calls Try.prog 69 #[.agg #[.int .i64 a0_0, .int .i64 a0_1], .agg #[.int .i64 a1_0, .int .i64 a1_1]] w fun e w' => e = .returned (.bool r) ∧ Below w.heap.size w w' := by
 have hu84 := Try.underlying84
 have HB := Aside0.mk (Below.refl w.heap.size w)
 have H : (if a0_0 = a1_0 then (if a0_1 = a1_1 then (some true) else (some false)) else (some false)) = some r := h
 clear h
 by_cases c3 : a0_0 = a1_0
 ·rw [if_pos c3] at H
  have c3b0 : (a0_0 == a1_0) = true := beq_iff_eq.mpr c3
  have c3b1 : (a0_0 != a1_0) = false := bne_eq_false_iff_eq.mpr c3
  clear c3
  by_cases c4 : a0_1 = a1_1
  ·rw [if_pos c4] at H
   have c4b0 : (a0_1 == a1_1) = true := beq_iff_eq.mpr c4
   have c4b1 : (a0_1 != a1_1) = false := bne_eq_false_iff_eq.mpr c4
   clear c4
   obtain rfl := Option.some.inj H
   go_enter Try.func69, Try.ntmps69
   go_wp2_with (first | ((with_reducible refine gate_dst (N := 2) rfl ?_); refine box_event ?hg (N := 2) ?hd (cs := #[.int .i64 a0_0, .int .i64 a0_1]) (t := 84) ?hr ?_; (case hd => rfl); (case hg => rfl); (case hr => first | (go_simp; done) | (go_simp; rfl)); intro gb438 hg w5 hbox hb; have n0_ := Aside0.mk (below_step (by repeat (first | exact HB.out | apply below_alloc)) hb); have n1_ := Aside0.mk (hbox); have n2_ := Aside0.mk ((by rw [hg]; exact (below_size (by repeat (first | exact HB.out | apply below_alloc))) : w.heap.size ≤ gb438)); have n3_ := Aside0.mk ((by rw [hg]; exact (below_size (by repeat (first | exact HB.out | apply below_alloc))) : w.heap.size ≤ gb438)); clear HB; have HB := n0_; have BK438 := n1_; have GW438 := n2_; have GE438 := n3_; clear n0_ n1_ n2_ n3_; clear hb hbox hg) | ((with_reducible refine gate_dst (N := 3) rfl ?_); refine box_event ?hg (N := 3) ?hd (cs := #[.int .i64 a1_0, .int .i64 a1_1]) (t := 84) ?hr ?_; (case hd => rfl); (case hg => rfl); (case hr => first | (go_simp; done) | (go_simp; rfl)); intro gb439 hg w6 hbox hb; have n0_ := Aside0.mk (blk_below (g := gb438) (o := .cells #[.int .i64 a0_0, .int .i64 a0_1] 84 (0, 0)) (by repeat first | exact BK438.out | refine blk_drewN ?_ _ | refine blk_drew ?_ | refine blk_alloc ?_ _) hb); have n1_ := Aside0.mk (below_step (by repeat (first | (with_reducible first | exact HB.out | apply below_alloc | apply pw_below_drewN | apply below_drew1 | refine below_set ?_ GE438.out) | exact HB.out)) hb); have n2_ := Aside0.mk (hbox); have n3_ := Aside0.mk ((by rw [hg]; exact (below_size (by repeat (first | (with_reducible first | exact HB.out | apply below_alloc | apply pw_below_drewN | apply below_drew1 | refine below_set ?_ GE438.out) | exact HB.out))) : w.heap.size ≤ gb439)); have n4_ := Aside0.mk ((by rw [hg]; exact (below_size (by repeat (first | (with_reducible first | exact HB.out | apply below_alloc | apply pw_below_drewN | apply below_drew1 | refine below_set ?_ GE438.out) | exact HB.out))) : w.heap.size ≤ gb439)); have n5_ := Aside0.mk ((by rw [hg]; exact Nat.ne_of_lt (blk_lt (g := gb438) (o := .cells #[.int .i64 a0_0, .int .i64 a0_1] 84 (0, 0)) (by repeat first | exact BK438.out | refine blk_drewN ?_ _ | refine blk_drew ?_ | refine blk_alloc ?_ _)) : gb438 ≠ gb439)); have n6_ := Aside0.mk ((by rw [hg]; exact Nat.ne_of_gt (blk_lt (g := gb438) (o := .cells #[.int .i64 a0_0, .int .i64 a0_1] 84 (0, 0)) (by repeat first | exact BK438.out | refine blk_drewN ?_ _ | refine blk_drew ?_ | refine blk_alloc ?_ _)) : gb439 ≠ gb438)); clear BK438; clear HB; have BK438 := n0_; have HB := n1_; have BK439 := n2_; have GW439 := n3_; have GE439 := n4_; have NB438_439 := n5_; have NB439_438 := n6_; clear n0_ n1_ n2_ n3_ n4_ n5_ n6_; clear hb hbox hg; have hnb7 := NB438_439.out; have hnc7 := NB439_438.out; have hcz8_0 : w6.cell? ⟨gb438, 0, none⟩ = some (.int .i64 a0_0) := (blk_cell BK438.out 0).trans rfl; have hcz8_1 : w6.cell? ⟨gb438, 1, none⟩ = some (.int .i64 a0_1) := (blk_cell BK438.out 1).trans rfl; have hfz8_0 := blk_frozen BK438.out 0; have hfz8_1 := blk_frozen BK438.out 1; have hcz9_0 : w6.cell? ⟨gb439, 0, none⟩ = some (.int .i64 a1_0) := (blk_cell BK439.out 0).trans rfl; have hcz9_1 : w6.cell? ⟨gb439, 1, none⟩ = some (.int .i64 a1_1) := (blk_cell BK439.out 1).trans rfl; have hfz9_0 := blk_frozen BK439.out 0; have hfz9_1 := blk_frozen BK439.out 1))
   go_ret
   exact ⟨by first | rfl | (simp [errW_none, errW_some] <;> rfl) | (simp [*, errW_none, errW_some] <;> rfl), by repeat (first | (with_reducible first | exact HB.out | apply below_alloc | apply pw_below_drewN | apply below_drew1 | refine below_set ?_ GE438.out | refine below_set ?_ GE439.out) | exact HB.out)⟩
  ·rw [if_neg c4] at H
   have c4b0 : (a0_1 == a1_1) = false := beq_eq_false_iff_ne.mpr c4
   have c4b1 : (a0_1 != a1_1) = true := bne_iff_ne.mpr c4
   obtain rfl := Option.some.inj H
   go_enter Try.func69, Try.ntmps69
   go_wp2_with (first | ((with_reducible refine gate_dst (N := 2) rfl ?_); refine box_event ?hg (N := 2) ?hd (cs := #[.int .i64 a0_0, .int .i64 a0_1]) (t := 84) ?hr ?_; (case hd => rfl); (case hg => rfl); (case hr => first | (go_simp; done) | (go_simp; rfl)); intro gb438 hg w10 hbox hb; have n0_ := Aside0.mk (below_step (by repeat (first | exact HB.out | apply below_alloc)) hb); have n1_ := Aside0.mk (hbox); have n2_ := Aside0.mk ((by rw [hg]; exact (below_size (by repeat (first | exact HB.out | apply below_alloc))) : w.heap.size ≤ gb438)); have n3_ := Aside0.mk ((by rw [hg]; exact (below_size (by repeat (first | exact HB.out | apply below_alloc))) : w.heap.size ≤ gb438)); clear HB; have HB := n0_; have BK438 := n1_; have GW438 := n2_; have GE438 := n3_; clear n0_ n1_ n2_ n3_; clear hb hbox hg) | ((with_reducible refine gate_dst (N := 3) rfl ?_); refine box_event ?hg (N := 3) ?hd (cs := #[.int .i64 a1_0, .int .i64 a1_1]) (t := 84) ?hr ?_; (case hd => rfl); (case hg => rfl); (case hr => first | (go_simp; done) | (go_simp; rfl)); intro gb439 hg w11 hbox hb; have n0_ := Aside0.mk (blk_below (g := gb438) (o := .cells #[.int .i64 a0_0, .int .i64 a0_1] 84 (0, 0)) (by repeat first | exact BK438.out | refine blk_drewN ?_ _ | refine blk_drew ?_ | refine blk_alloc ?_ _) hb); have n1_ := Aside0.mk (below_step (by repeat (first | (with_reducible first | exact HB.out | apply below_alloc | apply pw_below_drewN | apply below_drew1 | refine below_set ?_ GE438.out) | exact HB.out)) hb); have n2_ := Aside0.mk (hbox); have n3_ := Aside0.mk ((by rw [hg]; exact (below_size (by repeat (first | (with_reducible first | exact HB.out | apply below_alloc | apply pw_below_drewN | apply below_drew1 | refine below_set ?_ GE438.out) | exact HB.out))) : w.heap.size ≤ gb439)); have n4_ := Aside0.mk ((by rw [hg]; exact (below_size (by repeat (first | (with_reducible first | exact HB.out | apply below_alloc | apply pw_below_drewN | apply below_drew1 | refine below_set ?_ GE438.out) | exact HB.out))) : w.heap.size ≤ gb439)); have n5_ := Aside0.mk ((by rw [hg]; exact Nat.ne_of_lt (blk_lt (g := gb438) (o := .cells #[.int .i64 a0_0, .int .i64 a0_1] 84 (0, 0)) (by repeat first | exact BK438.out | refine blk_drewN ?_ _ | refine blk_drew ?_ | refine blk_alloc ?_ _)) : gb438 ≠ gb439)); have n6_ := Aside0.mk ((by rw [hg]; exact Nat.ne_of_gt (blk_lt (g := gb438) (o := .cells #[.int .i64 a0_0, .int .i64 a0_1] 84 (0, 0)) (by repeat first | exact BK438.out | refine blk_drewN ?_ _ | refine blk_drew ?_ | refine blk_alloc ?_ _)) : gb439 ≠ gb438)); clear BK438; clear HB; have BK438 := n0_; have HB := n1_; have BK439 := n2_; have GW439 := n3_; have GE439 := n4_; have NB438_439 := n5_; have NB439_438 := n6_; clear n0_ n1_ n2_ n3_ n4_ n5_ n6_; clear hb hbox hg; have hnb12 := NB438_439.out; have hnc12 := NB439_438.out; have hcz13_0 : w11.cell? ⟨gb438, 0, none⟩ = some (.int .i64 a0_0) := (blk_cell BK438.out 0).trans rfl; have hcz13_1 : w11.cell? ⟨gb438, 1, none⟩ = some (.int .i64 a0_1) := (blk_cell BK438.out 1).trans rfl; have hfz13_0 := blk_frozen BK438.out 0; have hfz13_1 := blk_frozen BK438.out 1; have hcz14_0 : w11.cell? ⟨gb439, 0, none⟩ = some (.int .i64 a1_0) := (blk_cell BK439.out 0).trans rfl; have hcz14_1 : w11.cell? ⟨gb439, 1, none⟩ = some (.int .i64 a1_1) := (blk_cell BK439.out 1).trans rfl; have hfz14_0 := blk_frozen BK439.out 0; have hfz14_1 := blk_frozen BK439.out 1))
   go_ret
   exact ⟨by first | rfl | (simp [errW_none, errW_some] <;> rfl) | (simp [*, errW_none, errW_some] <;> rfl), by repeat (first | (with_reducible first | exact HB.out | apply below_alloc | apply pw_below_drewN | apply below_drew1 | refine below_set ?_ GE438.out | refine below_set ?_ GE439.out) | exact HB.out)⟩
 ·rw [if_neg c3] at H
  have c3b0 : (a0_0 == a1_0) = false := beq_eq_false_iff_ne.mpr c3
  have c3b1 : (a0_0 != a1_0) = true := bne_iff_ne.mpr c3
  obtain rfl := Option.some.inj H
  go_enter Try.func69, Try.ntmps69
  go_wp2_with (first | ((with_reducible refine gate_dst (N := 2) rfl ?_); refine box_event ?hg (N := 2) ?hd (cs := #[.int .i64 a0_0, .int .i64 a0_1]) (t := 84) ?hr ?_; (case hd => rfl); (case hg => rfl); (case hr => first | (go_simp; done) | (go_simp; rfl)); intro gb438 hg w15 hbox hb; have n0_ := Aside0.mk (below_step (by repeat (first | exact HB.out | apply below_alloc)) hb); have n1_ := Aside0.mk (hbox); have n2_ := Aside0.mk ((by rw [hg]; exact (below_size (by repeat (first | exact HB.out | apply below_alloc))) : w.heap.size ≤ gb438)); have n3_ := Aside0.mk ((by rw [hg]; exact (below_size (by repeat (first | exact HB.out | apply below_alloc))) : w.heap.size ≤ gb438)); clear HB; have HB := n0_; have BK438 := n1_; have GW438 := n2_; have GE438 := n3_; clear n0_ n1_ n2_ n3_; clear hb hbox hg) | ((with_reducible refine gate_dst (N := 3) rfl ?_); refine box_event ?hg (N := 3) ?hd (cs := #[.int .i64 a1_0, .int .i64 a1_1]) (t := 84) ?hr ?_; (case hd => rfl); (case hg => rfl); (case hr => first | (go_simp; done) | (go_simp; rfl)); intro gb439 hg w16 hbox hb; have n0_ := Aside0.mk (blk_below (g := gb438) (o := .cells #[.int .i64 a0_0, .int .i64 a0_1] 84 (0, 0)) (by repeat first | exact BK438.out | refine blk_drewN ?_ _ | refine blk_drew ?_ | refine blk_alloc ?_ _) hb); have n1_ := Aside0.mk (below_step (by repeat (first | (with_reducible first | exact HB.out | apply below_alloc | apply pw_below_drewN | apply below_drew1 | refine below_set ?_ GE438.out) | exact HB.out)) hb); have n2_ := Aside0.mk (hbox); have n3_ := Aside0.mk ((by rw [hg]; exact (below_size (by repeat (first | (with_reducible first | exact HB.out | apply below_alloc | apply pw_below_drewN | apply below_drew1 | refine below_set ?_ GE438.out) | exact HB.out))) : w.heap.size ≤ gb439)); have n4_ := Aside0.mk ((by rw [hg]; exact (below_size (by repeat (first | (with_reducible first | exact HB.out | apply below_alloc | apply pw_below_drewN | apply below_drew1 | refine below_set ?_ GE438.out) | exact HB.out))) : w.heap.size ≤ gb439)); have n5_ := Aside0.mk ((by rw [hg]; exact Nat.ne_of_lt (blk_lt (g := gb438) (o := .cells #[.int .i64 a0_0, .int .i64 a0_1] 84 (0, 0)) (by repeat first | exact BK438.out | refine blk_drewN ?_ _ | refine blk_drew ?_ | refine blk_alloc ?_ _)) : gb438 ≠ gb439)); have n6_ := Aside0.mk ((by rw [hg]; exact Nat.ne_of_gt (blk_lt (g := gb438) (o := .cells #[.int .i64 a0_0, .int .i64 a0_1] 84 (0, 0)) (by repeat first | exact BK438.out | refine blk_drewN ?_ _ | refine blk_drew ?_ | refine blk_alloc ?_ _)) : gb439 ≠ gb438)); clear BK438; clear HB; have BK438 := n0_; have HB := n1_; have BK439 := n2_; have GW439 := n3_; have GE439 := n4_; have NB438_439 := n5_; have NB439_438 := n6_; clear n0_ n1_ n2_ n3_ n4_ n5_ n6_; clear hb hbox hg; have hnb17 := NB438_439.out; have hnc17 := NB439_438.out; have hcz18_0 : w16.cell? ⟨gb438, 0, none⟩ = some (.int .i64 a0_0) := (blk_cell BK438.out 0).trans rfl; have hcz18_1 : w16.cell? ⟨gb438, 1, none⟩ = some (.int .i64 a0_1) := (blk_cell BK438.out 1).trans rfl; have hfz18_0 := blk_frozen BK438.out 0; have hfz18_1 := blk_frozen BK438.out 1; have hcz19_0 : w16.cell? ⟨gb439, 0, none⟩ = some (.int .i64 a1_0) := (blk_cell BK439.out 0).trans rfl; have hcz19_1 : w16.cell? ⟨gb439, 1, none⟩ = some (.int .i64 a1_1) := (blk_cell BK439.out 1).trans rfl; have hfz19_0 := blk_frozen BK439.out 0; have hfz19_1 := blk_frozen BK439.out 1))
  go_ret
  exact ⟨by first | rfl | (simp [errW_none, errW_some] <;> rfl) | (simp [*, errW_none, errW_some] <;> rfl), by repeat (first | (with_reducible first | exact HB.out | apply below_alloc | apply pw_below_drewN | apply below_drew1 | refine below_set ?_ GE438.out | refine below_set ?_ GE439.out) | exact HB.out)⟩
/-! ### laws_eqNoteS: function 32 -/
def laws_eqNoteS.K0 : Array Bool := #[n_,n_,n_,n_,n_,n_,n_,n_,n_,n_]
def laws_eqNoteS.K1 : Array Bool := #[y_,n_,n_,n_,n_,n_,n_,n_,n_,n_]
def laws_eqNoteS.K2 : Array Bool := #[y_,y_,n_,n_,n_,n_,n_,n_,n_,n_]
def laws_eqNoteS.K3 : Array Bool := #[y_,y_,y_,n_,n_,n_,n_,n_,n_,n_]
def laws_eqNoteS.K4 : Array Bool := #[y_,y_,y_,n_,y_,n_,n_,n_,n_,n_]
def laws_eqNoteS.K5 : Array Bool := #[y_,y_,y_,n_,y_,y_,n_,n_,n_,n_]
def laws_eqNoteS.K6 : Array Bool := #[y_,y_,y_,n_,y_,y_,y_,n_,n_,n_]
def laws_eqNoteS.K7 : Array Bool := #[y_,y_,y_,y_,y_,y_,y_,n_,n_,n_]
def laws_eqNoteS.K8 : Array Bool := #[y_,y_,y_,y_,y_,y_,y_,y_,n_,n_]
def laws_eqNoteS.K9 : Array Bool := #[y_,y_,y_,y_,y_,y_,y_,y_,y_,n_]
def laws_eqNoteS.K10 : Array Bool := #[y_,y_,y_,y_,y_,y_,y_,y_,y_,y_]
def laws_eqNoteS.l0 : Nat → List (S84) → List (S84) → Int → Option (Bool)
 | 0, _, _, _ => none
 | k + 1, x0, x1, x5 => if x5 < (x0.length : Int) then (if 0 ≤ x5 then (if x5 < (x1.length : Int) then ((laws_eqNote.f ((rd_T84 x0 x5).f0) ((rd_T84 x0 x5).f1) ((rd_T84 x1 x5).f0) ((rd_T84 x1 x5).f1)).bind fun t442 => (if t442 = true then (laws_eqNoteS.l0 k x0 x1 (wrap64 (x5 + 1))) else (some false))) else (none)) else (none)) else (some true)
def laws_eqNoteS.f (k : Nat) (l0 : List (S84)) (l1 : List (S84)) : Option (Bool) := if (l0.length : Int) = (l1.length : Int) then (laws_eqNoteS.l0 k l0 l1 0) else (some false)
def laws_eqNoteS.T6 : Bool × List (List Nat × List Nat) := (true, [([], []), ([], []), ([0, 1], [0, 1]), ([2], [2]), ([], []), ([], []), ([4, 5], [4, 5]), ([6], [6]), ([3, 7], [3, 7]), ([8], [8])])
def laws_eqNoteS.B6 : List Nat := [0, 0, 3, 7, 0, 0, 48, 112, 255, 511]
theorem laws_eqNoteS.tab6 : rtab .any (opsOf Try.f32 6) = laws_eqNoteS.T6 := by kernel_rfl
theorem laws_eqNoteS.bits6 : waitsOk laws_eqNoteS.T6.2 laws_eqNoteS.B6 = true := by kernel_rfl
set_option maxHeartbeats 8000000 in
set_option maxRecDepth 100000 in
theorem laws_eqNoteS.calls (k : Nat) (A0 : Option Addr) (c0 : Nat) (l0 : List (S84)) (A1 : Option Addr) (c1 : Nat) (l1 : List (S84)) (r : Bool) (w : World) (hr0 : Kd.C k84 w A0 l0.length l0) (hc0 : l0.length ≤ c0) (hr1 : Kd.C k84 w A1 l1.length l1) (hc1 : l1.length ≤ c1) (h : laws_eqNoteS.f k l0 l1 = some r) :
  Calls Try.prog 32 #[.slice A0 l0.length c0, .slice A1 l1.length c1] w fun e w' => e = .returned (.bool r) ∧ Below w.heap.size w w' := by
 have hu84 := Try.underlying84
 have HR0 := Aside0.mk hr0
 have HC0 := Aside0.mk hc0
 clear hr0 hc0
 have HR1 := Aside0.mk hr1
 have HC1 := Aside0.mk hc1
 clear hr1 hc1
 have HB := Aside0.mk (Below.refl w.heap.size w)
 have H : (if (l0.length : Int) = (l1.length : Int) then (laws_eqNoteS.l0 k l0 l1 0) else (some false)) = some r := h
 clear h
 by_cases c3 : (l0.length : Int) = (l1.length : Int)
 ·rw [if_pos c3] at H
  have c3b0 : ((l0.length : Int) == (l1.length : Int)) = true := beq_iff_eq.mpr c3
  have c3b1 : ((l0.length : Int) != (l1.length : Int)) = false := bne_eq_false_iff_eq.mpr c3
  have c3b2 : (l0.length == l1.length) = true := by first | simpa using c3 | (simp at c3 ⊢; omega)
  clear c3
  have H' := Aside0.mk H
  clear H
  go_enter Try.func32, Try.ntmps32
  go_wp2
  go_loopg [5] k (fun kq v5 w' => ∃ (x5_1 : Int), v5 = .int .i64 x5_1 ∧ Aside0 (laws_eqNoteS.l0 kq l0 l1 x5_1 = some r) ∧ Aside0 (kq ≤ k) ∧ Aside0 (Below w.heap.size w w'))
  case atStart => exact ⟨(0), (by first | rfl | (simp; done) | (simp [*]; done)), H', ⟨Nat.le_refl _⟩, ⟨by repeat (first | (with_reducible first | exact HB.out | apply below_alloc | apply pw_below_drewN | apply below_drew1) | exact HB.out)⟩⟩
  case round =>
   clear H'
   try clear c1
   try clear p2
   try clear c3
   try clear c3b0
   try clear c3b1
   try clear c3b2
   obtain ⟨x5_1, rfl, HA, HK1, HB⟩ := hrel
   cases gk with
   | zero => exact absurd HA.out (by simp [laws_eqNoteS.l0])
   | succ k1 =>
    have H := HA.out
    clear HA
    simp only [laws_eqNoteS.l0] at H
    by_cases c4 : x5_1 < (l0.length : Int)
    ·rw [if_pos c4] at H
     have c4b0 : decide (x5_1 < (l0.length : Int)) = true := decide_eq_true c4
     clear c4
     by_cases c5 : 0 ≤ x5_1
     ·rw [if_pos c5] at H
      have c5b0 : decide (0 ≤ x5_1) = true := decide_eq_true c5
      clear c5
      by_cases c6 : x5_1 < (l1.length : Int)
      ·rw [if_pos c6] at H
       have c6b0 : decide (x5_1 < (l1.length : Int)) = true := decide_eq_true c6
       clear c6
       replace H := Option.bind_eq_some_iff.mp H
       obtain ⟨t442, A70, H⟩ := H
       replace H : (if t442 = true then (laws_eqNoteS.l0 k1 l0 l1 (wrap64 (x5_1 + 1))) else (some false)) = some r := H
       have A7 := Aside0.mk A70
       clear A70
       by_cases c8 : t442 = true
       ·subst c8
        have H1 : (laws_eqNoteS.l0 k1 l0 l1 (wrap64 (x5_1 + 1))) = some r := by rw [if_pos rfl] at H; exact H
        clear H
        have H := H1
        clear H1
        have H' := Aside0.mk H
        clear H
        try go_wp2
        have n0_ := Aside0.mk (below_drew1 HB.out)
        clear HB
        have HB := n0_
        clear n0_
        have p440 : 0 ≤ (x5_1 : Int) := of_decide_eq_true (by assumption)
        have q440 : x5_1 < (l0.length : Int) := of_decide_eq_true (by assumption)
        obtain ⟨ad440, e440, hx440_0, hx440_1⟩ := at_T84 HR0.out x5_1 p440 q440
        have hw440_1 := hx440_1
        have hw440_0 := hx440_0
        cases e440
        replace hx440_0 := (HB.out.cell (World.block_lt_of_cell? w _ hx440_0)).trans hx440_0
        replace hx440_1 := (HB.out.cell (World.block_lt_of_cell? w _ hx440_1)).trans hx440_1
        replace p440 := eq_true p440
        replace q440 := eq_true q440
        have p441 : 0 ≤ (x5_1 : Int) := of_decide_eq_true (by assumption)
        have q441 : x5_1 < (l1.length : Int) := of_decide_eq_true (by assumption)
        obtain ⟨ad441, e441, hx441_0, hx441_1⟩ := at_T84 HR1.out x5_1 p441 q441
        have hw441_1 := hx441_1
        have hw441_0 := hx441_0
        cases e441
        replace hx441_0 := (HB.out.cell (World.block_lt_of_cell? w _ hx441_0)).trans hx441_0
        replace hx441_1 := (HB.out.cell (World.block_lt_of_cell? w _ hx441_1)).trans hx441_1
        replace p441 := eq_true p441
        replace q441 := eq_true q441
        refine start_ (n := 10) (S := fun w' => w'.cell? (ad440.add ((x5_1).toNat * 2)) = some (.int .i64 ((rd_T84 l0 x5_1).f0)) ∧ w'.cell? ⟨(ad440.add ((x5_1).toNat * 2)).block, (ad440.add ((x5_1).toNat * 2)).off + 1, none⟩ = some (.int .i64 ((rd_T84 l0 x5_1).f1)) ∧ w'.cell? (ad441.add ((x5_1).toNat * 2)) = some (.int .i64 ((rd_T84 l1 x5_1).f0)) ∧ w'.cell? ⟨(ad441.add ((x5_1).toNat * 2)).block, (ad441.add ((x5_1).toNat * 2)).off + 1, none⟩ = some (.int .i64 ((rd_T84 l1 x5_1).f1))) (ds := []) laws_eqNoteS.K0 (by kernel_rfl) rfl rfl ⟨((HB.out.cell (World.block_lt_of_cell? w _ hw440_0)).trans hw440_0), ((HB.out.cell (World.block_lt_of_cell? w _ hw440_1)).trans hw440_1), ((HB.out.cell (World.block_lt_of_cell? w _ hw441_0)).trans hw441_0), ((HB.out.cell (World.block_lt_of_cell? w _ hw441_1)).trans hw441_1)⟩ (fun hHeld => ?_); refine with_tabW laws_eqNoteS.tab6 laws_eqNoteS.bits6 (fun HT_ HW_ => ?_)
        generalize wr.drew = w9 at HB hx440_0 hx440_1 hx441_0 hx441_1 hHeld ⊢
        refine pure_ (i := 0) (N := some 17) (v := ?_) (a' := ?_) laws_eqNoteS.K1 rfl rfl (any_of HT_.out (by kernel_rfl)) (fun _ _ _ h => h) (Or.inl ⟨by rfl, ?_⟩) ?_ ?_; rotate_left; (·intro w'; go_simp; with_reducible rfl); rotate_left; (·go_simp; rfl)
        refine pure_ (i := 1) (N := some 18) (v := ?_) (a' := ?_) laws_eqNoteS.K2 rfl rfl (any_of HT_.out (by kernel_rfl)) (fun _ _ _ h => h) (Or.inl ⟨by rfl, ?_⟩) ?_ ?_; rotate_left; (·intro w'; go_simp; with_reducible rfl); rotate_left; (·go_simp; rfl)
        refine pure_ (i := 2) (N := some 19) (v := ?_) (a' := ?_) laws_eqNoteS.K3 rfl rfl (any_of HT_.out (by kernel_rfl)) (fun _ _ _ h => h) (Or.inl ⟨by rfl, ?_⟩) ?_ ?_; rotate_left; (·intro w'; go_simp; with_reducible rfl); rotate_left; (·go_simp; rfl)
        refine pure_ (i := 4) (N := some 21) (v := ?_) (a' := ?_) laws_eqNoteS.K4 rfl rfl (any_of HT_.out (by kernel_rfl)) (fun _ _ _ h => h) (Or.inl ⟨by rfl, ?_⟩) ?_ ?_; rotate_left; (·intro w'; go_simp; with_reducible rfl); rotate_left; (·go_simp; rfl)
        refine pure_ (i := 5) (N := some 22) (v := ?_) (a' := ?_) laws_eqNoteS.K5 rfl rfl (any_of HT_.out (by kernel_rfl)) (fun _ _ _ h => h) (Or.inl ⟨by rfl, ?_⟩) ?_ ?_; rotate_left; (·intro w'; go_simp; with_reducible rfl); rotate_left; (·go_simp; rfl)
        refine pure_ (i := 6) (N := some 23) (v := ?_) (a' := ?_) laws_eqNoteS.K6 rfl rfl (any_of HT_.out (by kernel_rfl)) (fun _ _ _ h => h) (Or.inl ⟨by rfl, ?_⟩) ?_ ?_; rotate_left; (·intro w'; go_simp; with_reducible rfl); rotate_left; (·go_simp; rfl)
        refine take_ (i := 3) (N := some 20) (v := ?_) (a' := ?_) laws_eqNoteS.K7 rfl rfl (take_ofW HT_.out HW_.out (by kernel_rfl)) (fun _ _ _ h => h) (Or.inl ⟨by rfl, ?_⟩) hHeld ?_ ?_
        rotate_left
        ·rintro w' ⟨s0, s1, s2, s3⟩
         go_simp
         with_reducible rfl
        rotate_left
        ·go_simp
         rfl
        refine take_ (i := 7) (N := some 24) (v := ?_) (a' := ?_) laws_eqNoteS.K8 rfl rfl (take_ofW HT_.out HW_.out (by kernel_rfl)) (fun _ _ _ h => h) (Or.inl ⟨by rfl, ?_⟩) hHeld ?_ ?_
        rotate_left
        ·rintro w' ⟨s0, s1, s2, s3⟩
         go_simp
         with_reducible rfl
        rotate_left
        ·go_simp
         rfl
        refine one_ (i := 8) (N := some 25) laws_eqNoteS.K9 rfl rfl (one_of HT_.out (by kernel_rfl)) (by decide) (fun K hK => ?_)
        refine goes_ Try.func69 (by kernel_rfl) rfl #[.agg #[.int .i64 ((rd_T84 l0 x5_1).f0), .int .i64 ((rd_T84 l0 x5_1).f1)], .agg #[.int .i64 ((rd_T84 l1 x5_1).f0), .int .i64 ((rd_T84 l1 x5_1).f1)]] (by rfl) rfl rfl (by first | rfl | (simp only [List.map_toArray, List.map_cons, List.map_nil]; done) | (simp only [List.map_toArray, List.map_cons, List.map_nil]; rfl)) ?_
        with_reducible refine (laws_eqNote.calls ((rd_T84 l0 x5_1).f0) ((rd_T84 l0 x5_1).f1) ((rd_T84 l1 x5_1).f0) ((rd_T84 l1 x5_1).f1) true _ A7.out).mono ?_
        rintro e w10 ⟨rfl, hb⟩
        refine ⟨_, rfl, ?_⟩
        have n0_ := Aside0.mk (below_step (by repeat (first | exact HB.out | apply below_alloc)) hb)
        clear HB
        have HB := n0_
        clear n0_
        (try clear hb)
        (try clear hb2)
        (try clear hk)
        (try clear hi)
        refine hK.out _ _ ⟨((HB.out.cell (World.block_lt_of_cell? w _ hw440_0)).trans hw440_0), ((HB.out.cell (World.block_lt_of_cell? w _ hw440_1)).trans hw440_1), ((HB.out.cell (World.block_lt_of_cell? w _ hw441_0)).trans hw441_0), ((HB.out.cell (World.block_lt_of_cell? w _ hw441_1)).trans hw441_1)⟩ (fun hHeld => ?_)
        clear hK K
        refine norm_ (a' := ?_) ?_ ?_
        rotate_left
        ·show Act.put _ (some 25) _ = _
         go_simp
         rfl
        refine pure_ (i := 9) (N := some 26) (v := ?_) (a' := ?_) laws_eqNoteS.K10 rfl rfl (any_of HT_.out (by kernel_rfl)) (fun _ _ _ h => h) (Or.inl ⟨by rfl, ?_⟩) ?_ ?_; rotate_left; (·intro w'; go_simp; with_reducible rfl); rotate_left; (·go_simp; rfl)
        refine done_ (done_of HT_.out (by kernel_rfl)) ?_
        try go_wp2
        go_roundg k1
        case measure => have := HK1.out; omega
        case rel => exact ⟨(wrap64 (x5_1 + 1)), (by first | rfl | (simp; done) | (simp [*]; done)), H', ⟨by have := HK1.out; omega⟩, ⟨by repeat (first | (with_reducible first | exact HB.out | apply below_alloc | apply pw_below_drewN | apply below_drew1) | exact HB.out)⟩⟩
       ·replace c8 := Bool.eq_false_iff.mpr c8
        subst c8
        have H1 : (some false) = some r := by rw [if_neg (show ¬ (false = true) by decide)] at H; exact H
        clear H
        have H := H1
        clear H1
        obtain rfl := Option.some.inj H
        try go_wp2
        have n0_ := Aside0.mk (below_drew1 HB.out)
        clear HB
        have HB := n0_
        clear n0_
        have p440 : 0 ≤ (x5_1 : Int) := of_decide_eq_true (by assumption)
        have q440 : x5_1 < (l0.length : Int) := of_decide_eq_true (by assumption)
        obtain ⟨ad440, e440, hx440_0, hx440_1⟩ := at_T84 HR0.out x5_1 p440 q440
        have hw440_1 := hx440_1
        have hw440_0 := hx440_0
        cases e440
        replace hx440_0 := (HB.out.cell (World.block_lt_of_cell? w _ hx440_0)).trans hx440_0
        replace hx440_1 := (HB.out.cell (World.block_lt_of_cell? w _ hx440_1)).trans hx440_1
        replace p440 := eq_true p440
        replace q440 := eq_true q440
        have p441 : 0 ≤ (x5_1 : Int) := of_decide_eq_true (by assumption)
        have q441 : x5_1 < (l1.length : Int) := of_decide_eq_true (by assumption)
        obtain ⟨ad441, e441, hx441_0, hx441_1⟩ := at_T84 HR1.out x5_1 p441 q441
        have hw441_1 := hx441_1
        have hw441_0 := hx441_0
        cases e441
        replace hx441_0 := (HB.out.cell (World.block_lt_of_cell? w _ hx441_0)).trans hx441_0
        replace hx441_1 := (HB.out.cell (World.block_lt_of_cell? w _ hx441_1)).trans hx441_1
        replace p441 := eq_true p441
        replace q441 := eq_true q441
        refine start_ (n := 10) (S := fun w' => w'.cell? (ad440.add ((x5_1).toNat * 2)) = some (.int .i64 ((rd_T84 l0 x5_1).f0)) ∧ w'.cell? ⟨(ad440.add ((x5_1).toNat * 2)).block, (ad440.add ((x5_1).toNat * 2)).off + 1, none⟩ = some (.int .i64 ((rd_T84 l0 x5_1).f1)) ∧ w'.cell? (ad441.add ((x5_1).toNat * 2)) = some (.int .i64 ((rd_T84 l1 x5_1).f0)) ∧ w'.cell? ⟨(ad441.add ((x5_1).toNat * 2)).block, (ad441.add ((x5_1).toNat * 2)).off + 1, none⟩ = some (.int .i64 ((rd_T84 l1 x5_1).f1))) (ds := []) laws_eqNoteS.K0 (by kernel_rfl) rfl rfl ⟨((HB.out.cell (World.block_lt_of_cell? w _ hw440_0)).trans hw440_0), ((HB.out.cell (World.block_lt_of_cell? w _ hw440_1)).trans hw440_1), ((HB.out.cell (World.block_lt_of_cell? w _ hw441_0)).trans hw441_0), ((HB.out.cell (World.block_lt_of_cell? w _ hw441_1)).trans hw441_1)⟩ (fun hHeld => ?_); refine with_tabW laws_eqNoteS.tab6 laws_eqNoteS.bits6 (fun HT_ HW_ => ?_)
        generalize wr.drew = w11 at HB hx440_0 hx440_1 hx441_0 hx441_1 hHeld ⊢
        refine pure_ (i := 0) (N := some 17) (v := ?_) (a' := ?_) laws_eqNoteS.K1 rfl rfl (any_of HT_.out (by kernel_rfl)) (fun _ _ _ h => h) (Or.inl ⟨by rfl, ?_⟩) ?_ ?_; rotate_left; (·intro w'; go_simp; with_reducible rfl); rotate_left; (·go_simp; rfl)
        refine pure_ (i := 1) (N := some 18) (v := ?_) (a' := ?_) laws_eqNoteS.K2 rfl rfl (any_of HT_.out (by kernel_rfl)) (fun _ _ _ h => h) (Or.inl ⟨by rfl, ?_⟩) ?_ ?_; rotate_left; (·intro w'; go_simp; with_reducible rfl); rotate_left; (·go_simp; rfl)
        refine pure_ (i := 2) (N := some 19) (v := ?_) (a' := ?_) laws_eqNoteS.K3 rfl rfl (any_of HT_.out (by kernel_rfl)) (fun _ _ _ h => h) (Or.inl ⟨by rfl, ?_⟩) ?_ ?_; rotate_left; (·intro w'; go_simp; with_reducible rfl); rotate_left; (·go_simp; rfl)
        refine pure_ (i := 4) (N := some 21) (v := ?_) (a' := ?_) laws_eqNoteS.K4 rfl rfl (any_of HT_.out (by kernel_rfl)) (fun _ _ _ h => h) (Or.inl ⟨by rfl, ?_⟩) ?_ ?_; rotate_left; (·intro w'; go_simp; with_reducible rfl); rotate_left; (·go_simp; rfl)
        refine pure_ (i := 5) (N := some 22) (v := ?_) (a' := ?_) laws_eqNoteS.K5 rfl rfl (any_of HT_.out (by kernel_rfl)) (fun _ _ _ h => h) (Or.inl ⟨by rfl, ?_⟩) ?_ ?_; rotate_left; (·intro w'; go_simp; with_reducible rfl); rotate_left; (·go_simp; rfl)
        refine pure_ (i := 6) (N := some 23) (v := ?_) (a' := ?_) laws_eqNoteS.K6 rfl rfl (any_of HT_.out (by kernel_rfl)) (fun _ _ _ h => h) (Or.inl ⟨by rfl, ?_⟩) ?_ ?_; rotate_left; (·intro w'; go_simp; with_reducible rfl); rotate_left; (·go_simp; rfl)
        refine take_ (i := 3) (N := some 20) (v := ?_) (a' := ?_) laws_eqNoteS.K7 rfl rfl (take_ofW HT_.out HW_.out (by kernel_rfl)) (fun _ _ _ h => h) (Or.inl ⟨by rfl, ?_⟩) hHeld ?_ ?_
        rotate_left
        ·rintro w' ⟨s0, s1, s2, s3⟩
         go_simp
         with_reducible rfl
        rotate_left
        ·go_simp
         rfl
        refine take_ (i := 7) (N := some 24) (v := ?_) (a' := ?_) laws_eqNoteS.K8 rfl rfl (take_ofW HT_.out HW_.out (by kernel_rfl)) (fun _ _ _ h => h) (Or.inl ⟨by rfl, ?_⟩) hHeld ?_ ?_
        rotate_left
        ·rintro w' ⟨s0, s1, s2, s3⟩
         go_simp
         with_reducible rfl
        rotate_left
        ·go_simp
         rfl
        refine one_ (i := 8) (N := some 25) laws_eqNoteS.K9 rfl rfl (one_of HT_.out (by kernel_rfl)) (by decide) (fun K hK => ?_)
        refine goes_ Try.func69 (by kernel_rfl) rfl #[.agg #[.int .i64 ((rd_T84 l0 x5_1).f0), .int .i64 ((rd_T84 l0 x5_1).f1)], .agg #[.int .i64 ((rd_T84 l1 x5_1).f0), .int .i64 ((rd_T84 l1 x5_1).f1)]] (by rfl) rfl rfl (by first | rfl | (simp only [List.map_toArray, List.map_cons, List.map_nil]; done) | (simp only [List.map_toArray, List.map_cons, List.map_nil]; rfl)) ?_
        with_reducible refine (laws_eqNote.calls ((rd_T84 l0 x5_1).f0) ((rd_T84 l0 x5_1).f1) ((rd_T84 l1 x5_1).f0) ((rd_T84 l1 x5_1).f1) false _ A7.out).mono ?_
        rintro e w12 ⟨rfl, hb⟩
        refine ⟨_, rfl, ?_⟩
        have n0_ := Aside0.mk (below_step (by repeat (first | exact HB.out | apply below_alloc)) hb)
        clear HB
        have HB := n0_
        clear n0_
        (try clear hb)
        (try clear hb2)
        (try clear hk)
        (try clear hi)
        refine hK.out _ _ ⟨((HB.out.cell (World.block_lt_of_cell? w _ hw440_0)).trans hw440_0), ((HB.out.cell (World.block_lt_of_cell? w _ hw440_1)).trans hw440_1), ((HB.out.cell (World.block_lt_of_cell? w _ hw441_0)).trans hw441_0), ((HB.out.cell (World.block_lt_of_cell? w _ hw441_1)).trans hw441_1)⟩ (fun hHeld => ?_)
        clear hK K
        refine norm_ (a' := ?_) ?_ ?_
        rotate_left
        ·show Act.put _ (some 25) _ = _
         go_simp
         rfl
        refine pure_ (i := 9) (N := some 26) (v := ?_) (a' := ?_) laws_eqNoteS.K10 rfl rfl (any_of HT_.out (by kernel_rfl)) (fun _ _ _ h => h) (Or.inl ⟨by rfl, ?_⟩) ?_ ?_; rotate_left; (·intro w'; go_simp; with_reducible rfl); rotate_left; (·go_simp; rfl)
        refine done_ (done_of HT_.out (by kernel_rfl)) ?_
        try go_wp2
        go_ret
        exact ⟨by first | rfl | (simp [errW_none, errW_some] <;> rfl) | (simp [*, errW_none, errW_some] <;> rfl), by repeat (first | (with_reducible first | exact HB.out | apply below_alloc | apply pw_below_drewN | apply below_drew1) | exact HB.out)⟩
      ·rw [if_neg c6] at H
       exact absurd H (by simp)
     ·rw [if_neg c5] at H
      exact absurd H (by simp)
    ·rw [if_neg c4] at H
     have c4b0 : decide (x5_1 < (l0.length : Int)) = false := decide_eq_false c4
     clear c4
     obtain rfl := Option.some.inj H
     go_wp2
     go_ret
     exact ⟨by first | rfl | (simp [errW_none, errW_some] <;> rfl) | (simp [*, errW_none, errW_some] <;> rfl), by repeat (first | (with_reducible first | exact HB.out | apply below_alloc | apply pw_below_drewN | apply below_drew1) | exact HB.out)⟩
 ·rw [if_neg c3] at H
  have c3b0 : ((l0.length : Int) == (l1.length : Int)) = false := beq_eq_false_iff_ne.mpr c3
  have c3b1 : ((l0.length : Int) != (l1.length : Int)) = true := bne_iff_ne.mpr c3
  have c3b2 : (l0.length == l1.length) = false := by first | simpa using c3 | (simp at c3 ⊢; omega)
  obtain rfl := Option.some.inj H
  go_enter Try.func32, Try.ntmps32
  go_wp2
  go_ret
  exact ⟨by first | rfl | (simp [errW_none, errW_some] <;> rfl) | (simp [*, errW_none, errW_some] <;> rfl), by repeat (first | (with_reducible first | exact HB.out | apply below_alloc | apply pw_below_drewN | apply below_drew1) | exact HB.out)⟩
end Go.Proofs.Ytgdiabfmjcejdaa.P
end
