/- Texts of this seat, merged: QImplValidmelody, QPreSearch, QPreSince, QPreIdx, QSlicesCloneInt64Int64, QSlicesInsertionsortcmpfuncInt64, QSlicesSwaprangecmpfuncInt64, QSlicesRotatecmpfuncInt64. -/
import Derived.Test.YtgdiabfmjcejdaaGBS1
section
namespace Go.Proofs.Ytgdiabfmjcejdaa.P
open Go.RowKit Go.Proofs.YtgdiabfmjcejdaaW.PrintWords Go.Proofs.YtgdiabfmjcejdaaW.PrintLast Go.Proofs.YtgdiabfmjcejdaaW.PrintMore
attribute [local go_sem] max2_int min2_int max_two min_two max_three min_three max_four min_four   -- for this text's walks alone
set_option linter.unusedVariables false
set_option linter.unusedSimpArgs false
/-! ### impl_ValidMelody: function 61 -/
def impl_ValidMelody.l0 : Nat → List (S84) → Int → Int → Option (Bool)
 | 0, _, _, _ => none
 | k + 1, x8, x9, x10 => if x10 < x9 then (if 0 ≤ x10 then (if x10 < (x8.length : Int) then ((impl_pitchOk.f ((rd_T84 x8 x10).f0)).bind fun t426 => (if t426 = true then ((impl_lengthOk.f ((rd_T84 x8 x10).f1)).bind fun t427 => (if t427 = true then (impl_ValidMelody.l0 k x8 x9 (wrap64 (x10 + 1))) else (some false))) else (some false))) else (none)) else (none)) else (some true)
def impl_ValidMelody.f (k : Nat) (l0 : List (S84)) : Option (Bool) := if (l0.length : Int) > 48 then (some false) else (impl_ValidMelody.l0 k l0 (l0.length : Int) 0)
set_option maxHeartbeats 8000000 in
set_option maxRecDepth 100000 in
theorem impl_ValidMelody.calls (k : Nat) (A0 : Option Addr) (c0 : Nat) (l0 : List (S84)) (r : Bool) (w : World) (hr0 : Kd.C k84 w A0 l0.length l0) (hc0 : l0.length ≤ c0) (h : impl_ValidMelody.f k l0 = some r) :
  Calls Try.prog 61 #[.slice A0 l0.length c0] w fun e w' => e = .returned (.bool r) ∧ Below w.heap.size w w' := by
 have hu84 := Try.underlying84
 have HR0 := Aside0.mk hr0
 have HC0 := Aside0.mk hc0
 clear hr0 hc0
 have HB := Aside0.mk (Below.refl w.heap.size w)
 have H : (if (l0.length : Int) > 48 then (some false) else (impl_ValidMelody.l0 k l0 (l0.length : Int) 0)) = some r := h
 clear h
 by_cases c2 : (l0.length : Int) > 48
 ·rw [if_pos c2] at H
  have c2b0 : decide (48 < (l0.length : Int)) = true := decide_eq_true c2
  have c2b1 : decide (48 < l0.length) = true := decide_eq_true (by omega)
  clear c2
  obtain rfl := Option.some.inj H
  go_enter Try.func61, Try.ntmps61
  go_wp2
  go_ret
  exact ⟨by first | rfl | (simp [errW_none, errW_some] <;> rfl) | (simp [*, errW_none, errW_some] <;> rfl), by repeat (first | (with_reducible first | exact HB.out | apply below_alloc | apply pw_below_drewN | apply below_drew1) | exact HB.out)⟩
 ·rw [if_neg c2] at H
  have c2b0 : decide (48 < (l0.length : Int)) = false := decide_eq_false c2
  have c2b1 : decide (48 < l0.length) = false := decide_eq_false (by omega)
  clear c2
  have H' := Aside0.mk H
  clear H
  go_enter Try.func61, Try.ntmps61
  go_wp2
  go_loopg [10] k (fun kq v10 w' => ∃ (x10_1 : Int), v10 = .int .i64 x10_1 ∧ Aside0 (impl_ValidMelody.l0 kq l0 (l0.length : Int) x10_1 = some r) ∧ Aside0 (kq ≤ k) ∧ Aside0 (Below w.heap.size w w'))
  case atStart => exact ⟨(0), (by first | rfl | (simp; done) | (simp [*]; done)), H', ⟨Nat.le_refl _⟩, ⟨by repeat (first | (with_reducible first | exact HB.out | apply below_alloc | apply pw_below_drewN | apply below_drew1) | exact HB.out)⟩⟩
  case round =>
   clear H'
   try clear c2
   try clear c2b0
   try clear c2b1
   try clear p2
   obtain ⟨x10_1, rfl, HA, HK1, HB⟩ := hrel
   cases gk with
   | zero => exact absurd HA.out (by simp [impl_ValidMelody.l0])
   | succ k1 =>
    have H := HA.out
    clear HA
    simp only [impl_ValidMelody.l0] at H
    by_cases c3 : x10_1 < (l0.length : Int)
    ·rw [if_pos c3] at H
     have c3b0 : decide (x10_1 < (l0.length : Int)) = true := decide_eq_true c3
     clear c3
     by_cases c4 : 0 ≤ x10_1
     ·rw [if_pos c4] at H
      have c4b0 : decide (0 ≤ x10_1) = true := decide_eq_true c4
      clear c4
      by_cases c5 : x10_1 < (l0.length : Int)
      ·rw [if_pos c5] at H
       have c5b0 : decide (x10_1 < (l0.length : Int)) = true := decide_eq_true c5
       clear c5
       replace H := Option.bind_eq_some_iff.mp H
       obtain ⟨t426, A60, H⟩ := H
       replace H : (if t426 = true then ((impl_lengthOk.f ((rd_T84 l0 x10_1).f1)).bind fun t427 => (if t427 = true then (impl_ValidMelody.l0 k1 l0 (l0.length : Int) (wrap64 (x10_1 + 1))) else (some false))) else (some false)) = some r := H
       have A6 := Aside0.mk A60
       clear A60
       by_cases c7 : t426 = true
       ·subst c7
        have H1 : ((impl_lengthOk.f ((rd_T84 l0 x10_1).f1)).bind fun t427 => (if t427 = true then (impl_ValidMelody.l0 k1 l0 (l0.length : Int) (wrap64 (x10_1 + 1))) else (some false))) = some r := by rw [if_pos rfl] at H; exact H
        clear H
        have H := H1
        clear H1
        replace H := Option.bind_eq_some_iff.mp H
        obtain ⟨t427, A80, H⟩ := H
        replace H : (if t427 = true then (impl_ValidMelody.l0 k1 l0 (l0.length : Int) (wrap64 (x10_1 + 1))) else (some false)) = some r := H
        have A8 := Aside0.mk A80
        clear A80
        by_cases c9 : t427 = true
        ·subst c9
         have H1 : (impl_ValidMelody.l0 k1 l0 (l0.length : Int) (wrap64 (x10_1 + 1))) = some r := by rw [if_pos rfl] at H; exact H
         clear H
         have H := H1
         clear H1
         have H' := Aside0.mk H
         clear H
         have p424 : 0 ≤ (x10_1 : Int) := of_decide_eq_true (by assumption)
         have q424 : x10_1 < (l0.length : Int) := of_decide_eq_true (by assumption)
         obtain ⟨ad424, e424, hx424_0, hx424_1⟩ := at_T84 HR0.out x10_1 p424 q424
         cases e424
         replace hx424_0 := (HB.out.cell (World.block_lt_of_cell? w _ hx424_0)).trans hx424_0
         replace hx424_1 := (HB.out.cell (World.block_lt_of_cell? w _ hx424_1)).trans hx424_1
         replace p424 := eq_true p424
         replace q424 := eq_true q424
         go_wp2_with (first | ((with_reducible refine gate_dst (N := 4) rfl ?_); refine box_event ?hg (N := 4) ?hd (cs := #[.int .i64 0, .int .i64 0]) (t := 84) ?hr ?_; (case hd => rfl); (case hg => rfl); (case hr => first | (go_simp; done) | (go_simp; rfl)); intro gb425 hg w10 hbox hb; have n0_ := Aside0.mk (below_step (by repeat (first | exact HB.out | apply below_alloc)) hb); have n1_ := Aside0.mk (hbox); have n2_ := Aside0.mk ((by rw [hg]; exact (below_size (by repeat (first | exact HB.out | apply below_alloc))) : w.heap.size ≤ gb425)); have n3_ := Aside0.mk ((by rw [hg]; exact (below_size (by repeat (first | exact HB.out | apply below_alloc))) : w.heap.size ≤ gb425)); clear HB; have HB := n0_; have BK425 := n1_; have GW425 := n2_; have GE425 := n3_; clear n0_ n1_ n2_ n3_; clear hb hbox hg; have hcz11_0 : w10.cell? ⟨gb425, 0, none⟩ = some (.int .i64 0) := (blk_cell BK425.out 0).trans rfl; have hcz11_1 : w10.cell? ⟨gb425, 1, none⟩ = some (.int .i64 0) := (blk_cell BK425.out 1).trans rfl; have hfz11_0 := blk_frozen BK425.out 0; have hfz11_1 := blk_frozen BK425.out 1) | ((with_reducible refine gate_callee (f := 94) rfl ?_); refine goesL_ (some 16) rfl rfl Try.func94 (by kernel_rfl) rfl #[.int .i64 ((rd_T84 l0 x10_1).f0)] rfl (by first | rfl | (simp only [List.map_toArray, List.map_cons, List.map_nil]; done) | (simp only [List.map_toArray, List.map_cons, List.map_nil]; rfl)) ?_; (with_reducible refine (impl_pitchOk.calls ((rd_T84 l0 x10_1).f0) true _ A6.out).mono ?_); rintro e w' ⟨rfl, ⟨nd, rfl⟩⟩; refine ⟨_, rfl, ?_⟩) | (go_at_call 95; (with_reducible refine (impl_lengthOk.calls ((rd_T84 l0 x10_1).f1) true _ A8.out).mono ?_); rintro e w' ⟨rfl, ⟨nd, rfl⟩⟩))
         go_roundg k1
         case measure => have := HK1.out; omega
         case rel => exact ⟨(wrap64 (x10_1 + 1)), (by first | rfl | (simp; done) | (simp [*]; done)), H', ⟨by have := HK1.out; omega⟩, ⟨by repeat (first | (with_reducible first | exact HB.out | apply below_alloc | apply pw_below_drewN | apply below_drew1 | refine below_set ?_ GE425.out) | exact HB.out)⟩⟩
        ·replace c9 := Bool.eq_false_iff.mpr c9
         subst c9
         have H1 : (some false) = some r := by rw [if_neg (show ¬ (false = true) by decide)] at H; exact H
         clear H
         have H := H1
         clear H1
         obtain rfl := Option.some.inj H
         have p424 : 0 ≤ (x10_1 : Int) := of_decide_eq_true (by assumption)
         have q424 : x10_1 < (l0.length : Int) := of_decide_eq_true (by assumption)
         obtain ⟨ad424, e424, hx424_0, hx424_1⟩ := at_T84 HR0.out x10_1 p424 q424
         cases e424
         replace hx424_0 := (HB.out.cell (World.block_lt_of_cell? w _ hx424_0)).trans hx424_0
         replace hx424_1 := (HB.out.cell (World.block_lt_of_cell? w _ hx424_1)).trans hx424_1
         replace p424 := eq_true p424
         replace q424 := eq_true q424
         go_wp2_with (first | ((with_reducible refine gate_dst (N := 4) rfl ?_); refine box_event ?hg (N := 4) ?hd (cs := #[.int .i64 0, .int .i64 0]) (t := 84) ?hr ?_; (case hd => rfl); (case hg => rfl); (case hr => first | (go_simp; done) | (go_simp; rfl)); intro gb425 hg w12 hbox hb; have n0_ := Aside0.mk (below_step (by repeat (first | exact HB.out | apply below_alloc)) hb); have n1_ := Aside0.mk (hbox); have n2_ := Aside0.mk ((by rw [hg]; exact (below_size (by repeat (first | exact HB.out | apply below_alloc))) : w.heap.size ≤ gb425)); have n3_ := Aside0.mk ((by rw [hg]; exact (below_size (by repeat (first | exact HB.out | apply below_alloc))) : w.heap.size ≤ gb425)); clear HB; have HB := n0_; have BK425 := n1_; have GW425 := n2_; have GE425 := n3_; clear n0_ n1_ n2_ n3_; clear hb hbox hg; have hcz13_0 : w12.cell? ⟨gb425, 0, none⟩ = some (.int .i64 0) := (blk_cell BK425.out 0).trans rfl; have hcz13_1 : w12.cell? ⟨gb425, 1, none⟩ = some (.int .i64 0) := (blk_cell BK425.out 1).trans rfl; have hfz13_0 := blk_frozen BK425.out 0; have hfz13_1 := blk_frozen BK425.out 1) | ((with_reducible refine gate_callee (f := 94) rfl ?_); refine goesL_ (some 16) rfl rfl Try.func94 (by kernel_rfl) rfl #[.int .i64 ((rd_T84 l0 x10_1).f0)] rfl (by first | rfl | (simp only [List.map_toArray, List.map_cons, List.map_nil]; done) | (simp only [List.map_toArray, List.map_cons, List.map_nil]; rfl)) ?_; (with_reducible refine (impl_pitchOk.calls ((rd_T84 l0 x10_1).f0) true _ A6.out).mono ?_); rintro e w' ⟨rfl, ⟨nd, rfl⟩⟩; refine ⟨_, rfl, ?_⟩) | (go_at_call 95; (with_reducible refine (impl_lengthOk.calls ((rd_T84 l0 x10_1).f1) false _ A8.out).mono ?_); rintro e w' ⟨rfl, ⟨nd, rfl⟩⟩))
         go_ret
         exact ⟨by first | rfl | (simp [errW_none, errW_some] <;> rfl) | (simp [*, errW_none, errW_some] <;> rfl), by repeat (first | (with_reducible first | exact HB.out | apply below_alloc | apply pw_below_drewN | apply below_drew1 | refine below_set ?_ GE425.out) | exact HB.out)⟩
       ·replace c7 := Bool.eq_false_iff.mpr c7
        subst c7
        have H1 : (some false) = some r := by rw [if_neg (show ¬ (false = true) by decide)] at H; exact H
        clear H
        have H := H1
        clear H1
        obtain rfl := Option.some.inj H
        have p424 : 0 ≤ (x10_1 : Int) := of_decide_eq_true (by assumption)
        have q424 : x10_1 < (l0.length : Int) := of_decide_eq_true (by assumption)
        obtain ⟨ad424, e424, hx424_0, hx424_1⟩ := at_T84 HR0.out x10_1 p424 q424
        cases e424
        replace hx424_0 := (HB.out.cell (World.block_lt_of_cell? w _ hx424_0)).trans hx424_0
        replace hx424_1 := (HB.out.cell (World.block_lt_of_cell? w _ hx424_1)).trans hx424_1
        replace p424 := eq_true p424
        replace q424 := eq_true q424
        go_wp2_with (first | ((with_reducible refine gate_dst (N := 4) rfl ?_); refine box_event ?hg (N := 4) ?hd (cs := #[.int .i64 0, .int .i64 0]) (t := 84) ?hr ?_; (case hd => rfl); (case hg => rfl); (case hr => first | (go_simp; done) | (go_simp; rfl)); intro gb425 hg w14 hbox hb; have n0_ := Aside0.mk (below_step (by repeat (first | exact HB.out | apply below_alloc)) hb); have n1_ := Aside0.mk (hbox); have n2_ := Aside0.mk ((by rw [hg]; exact (below_size (by repeat (first | exact HB.out | apply below_alloc))) : w.heap.size ≤ gb425)); have n3_ := Aside0.mk ((by rw [hg]; exact (below_size (by repeat (first | exact HB.out | apply below_alloc))) : w.heap.size ≤ gb425)); clear HB; have HB := n0_; have BK425 := n1_; have GW425 := n2_; have GE425 := n3_; clear n0_ n1_ n2_ n3_; clear hb hbox hg; have hcz15_0 : w14.cell? ⟨gb425, 0, none⟩ = some (.int .i64 0) := (blk_cell BK425.out 0).trans rfl; have hcz15_1 : w14.cell? ⟨gb425, 1, none⟩ = some (.int .i64 0) := (blk_cell BK425.out 1).trans rfl; have hfz15_0 := blk_frozen BK425.out 0; have hfz15_1 := blk_frozen BK425.out 1) | ((with_reducible refine gate_callee (f := 94) rfl ?_); refine goesL_ (some 16) rfl rfl Try.func94 (by kernel_rfl) rfl #[.int .i64 ((rd_T84 l0 x10_1).f0)] rfl (by first | rfl | (simp only [List.map_toArray, List.map_cons, List.map_nil]; done) | (simp only [List.map_toArray, List.map_cons, List.map_nil]; rfl)) ?_; (with_reducible refine (impl_pitchOk.calls ((rd_T84 l0 x10_1).f0) false _ A6.out).mono ?_); rintro e w' ⟨rfl, ⟨nd, rfl⟩⟩; refine ⟨_, rfl, ?_⟩))
        go_ret
        exact ⟨by first | rfl | (simp [errW_none, errW_some] <;> rfl) | (simp [*, errW_none, errW_some] <;> rfl), by repeat (first | (with_reducible first | exact HB.out | apply below_alloc | apply pw_below_drewN | apply below_drew1 | refine below_set ?_ GE425.out) | exact HB.out)⟩
      ·rw [if_neg c5] at H
       exact absurd H (by simp)
     ·rw [if_neg c4] at H
      exact absurd H (by simp)
    ·rw [if_neg c3] at H
     have c3b0 : decide (x10_1 < (l0.length : Int)) = false := decide_eq_false c3
     clear c3
     obtain rfl := Option.some.inj H
     go_wp2
     go_ret
     exact ⟨by first | rfl | (simp [errW_none, errW_some] <;> rfl) | (simp [*, errW_none, errW_some] <;> rfl), by repeat (first | (with_reducible first | exact HB.out | apply below_alloc | apply pw_below_drewN | apply below_drew1) | exact HB.out)⟩
end Go.Proofs.Ytgdiabfmjcejdaa.P
end

section
namespace Go.Proofs.Ytgdiabfmjcejdaa.P
open Go.RowKit Go.Proofs.YtgdiabfmjcejdaaW.PrintWords Go.Proofs.YtgdiabfmjcejdaaW.PrintLast Go.Proofs.YtgdiabfmjcejdaaW.PrintMore
attribute [local go_sem] max2_int min2_int max_two min_two max_three min_three max_four min_four   -- for this text's walks alone
set_option linter.unusedVariables false
set_option linter.unusedSimpArgs false

/-! ### pre_search: function 90 (given) -/
/-- A search's state in memory: its cells at block g, two rows of whole numbers of its own. -/
def Srch (e : Nat) (w0 W : World) (g t : Nat) (cs : Array Value) (vp : Value) (ps : List Int) (vb : Value) (bs : List Int) : Prop :=
  W.heap[g]? = some (.cells cs t (0, 0)) ∧ w0.heap.size ≤ g ∧ Kd.R (Kd.int .i64) e W w0.heap.size (fun k => k ≠ g ∧ some k ≠ vb.ownBlock) vp ps ∧ Kd.R (Kd.int .i64) e W w0.heap.size (fun k => k ≠ g ∧ some k ≠ vp.ownBlock) vb bs ∧ Below w0.heap.size w0 W
section
variable {e : Nat} {w0 W W1 : World} {g t : Nat} {cs : Array Value} {vp vb : Value} {ps bs : List Int}
theorem Srch.below (h : Srch e w0 W g t cs vp ps vb bs) (hb : Below W.heap.size W W1) : Srch e w0 W1 g t cs vp ps vb bs :=
  ⟨blk_below h.1 hb, h.2.1, Kd.R_below h.2.2.1 hb, Kd.R_below h.2.2.2.1 hb, below_step h.2.2.2.2 hb⟩
theorem Srch.drew (h : Srch e w0 W g t cs vp ps vb bs) : Srch e w0 W.drew g t cs vp ps vb bs := h.below (below_drew1 (Below.refl _ _))
theorem Srch.set (h : Srch e w0 W g t cs vp ps vb bs) (j : Nat) (u : Value) {cs' : Array Value} (hc : cs.setIfInBounds j u = cs') : Srch e w0 (W.setCell ⟨g, j, none⟩ u) g t cs' vp ps vb bs :=
  ⟨blk_put h.1 j u hc, h.2.1, Kd.R_far h.2.2.1 (p := ⟨g, j, none⟩) (fun k hk => hk.1) u, Kd.R_far h.2.2.2.1 (p := ⟨g, j, none⟩) (fun k hk => hk.1) u, below_set h.2.2.2.2 h.2.1⟩
theorem Srch.app (h : Srch e w0 W g t cs vp ps vb bs) {v1 : Value} {qs : List Int} (ho : Kd.R (Kd.int .i64) e W1 w0.heap.size (fun k => k ≠ g ∧ some k ≠ vb.ownBlock) v1 qs) (hb : Below w0.heap.size w0 W1) (hg : W.grownBy W1 vp.ownBlock) (hat : v1.ownBlock = vp.ownBlock ∨ ∃ b, v1.ownBlock = some b ∧ W.heap.size ≤ b) :
    Srch e w0 W1 g t cs v1 qs vb bs := by
  refine ⟨blk_grown h.1 hg (fun e_ => (h.2.2.1.1 g e_.symm).1 rfl), h.2.1, ho, ?_, hb⟩
  refine Kd.R_mono (Kd.R_grown (Kd.R_bound h.2.2.2.1) hg (fun k hk => hk.1.2)) (fun k hk => ⟨hk.1.1, fun e_ => ?_⟩)
  rcases hat with ha | ⟨b, ha, hl⟩
  · exact hk.1.2 (e_.trans ha)
  · rw [ha] at e_
    cases e_
    exact Nat.not_lt.2 hl hk.2.2.1
theorem Srch.take {A : Option Addr} {n c m : Nat} (h : Srch e w0 W g t cs (.slice A n c) ps vb bs) (hm : m ≤ ps.length) : Srch e w0 W g t cs (.slice A m c) (ps.take m) vb bs := by
  have hb : (Value.slice A m c).ownBlock = (Value.slice A n c).ownBlock := by cases A <;> rfl
  exact ⟨h.1, h.2.1, Kd.R_take h.2.2.1 hm, by rw [hb]; exact h.2.2.2.1, h.2.2.2.2⟩
theorem Srch.best (h : Srch e w0 W g t cs vp ps vb bs) (hb : Below W.heap.size W W1) {v1 : Value} {qs : List Int} (ho : Kd.R (Kd.int .i64) e W1 W.heap.size (fun _ => True) v1 qs) : Srch e w0 W1 g t cs vp ps v1 qs := by
  have hgl : g < W.heap.size := blk_lt h.1
  have hsz : w0.heap.size ≤ W.heap.size := h.2.2.2.2.size
  refine ⟨blk_below h.1 hb, h.2.1, ?_, ?_, below_step h.2.2.2.2 hb⟩
  · refine Kd.R_mono (Kd.R_below (Kd.R_bound h.2.2.1) hb) (fun k hk => ⟨hk.1.1, fun e_ => ?_⟩)
    have := Kd.R_base ho k e_.symm
    exact Nat.not_lt.2 this hk.2.2.1
  · refine Kd.R_lower (Kd.R_mono (Kd.R_bound ho) (fun k hk => ⟨fun e_ => ?_, fun e_ => ?_⟩)) hsz
    · subst e_
      exact Nat.not_lt.2 hk.2.1 hgl
    · have := Kd.R_lt h.2.2.1 k e_.symm
      exact Nat.not_lt.2 hk.2.1 this
theorem Srch.bel (h : Srch e w0 W g t cs vp ps vb bs) : Below w0.heap.size w0 W := h.2.2.2.2
theorem Srch.fresh (h : Srch e w0 W g t cs vp ps vb bs) : ∀ k, W.heap.size ≤ k → k ≠ g ∧ some k ≠ vb.ownBlock := fun k hk =>
  ⟨fun e_ => by subst e_; exact Nat.not_lt.2 hk (blk_lt h.1), fun e_ => Nat.not_lt.2 hk (Kd.R_lt h.2.2.2.1 k e_.symm)⟩
theorem Srch.cell (h : Srch e w0 W g t cs vp ps vb bs) (j : Nat) {u : Value} (hu : cs[j]? = some u) : W.cell? ⟨g, j, none⟩ = some u := (blk_cell h.1 j).trans hu
end
section
variable {P : Program} {md : Region.Mode} {ops : Array Oper} {Q : Exit → Act → World → Prop} {S : World → Prop} {ds : List Nat} {fuel : Nat} {l : Array Bool} {a a' : Act} {w : World} {oi : Oper} {v : Value}
/-- Steps of a region whose order is drawn, in short words. -/
theorem pv_ (i n : Nat) (l' : Array Bool) (h : wpAnyLast P md ops Q S ds fuel l' a' w) (hi : ops[i]? = some oi := by rfl) (hN : oi.dst = some n := by rfl) (hc : anyB md ops l l' i = true := by kernel_rfl)
    (hQ : ∀ c a w, Q (.panic c) (a.put oi.dst v) w → Q (.panic c) a w := by exact fun _ _ _ h => h) (hw : Region.wanted oi (yielded ops a.tmps) = true := by rfl) (hr : ∀ w', (execOp a.eval oi).run P w' = .ok (.value v) w' := by intro w'; go_simp; with_reducible rfl) (ha : a.put (some n) v = a' := by go_simp; rfl) : wpAnyLast P md ops Q S ds (fuel + 1) l a w :=
  pure_ l' hi hN hc hQ (.inl ⟨hw, hr⟩) ha h
theorem uv_ (i n : Nat) (l' : Array Bool) (h : wpAnyLast P md ops Q S ds fuel l' a' w) (hi : ops[i]? = some oi := by rfl) (hN : oi.dst = some n := by rfl) (hc : anyB md ops l l' i = true := by kernel_rfl)
    (hQ : ∀ c a w, Q (.panic c) (a.put oi.dst undef) w → Q (.panic c) a w := by exact fun _ _ _ h => h) (hw : Region.wanted oi (yielded ops a.tmps) = false := by first | rfl | (simp only [*]; rfl)) (ha : a.put (some n) undef = a' := by go_simp; rfl) : wpAnyLast P md ops Q S ds (fuel + 1) l a w :=
  pure_ l' hi hN hc hQ (.inr ⟨hw, rfl⟩) ha h
theorem tv_ (hS : S w) (i n : Nat) (l' : Array Bool) (h : wpAnyLast P md ops Q S ds fuel l' a' w) (hi : ops[i]? = some oi := by rfl) (hN : oi.dst = some n := by rfl) (hc : takeB md ops ds l l' i = true := by kernel_rfl)
    (hQ : ∀ c a w, Q (.panic c) (a.put oi.dst v) w → Q (.panic c) a w := by exact fun _ _ _ h => h) (hw : Region.wanted oi (yielded ops a.tmps) = true := by rfl) (hr : ∀ w', S w' → (execOp a.eval oi).run P w' = .ok (.value v) w' := by intro w' hs; repeat (obtain ⟨_, hs⟩ := hs); go_simp; with_reducible rfl) (ha : a.put (some n) v = a' := by go_simp; rfl) : wpAnyLast P md ops Q S ds (fuel + 1) l a w :=
  take_ l' hi hN hc hQ (.inl ⟨hw, hr⟩) hS ha h
theorem store_one {Kc : Act → World → Prop} {o : Oper} {W w1 : World} (hw : Region.wanted o (yielded ops a.tmps) = true) (hrun : (execOp a.eval o).run P W = .ok .skip w1) (hN : o.dst = none) (h : Kc a w1) : if Region.wanted o (yielded ops a.tmps) = true then Oper.wp P o a W Kc Q else Kc (a.put none undef) W := by
  rw [if_pos hw]
  unfold Oper.wp
  rw [hrun]
  show Kc (a.put o.dst undef) w1
  rw [hN]
  exact h
end
/-- What a search keeps: all but its own block and its rows; its rows stay where they were or are new since. -/
def Sown (w : World) (v v' : Value) : Prop := ∀ k, v'.ownBlock = some k → some k = v.ownBlock ∨ w.heap.size ≤ k
def Skp (w W : World) (g : Nat) (vp vb vp' vb' : Value) : Prop := Kept w W (fun k => k = g ∨ some k = vp.ownBlock ∨ some k = vb.ownBlock) ∧ Sown w vp vp' ∧ Sown w vb vb'
def Srow (e : Nat) (w0 W : World) (g : Nat) (vp vb vn : Value) (nx : List Int) : Prop := Kd.R (Kd.int .i64) e W w0.heap.size (fun k => k ≠ g ∧ some k ≠ vp.ownBlock ∧ some k ≠ vb.ownBlock) vn nx
section
variable {e : Nat} {w0 w W W1 : World} {g t : Nat} {cs : Array Value} {vp vb vp' vb' v1 vn vp2 vb2 : Value} {ps bs qs nx : List Int}
theorem Skp.refl (w : World) (g : Nat) (vp vb : Value) : Skp w w g vp vb vp vb := ⟨Kept.refl _ _, fun k h => .inl h.symm, fun k h => .inl h.symm⟩
theorem Skp.below (h : Skp w W g vp vb vp' vb') (hb : Below W.heap.size W W1) : Skp w W1 g vp vb vp' vb' := ⟨h.1.below hb, h.2⟩
theorem Skp.drew (h : Skp w W g vp vb vp' vb') : Skp w W.drew g vp vb vp' vb' := h.below (below_drew1 (Below.refl _ _))
theorem Skp.set (h : Skp w W g vp vb vp' vb') (j : Nat) (u : Value) : Skp w (W.setCell ⟨g, j, none⟩ u) g vp vb vp' vb' := ⟨h.1.setCell (.inl (.inl rfl)) u, h.2⟩
theorem Skp.app (h : Skp w W g vp vb vp' vb') (hg : W.grownBy W1 vp'.ownBlock) (hat : v1.ownBlock = vp'.ownBlock ∨ ∃ b, v1.ownBlock = some b ∧ W.heap.size ≤ b) : Skp w W1 g vp vb v1 vb' := by
  refine ⟨Kept.of_grown hg h.1 (fun k hk => (h.2.1 k hk).elim (fun e_ => .inl (.inr (.inl e_))) .inr), fun k hk => ?_, h.2.2⟩
  rcases hat with ha | ⟨b, ha, hl⟩
  · exact h.2.1 k (ha ▸ hk)
  · rw [ha] at hk
    cases hk
    exact .inr (Nat.le_trans h.1.1 hl)
theorem Skp.best (h : Skp w W g vp vb vp' vb') (hb : Below W.heap.size W W1) {ok : Nat → Prop} (ho : Kd.R (Kd.int .i64) e W1 W.heap.size ok v1 qs) : Skp w W1 g vp vb vp' v1 :=
  ⟨h.1.below hb, h.2.1, fun k hk => .inr (Nat.le_trans h.1.1 (Kd.R_base ho k hk))⟩
theorem own_cut (A : Option Addr) (n m c : Nat) : (Value.slice A m c).ownBlock = (Value.slice A n c).ownBlock := by cases A <;> rfl
theorem Skp.take {A : Option Addr} {n c : Nat} (m : Nat) (h : Skp w W g vp vb (.slice A n c) vb') : Skp w W g vp vb (.slice A m c) vb' := ⟨h.1, fun k hk => h.2.1 k (own_cut A n m c ▸ hk), h.2.2⟩
theorem Srow.below (h : Srow e w0 W g vp vb vn nx) (hb : Below W.heap.size W W1) : Srow e w0 W1 g vp vb vn nx := Kd.R_below h hb
theorem Srow.set (h : Srow e w0 W g vp vb vn nx) (j : Nat) (u : Value) : Srow e w0 (W.setCell ⟨g, j, none⟩ u) g vp vb vn nx := Kd.R_far h (p := ⟨g, j, none⟩) (fun k hk => hk.1) u
theorem Srow.app (h : Srow e w0 W g vp vb vn nx) (hg : W.grownBy W1 vp.ownBlock) (hat : v1.ownBlock = vp.ownBlock ∨ ∃ b, v1.ownBlock = some b ∧ W.heap.size ≤ b) : Srow e w0 W1 g v1 vb vn nx := by
  refine Kd.R_mono (Kd.R_grown (Kd.R_bound h) hg (fun k hk => hk.1.2.1)) (fun k hk => ⟨hk.1.1, fun e_ => ?_, hk.1.2.2⟩)
  rcases hat with ha | ⟨b, ha, hl⟩
  · exact hk.1.2.1 (e_.trans ha)
  · rw [ha] at e_
    cases e_
    exact Nat.not_lt.2 hl hk.2.2.1
theorem Srow.take {A : Option Addr} {n c : Nat} (m : Nat) (h : Srow e w0 W g (.slice A n c) vb vn nx) : Srow e w0 W g (.slice A m c) vb vn nx := by
  unfold Srow at h ⊢
  rw [own_cut A n m c]
  exact h
theorem Srow.new (h : Srch e w0 W g t cs vp ps vb bs) {ok : Nat → Prop} (ho : Kd.R (Kd.int .i64) e W1 W.heap.size ok vn nx) : Srow e w0 W1 g vp vb vn nx := by
  refine Kd.R_lower (Kd.R_mono (Kd.R_bound ho) (fun k hk => ⟨fun e_ => ?_, fun e_ => ?_, fun e_ => ?_⟩)) h.2.2.2.2.size
  · subst e_
    exact Nat.not_lt.2 hk.2.1 (blk_lt h.1)
  · exact Nat.not_lt.2 hk.2.1 (Kd.R_lt h.2.2.1 k e_.symm)
  · exact Nat.not_lt.2 hk.2.1 (Kd.R_lt h.2.2.2.1 k e_.symm)
end
/-- A search's two rows in the other order; a new list of its own. -/
theorem Srch.swap {e : Nat} {w0 W : World} {g t : Nat} {cs : Array Value} {vp vb : Value} {ps bs : List Int} (h : Srch e w0 W g t cs vp ps vb bs) : Srch e w0 W g t cs vb bs vp ps := ⟨h.1, h.2.1, h.2.2.2.1, h.2.2.1, h.2.2.2.2⟩
theorem Srch.list {e : Nat} {w0 W W1 : World} {g t : Nat} {cs : Array Value} {vp vb v1 : Value} {ps bs qs : List Int} (h : Srch e w0 W g t cs vp ps vb bs) (hb : Below W.heap.size W W1) (ho : Kd.R (Kd.int .i64) e W1 W.heap.size (fun _ => True) v1 qs) : Srch e w0 W1 g t cs v1 qs vb bs := (h.swap.best hb ho).swap
theorem Srch.new {e : Nat} {w0 W W1 : World} {g t : Nat} {cs : Array Value} (hb0 : Below w0.heap.size w0 W) (hg : W.heap.size ≤ g) (h : W1.heap[g]? = some (.cells cs t (0, 0))) (hb : Below W.heap.size W W1) : Srch e w0 W1 g t cs (.slice none 0 0) [] (.slice none 0 0) [] :=
  ⟨h, Nat.le_trans hb0.size hg, Kd.R_nil _ _ _ _ _, Kd.R_nil _ _ _ _ _, below_step hb0 hb⟩
section
variable {g t : Nat} {w0 : World}
end
end Go.Proofs.Ytgdiabfmjcejdaa.P
end

section
namespace Go.Proofs.Ytgdiabfmjcejdaa.P
open Go.RowKit Go.Proofs.YtgdiabfmjcejdaaW.PrintWords Go.Proofs.YtgdiabfmjcejdaaW.PrintLast Go.Proofs.YtgdiabfmjcejdaaW.PrintMore
attribute [local go_sem] max2_int min2_int max_two min_two max_three min_three max_four min_four   -- for this text's walks alone
set_option linter.unusedVariables false
set_option linter.unusedSimpArgs false
/-! ### pre_since: function 90 (given) -/
/-- Worlds one behind the other: what stood in one of them stands in the last as it stood there. -/
structure Since (l : List World) (w : World) : Prop where mk :: (out : ∀ v, v ∈ l → Below v.heap.size v w)
theorem Since.start (w : World) : Since [w] w := ⟨fun v h => by rw [List.mem_singleton.1 h]; exact Below.refl _ _⟩
class InL (v : World) (l : List World) : Prop where mk :: (out : v ∈ l)
instance InL.here {v : World} {l : List World} : InL v (v :: l) := ⟨List.Mem.head _⟩
instance InL.there {v u : World} {l : List World} [h : InL v l] : InL v (u :: l) := ⟨List.Mem.tail _ h.out⟩
class Bl (w W : World) : Prop where mk :: (out : Below w.heap.size w W)
instance Bl.refl {w : World} : Bl w w := ⟨Below.refl _ _⟩
instance Bl.alloc {w W : World} {o : Obj} [h : Bl w W] : Bl w (W.alloc o) := ⟨below_alloc h.out o⟩
instance Bl.drew {w W : World} [h : Bl w W] : Bl w W.drew := ⟨below_drew1 h.out⟩
instance Bl.drewN {w W : World} {n : Nat} [h : Bl w W] : Bl w (W.drewN n) := ⟨pw_below_drewN h.out n⟩
theorem Bl.set {w W : World} {g j : Nat} {v : Value} (h : Bl w W) (hg : w.heap.size ≤ g) : Bl w (W.setCell ⟨g, j, none⟩ v) := ⟨below_set h.out hg⟩
theorem Bl.go {w W w' : World} [h : Bl w W] (k : Below W.heap.size W w') : Below w.heap.size w w' := below_step h.out k
theorem Bl.size {w W w' : World} [h : Bl w W] (k : Below W.heap.size W w') : w.heap.size ≤ w'.heap.size := below_size (below_step h.out k)
theorem Since.go {l : List World} {u W w' : World} (h : Since (u :: l) u) [b : Bl u W] (k : Below W.heap.size W w') : Since (w' :: u :: l) w' :=
  ⟨fun v hv => by
    rcases List.mem_cons.1 hv with e | hv
    · subst e
      exact Below.refl _ _
    · exact below_step (below_step (h.out v hv) b.out) k⟩
theorem Since.at_ {l : List World} {u W v : World} (h : Since (u :: l) u) [b : Bl u W] [m : InL v (u :: l)] : Below v.heap.size v W := below_step (h.out v m.out) b.out
theorem Since.C {α : Type} {d : Kd α} {l : List World} {u W v : World} {A : Option Addr} {n : Nat} {xs : List α} (h : Since (u :: l) u) (hc : d.C v A n xs) [b : Bl u W] [m : InL v (u :: l)] : d.C W A n xs := Kd.C_below hc h.at_
/-- Behind an event that wrote rows: only the start and what stands now. -/
theorem Since.two {w w' : World} (hb : Below w.heap.size w w') : Since [w', w] w' :=
  ⟨fun v hv => by
    rcases List.mem_cons.1 hv with e | hv
    · subst e
      exact Below.refl _ _
    · rw [List.mem_singleton.1 hv]
      exact hb⟩
class BelowOf (p : Prop) (w W : outParam World) : Prop where mk :: (out : p → Below w.heap.size w W)
instance BelowOf.here {w W : World} : BelowOf (Below w.heap.size w W) w W := ⟨id⟩
instance BelowOf.drawn {w W : World} : BelowOf (Drawn0 w W) w W := ⟨Drawn0.below⟩
theorem below_of {p : Prop} {w W : World} [b : BelowOf p w W] (h : p) : Below w.heap.size w W := b.out h
/-! ### pre_idx: function 90 (given) -/
theorem run_eql_slice_nil_here {P : Program} (w : World) {t e : TypeId} (a : Option Addr) (n c : Nat) (h : P.underlying t = some (.slice e)) : (binOp .eql t (.slice a n c) (.slice none 0 0)).run P w = .ok (.bool a.isNone) w := Go.Lib.run_eql_slice_nil w t e a n c 0 0 h
/-! ### slices_Clone_int64_int64: function 67 (given) -/
def slices_Clone_int64_int64.f (l0 : List Int) : Option (List Int) := (some (([] : List Int) : List Int)).bind fun y495 => (if y495.length + l0.length < 17592186044416 then (some (y495 ++ l0)) else (none))
set_option maxHeartbeats 8000000 in
set_option maxRecDepth 100000 in
theorem slices_Clone_int64_int64.calls (A0 : Option Addr) (c0 : Nat) (l0 : List Int) (r : List Int) (w : World) (hr0 : Kd.C (Kd.int .i64) w A0 l0.length l0) (hc0 : l0.length ≤ c0) (h : slices_Clone_int64_int64.f l0 = some r) :
    Calls Try.prog 67 #[.slice A0 l0.length c0] w fun e w' => ∃ v0_ : Value, e = .returned (v0_) ∧ Kd.R (Kd.int .i64) 2 w' w.heap.size (fun _ => True) v0_ r ∧ Below w.heap.size w w' := by
  have hE : ∀ (w : World), (binOp .eql 22 (.slice A0 l0.length c0) (.slice none 0 0)).run Try.prog w = .ok (.bool A0.isNone) w := fun w => run_eql_slice_nil_here w A0 l0.length c0 Try.underlying22
  cases A0 with
  | none =>
    have hl : l0 = [] := by
      rcases Nat.eq_zero_or_pos l0.length with h0 | h0
      · exact List.length_eq_zero_iff.1 h0
      · obtain ⟨ad, e, _⟩ := hr0.2.2 h0
        cases e
    subst hl
    have hr : ([] : List Int) = r := by
      have h2 : (if (([] : List Int)).length + (([] : List Int)).length < 17592186044416 then (some (([] : List Int) ++ ([] : List Int))) else (none)) = some r := h
      simpa using h2
    subst hr
    have hE' : ∀ (w : World), (binOp .eql 22 (.slice none 0 c0) (.slice none 0 0)).run Try.prog w = .ok (.bool true) w := fun w => run_eql_slice_nil_here w none 0 c0 Try.underlying22
    clear hE hr0 hc0 h
    go_enter Try.func67, Try.ntmps67
    go_wp2
    go_ret
    exact ⟨_, rfl, Kd.R_nil _ _ _ _ _, Below.refl _ _⟩
  | some ad0 =>
    have hE' : ∀ (w : World), (binOp .eql 22 (.slice (some ad0) l0.length c0) (.slice none 0 0)).run Try.prog w = .ok (.bool false) w := fun w => run_eql_slice_nil_here w (some ad0) l0.length c0 Try.underlying22
    clear hE
    have HR0 := Aside0.mk hr0
    have HC0 := Aside0.mk hc0
    clear hr0 hc0
    have HB := Aside0.mk (Below.refl w.heap.size w)
    have H : ((some (([] : List Int) : List Int)).bind fun y495 => (if y495.length + l0.length < 17592186044416 then (some (y495 ++ l0)) else (none))) = some r := h
    clear h
    obtain ⟨y495, hy495⟩ : ∃ y_ : List Int, y_ = (([] : List Int)) := ⟨_, rfl⟩
    replace H : (if y495.length + l0.length < 17592186044416 then (some (y495 ++ l0)) else (none)) = some r := by first | (rw [hy495]; with_reducible exact H) | (have H2_ := (Option.bind_some _ _).symm.trans H; rw [hy495]; with_reducible exact H2_) | (have H2_ := (Option.bind_some _ _).symm.trans H; with_reducible exact H2_) | with_reducible exact H | (rw [hy495]; exact H) | exact H
    have Ny495 := Aside0.mk hy495
    clear hy495
    by_cases c2 : y495.length + l0.length < 17592186044416
    · rw [if_pos c2] at H
      have LMc2 := Aside0.mk c2
      clear c2
      obtain ⟨y498, hy498⟩ : ∃ y_ : List Int, y_ = (y495 ++ l0) := ⟨_, rfl⟩
      replace H : (some y498) = some r := by first | (rw [hy498]; with_reducible exact H) | (have H2_ := (Option.bind_some _ _).symm.trans H; rw [hy498]; with_reducible exact H2_) | (have H2_ := (Option.bind_some _ _).symm.trans H; with_reducible exact H2_) | with_reducible exact H | (rw [hy498]; exact H) | exact H
      have Ny498 := Aside0.mk hy498
      clear hy498
      obtain rfl := Option.some.inj H
      go_enter Try.func67, Try.ntmps67
      go_wp2_with (first | ((with_reducible refine gate_dst (N := 5) rfl ?_); refine Kd.R_lit (Kd.int .i64) _ 2 ?hg (N := 5) ?hd (xs := ([] : List Int)) (inner := []) (ok := fun _ => True) (okp := fun _ => True) ?hr ?hp (fun _ hk => hk) trivial (Below.refl _ _) (Nat.le_refl _) (by simp) ?_; (case hd => rfl); (case hg => rfl); (case hr => first | (go_simp; done) | (go_simp; rfl)); (case hp => exact (Reps.none _ _)); intro v496 w3 ho4 hb hg_ hnew_; clear hg_ hnew_; (first | rw [← Ny495.out] at ho4 | (simp only [Int.reduceToNat] at ho4; rw [← Ny495.out] at ho4)); have n0_ := Aside0.mk (Kd.R_lower ho4 (below_size (by repeat (first | (with_reducible first | exact HB.out | apply below_alloc | apply pw_below_drewN | apply below_drew1) | exact HB.out)))); have n1_ := Aside0.mk (below_step (by repeat (first | (with_reducible first | exact HB.out | apply below_alloc | apply pw_below_drewN | apply below_drew1) | exact HB.out)) hb); clear HB; have HO497 := n0_; have HB := n1_; clear n0_ n1_; clear hb ho4) | ((with_reducible refine gate_builtin (b := .append) (xs := #[.tmp 5, .tmp 6]) rfl ?_); at_builtin; refine Kd.R_append_rows (Kd.int .i64) (w0 := w) w.heap.size rfl (.tmp 5) (.tmp 6) 22 2 (.int .i64 0) 8 rfl Try.underlying22 info2 rfl (by decide) (by omega) v496 y495 l0 _ _ _ (fun _ => True) (fun _ => False) rfl rfl ?aO ?aR (fun _ _ h => h) (fun _ h => h.elim) ?aF ?aB ?aS ?aL ?_; (case aR => repeat (first | exact (Kd.C_below HR0.out HB.out) | (with_reducible refine Kd.C_alloc ?_ _) | (with_reducible refine Kd.C_drewN ?_ _) | (with_reducible refine Kd.C_drew ?_))); (case aB => exact (by repeat (first | (with_reducible first | exact HB.out | apply below_alloc | apply pw_below_drewN | apply below_drew1) | exact HB.out))); (case aF => exact (fun _ _ => trivial)); (case aO => exact (by (with_reducible repeat (first | apply Kd.R_alloc | apply Kd.R_drewN | apply Kd.R_drew)); exact HO497.out)); (case aS => exact (below_size (by repeat (first | (with_reducible first | exact HB.out | apply below_alloc | apply pw_below_drewN | apply below_drew1) | exact HB.out)))); (case aL => have := LMc2.out; omega); intro v499 w5 ho hb hg hat; rw [← Ny498.out] at ho; have n0_ := Aside0.mk (hb); have n1_ := Aside0.mk (ho); clear HB; clear HO497; have HB := n0_; have HO500 := n1_; clear n0_ n1_; clear ho hb hg hat))
      go_ret
      exact ⟨_, by first | rfl | (simp [errW_none, errW_some] <;> rfl) | (simp [*, errW_none, errW_some] <;> rfl), by (with_reducible repeat (first | apply Kd.R_alloc | apply Kd.R_drewN | apply Kd.R_drew)); exact HO500.out, by repeat (first | (with_reducible first | exact HB.out | apply below_alloc | apply pw_below_drewN | apply below_drew1) | exact HB.out)⟩
    · rw [if_neg c2] at H
      exact absurd H (by simp)
/-! ### slices_insertionSortCmpFunc_int64: function 111 (given) -/
mutual
def slices_insertionSortCmpFunc_int64.l0 : Nat → (Int → Int → Int) → List Int → Int → Int → Int → Option (List Int)
  | 0, _, _, _, _, _ => none
  | k + 1, cf, xs, a, b, i => if i < b then slices_insertionSortCmpFunc_int64.l1 k cf xs a b i i else some xs
def slices_insertionSortCmpFunc_int64.l1 : Nat → (Int → Int → Int) → List Int → Int → Int → Int → Int → Option (List Int)
  | 0, _, _, _, _, _, _ => none
  | k + 1, cf, xs, a, b, i, j => if i < (xs.length : Int) then (if a < j then (if 0 ≤ j - 1 ∧ j < (xs.length : Int) then (if cf (rd xs j) (rd xs (j - 1)) < 0 then slices_insertionSortCmpFunc_int64.l1 k cf (sw xs j (j - 1)) a b i (j - 1) else slices_insertionSortCmpFunc_int64.l0 k cf xs a b (i + 1)) else none) else slices_insertionSortCmpFunc_int64.l0 k cf xs a b (i + 1)) else none
end
def slices_insertionSortCmpFunc_int64.f (k : Nat) (cf : Int → Int → Int) (xs : List Int) (a b : Int) : Option (List Int) := if 0 ≤ a ∧ a ≤ b ∧ b ≤ (xs.length : Int) then slices_insertionSortCmpFunc_int64.l0 k cf xs a b (a + 1) else none
set_option maxHeartbeats 16000000 in
set_option maxRecDepth 100000 in
theorem slices_insertionSortCmpFunc_int64.calls (base : Nat) (ok : Nat → Prop) (g n c : Nat) (lb : Array Value) (cf : Int → Int → Int) (w0 : World) (hn : (n : Int) ≤ 1000000000000) (hcmp : ∀ W x y, Okv x → Okv y → Kept w0 W (fun k => k = g) → Calls Try.prog 65 (#[.int .i64 x, .int .i64 y] ++ lb) W fun e w' => e = .returned (.int .i64 (cf x y)) ∧ Drawn0 W w') (k : Nat) (a b : Int) (xs ys : List Int) (w : World) (hI : Sts 2 base ok w0 w g n c (xs)) (h : slices_insertionSortCmpFunc_int64.f k cf xs a b = some ys) :
    Calls Try.prog 111 #[.slice (some ⟨g, 0, none⟩) n c, .int .i64 a, .int .i64 b, .func (.func 65) #[] lb] w fun e w' => e = .returned (.tuple #[]) ∧ Sts 2 base ok w0 w' g n c (ys) := by
  have HI := Aside0.mk hI
  have HN := Aside0.mk hn
  have HC := Aside0.mk hcmp
  unfold slices_insertionSortCmpFunc_int64.f at h
  have hl := hI.len
  rw [hl] at h
  by_cases cc : 0 ≤ a ∧ a ≤ b ∧ b ≤ (n : Int)
  rotate_left
  · rw [if_neg cc] at h
    exact absurd h (by simp)
  rw [if_pos cc] at h
  obtain ⟨z1, z2, z3⟩ := cc
  have ZA := Aside0.mk z1
  obtain ⟨a1, ha1⟩ : ∃ j_ : Int, a + 1 = j_ := ⟨_, rfl⟩
  rw [ha1] at h
  have ha1w : (IntKind.i64.wrap (a + 1)) = a1 := (i64_w _).trans ((by unfold wrap64; omega : wrap64 (a + 1) = a + 1).trans ha1)
  have ha1v : wrap64 (a + 1) = a1 := (by unfold wrap64; omega : wrap64 (a + 1) = a + 1).trans ha1
  have Ha1 := Aside0.mk ha1
  clear ha1
  have ZI := Aside0.mk (show a < a1 by have := Ha1.out; omega)
  have H := Aside0.mk h
  clear h hl hI hn hcmp z1 z2 z3
  go_enter Try.func111, Try.ntmps111
  go_wp2
  go_loopg [8] k (fun kq v8 w' => ∃ (i : Int) (xs_ : List Int), v8 = .int .i64 i ∧ Aside0 (a < i) ∧ Aside0 (slices_insertionSortCmpFunc_int64.l0 kq cf xs_ a b i = some ys) ∧ Aside0 (kq ≤ k) ∧ Aside0 (Sts 2 base ok w0 w' g n c (xs_)))
  case atStart => exact ⟨_, _, rfl, ZI, H, ⟨Nat.le_refl _⟩, HI⟩
  case round =>
    clear HI H ZI ha1w ha1v
    obtain ⟨i, xs_, rfl, ZI, HA, HK1, HI⟩ := hrel
    cases gk with
    | zero => exact absurd HA.out (by simp [slices_insertionSortCmpFunc_int64.l0])
    | succ k1 =>
      have H1 := HA.out
      clear HA
      simp only [slices_insertionSortCmpFunc_int64.l0] at H1
      by_cases c9 : i < b
      rotate_left
      · rw [if_neg c9] at H1
        have c90 := decide_eq_false c9
        obtain rfl : xs_ = ys := by simpa using H1
        clear H1 c9
        go_wp2
        first | go_end0 | ((try simp only [Exit.inBlock, Exit.then]); refine bodyPost_ret (results_none rfl _ _ _) rfl ?_)
        exact ⟨rfl, HI.out⟩
      rw [if_pos c9] at H1
      have c90 := decide_eq_true c9
      have H := Aside0.mk H1
      clear H1 c9
      go_wp2
      go_loopg [9] k1 (fun kq v9 w' => ∃ (j : Int) (xs2 : List Int), v9 = .int .i64 j ∧ Aside0 (slices_insertionSortCmpFunc_int64.l1 kq cf xs2 a b i j = some ys) ∧ Aside0 (kq ≤ k1) ∧ Aside0 (Sts 2 base ok w0 w' g n c (xs2)))
      case atStart => exact ⟨i, _, rfl, H, ⟨Nat.le_refl _⟩, HI⟩
      case round =>
        clear HI H
        obtain ⟨j, xs2, rfl, HA, HK2, HI⟩ := hrel
        cases gk with
        | zero => exact absurd HA.out (by simp [slices_insertionSortCmpFunc_int64.l1])
        | succ k2 =>
          have H1 := HA.out
          clear HA
          simp only [slices_insertionSortCmpFunc_int64.l1] at H1
          have hl := HI.out.len
          rw [hl] at H1
          have hn := HN.out
          have za := ZA.out
          have zi := ZI.out
          by_cases c8 : i < (n : Int)
          rotate_left
          · rw [if_neg c8] at H1
            exact absurd H1 (by simp)
          rw [if_pos c8] at H1
          obtain ⟨i1, hi1⟩ : ∃ j_ : Int, i + 1 = j_ := ⟨_, rfl⟩
          rw [hi1] at H1
          have hi1w : (IntKind.i64.wrap (i + 1)) = i1 := (i64_w _).trans ((by unfold wrap64; omega : wrap64 (i + 1) = i + 1).trans hi1)
          have hi1v : wrap64 (i + 1) = i1 := (by unfold wrap64; omega : wrap64 (i + 1) = i + 1).trans hi1
          have Hi1 := Aside0.mk hi1
          clear hi1
          by_cases c7 : a < j
          rotate_left
          · rw [if_neg c7] at H1
            have c70 := decide_eq_false c7
            have c71 : decide (j > a) = false := c70
            have H := Aside0.mk H1
            clear H1 hl hn za zi c8 c7
            go_wp2
            refine start_ (n := 17) (S := fun w' => True ∧ True) (ds := []) #[false, false, false, false, false, false, false, false, false, false, false, false, false, false, false, false, false] (by kernel_rfl) rfl rfl ⟨trivial, trivial⟩ (fun hHeld => ?_)
            have hi_ := HI.out.drew
            obtain ⟨wd1, hw_⟩ : ∃ W_, World.drew wr = W_ := ⟨_, rfl⟩
            rw [hw_] at hi_ ⊢
            clear hw_
            clear HI
            have HI := Aside0.mk hi_
            clear hi_
            refine pv_ 0 18 #[true, false, false, false, false, false, false, false, false, false, false, false, false, false, false, false, false] ?_
            refine pv_ 1 19 #[true, true, false, false, false, false, false, false, false, false, false, false, false, false, false, false, false] ?_
            refine pv_ 2 20 #[true, true, true, false, false, false, false, false, false, false, false, false, false, false, false, false, false] ?_
            refine pv_ 3 21 #[true, true, true, true, false, false, false, false, false, false, false, false, false, false, false, false, false] ?_
            refine uv_ 4 22 #[true, true, true, true, true, false, false, false, false, false, false, false, false, false, false, false, false] ?_
            refine uv_ 5 23 #[true, true, true, true, true, true, false, false, false, false, false, false, false, false, false, false, false] ?_
            refine uv_ 6 24 #[true, true, true, true, true, true, true, false, false, false, false, false, false, false, false, false, false] ?_
            refine uv_ 7 25 #[true, true, true, true, true, true, true, true, false, false, false, false, false, false, false, false, false] ?_
            refine uv_ 8 26 #[true, true, true, true, true, true, true, true, true, false, false, false, false, false, false, false, false] ?_
            refine uv_ 9 27 #[true, true, true, true, true, true, true, true, true, true, false, false, false, false, false, false, false] ?_
            refine uv_ 10 28 #[true, true, true, true, true, true, true, true, true, true, true, false, false, false, false, false, false] ?_
            refine uv_ 11 29 #[true, true, true, true, true, true, true, true, true, true, true, true, false, false, false, false, false] ?_
            refine uv_ 12 30 #[true, true, true, true, true, true, true, true, true, true, true, true, true, false, false, false, false] ?_
            refine uv_ 13 31 #[true, true, true, true, true, true, true, true, true, true, true, true, true, true, false, false, false] ?_
            refine uv_ 14 32 #[true, true, true, true, true, true, true, true, true, true, true, true, true, true, true, false, false] ?_
            refine uv_ 15 33 #[true, true, true, true, true, true, true, true, true, true, true, true, true, true, true, true, false] ?_
            refine pv_ 16 34 #[true, true, true, true, true, true, true, true, true, true, true, true, true, true, true, true, true] ?_
            refine done_ (by kernel_rfl) ?_
            clear hHeld
            go_wp2
            go_roundg k2
            case measure => have := HK1.out; have := HK2.out; omega
            case rel => exact ⟨_, _, by first | rfl | (simp only [*]), ⟨by have := ZI.out; have := Hi1.out; omega⟩, H, ⟨by have := HK1.out; have := HK2.out; omega⟩, HI⟩
          rw [if_pos c7] at H1
          have c70 := decide_eq_true c7
          have c71 : decide (j > a) = true := c70
          by_cases cc : 0 ≤ j - 1 ∧ j < (n : Int)
          rotate_left
          · rw [if_neg cc] at H1
            exact absurd H1 (by simp)
          rw [if_pos cc] at H1
          obtain ⟨z1, z2⟩ := cc
          have z3 : j - 1 < (n : Int) := by omega
          have z0 : 0 ≤ j := by omega
          obtain ⟨j1, hj1⟩ : ∃ j_ : Int, j - 1 = j_ := ⟨_, rfl⟩
          rw [hj1] at H1 z1 z3
          have hj1w : (IntKind.i64.wrap (j - 1)) = j1 := (i64_w _).trans ((by unfold wrap64; omega : wrap64 (j - 1) = j - 1).trans hj1)
          have hj1v : wrap64 (j - 1) = j1 := (by unfold wrap64; omega : wrap64 (j - 1) = j - 1).trans hj1
          have Hj1 := Aside0.mk hj1
          clear hj1
          have Pj := Aside0.mk (z0)
          have Qj := Aside0.mk (z2)
          have pj := eq_true Pj.out
          have qj := eq_true Qj.out
          obtain ⟨xj, fj⟩ := HI.out.cell j Pj.out Qj.out
          have Pj1 := Aside0.mk (z1)
          have Qj1 := Aside0.mk (z3)
          have pj1 := eq_true Pj1.out
          have qj1 := eq_true Qj1.out
          obtain ⟨xj1, fj1⟩ := HI.out.cell j1 Pj1.out Qj1.out
          clear hl hn za zi c8 c7 z0 z1 z2 z3
          have H := Aside0.mk H1
          clear H1
          go_wp2
          refine start_ (n := 17) (S := fun w' => w'.cell? ⟨g, j.toNat, none⟩ = some (.int .i64 (rd xs2 j)) ∧ w'.frozen? ⟨g, j.toNat, none⟩ = false ∧ w'.cell? ⟨g, j1.toNat, none⟩ = some (.int .i64 (rd xs2 j1)) ∧ w'.frozen? ⟨g, j1.toNat, none⟩ = false) (ds := []) #[false, false, false, false, false, false, false, false, false, false, false, false, false, false, false, false, false] (by kernel_rfl) rfl rfl ⟨xj, fj, xj1, fj1⟩ (fun hHeld => ?_)
          have hi_ := HI.out.drew
          obtain ⟨wd2, hw_⟩ : ∃ W_, World.drew wr = W_ := ⟨_, rfl⟩
          rw [hw_] at hi_ hHeld ⊢
          clear hw_
          clear HI
          clear xj fj xj1 fj1
          have HI := Aside0.mk hi_
          clear hi_
          obtain ⟨xj, fj⟩ := HI.out.cell j Pj.out Qj.out
          obtain ⟨xj1, fj1⟩ := HI.out.cell j1 Pj1.out Qj1.out
          refine pv_ 0 18 #[true, false, false, false, false, false, false, false, false, false, false, false, false, false, false, false, false] ?_
          refine pv_ 1 19 #[true, true, false, false, false, false, false, false, false, false, false, false, false, false, false, false, false] ?_
          refine pv_ 2 20 #[true, true, true, false, false, false, false, false, false, false, false, false, false, false, false, false, false] ?_
          refine pv_ 3 21 #[true, true, true, true, false, false, false, false, false, false, false, false, false, false, false, false, false] ?_
          refine pv_ 4 22 #[true, true, true, true, true, false, false, false, false, false, false, false, false, false, false, false, false] ?_
          refine pv_ 5 23 #[true, true, true, true, true, true, false, false, false, false, false, false, false, false, false, false, false] ?_
          refine pv_ 6 24 #[true, true, true, true, true, true, true, false, false, false, false, false, false, false, false, false, false] ?_
          refine pv_ 7 25 #[true, true, true, true, true, true, true, true, false, false, false, false, false, false, false, false, false] ?_
          refine tv_ hHeld 8 26 #[true, true, true, true, true, true, true, true, true, false, false, false, false, false, false, false, false] ?_
          refine pv_ 9 27 #[true, true, true, true, true, true, true, true, true, true, false, false, false, false, false, false, false] ?_
          refine pv_ 10 28 #[true, true, true, true, true, true, true, true, true, true, true, false, false, false, false, false, false] ?_
          refine pv_ 11 29 #[true, true, true, true, true, true, true, true, true, true, true, true, false, false, false, false, false] ?_
          refine pv_ 12 30 #[true, true, true, true, true, true, true, true, true, true, true, true, true, false, false, false, false] ?_
          refine tv_ hHeld 13 31 #[true, true, true, true, true, true, true, true, true, true, true, true, true, true, false, false, false] ?_
          refine one_ (i := 14) (N := some 32) #[true, true, true, true, true, true, true, true, true, true, true, true, true, true, true, false, false] rfl rfl (by kernel_rfl) (by decide) (fun K_ hK => ?_)
          refine goesV_ (ops := _) 22 Try.func65 (by kernel_rfl) rfl #[.int .i64 (rd xs2 j), .int .i64 (rd xs2 j1)] (by rfl) rfl rfl (by rfl) aw_ ?_
          clear hHeld
          refine (HC.out _ _ _ (HI.out.wf _) (HI.out.wf _) HI.out.kept).mono ?_
          rintro e wz14 ⟨rfl, hb_⟩
          refine ⟨_, rfl, ?_⟩
          have hb := below_of hb_
          clear hb_
          have hi_ := HI.out.below hb
          clear HI
          clear xj fj xj1 fj1
          have HI := Aside0.mk hi_
          clear hi_
          obtain ⟨xj, fj⟩ := HI.out.cell j Pj.out Qj.out
          obtain ⟨xj1, fj1⟩ := HI.out.cell j1 Pj1.out Qj1.out
          clear hb
          refine hK.out _ _ ⟨xj, fj, xj1, fj1⟩ (fun hHeld => ?_)
          clear hK K_
          refine norm_ (a' := ?_) ?_ ?_
          rotate_left
          · show Act.put _ (some 32) _ = _; go_simp; rfl
          have H1 := H.out
          clear H
          by_cases c6 : cf (rd xs2 j) (rd xs2 j1) < 0
          rotate_left
          · rw [if_neg c6] at H1
            have c60 := decide_eq_false c6
            have H := Aside0.mk H1
            clear H1 c6
            refine pv_ 15 33 #[true, true, true, true, true, true, true, true, true, true, true, true, true, true, true, true, false] ?_
            refine pv_ 16 34 #[true, true, true, true, true, true, true, true, true, true, true, true, true, true, true, true, true] ?_
            refine done_ (by kernel_rfl) ?_
            clear hHeld
            go_wp2
            go_roundg k2
            case measure => have := HK1.out; have := HK2.out; omega
            case rel => exact ⟨_, _, by first | rfl | (simp only [*]), ⟨by have := ZI.out; have := Hi1.out; omega⟩, H, ⟨by have := HK1.out; have := HK2.out; omega⟩, HI⟩
          rw [if_pos c6] at H1
          have c60 := decide_eq_true c6
          have H := Aside0.mk H1
          clear H1 c6
          refine pv_ 15 33 #[true, true, true, true, true, true, true, true, true, true, true, true, true, true, true, true, false] ?_
          refine pv_ 16 34 #[true, true, true, true, true, true, true, true, true, true, true, true, true, true, true, true, true] ?_
          refine done_ (by kernel_rfl) ?_
          clear hHeld
          go_wp2
          refine start_ (n := 18) (S := fun w' => w'.cell? ⟨g, j.toNat, none⟩ = some (.int .i64 (rd xs2 j)) ∧ w'.frozen? ⟨g, j.toNat, none⟩ = false ∧ w'.cell? ⟨g, j1.toNat, none⟩ = some (.int .i64 (rd xs2 j1)) ∧ w'.frozen? ⟨g, j1.toNat, none⟩ = false) (ds := [15, 17]) #[false, false, false, false, false, false, false, false, false, false, false, false, false, false, false, false, false, false] (by kernel_rfl) rfl rfl ⟨xj, fj, xj1, fj1⟩ (fun hHeld => ?_)
          have hi_ := HI.out.drew
          obtain ⟨wd3, hw_⟩ : ∃ W_, World.drew wz14 = W_ := ⟨_, rfl⟩
          rw [hw_] at hi_ hHeld ⊢
          clear hw_
          clear HI
          clear xj fj xj1 fj1
          have HI := Aside0.mk hi_
          clear hi_
          obtain ⟨xj, fj⟩ := HI.out.cell j Pj.out Qj.out
          obtain ⟨xj1, fj1⟩ := HI.out.cell j1 Pj1.out Qj1.out
          have HV := Aside0.mk HI.out.wf
          refine pv_ 0 37 #[true, false, false, false, false, false, false, false, false, false, false, false, false, false, false, false, false, false] ?_
          refine pv_ 1 38 #[true, true, false, false, false, false, false, false, false, false, false, false, false, false, false, false, false, false] ?_
          refine pv_ 2 39 #[true, true, true, false, false, false, false, false, false, false, false, false, false, false, false, false, false, false] ?_
          refine pv_ 3 40 #[true, true, true, true, false, false, false, false, false, false, false, false, false, false, false, false, false, false] ?_
          refine pv_ 4 41 #[true, true, true, true, true, false, false, false, false, false, false, false, false, false, false, false, false, false] ?_
          refine pv_ 5 42 #[true, true, true, true, true, true, false, false, false, false, false, false, false, false, false, false, false, false] ?_
          refine pv_ 6 43 #[true, true, true, true, true, true, true, false, false, false, false, false, false, false, false, false, false, false] ?_
          refine pv_ 7 44 #[true, true, true, true, true, true, true, true, false, false, false, false, false, false, false, false, false, false] ?_
          refine pv_ 8 45 #[true, true, true, true, true, true, true, true, true, false, false, false, false, false, false, false, false, false] ?_
          refine tv_ hHeld 9 46 #[true, true, true, true, true, true, true, true, true, true, false, false, false, false, false, false, false, false] ?_
          refine pv_ 10 47 #[true, true, true, true, true, true, true, true, true, true, true, false, false, false, false, false, false, false] ?_
          refine pv_ 11 48 #[true, true, true, true, true, true, true, true, true, true, true, true, false, false, false, false, false, false] ?_
          refine pv_ 12 49 #[true, true, true, true, true, true, true, true, true, true, true, true, true, false, false, false, false, false] ?_
          refine tv_ hHeld 13 50 #[true, true, true, true, true, true, true, true, true, true, true, true, true, true, false, false, false, false] ?_
          refine pv_ 14 51 #[true, true, true, true, true, true, true, true, true, true, true, true, true, true, true, false, false, false] ?_
          refine last_ (i := 15) (N := none) #[true, true, true, true, true, true, true, true, true, true, true, true, true, true, true, true, false, false] rfl rfl (by kernel_rfl) (by decide) (fun K_ hK => ?_)
          refine store_one (w1 := World.setCell wd3 ⟨g, j.toNat, none⟩ (.int .i64 (rd xs2 j1))) (by rfl) (by first | (go_simp; done) | (go_simp; rfl)) rfl ?_
          clear hHeld
          have hi_ := HI.out.put j (rd xs2 j1) (HV.out _)
          obtain ⟨ws3_1, hw_⟩ : ∃ W_, World.setCell wd3 ⟨g, j.toNat, none⟩ (.int .i64 (rd xs2 j1)) = W_ := ⟨_, rfl⟩
          rw [hw_] at hi_ ⊢
          clear hw_
          clear HI
          clear xj fj xj1 fj1
          have HI := Aside0.mk hi_
          clear hi_
          obtain ⟨xj, fj⟩ := HI.out.cell j Pj.out Qj.out
          obtain ⟨xj1, fj1⟩ := HI.out.cell j1 Pj1.out Qj1.out
          refine hK.out _ _ ?_
          clear hK K_
          refine pv_ 16 52 #[true, true, true, true, true, true, true, true, true, true, true, true, true, true, true, true, true, false] ?_
          refine last_ (i := 17) (N := none) #[true, true, true, true, true, true, true, true, true, true, true, true, true, true, true, true, true, true] rfl rfl (by kernel_rfl) (by decide) (fun K_ hK => ?_)
          refine store_one (w1 := World.setCell ws3_1 ⟨g, j1.toNat, none⟩ (.int .i64 (rd xs2 j))) (by rfl) (by first | (go_simp; done) | (go_simp; rfl)) rfl ?_
          have hi_ := HI.out.put j1 (rd xs2 j) (HV.out _)
          obtain ⟨ws3_2, hw_⟩ : ∃ W_, World.setCell ws3_1 ⟨g, j1.toNat, none⟩ (.int .i64 (rd xs2 j)) = W_ := ⟨_, rfl⟩
          rw [hw_] at hi_ ⊢
          clear hw_
          clear HI
          clear xj fj xj1 fj1
          have HI := Aside0.mk hi_
          clear hi_
          obtain ⟨xj, fj⟩ := HI.out.cell j Pj.out Qj.out
          obtain ⟨xj1, fj1⟩ := HI.out.cell j1 Pj1.out Qj1.out
          refine hK.out _ _ ?_
          clear hK K_
          refine done_ (by kernel_rfl) ?_
          go_wp2
          go_roundg k2
          case measure => have := HK2.out; omega
          case rel => exact ⟨_, _, by first | rfl | (simp only [*]), H, ⟨by have := HK2.out; omega⟩, HI⟩
/-! ### slices_swapRangeCmpFunc_int64: function 132 (given) -/
def slices_swapRangeCmpFunc_int64.l0 : Nat → List Int → Int → Int → Int → Int → Option (List Int)
  | 0, _, _, _, _, _ => none
  | k + 1, xs, a, b, m, i => if i < m then (if 0 ≤ i ∧ i < (xs.length : Int) ∧ 0 ≤ a + i ∧ a + i < (xs.length : Int) ∧ 0 ≤ b + i ∧ b + i < (xs.length : Int) then slices_swapRangeCmpFunc_int64.l0 k (sw xs (a + i) (b + i)) a b m (i + 1) else none) else some xs
def slices_swapRangeCmpFunc_int64.f (k : Nat) (xs : List Int) (a b m : Int) : Option (List Int) := slices_swapRangeCmpFunc_int64.l0 k xs a b m 0
set_option maxHeartbeats 16000000 in
set_option maxRecDepth 100000 in
theorem slices_swapRangeCmpFunc_int64.calls (base : Nat) (ok : Nat → Prop) (g n c : Nat) (lb : Array Value) (cf : Int → Int → Int) (w0 : World) (hn : (n : Int) ≤ 1000000000000) (k : Nat) (a b m : Int) (xs ys : List Int) (w : World) (hI : Sts 2 base ok w0 w g n c (xs)) (h : slices_swapRangeCmpFunc_int64.f k xs a b m = some ys) :
    Calls Try.prog 132 #[.slice (some ⟨g, 0, none⟩) n c, .int .i64 a, .int .i64 b, .int .i64 m, .func (.func 65) #[] lb] w fun e w' => e = .returned (.tuple #[]) ∧ Sts 2 base ok w0 w' g n c (ys) := by
  have HI := Aside0.mk hI
  have HN := Aside0.mk hn
  have H := Aside0.mk h
  clear hI hn h
  go_enter Try.func132, Try.ntmps132
  go_wp2
  go_loopg [10] k (fun kq v10 w' => ∃ (i : Int) (xs_ : List Int), v10 = .int .i64 i ∧ Aside0 (slices_swapRangeCmpFunc_int64.l0 kq xs_ a b m i = some ys) ∧ Aside0 (kq ≤ k) ∧ Aside0 (Sts 2 base ok w0 w' g n c (xs_)))
  case atStart => exact ⟨0, _, rfl, H, ⟨Nat.le_refl _⟩, HI⟩
  case round =>
    clear HI H
    obtain ⟨i, xs_, rfl, HA, HK1, HI⟩ := hrel
    cases gk with
    | zero => exact absurd HA.out (by simp [slices_swapRangeCmpFunc_int64.l0])
    | succ k1 =>
      have H1 := HA.out
      clear HA
      simp only [slices_swapRangeCmpFunc_int64.l0] at H1
      have hl := HI.out.len
      rw [hl] at H1
      have hn := HN.out
      by_cases c9 : i < m
      rotate_left
      · rw [if_neg c9] at H1
        have c90 := decide_eq_false c9
        obtain rfl : xs_ = ys := by simpa using H1
        clear H1 c9 hl hn
        go_wp2
        first | go_end0 | ((try simp only [Exit.inBlock, Exit.then]); refine bodyPost_ret (results_none rfl _ _ _) rfl ?_)
        exact ⟨rfl, HI.out⟩
      rw [if_pos c9] at H1
      have c90 := decide_eq_true c9
      by_cases cc : 0 ≤ i ∧ i < (n : Int) ∧ 0 ≤ a + i ∧ a + i < (n : Int) ∧ 0 ≤ b + i ∧ b + i < (n : Int)
      rotate_left
      · rw [if_neg cc] at H1
        exact absurd H1 (by simp)
      rw [if_pos cc] at H1
      obtain ⟨z1, z2, z3, z4, z5, z6⟩ := cc
      obtain ⟨ja, hja⟩ : ∃ j_ : Int, a + i = j_ := ⟨_, rfl⟩
      rw [hja] at H1 z3 z4
      have hjaw : (IntKind.i64.wrap (a + i)) = ja := (i64_w _).trans ((by unfold wrap64; omega : wrap64 (a + i) = a + i).trans hja)
      have hjav : wrap64 (a + i) = ja := (by unfold wrap64; omega : wrap64 (a + i) = a + i).trans hja
      have Hja := Aside0.mk hja
      clear hja
      obtain ⟨jb, hjb⟩ : ∃ j_ : Int, b + i = j_ := ⟨_, rfl⟩
      rw [hjb] at H1 z5 z6
      have hjbw : (IntKind.i64.wrap (b + i)) = jb := (i64_w _).trans ((by unfold wrap64; omega : wrap64 (b + i) = b + i).trans hjb)
      have hjbv : wrap64 (b + i) = jb := (by unfold wrap64; omega : wrap64 (b + i) = b + i).trans hjb
      have Hjb := Aside0.mk hjb
      clear hjb
      obtain ⟨i1, hi1⟩ : ∃ j_ : Int, i + 1 = j_ := ⟨_, rfl⟩
      rw [hi1] at H1
      have hi1w : (IntKind.i64.wrap (i + 1)) = i1 := (i64_w _).trans ((by unfold wrap64; omega : wrap64 (i + 1) = i + 1).trans hi1)
      have hi1v : wrap64 (i + 1) = i1 := (by unfold wrap64; omega : wrap64 (i + 1) = i + 1).trans hi1
      have Hi1 := Aside0.mk hi1
      clear hi1
      have Pja := Aside0.mk (z3)
      have Qja := Aside0.mk (z4)
      have pja := eq_true Pja.out
      have qja := eq_true Qja.out
      obtain ⟨xja, fja⟩ := HI.out.cell ja Pja.out Qja.out
      have Pjb := Aside0.mk (z5)
      have Qjb := Aside0.mk (z6)
      have pjb := eq_true Pjb.out
      have qjb := eq_true Qjb.out
      obtain ⟨xjb, fjb⟩ := HI.out.cell jb Pjb.out Qjb.out
      have H := Aside0.mk H1
      clear H1 z1 z2 z3 z4 z5 z6 hl hn c9
      go_wp2
      refine start_ (n := 24) (S := fun w' => w'.cell? ⟨g, ja.toNat, none⟩ = some (.int .i64 (rd xs_ ja)) ∧ w'.frozen? ⟨g, ja.toNat, none⟩ = false ∧ w'.cell? ⟨g, jb.toNat, none⟩ = some (.int .i64 (rd xs_ jb)) ∧ w'.frozen? ⟨g, jb.toNat, none⟩ = false) (ds := [21, 23]) #[false, false, false, false, false, false, false, false, false, false, false, false, false, false, false, false, false, false, false, false, false, false, false, false] (by kernel_rfl) rfl rfl ⟨xja, fja, xjb, fjb⟩ (fun hHeld => ?_)
      have hi_ := HI.out.drew
      obtain ⟨wd1, hw_⟩ : ∃ W_, World.drew wr = W_ := ⟨_, rfl⟩
      rw [hw_] at hi_ hHeld ⊢
      clear hw_
      clear HI
      clear xja fja xjb fjb
      have HI := Aside0.mk hi_
      clear hi_
      obtain ⟨xja, fja⟩ := HI.out.cell ja Pja.out Qja.out
      obtain ⟨xjb, fjb⟩ := HI.out.cell jb Pjb.out Qjb.out
      have HV := Aside0.mk HI.out.wf
      refine pv_ 0 16 #[true, false, false, false, false, false, false, false, false, false, false, false, false, false, false, false, false, false, false, false, false, false, false, false] ?_
      refine pv_ 1 17 #[true, true, false, false, false, false, false, false, false, false, false, false, false, false, false, false, false, false, false, false, false, false, false, false] ?_
      refine pv_ 2 18 #[true, true, true, false, false, false, false, false, false, false, false, false, false, false, false, false, false, false, false, false, false, false, false, false] ?_
      refine pv_ 3 19 #[true, true, true, true, false, false, false, false, false, false, false, false, false, false, false, false, false, false, false, false, false, false, false, false] ?_
      refine pv_ 4 20 #[true, true, true, true, true, false, false, false, false, false, false, false, false, false, false, false, false, false, false, false, false, false, false, false] ?_
      refine pv_ 5 21 #[true, true, true, true, true, true, false, false, false, false, false, false, false, false, false, false, false, false, false, false, false, false, false, false] ?_
      refine pv_ 6 22 #[true, true, true, true, true, true, true, false, false, false, false, false, false, false, false, false, false, false, false, false, false, false, false, false] ?_
      refine pv_ 7 23 #[true, true, true, true, true, true, true, true, false, false, false, false, false, false, false, false, false, false, false, false, false, false, false, false] ?_
      refine pv_ 8 24 #[true, true, true, true, true, true, true, true, true, false, false, false, false, false, false, false, false, false, false, false, false, false, false, false] ?_
      refine pv_ 9 25 #[true, true, true, true, true, true, true, true, true, true, false, false, false, false, false, false, false, false, false, false, false, false, false, false] ?_
      refine pv_ 10 26 #[true, true, true, true, true, true, true, true, true, true, true, false, false, false, false, false, false, false, false, false, false, false, false, false] ?_
      refine pv_ 11 27 #[true, true, true, true, true, true, true, true, true, true, true, true, false, false, false, false, false, false, false, false, false, false, false, false] ?_
      refine pv_ 12 28 #[true, true, true, true, true, true, true, true, true, true, true, true, true, false, false, false, false, false, false, false, false, false, false, false] ?_
      refine tv_ hHeld 13 29 #[true, true, true, true, true, true, true, true, true, true, true, true, true, true, false, false, false, false, false, false, false, false, false, false] ?_
      refine pv_ 14 30 #[true, true, true, true, true, true, true, true, true, true, true, true, true, true, true, false, false, false, false, false, false, false, false, false] ?_
      refine pv_ 15 31 #[true, true, true, true, true, true, true, true, true, true, true, true, true, true, true, true, false, false, false, false, false, false, false, false] ?_
      refine pv_ 16 32 #[true, true, true, true, true, true, true, true, true, true, true, true, true, true, true, true, true, false, false, false, false, false, false, false] ?_
      refine pv_ 17 33 #[true, true, true, true, true, true, true, true, true, true, true, true, true, true, true, true, true, true, false, false, false, false, false, false] ?_
      refine pv_ 18 34 #[true, true, true, true, true, true, true, true, true, true, true, true, true, true, true, true, true, true, true, false, false, false, false, false] ?_
      refine tv_ hHeld 19 35 #[true, true, true, true, true, true, true, true, true, true, true, true, true, true, true, true, true, true, true, true, false, false, false, false] ?_
      refine pv_ 20 36 #[true, true, true, true, true, true, true, true, true, true, true, true, true, true, true, true, true, true, true, true, true, false, false, false] ?_
      refine last_ (i := 21) (N := none) #[true, true, true, true, true, true, true, true, true, true, true, true, true, true, true, true, true, true, true, true, true, true, false, false] rfl rfl (by kernel_rfl) (by decide) (fun K_ hK => ?_)
      refine store_one (w1 := World.setCell wd1 ⟨g, ja.toNat, none⟩ (.int .i64 (rd xs_ jb))) (by rfl) (by first | (go_simp; done) | (go_simp; rfl)) rfl ?_
      clear hHeld
      have hi_ := HI.out.put ja (rd xs_ jb) (HV.out _)
      obtain ⟨ws1_1, hw_⟩ : ∃ W_, World.setCell wd1 ⟨g, ja.toNat, none⟩ (.int .i64 (rd xs_ jb)) = W_ := ⟨_, rfl⟩
      rw [hw_] at hi_ ⊢
      clear hw_
      clear HI
      clear xja fja xjb fjb
      have HI := Aside0.mk hi_
      clear hi_
      obtain ⟨xja, fja⟩ := HI.out.cell ja Pja.out Qja.out
      obtain ⟨xjb, fjb⟩ := HI.out.cell jb Pjb.out Qjb.out
      refine hK.out _ _ ?_
      clear hK K_
      refine pv_ 22 37 #[true, true, true, true, true, true, true, true, true, true, true, true, true, true, true, true, true, true, true, true, true, true, true, false] ?_
      refine last_ (i := 23) (N := none) #[true, true, true, true, true, true, true, true, true, true, true, true, true, true, true, true, true, true, true, true, true, true, true, true] rfl rfl (by kernel_rfl) (by decide) (fun K_ hK => ?_)
      refine store_one (w1 := World.setCell ws1_1 ⟨g, jb.toNat, none⟩ (.int .i64 (rd xs_ ja))) (by rfl) (by first | (go_simp; done) | (go_simp; rfl)) rfl ?_
      have hi_ := HI.out.put jb (rd xs_ ja) (HV.out _)
      obtain ⟨ws1_2, hw_⟩ : ∃ W_, World.setCell ws1_1 ⟨g, jb.toNat, none⟩ (.int .i64 (rd xs_ ja)) = W_ := ⟨_, rfl⟩
      rw [hw_] at hi_ ⊢
      clear hw_
      clear HI
      clear xja fja xjb fjb
      have HI := Aside0.mk hi_
      clear hi_
      obtain ⟨xja, fja⟩ := HI.out.cell ja Pja.out Qja.out
      obtain ⟨xjb, fjb⟩ := HI.out.cell jb Pjb.out Qjb.out
      refine hK.out _ _ ?_
      clear hK K_
      refine done_ (by kernel_rfl) ?_
      go_wp2
      go_roundg k1
      case measure => have := HK1.out; omega
      case rel => exact ⟨_, _, by first | rfl | (simp only [*]), H, ⟨by have := HK1.out; omega⟩, HI⟩
/-! ### slices_rotateCmpFunc_int64: function 126 (given) -/
def slices_rotateCmpFunc_int64.l0 : Nat → List Int → Int → Int → Int → Option (List Int)
  | 0, _, _, _, _ => none
  | k + 1, xs, m, i, j => if 0 ≤ i ∧ 0 ≤ j ∧ i ≤ m ∧ m + j ≤ (xs.length : Int) then (if i = j then slices_swapRangeCmpFunc_int64.f k xs (m - i) m i else if j < i then ((slices_swapRangeCmpFunc_int64.f k xs (m - i) m j).bind fun ys => slices_rotateCmpFunc_int64.l0 k ys m (i - j) j) else ((slices_swapRangeCmpFunc_int64.f k xs (m - i) (m + j - i) i).bind fun ys => slices_rotateCmpFunc_int64.l0 k ys m i (j - i))) else none
def slices_rotateCmpFunc_int64.f (k : Nat) (xs : List Int) (a m b : Int) : Option (List Int) := if 0 ≤ a ∧ a ≤ m ∧ m ≤ b ∧ b ≤ (xs.length : Int) then slices_rotateCmpFunc_int64.l0 k xs m (m - a) (b - m) else none
set_option maxHeartbeats 16000000 in
set_option maxRecDepth 100000 in
theorem slices_rotateCmpFunc_int64.calls (base : Nat) (ok : Nat → Prop) (g n c : Nat) (lb : Array Value) (cf : Int → Int → Int) (w0 : World) (hn : (n : Int) ≤ 1000000000000) (k : Nat) (a m b : Int) (xs ys : List Int) (w : World) (hI : Sts 2 base ok w0 w g n c (xs)) (h : slices_rotateCmpFunc_int64.f k xs a m b = some ys) :
    Calls Try.prog 126 #[.slice (some ⟨g, 0, none⟩) n c, .int .i64 a, .int .i64 m, .int .i64 b, .func (.func 65) #[] lb] w fun e w' => e = .returned (.tuple #[]) ∧ Sts 2 base ok w0 w' g n c (ys) := by
  have HI := Aside0.mk hI
  have HN := Aside0.mk hn
  unfold slices_rotateCmpFunc_int64.f at h
  have hl := hI.len
  rw [hl] at h
  by_cases cc : 0 ≤ a ∧ a ≤ m ∧ m ≤ b ∧ b ≤ (n : Int)
  rotate_left
  · rw [if_neg cc] at h
    exact absurd h (by simp)
  rw [if_pos cc] at h
  obtain ⟨z1, z2, z3, z4⟩ := cc
  obtain ⟨i0, hi0⟩ : ∃ j_ : Int, m - a = j_ := ⟨_, rfl⟩
  rw [hi0] at h
  have hi0w : (IntKind.i64.wrap (m - a)) = i0 := (i64_w _).trans ((by unfold wrap64; omega : wrap64 (m - a) = m - a).trans hi0)
  have hi0v : wrap64 (m - a) = i0 := (by unfold wrap64; omega : wrap64 (m - a) = m - a).trans hi0
  have Hi0 := Aside0.mk hi0
  clear hi0
  obtain ⟨j0, hj0⟩ : ∃ j_ : Int, b - m = j_ := ⟨_, rfl⟩
  rw [hj0] at h
  have hj0w : (IntKind.i64.wrap (b - m)) = j0 := (i64_w _).trans ((by unfold wrap64; omega : wrap64 (b - m) = b - m).trans hj0)
  have hj0v : wrap64 (b - m) = j0 := (by unfold wrap64; omega : wrap64 (b - m) = b - m).trans hj0
  have Hj0 := Aside0.mk hj0
  clear hj0
  have H := Aside0.mk h
  clear h hl hI hn z1 z2 z3 z4
  go_enter Try.func126, Try.ntmps126
  go_wp2
  go_loopg [10, 11] k (fun kq v10 v11 w' => ∃ (i j : Int) (xs_ : List Int), v10 = .int .i64 i ∧ v11 = .int .i64 j ∧ Aside0 (slices_rotateCmpFunc_int64.l0 kq xs_ m i j = some ys) ∧ Aside0 (kq ≤ k) ∧ Aside0 (Sts 2 base ok w0 w' g n c (xs_)))
  case atStart => exact ⟨_, _, _, rfl, rfl, H, ⟨Nat.le_refl _⟩, HI⟩
  case round =>
    clear HI H hi0w hi0v hj0w hj0v
    obtain ⟨i, j, xs_, rfl, rfl, HA, HK1, HI⟩ := hrel
    cases gk with
    | zero => exact absurd HA.out (by simp [slices_rotateCmpFunc_int64.l0])
    | succ k1 =>
      have H1 := HA.out
      clear HA
      simp only [slices_rotateCmpFunc_int64.l0] at H1
      have hl := HI.out.len
      rw [hl] at H1
      have hn := HN.out
      by_cases cc : 0 ≤ i ∧ 0 ≤ j ∧ i ≤ m ∧ m + j ≤ (n : Int)
      rotate_left
      · rw [if_neg cc] at H1
        exact absurd H1 (by simp)
      rw [if_pos cc] at H1
      obtain ⟨z1, z2, z3, z4⟩ := cc
      obtain ⟨mi, hmi⟩ : ∃ j_ : Int, m - i = j_ := ⟨_, rfl⟩
      rw [hmi] at H1
      have hmiw : (IntKind.i64.wrap (m - i)) = mi := (i64_w _).trans ((by unfold wrap64; omega : wrap64 (m - i) = m - i).trans hmi)
      have hmiv : wrap64 (m - i) = mi := (by unfold wrap64; omega : wrap64 (m - i) = m - i).trans hmi
      have Hmi := Aside0.mk hmi
      clear hmi
      have Q0 := trivial
      by_cases c9 : i = j
      · rw [if_pos c9] at H1
        have c90 : (i != j) = false := bne_eq_false_iff_eq.mpr c9
        have c91 : (i == j) = true := beq_iff_eq.mpr c9
        have E1 := Aside0.mk H1
        clear H1 hl hn z1 z2 z3 z4 c9
        go_wp2_with (first | ((clear Q0); (with_reducible refine gate_callee (f := 132) rfl ?_); refine goesL_ (some _) rfl rfl Try.func132 (by kernel_rfl) rfl #[.slice (some ⟨g, 0, none⟩) n c, .int .i64 (mi), .int .i64 (m), .int .i64 (i), .func (.func 65) #[] lb] rfl aw_ ?_; (with_reducible refine (slices_swapRangeCmpFunc_int64.calls base ok g n c lb cf w0 HN.out k1 _ _ _ _ _ _ HI.out E1.out).mono ?_); rintro e w1 ⟨rfl, hi_⟩; refine ⟨_, rfl, ?_⟩; clear HI; have HI := Aside0.mk hi_; clear hi_; have Q1 := trivial))
        first | go_end0 | ((try simp only [Exit.inBlock, Exit.then]); refine bodyPost_ret (results_none rfl _ _ _) rfl ?_)
        exact ⟨rfl, HI.out⟩
      rw [if_neg c9] at H1
      have c90 : (i != j) = true := bne_iff_ne.mpr c9
      have c91 : (i == j) = false := beq_eq_false_iff_ne.mpr c9
      by_cases c8 : j < i
      · rw [if_pos c8] at H1
        obtain ⟨ij, hij⟩ : ∃ j_ : Int, i - j = j_ := ⟨_, rfl⟩
        rw [hij] at H1
        have hijw : (IntKind.i64.wrap (i - j)) = ij := (i64_w _).trans ((by unfold wrap64; omega : wrap64 (i - j) = i - j).trans hij)
        have hijv : wrap64 (i - j) = ij := (by unfold wrap64; omega : wrap64 (i - j) = i - j).trans hij
        have Hij := Aside0.mk hij
        clear hij
        have c80 := decide_eq_true c8
        obtain ⟨zs, y_, H2⟩ := Option.bind_eq_some_iff.mp H1
        have E1 := Aside0.mk y_
        have H := Aside0.mk H2
        clear y_ H1 H2 hl hn z1 z2 z3 z4 c8 c9
        go_wp2_with (first | ((clear Q0); (with_reducible refine gate_callee (f := 132) rfl ?_); refine goesL_ (some _) rfl rfl Try.func132 (by kernel_rfl) rfl #[.slice (some ⟨g, 0, none⟩) n c, .int .i64 (mi), .int .i64 (m), .int .i64 (j), .func (.func 65) #[] lb] rfl aw_ ?_; (with_reducible refine (slices_swapRangeCmpFunc_int64.calls base ok g n c lb cf w0 HN.out k1 _ _ _ _ _ _ HI.out E1.out).mono ?_); rintro e w1 ⟨rfl, hi_⟩; refine ⟨_, rfl, ?_⟩; clear HI; have HI := Aside0.mk hi_; clear hi_; have Q1 := trivial))
        go_roundg k1
        case measure => have := HK1.out; omega
        case rel => exact ⟨_, _, _, by first | rfl | (simp only [*]), by first | rfl | (simp only [*]), H, ⟨by have := HK1.out; omega⟩, HI⟩
      · rw [if_neg c8] at H1
        obtain ⟨mj, hmj⟩ : ∃ j_ : Int, m + j = j_ := ⟨_, rfl⟩
        rw [hmj] at H1
        have hmjw : (IntKind.i64.wrap (m + j)) = mj := (i64_w _).trans ((by unfold wrap64; omega : wrap64 (m + j) = m + j).trans hmj)
        have hmjv : wrap64 (m + j) = mj := (by unfold wrap64; omega : wrap64 (m + j) = m + j).trans hmj
        have Hmj := Aside0.mk hmj
        clear hmj
        rw [← Hmj.out] at H1
        have zz : 0 ≤ m + j - i ∧ m + j - i ≤ 2000000000000 := by omega
        obtain ⟨mji, hmji⟩ : ∃ j_ : Int, m + j - i = j_ := ⟨_, rfl⟩
        rw [hmji] at H1 zz
        have hmjiw : (IntKind.i64.wrap (m + j - i)) = mji := (i64_w _).trans ((by unfold wrap64; omega : wrap64 (m + j - i) = m + j - i).trans hmji)
        have hmjiv : wrap64 (m + j - i) = mji := (by unfold wrap64; omega : wrap64 (m + j - i) = m + j - i).trans hmji
        have Hmji := Aside0.mk hmji
        clear hmji
        obtain ⟨ji, hji⟩ : ∃ j_ : Int, j - i = j_ := ⟨_, rfl⟩
        rw [hji] at H1
        have hjiw : (IntKind.i64.wrap (j - i)) = ji := (i64_w _).trans ((by unfold wrap64; omega : wrap64 (j - i) = j - i).trans hji)
        have hjiv : wrap64 (j - i) = ji := (by unfold wrap64; omega : wrap64 (j - i) = j - i).trans hji
        have Hji := Aside0.mk hji
        clear hji
        have hmjx : (IntKind.i64.wrap (mj - i)) = mji := by rw [← Hmj.out]; exact hmjiw
        have c80 := decide_eq_false c8
        obtain ⟨zs, y_, H2⟩ := Option.bind_eq_some_iff.mp H1
        have E1 := Aside0.mk y_
        have H := Aside0.mk H2
        have hmjv2 : wrap64 (mj - i) = mji := by rw [← Hmj.out]; exact hmjiv
        clear y_ H1 H2 hl hn z1 z2 z3 z4 zz c8 c9
        go_wp2_with (first | ((clear Q0); (with_reducible refine gate_callee (f := 132) rfl ?_); refine goesL_ (some _) rfl rfl Try.func132 (by kernel_rfl) rfl #[.slice (some ⟨g, 0, none⟩) n c, .int .i64 (mi), .int .i64 (mji), .int .i64 (i), .func (.func 65) #[] lb] rfl aw_ ?_; (with_reducible refine (slices_swapRangeCmpFunc_int64.calls base ok g n c lb cf w0 HN.out k1 _ _ _ _ _ _ HI.out E1.out).mono ?_); rintro e w1 ⟨rfl, hi_⟩; refine ⟨_, rfl, ?_⟩; clear HI; have HI := Aside0.mk hi_; clear hi_; have Q1 := trivial))
        go_roundg k1
        case measure => have := HK1.out; omega
        case rel => exact ⟨_, _, _, by first | rfl | (simp only [*]), by first | rfl | (simp only [*]), H, ⟨by have := HK1.out; omega⟩, HI⟩
end Go.Proofs.Ytgdiabfmjcejdaa.P
end
