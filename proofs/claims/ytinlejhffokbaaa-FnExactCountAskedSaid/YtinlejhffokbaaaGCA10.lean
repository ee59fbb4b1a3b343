/- Texts of this seat, merged: QImplValidask, QImplOnlynamebytes, QImplIsname, QImplToneok, QImplIncreasing. -/
import Derived.Test.YtinlejhffokbaaaGCA1
import Derived.Test.YtinlejhffokbaaaGCA4
import Derived.Test.YtinlejhffokbaaaGCA9
section
namespace Go.Proofs.Ytinlejhffokbaaa.P
open Go.RowKit Go.Proofs.YtinlejhffokbaaaW.PrintWords Go.Proofs.YtinlejhffokbaaaW.PrintLast Go.Proofs.YtinlejhffokbaaaW.PrintMore
attribute [local go_sem] max2_int min2_int max_two min_two max_three min_three max_four min_four   -- for this text's walks alone
set_option linter.unusedVariables false
set_option linter.unusedSimpArgs false
set_option maxHeartbeats 16000000
set_option maxRecDepth 100000
mutual
def impl_ValidAsk.j0 : Nat → Bool → Int → Int → Int → Int → Int → List (List Int) → Int → Option (Bool)
 | 0, _, _, _, _, _, _, _, _ => none
 | k + 1, x48, x570000, x570001, x570002, x570003, x570004, x570005, x570006 => if x48 = true then (some false) else (impl_ValidAsk.l0 k x570005 (x570005.length : Int) 0)
def impl_ValidAsk.l0 : Nat → List (List Int) → Int → Int → Option (Bool)
 | 0, _, _, _ => none
 | k + 1, x50, x51, x52 => if x52 < x51 then (if 0 ≤ x52 then (if x52 < (x50.length : Int) then (if ((rd_L1 x50 x52).length : Int) < 1 then (some false) else (if ((rd_L1 x50 x52).length : Int) > 8 then (some false) else ((impl_pitchesOk.f (rd_L1 x50 x52)).bind fun t576 => (if t576 = true then (impl_ValidAsk.l0 k x50 x51 (wrap64 (x52 + 1))) else (some false))))) else (none)) else (none)) else (some true)
end
def impl_ValidAsk.f (k : Nat) (a0_0 : Int) (a0_1 : Int) (a0_2 : Int) (a0_3 : Int) (a0_4 : Int) (l0_5 : List (List Int)) (a0_6 : Int) : Option (Bool) := (impl_within.f a0_0 1 16).bind fun t570 => (if t570 = true then ((impl_rangeOk.f a0_3 a0_4).bind fun t571 => (if t571 = true then ((impl_within.f a0_1 a0_3 a0_4).bind fun t572 => (if t572 = true then ((impl_within.f a0_2 a0_3 a0_4).bind fun t573 => (if t573 = true then (if (l0_5.length : Int) > 4 then (impl_ValidAsk.j0 k true a0_0 a0_1 a0_2 a0_3 a0_4 l0_5 a0_6) else ((impl_within.f a0_6 0 16).bind fun t574 => (impl_ValidAsk.j0 k (!t574) a0_0 a0_1 a0_2 a0_3 a0_4 l0_5 a0_6))) else (impl_ValidAsk.j0 k true a0_0 a0_1 a0_2 a0_3 a0_4 l0_5 a0_6))) else (impl_ValidAsk.j0 k true a0_0 a0_1 a0_2 a0_3 a0_4 l0_5 a0_6))) else (impl_ValidAsk.j0 k true a0_0 a0_1 a0_2 a0_3 a0_4 l0_5 a0_6))) else (impl_ValidAsk.j0 k true a0_0 a0_1 a0_2 a0_3 a0_4 l0_5 a0_6))
theorem impl_ValidAsk.calls (k : Nat) (a0_0 : Int) (a0_1 : Int) (a0_2 : Int) (a0_3 : Int) (a0_4 : Int) (A0_5 : Option Addr) (c0_5 : Nat) (l0_5 : List (List Int)) (a0_6 : Int) (r : Bool) (w : World) (hr0_5 : Kd.C (Kd.slice 2 (Kd.int .i64)) w A0_5 l0_5.length l0_5) (hc0_5 : l0_5.length ≤ c0_5) (h : impl_ValidAsk.f k a0_0 a0_1 a0_2 a0_3 a0_4 l0_5 a0_6 = some r) :
  Calls Try.prog 96 #[.agg #[.int .i64 a0_0, .int .i64 a0_1, .int .i64 a0_2, .int .i64 a0_3, .int .i64 a0_4, .slice A0_5 l0_5.length c0_5, .int .i64 a0_6]] w fun e w' => e = .returned (.bool r) ∧ Below w.heap.size w w' := by
 have hu62 := Try.underlying62; have HR0_5 := Aside0.mk hr0_5; have HC0_5 := Aside0.mk hc0_5; clear hr0_5 hc0_5; have HB := Aside0.mk (Below.refl w.heap.size w); have H : ((impl_within.f a0_0 1 16).bind fun t570 => (if t570 = true then ((impl_rangeOk.f a0_3 a0_4).bind fun t571 => (if t571 = true then ((impl_within.f a0_1 a0_3 a0_4).bind fun t572 => (if t572 = true then ((impl_within.f a0_2 a0_3 a0_4).bind fun t573 => (if t573 = true then (if (l0_5.length : Int) > 4 then (impl_ValidAsk.j0 k true a0_0 a0_1 a0_2 a0_3 a0_4 l0_5 a0_6) else ((impl_within.f a0_6 0 16).bind fun t574 => (impl_ValidAsk.j0 k (!t574) a0_0 a0_1 a0_2 a0_3 a0_4 l0_5 a0_6))) else (impl_ValidAsk.j0 k true a0_0 a0_1 a0_2 a0_3 a0_4 l0_5 a0_6))) else (impl_ValidAsk.j0 k true a0_0 a0_1 a0_2 a0_3 a0_4 l0_5 a0_6))) else (impl_ValidAsk.j0 k true a0_0 a0_1 a0_2 a0_3 a0_4 l0_5 a0_6))) else (impl_ValidAsk.j0 k true a0_0 a0_1 a0_2 a0_3 a0_4 l0_5 a0_6))) = some r := h; clear h; have HC2 := Aside0.mk H; clear H; go_enter Try.func96, Try.ntmps96
 go_upto_region 1 with (first | ((with_reducible refine gate_dst (N := 1) rfl ?_); (try (refine gate_guard (by rfl) ?_; dsimp only)); refine box_event ?hg (N := 1) ?hd (cs := #[.int .i64 a0_0, .int .i64 a0_1, .int .i64 a0_2, .int .i64 a0_3, .int .i64 a0_4, .slice A0_5 l0_5.length c0_5, .int .i64 a0_6]) (t := 62) ?hr ?_; (case hd => rfl); (case hg => rfl); (case hr => first | (go_simp; done) | (go_simp; rfl)); intro gb569 hg w3 hbox hb; have n0_ := Aside0.mk (below_step (ba_ HB.out) hb); have n1_ := Aside0.mk (hbox); have n2_ := Aside0.mk ((by rw [hg]; exact (below_size (ba_ HB.out)) : w.heap.size ≤ gb569)); have n3_ := Aside0.mk ((by rw [hg]; exact (below_size (ba_ HB.out)) : w.heap.size ≤ gb569)); clear HB; have HB := n0_; have BK569 := n1_; have GW569 := n2_; have GE569 := n3_; clear n0_ n1_ n2_ n3_; clear hb hbox hg))
 (try simp only [Act.put, List.setIfInBounds_toArray, List.set_cons_zero, List.set_cons_succ])
 go_cut [48] (fun v48 wc => ∃ (kq : Nat) (x48_1 : Bool), v48 = .bool x48_1 ∧ Aside0 (impl_ValidAsk.j0 kq x48_1 a0_0 a0_1 a0_2 a0_3 a0_4 l0_5 a0_6 = some r) ∧ Aside0 (kq ≤ k) ∧ Aside0 (wc.heap[gb569]? = some (.cells #[.int .i64 a0_0, .int .i64 a0_1, .int .i64 a0_2, .int .i64 a0_3, .int .i64 a0_4, (.slice A0_5 l0_5.length c0_5), .int .i64 a0_6] 62 (0, 0))) ∧ Aside0 (Below w.heap.size w wc))
 case first =>
  have H := HC2.out; clear HC2; replace H := Option.bind_eq_some_iff.mp H; obtain ⟨t570, A40, H⟩ := H; (try dsimp only at H); have A4 := Aside0.mk A40; clear A40
  by_cases c5 : t570 = true
  ·subst c5; rw [if_pos rfl] at H; replace H := Option.bind_eq_some_iff.mp H; obtain ⟨t571, A60, H⟩ := H; (try dsimp only at H); have A6 := Aside0.mk A60; clear A60
   by_cases c7 : t571 = true
   ·subst c7; rw [if_pos rfl] at H; replace H := Option.bind_eq_some_iff.mp H; obtain ⟨t572, A80, H⟩ := H; (try dsimp only at H); have A8 := Aside0.mk A80; clear A80
    by_cases c9 : t572 = true
    ·subst c9; rw [if_pos rfl] at H; replace H := Option.bind_eq_some_iff.mp H; obtain ⟨t573, A100, H⟩ := H; (try dsimp only at H); have A10 := Aside0.mk A100; clear A100
     by_cases c11 : t573 = true
     ·subst c11; rw [if_pos rfl] at H
      by_cases c12 : (l0_5.length : Int) > 4
      ·rw [if_pos c12] at H; have c12b0 : decide (4 < (l0_5.length : Int)) = true := decide_eq_true c12; have c12b1 : decide (4 < l0_5.length) = true := decide_eq_true (by omega); clear c12; (first | rw [c12b0] | (simp only [i64_w, i32_w]; rw [c12b0]) | skip); have H' := Aside0.mk H; clear H; obtain ⟨hcz13_0, hcz13_1, hcz13_2, hcz13_3, hcz13_4, hcz13_5, hcz13_6, hfz13_0⟩ := bx7_ (w := w3) BK569.out; go_wp2_with (first | ((with_reducible refine gate_callee (f := 65) rfl ?_); refine goesL_ (some 7) rfl rfl Try.func65 (by kernel_rfl) rfl #[.int .i64 a0_0, .int .i64 1, .int .i64 16] rfl av_ ?_; (with_reducible refine (impl_within.calls a0_0 1 16 true _ A4.out).mono ?_); rintro e w' ⟨rfl, ⟨nd, rfl⟩⟩; refine ⟨_, rfl, ?_⟩) | (go_at_call 64; (with_reducible refine (impl_rangeOk.calls a0_3 a0_4 true _ A6.out).mono ?_); rintro e w' ⟨rfl, ⟨nd, rfl⟩⟩) | (go_at_call 65; (with_reducible refine (impl_within.calls a0_1 a0_3 a0_4 true _ A8.out).mono ?_); rintro e w' ⟨rfl, ⟨nd, rfl⟩⟩) | (go_at_call 65; (with_reducible refine (impl_within.calls a0_2 a0_3 a0_4 true _ A10.out).mono ?_); rintro e w' ⟨rfl, ⟨nd, rfl⟩⟩))
       go_meet
       case rel => exact ⟨_, (true), sv_, H', ⟨by first | omega | exact Nat.le_refl _⟩, ⟨bk_ BK569.out⟩, ⟨bg_ HB.out GE569.out⟩⟩
      ·rw [if_neg c12] at H; have c12b0 : decide (4 < (l0_5.length : Int)) = false := decide_eq_false c12; have c12b1 : decide (4 < l0_5.length) = false := decide_eq_false (by omega); clear c12; (first | rw [c12b0] | (simp only [i64_w, i32_w]; rw [c12b0]) | skip); replace H := Option.bind_eq_some_iff.mp H; obtain ⟨t574, A140, H⟩ := H; (try dsimp only at H); have A14 := Aside0.mk A140; clear A140; have H' := Aside0.mk H; clear H; obtain ⟨hcz15_0, hcz15_1, hcz15_2, hcz15_3, hcz15_4, hcz15_5, hcz15_6, hfz15_0⟩ := bx7_ (w := w3) BK569.out; go_wp2_with (first | ((with_reducible refine gate_callee (f := 65) rfl ?_); refine goesL_ (some 7) rfl rfl Try.func65 (by kernel_rfl) rfl #[.int .i64 a0_0, .int .i64 1, .int .i64 16] rfl av_ ?_; (with_reducible refine (impl_within.calls a0_0 1 16 true _ A4.out).mono ?_); rintro e w' ⟨rfl, ⟨nd, rfl⟩⟩; refine ⟨_, rfl, ?_⟩) | (go_at_call 64; (with_reducible refine (impl_rangeOk.calls a0_3 a0_4 true _ A6.out).mono ?_); rintro e w' ⟨rfl, ⟨nd, rfl⟩⟩) | (go_at_call 65; (with_reducible refine (impl_within.calls a0_1 a0_3 a0_4 true _ A8.out).mono ?_); rintro e w' ⟨rfl, ⟨nd, rfl⟩⟩) | (go_at_call 65; (with_reducible refine (impl_within.calls a0_2 a0_3 a0_4 true _ A10.out).mono ?_); rintro e w' ⟨rfl, ⟨nd, rfl⟩⟩) | (go_at_call 65; (with_reducible refine (impl_within.calls a0_6 0 16 t574 _ A14.out).mono ?_); rintro e w' ⟨rfl, ⟨nd, rfl⟩⟩))
       go_meet
       case rel => exact ⟨_, (!t574), sv_, H', ⟨by first | omega | exact Nat.le_refl _⟩, ⟨bk_ BK569.out⟩, ⟨bg_ HB.out GE569.out⟩⟩
     ·replace c11 := Bool.eq_false_iff.mpr c11; subst c11; rw [if_neg (show ¬ (false = true) by decide)] at H; have H' := Aside0.mk H; clear H; obtain ⟨hcz16_0, hcz16_1, hcz16_2, hcz16_3, hcz16_4, hcz16_5, hcz16_6, hfz16_0⟩ := bx7_ (w := w3) BK569.out; go_wp2_with (first | ((with_reducible refine gate_callee (f := 65) rfl ?_); refine goesL_ (some 7) rfl rfl Try.func65 (by kernel_rfl) rfl #[.int .i64 a0_0, .int .i64 1, .int .i64 16] rfl av_ ?_; (with_reducible refine (impl_within.calls a0_0 1 16 true _ A4.out).mono ?_); rintro e w' ⟨rfl, ⟨nd, rfl⟩⟩; refine ⟨_, rfl, ?_⟩) | (go_at_call 64; (with_reducible refine (impl_rangeOk.calls a0_3 a0_4 true _ A6.out).mono ?_); rintro e w' ⟨rfl, ⟨nd, rfl⟩⟩) | (go_at_call 65; (with_reducible refine (impl_within.calls a0_1 a0_3 a0_4 true _ A8.out).mono ?_); rintro e w' ⟨rfl, ⟨nd, rfl⟩⟩) | (go_at_call 65; (with_reducible refine (impl_within.calls a0_2 a0_3 a0_4 false _ A10.out).mono ?_); rintro e w' ⟨rfl, ⟨nd, rfl⟩⟩))
      go_meet
      case rel => exact ⟨_, (true), sv_, H', ⟨by first | omega | exact Nat.le_refl _⟩, ⟨bk_ BK569.out⟩, ⟨bg_ HB.out GE569.out⟩⟩
    ·replace c9 := Bool.eq_false_iff.mpr c9; subst c9; rw [if_neg (show ¬ (false = true) by decide)] at H; have H' := Aside0.mk H; clear H; obtain ⟨hcz17_0, hcz17_1, hcz17_2, hcz17_3, hcz17_4, hcz17_5, hcz17_6, hfz17_0⟩ := bx7_ (w := w3) BK569.out; go_wp2_with (first | ((with_reducible refine gate_callee (f := 65) rfl ?_); refine goesL_ (some 7) rfl rfl Try.func65 (by kernel_rfl) rfl #[.int .i64 a0_0, .int .i64 1, .int .i64 16] rfl av_ ?_; (with_reducible refine (impl_within.calls a0_0 1 16 true _ A4.out).mono ?_); rintro e w' ⟨rfl, ⟨nd, rfl⟩⟩; refine ⟨_, rfl, ?_⟩) | (go_at_call 64; (with_reducible refine (impl_rangeOk.calls a0_3 a0_4 true _ A6.out).mono ?_); rintro e w' ⟨rfl, ⟨nd, rfl⟩⟩) | (go_at_call 65; (with_reducible refine (impl_within.calls a0_1 a0_3 a0_4 false _ A8.out).mono ?_); rintro e w' ⟨rfl, ⟨nd, rfl⟩⟩))
     go_meet
     case rel => exact ⟨_, (true), sv_, H', ⟨by first | omega | exact Nat.le_refl _⟩, ⟨bk_ BK569.out⟩, ⟨bg_ HB.out GE569.out⟩⟩
   ·replace c7 := Bool.eq_false_iff.mpr c7; subst c7; rw [if_neg (show ¬ (false = true) by decide)] at H; have H' := Aside0.mk H; clear H; obtain ⟨hcz18_0, hcz18_1, hcz18_2, hcz18_3, hcz18_4, hcz18_5, hcz18_6, hfz18_0⟩ := bx7_ (w := w3) BK569.out; go_wp2_with (first | ((with_reducible refine gate_callee (f := 65) rfl ?_); refine goesL_ (some 7) rfl rfl Try.func65 (by kernel_rfl) rfl #[.int .i64 a0_0, .int .i64 1, .int .i64 16] rfl av_ ?_; (with_reducible refine (impl_within.calls a0_0 1 16 true _ A4.out).mono ?_); rintro e w' ⟨rfl, ⟨nd, rfl⟩⟩; refine ⟨_, rfl, ?_⟩) | (go_at_call 64; (with_reducible refine (impl_rangeOk.calls a0_3 a0_4 false _ A6.out).mono ?_); rintro e w' ⟨rfl, ⟨nd, rfl⟩⟩))
    go_meet
    case rel => exact ⟨_, (true), sv_, H', ⟨by first | omega | exact Nat.le_refl _⟩, ⟨bk_ BK569.out⟩, ⟨bg_ HB.out GE569.out⟩⟩
  ·replace c5 := Bool.eq_false_iff.mpr c5; subst c5; rw [if_neg (show ¬ (false = true) by decide)] at H; have H' := Aside0.mk H; clear H; obtain ⟨hcz19_0, hcz19_1, hcz19_2, hcz19_3, hcz19_4, hcz19_5, hcz19_6, hfz19_0⟩ := bx7_ (w := w3) BK569.out; go_wp2_with (first | ((with_reducible refine gate_callee (f := 65) rfl ?_); refine goesL_ (some 7) rfl rfl Try.func65 (by kernel_rfl) rfl #[.int .i64 a0_0, .int .i64 1, .int .i64 16] rfl av_ ?_; (with_reducible refine (impl_within.calls a0_0 1 16 false _ A4.out).mono ?_); rintro e w' ⟨rfl, ⟨nd, rfl⟩⟩; refine ⟨_, rfl, ?_⟩))
   go_meet
   case rel => exact ⟨_, (true), sv_, H', ⟨by first | omega | exact Nat.le_refl _⟩, ⟨bk_ BK569.out⟩, ⟨bg_ HB.out GE569.out⟩⟩
 case rest =>
  clear HC2; (try clear c1); (try clear p2); (try clear c5); (try clear c6); (try clear c7); (try clear c9); (try clear c11); (try clear c12); (try clear c12b0); (try clear c12b1); (try clear hcz13_0 hcz13_1 hcz13_2 hcz13_3 hcz13_4 hcz13_5 hcz13_6 hcz15_0 hcz15_1 hcz15_2 hcz15_3 hcz15_4 hcz15_5 hcz15_6 hcz16_0 hcz16_1 hcz16_2 hcz16_3 hcz16_4 hcz16_5 hcz16_6 hcz17_0 hcz17_1 hcz17_2 hcz17_3 hcz17_4 hcz17_5 hcz17_6 hcz18_0 hcz18_1 hcz18_2 hcz18_3 hcz18_4 hcz18_5 hcz18_6 hcz19_0 hcz19_1 hcz19_2 hcz19_3 hcz19_4 hcz19_5 hcz19_6); (try clear hfz13_0); (try clear hfz15_0); (try clear hfz16_0); (try clear hfz17_0); (try clear hfz18_0); (try clear hfz19_0); obtain ⟨kq, x48_1, rfl, HA, HJ1, BK569, HB⟩ := hcut
  cases kq with
  | zero => exact absurd HA.out (by simp [impl_ValidAsk.j0])
  | succ kj1 =>
   have H := HA.out; clear HA; simp only [impl_ValidAsk.j0] at H
   by_cases c20 : x48_1 = true
   ·subst c20; rw [if_pos rfl] at H; obtain rfl := Option.some.inj H; go_wp2
    go_ret
    exact ⟨by first | rfl | (simp [errW_none, errW_some] <;> rfl) | (simp [*, errW_none, errW_some] <;> rfl), bg_ HB.out GE569.out⟩
   ·replace c20 := Bool.eq_false_iff.mpr c20; subst c20; rw [if_neg (show ¬ (false = true) by decide)] at H; have H' := Aside0.mk H; clear H; obtain ⟨hcz21_0, hcz21_1, hcz21_2, hcz21_3, hcz21_4, hcz21_5, hcz21_6, hfz21_0⟩ := bx7_ (w := wc) BK569.out; go_wp2
    go_loopg [52] kj1 (fun kq v52 w' => ∃ (x52_2 : Int), v52 = .int .i64 x52_2 ∧ Aside0 (impl_ValidAsk.l0 kq l0_5 (l0_5.length : Int) x52_2 = some r) ∧ Aside0 (kq ≤ kj1) ∧ Aside0 (w'.heap[gb569]? = some (.cells #[.int .i64 a0_0, .int .i64 a0_1, .int .i64 a0_2, .int .i64 a0_3, .int .i64 a0_4, (.slice A0_5 l0_5.length c0_5), .int .i64 a0_6] 62 (0, 0))) ∧ Aside0 (Below w.heap.size w w'))
    case atStart => exact ⟨(0), sv_, H', ⟨Nat.le_refl _⟩, ⟨bk_ BK569.out⟩, ⟨bg_ HB.out GE569.out⟩⟩
    case round =>
     clear H'; (try clear c1); (try clear c2); (try clear p2); (try clear c5); (try clear c6); (try clear c7); (try clear c9); (try clear c11); (try clear c12); (try clear c12b0); (try clear c12b1); (try clear c20); (try clear hcz13_0 hcz13_1 hcz13_2 hcz13_3 hcz13_4 hcz13_5 hcz13_6 hcz15_0 hcz15_1 hcz15_2 hcz15_3 hcz15_4 hcz15_5 hcz15_6 hcz16_0 hcz16_1 hcz16_2 hcz16_3 hcz16_4 hcz16_5 hcz16_6 hcz17_0 hcz17_1 hcz17_2 hcz17_3 hcz17_4 hcz17_5 hcz17_6 hcz18_0 hcz18_1 hcz18_2 hcz18_3 hcz18_4 hcz18_5 hcz18_6 hcz19_0 hcz19_1 hcz19_2 hcz19_3 hcz19_4 hcz19_5 hcz19_6 hcz21_0 hcz21_1 hcz21_2 hcz21_3 hcz21_4 hcz21_5 hcz21_6); (try clear hfz13_0); (try clear hfz15_0); (try clear hfz16_0); (try clear hfz17_0); (try clear hfz18_0); (try clear hfz19_0); (try clear hfz21_0); (try clear p2); obtain ⟨x52_2, rfl, HA, HK2, BK569, HB⟩ := hrel
     cases gk with
     | zero => exact absurd HA.out (by simp [impl_ValidAsk.l0])
     | succ k2 =>
      have H := HA.out; clear HA; simp only [impl_ValidAsk.l0] at H
      by_cases c22 : x52_2 < (l0_5.length : Int)
      ·rw [if_pos c22] at H; have c22b0 : decide (x52_2 < (l0_5.length : Int)) = true := decide_eq_true c22; clear c22
       by_cases c23 : 0 ≤ x52_2
       ·rw [if_pos c23] at H; have c23b0 : decide (0 ≤ x52_2) = true := decide_eq_true c23; clear c23
        by_cases c24 : x52_2 < (l0_5.length : Int)
        ·rw [if_pos c24] at H; have c24b0 : decide (x52_2 < (l0_5.length : Int)) = true := decide_eq_true c24; clear c24
         by_cases c25 : ((rd_L1 l0_5 x52_2).length : Int) < 1
         ·rw [if_pos c25] at H; have c25b0 : decide (((rd_L1 l0_5 x52_2).length : Int) < 1) = true := decide_eq_true c25; have c25b1 : decide ((rd_L1 l0_5 x52_2).length < 1) = true := decide_eq_true (by omega); clear c25; obtain rfl := Option.some.inj H; have p575 : 0 ≤ (x52_2 : Int) := da_; have q575 : x52_2 < (l0_5.length : Int) := da_; obtain ⟨ad575, A575_0, c575_0, e575, hx575_0, hl575_0, hi575_0⟩ := at_L1 HR0_5.out x52_2 p575 q575; cases e575; replace hx575_0 := (wc_ HB.out hx575_0 :); have HR575_0 := Aside0.mk hi575_0; have HC575_0 := Aside0.mk hl575_0; clear hi575_0 hl575_0; replace p575 := eq_true p575; replace q575 := eq_true q575; go_wp2
          go_ret
          exact ⟨by first | rfl | (simp [errW_none, errW_some] <;> rfl) | (simp [*, errW_none, errW_some] <;> rfl), bg_ HB.out GE569.out⟩
         ·rw [if_neg c25] at H; have c25b0 : decide (((rd_L1 l0_5 x52_2).length : Int) < 1) = false := decide_eq_false c25; have c25b1 : decide ((rd_L1 l0_5 x52_2).length < 1) = false := decide_eq_false (by omega); clear c25
          by_cases c26 : ((rd_L1 l0_5 x52_2).length : Int) > 8
          ·rw [if_pos c26] at H; have c26b0 : decide (8 < ((rd_L1 l0_5 x52_2).length : Int)) = true := decide_eq_true c26; have c26b1 : decide (8 < (rd_L1 l0_5 x52_2).length) = true := decide_eq_true (by omega); clear c26; obtain rfl := Option.some.inj H; have p575 : 0 ≤ (x52_2 : Int) := da_; have q575 : x52_2 < (l0_5.length : Int) := da_; obtain ⟨ad575, A575_0, c575_0, e575, hx575_0, hl575_0, hi575_0⟩ := at_L1 HR0_5.out x52_2 p575 q575; cases e575; replace hx575_0 := (wc_ HB.out hx575_0 :); have HR575_0 := Aside0.mk hi575_0; have HC575_0 := Aside0.mk hl575_0; clear hi575_0 hl575_0; replace p575 := eq_true p575; replace q575 := eq_true q575; go_wp2
           go_ret
           exact ⟨by first | rfl | (simp [errW_none, errW_some] <;> rfl) | (simp [*, errW_none, errW_some] <;> rfl), bg_ HB.out GE569.out⟩
          ·rw [if_neg c26] at H; have c26b0 : decide (8 < ((rd_L1 l0_5 x52_2).length : Int)) = false := decide_eq_false c26; have c26b1 : decide (8 < (rd_L1 l0_5 x52_2).length) = false := decide_eq_false (by omega); clear c26; replace H := Option.bind_eq_some_iff.mp H; obtain ⟨t576, A270, H⟩ := H; (try dsimp only at H); have A27 := Aside0.mk A270; clear A270
           by_cases c28 : t576 = true
           ·subst c28; rw [if_pos rfl] at H; have H' := Aside0.mk H; clear H; have p575 : 0 ≤ (x52_2 : Int) := da_; have q575 : x52_2 < (l0_5.length : Int) := da_; obtain ⟨ad575, A575_0, c575_0, e575, hx575_0, hl575_0, hi575_0⟩ := at_L1 HR0_5.out x52_2 p575 q575; cases e575; replace hx575_0 := (wc_ HB.out hx575_0 :); have HR575_0 := Aside0.mk hi575_0; have HC575_0 := Aside0.mk hl575_0; clear hi575_0 hl575_0; replace p575 := eq_true p575; replace q575 := eq_true q575; go_wp2_with (first | (go_at_call 79; (with_reducible refine (impl_pitchesOk.calls _ _ (rd_L1 l0_5 x52_2) true _ ?side1 HC575_0.out A27.out).mono ?_); (case side1 => exact (Kd.C_below HR575_0.out HB.out)); rintro e w29 ⟨rfl, hb⟩; have n0_ := Aside0.mk (blk_below (g := gb569) (o := .cells #[.int .i64 a0_0, .int .i64 a0_1, .int .i64 a0_2, .int .i64 a0_3, .int .i64 a0_4, .slice (some ad575) l0_5.length c0_5, .int .i64 a0_6] 62 (0, 0)) (by repeat first | exact BK569.out | refine blk_drewN ?_ _ | refine blk_drew ?_ | refine blk_alloc ?_ _) hb); have n1_ := Aside0.mk (below_step (bg_ HB.out GE569.out) hb); clear BK569; clear HB; have BK569 := n0_; have HB := n1_; clear n0_ n1_; (try clear hb); (try clear hb2); (try clear hk); (try clear hi)))
            go_roundg k2
            case measure => have := HJ1.out; have := HK2.out; omega
            case rel => exact ⟨(wrap64 (x52_2 + 1)), sv_, H', ⟨by have := HJ1.out; have := HK2.out; omega⟩, ⟨bk_ BK569.out⟩, ⟨bg_ HB.out GE569.out⟩⟩
           ·replace c28 := Bool.eq_false_iff.mpr c28; subst c28; rw [if_neg (show ¬ (false = true) by decide)] at H; obtain rfl := Option.some.inj H; have p575 : 0 ≤ (x52_2 : Int) := da_; have q575 : x52_2 < (l0_5.length : Int) := da_; obtain ⟨ad575, A575_0, c575_0, e575, hx575_0, hl575_0, hi575_0⟩ := at_L1 HR0_5.out x52_2 p575 q575; cases e575; replace hx575_0 := (wc_ HB.out hx575_0 :); have HR575_0 := Aside0.mk hi575_0; have HC575_0 := Aside0.mk hl575_0; clear hi575_0 hl575_0; replace p575 := eq_true p575; replace q575 := eq_true q575; go_wp2_with (first | (go_at_call 79; (with_reducible refine (impl_pitchesOk.calls _ _ (rd_L1 l0_5 x52_2) false _ ?side1 HC575_0.out A27.out).mono ?_); (case side1 => exact (Kd.C_below HR575_0.out HB.out)); rintro e w30 ⟨rfl, hb⟩; have n0_ := Aside0.mk (blk_below (g := gb569) (o := .cells #[.int .i64 a0_0, .int .i64 a0_1, .int .i64 a0_2, .int .i64 a0_3, .int .i64 a0_4, .slice (some ad575) l0_5.length c0_5, .int .i64 a0_6] 62 (0, 0)) (by repeat first | exact BK569.out | refine blk_drewN ?_ _ | refine blk_drew ?_ | refine blk_alloc ?_ _) hb); have n1_ := Aside0.mk (below_step (bg_ HB.out GE569.out) hb); clear BK569; clear HB; have BK569 := n0_; have HB := n1_; clear n0_ n1_; (try clear hb); (try clear hb2); (try clear hk); (try clear hi)))
            go_ret
            exact ⟨by first | rfl | (simp [errW_none, errW_some] <;> rfl) | (simp [*, errW_none, errW_some] <;> rfl), bg_ HB.out GE569.out⟩
        ·rw [if_neg c24] at H; exact absurd H (by simp)
       ·rw [if_neg c23] at H; exact absurd H (by simp)
      ·rw [if_neg c22] at H; have c22b0 : decide (x52_2 < (l0_5.length : Int)) = false := decide_eq_false c22; clear c22; obtain rfl := Option.some.inj H; go_wp2
       go_ret
       exact ⟨by first | rfl | (simp [errW_none, errW_some] <;> rfl) | (simp [*, errW_none, errW_some] <;> rfl), bg_ HB.out GE569.out⟩
def impl_onlyNameBytes.l0 : Nat → ByteArray → Int → Int → Option (Bool)
 | 0, _, _, _ => none
 | k + 1, x0, x6, x7 => if x7 < x6 then (if 0 ≤ x7 then (if x7 < (x0.size : Int) then (if (bt x0 x7) < 97 then (if (bt x0 x7) < 48 then (some false) else (if (bt x0 x7) > 57 then (some false) else (impl_onlyNameBytes.l0 k x0 x6 (wrap64 (x7 + 1))))) else (if (bt x0 x7) > 122 then (if (bt x0 x7) < 48 then (some false) else (if (bt x0 x7) > 57 then (some false) else (impl_onlyNameBytes.l0 k x0 x6 (wrap64 (x7 + 1))))) else (impl_onlyNameBytes.l0 k x0 x6 (wrap64 (x7 + 1))))) else (none)) else (none)) else (some true)
def impl_onlyNameBytes.f (k : Nat) (a0 : ByteArray) : Option (Bool) := impl_onlyNameBytes.l0 k a0 (a0.size : Int) 0
theorem impl_onlyNameBytes.calls (k : Nat) (a0 : ByteArray) (r : Bool) (w : World) (h : impl_onlyNameBytes.f k a0 = some r) :
  Calls Try.prog 144 #[.string a0] w fun e w' => e = .returned (.bool r) ∧ Drawn0 w w' := by
 have H : (impl_onlyNameBytes.l0 k a0 (a0.size : Int) 0) = some r := h; clear h; have H' := Aside0.mk H; clear H; go_enter Try.func144, Try.ntmps144; go_wp2
 go_loopg [7] k (fun kq v7 w' => ∃ (x7_1 : Int), v7 = .int .i64 x7_1 ∧ Aside0 (impl_onlyNameBytes.l0 kq a0 (a0.size : Int) x7_1 = some r) ∧ Aside0 (kq ≤ k) ∧ Drawn0 w w')
 case atStart => exact ⟨(0), sv_, H', ⟨Nat.le_refl _⟩, dr_⟩
 case round =>
  clear H'
  try clear c1
  obtain ⟨x7_1, rfl, HA, HK1, ⟨m1, rfl⟩⟩ := hrel
  cases gk with
  | zero => exact absurd HA.out (by simp [impl_onlyNameBytes.l0])
  | succ k1 =>
   have H := HA.out; clear HA; simp only [impl_onlyNameBytes.l0] at H
   by_cases c2 : x7_1 < (a0.size : Int)
   ·rw [if_pos c2] at H; have c2b0 : decide (x7_1 < (a0.size : Int)) = true := decide_eq_true c2; clear c2
    by_cases c3 : 0 ≤ x7_1
    ·rw [if_pos c3] at H; have c3b0 : decide (0 ≤ x7_1) = true := decide_eq_true c3; clear c3
     by_cases c4 : x7_1 < (a0.size : Int)
     ·rw [if_pos c4] at H; have c4b0 : decide (x7_1 < (a0.size : Int)) = true := decide_eq_true c4; clear c4
      by_cases c6 : (bt a0 x7_1) < 97
      ·rw [if_pos c6] at H; have c6b0 : decide ((bt a0 x7_1) < 97) = true := decide_eq_true c6; clear c6
       by_cases c7 : (bt a0 x7_1) < 48
       ·rw [if_pos c7] at H; have c7b0 : decide ((bt a0 x7_1) < 48) = true := decide_eq_true c7; clear c7; obtain rfl := Option.some.inj H; have p5 : 0 ≤ (x7_1 : Int) := da_; have q5 : x7_1 < (a0.size : Int) := da_; have hx5 := bt_at a0 x7_1; replace p5 := eq_true p5; replace q5 := eq_true q5; go_wp2
        go_ret
        exact ⟨sv_, dr_⟩
       ·rw [if_neg c7] at H; have c7b0 : decide ((bt a0 x7_1) < 48) = false := decide_eq_false c7; clear c7
        by_cases c8 : (bt a0 x7_1) > 57
        ·rw [if_pos c8] at H; have c8b0 : decide (57 < (bt a0 x7_1)) = true := decide_eq_true c8; clear c8; obtain rfl := Option.some.inj H; have p5 : 0 ≤ (x7_1 : Int) := da_; have q5 : x7_1 < (a0.size : Int) := da_; have hx5 := bt_at a0 x7_1; replace p5 := eq_true p5; replace q5 := eq_true q5; go_wp2
         go_ret
         exact ⟨sv_, dr_⟩
        ·rw [if_neg c8] at H; have c8b0 : decide (57 < (bt a0 x7_1)) = false := decide_eq_false c8; clear c8; have H' := Aside0.mk H; clear H; have p5 : 0 ≤ (x7_1 : Int) := da_; have q5 : x7_1 < (a0.size : Int) := da_; have hx5 := bt_at a0 x7_1; replace p5 := eq_true p5; replace q5 := eq_true q5; go_wp2
         go_roundg k1
         case measure => have := HK1.out; omega
         case rel => exact ⟨(wrap64 (x7_1 + 1)), sv_, H', ⟨by have := HK1.out; omega⟩, dr_⟩
      ·rw [if_neg c6] at H; have c6b0 : decide ((bt a0 x7_1) < 97) = false := decide_eq_false c6; clear c6
       by_cases c9 : (bt a0 x7_1) > 122
       ·rw [if_pos c9] at H; have c9b0 : decide (122 < (bt a0 x7_1)) = true := decide_eq_true c9; clear c9
        by_cases c10 : (bt a0 x7_1) < 48
        ·rw [if_pos c10] at H; have c10b0 : decide ((bt a0 x7_1) < 48) = true := decide_eq_true c10; clear c10; obtain rfl := Option.some.inj H; have p5 : 0 ≤ (x7_1 : Int) := da_; have q5 : x7_1 < (a0.size : Int) := da_; have hx5 := bt_at a0 x7_1; replace p5 := eq_true p5; replace q5 := eq_true q5; go_wp2
         go_ret
         exact ⟨sv_, dr_⟩
        ·rw [if_neg c10] at H; have c10b0 : decide ((bt a0 x7_1) < 48) = false := decide_eq_false c10; clear c10
         by_cases c11 : (bt a0 x7_1) > 57
         ·rw [if_pos c11] at H; have c11b0 : decide (57 < (bt a0 x7_1)) = true := decide_eq_true c11; clear c11; obtain rfl := Option.some.inj H; have p5 : 0 ≤ (x7_1 : Int) := da_; have q5 : x7_1 < (a0.size : Int) := da_; have hx5 := bt_at a0 x7_1; replace p5 := eq_true p5; replace q5 := eq_true q5; go_wp2
          go_ret
          exact ⟨sv_, dr_⟩
         ·rw [if_neg c11] at H; have c11b0 : decide (57 < (bt a0 x7_1)) = false := decide_eq_false c11; clear c11; have H' := Aside0.mk H; clear H; have p5 : 0 ≤ (x7_1 : Int) := da_; have q5 : x7_1 < (a0.size : Int) := da_; have hx5 := bt_at a0 x7_1; replace p5 := eq_true p5; replace q5 := eq_true q5; go_wp2
          go_roundg k1
          case measure => have := HK1.out; omega
          case rel => exact ⟨(wrap64 (x7_1 + 1)), sv_, H', ⟨by have := HK1.out; omega⟩, dr_⟩
       ·rw [if_neg c9] at H; have c9b0 : decide (122 < (bt a0 x7_1)) = false := decide_eq_false c9; clear c9; have H' := Aside0.mk H; clear H; have p5 : 0 ≤ (x7_1 : Int) := da_; have q5 : x7_1 < (a0.size : Int) := da_; have hx5 := bt_at a0 x7_1; replace p5 := eq_true p5; replace q5 := eq_true q5; go_wp2
        go_roundg k1
        case measure => have := HK1.out; omega
        case rel => exact ⟨(wrap64 (x7_1 + 1)), sv_, H', ⟨by have := HK1.out; omega⟩, dr_⟩
     ·rw [if_neg c4] at H; exact absurd H (by simp)
    ·rw [if_neg c3] at H; exact absurd H (by simp)
   ·rw [if_neg c2] at H; have c2b0 : decide (x7_1 < (a0.size : Int)) = false := decide_eq_false c2; clear c2; obtain rfl := Option.some.inj H; go_wp2
    go_ret
    exact ⟨sv_, dr_⟩
def impl_IsName.f (k : Nat) (a0 : ByteArray) : Option (Bool) := if (a0.size : Int) < 1 then (some false) else (if (a0.size : Int) > 10 then (some false) else (if 0 < (a0.size : Int) then (if (bt a0 0) < 97 then (some false) else (if (bt a0 0) > 122 then (some false) else ((impl_onlyNameBytes.f k a0).bind fun t242 => (some t242)))) else (none)))
theorem impl_IsName.calls (k : Nat) (a0 : ByteArray) (r : Bool) (w : World) (h : impl_IsName.f k a0 = some r) :
  Calls Try.prog 113 #[.string a0] w fun e w' => e = .returned (.bool r) ∧ Drawn0 w w' := by
 have H : (if (a0.size : Int) < 1 then (some false) else (if (a0.size : Int) > 10 then (some false) else (if 0 < (a0.size : Int) then (if (bt a0 0) < 97 then (some false) else (if (bt a0 0) > 122 then (some false) else ((impl_onlyNameBytes.f k a0).bind fun t242 => (some t242)))) else (none)))) = some r := h; clear h
 by_cases c2 : (a0.size : Int) < 1
 ·rw [if_pos c2] at H; have c2b0 : decide ((a0.size : Int) < 1) = true := decide_eq_true c2; have c2b1 : decide (a0.size < 1) = true := decide_eq_true (by omega); clear c2; obtain rfl := Option.some.inj H; go_enter Try.func113, Try.ntmps113; go_wp2
  go_ret
  exact ⟨sv_, dr_⟩
 ·rw [if_neg c2] at H; have c2b0 : decide ((a0.size : Int) < 1) = false := decide_eq_false c2; have c2b1 : decide (a0.size < 1) = false := decide_eq_false (by omega); clear c2
  by_cases c3 : (a0.size : Int) > 10
  ·rw [if_pos c3] at H; have c3b0 : decide (10 < (a0.size : Int)) = true := decide_eq_true c3; have c3b1 : decide (10 < a0.size) = true := decide_eq_true (by omega); clear c3; obtain rfl := Option.some.inj H; go_enter Try.func113, Try.ntmps113; go_wp2
   go_ret
   exact ⟨sv_, dr_⟩
  ·rw [if_neg c3] at H; have c3b0 : decide (10 < (a0.size : Int)) = false := decide_eq_false c3; have c3b1 : decide (10 < a0.size) = false := decide_eq_false (by omega); clear c3
   by_cases c4 : 0 < (a0.size : Int)
   ·rw [if_pos c4] at H; have c4b0 : decide (0 < (a0.size : Int)) = true := decide_eq_true c4; have c4b1 : decide (0 < a0.size) = true := decide_eq_true (by omega); clear c4
    by_cases c6 : (bt a0 0) < 97
    ·rw [if_pos c6] at H; have c6b0 : decide ((bt a0 0) < 97) = true := decide_eq_true c6; clear c6; obtain rfl := Option.some.inj H; have p5 : 0 ≤ (0 : Int) := (by omega); have q5 : 0 < a0.size := (by have : (0 : Int) < (a0.size : Int) := da_; omega); have hx5 : ∀ h : 0 < a0.size, ((a0[0]'h).toNat : Int) = bt a0 0 := bt_at a0 0; clear p5; have qi5 : (0 < (a0.size : Int)) = True := eq_true (da_); replace q5 := eq_true q5; go_enter Try.func113, Try.ntmps113; go_wp2
     go_ret
     exact ⟨sv_, dr_⟩
    ·rw [if_neg c6] at H; have c6b0 : decide ((bt a0 0) < 97) = false := decide_eq_false c6; clear c6
     by_cases c8 : (bt a0 0) > 122
     ·rw [if_pos c8] at H; have c8b0 : decide (122 < (bt a0 0)) = true := decide_eq_true c8; clear c8; obtain rfl := Option.some.inj H; have p5 : 0 ≤ (0 : Int) := (by omega); have q5 : 0 < a0.size := (by have : (0 : Int) < (a0.size : Int) := da_; omega); have hx5 : ∀ h : 0 < a0.size, ((a0[0]'h).toNat : Int) = bt a0 0 := bt_at a0 0; clear p5; have qi5 : (0 < (a0.size : Int)) = True := eq_true (da_); replace q5 := eq_true q5; have p7 : 0 ≤ (0 : Int) := (by omega); have q7 : 0 < a0.size := (by have : (0 : Int) < (a0.size : Int) := da_; omega); have hx7 : ∀ h : 0 < a0.size, ((a0[0]'h).toNat : Int) = bt a0 0 := bt_at a0 0; clear p7; have qi7 : (0 < (a0.size : Int)) = True := eq_true (da_); replace q7 := eq_true q7; go_enter Try.func113, Try.ntmps113; go_wp2
      go_ret
      exact ⟨sv_, dr_⟩
     ·rw [if_neg c8] at H; have c8b0 : decide (122 < (bt a0 0)) = false := decide_eq_false c8; clear c8; replace H := Option.bind_eq_some_iff.mp H; obtain ⟨t242, A90, H⟩ := H; (try dsimp only at H); have A9 := Aside0.mk A90; clear A90; obtain rfl := Option.some.inj H; have p5 : 0 ≤ (0 : Int) := (by omega); have q5 : 0 < a0.size := (by have : (0 : Int) < (a0.size : Int) := da_; omega); have hx5 : ∀ h : 0 < a0.size, ((a0[0]'h).toNat : Int) = bt a0 0 := bt_at a0 0; clear p5; have qi5 : (0 < (a0.size : Int)) = True := eq_true (da_); replace q5 := eq_true q5; have p7 : 0 ≤ (0 : Int) := (by omega); have q7 : 0 < a0.size := (by have : (0 : Int) < (a0.size : Int) := da_; omega); have hx7 : ∀ h : 0 < a0.size, ((a0[0]'h).toNat : Int) = bt a0 0 := bt_at a0 0; clear p7; have qi7 : (0 < (a0.size : Int)) = True := eq_true (da_); replace q7 := eq_true q7; go_enter Try.func113, Try.ntmps113; go_wp2_with (first | ((with_reducible refine gate_callee (f := 144) rfl ?_); refine goesL_ (some 22) rfl rfl Try.func144 (by kernel_rfl) rfl #[.string a0] rfl av_ ?_; (with_reducible refine (impl_onlyNameBytes.calls k a0 t242 _ A9.out).mono ?_); rintro e w' ⟨rfl, ⟨nd, rfl⟩⟩; refine ⟨_, rfl, ?_⟩))
      go_ret
      exact ⟨sv_, dr_⟩
   ·rw [if_neg c4] at H; exact absurd H (by simp)
def impl_toneOk.f (a0 : Int) : Option (Bool) := (impl_within.f a0 0 11).bind fun t248 => (some t248)
theorem impl_toneOk.calls (a0 : Int) (r : Bool) (w : World) (h : impl_toneOk.f a0 = some r) :
  Calls Try.prog 115 #[.int .i64 a0] w fun e w' => e = .returned (.bool r) ∧ Drawn0 w w' := by
 have H : ((impl_within.f a0 0 11).bind fun t248 => (some t248)) = some r := h; clear h; replace H := Option.bind_eq_some_iff.mp H; obtain ⟨t248, A20, H⟩ := H; (try dsimp only at H); have A2 := Aside0.mk A20; clear A20; obtain rfl := Option.some.inj H; go_enter Try.func115, Try.ntmps115; go_wp2_with (first | ((with_reducible refine gate_callee (f := 65) rfl ?_); refine goesL_ (some 4) rfl rfl Try.func65 (by kernel_rfl) rfl #[.int .i64 a0, .int .i64 0, .int .i64 11] rfl av_ ?_; (with_reducible refine (impl_within.calls a0 0 11 t248 _ A2.out).mono ?_); rintro e w' ⟨rfl, ⟨nd, rfl⟩⟩; refine ⟨_, rfl, ?_⟩))
 go_ret
 exact ⟨sv_, dr_⟩
def impl_increasing.l0 : Nat → List Int → Int → Option (Bool)
 | 0, _, _ => none
 | k + 1, x0, x3 => if x3 < (x0.length : Int) then (if 0 ≤ x3 then (if 0 ≤ (wrap64 (x3 - 1)) then (if (wrap64 (x3 - 1)) < (x0.length : Int) then (if (rd x0 x3) ≤ (rd x0 (wrap64 (x3 - 1))) then (some false) else (impl_increasing.l0 k x0 (wrap64 (x3 + 1)))) else (none)) else (none)) else (none)) else (some true)
def impl_increasing.f (k : Nat) (l0 : List Int) : Option (Bool) := impl_increasing.l0 k l0 1
theorem impl_increasing.calls (k : Nat) (A0 : Option Addr) (c0 : Nat) (l0 : List Int) (r : Bool) (w : World) (hr0 : Kd.C (Kd.int .i64) w A0 l0.length l0) (hc0 : l0.length ≤ c0) (h : impl_increasing.f k l0 = some r) :
  Calls Try.prog 145 #[.slice A0 l0.length c0] w fun e w' => e = .returned (.bool r) ∧ Drawn0 w w' := by
 have HR0 := Aside0.mk hr0; have HC0 := Aside0.mk hc0; clear hr0 hc0; have H : (impl_increasing.l0 k l0 1) = some r := h; clear h; have H' := Aside0.mk H; clear H; go_enter Try.func145, Try.ntmps145; go_wp2
 repeat (go_quiet (fail); try go_wp2)
 go_loopg [3] k (fun kq v3 w' => ∃ (x3_1 : Int), v3 = .int .i64 x3_1 ∧ Aside0 (impl_increasing.l0 kq l0 x3_1 = some r) ∧ Aside0 (kq ≤ k) ∧ Drawn0 w w')
 case atStart => exact ⟨(1), sv_, H', ⟨Nat.le_refl _⟩, dr_⟩
 case round =>
  clear H'
  try clear c1
  obtain ⟨x3_1, rfl, HA, HK1, ⟨m1, rfl⟩⟩ := hrel
  cases gk with
  | zero => exact absurd HA.out (by simp [impl_increasing.l0])
  | succ k1 =>
   have H := HA.out; clear HA; simp only [impl_increasing.l0] at H
   by_cases c2 : x3_1 < (l0.length : Int)
   ·rw [if_pos c2] at H; have c2b0 : decide (x3_1 < (l0.length : Int)) = true := decide_eq_true c2; clear c2
    by_cases c3 : 0 ≤ x3_1
    ·rw [if_pos c3] at H; have c3b0 : decide (0 ≤ x3_1) = true := decide_eq_true c3; clear c3; obtain ⟨ji4, hji4⟩ : ∃ j_ : Int, (wrap64 (x3_1 - 1)) = j_ := ⟨_, rfl⟩
     replace H : (if 0 ≤ (ji4) then (if (ji4) < (l0.length : Int) then (if (rd l0 x3_1) ≤ (rd l0 (ji4)) then (some false) else (impl_increasing.l0 k1 l0 (wrap64 (x3_1 + 1)))) else (none)) else (none)) = some r := by first | (rw [hji4] at H; exact H) | (simp only [hji4] at H ⊢; exact H)
     have hji4w : (IntKind.i64.wrap (x3_1 - 1)) = ji4 := (i64_w _).trans hji4
     by_cases c5 : 0 ≤ (ji4)
     ·rw [if_pos c5] at H; have c5b0 : decide (0 ≤ (ji4)) = true := decide_eq_true c5; clear c5
      by_cases c6 : (ji4) < (l0.length : Int)
      ·rw [if_pos c6] at H; have c6b0 : decide ((ji4) < (l0.length : Int)) = true := decide_eq_true c6; clear c6
       by_cases c7 : (rd l0 x3_1) ≤ (rd l0 (ji4))
       ·rw [if_pos c7] at H; have c7b0 : decide ((rd l0 x3_1) ≤ (rd l0 (ji4))) = true := decide_eq_true c7; clear c7; obtain rfl := Option.some.inj H; have p243 : 0 ≤ (x3_1 : Int) := da_; have q243 : x3_1 < (l0.length : Int) := da_; obtain ⟨ad243, e243, hx243_0⟩ := Kd.at_int HR0.out x3_1 p243 q243; cases e243; replace p243 := eq_true p243; replace q243 := eq_true q243; have p244 : 0 ≤ ((ji4) : Int) := da_; have q244 : (ji4) < (l0.length : Int) := da_; obtain ⟨ad244, e244, hx244_0⟩ := Kd.at_int HR0.out (ji4) p244 q244; obtain rfl : ad243 = ad244 := (by injection e244); replace p244 := eq_true p244; replace q244 := eq_true q244; go_wp2
        repeat (go_quiet (fail); try go_wp2)
        go_ret
        exact ⟨by first | rfl | (simp; done) | (simp only [← hji4] <;> (first | rfl | simp)) | (simp [*]; done), dr_⟩
       ·rw [if_neg c7] at H; have c7b0 : decide ((rd l0 x3_1) ≤ (rd l0 (ji4))) = false := decide_eq_false c7; clear c7; have H' := Aside0.mk H; clear H; have p243 : 0 ≤ (x3_1 : Int) := da_; have q243 : x3_1 < (l0.length : Int) := da_; obtain ⟨ad243, e243, hx243_0⟩ := Kd.at_int HR0.out x3_1 p243 q243; cases e243; replace p243 := eq_true p243; replace q243 := eq_true q243; have p244 : 0 ≤ ((ji4) : Int) := da_; have q244 : (ji4) < (l0.length : Int) := da_; obtain ⟨ad244, e244, hx244_0⟩ := Kd.at_int HR0.out (ji4) p244 q244; obtain rfl : ad243 = ad244 := (by injection e244); replace p244 := eq_true p244; replace q244 := eq_true q244; go_wp2
        repeat (go_quiet (fail); try go_wp2)
        go_roundg k1
        case measure => have := HK1.out; omega
        case rel => exact ⟨(wrap64 (x3_1 + 1)), sv_, H', ⟨by have := HK1.out; omega⟩, dr_⟩
      ·rw [if_neg c6] at H; exact absurd H (by simp)
     ·rw [if_neg c5] at H; exact absurd H (by simp)
    ·rw [if_neg c3] at H; exact absurd H (by simp)
   ·rw [if_neg c2] at H; have c2b0 : decide (x3_1 < (l0.length : Int)) = false := decide_eq_false c2; clear c2; obtain rfl := Option.some.inj H; go_wp2
    repeat (go_quiet (fail); try go_wp2)
    go_ret
    exact ⟨sv_, dr_⟩
end Go.Proofs.Ytinlejhffokbaaa.P
end
