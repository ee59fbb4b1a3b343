/- The pure statement of FnExactCountProgrammes. No condition. -/
import Derived.Test.YtgdiabfmjcejdaaGCP1
import Derived.Test.YtgdiabfmjcejdaaGCP2
import Derived.Test.YtgdiabfmjcejdaaGCP5
import Derived.Test.YtgdiabfmjcejdaaGCP6
import Derived.Test.YtgdiabfmjcejdaaGCP8
import Derived.Test.YtgdiabfmjcejdaaGCP9
section
namespace Go.Proofs.Ytgdiabfmjcejdaa.P
open Go.RowKit Go.Proofs.YtgdiabfmjcejdaaW.PrintWords Go.Proofs.YtgdiabfmjcejdaaW.PrintLast Go.Proofs.YtgdiabfmjcejdaaW.PrintMore
attribute [local go_sem] max2_int min2_int max_two min_two max_three min_three max_four min_four   -- for this text's walks alone
set_option linter.unusedVariables false
set_option linter.unusedSimpArgs false

/-! ### laws_FnExactCountProgrammes: function 6 -/
def laws_FnExactCountProgrammes.j0 : Nat → List (S69) → List (S75) → Bool → Option (Bool)
 | 0, _, _, _ => none
 | k + 1, x0, x14, x50 => if x50 = true then (some false) else ((laws_toItemS.f k x0).bind fun t379 => ((laws_eqItemS.f k x14 t379).bind fun t382 => (if t382 = true then (some true) else (some false))))
def laws_FnExactCountProgrammes.f (k : Nat) (l0 : List (S69)) (a1 : Int) (a2 : Int) (a3 : Int) (a4 : Int) : Option (Bool) := (laws_szItemS.f k l0 1048576).bind fun t368 => (if t368 < 0 then (some true) else ((laws_toItemS.f k l0).bind fun t369 => ((spec_CountProgrammes.f k t369 a1 a2 a3 a4).bind fun bt372 => ((laws_toItemS.f k l0).bind fun t374 => ((impl_CountProgrammes.f k t374 a1 a2 a3 a4).bind fun bt377 => (if bt377.1 = bt372.1 then (laws_FnExactCountProgrammes.j0 k l0 t374 (bt377.2 != bt372.2)) else (laws_FnExactCountProgrammes.j0 k l0 t374 true)))))))
set_option maxHeartbeats 8000000 in
set_option maxRecDepth 100000 in
theorem laws_FnExactCountProgrammes.calls (k : Nat) (A0 : Option Addr) (c0 : Nat) (l0 : List (S69)) (a1 : Int) (a2 : Int) (a3 : Int) (a4 : Int) (r : Bool) (w : World) (hr0 : Kd.C k69 w A0 l0.length l0) (hc0 : l0.length ≤ c0) (hT : r = true) (h : laws_FnExactCountProgrammes.f k l0 a1 a2 a3 a4 = some r) :
  Calls Try.prog 6 #[.slice A0 l0.length c0, .int .i64 a1, .int .i64 a2, .int .i64 a3, .int .i64 a4] w fun e w' => e = .returned (.bool r) ∧ Below w.heap.size w w' := by
 have HR0 := Aside0.mk hr0
 have HC0 := Aside0.mk hc0
 clear hr0 hc0
 have HT := Aside0.mk hT
 clear hT
 have HB := Aside0.mk (Below.refl w.heap.size w)
 have H : ((laws_szItemS.f k l0 1048576).bind fun t368 => (if t368 < 0 then (some true) else ((laws_toItemS.f k l0).bind fun t369 => ((spec_CountProgrammes.f k t369 a1 a2 a3 a4).bind fun bt372 => ((laws_toItemS.f k l0).bind fun t374 => ((impl_CountProgrammes.f k t374 a1 a2 a3 a4).bind fun bt377 => (if bt377.1 = bt372.1 then (laws_FnExactCountProgrammes.j0 k l0 t374 (bt377.2 != bt372.2)) else (laws_FnExactCountProgrammes.j0 k l0 t374 true)))))))) = some r := h
 clear h
 replace H := Option.bind_eq_some_iff.mp H
 obtain ⟨t368, A60, H⟩ := H
 replace H : (if t368 < 0 then (some true) else ((laws_toItemS.f k l0).bind fun t369 => ((spec_CountProgrammes.f k t369 a1 a2 a3 a4).bind fun bt372 => ((laws_toItemS.f k l0).bind fun t374 => ((impl_CountProgrammes.f k t374 a1 a2 a3 a4).bind fun bt377 => (if bt377.1 = bt372.1 then (laws_FnExactCountProgrammes.j0 k l0 t374 (bt377.2 != bt372.2)) else (laws_FnExactCountProgrammes.j0 k l0 t374 true))))))) = some r := H
 have A6 := Aside0.mk A60
 clear A60
 by_cases c7 : t368 < 0
 ·rw [if_pos c7] at H
  have c7b0 : decide (t368 < 0) = true := decide_eq_true c7
  clear c7
  obtain rfl := Option.some.inj H
  go_enter Try.func6, Try.ntmps6
  go_wp2_with (first | ((with_reducible refine gate_callee (f := 23) rfl ?_); refine goesL_ (some 19) rfl rfl Try.func23 (by kernel_rfl) rfl #[.slice A0 l0.length c0, .int .i64 1048576] rfl (by first | rfl | (simp only [List.map_toArray, List.map_cons, List.map_nil]; done) | (simp only [List.map_toArray, List.map_cons, List.map_nil]; rfl)) ?_; (with_reducible refine (laws_szItemS.calls k _ _ l0 1048576 t368 _ ?side1 ?side2 A6.out).mono ?_); (case side1 => repeat first | exact HR0.out | refine Kd.C_alloc ?_ _ | refine Kd.C_drewN ?_ _ | refine Kd.C_drew ?_); (case side2 => exact HC0.out); rintro e w8 ⟨rfl, hb⟩; refine ⟨_, rfl, ?_⟩; have n0_ := Aside0.mk (below_step (by repeat (first | exact HB.out | apply below_alloc)) hb); clear HB; have HB := n0_; clear n0_; (try clear hb); (try clear hb2); (try clear hk); (try clear hi)))
  go_ret
  exact ⟨by first | rfl | (simp [errW_none, errW_some] <;> rfl) | (simp [*, errW_none, errW_some] <;> rfl), by repeat (first | (with_reducible first | exact HB.out | apply below_alloc | apply pw_below_drewN | apply below_drew1) | exact HB.out)⟩
 ·rw [if_neg c7] at H
  have c7b0 : decide (t368 < 0) = false := decide_eq_false c7
  clear c7
  replace H := Option.bind_eq_some_iff.mp H
  obtain ⟨t369, A90, H⟩ := H
  replace H : ((spec_CountProgrammes.f k t369 a1 a2 a3 a4).bind fun bt372 => ((laws_toItemS.f k l0).bind fun t374 => ((impl_CountProgrammes.f k t374 a1 a2 a3 a4).bind fun bt377 => (if bt377.1 = bt372.1 then (laws_FnExactCountProgrammes.j0 k l0 t374 (bt377.2 != bt372.2)) else (laws_FnExactCountProgrammes.j0 k l0 t374 true))))) = some r := H
  have A9 := Aside0.mk A90
  clear A90
  replace H := Option.bind_eq_some_iff.mp H
  obtain ⟨⟨t372, t373⟩, A100, H⟩ := H
  replace H : ((laws_toItemS.f k l0).bind fun t374 => ((impl_CountProgrammes.f k t374 a1 a2 a3 a4).bind fun bt377 => (if bt377.1 = t372 then (laws_FnExactCountProgrammes.j0 k l0 t374 (bt377.2 != t373)) else (laws_FnExactCountProgrammes.j0 k l0 t374 true)))) = some r := H
  have A10 := Aside0.mk A100
  clear A100
  replace H := Option.bind_eq_some_iff.mp H
  obtain ⟨t374, A110, H⟩ := H
  replace H : ((impl_CountProgrammes.f k t374 a1 a2 a3 a4).bind fun bt377 => (if bt377.1 = t372 then (laws_FnExactCountProgrammes.j0 k l0 t374 (bt377.2 != t373)) else (laws_FnExactCountProgrammes.j0 k l0 t374 true))) = some r := H
  have A11 := Aside0.mk A110
  clear A110
  replace H := Option.bind_eq_some_iff.mp H
  obtain ⟨⟨t377, t378⟩, A120, H⟩ := H
  replace H : (if t377 = t372 then (laws_FnExactCountProgrammes.j0 k l0 t374 (t378 != t373)) else (laws_FnExactCountProgrammes.j0 k l0 t374 true)) = some r := H
  have A12 := Aside0.mk A120
  clear A120
  have HC13 := Aside0.mk H
  clear H
  go_enter Try.func6, Try.ntmps6
  go_upto_region 8 with (first | ((with_reducible refine gate_callee (f := 23) rfl ?_); refine goesL_ (some 19) rfl rfl Try.func23 (by kernel_rfl) rfl #[.slice A0 l0.length c0, .int .i64 1048576] rfl (by first | rfl | (simp only [List.map_toArray, List.map_cons, List.map_nil]; done) | (simp only [List.map_toArray, List.map_cons, List.map_nil]; rfl)) ?_; (with_reducible refine (laws_szItemS.calls k _ _ l0 1048576 t368 _ ?side1 ?side2 A6.out).mono ?_); (case side1 => repeat first | exact HR0.out | refine Kd.C_alloc ?_ _ | refine Kd.C_drewN ?_ _ | refine Kd.C_drew ?_); (case side2 => exact HC0.out); rintro e w14 ⟨rfl, hb⟩; refine ⟨_, rfl, ?_⟩; have n0_ := Aside0.mk (below_step (by repeat (first | exact HB.out | apply below_alloc)) hb); clear HB; have HB := n0_; clear n0_; (try clear hb); (try clear hb2); (try clear hk); (try clear hi)) | ((with_reducible refine gate_callee (f := 25) rfl ?_); refine goesL_ (some 24) rfl rfl Try.func25 (by kernel_rfl) rfl #[.slice A0 l0.length c0] rfl (by first | rfl | (simp only [List.map_toArray, List.map_cons, List.map_nil]; done) | (simp only [List.map_toArray, List.map_cons, List.map_nil]; rfl)) ?_; (with_reducible refine (laws_toItemS.calls k _ _ l0 t369 _ ?side1 ?side2 A9.out).mono ?_); (case side1 => exact (Kd.C_below HR0.out HB.out)); (case side2 => exact HC0.out); rintro e w15 ⟨v370, rfl, ho0, hb⟩; refine ⟨_, rfl, ?_⟩; have n0_ := Aside0.mk (Kd.R_lower ho0 (below_size (by repeat (first | exact HB.out | apply below_alloc)))); have n1_ := Aside0.mk (below_step (by repeat (first | exact HB.out | apply below_alloc)) hb); clear HB; have HO371 := n0_; have HB := n1_; clear n0_ n1_; (try clear hb); (try clear hb2); (try clear hk); (try clear hi); (try clear ho0); obtain ⟨Ao16, co16, eo16⟩ := Kd.R_slice HO371.out; subst eo16) | ((with_reducible refine gate_callee (f := 24) rfl ?_); refine goesL_ (some 29) rfl rfl Try.func24 (by kernel_rfl) rfl #[.slice Ao16 t369.length co16, .int .i64 a1, .int .i64 a2, .int .i64 a3, .int .i64 a4] rfl (by first | rfl | (simp only [List.map_toArray, List.map_cons, List.map_nil]; done) | (simp only [List.map_toArray, List.map_cons, List.map_nil]; rfl)) ?_; (with_reducible refine (spec_CountProgrammes.calls k _ _ t369 a1 a2 a3 a4 t372 t373 _ ?side1 ?side2 A10.out).mono ?_); (case side1 => repeat (first | exact (Kd.R_reads' HO371.out).2.2 | (with_reducible refine Kd.C_alloc ?_ _) | (with_reducible refine Kd.C_drewN ?_ _) | (with_reducible refine Kd.C_drew ?_))); (case side2 => exact (Kd.R_reads' HO371.out).2.1); rintro e w17 ⟨rfl, hb⟩; refine ⟨_, rfl, ?_⟩; have n0_ := Aside0.mk (Kd.R_below (by (with_reducible repeat (first | apply Kd.R_alloc | apply Kd.R_drewN | apply Kd.R_drew)); exact HO371.out) hb); have n1_ := Aside0.mk (below_step (by repeat (first | exact HB.out | apply below_alloc)) hb); clear HO371; clear HB; have HO371 := n0_; have HB := n1_; clear n0_ n1_; (try clear hb); (try clear hb2); (try clear hk); (try clear hi)) | ((with_reducible refine gate_callee (f := 25) rfl ?_); refine goesL_ (some 33) rfl rfl Try.func25 (by kernel_rfl) rfl #[.slice A0 l0.length c0] rfl (by first | rfl | (simp only [List.map_toArray, List.map_cons, List.map_nil]; done) | (simp only [List.map_toArray, List.map_cons, List.map_nil]; rfl)) ?_; (with_reducible refine (laws_toItemS.calls k _ _ l0 t374 _ ?side1 ?side2 A11.out).mono ?_); (case side1 => exact (Kd.C_below HR0.out HB.out)); (case side2 => exact HC0.out); rintro e w18 ⟨v375, rfl, ho0, hb⟩; refine ⟨_, rfl, ?_⟩; have n0_ := Aside0.mk (Kd.R_elder' (by (with_reducible repeat (first | apply Kd.R_alloc | apply Kd.R_drewN | apply Kd.R_drew)); exact HO371.out) (Kd.R_base ho0) hb); have n1_ := Aside0.mk (Kd.R_lower (Kd.R_new' ho0 (Kd.R_lt (by (with_reducible repeat (first | apply Kd.R_alloc | apply Kd.R_drewN | apply Kd.R_drew)); exact HO371.out))) (below_size (by repeat (first | exact HB.out | apply below_alloc)))); have n2_ := Aside0.mk (below_step (by repeat (first | exact HB.out | apply below_alloc)) hb); clear HO371; clear HB; have HO371 := n0_; have HO376 := n1_; have HB := n2_; clear n0_ n1_ n2_; (try clear hb); (try clear hb2); (try clear hk); (try clear hi); (try clear ho0); obtain ⟨Ao19, co19, eo19⟩ := Kd.R_slice HO376.out; subst eo19) | ((with_reducible refine gate_callee (f := 26) rfl ?_); refine goesL_ (some 40) rfl rfl Try.func26 (by kernel_rfl) rfl #[.slice Ao19 t374.length co19, .int .i64 a1, .int .i64 a2, .int .i64 a3, .int .i64 a4] rfl (by first | rfl | (simp only [List.map_toArray, List.map_cons, List.map_nil]; done) | (simp only [List.map_toArray, List.map_cons, List.map_nil]; rfl)) ?_; (with_reducible refine (impl_CountProgrammes.calls k _ _ t374 a1 a2 a3 a4 t377 t378 _ ?side1 ?side2 A12.out).mono ?_); (case side1 => repeat (first | exact (Kd.R_reads' HO376.out).2.2 | (with_reducible refine Kd.C_alloc ?_ _) | (with_reducible refine Kd.C_drewN ?_ _) | (with_reducible refine Kd.C_drew ?_))); (case side2 => exact (Kd.R_reads' HO376.out).2.1); rintro e w20 ⟨rfl, hb⟩; refine ⟨_, rfl, ?_⟩; have n0_ := Aside0.mk (Kd.R_below (by (with_reducible repeat (first | apply Kd.R_alloc | apply Kd.R_drewN | apply Kd.R_drew)); exact HO371.out) hb); have n1_ := Aside0.mk (Kd.R_below (by (with_reducible repeat (first | apply Kd.R_alloc | apply Kd.R_drewN | apply Kd.R_drew)); exact HO376.out) hb); have n2_ := Aside0.mk (below_step (by repeat (first | exact HB.out | apply below_alloc)) hb); clear HO371; clear HO376; clear HB; have HO371 := n0_; have HO376 := n1_; have HB := n2_; clear n0_ n1_ n2_; (try clear hb); (try clear hb2); (try clear hk); (try clear hi)))
  (try simp only [Act.put, List.setIfInBounds_toArray, List.set_cons_zero, List.set_cons_succ])
  go_cut [50] (fun v50 wc => ∃ (kq : Nat) (x50_12 : Bool), v50 = .bool x50_12 ∧ Aside0 (laws_FnExactCountProgrammes.j0 kq l0 t374 x50_12 = some r) ∧ Aside0 (kq ≤ k) ∧ Aside0 (Kd.R k75 75 wc w.heap.size (fun _ => True) (.slice Ao19 t374.length co19) t374) ∧ Aside0 (Below w.heap.size w wc))
  case first =>
   have H := HC13.out
   clear HC13
   by_cases c21 : t377 = t372
   ·rw [if_pos c21] at H
    have c21b0 : (t377 == t372) = true := beq_iff_eq.mpr c21
    have c21b1 : (t377 != t372) = false := bne_eq_false_iff_eq.mpr c21
    clear c21
    (first | rw [c21b0] | (simp only [i64_w, i32_w]; rw [c21b0]) | skip)
    have H' := Aside0.mk H
    clear H
    go_wp2
    go_meet
    case rel => exact ⟨_, ((t378 != t373)), (by first | rfl | (simp; done) | (simp [*]; done)), H', ⟨by first | omega | exact Nat.le_refl _⟩, ⟨by (with_reducible repeat (first | apply Kd.R_alloc | apply Kd.R_drewN | apply Kd.R_drew)); exact Kd.R_mono HO376.out (fun _ hk => trivial)⟩, ⟨by repeat (first | (with_reducible first | exact HB.out | apply below_alloc | apply pw_below_drewN | apply below_drew1) | exact HB.out)⟩⟩
   ·rw [if_neg c21] at H
    have c21b0 : (t377 == t372) = false := beq_eq_false_iff_ne.mpr c21
    have c21b1 : (t377 != t372) = true := bne_iff_ne.mpr c21
    (first | rw [c21b0] | (simp only [i64_w, i32_w]; rw [c21b0]) | skip)
    have H' := Aside0.mk H
    clear H
    go_wp2
    go_meet
    case rel => exact ⟨_, (true), (by first | rfl | (simp; done) | (simp [*]; done)), H', ⟨by first | omega | exact Nat.le_refl _⟩, ⟨by (with_reducible repeat (first | apply Kd.R_alloc | apply Kd.R_drewN | apply Kd.R_drew)); exact Kd.R_mono HO376.out (fun _ hk => trivial)⟩, ⟨by repeat (first | (with_reducible first | exact HB.out | apply below_alloc | apply pw_below_drewN | apply below_drew1) | exact HB.out)⟩⟩
  case rest =>
   clear HC13
   try clear c2
   try clear p2
   try clear c6
   try clear c7
   try clear c7b0
   try clear c21
   try clear c21b0
   try clear c21b1
   obtain ⟨kq, x50_12, rfl, HA, HJ12, HO_14, HB⟩ := hcut
   cases kq with
   | zero => exact absurd HA.out (by simp [laws_FnExactCountProgrammes.j0])
   | succ kj12 =>
    have H := HA.out
    clear HA
    simp only [laws_FnExactCountProgrammes.j0] at H
    by_cases c22 : x50_12 = true
    ·subst c22
     have H1 : (some false) = some r := by rw [if_pos rfl] at H; exact H
     clear H
     have H := H1
     clear H1
     exact absurd ((Option.some.inj H).trans HT.out) (by decide)
    ·replace c22 := Bool.eq_false_iff.mpr c22
     subst c22
     have H1 : ((laws_toItemS.f kj12 l0).bind fun t379 => ((laws_eqItemS.f kj12 t374 t379).bind fun t382 => (if t382 = true then (some true) else (some false)))) = some r := by rw [if_neg (show ¬ (false = true) by decide)] at H; exact H
     clear H
     have H := H1
     clear H1
     replace H := Option.bind_eq_some_iff.mp H
     obtain ⟨t379, A230, H⟩ := H
     replace H : ((laws_eqItemS.f kj12 t374 t379).bind fun t382 => (if t382 = true then (some true) else (some false))) = some r := H
     have A23 := Aside0.mk A230
     clear A230
     replace H := Option.bind_eq_some_iff.mp H
     obtain ⟨t382, A240, H⟩ := H
     replace H : (if t382 = true then (some true) else (some false)) = some r := H
     have A24 := Aside0.mk A240
     clear A240
     by_cases c25 : t382 = true
     ·subst c25
      have H1 : (some true) = some r := by rw [if_pos rfl] at H; exact H
      clear H
      have H := H1
      clear H1
      obtain rfl := Option.some.inj H
      go_wp2_with (first | ((with_reducible refine gate_callee (f := 25) rfl ?_); refine goesL_ (some 53) rfl rfl Try.func25 (by kernel_rfl) rfl #[.slice A0 l0.length c0] rfl (by first | rfl | (simp only [List.map_toArray, List.map_cons, List.map_nil]; done) | (simp only [List.map_toArray, List.map_cons, List.map_nil]; rfl)) ?_; (with_reducible refine (laws_toItemS.calls kj12 _ _ l0 t379 _ ?side1 ?side2 A23.out).mono ?_); (case side1 => exact (Kd.C_below HR0.out HB.out)); (case side2 => exact HC0.out); rintro e w26 ⟨v380, rfl, ho0, hb⟩; refine ⟨_, rfl, ?_⟩; have n0_ := Aside0.mk (Kd.R_elder' (by (with_reducible repeat (first | apply Kd.R_alloc | apply Kd.R_drewN | apply Kd.R_drew)); exact HO_14.out) (Kd.R_base ho0) hb); have n1_ := Aside0.mk (Kd.R_lower (Kd.R_new' ho0 (Kd.R_lt (by (with_reducible repeat (first | apply Kd.R_alloc | apply Kd.R_drewN | apply Kd.R_drew)); exact HO_14.out))) (below_size (by repeat (first | exact HB.out | apply below_alloc)))); have n2_ := Aside0.mk (below_step (by repeat (first | exact HB.out | apply below_alloc)) hb); clear HO_14; clear HB; have HO_14 := n0_; have HO381 := n1_; have HB := n2_; clear n0_ n1_ n2_; (try clear hb); (try clear hb2); (try clear hk); (try clear hi); (try clear ho0); obtain ⟨Ao27, co27, eo27⟩ := Kd.R_slice HO381.out; subst eo27) | ((with_reducible refine gate_callee (f := 27) rfl ?_); refine goesL_ (some 54) rfl rfl Try.func27 (by kernel_rfl) rfl #[.slice Ao19 t374.length co19, .slice Ao27 t379.length co27] rfl (by first | rfl | (simp only [List.map_toArray, List.map_cons, List.map_nil]; done) | (simp only [List.map_toArray, List.map_cons, List.map_nil]; rfl)) ?_; (with_reducible refine (laws_eqItemS.calls kj12 _ _ t374 _ _ t379 true _ ?side1 ?side2 ?side3 ?side4 A24.out).mono ?_); (case side1 => repeat (first | exact (Kd.R_reads' HO_14.out).2.2 | (with_reducible refine Kd.C_alloc ?_ _) | (with_reducible refine Kd.C_drewN ?_ _) | (with_reducible refine Kd.C_drew ?_))); (case side2 => exact (Kd.R_reads' HO_14.out).2.1); (case side3 => repeat (first | exact (Kd.R_reads' HO381.out).2.2 | (with_reducible refine Kd.C_alloc ?_ _) | (with_reducible refine Kd.C_drewN ?_ _) | (with_reducible refine Kd.C_drew ?_))); (case side4 => exact (Kd.R_reads' HO381.out).2.1); rintro e w28 ⟨rfl, hb⟩; refine ⟨_, rfl, ?_⟩; have n0_ := Aside0.mk (Kd.R_below (by (with_reducible repeat (first | apply Kd.R_alloc | apply Kd.R_drewN | apply Kd.R_drew)); exact HO_14.out) hb); have n1_ := Aside0.mk (Kd.R_below (by (with_reducible repeat (first | apply Kd.R_alloc | apply Kd.R_drewN | apply Kd.R_drew)); exact HO381.out) hb); have n2_ := Aside0.mk (below_step (by repeat (first | exact HB.out | apply below_alloc)) hb); clear HO_14; clear HO381; clear HB; have HO_14 := n0_; have HO381 := n1_; have HB := n2_; clear n0_ n1_ n2_; (try clear hb); (try clear hb2); (try clear hk); (try clear hi)))
      go_ret
      exact ⟨by first | rfl | (simp [errW_none, errW_some] <;> rfl) | (simp [*, errW_none, errW_some] <;> rfl), by repeat (first | (with_reducible first | exact HB.out | apply below_alloc | apply pw_below_drewN | apply below_drew1) | exact HB.out)⟩
     ·replace c25 := Bool.eq_false_iff.mpr c25
      subst c25
      have H1 : (some false) = some r := by rw [if_neg (show ¬ (false = true) by decide)] at H; exact H
      clear H
      have H := H1
      clear H1
      exact absurd ((Option.some.inj H).trans HT.out) (by decide)

/-- THE ONE PURE STATEMENT of laws_FnExactCountProgrammes. -/
def laws_FnExactCountProgrammes.Pure : Prop := ∀ (l0 : List (S69)) (a1 : Int) (a2 : Int) (a3 : Int) (a4 : Int), (l0.length ≤ maxLen ∧ ∀ y0 ∈ l0, (y0.f0.size ≤ maxLen ∧ (Lit.int .i64 y0.f1).wf = true ∧ (Lit.int .i64 y0.f2).wf = true ∧ (Lit.int .i64 y0.f3).wf = true ∧ (Lit.int .i64 y0.f4).wf = true ∧ (Lit.int .i64 y0.f5).wf = true)) → (Lit.int .i64 a1).wf = true → (Lit.int .i64 a2).wf = true → (Lit.int .i64 a3).wf = true → (Lit.int .i64 a4).wf = true → ∃ k, laws_FnExactCountProgrammes.f k l0 a1 a2 a3 a4 = some true
theorem laws_FnExactCountProgrammes.walk (P : laws_FnExactCountProgrammes.Pure) (A0 : Option Addr) (c0 : Nat) (l0 : List (S69)) (a1 : Int) (a2 : Int) (a3 : Int) (a4 : Int) (w : World) (hr0 : Kd.C k69 w A0 l0.length l0) (hc0 : l0.length ≤ c0) (w0 : (l0.length ≤ maxLen ∧ ∀ y0 ∈ l0, (y0.f0.size ≤ maxLen ∧ (Lit.int .i64 y0.f1).wf = true ∧ (Lit.int .i64 y0.f2).wf = true ∧ (Lit.int .i64 y0.f3).wf = true ∧ (Lit.int .i64 y0.f4).wf = true ∧ (Lit.int .i64 y0.f5).wf = true))) (w1 : (Lit.int .i64 a1).wf = true) (w2 : (Lit.int .i64 a2).wf = true) (w3 : (Lit.int .i64 a3).wf = true) (w4 : (Lit.int .i64 a4).wf = true) :
  Calls Try.prog 6 #[.slice A0 l0.length c0, .int .i64 a1, .int .i64 a2, .int .i64 a3, .int .i64 a4] w fun e w' => e = .returned (.bool true) ∧ Below w.heap.size w w' := by
 obtain ⟨k, h⟩ := P l0 a1 a2 a3 a4 w0 w1 w2 w3 w4
 refine (laws_FnExactCountProgrammes.calls k _ _ l0 a1 a2 a3 a4 true w hr0 hc0 rfl h).mono ?_
 rintro e w' ⟨rfl, hd⟩
 exact ⟨rfl, hd⟩

end Go.Proofs.Ytgdiabfmjcejdaa.P
end

section
namespace Go.Proofs.Ytgdiabfmjcejdaa.Pure
open Go.RowKit Go.Proofs.Ytgdiabfmjcejdaa.P Go.Proofs.YtgdiabfmjcejdaaW.PrintWords Go.Proofs.YtgdiabfmjcejdaaW.PrintLast Go.Proofs.YtgdiabfmjcejdaaW.PrintMore
set_option linter.unusedVariables false
set_option linter.unusedSimpArgs false

theorem bothProgrammes (L : List S75) (m un se bud : Int) (hl : L.length ≤ 1048576) : ∃ (r c : Int), Ev (fun k => spec_CountProgrammes.f k L m un se bud) (r, c) ∧ Ev (fun k => impl_CountProgrammes.f k L m un se bud) (r, c) := by
  suffices hs : ∃ (co b cd : Int), Ev (fun k => spec_l08All.f k L m un se bud) (co, cd) ∧ Ev (fun k => impl_programmes.f k L m un se bud) (b, cd) ∧ (cd = 0 → co = wrap64 (wrap64 (bud - b) + 1)) by
    obtain ⟨co, b, cd, h1, h2, h3⟩ := hs
    unfold spec_CountProgrammes.f impl_CountProgrammes.f
    by_cases c : cd = 0
    · exact ⟨co, 0, Ev.bind h1 (Ev.ite_pos c (Ev.now _)), Ev.bind h2 (Ev.ite_pos c (Ev.cast (Ev.now _) (by rw [h3 c])))⟩
    · exact ⟨0, cd, Ev.bind h1 (Ev.ite_neg c (Ev.now _)), Ev.bind h2 (Ev.ite_neg c (Ev.now _))⟩
  have e1 := spec_l08Ok_ev L hl
  have e2 := impl_ValidItems_ev L hl
  unfold spec_l08All.f impl_programmes.f spec_l08Minute.f spec_l08Season.f spec_l08Until.f impl_minuteOk.f impl_seasonOk.f impl_budgetValid.f
  simp only [l00In_inR, within_inR, Option.bind_some]
  cases v : itemsB L with
  | false => exact ⟨0, 0, 1, Ev.bind e1 (Ev.ite_neg (by rw [v]; decide) (Ev.now _)), Ev.bind e2 (Ev.ite_neg (by rw [v]; decide) (Ev.now _)), fun h => absurd h (by decide)⟩
  | true =>
  cases hm : inR m 0 1439 with
  | false => exact ⟨0, 0, 2, Ev.bind e1 (Ev.ite_pos v (Ev.ite_neg (by decide) (Ev.now _))), Ev.bind e2 (Ev.ite_pos v (Ev.ite_neg (by decide) (Ev.now _))), fun h => absurd h (by decide)⟩
  | true =>
  cases hs : inR se 0 5 with
  | false => exact ⟨0, 0, 2, Ev.bind e1 (Ev.ite_pos v (Ev.ite_pos rfl (Ev.ite_neg (by decide) (Ev.now _)))), Ev.bind e2 (Ev.ite_pos v (Ev.ite_pos rfl (Ev.ite_neg (by decide) (Ev.now _)))), fun h => absurd h (by decide)⟩
  | true =>
  cases hu : inR un m (wrap64 (m + 1440)) with
  | false => exact ⟨0, 0, 2, Ev.bind e1 (Ev.ite_pos v (Ev.ite_pos rfl (Ev.ite_pos rfl (Ev.ite_neg (by decide) (Ev.now _))))), Ev.bind e2 (Ev.ite_pos v (Ev.ite_pos rfl (Ev.ite_pos rfl (Ev.ite_neg (by decide) (Ev.now _))))), fun h => absurd h (by decide)⟩
  | true =>
  cases hb : inR bud 1 20000 with
  | false => exact ⟨0, 0, 2, Ev.bind e1 (Ev.ite_pos v (Ev.ite_pos rfl (Ev.ite_pos rfl (Ev.ite_pos rfl (Ev.ite_neg (by decide) (Ev.now _)))))), Ev.bind e2 (Ev.ite_pos v (Ev.ite_pos rfl (Ev.ite_pos rfl (Ev.ite_pos rfl (Ev.ite_neg (by decide) (Ev.now _)))))), fun h => absurd h (by decide)⟩
  | true =>
  simp only [inR, Bool.and_eq_true, decide_eq_true_eq] at hm hb hu
  rw [w64 (x := m + 1440) (by omega) (by omega)] at hu
  have ho := ItOk.of v
  have s := spec_run_ev L un se bud ho (by omega) (by omega) ((un - m).toNat + 1) m [] 0 (by omega) (by omega) (by omega) (by simp; omega) (by omega) (by omega)
  have i := impl_visit8_ev L un se bud ho (by omega) (by omega) ((un - m).toNat + 1) m [] 0 (by omega) (by omega) (by omega) (by simp; omega) (by omega) (by omega)
  have hin := visP_in L un se bud ((un - m).toNat + 1) m [] 0 (by omega)
  rw [Int.sub_zero] at i
  cases g : visP L un se bud ((un - m).toNat + 1) m [] 0 with
  | none =>
    rw [g] at s i
    exact ⟨bud + 1, 0, 5, Ev.bind e1 (Ev.ite_pos v (Ev.ite_pos rfl (Ev.ite_pos rfl (Ev.ite_pos rfl (Ev.ite_pos rfl (Ev.bind s (Ev.ite_pos rfl (Ev.now _)))))))), Ev.bind e2 (Ev.ite_pos v (Ev.ite_pos rfl (Ev.ite_pos rfl (Ev.ite_pos rfl (Ev.ite_pos rfl (Ev.bind i (Ev.ite_pos (by show (-1 : Int) < 0; omega) (Ev.now _)))))))), fun h => absurd h (by decide)⟩
  | some n =>
    have a := hin n g
    rw [g] at s i
    exact ⟨n + 1, bud - n, 0, Ev.bind e1 (Ev.ite_pos v (Ev.ite_pos rfl (Ev.ite_pos rfl (Ev.ite_pos rfl (Ev.ite_pos rfl (Ev.bind s (Ev.ite_neg (by show ¬ false = true; decide) (Ev.now _)))))))), Ev.bind e2 (Ev.ite_pos v (Ev.ite_pos rfl (Ev.ite_pos rfl (Ev.ite_pos rfl (Ev.ite_pos rfl (Ev.bind i (Ev.ite_neg (by show ¬ bud - n < 0; omega) (Ev.now _)))))))), fun _ => by
      rw [w64 (x := bud - (bud - n)) (by omega) (by omega), w64 (by omega) (by omega)]
      omega⟩
theorem FnExactCountProgrammes : laws_FnExactCountProgrammes.Pure := by
  intro l m un se bud ⟨hl, hx⟩ _ _ _ _
  have e : maxLen ≤ 9223372036854775807 := by decide
  refine Ev.out (r := true) ?_
  unfold laws_FnExactCountProgrammes.f
  obtain ⟨t, et, ct⟩ := szItemS_ge l (Nat.le_trans hl e) (fun x h => Nat.le_trans (hx x h).1 e)
  refine Ev.bind et ?_
  by_cases g : t < 0
  · exact Ev.ite_pos g (Ev.now _)
  refine Ev.ite_neg g ?_
  have ll : l.length ≤ 1048576 := by rcases ct with c | c <;> omega
  have tl := toItemS_ev l ll
  have lm : (l.map itemOf).length ≤ 1048576 := by simpa using ll
  obtain ⟨r, c, es, ei⟩ := bothProgrammes (l.map itemOf) m un se bud lm
  refine Ev.bind tl (Ev.bind es (Ev.bind tl (Ev.bind ei (Ev.ite_pos rfl (Ev.succ ?_)))))
  simp only [laws_FnExactCountProgrammes.j0]
  refine Ev.ite_neg (by simp) ?_
  exact Ev.bind tl (Ev.bind (eqItemS_self _ (by omega)) (Ev.ite_pos rfl (Ev.now _)))

end Go.Proofs.Ytgdiabfmjcejdaa.Pure
end
