/- The pure statement of FnExactBestPhase. No condition. -/
import Derived.Test.YtlgigomahobfbaaGa1
import Derived.Test.YtlgigomahobfbaaGa2
import Derived.Test.YtlgigomahobfbaaGa3
section
namespace Go.Proofs.Ytlgigomahobfbaa.P
open Go.RowKit Go.Proofs.YtlgigomahobfbaaW.PrintWords Go.Proofs.YtlgigomahobfbaaW.PrintLast Go.Proofs.YtlgigomahobfbaaW.PrintMore
attribute [local go_sem] max2_int min2_int max_two min_two max_three min_three max_four min_four   -- for this text's walks alone
set_option linter.unusedVariables false
set_option linter.unusedSimpArgs false

/-! ### laws_FnExactBestPhase: function 6 -/
def laws_FnExactBestPhase.j0 : Nat → List (S77) → List (S77) → List (S75) → List (S75) → Bool → Option (Bool)
  | 0, _, _, _, _, _ => none
  | k + 1, x0, x1, x9, x10, x56 => if x56 = true then (some false) else ((laws_toNoteS.f k x0).bind fun t320 => ((laws_eqNoteS.f k x9 t320).bind fun t323 => (if t323 = true then ((laws_toNoteS.f k x1).bind fun t324 => ((laws_eqNoteS.f k x10 t324).bind fun t327 => (if t327 = true then (some true) else (some false)))) else (some false))))
def laws_FnExactBestPhase.f (k : Nat) (l0 : List (S77)) (l1 : List (S77)) : Option (Bool) := (laws_szNoteS.f l0 1048576).bind fun t300 => (if t300 < 0 then (some true) else ((laws_szNoteS.f l1 t300).bind fun t301 => (if t301 < 0 then (some true) else ((laws_toNoteS.f k l0).bind fun t302 => ((laws_toNoteS.f k l1).bind fun t305 => ((spec_BestPhase.f k t302 t305).bind fun bt308 => ((laws_toNoteS.f k l0).bind fun t311 => ((laws_toNoteS.f k l1).bind fun t314 => ((impl_BestPhase.f k t311 t314).bind fun bt317 => (if bt317.1 = bt308.1 then (if bt317.2.1 = bt308.2.1 then (laws_FnExactBestPhase.j0 k l0 l1 t311 t314 (bt317.2.2 != bt308.2.2)) else (laws_FnExactBestPhase.j0 k l0 l1 t311 t314 true)) else (laws_FnExactBestPhase.j0 k l0 l1 t311 t314 true)))))))))))
theorem laws_FnExactBestPhase.mono_l : ∀ k, (∀ y0 y1 y2 y3 y4, LeO (laws_FnExactBestPhase.j0 k y0 y1 y2 y3 y4) (laws_FnExactBestPhase.j0 (k + 1) y0 y1 y2 y3 y4))
  | 0 => fun _ _ _ _ _ r h => by simp [laws_FnExactBestPhase.j0] at h
  | k + 1 => by
    have ih0 := laws_FnExactBestPhase.mono_l k
    · intro y0 y1 y2 y3 y4
      unfold laws_FnExactBestPhase.j0
      repeat' first
      | (with_reducible exact ih0 _ _ _ _ _)
      | (with_reducible exact impl_BestPhase.mono _ _ _)
      | (with_reducible exact laws_eqNoteS.mono _ _ _)
      | (with_reducible exact laws_toNoteS.mono _ _)
      | (with_reducible exact spec_BestPhase.mono _ _ _)
      | (with_reducible exact LeO.refl _)
      | (with_reducible exact LeO.none _)
      | (with_reducible refine LeO.ite ?_ ?_)
      | (with_reducible refine LeO.bind ?_ (fun _ => ?_))
      | exact ih0 _ _ _ _ _
      | exact impl_BestPhase.mono _ _ _
      | exact laws_eqNoteS.mono _ _ _
      | exact laws_toNoteS.mono _ _
      | exact spec_BestPhase.mono _ _ _
      | exact LeO.none _
      | refine LeO.ite ?_ ?_
      | refine LeO.bind ?_ (fun _ => ?_)
theorem laws_FnExactBestPhase.mono : ∀ a0 a1 k, LeO (laws_FnExactBestPhase.f k a0 a1) (laws_FnExactBestPhase.f (k + 1) a0 a1) := by
  intro a0 a1 k
  have ih0 := laws_FnExactBestPhase.mono_l k
  unfold laws_FnExactBestPhase.f
  repeat' first
      | (with_reducible exact ih0 _ _ _ _ _)
      | (with_reducible exact impl_BestPhase.mono _ _ _)
      | (with_reducible exact laws_eqNoteS.mono _ _ _)
      | (with_reducible exact laws_toNoteS.mono _ _)
      | (with_reducible exact spec_BestPhase.mono _ _ _)
      | (with_reducible exact LeO.refl _)
      | (with_reducible exact LeO.none _)
      | (with_reducible refine LeO.ite ?_ ?_)
      | (with_reducible refine LeO.bind ?_ (fun _ => ?_))
      | exact ih0 _ _ _ _ _
      | exact impl_BestPhase.mono _ _ _
      | exact laws_eqNoteS.mono _ _ _
      | exact laws_toNoteS.mono _ _
      | exact spec_BestPhase.mono _ _ _
      | exact LeO.none _
      | refine LeO.ite ?_ ?_
      | refine LeO.bind ?_ (fun _ => ?_)
set_option maxHeartbeats 8000000 in
set_option maxRecDepth 100000 in
theorem laws_FnExactBestPhase.calls (k : Nat) (A0 : Option Addr) (c0 : Nat) (l0 : List (S77)) (A1 : Option Addr) (c1 : Nat) (l1 : List (S77)) (r : Bool) (w : World) (hr0 : Kd.C k77 w A0 l0.length l0) (hc0 : l0.length ≤ c0) (hr1 : Kd.C k77 w A1 l1.length l1) (hc1 : l1.length ≤ c1) (hT : r = true) (h : laws_FnExactBestPhase.f k l0 l1 = some r) :
    Calls Try.prog 6 #[.slice A0 l0.length c0, .slice A1 l1.length c1] w fun e w' => e = .returned (.bool r) ∧ Below w.heap.size w w' := by
  have HR0 := Aside0.mk hr0
  have HC0 := Aside0.mk hc0
  clear hr0 hc0
  have HR1 := Aside0.mk hr1
  have HC1 := Aside0.mk hc1
  clear hr1 hc1
  have HT := Aside0.mk hT
  clear hT
  have HB := Aside0.mk (Below.refl w.heap.size w)
  have H : ((laws_szNoteS.f l0 1048576).bind fun t300 => (if t300 < 0 then (some true) else ((laws_szNoteS.f l1 t300).bind fun t301 => (if t301 < 0 then (some true) else ((laws_toNoteS.f k l0).bind fun t302 => ((laws_toNoteS.f k l1).bind fun t305 => ((spec_BestPhase.f k t302 t305).bind fun bt308 => ((laws_toNoteS.f k l0).bind fun t311 => ((laws_toNoteS.f k l1).bind fun t314 => ((impl_BestPhase.f k t311 t314).bind fun bt317 => (if bt317.1 = bt308.1 then (if bt317.2.1 = bt308.2.1 then (laws_FnExactBestPhase.j0 k l0 l1 t311 t314 (bt317.2.2 != bt308.2.2)) else (laws_FnExactBestPhase.j0 k l0 l1 t311 t314 true)) else (laws_FnExactBestPhase.j0 k l0 l1 t311 t314 true)))))))))))) = some r := h
  clear h
  replace H := Option.bind_eq_some_iff.mp H
  obtain ⟨t300, A30, H⟩ := H
  replace H : (if t300 < 0 then (some true) else ((laws_szNoteS.f l1 t300).bind fun t301 => (if t301 < 0 then (some true) else ((laws_toNoteS.f k l0).bind fun t302 => ((laws_toNoteS.f k l1).bind fun t305 => ((spec_BestPhase.f k t302 t305).bind fun bt308 => ((laws_toNoteS.f k l0).bind fun t311 => ((laws_toNoteS.f k l1).bind fun t314 => ((impl_BestPhase.f k t311 t314).bind fun bt317 => (if bt317.1 = bt308.1 then (if bt317.2.1 = bt308.2.1 then (laws_FnExactBestPhase.j0 k l0 l1 t311 t314 (bt317.2.2 != bt308.2.2)) else (laws_FnExactBestPhase.j0 k l0 l1 t311 t314 true)) else (laws_FnExactBestPhase.j0 k l0 l1 t311 t314 true))))))))))) = some r := H
  have A3 := Aside0.mk A30
  clear A30
  by_cases c4 : t300 < 0
  · rw [if_pos c4] at H
    have c4b0 : decide (t300 < 0) = true := decide_eq_true c4
    clear c4
    obtain rfl := Option.some.inj H
    go_enter Try.func6, Try.ntmps6
    go_wp2_with (first | ((with_reducible refine gate_callee (f := 15) rfl ?_); refine goesL_ (some 16) rfl rfl Try.func15 (by kernel_rfl) rfl #[.slice A0 l0.length c0, .int .i64 1048576] rfl (by (try simp only [List.map_toArray, List.map_cons, List.map_nil]); first | done | rfl | (simp only [List.length_drop, List.length_take]; rfl)) ?_; (with_reducible refine (laws_szNoteS.calls _ _ l0 1048576 t300 _ ?side1 ?side2 A3.out).mono ?_); (case side1 => repeat (first | exact HR0.out | (with_reducible refine Kd.C_alloc ?_ _) | (with_reducible refine Kd.C_drewN ?_ _) | (with_reducible refine Kd.C_drew ?_))); (case side2 => exact HC0.out); rintro e w' ⟨rfl, ⟨nd, rfl⟩⟩; refine ⟨_, rfl, ?_⟩))
    go_ret
    exact ⟨by first | rfl | (simp [errW_none, errW_some] <;> rfl) | (simp [*, errW_none, errW_some] <;> rfl), by repeat (first | (with_reducible first | exact HB.out | apply below_alloc | apply pw_below_drewN | apply below_drew1) | exact HB.out)⟩
  · rw [if_neg c4] at H
    have c4b0 : decide (t300 < 0) = false := decide_eq_false c4
    clear c4
    replace H := Option.bind_eq_some_iff.mp H
    obtain ⟨t301, A50, H⟩ := H
    replace H : (if t301 < 0 then (some true) else ((laws_toNoteS.f k l0).bind fun t302 => ((laws_toNoteS.f k l1).bind fun t305 => ((spec_BestPhase.f k t302 t305).bind fun bt308 => ((laws_toNoteS.f k l0).bind fun t311 => ((laws_toNoteS.f k l1).bind fun t314 => ((impl_BestPhase.f k t311 t314).bind fun bt317 => (if bt317.1 = bt308.1 then (if bt317.2.1 = bt308.2.1 then (laws_FnExactBestPhase.j0 k l0 l1 t311 t314 (bt317.2.2 != bt308.2.2)) else (laws_FnExactBestPhase.j0 k l0 l1 t311 t314 true)) else (laws_FnExactBestPhase.j0 k l0 l1 t311 t314 true))))))))) = some r := H
    have A5 := Aside0.mk A50
    clear A50
    by_cases c6 : t301 < 0
    · rw [if_pos c6] at H
      have c6b0 : decide (t301 < 0) = true := decide_eq_true c6
      clear c6
      obtain rfl := Option.some.inj H
      go_enter Try.func6, Try.ntmps6
      go_wp2_with (first | ((with_reducible refine gate_callee (f := 15) rfl ?_); refine goesL_ (some 16) rfl rfl Try.func15 (by kernel_rfl) rfl #[.slice A0 l0.length c0, .int .i64 1048576] rfl (by (try simp only [List.map_toArray, List.map_cons, List.map_nil]); first | done | rfl | (simp only [List.length_drop, List.length_take]; rfl)) ?_; (with_reducible refine (laws_szNoteS.calls _ _ l0 1048576 t300 _ ?side1 ?side2 A3.out).mono ?_); (case side1 => repeat (first | exact HR0.out | (with_reducible refine Kd.C_alloc ?_ _) | (with_reducible refine Kd.C_drewN ?_ _) | (with_reducible refine Kd.C_drew ?_))); (case side2 => exact HC0.out); rintro e w' ⟨rfl, ⟨nd, rfl⟩⟩; refine ⟨_, rfl, ?_⟩) | ((with_reducible refine gate_callee (f := 15) rfl ?_); refine goesL_ (some 21) rfl rfl Try.func15 (by kernel_rfl) rfl #[.slice A1 l1.length c1, .int .i64 t300] rfl (by (try simp only [List.map_toArray, List.map_cons, List.map_nil]); first | done | rfl | (simp only [List.length_drop, List.length_take]; rfl)) ?_; (with_reducible refine (laws_szNoteS.calls _ _ l1 t300 t301 _ ?side1 ?side2 A5.out).mono ?_); (case side1 => repeat (first | exact HR1.out | (with_reducible refine Kd.C_alloc ?_ _) | (with_reducible refine Kd.C_drewN ?_ _) | (with_reducible refine Kd.C_drew ?_))); (case side2 => exact HC1.out); rintro e w' ⟨rfl, ⟨nd, rfl⟩⟩; refine ⟨_, rfl, ?_⟩))
      go_ret
      exact ⟨by first | rfl | (simp [errW_none, errW_some] <;> rfl) | (simp [*, errW_none, errW_some] <;> rfl), by repeat (first | (with_reducible first | exact HB.out | apply below_alloc | apply pw_below_drewN | apply below_drew1) | exact HB.out)⟩
    · rw [if_neg c6] at H
      have c6b0 : decide (t301 < 0) = false := decide_eq_false c6
      clear c6
      replace H := Option.bind_eq_some_iff.mp H
      obtain ⟨t302, A70, H⟩ := H
      replace H : ((laws_toNoteS.f k l1).bind fun t305 => ((spec_BestPhase.f k t302 t305).bind fun bt308 => ((laws_toNoteS.f k l0).bind fun t311 => ((laws_toNoteS.f k l1).bind fun t314 => ((impl_BestPhase.f k t311 t314).bind fun bt317 => (if bt317.1 = bt308.1 then (if bt317.2.1 = bt308.2.1 then (laws_FnExactBestPhase.j0 k l0 l1 t311 t314 (bt317.2.2 != bt308.2.2)) else (laws_FnExactBestPhase.j0 k l0 l1 t311 t314 true)) else (laws_FnExactBestPhase.j0 k l0 l1 t311 t314 true))))))) = some r := H
      have A7 := Aside0.mk A70
      clear A70
      replace H := Option.bind_eq_some_iff.mp H
      obtain ⟨t305, A80, H⟩ := H
      replace H : ((spec_BestPhase.f k t302 t305).bind fun bt308 => ((laws_toNoteS.f k l0).bind fun t311 => ((laws_toNoteS.f k l1).bind fun t314 => ((impl_BestPhase.f k t311 t314).bind fun bt317 => (if bt317.1 = bt308.1 then (if bt317.2.1 = bt308.2.1 then (laws_FnExactBestPhase.j0 k l0 l1 t311 t314 (bt317.2.2 != bt308.2.2)) else (laws_FnExactBestPhase.j0 k l0 l1 t311 t314 true)) else (laws_FnExactBestPhase.j0 k l0 l1 t311 t314 true)))))) = some r := H
      have A8 := Aside0.mk A80
      clear A80
      replace H := Option.bind_eq_some_iff.mp H
      obtain ⟨⟨t308, t309, t310⟩, A90, H⟩ := H
      replace H : ((laws_toNoteS.f k l0).bind fun t311 => ((laws_toNoteS.f k l1).bind fun t314 => ((impl_BestPhase.f k t311 t314).bind fun bt317 => (if bt317.1 = t308 then (if bt317.2.1 = t309 then (laws_FnExactBestPhase.j0 k l0 l1 t311 t314 (bt317.2.2 != t310)) else (laws_FnExactBestPhase.j0 k l0 l1 t311 t314 true)) else (laws_FnExactBestPhase.j0 k l0 l1 t311 t314 true))))) = some r := H
      have A9 := Aside0.mk A90
      clear A90
      replace H := Option.bind_eq_some_iff.mp H
      obtain ⟨t311, A100, H⟩ := H
      replace H : ((laws_toNoteS.f k l1).bind fun t314 => ((impl_BestPhase.f k t311 t314).bind fun bt317 => (if bt317.1 = t308 then (if bt317.2.1 = t309 then (laws_FnExactBestPhase.j0 k l0 l1 t311 t314 (bt317.2.2 != t310)) else (laws_FnExactBestPhase.j0 k l0 l1 t311 t314 true)) else (laws_FnExactBestPhase.j0 k l0 l1 t311 t314 true)))) = some r := H
      have A10 := Aside0.mk A100
      clear A100
      replace H := Option.bind_eq_some_iff.mp H
      obtain ⟨t314, A110, H⟩ := H
      replace H : ((impl_BestPhase.f k t311 t314).bind fun bt317 => (if bt317.1 = t308 then (if bt317.2.1 = t309 then (laws_FnExactBestPhase.j0 k l0 l1 t311 t314 (bt317.2.2 != t310)) else (laws_FnExactBestPhase.j0 k l0 l1 t311 t314 true)) else (laws_FnExactBestPhase.j0 k l0 l1 t311 t314 true))) = some r := H
      have A11 := Aside0.mk A110
      clear A110
      replace H := Option.bind_eq_some_iff.mp H
      obtain ⟨⟨t317, t318, t319⟩, A120, H⟩ := H
      replace H : (if t317 = t308 then (if t318 = t309 then (laws_FnExactBestPhase.j0 k l0 l1 t311 t314 (t319 != t310)) else (laws_FnExactBestPhase.j0 k l0 l1 t311 t314 true)) else (laws_FnExactBestPhase.j0 k l0 l1 t311 t314 true)) = some r := H
      have A12 := Aside0.mk A120
      clear A120
      have HC13 := Aside0.mk H
      clear H
      go_enter Try.func6, Try.ntmps6
      go_upto_region 12 with (first | ((with_reducible refine gate_callee (f := 15) rfl ?_); refine goesL_ (some 16) rfl rfl Try.func15 (by kernel_rfl) rfl #[.slice A0 l0.length c0, .int .i64 1048576] rfl (by (try simp only [List.map_toArray, List.map_cons, List.map_nil]); first | done | rfl | (simp only [List.length_drop, List.length_take]; rfl)) ?_; (with_reducible refine (laws_szNoteS.calls _ _ l0 1048576 t300 _ ?side1 ?side2 A3.out).mono ?_); (case side1 => repeat (first | exact HR0.out | (with_reducible refine Kd.C_alloc ?_ _) | (with_reducible refine Kd.C_drewN ?_ _) | (with_reducible refine Kd.C_drew ?_))); (case side2 => exact HC0.out); rintro e w' ⟨rfl, ⟨nd, rfl⟩⟩; refine ⟨_, rfl, ?_⟩) | ((with_reducible refine gate_callee (f := 15) rfl ?_); refine goesL_ (some 21) rfl rfl Try.func15 (by kernel_rfl) rfl #[.slice A1 l1.length c1, .int .i64 t300] rfl (by (try simp only [List.map_toArray, List.map_cons, List.map_nil]); first | done | rfl | (simp only [List.length_drop, List.length_take]; rfl)) ?_; (with_reducible refine (laws_szNoteS.calls _ _ l1 t300 t301 _ ?side1 ?side2 A5.out).mono ?_); (case side1 => repeat (first | exact HR1.out | (with_reducible refine Kd.C_alloc ?_ _) | (with_reducible refine Kd.C_drewN ?_ _) | (with_reducible refine Kd.C_drew ?_))); (case side2 => exact HC1.out); rintro e w' ⟨rfl, ⟨nd, rfl⟩⟩; refine ⟨_, rfl, ?_⟩) | ((with_reducible refine gate_callee (f := 17) rfl ?_); refine goesL_ (some 26) rfl rfl Try.func17 (by kernel_rfl) rfl #[.slice A0 l0.length c0] rfl (by (try simp only [List.map_toArray, List.map_cons, List.map_nil]); first | done | rfl | (simp only [List.length_drop, List.length_take]; rfl)) ?_; (with_reducible refine (laws_toNoteS.calls k _ _ l0 t302 _ ?side1 ?side2 A7.out).mono ?_); (case side1 => repeat (first | exact HR0.out | (with_reducible refine Kd.C_alloc ?_ _) | (with_reducible refine Kd.C_drewN ?_ _) | (with_reducible refine Kd.C_drew ?_))); (case side2 => exact HC0.out); rintro e w14 ⟨v303, rfl, ho0, hb⟩; refine ⟨_, rfl, ?_⟩; have n0_ := Aside0.mk (Kd.R_lower ho0 (below_size (by repeat (first | (with_reducible first | exact HB.out | apply below_alloc | apply pw_below_drewN | apply below_drew1) | exact HB.out)))); have n1_ := Aside0.mk (below_step (by repeat (first | (with_reducible first | exact HB.out | apply below_alloc | apply pw_below_drewN | apply below_drew1) | exact HB.out)) hb); clear HB; have HO304 := n0_; have HB := n1_; clear n0_ n1_; (try clear hb); (try clear hb2); (try clear hk); (try clear hi); (try clear ho0)) | ((with_reducible refine gate_callee (f := 17) rfl ?_); refine goesL_ (some 28) rfl rfl Try.func17 (by kernel_rfl) rfl #[.slice A1 l1.length c1] rfl (by (try simp only [List.map_toArray, List.map_cons, List.map_nil]); first | done | rfl | (simp only [List.length_drop, List.length_take]; rfl)) ?_; (with_reducible refine (laws_toNoteS.calls k _ _ l1 t305 _ ?side1 ?side2 A8.out).mono ?_); (case side1 => repeat (first | exact (Kd.C_below HR1.out HB.out) | (with_reducible refine Kd.C_alloc ?_ _) | (with_reducible refine Kd.C_drewN ?_ _) | (with_reducible refine Kd.C_drew ?_))); (case side2 => exact HC1.out); rintro e w15 ⟨v306, rfl, ho0, hb⟩; refine ⟨_, rfl, ?_⟩; have n0_ := Aside0.mk (Kd.R_elder' (by (with_reducible repeat (first | apply Kd.R_alloc | apply Kd.R_drewN | apply Kd.R_drew)); exact HO304.out) (Kd.R_base ho0) hb); have n1_ := Aside0.mk (Kd.R_lower (Kd.R_new' ho0 (Kd.R_lt (by (with_reducible repeat (first | apply Kd.R_alloc | apply Kd.R_drewN | apply Kd.R_drew)); exact HO304.out))) (below_size (by repeat (first | (with_reducible first | exact HB.out | apply below_alloc | apply pw_below_drewN | apply below_drew1) | exact HB.out)))); have n2_ := Aside0.mk (below_step (by repeat (first | (with_reducible first | exact HB.out | apply below_alloc | apply pw_below_drewN | apply below_drew1) | exact HB.out)) hb); clear HO304; clear HB; have HO304 := n0_; have HO307 := n1_; have HB := n2_; clear n0_ n1_ n2_; (try clear hb); (try clear hb2); (try clear hk); (try clear hi); (try clear ho0); obtain ⟨Ao16, co16, eo16⟩ := Kd.R_slice HO304.out; subst eo16; obtain ⟨Ao17, co17, eo17⟩ := Kd.R_slice HO307.out; subst eo17) | ((with_reducible refine gate_callee (f := 26) rfl ?_); refine goesL_ (some 29) rfl rfl Try.func26 (by kernel_rfl) rfl #[.slice Ao16 t302.length co16, .slice Ao17 t305.length co17] rfl (by (try simp only [List.map_toArray, List.map_cons, List.map_nil]); first | done | rfl | (simp only [List.length_drop, List.length_take]; rfl)) ?_; (with_reducible refine (spec_BestPhase.calls k _ _ t302 _ _ t305 t308 t309 t310 _ ?side1 ?side2 ?side3 ?side4 A9.out).mono ?_); (case side1 => repeat (first | exact (Kd.R_reads' HO304.out).2.2 | (with_reducible refine Kd.C_alloc ?_ _) | (with_reducible refine Kd.C_drewN ?_ _) | (with_reducible refine Kd.C_drew ?_))); (case side2 => exact (Kd.R_reads' HO304.out).2.1); (case side3 => repeat (first | exact (Kd.R_reads' HO307.out).2.2 | (with_reducible refine Kd.C_alloc ?_ _) | (with_reducible refine Kd.C_drewN ?_ _) | (with_reducible refine Kd.C_drew ?_))); (case side4 => exact (Kd.R_reads' HO307.out).2.1); rintro e w18 ⟨rfl, hb⟩; refine ⟨_, rfl, ?_⟩; have n0_ := Aside0.mk (Kd.R_below (by (with_reducible repeat (first | apply Kd.R_alloc | apply Kd.R_drewN | apply Kd.R_drew)); exact HO304.out) hb); have n1_ := Aside0.mk (Kd.R_below (by (with_reducible repeat (first | apply Kd.R_alloc | apply Kd.R_drewN | apply Kd.R_drew)); exact HO307.out) hb); have n2_ := Aside0.mk (below_step (by repeat (first | (with_reducible first | exact HB.out | apply below_alloc | apply pw_below_drewN | apply below_drew1) | exact HB.out)) hb); clear HO304; clear HO307; clear HB; have HO304 := n0_; have HO307 := n1_; have HB := n2_; clear n0_ n1_ n2_; (try clear hb); (try clear hb2); (try clear hk); (try clear hi)) | ((with_reducible refine gate_callee (f := 17) rfl ?_); refine goesL_ (some 34) rfl rfl Try.func17 (by kernel_rfl) rfl #[.slice A0 l0.length c0] rfl (by (try simp only [List.map_toArray, List.map_cons, List.map_nil]); first | done | rfl | (simp only [List.length_drop, List.length_take]; rfl)) ?_; (with_reducible refine (laws_toNoteS.calls k _ _ l0 t311 _ ?side1 ?side2 A10.out).mono ?_); (case side1 => repeat (first | exact (Kd.C_below HR0.out HB.out) | (with_reducible refine Kd.C_alloc ?_ _) | (with_reducible refine Kd.C_drewN ?_ _) | (with_reducible refine Kd.C_drew ?_))); (case side2 => exact HC0.out); rintro e w19 ⟨v312, rfl, ho0, hb⟩; refine ⟨_, rfl, ?_⟩; have n0_ := Aside0.mk (Kd.R_elder' (by (with_reducible repeat (first | apply Kd.R_alloc | apply Kd.R_drewN | apply Kd.R_drew)); exact HO304.out) (Kd.R_base ho0) hb); have n1_ := Aside0.mk (Kd.R_elder' (by (with_reducible repeat (first | apply Kd.R_alloc | apply Kd.R_drewN | apply Kd.R_drew)); exact HO307.out) (Kd.R_base ho0) hb); have n2_ := Aside0.mk (Kd.R_lower (Kd.R_new' (Kd.R_new' ho0 (Kd.R_lt (by (with_reducible repeat (first | apply Kd.R_alloc | apply Kd.R_drewN | apply Kd.R_drew)); exact HO304.out))) (Kd.R_lt (by (with_reducible repeat (first | apply Kd.R_alloc | apply Kd.R_drewN | apply Kd.R_drew)); exact HO307.out))) (below_size (by repeat (first | (with_reducible first | exact HB.out | apply below_alloc | apply pw_below_drewN | apply below_drew1) | exact HB.out)))); have n3_ := Aside0.mk (below_step (by repeat (first | (with_reducible first | exact HB.out | apply below_alloc | apply pw_below_drewN | apply below_drew1) | exact HB.out)) hb); clear HO304; clear HO307; clear HB; have HO304 := n0_; have HO307 := n1_; have HO313 := n2_; have HB := n3_; clear n0_ n1_ n2_ n3_; (try clear hb); (try clear hb2); (try clear hk); (try clear hi); (try clear ho0)) | ((with_reducible refine gate_callee (f := 17) rfl ?_); refine goesL_ (some 36) rfl rfl Try.func17 (by kernel_rfl) rfl #[.slice A1 l1.length c1] rfl (by (try simp only [List.map_toArray, List.map_cons, List.map_nil]); first | done | rfl | (simp only [List.length_drop, List.length_take]; rfl)) ?_; (with_reducible refine (laws_toNoteS.calls k _ _ l1 t314 _ ?side1 ?side2 A11.out).mono ?_); (case side1 => repeat (first | exact (Kd.C_below HR1.out HB.out) | (with_reducible refine Kd.C_alloc ?_ _) | (with_reducible refine Kd.C_drewN ?_ _) | (with_reducible refine Kd.C_drew ?_))); (case side2 => exact HC1.out); rintro e w20 ⟨v315, rfl, ho0, hb⟩; refine ⟨_, rfl, ?_⟩; have n0_ := Aside0.mk (Kd.R_elder' (by (with_reducible repeat (first | apply Kd.R_alloc | apply Kd.R_drewN | apply Kd.R_drew)); exact HO304.out) (Kd.R_base ho0) hb); have n1_ := Aside0.mk (Kd.R_elder' (by (with_reducible repeat (first | apply Kd.R_alloc | apply Kd.R_drewN | apply Kd.R_drew)); exact HO307.out) (Kd.R_base ho0) hb); have n2_ := Aside0.mk (Kd.R_elder' (by (with_reducible repeat (first | apply Kd.R_alloc | apply Kd.R_drewN | apply Kd.R_drew)); exact HO313.out) (Kd.R_base ho0) hb); have n3_ := Aside0.mk (Kd.R_lower (Kd.R_new' (Kd.R_new' (Kd.R_new' ho0 (Kd.R_lt (by (with_reducible repeat (first | apply Kd.R_alloc | apply Kd.R_drewN | apply Kd.R_drew)); exact HO304.out))) (Kd.R_lt (by (with_reducible repeat (first | apply Kd.R_alloc | apply Kd.R_drewN | apply Kd.R_drew)); exact HO307.out))) (Kd.R_lt (by (with_reducible repeat (first | apply Kd.R_alloc | apply Kd.R_drewN | apply Kd.R_drew)); exact HO313.out))) (below_size (by repeat (first | (with_reducible first | exact HB.out | apply below_alloc | apply pw_below_drewN | apply below_drew1) | exact HB.out)))); have n4_ := Aside0.mk (below_step (by repeat (first | (with_reducible first | exact HB.out | apply below_alloc | apply pw_below_drewN | apply below_drew1) | exact HB.out)) hb); clear HO304; clear HO307; clear HO313; clear HB; have HO304 := n0_; have HO307 := n1_; have HO313 := n2_; have HO316 := n3_; have HB := n4_; clear n0_ n1_ n2_ n3_ n4_; (try clear hb); (try clear hb2); (try clear hk); (try clear hi); (try clear ho0); obtain ⟨Ao21, co21, eo21⟩ := Kd.R_slice HO313.out; subst eo21; obtain ⟨Ao22, co22, eo22⟩ := Kd.R_slice HO316.out; subst eo22) | ((with_reducible refine gate_callee (f := 27) rfl ?_); refine goesL_ (some 40) rfl rfl Try.func27 (by kernel_rfl) rfl #[.slice Ao21 t311.length co21, .slice Ao22 t314.length co22] rfl (by (try simp only [List.map_toArray, List.map_cons, List.map_nil]); first | done | rfl | (simp only [List.length_drop, List.length_take]; rfl)) ?_; (with_reducible refine (impl_BestPhase.calls k _ _ t311 _ _ t314 t317 t318 t319 _ ?side1 ?side2 ?side3 ?side4 A12.out).mono ?_); (case side1 => repeat (first | exact (Kd.R_reads' HO313.out).2.2 | (with_reducible refine Kd.C_alloc ?_ _) | (with_reducible refine Kd.C_drewN ?_ _) | (with_reducible refine Kd.C_drew ?_))); (case side2 => exact (Kd.R_reads' HO313.out).2.1); (case side3 => repeat (first | exact (Kd.R_reads' HO316.out).2.2 | (with_reducible refine Kd.C_alloc ?_ _) | (with_reducible refine Kd.C_drewN ?_ _) | (with_reducible refine Kd.C_drew ?_))); (case side4 => exact (Kd.R_reads' HO316.out).2.1); rintro e w23 ⟨rfl, hb⟩; refine ⟨_, rfl, ?_⟩; have n0_ := Aside0.mk (Kd.R_below (by (with_reducible repeat (first | apply Kd.R_alloc | apply Kd.R_drewN | apply Kd.R_drew)); exact HO304.out) hb); have n1_ := Aside0.mk (Kd.R_below (by (with_reducible repeat (first | apply Kd.R_alloc | apply Kd.R_drewN | apply Kd.R_drew)); exact HO307.out) hb); have n2_ := Aside0.mk (Kd.R_below (by (with_reducible repeat (first | apply Kd.R_alloc | apply Kd.R_drewN | apply Kd.R_drew)); exact HO313.out) hb); have n3_ := Aside0.mk (Kd.R_below (by (with_reducible repeat (first | apply Kd.R_alloc | apply Kd.R_drewN | apply Kd.R_drew)); exact HO316.out) hb); have n4_ := Aside0.mk (below_step (by repeat (first | (with_reducible first | exact HB.out | apply below_alloc | apply pw_below_drewN | apply below_drew1) | exact HB.out)) hb); clear HO304; clear HO307; clear HO313; clear HO316; clear HB; have HO304 := n0_; have HO307 := n1_; have HO313 := n2_; have HO316 := n3_; have HB := n4_; clear n0_ n1_ n2_ n3_ n4_; (try clear hb); (try clear hb2); (try clear hk); (try clear hi)))
      (try simp only [Act.put, List.setIfInBounds_toArray, List.set_cons_zero, List.set_cons_succ])
      go_cut [56] (fun v56 wc => ∃ (kq : Nat) (x56_12 : Bool), v56 = .bool x56_12 ∧ Aside0 (laws_FnExactBestPhase.j0 kq l0 l1 t311 t314 x56_12 = some r) ∧ Aside0 (kq ≤ k) ∧ Aside0 (Kd.R k75 75 wc w.heap.size (fun k_ => some k_ ≠ ((.slice Ao22 t314.length co22) : Value).ownBlock) (.slice Ao21 t311.length co21) t311) ∧ Aside0 (Kd.R k75 75 wc w.heap.size (fun k_ => some k_ ≠ ((.slice Ao21 t311.length co21) : Value).ownBlock) (.slice Ao22 t314.length co22) t314) ∧ Aside0 (Below w.heap.size w wc))
      case first =>
        have H := HC13.out
        clear HC13
        by_cases c24 : t317 = t308
        · rw [if_pos c24] at H
          have c24b0 : (t317 == t308) = true := beq_iff_eq.mpr c24
          have c24b1 : (t317 != t308) = false := bne_eq_false_iff_eq.mpr c24
          clear c24
          (first | rw [c24b0] | (simp only [i64_w, i32_w]; rw [c24b0]) | skip)
          by_cases c25 : t318 = t309
          · rw [if_pos c25] at H
            have c25b0 : (t318 == t309) = true := beq_iff_eq.mpr c25
            have c25b1 : (t318 != t309) = false := bne_eq_false_iff_eq.mpr c25
            clear c25
            have H' := Aside0.mk H
            clear H
            go_wp2
            go_meet
            case rel => exact ⟨_, ((t319 != t310)), (by first | rfl | (simp; done) | (simp [*]; done)), H', ⟨by first | omega | exact Nat.le_refl _⟩, ⟨by (with_reducible repeat (first | apply Kd.R_alloc | apply Kd.R_drewN | apply Kd.R_drew)); exact Kd.R_mono HO313.out (fun _ hk => hk.2)⟩, ⟨by (with_reducible repeat (first | apply Kd.R_alloc | apply Kd.R_drewN | apply Kd.R_drew)); exact Kd.R_mono HO316.out (fun _ hk => hk.2)⟩, ⟨by repeat (first | (with_reducible first | exact HB.out | apply below_alloc | apply pw_below_drewN | apply below_drew1) | exact HB.out)⟩⟩
          · rw [if_neg c25] at H
            have c25b0 : (t318 == t309) = false := beq_eq_false_iff_ne.mpr c25
            have c25b1 : (t318 != t309) = true := bne_iff_ne.mpr c25
            have H' := Aside0.mk H
            clear H
            go_wp2
            go_meet
            case rel => exact ⟨_, (true), (by first | rfl | (simp; done) | (simp [*]; done)), H', ⟨by first | omega | exact Nat.le_refl _⟩, ⟨by (with_reducible repeat (first | apply Kd.R_alloc | apply Kd.R_drewN | apply Kd.R_drew)); exact Kd.R_mono HO313.out (fun _ hk => hk.2)⟩, ⟨by (with_reducible repeat (first | apply Kd.R_alloc | apply Kd.R_drewN | apply Kd.R_drew)); exact Kd.R_mono HO316.out (fun _ hk => hk.2)⟩, ⟨by repeat (first | (with_reducible first | exact HB.out | apply below_alloc | apply pw_below_drewN | apply below_drew1) | exact HB.out)⟩⟩
        · rw [if_neg c24] at H
          have c24b0 : (t317 == t308) = false := beq_eq_false_iff_ne.mpr c24
          have c24b1 : (t317 != t308) = true := bne_iff_ne.mpr c24
          (first | rw [c24b0] | (simp only [i64_w, i32_w]; rw [c24b0]) | skip)
          have H' := Aside0.mk H
          clear H
          go_wp2
          go_meet
          case rel => exact ⟨_, (true), (by first | rfl | (simp; done) | (simp [*]; done)), H', ⟨by first | omega | exact Nat.le_refl _⟩, ⟨by (with_reducible repeat (first | apply Kd.R_alloc | apply Kd.R_drewN | apply Kd.R_drew)); exact Kd.R_mono HO313.out (fun _ hk => hk.2)⟩, ⟨by (with_reducible repeat (first | apply Kd.R_alloc | apply Kd.R_drewN | apply Kd.R_drew)); exact Kd.R_mono HO316.out (fun _ hk => hk.2)⟩, ⟨by repeat (first | (with_reducible first | exact HB.out | apply below_alloc | apply pw_below_drewN | apply below_drew1) | exact HB.out)⟩⟩
      case rest =>
        clear HC13
        try clear c1
        try clear c2
        try clear p2
        try clear c4
        try clear c4b0
        try clear c6
        try clear c6b0
        try clear c15
        try clear c17
        try clear c24
        try clear c24b0
        try clear c24b1
        try clear c25
        try clear c25b0
        try clear c25b1
        obtain ⟨kq, x56_12, rfl, HA, HJ12, HO_9, HO_10, HB⟩ := hcut
        cases kq with
        | zero => exact absurd HA.out (by simp [laws_FnExactBestPhase.j0])
        | succ kj12 =>
          have H := HA.out
          clear HA
          simp only [laws_FnExactBestPhase.j0] at H
          by_cases c26 : x56_12 = true
          · subst c26
            have H1 : (some false) = some r := by rw [if_pos rfl] at H; exact H
            clear H
            have H := H1
            clear H1
            exact absurd ((Option.some.inj H).trans HT.out) (by decide)
          · replace c26 := Bool.eq_false_iff.mpr c26
            subst c26
            have H1 : ((laws_toNoteS.f kj12 l0).bind fun t320 => ((laws_eqNoteS.f kj12 t311 t320).bind fun t323 => (if t323 = true then ((laws_toNoteS.f kj12 l1).bind fun t324 => ((laws_eqNoteS.f kj12 t314 t324).bind fun t327 => (if t327 = true then (some true) else (some false)))) else (some false)))) = some r := by rw [if_neg (show ¬ (false = true) by decide)] at H; exact H
            clear H
            have H := H1
            clear H1
            replace H := Option.bind_eq_some_iff.mp H
            obtain ⟨t320, A270, H⟩ := H
            replace H : ((laws_eqNoteS.f kj12 t311 t320).bind fun t323 => (if t323 = true then ((laws_toNoteS.f kj12 l1).bind fun t324 => ((laws_eqNoteS.f kj12 t314 t324).bind fun t327 => (if t327 = true then (some true) else (some false)))) else (some false))) = some r := H
            have A27 := Aside0.mk A270
            clear A270
            replace H := Option.bind_eq_some_iff.mp H
            obtain ⟨t323, A280, H⟩ := H
            replace H : (if t323 = true then ((laws_toNoteS.f kj12 l1).bind fun t324 => ((laws_eqNoteS.f kj12 t314 t324).bind fun t327 => (if t327 = true then (some true) else (some false)))) else (some false)) = some r := H
            have A28 := Aside0.mk A280
            clear A280
            by_cases c29 : t323 = true
            · subst c29
              have H1 : ((laws_toNoteS.f kj12 l1).bind fun t324 => ((laws_eqNoteS.f kj12 t314 t324).bind fun t327 => (if t327 = true then (some true) else (some false)))) = some r := by rw [if_pos rfl] at H; exact H
              clear H
              have H := H1
              clear H1
              replace H := Option.bind_eq_some_iff.mp H
              obtain ⟨t324, A300, H⟩ := H
              replace H : ((laws_eqNoteS.f kj12 t314 t324).bind fun t327 => (if t327 = true then (some true) else (some false))) = some r := H
              have A30 := Aside0.mk A300
              clear A300
              replace H := Option.bind_eq_some_iff.mp H
              obtain ⟨t327, A310, H⟩ := H
              replace H : (if t327 = true then (some true) else (some false)) = some r := H
              have A31 := Aside0.mk A310
              clear A310
              by_cases c32 : t327 = true
              · subst c32
                have H1 : (some true) = some r := by rw [if_pos rfl] at H; exact H
                clear H
                have H := H1
                clear H1
                obtain rfl := Option.some.inj H
                go_wp2_with (first | ((with_reducible refine gate_callee (f := 17) rfl ?_); refine goesL_ (some 59) rfl rfl Try.func17 (by kernel_rfl) rfl #[.slice A0 l0.length c0] rfl (by (try simp only [List.map_toArray, List.map_cons, List.map_nil]); first | done | rfl | (simp only [List.length_drop, List.length_take]; rfl)) ?_; (with_reducible refine (laws_toNoteS.calls kj12 _ _ l0 t320 _ ?side1 ?side2 A27.out).mono ?_); (case side1 => repeat (first | exact (Kd.C_below HR0.out HB.out) | (with_reducible refine Kd.C_alloc ?_ _) | (with_reducible refine Kd.C_drewN ?_ _) | (with_reducible refine Kd.C_drew ?_))); (case side2 => exact HC0.out); rintro e w33 ⟨v321, rfl, ho0, hb⟩; refine ⟨_, rfl, ?_⟩; have n0_ := Aside0.mk (Kd.R_elder' (by (with_reducible repeat (first | apply Kd.R_alloc | apply Kd.R_drewN | apply Kd.R_drew)); exact HO_9.out) (Kd.R_base ho0) hb); have n1_ := Aside0.mk (Kd.R_elder' (by (with_reducible repeat (first | apply Kd.R_alloc | apply Kd.R_drewN | apply Kd.R_drew)); exact HO_10.out) (Kd.R_base ho0) hb); have n2_ := Aside0.mk (Kd.R_lower (Kd.R_new' (Kd.R_new' ho0 (Kd.R_lt (by (with_reducible repeat (first | apply Kd.R_alloc | apply Kd.R_drewN | apply Kd.R_drew)); exact HO_9.out))) (Kd.R_lt (by (with_reducible repeat (first | apply Kd.R_alloc | apply Kd.R_drewN | apply Kd.R_drew)); exact HO_10.out))) (below_size (by repeat (first | (with_reducible first | exact HB.out | apply below_alloc | apply pw_below_drewN | apply below_drew1) | exact HB.out)))); have n3_ := Aside0.mk (below_step (by repeat (first | (with_reducible first | exact HB.out | apply below_alloc | apply pw_below_drewN | apply below_drew1) | exact HB.out)) hb); clear HO_9; clear HO_10; clear HB; have HO_9 := n0_; have HO_10 := n1_; have HO322 := n2_; have HB := n3_; clear n0_ n1_ n2_ n3_; (try clear hb); (try clear hb2); (try clear hk); (try clear hi); (try clear ho0); obtain ⟨Ao34, co34, eo34⟩ := Kd.R_slice HO322.out; subst eo34) | ((with_reducible refine gate_callee (f := 19) rfl ?_); refine goesL_ (some 60) rfl rfl Try.func19 (by kernel_rfl) rfl #[.slice Ao21 t311.length co21, .slice Ao34 t320.length co34] rfl (by (try simp only [List.map_toArray, List.map_cons, List.map_nil]); first | done | rfl | (simp only [List.length_drop, List.length_take]; rfl)) ?_; (with_reducible refine (laws_eqNoteS.calls kj12 _ _ t311 _ _ t320 true _ ?side1 ?side2 ?side3 ?side4 A28.out).mono ?_); (case side1 => repeat (first | exact (Kd.R_reads' HO_9.out).2.2 | (with_reducible refine Kd.C_alloc ?_ _) | (with_reducible refine Kd.C_drewN ?_ _) | (with_reducible refine Kd.C_drew ?_))); (case side2 => exact (Kd.R_reads' HO_9.out).2.1); (case side3 => repeat (first | exact (Kd.R_reads' HO322.out).2.2 | (with_reducible refine Kd.C_alloc ?_ _) | (with_reducible refine Kd.C_drewN ?_ _) | (with_reducible refine Kd.C_drew ?_))); (case side4 => exact (Kd.R_reads' HO322.out).2.1); rintro e w35 ⟨rfl, hb⟩; refine ⟨_, rfl, ?_⟩; have n0_ := Aside0.mk (Kd.R_below (by (with_reducible repeat (first | apply Kd.R_alloc | apply Kd.R_drewN | apply Kd.R_drew)); exact HO_9.out) hb); have n1_ := Aside0.mk (Kd.R_below (by (with_reducible repeat (first | apply Kd.R_alloc | apply Kd.R_drewN | apply Kd.R_drew)); exact HO_10.out) hb); have n2_ := Aside0.mk (Kd.R_below (by (with_reducible repeat (first | apply Kd.R_alloc | apply Kd.R_drewN | apply Kd.R_drew)); exact HO322.out) hb); have n3_ := Aside0.mk (below_step (by repeat (first | (with_reducible first | exact HB.out | apply below_alloc | apply pw_below_drewN | apply below_drew1) | exact HB.out)) hb); clear HO_9; clear HO_10; clear HO322; clear HB; have HO_9 := n0_; have HO_10 := n1_; have HO322 := n2_; have HB := n3_; clear n0_ n1_ n2_ n3_; (try clear hb); (try clear hb2); (try clear hk); (try clear hi)) | ((with_reducible refine gate_callee (f := 17) rfl ?_); refine goesL_ (some 64) rfl rfl Try.func17 (by kernel_rfl) rfl #[.slice A1 l1.length c1] rfl (by (try simp only [List.map_toArray, List.map_cons, List.map_nil]); first | done | rfl | (simp only [List.length_drop, List.length_take]; rfl)) ?_; (with_reducible refine (laws_toNoteS.calls kj12 _ _ l1 t324 _ ?side1 ?side2 A30.out).mono ?_); (case side1 => repeat (first | exact (Kd.C_below HR1.out HB.out) | (with_reducible refine Kd.C_alloc ?_ _) | (with_reducible refine Kd.C_drewN ?_ _) | (with_reducible refine Kd.C_drew ?_))); (case side2 => exact HC1.out); rintro e w36 ⟨v325, rfl, ho0, hb⟩; refine ⟨_, rfl, ?_⟩; have n0_ := Aside0.mk (Kd.R_elder' (by (with_reducible repeat (first | apply Kd.R_alloc | apply Kd.R_drewN | apply Kd.R_drew)); exact HO_9.out) (Kd.R_base ho0) hb); have n1_ := Aside0.mk (Kd.R_elder' (by (with_reducible repeat (first | apply Kd.R_alloc | apply Kd.R_drewN | apply Kd.R_drew)); exact HO_10.out) (Kd.R_base ho0) hb); have n2_ := Aside0.mk (Kd.R_elder' (by (with_reducible repeat (first | apply Kd.R_alloc | apply Kd.R_drewN | apply Kd.R_drew)); exact HO322.out) (Kd.R_base ho0) hb); have n3_ := Aside0.mk (Kd.R_lower (Kd.R_new' (Kd.R_new' (Kd.R_new' ho0 (Kd.R_lt (by (with_reducible repeat (first | apply Kd.R_alloc | apply Kd.R_drewN | apply Kd.R_drew)); exact HO_9.out))) (Kd.R_lt (by (with_reducible repeat (first | apply Kd.R_alloc | apply Kd.R_drewN | apply Kd.R_drew)); exact HO_10.out))) (Kd.R_lt (by (with_reducible repeat (first | apply Kd.R_alloc | apply Kd.R_drewN | apply Kd.R_drew)); exact HO322.out))) (below_size (by repeat (first | (with_reducible first | exact HB.out | apply below_alloc | apply pw_below_drewN | apply below_drew1) | exact HB.out)))); have n4_ := Aside0.mk (below_step (by repeat (first | (with_reducible first | exact HB.out | apply below_alloc | apply pw_below_drewN | apply below_drew1) | exact HB.out)) hb); clear HO_9; clear HO_10; clear HO322; clear HB; have HO_9 := n0_; have HO_10 := n1_; have HO322 := n2_; have HO326 := n3_; have HB := n4_; clear n0_ n1_ n2_ n3_ n4_; (try clear hb); (try clear hb2); (try clear hk); (try clear hi); (try clear ho0); obtain ⟨Ao37, co37, eo37⟩ := Kd.R_slice HO326.out; subst eo37) | ((with_reducible refine gate_callee (f := 19) rfl ?_); refine goesL_ (some 65) rfl rfl Try.func19 (by kernel_rfl) rfl #[.slice Ao22 t314.length co22, .slice Ao37 t324.length co37] rfl (by (try simp only [List.map_toArray, List.map_cons, List.map_nil]); first | done | rfl | (simp only [List.length_drop, List.length_take]; rfl)) ?_; (with_reducible refine (laws_eqNoteS.calls kj12 _ _ t314 _ _ t324 true _ ?side1 ?side2 ?side3 ?side4 A31.out).mono ?_); (case side1 => repeat (first | exact (Kd.R_reads' HO_10.out).2.2 | (with_reducible refine Kd.C_alloc ?_ _) | (with_reducible refine Kd.C_drewN ?_ _) | (with_reducible refine Kd.C_drew ?_))); (case side2 => exact (Kd.R_reads' HO_10.out).2.1); (case side3 => repeat (first | exact (Kd.R_reads' HO326.out).2.2 | (with_reducible refine Kd.C_alloc ?_ _) | (with_reducible refine Kd.C_drewN ?_ _) | (with_reducible refine Kd.C_drew ?_))); (case side4 => exact (Kd.R_reads' HO326.out).2.1); rintro e w38 ⟨rfl, hb⟩; refine ⟨_, rfl, ?_⟩; have n0_ := Aside0.mk (Kd.R_below (by (with_reducible repeat (first | apply Kd.R_alloc | apply Kd.R_drewN | apply Kd.R_drew)); exact HO_9.out) hb); have n1_ := Aside0.mk (Kd.R_below (by (with_reducible repeat (first | apply Kd.R_alloc | apply Kd.R_drewN | apply Kd.R_drew)); exact HO_10.out) hb); have n2_ := Aside0.mk (Kd.R_below (by (with_reducible repeat (first | apply Kd.R_alloc | apply Kd.R_drewN | apply Kd.R_drew)); exact HO322.out) hb); have n3_ := Aside0.mk (Kd.R_below (by (with_reducible repeat (first | apply Kd.R_alloc | apply Kd.R_drewN | apply Kd.R_drew)); exact HO326.out) hb); have n4_ := Aside0.mk (below_step (by repeat (first | (with_reducible first | exact HB.out | apply below_alloc | apply pw_below_drewN | apply below_drew1) | exact HB.out)) hb); clear HO_9; clear HO_10; clear HO322; clear HO326; clear HB; have HO_9 := n0_; have HO_10 := n1_; have HO322 := n2_; have HO326 := n3_; have HB := n4_; clear n0_ n1_ n2_ n3_ n4_; (try clear hb); (try clear hb2); (try clear hk); (try clear hi)))
                go_ret
                exact ⟨by first | rfl | (simp [errW_none, errW_some] <;> rfl) | (simp [*, errW_none, errW_some] <;> rfl), by repeat (first | (with_reducible first | exact HB.out | apply below_alloc | apply pw_below_drewN | apply below_drew1) | exact HB.out)⟩
              · replace c32 := Bool.eq_false_iff.mpr c32
                subst c32
                have H1 : (some false) = some r := by rw [if_neg (show ¬ (false = true) by decide)] at H; exact H
                clear H
                have H := H1
                clear H1
                exact absurd ((Option.some.inj H).trans HT.out) (by decide)
            · replace c29 := Bool.eq_false_iff.mpr c29
              subst c29
              have H1 : (some false) = some r := by rw [if_neg (show ¬ (false = true) by decide)] at H; exact H
              clear H
              have H := H1
              clear H1
              exact absurd ((Option.some.inj H).trans HT.out) (by decide)

/-- THE ONE PURE STATEMENT of laws_FnExactBestPhase. -/
def laws_FnExactBestPhase.Pure : Prop := ∀ (l0 : List (S77)) (l1 : List (S77)), (l0.length ≤ maxLen ∧ ∀ y0 ∈ l0, ((Lit.int .i64 y0.f0).wf = true ∧ (Lit.int .i64 y0.f1).wf = true)) → (l1.length ≤ maxLen ∧ ∀ y0 ∈ l1, ((Lit.int .i64 y0.f0).wf = true ∧ (Lit.int .i64 y0.f1).wf = true)) → ∃ k, laws_FnExactBestPhase.f k l0 l1 = some true
theorem laws_FnExactBestPhase.walk (P : laws_FnExactBestPhase.Pure) (A0 : Option Addr) (c0 : Nat) (l0 : List (S77)) (A1 : Option Addr) (c1 : Nat) (l1 : List (S77)) (w : World) (hr0 : Kd.C k77 w A0 l0.length l0) (hc0 : l0.length ≤ c0) (hr1 : Kd.C k77 w A1 l1.length l1) (hc1 : l1.length ≤ c1) (w0 : (l0.length ≤ maxLen ∧ ∀ y0 ∈ l0, ((Lit.int .i64 y0.f0).wf = true ∧ (Lit.int .i64 y0.f1).wf = true))) (w1 : (l1.length ≤ maxLen ∧ ∀ y0 ∈ l1, ((Lit.int .i64 y0.f0).wf = true ∧ (Lit.int .i64 y0.f1).wf = true))) :
    Calls Try.prog 6 #[.slice A0 l0.length c0, .slice A1 l1.length c1] w fun e w' => e = .returned (.bool true) ∧ Below w.heap.size w w' := by
  obtain ⟨k, h⟩ := P l0 l1 w0 w1
  refine (laws_FnExactBestPhase.calls k _ _ l0 _ _ l1 true w hr0 hc0 hr1 hc1 rfl h).mono ?_
  rintro e w' ⟨rfl, hd⟩
  exact ⟨rfl, hd⟩

end Go.Proofs.Ytlgigomahobfbaa.P
end

section
namespace Go.Proofs.Ytlgigomahobfbaa.Pure
open Go.RowKit Go.Proofs.Ytlgigomahobfbaa.P Go.Proofs.YtlgigomahobfbaaW.PrintWords Go.Proofs.YtlgigomahobfbaaW.PrintLast Go.Proofs.YtlgigomahobfbaaW.PrintMore
set_option linter.unusedVariables false
set_option linter.unusedSimpArgs false

def bestM (u du : List Int) : Nat → Int → Int → Int → Int × Int × Int
  | 0, _, b, t => (b, t, 0)
  | d + 1, i, b, t => if consS u du i > t then bestM u du d (i + 1) i (consS u du i) else bestM u du d (i + 1) b t
theorem impl_BestPhase_l0 (m l : List S75) (hm : melB m = true) (hl : melB l = true) (h0 : 0 < l.length) (n : Nat) (hn : n ≤ 3072) : ∀ (d i : Nat) (b t : Int), n - i = d →
    Ev (fun k => impl_BestPhase.l0 k m l b t (n : Int) i) (bestM (unitsM m) (unitsM l) d i b t) := by
  have h3 := unitsM_len m (melB_all hm).1
  have h4 := (melB_all hm).2
  intro d
  induction d with
  | zero =>
    intro i b t hd
    refine Ev.succ ?_
    simp only [impl_BestPhase.l0]
    exact Ev.ite_neg (by omega) (Ev.now _)
  | succ d ih =>
    intro i b t hd
    refine Ev.succ ?_
    simp only [impl_BestPhase.l0]
    refine Ev.ite_pos (by omega) (Ev.bind (impl_consonances_ev m l hm hl h0 i (by omega) (by omega)) (Ev.bind (impl_sum_cons _ _ _ (by omega)) ?_))
    rw [w64 (x := (i : Int) + 1) (by omega) (by omega)]
    simp only [bestM]
    by_cases h : consS (unitsM m) (unitsM l) i > t
    · rw [if_pos h]
      exact Ev.ite_pos h (by simpa using ih (i + 1) i _ (by omega))
    · rw [if_neg h]
      exact Ev.ite_neg h (by simpa using ih (i + 1) b t (by omega))
theorem spec_BestPhase_l0 (m l : List S75) (hm : melB m = true) (hl : melB l = true) (h0 : 0 < l.length) (hn : (unitsM l).length ≤ 3072) : ∀ (d i : Nat) (b t : Int), (unitsM l).length - i = d →
    Ev (fun k => spec_BestPhase.l0 k (unitsM m) (unitsM l) b t i) (bestM (unitsM m) (unitsM l) d i b t) := by
  intro d
  induction d with
  | zero =>
    intro i b t hd
    refine Ev.succ ?_
    simp only [spec_BestPhase.l0]
    exact Ev.ite_neg (by omega) (Ev.now _)
  | succ d ih =>
    intro i b t hd
    refine Ev.succ ?_
    simp only [spec_BestPhase.l0]
    refine Ev.ite_pos (by omega) (Ev.bind (spec_l16Sum_ev m l hm hl h0 i (by omega) (by omega)) ?_)
    rw [w64 (x := (i : Int) + 1) (by omega) (by omega)]
    simp only [bestM]
    by_cases h : consS (unitsM m) (unitsM l) i > t
    · rw [if_pos h]
      exact Ev.ite_pos h (by simpa using ih (i + 1) i _ (by omega))
    · rw [if_neg h]
      exact Ev.ite_neg h (by simpa using ih (i + 1) b t (by omega))
def bestR (m l : List S75) : Int × Int × Int := if (melB m && (melB l && decide (0 < l.length))) = true then bestM (unitsM m) (unitsM l) (unitsM l).length 0 0 (-1) else (0, 0, 1)
theorem impl_BestPhase_ev (m l : List S75) (hm : m.length ≤ 9223372036854775807) (hl : l.length ≤ 9223372036854775807) : Ev (fun k => impl_BestPhase.f k m l) (bestR m l) := by
  unfold impl_BestPhase.f bestR
  refine Ev.bind (impl_ValidMelody_ev m hm) ?_
  cases h1 : melB m with
  | false =>
    refine Ev.ite_neg (by decide) (Ev.succ ?_)
    simp only [impl_BestPhase.j0]
    exact Ev.ite_pos (by decide) (Ev.now _)
  | true =>
    refine Ev.ite_pos rfl (Ev.bind (impl_droneOk_ev l hl) (Ev.succ ?_))
    simp only [impl_BestPhase.j0]
    cases h2 : (melB l && decide (0 < l.length)) with
    | false => exact Ev.ite_pos (by decide) (Ev.now _)
    | true =>
      rw [Bool.and_eq_true, decide_eq_true_eq] at h2
      have h3 := unitsM_len l (melB_all h2.1).1
      have h4 := (melB_all h2.1).2
      refine Ev.ite_neg (by decide) (Ev.bind (impl_durationOf_ev l h2.1) ?_)
      simpa using impl_BestPhase_l0 m l h1 h2.1 h2.2 (unitsM l).length (by omega) (unitsM l).length 0 0 (-1) (by omega)
theorem spec_BestPhase_ev (m l : List S75) (hm : m.length ≤ 9223372036854775807) (hl : l.length ≤ 9223372036854775807) : Ev (fun k => spec_BestPhase.f k m l) (bestR m l) := by
  unfold spec_BestPhase.f bestR
  refine Ev.bind (spec_l09Ok_ev m hm) ?_
  cases h1 : melB m with
  | false =>
    refine Ev.ite_neg (by decide) (Ev.succ ?_)
    simp only [spec_BestPhase.j0]
    exact Ev.ite_pos (by decide) (Ev.now _)
  | true =>
    refine Ev.ite_pos rfl (Ev.bind (spec_l16Drone_ev l hl) (Ev.succ ?_))
    simp only [spec_BestPhase.j0]
    cases h2 : (melB l && decide (0 < l.length)) with
    | false => exact Ev.ite_pos (by decide) (Ev.now _)
    | true =>
      rw [Bool.and_eq_true, decide_eq_true_eq] at h2
      have h3 := unitsM_len l (melB_all h2.1).1
      have h4 := (melB_all h2.1).2
      refine Ev.ite_neg (by decide) (Ev.bind (spec_l16Units_ev m h1) (Ev.bind (spec_l16Units_ev l h2.1) (Ev.bind (spec_l16Sum_ev m l h1 h2.1 h2.2 0 (by omega) (by omega)) ?_)))
      obtain ⟨d, hd⟩ : ∃ d, (unitsM l).length = d + 1 := ⟨(unitsM l).length - 1, by omega⟩
      have hc := consS_bound (unitsM m) (unitsM l) 0
      refine Ev.cast (by simpa using spec_BestPhase_l0 m l h1 h2.1 h2.2 (by omega) d 1 0 (consS (unitsM m) (unitsM l) 0) (by omega)) ?_
      rw [if_pos (by decide), hd]
      simp only [bestM]
      rw [if_pos (by omega)]
      rfl
theorem FnExactBestPhase : laws_FnExactBestPhase.Pure := by
  intro a b ⟨ha, _⟩ ⟨hb, _⟩
  refine Ev.out (r := true) ?_
  unfold laws_FnExactBestPhase.f
  refine Ev.bindc (szNoteS_eq a _ (by omega) (by omega) (Nat.le_trans ha (by decide))) ?_
  by_cases h : (1048576 : Int) - a.length < 0
  · rw [if_pos h]
    exact Ev.ite_pos (by omega) (Ev.now _)
  rw [if_neg h]
  refine Ev.ite_neg h ?_
  refine Ev.bindc (szNoteS_eq b _ (by omega) (by omega) (Nat.le_trans hb (by decide))) ?_
  by_cases h' : (1048576 : Int) - a.length - b.length < 0
  · rw [if_pos h']
    exact Ev.ite_pos (by omega) (Ev.now _)
  rw [if_neg h']
  refine Ev.ite_neg h' ?_
  have hs := toNoteS_ev a (by omega)
  have ht := toNoteS_ev b (by omega)
  have hm : (a.map noteOf).length ≤ 9223372036854775807 := by simp; omega
  have hn : (b.map noteOf).length ≤ 9223372036854775807 := by simp; omega
  refine Ev.bind hs (Ev.bind ht ?_)
  refine Ev.bind (spec_BestPhase_ev _ _ hm hn) ?_
  refine Ev.bind hs (Ev.bind ht ?_)
  refine Ev.bind (impl_BestPhase_ev _ _ hm hn) ?_
  refine Ev.ite_pos rfl (Ev.ite_pos rfl ?_)
  refine Ev.succ ?_
  simp only [laws_FnExactBestPhase.j0]
  refine Ev.ite_neg (by simp) ?_
  refine Ev.bind hs ?_
  refine Ev.bind (eqNoteS_self _ hm) ?_
  refine Ev.ite_pos rfl ?_
  refine Ev.bind ht ?_
  refine Ev.bind (eqNoteS_self _ hn) ?_
  exact Ev.ite_pos rfl (Ev.now _)

end Go.Proofs.Ytlgigomahobfbaa.Pure
end
