/- The pure statement of FnExactShuffleNotes. No condition. -/
import Derived.Test.YtlgigomahobfbaaGSN1
import Derived.Test.YtlgigomahobfbaaGSN2
section
namespace Go.Proofs.Ytlgigomahobfbaa.P
open Go.RowKit Go.Proofs.YtlgigomahobfbaaW.PrintWords Go.Proofs.YtlgigomahobfbaaW.PrintLast Go.Proofs.YtlgigomahobfbaaW.PrintMore
attribute [local go_sem] max2_int min2_int max_two min_two max_three min_three max_four min_four   -- for this text's walks alone
set_option linter.unusedVariables false
set_option linter.unusedSimpArgs false

/-! ### laws_FnExactShuffleNotes: function 12 -/
mutual
def laws_FnExactShuffleNotes.j0 : Nat → List (S77) → Int → List (S75) → Int → List (S75) → List (S75) → Int → Bool → Option (Bool)
  | 0, _, _, _, _, _, _, _, _ => none
  | k + 1, x0, x1, x6, x7, x8, x9, x10, x44 => if x44 = true then (some false) else ((laws_toNoteS.f k x0).bind fun t832 => ((laws_eqNoteS.f k x8 t832).bind fun t835 => (if t835 = true then ((laws_markNoteS.f k x8 1).bind fun bt836 => (if bt836.1 < 0 then (laws_FnExactShuffleNotes.j1 k x0 x1 x6 x7 x9 true) else ((laws_eqNoteS.f k x9 x6).bind fun t838 => (if t838 = true then (laws_FnExactShuffleNotes.j1 k x0 x1 x6 x7 x9 (x10 != x7)) else (laws_FnExactShuffleNotes.j1 k x0 x1 x6 x7 x9 true))))) else (some false))))
def laws_FnExactShuffleNotes.j1 : Nat → List (S77) → Int → List (S75) → Int → List (S75) → Bool → Option (Bool)
  | 0, _, _, _, _, _, _ => none
  | k + 1, x0, x1, x6, x7, x9, x65 => if x65 = true then (some false) else ((laws_markNoteS.f k x9 1).bind fun bt839 => ((laws_heldNoteS.f k bt839.2 1).bind fun t841 => (if t841 < 0 then (some false) else (if t841 = bt839.1 then ((laws_toNoteS.f k x0).bind fun t842 => ((impl_ShuffleNotes.f k t842 x1).bind fun bt845 => ((laws_eqNoteS.f k bt845.1 x6).bind fun t849 => (if t849 = true then (laws_FnExactShuffleNotes.j2 k bt839.2 bt839.1 (bt845.2 != x7)) else (laws_FnExactShuffleNotes.j2 k bt839.2 bt839.1 true))))) else (some false)))))
def laws_FnExactShuffleNotes.j2 : Nat → List (S75) → Int → Bool → Option (Bool)
  | 0, _, _, _ => none
  | k + 1, x9, x12, x92 => if x92 = true then (some false) else ((laws_heldNoteS.f k x9 1).bind fun t850 => (if t850 < 0 then (some false) else (if t850 = x12 then (some true) else (some false))))
end
def laws_FnExactShuffleNotes.f (k : Nat) (l0 : List (S77)) (a1 : Int) : Option (Bool) := (laws_szNoteS.f l0 1048576).bind fun t816 => (if t816 < 0 then (some true) else ((laws_toNoteS.f k l0).bind fun t817 => ((spec_ShuffleNotes.f k t817 a1).bind fun bt820 => ((laws_toNoteS.f k l0).bind fun t824 => ((impl_ShuffleNotes.f k t824 a1).bind fun bt827 => ((laws_eqNoteS.f k bt827.1 bt820.1).bind fun t831 => (if t831 = true then (laws_FnExactShuffleNotes.j0 k l0 a1 bt820.1 bt820.2 t824 bt827.1 bt827.2 (bt827.2 != bt820.2)) else (laws_FnExactShuffleNotes.j0 k l0 a1 bt820.1 bt820.2 t824 bt827.1 bt827.2 true))))))))
theorem laws_FnExactShuffleNotes.mono_l : ∀ k, (∀ y0 y1 y2 y3 y4 y5 y6 y7, LeO (laws_FnExactShuffleNotes.j0 k y0 y1 y2 y3 y4 y5 y6 y7) (laws_FnExactShuffleNotes.j0 (k + 1) y0 y1 y2 y3 y4 y5 y6 y7)) ∧ (∀ y0 y1 y2 y3 y4 y5, LeO (laws_FnExactShuffleNotes.j1 k y0 y1 y2 y3 y4 y5) (laws_FnExactShuffleNotes.j1 (k + 1) y0 y1 y2 y3 y4 y5)) ∧ (∀ y0 y1 y2, LeO (laws_FnExactShuffleNotes.j2 k y0 y1 y2) (laws_FnExactShuffleNotes.j2 (k + 1) y0 y1 y2))
  | 0 => ⟨fun _ _ _ _ _ _ _ _ r h => by simp [laws_FnExactShuffleNotes.j0] at h, fun _ _ _ _ _ _ r h => by simp [laws_FnExactShuffleNotes.j1] at h, fun _ _ _ r h => by simp [laws_FnExactShuffleNotes.j2] at h⟩
  | k + 1 => by
    obtain ⟨ih0, ih1, ih2⟩ := laws_FnExactShuffleNotes.mono_l k
    refine ⟨?_, ?_, ?_⟩
    · intro y0 y1 y2 y3 y4 y5 y6 y7
      unfold laws_FnExactShuffleNotes.j0
      repeat' first
      | (with_reducible exact ih0 _ _ _ _ _ _ _ _)
      | (with_reducible exact ih1 _ _ _ _ _ _)
      | (with_reducible exact ih2 _ _ _)
      | (with_reducible exact impl_ShuffleNotes.mono _ _ _)
      | (with_reducible exact laws_eqNoteS.mono _ _ _)
      | (with_reducible exact laws_heldNoteS.mono _ _ _)
      | (with_reducible exact laws_markNoteS.mono _ _ _)
      | (with_reducible exact laws_toNoteS.mono _ _)
      | (with_reducible exact spec_ShuffleNotes.mono _ _ _)
      | (with_reducible exact LeO.refl _)
      | (with_reducible exact LeO.none _)
      | (with_reducible refine LeO.ite ?_ ?_)
      | (with_reducible refine LeO.bind ?_ (fun _ => ?_))
      | exact ih0 _ _ _ _ _ _ _ _
      | exact ih1 _ _ _ _ _ _
      | exact ih2 _ _ _
      | exact impl_ShuffleNotes.mono _ _ _
      | exact laws_eqNoteS.mono _ _ _
      | exact laws_heldNoteS.mono _ _ _
      | exact laws_markNoteS.mono _ _ _
      | exact laws_toNoteS.mono _ _
      | exact spec_ShuffleNotes.mono _ _ _
      | exact LeO.none _
      | refine LeO.ite ?_ ?_
      | refine LeO.bind ?_ (fun _ => ?_)
    · intro y0 y1 y2 y3 y4 y5
      unfold laws_FnExactShuffleNotes.j1
      repeat' first
      | (with_reducible exact ih0 _ _ _ _ _ _ _ _)
      | (with_reducible exact ih1 _ _ _ _ _ _)
      | (with_reducible exact ih2 _ _ _)
      | (with_reducible exact impl_ShuffleNotes.mono _ _ _)
      | (with_reducible exact laws_eqNoteS.mono _ _ _)
      | (with_reducible exact laws_heldNoteS.mono _ _ _)
      | (with_reducible exact laws_markNoteS.mono _ _ _)
      | (with_reducible exact laws_toNoteS.mono _ _)
      | (with_reducible exact spec_ShuffleNotes.mono _ _ _)
      | (with_reducible exact LeO.refl _)
      | (with_reducible exact LeO.none _)
      | (with_reducible refine LeO.ite ?_ ?_)
      | (with_reducible refine LeO.bind ?_ (fun _ => ?_))
      | exact ih0 _ _ _ _ _ _ _ _
      | exact ih1 _ _ _ _ _ _
      | exact ih2 _ _ _
      | exact impl_ShuffleNotes.mono _ _ _
      | exact laws_eqNoteS.mono _ _ _
      | exact laws_heldNoteS.mono _ _ _
      | exact laws_markNoteS.mono _ _ _
      | exact laws_toNoteS.mono _ _
      | exact spec_ShuffleNotes.mono _ _ _
      | exact LeO.none _
      | refine LeO.ite ?_ ?_
      | refine LeO.bind ?_ (fun _ => ?_)
    · intro y0 y1 y2
      unfold laws_FnExactShuffleNotes.j2
      repeat' first
      | (with_reducible exact ih0 _ _ _ _ _ _ _ _)
      | (with_reducible exact ih1 _ _ _ _ _ _)
      | (with_reducible exact ih2 _ _ _)
      | (with_reducible exact impl_ShuffleNotes.mono _ _ _)
      | (with_reducible exact laws_eqNoteS.mono _ _ _)
      | (with_reducible exact laws_heldNoteS.mono _ _ _)
      | (with_reducible exact laws_markNoteS.mono _ _ _)
      | (with_reducible exact laws_toNoteS.mono _ _)
      | (with_reducible exact spec_ShuffleNotes.mono _ _ _)
      | (with_reducible exact LeO.refl _)
      | (with_reducible exact LeO.none _)
      | (with_reducible refine LeO.ite ?_ ?_)
      | (with_reducible refine LeO.bind ?_ (fun _ => ?_))
      | exact ih0 _ _ _ _ _ _ _ _
      | exact ih1 _ _ _ _ _ _
      | exact ih2 _ _ _
      | exact impl_ShuffleNotes.mono _ _ _
      | exact laws_eqNoteS.mono _ _ _
      | exact laws_heldNoteS.mono _ _ _
      | exact laws_markNoteS.mono _ _ _
      | exact laws_toNoteS.mono _ _
      | exact spec_ShuffleNotes.mono _ _ _
      | exact LeO.none _
      | refine LeO.ite ?_ ?_
      | refine LeO.bind ?_ (fun _ => ?_)
theorem laws_FnExactShuffleNotes.mono : ∀ a0 a1 k, LeO (laws_FnExactShuffleNotes.f k a0 a1) (laws_FnExactShuffleNotes.f (k + 1) a0 a1) := by
  intro a0 a1 k
  obtain ⟨ih0, ih1, ih2⟩ := laws_FnExactShuffleNotes.mono_l k
  unfold laws_FnExactShuffleNotes.f
  repeat' first
      | (with_reducible exact ih0 _ _ _ _ _ _ _ _)
      | (with_reducible exact ih1 _ _ _ _ _ _)
      | (with_reducible exact ih2 _ _ _)
      | (with_reducible exact impl_ShuffleNotes.mono _ _ _)
      | (with_reducible exact laws_eqNoteS.mono _ _ _)
      | (with_reducible exact laws_heldNoteS.mono _ _ _)
      | (with_reducible exact laws_markNoteS.mono _ _ _)
      | (with_reducible exact laws_toNoteS.mono _ _)
      | (with_reducible exact spec_ShuffleNotes.mono _ _ _)
      | (with_reducible exact LeO.refl _)
      | (with_reducible exact LeO.none _)
      | (with_reducible refine LeO.ite ?_ ?_)
      | (with_reducible refine LeO.bind ?_ (fun _ => ?_))
      | exact ih0 _ _ _ _ _ _ _ _
      | exact ih1 _ _ _ _ _ _
      | exact ih2 _ _ _
      | exact impl_ShuffleNotes.mono _ _ _
      | exact laws_eqNoteS.mono _ _ _
      | exact laws_heldNoteS.mono _ _ _
      | exact laws_markNoteS.mono _ _ _
      | exact laws_toNoteS.mono _ _
      | exact spec_ShuffleNotes.mono _ _ _
      | exact LeO.none _
      | refine LeO.ite ?_ ?_
      | refine LeO.bind ?_ (fun _ => ?_)
set_option maxHeartbeats 8000000 in
set_option maxRecDepth 100000 in
theorem laws_FnExactShuffleNotes.calls (k : Nat) (A0 : Option Addr) (c0 : Nat) (l0 : List (S77)) (a1 : Int) (r : Bool) (w : World) (hr0 : Kd.C k77 w A0 l0.length l0) (hc0 : l0.length ≤ c0) (hT : r = true) (h : laws_FnExactShuffleNotes.f k l0 a1 = some r) :
    Calls Try.prog 12 #[.slice A0 l0.length c0, .int .i64 a1] w fun e w' => e = .returned (.bool r) ∧ Below w.heap.size w w' := by
  have HR0 := Aside0.mk hr0
  have HC0 := Aside0.mk hc0
  clear hr0 hc0
  have HT := Aside0.mk hT
  clear hT
  have HB := Aside0.mk (Below.refl w.heap.size w)
  have H : ((laws_szNoteS.f l0 1048576).bind fun t816 => (if t816 < 0 then (some true) else ((laws_toNoteS.f k l0).bind fun t817 => ((spec_ShuffleNotes.f k t817 a1).bind fun bt820 => ((laws_toNoteS.f k l0).bind fun t824 => ((impl_ShuffleNotes.f k t824 a1).bind fun bt827 => ((laws_eqNoteS.f k bt827.1 bt820.1).bind fun t831 => (if t831 = true then (laws_FnExactShuffleNotes.j0 k l0 a1 bt820.1 bt820.2 t824 bt827.1 bt827.2 (bt827.2 != bt820.2)) else (laws_FnExactShuffleNotes.j0 k l0 a1 bt820.1 bt820.2 t824 bt827.1 bt827.2 true))))))))) = some r := h
  clear h
  replace H := Option.bind_eq_some_iff.mp H
  obtain ⟨t816, A30, H⟩ := H
  replace H : (if t816 < 0 then (some true) else ((laws_toNoteS.f k l0).bind fun t817 => ((spec_ShuffleNotes.f k t817 a1).bind fun bt820 => ((laws_toNoteS.f k l0).bind fun t824 => ((impl_ShuffleNotes.f k t824 a1).bind fun bt827 => ((laws_eqNoteS.f k bt827.1 bt820.1).bind fun t831 => (if t831 = true then (laws_FnExactShuffleNotes.j0 k l0 a1 bt820.1 bt820.2 t824 bt827.1 bt827.2 (bt827.2 != bt820.2)) else (laws_FnExactShuffleNotes.j0 k l0 a1 bt820.1 bt820.2 t824 bt827.1 bt827.2 true)))))))) = some r := H
  have A3 := Aside0.mk A30
  clear A30
  by_cases c4 : t816 < 0
  · rw [if_pos c4] at H
    have c4b0 : decide (t816 < 0) = true := decide_eq_true c4
    clear c4
    obtain rfl := Option.some.inj H
    go_enter Try.func12, Try.ntmps12
    go_wp2_with (first | ((with_reducible refine gate_callee (f := 15) rfl ?_); refine goesL_ (some 18) rfl rfl Try.func15 (by kernel_rfl) rfl #[.slice A0 l0.length c0, .int .i64 1048576] rfl (by (try simp only [List.map_toArray, List.map_cons, List.map_nil]); first | done | rfl | (simp only [List.length_drop, List.length_take]; rfl)) ?_; (with_reducible refine (laws_szNoteS.calls _ _ l0 1048576 t816 _ ?side1 ?side2 A3.out).mono ?_); (case side1 => repeat (first | exact HR0.out | (with_reducible refine Kd.C_alloc ?_ _) | (with_reducible refine Kd.C_drewN ?_ _) | (with_reducible refine Kd.C_drew ?_))); (case side2 => exact HC0.out); rintro e w' ⟨rfl, ⟨nd, rfl⟩⟩; refine ⟨_, rfl, ?_⟩))
    go_ret
    exact ⟨by first | rfl | (simp [errW_none, errW_some] <;> rfl) | (simp [*, errW_none, errW_some] <;> rfl), by repeat (first | (with_reducible first | exact HB.out | apply below_alloc | apply pw_below_drewN | apply below_drew1) | exact HB.out)⟩
  · rw [if_neg c4] at H
    have c4b0 : decide (t816 < 0) = false := decide_eq_false c4
    clear c4
    replace H := Option.bind_eq_some_iff.mp H
    obtain ⟨t817, A50, H⟩ := H
    replace H : ((spec_ShuffleNotes.f k t817 a1).bind fun bt820 => ((laws_toNoteS.f k l0).bind fun t824 => ((impl_ShuffleNotes.f k t824 a1).bind fun bt827 => ((laws_eqNoteS.f k bt827.1 bt820.1).bind fun t831 => (if t831 = true then (laws_FnExactShuffleNotes.j0 k l0 a1 bt820.1 bt820.2 t824 bt827.1 bt827.2 (bt827.2 != bt820.2)) else (laws_FnExactShuffleNotes.j0 k l0 a1 bt820.1 bt820.2 t824 bt827.1 bt827.2 true)))))) = some r := H
    have A5 := Aside0.mk A50
    clear A50
    replace H := Option.bind_eq_some_iff.mp H
    obtain ⟨⟨t820, t821⟩, A60, H⟩ := H
    replace H : ((laws_toNoteS.f k l0).bind fun t824 => ((impl_ShuffleNotes.f k t824 a1).bind fun bt827 => ((laws_eqNoteS.f k bt827.1 t820).bind fun t831 => (if t831 = true then (laws_FnExactShuffleNotes.j0 k l0 a1 t820 t821 t824 bt827.1 bt827.2 (bt827.2 != t821)) else (laws_FnExactShuffleNotes.j0 k l0 a1 t820 t821 t824 bt827.1 bt827.2 true))))) = some r := H
    have A6 := Aside0.mk A60
    clear A60
    replace H := Option.bind_eq_some_iff.mp H
    obtain ⟨t824, A70, H⟩ := H
    replace H : ((impl_ShuffleNotes.f k t824 a1).bind fun bt827 => ((laws_eqNoteS.f k bt827.1 t820).bind fun t831 => (if t831 = true then (laws_FnExactShuffleNotes.j0 k l0 a1 t820 t821 t824 bt827.1 bt827.2 (bt827.2 != t821)) else (laws_FnExactShuffleNotes.j0 k l0 a1 t820 t821 t824 bt827.1 bt827.2 true)))) = some r := H
    have A7 := Aside0.mk A70
    clear A70
    replace H := Option.bind_eq_some_iff.mp H
    obtain ⟨⟨t827, t828⟩, A80, H⟩ := H
    replace H : ((laws_eqNoteS.f k t827 t820).bind fun t831 => (if t831 = true then (laws_FnExactShuffleNotes.j0 k l0 a1 t820 t821 t824 t827 t828 (t828 != t821)) else (laws_FnExactShuffleNotes.j0 k l0 a1 t820 t821 t824 t827 t828 true))) = some r := H
    have A8 := Aside0.mk A80
    clear A80
    have HC9 := Aside0.mk H
    clear H
    go_enter Try.func12, Try.ntmps12
    go_upto_region 8 with (first | ((with_reducible refine gate_callee (f := 15) rfl ?_); refine goesL_ (some 18) rfl rfl Try.func15 (by kernel_rfl) rfl #[.slice A0 l0.length c0, .int .i64 1048576] rfl (by (try simp only [List.map_toArray, List.map_cons, List.map_nil]); first | done | rfl | (simp only [List.length_drop, List.length_take]; rfl)) ?_; (with_reducible refine (laws_szNoteS.calls _ _ l0 1048576 t816 _ ?side1 ?side2 A3.out).mono ?_); (case side1 => repeat (first | exact HR0.out | (with_reducible refine Kd.C_alloc ?_ _) | (with_reducible refine Kd.C_drewN ?_ _) | (with_reducible refine Kd.C_drew ?_))); (case side2 => exact HC0.out); rintro e w' ⟨rfl, ⟨nd, rfl⟩⟩; refine ⟨_, rfl, ?_⟩) | ((with_reducible refine gate_callee (f := 17) rfl ?_); refine goesL_ (some 23) rfl rfl Try.func17 (by kernel_rfl) rfl #[.slice A0 l0.length c0] rfl (by (try simp only [List.map_toArray, List.map_cons, List.map_nil]); first | done | rfl | (simp only [List.length_drop, List.length_take]; rfl)) ?_; (with_reducible refine (laws_toNoteS.calls k _ _ l0 t817 _ ?side1 ?side2 A5.out).mono ?_); (case side1 => repeat (first | exact HR0.out | (with_reducible refine Kd.C_alloc ?_ _) | (with_reducible refine Kd.C_drewN ?_ _) | (with_reducible refine Kd.C_drew ?_))); (case side2 => exact HC0.out); rintro e w10 ⟨v818, rfl, ho0, hb⟩; refine ⟨_, rfl, ?_⟩; have n0_ := Aside0.mk (Kd.R_lower ho0 (below_size (by repeat (first | (with_reducible first | exact HB.out | apply below_alloc | apply pw_below_drewN | apply below_drew1) | exact HB.out)))); have n1_ := Aside0.mk (below_step (by repeat (first | (with_reducible first | exact HB.out | apply below_alloc | apply pw_below_drewN | apply below_drew1) | exact HB.out)) hb); clear HB; have HO819 := n0_; have HB := n1_; clear n0_ n1_; (try clear hb); (try clear hb2); (try clear hk); (try clear hi); (try clear ho0); obtain ⟨Ao11, co11, eo11⟩ := Kd.R_slice HO819.out; subst eo11) | ((with_reducible refine gate_callee (f := 44) rfl ?_); refine goesL_ (some 25) rfl rfl Try.func44 (by kernel_rfl) rfl #[.slice Ao11 t817.length co11, .int .i64 a1] rfl (by (try simp only [List.map_toArray, List.map_cons, List.map_nil]); first | done | rfl | (simp only [List.length_drop, List.length_take]; rfl)) ?_; (with_reducible refine (spec_ShuffleNotes.calls k _ _ t817 a1 t820 t821 _ ?side1 ?side2 A6.out).mono ?_); (case side1 => repeat (first | exact (Kd.R_reads' HO819.out).2.2 | (with_reducible refine Kd.C_alloc ?_ _) | (with_reducible refine Kd.C_drewN ?_ _) | (with_reducible refine Kd.C_drew ?_))); (case side2 => exact (Kd.R_reads' HO819.out).2.1); rintro e w12 ⟨v822, rfl, ho0, hb⟩; refine ⟨_, rfl, ?_⟩; have n0_ := Aside0.mk (Kd.R_elder' (by (with_reducible repeat (first | apply Kd.R_alloc | apply Kd.R_drewN | apply Kd.R_drew)); exact HO819.out) (Kd.R_base ho0) hb); have n1_ := Aside0.mk (Kd.R_lower (Kd.R_new' ho0 (Kd.R_lt (by (with_reducible repeat (first | apply Kd.R_alloc | apply Kd.R_drewN | apply Kd.R_drew)); exact HO819.out))) (below_size (by repeat (first | (with_reducible first | exact HB.out | apply below_alloc | apply pw_below_drewN | apply below_drew1) | exact HB.out)))); have n2_ := Aside0.mk (below_step (by repeat (first | (with_reducible first | exact HB.out | apply below_alloc | apply pw_below_drewN | apply below_drew1) | exact HB.out)) hb); clear HO819; clear HB; have HO819 := n0_; have HO823 := n1_; have HB := n2_; clear n0_ n1_ n2_; (try clear hb); (try clear hb2); (try clear hk); (try clear hi); (try clear ho0)) | ((with_reducible refine gate_callee (f := 17) rfl ?_); refine goesL_ (some 29) rfl rfl Try.func17 (by kernel_rfl) rfl #[.slice A0 l0.length c0] rfl (by (try simp only [List.map_toArray, List.map_cons, List.map_nil]); first | done | rfl | (simp only [List.length_drop, List.length_take]; rfl)) ?_; (with_reducible refine (laws_toNoteS.calls k _ _ l0 t824 _ ?side1 ?side2 A7.out).mono ?_); (case side1 => repeat (first | exact (Kd.C_below HR0.out HB.out) | (with_reducible refine Kd.C_alloc ?_ _) | (with_reducible refine Kd.C_drewN ?_ _) | (with_reducible refine Kd.C_drew ?_))); (case side2 => exact HC0.out); rintro e w13 ⟨v825, rfl, ho0, hb⟩; refine ⟨_, rfl, ?_⟩; have n0_ := Aside0.mk (Kd.R_elder' (by (with_reducible repeat (first | apply Kd.R_alloc | apply Kd.R_drewN | apply Kd.R_drew)); exact HO819.out) (Kd.R_base ho0) hb); have n1_ := Aside0.mk (Kd.R_elder' (by (with_reducible repeat (first | apply Kd.R_alloc | apply Kd.R_drewN | apply Kd.R_drew)); exact HO823.out) (Kd.R_base ho0) hb); have n2_ := Aside0.mk (Kd.R_lower (Kd.R_new' (Kd.R_new' ho0 (Kd.R_lt (by (with_reducible repeat (first | apply Kd.R_alloc | apply Kd.R_drewN | apply Kd.R_drew)); exact HO819.out))) (Kd.R_lt (by (with_reducible repeat (first | apply Kd.R_alloc | apply Kd.R_drewN | apply Kd.R_drew)); exact HO823.out))) (below_size (by repeat (first | (with_reducible first | exact HB.out | apply below_alloc | apply pw_below_drewN | apply below_drew1) | exact HB.out)))); have n3_ := Aside0.mk (below_step (by repeat (first | (with_reducible first | exact HB.out | apply below_alloc | apply pw_below_drewN | apply below_drew1) | exact HB.out)) hb); clear HO819; clear HO823; clear HB; have HO819 := n0_; have HO823 := n1_; have HO826 := n2_; have HB := n3_; clear n0_ n1_ n2_ n3_; (try clear hb); (try clear hb2); (try clear hk); (try clear hi); (try clear ho0); obtain ⟨Ao14, co14, eo14⟩ := Kd.R_slice HO826.out; subst eo14) | ((with_reducible refine gate_callee (f := 45) rfl ?_); refine goesL_ (some 33) rfl rfl Try.func45 (by kernel_rfl) rfl #[.slice Ao14 t824.length co14, .int .i64 a1] rfl (by (try simp only [List.map_toArray, List.map_cons, List.map_nil]); first | done | rfl | (simp only [List.length_drop, List.length_take]; rfl)) ?_; (with_reducible refine (impl_ShuffleNotes.calls k _ _ t824 a1 t827 t828 _ ?side1 ?side2 A8.out).mono ?_); (case side1 => repeat (first | exact (Kd.R_reads' HO826.out).2.2 | (with_reducible refine Kd.C_alloc ?_ _) | (with_reducible refine Kd.C_drewN ?_ _) | (with_reducible refine Kd.C_drew ?_))); (case side2 => exact (Kd.R_reads' HO826.out).2.1); rintro e w15 ⟨v829, rfl, ho0, hb⟩; refine ⟨_, rfl, ?_⟩; have n0_ := Aside0.mk (Kd.R_elder' (by (with_reducible repeat (first | apply Kd.R_alloc | apply Kd.R_drewN | apply Kd.R_drew)); exact HO819.out) (Kd.R_base ho0) hb); have n1_ := Aside0.mk (Kd.R_elder' (by (with_reducible repeat (first | apply Kd.R_alloc | apply Kd.R_drewN | apply Kd.R_drew)); exact HO823.out) (Kd.R_base ho0) hb); have n2_ := Aside0.mk (Kd.R_elder' (by (with_reducible repeat (first | apply Kd.R_alloc | apply Kd.R_drewN | apply Kd.R_drew)); exact HO826.out) (Kd.R_base ho0) hb); have n3_ := Aside0.mk (Kd.R_lower (Kd.R_new' (Kd.R_new' (Kd.R_new' ho0 (Kd.R_lt (by (with_reducible repeat (first | apply Kd.R_alloc | apply Kd.R_drewN | apply Kd.R_drew)); exact HO819.out))) (Kd.R_lt (by (with_reducible repeat (first | apply Kd.R_alloc | apply Kd.R_drewN | apply Kd.R_drew)); exact HO823.out))) (Kd.R_lt (by (with_reducible repeat (first | apply Kd.R_alloc | apply Kd.R_drewN | apply Kd.R_drew)); exact HO826.out))) (below_size (by repeat (first | (with_reducible first | exact HB.out | apply below_alloc | apply pw_below_drewN | apply below_drew1) | exact HB.out)))); have n4_ := Aside0.mk (below_step (by repeat (first | (with_reducible first | exact HB.out | apply below_alloc | apply pw_below_drewN | apply below_drew1) | exact HB.out)) hb); clear HO819; clear HO823; clear HO826; clear HB; have HO819 := n0_; have HO823 := n1_; have HO826 := n2_; have HO830 := n3_; have HB := n4_; clear n0_ n1_ n2_ n3_ n4_; (try clear hb); (try clear hb2); (try clear hk); (try clear hi); (try clear ho0)))
    (try simp only [Act.put, List.setIfInBounds_toArray, List.set_cons_zero, List.set_cons_succ])
    go_cut [44] (fun v44 wc => ∃ (kq : Nat) (x44_8 : Bool), v44 = .bool x44_8 ∧ Aside0 (laws_FnExactShuffleNotes.j0 kq l0 a1 t820 t821 t824 t827 t828 x44_8 = some r) ∧ Aside0 (kq ≤ k) ∧ Aside0 (Kd.R k75 75 wc w.heap.size (fun k_ => some k_ ≠ ((.slice Ao14 t824.length co14) : Value).ownBlock ∧ some k_ ≠ (v829 : Value).ownBlock) v822 t820) ∧ Aside0 (Kd.R k75 75 wc w.heap.size (fun k_ => some k_ ≠ (v822 : Value).ownBlock ∧ some k_ ≠ (v829 : Value).ownBlock) (.slice Ao14 t824.length co14) t824) ∧ Aside0 (Kd.R k75 75 wc w.heap.size (fun k_ => some k_ ≠ (v822 : Value).ownBlock ∧ some k_ ≠ ((.slice Ao14 t824.length co14) : Value).ownBlock) v829 t827) ∧ Aside0 (Below w.heap.size w wc))
    case first =>
      have H := HC9.out
      clear HC9
      replace H := Option.bind_eq_some_iff.mp H
      obtain ⟨t831, A160, H⟩ := H
      replace H : (if t831 = true then (laws_FnExactShuffleNotes.j0 k l0 a1 t820 t821 t824 t827 t828 (t828 != t821)) else (laws_FnExactShuffleNotes.j0 k l0 a1 t820 t821 t824 t827 t828 true)) = some r := H
      have A16 := Aside0.mk A160
      clear A160
      by_cases c17 : t831 = true
      · subst c17
        have H1 : (laws_FnExactShuffleNotes.j0 k l0 a1 t820 t821 t824 t827 t828 (t828 != t821)) = some r := by rw [if_pos rfl] at H; exact H
        clear H
        have H := H1
        clear H1
        have H' := Aside0.mk H
        clear H
        obtain ⟨Ao18, co18, eo18⟩ := Kd.R_slice HO830.out
        subst eo18
        obtain ⟨Ao19, co19, eo19⟩ := Kd.R_slice HO823.out
        subst eo19
        go_wp2_with (first | ((with_reducible refine gate_callee (f := 19) rfl ?_); refine goesL_ (some 38) rfl rfl Try.func19 (by kernel_rfl) rfl #[.slice Ao18 t827.length co18, .slice Ao19 t820.length co19] rfl (by (try simp only [List.map_toArray, List.map_cons, List.map_nil]); first | done | rfl | (simp only [List.length_drop, List.length_take]; rfl)) ?_; (with_reducible refine (laws_eqNoteS.calls k _ _ t827 _ _ t820 true _ ?side1 ?side2 ?side3 ?side4 A16.out).mono ?_); (case side1 => repeat (first | exact (Kd.R_reads' HO830.out).2.2 | (with_reducible refine Kd.C_alloc ?_ _) | (with_reducible refine Kd.C_drewN ?_ _) | (with_reducible refine Kd.C_drew ?_))); (case side2 => exact (Kd.R_reads' HO830.out).2.1); (case side3 => repeat (first | exact (Kd.R_reads' HO823.out).2.2 | (with_reducible refine Kd.C_alloc ?_ _) | (with_reducible refine Kd.C_drewN ?_ _) | (with_reducible refine Kd.C_drew ?_))); (case side4 => exact (Kd.R_reads' HO823.out).2.1); rintro e w20 ⟨rfl, hb⟩; refine ⟨_, rfl, ?_⟩; have n0_ := Aside0.mk (Kd.R_below (by (with_reducible repeat (first | apply Kd.R_alloc | apply Kd.R_drewN | apply Kd.R_drew)); exact HO819.out) hb); have n1_ := Aside0.mk (Kd.R_below (by (with_reducible repeat (first | apply Kd.R_alloc | apply Kd.R_drewN | apply Kd.R_drew)); exact HO823.out) hb); have n2_ := Aside0.mk (Kd.R_below (by (with_reducible repeat (first | apply Kd.R_alloc | apply Kd.R_drewN | apply Kd.R_drew)); exact HO826.out) hb); have n3_ := Aside0.mk (Kd.R_below (by (with_reducible repeat (first | apply Kd.R_alloc | apply Kd.R_drewN | apply Kd.R_drew)); exact HO830.out) hb); have n4_ := Aside0.mk (below_step (by repeat (first | (with_reducible first | exact HB.out | apply below_alloc | apply pw_below_drewN | apply below_drew1) | exact HB.out)) hb); clear HO819; clear HO823; clear HO826; clear HO830; clear HB; have HO819 := n0_; have HO823 := n1_; have HO826 := n2_; have HO830 := n3_; have HB := n4_; clear n0_ n1_ n2_ n3_ n4_; (try clear hb); (try clear hb2); (try clear hk); (try clear hi)))
        go_meet
        case rel => exact ⟨_, ((t828 != t821)), (by first | rfl | (simp; done) | (simp [*]; done)), H', ⟨by first | omega | exact Nat.le_refl _⟩, ⟨by (with_reducible repeat (first | apply Kd.R_alloc | apply Kd.R_drewN | apply Kd.R_drew)); exact Kd.R_mono HO823.out (fun _ hk => ⟨hk.1.2, hk.2⟩)⟩, ⟨by (with_reducible repeat (first | apply Kd.R_alloc | apply Kd.R_drewN | apply Kd.R_drew)); exact Kd.R_mono HO826.out (fun _ hk => ⟨hk.1.2, hk.2⟩)⟩, ⟨by (with_reducible repeat (first | apply Kd.R_alloc | apply Kd.R_drewN | apply Kd.R_drew)); exact Kd.R_mono HO830.out (fun _ hk => ⟨hk.1.2, hk.2⟩)⟩, ⟨by repeat (first | (with_reducible first | exact HB.out | apply below_alloc | apply pw_below_drewN | apply below_drew1) | exact HB.out)⟩⟩
      · replace c17 := Bool.eq_false_iff.mpr c17
        subst c17
        have H1 : (laws_FnExactShuffleNotes.j0 k l0 a1 t820 t821 t824 t827 t828 true) = some r := by rw [if_neg (show ¬ (false = true) by decide)] at H; exact H
        clear H
        have H := H1
        clear H1
        have H' := Aside0.mk H
        clear H
        obtain ⟨Ao21, co21, eo21⟩ := Kd.R_slice HO830.out
        subst eo21
        obtain ⟨Ao22, co22, eo22⟩ := Kd.R_slice HO823.out
        subst eo22
        go_wp2_with (first | ((with_reducible refine gate_callee (f := 19) rfl ?_); refine goesL_ (some 38) rfl rfl Try.func19 (by kernel_rfl) rfl #[.slice Ao21 t827.length co21, .slice Ao22 t820.length co22] rfl (by (try simp only [List.map_toArray, List.map_cons, List.map_nil]); first | done | rfl | (simp only [List.length_drop, List.length_take]; rfl)) ?_; (with_reducible refine (laws_eqNoteS.calls k _ _ t827 _ _ t820 false _ ?side1 ?side2 ?side3 ?side4 A16.out).mono ?_); (case side1 => repeat (first | exact (Kd.R_reads' HO830.out).2.2 | (with_reducible refine Kd.C_alloc ?_ _) | (with_reducible refine Kd.C_drewN ?_ _) | (with_reducible refine Kd.C_drew ?_))); (case side2 => exact (Kd.R_reads' HO830.out).2.1); (case side3 => repeat (first | exact (Kd.R_reads' HO823.out).2.2 | (with_reducible refine Kd.C_alloc ?_ _) | (with_reducible refine Kd.C_drewN ?_ _) | (with_reducible refine Kd.C_drew ?_))); (case side4 => exact (Kd.R_reads' HO823.out).2.1); rintro e w23 ⟨rfl, hb⟩; refine ⟨_, rfl, ?_⟩; have n0_ := Aside0.mk (Kd.R_below (by (with_reducible repeat (first | apply Kd.R_alloc | apply Kd.R_drewN | apply Kd.R_drew)); exact HO819.out) hb); have n1_ := Aside0.mk (Kd.R_below (by (with_reducible repeat (first | apply Kd.R_alloc | apply Kd.R_drewN | apply Kd.R_drew)); exact HO823.out) hb); have n2_ := Aside0.mk (Kd.R_below (by (with_reducible repeat (first | apply Kd.R_alloc | apply Kd.R_drewN | apply Kd.R_drew)); exact HO826.out) hb); have n3_ := Aside0.mk (Kd.R_below (by (with_reducible repeat (first | apply Kd.R_alloc | apply Kd.R_drewN | apply Kd.R_drew)); exact HO830.out) hb); have n4_ := Aside0.mk (below_step (by repeat (first | (with_reducible first | exact HB.out | apply below_alloc | apply pw_below_drewN | apply below_drew1) | exact HB.out)) hb); clear HO819; clear HO823; clear HO826; clear HO830; clear HB; have HO819 := n0_; have HO823 := n1_; have HO826 := n2_; have HO830 := n3_; have HB := n4_; clear n0_ n1_ n2_ n3_ n4_; (try clear hb); (try clear hb2); (try clear hk); (try clear hi)))
        go_meet
        case rel => exact ⟨_, (true), (by first | rfl | (simp; done) | (simp [*]; done)), H', ⟨by first | omega | exact Nat.le_refl _⟩, ⟨by (with_reducible repeat (first | apply Kd.R_alloc | apply Kd.R_drewN | apply Kd.R_drew)); exact Kd.R_mono HO823.out (fun _ hk => ⟨hk.1.2, hk.2⟩)⟩, ⟨by (with_reducible repeat (first | apply Kd.R_alloc | apply Kd.R_drewN | apply Kd.R_drew)); exact Kd.R_mono HO826.out (fun _ hk => ⟨hk.1.2, hk.2⟩)⟩, ⟨by (with_reducible repeat (first | apply Kd.R_alloc | apply Kd.R_drewN | apply Kd.R_drew)); exact Kd.R_mono HO830.out (fun _ hk => ⟨hk.1.2, hk.2⟩)⟩, ⟨by repeat (first | (with_reducible first | exact HB.out | apply below_alloc | apply pw_below_drewN | apply below_drew1) | exact HB.out)⟩⟩
    case rest =>
      clear HC9
      try clear c1
      try clear p2
      try clear c4
      try clear c4b0
      try clear c12
      try clear c15
      try clear c17
      try clear c19
      obtain ⟨kq, x44_8, rfl, HA, HJ8, HO_6, HO_8, HO_9, HB⟩ := hcut
      cases kq with
      | zero => exact absurd HA.out (by simp [laws_FnExactShuffleNotes.j0])
      | succ kj8 =>
        have H := HA.out
        clear HA
        simp only [laws_FnExactShuffleNotes.j0] at H
        by_cases c24 : x44_8 = true
        · subst c24
          have H1 : (some false) = some r := by rw [if_pos rfl] at H; exact H
          clear H
          have H := H1
          clear H1
          exact absurd ((Option.some.inj H).trans HT.out) (by decide)
        · replace c24 := Bool.eq_false_iff.mpr c24
          subst c24
          have H1 : ((laws_toNoteS.f kj8 l0).bind fun t832 => ((laws_eqNoteS.f kj8 t824 t832).bind fun t835 => (if t835 = true then ((laws_markNoteS.f kj8 t824 1).bind fun bt836 => (if bt836.1 < 0 then (laws_FnExactShuffleNotes.j1 kj8 l0 a1 t820 t821 t827 true) else ((laws_eqNoteS.f kj8 t827 t820).bind fun t838 => (if t838 = true then (laws_FnExactShuffleNotes.j1 kj8 l0 a1 t820 t821 t827 (t828 != t821)) else (laws_FnExactShuffleNotes.j1 kj8 l0 a1 t820 t821 t827 true))))) else (some false)))) = some r := by rw [if_neg (show ¬ (false = true) by decide)] at H; exact H
          clear H
          have H := H1
          clear H1
          replace H := Option.bind_eq_some_iff.mp H
          obtain ⟨t832, A250, H⟩ := H
          replace H : ((laws_eqNoteS.f kj8 t824 t832).bind fun t835 => (if t835 = true then ((laws_markNoteS.f kj8 t824 1).bind fun bt836 => (if bt836.1 < 0 then (laws_FnExactShuffleNotes.j1 kj8 l0 a1 t820 t821 t827 true) else ((laws_eqNoteS.f kj8 t827 t820).bind fun t838 => (if t838 = true then (laws_FnExactShuffleNotes.j1 kj8 l0 a1 t820 t821 t827 (t828 != t821)) else (laws_FnExactShuffleNotes.j1 kj8 l0 a1 t820 t821 t827 true))))) else (some false))) = some r := H
          have A25 := Aside0.mk A250
          clear A250
          replace H := Option.bind_eq_some_iff.mp H
          obtain ⟨t835, A260, H⟩ := H
          replace H : (if t835 = true then ((laws_markNoteS.f kj8 t824 1).bind fun bt836 => (if bt836.1 < 0 then (laws_FnExactShuffleNotes.j1 kj8 l0 a1 t820 t821 t827 true) else ((laws_eqNoteS.f kj8 t827 t820).bind fun t838 => (if t838 = true then (laws_FnExactShuffleNotes.j1 kj8 l0 a1 t820 t821 t827 (t828 != t821)) else (laws_FnExactShuffleNotes.j1 kj8 l0 a1 t820 t821 t827 true))))) else (some false)) = some r := H
          have A26 := Aside0.mk A260
          clear A260
          by_cases c27 : t835 = true
          · subst c27
            have H1 : ((laws_markNoteS.f kj8 t824 1).bind fun bt836 => (if bt836.1 < 0 then (laws_FnExactShuffleNotes.j1 kj8 l0 a1 t820 t821 t827 true) else ((laws_eqNoteS.f kj8 t827 t820).bind fun t838 => (if t838 = true then (laws_FnExactShuffleNotes.j1 kj8 l0 a1 t820 t821 t827 (t828 != t821)) else (laws_FnExactShuffleNotes.j1 kj8 l0 a1 t820 t821 t827 true))))) = some r := by rw [if_pos rfl] at H; exact H
            clear H
            have H := H1
            clear H1
            replace H := Option.bind_eq_some_iff.mp H
            obtain ⟨⟨t836, t837⟩, A280, H⟩ := H
            replace H : (if t836 < 0 then (laws_FnExactShuffleNotes.j1 kj8 l0 a1 t820 t821 t827 true) else ((laws_eqNoteS.f kj8 t827 t820).bind fun t838 => (if t838 = true then (laws_FnExactShuffleNotes.j1 kj8 l0 a1 t820 t821 t827 (t828 != t821)) else (laws_FnExactShuffleNotes.j1 kj8 l0 a1 t820 t821 t827 true)))) = some r := H
            have A28 := Aside0.mk A280
            clear A280
            have HC29 := Aside0.mk H
            clear H
            go_upto_region 14 with (first | ((with_reducible refine gate_callee (f := 17) rfl ?_); refine goesL_ (some 47) rfl rfl Try.func17 (by kernel_rfl) rfl #[.slice A0 l0.length c0] rfl (by (try simp only [List.map_toArray, List.map_cons, List.map_nil]); first | done | rfl | (simp only [List.length_drop, List.length_take]; rfl)) ?_; (with_reducible refine (laws_toNoteS.calls kj8 _ _ l0 t832 _ ?side1 ?side2 A25.out).mono ?_); (case side1 => repeat (first | exact (Kd.C_below HR0.out HB.out) | (with_reducible refine Kd.C_alloc ?_ _) | (with_reducible refine Kd.C_drewN ?_ _) | (with_reducible refine Kd.C_drew ?_))); (case side2 => exact HC0.out); rintro e w30 ⟨v833, rfl, ho0, hb⟩; refine ⟨_, rfl, ?_⟩; have n0_ := Aside0.mk (Kd.R_elder' (by (with_reducible repeat (first | apply Kd.R_alloc | apply Kd.R_drewN | apply Kd.R_drew)); exact HO_6.out) (Kd.R_base ho0) hb); have n1_ := Aside0.mk (Kd.R_elder' (by (with_reducible repeat (first | apply Kd.R_alloc | apply Kd.R_drewN | apply Kd.R_drew)); exact HO_8.out) (Kd.R_base ho0) hb); have n2_ := Aside0.mk (Kd.R_elder' (by (with_reducible repeat (first | apply Kd.R_alloc | apply Kd.R_drewN | apply Kd.R_drew)); exact HO_9.out) (Kd.R_base ho0) hb); have n3_ := Aside0.mk (Kd.R_lower (Kd.R_new' (Kd.R_new' (Kd.R_new' ho0 (Kd.R_lt (by (with_reducible repeat (first | apply Kd.R_alloc | apply Kd.R_drewN | apply Kd.R_drew)); exact HO_6.out))) (Kd.R_lt (by (with_reducible repeat (first | apply Kd.R_alloc | apply Kd.R_drewN | apply Kd.R_drew)); exact HO_8.out))) (Kd.R_lt (by (with_reducible repeat (first | apply Kd.R_alloc | apply Kd.R_drewN | apply Kd.R_drew)); exact HO_9.out))) (below_size (by repeat (first | (with_reducible first | exact HB.out | apply below_alloc | apply pw_below_drewN | apply below_drew1) | exact HB.out)))); have n4_ := Aside0.mk (below_step (by repeat (first | (with_reducible first | exact HB.out | apply below_alloc | apply pw_below_drewN | apply below_drew1) | exact HB.out)) hb); clear HO_6; clear HO_8; clear HO_9; clear HB; have HO_6 := n0_; have HO_8 := n1_; have HO_9 := n2_; have HO834 := n3_; have HB := n4_; clear n0_ n1_ n2_ n3_ n4_; (try clear hb); (try clear hb2); (try clear hk); (try clear hi); (try clear ho0); obtain ⟨Ao31, co31, eo31⟩ := Kd.R_slice HO834.out; subst eo31) | ((with_reducible refine gate_callee (f := 19) rfl ?_); refine goesL_ (some 48) rfl rfl Try.func19 (by kernel_rfl) rfl #[.slice Ao14 t824.length co14, .slice Ao31 t832.length co31] rfl (by (try simp only [List.map_toArray, List.map_cons, List.map_nil]); first | done | rfl | (simp only [List.length_drop, List.length_take]; rfl)) ?_; (with_reducible refine (laws_eqNoteS.calls kj8 _ _ t824 _ _ t832 true _ ?side1 ?side2 ?side3 ?side4 A26.out).mono ?_); (case side1 => repeat (first | exact (Kd.R_reads' HO_8.out).2.2 | (with_reducible refine Kd.C_alloc ?_ _) | (with_reducible refine Kd.C_drewN ?_ _) | (with_reducible refine Kd.C_drew ?_))); (case side2 => exact (Kd.R_reads' HO_8.out).2.1); (case side3 => repeat (first | exact (Kd.R_reads' HO834.out).2.2 | (with_reducible refine Kd.C_alloc ?_ _) | (with_reducible refine Kd.C_drewN ?_ _) | (with_reducible refine Kd.C_drew ?_))); (case side4 => exact (Kd.R_reads' HO834.out).2.1); rintro e w32 ⟨rfl, hb⟩; refine ⟨_, rfl, ?_⟩; have n0_ := Aside0.mk (Kd.R_below (by (with_reducible repeat (first | apply Kd.R_alloc | apply Kd.R_drewN | apply Kd.R_drew)); exact HO_6.out) hb); have n1_ := Aside0.mk (Kd.R_below (by (with_reducible repeat (first | apply Kd.R_alloc | apply Kd.R_drewN | apply Kd.R_drew)); exact HO_8.out) hb); have n2_ := Aside0.mk (Kd.R_below (by (with_reducible repeat (first | apply Kd.R_alloc | apply Kd.R_drewN | apply Kd.R_drew)); exact HO_9.out) hb); have n3_ := Aside0.mk (Kd.R_below (by (with_reducible repeat (first | apply Kd.R_alloc | apply Kd.R_drewN | apply Kd.R_drew)); exact HO834.out) hb); have n4_ := Aside0.mk (below_step (by repeat (first | (with_reducible first | exact HB.out | apply below_alloc | apply pw_below_drewN | apply below_drew1) | exact HB.out)) hb); clear HO_6; clear HO_8; clear HO_9; clear HO834; clear HB; have HO_6 := n0_; have HO_8 := n1_; have HO_9 := n2_; have HO834 := n3_; have HB := n4_; clear n0_ n1_ n2_ n3_ n4_; (try clear hb); (try clear hb2); (try clear hk); (try clear hi)) | ((with_reducible refine gate_callee (f := 32) rfl ?_); refine goesL_ (some 52) rfl rfl Try.func32 (by kernel_rfl) rfl #[.slice Ao14 t824.length co14, .int .i64 1] rfl (by (try simp only [List.map_toArray, List.map_cons, List.map_nil]); first | done | rfl | (simp only [List.length_drop, List.length_take]; rfl)) ?_; (with_reducible refine (laws_markNoteS.calls kj8 (fun k_ => some k_ = (.slice Ao14 t824.length co14 : Value).ownBlock) (.slice Ao14 t824.length co14) t824 1 t836 t837 w _ ?side1 ?side2 A28.out).mono ?_); (case side1 => repeat (first | (with_reducible first | exact HB.out | apply below_alloc | apply pw_below_drewN | apply below_drew1) | exact HB.out)); (case side2 => exact Kd.R_tight rfl HO_8.out); rintro e w33 ⟨rfl, hy0, hb, hkp⟩; refine ⟨_, rfl, ?_⟩; have n0_ := Aside0.mk (Kd.R_mono (ok' := fun k_ => some k_ ≠ (.slice Ao14 t824.length co14 : Value).ownBlock ∧ some k_ ≠ (v829 : Value).ownBlock ∧ some k_ ≠ (.slice Ao31 t832.length co31 : Value).ownBlock) (Kd.R_keptB (HO_6.out) hkp (fun k_ hk_ hs_ => (hk_.1.1) hs_)) (fun k_ hk_ => ⟨hk_.1.1.1, hk_.1.1.2, hk_.1.2⟩)); have n1_ := Aside0.mk (Kd.R_reok rfl hy0 (fun k_ e_ => HO_8.out.1 k_ e_)); have n2_ := Aside0.mk (Kd.R_mono (ok' := fun k_ => some k_ ≠ (v822 : Value).ownBlock ∧ some k_ ≠ (.slice Ao14 t824.length co14 : Value).ownBlock ∧ some k_ ≠ (.slice Ao31 t832.length co31 : Value).ownBlock) (Kd.R_keptB (HO_9.out) hkp (fun k_ hk_ hs_ => (hk_.1.2) hs_)) (fun k_ hk_ => ⟨hk_.1.1.1, hk_.1.1.2, hk_.1.2⟩)); have n3_ := Aside0.mk (Kd.R_mono (ok' := fun k_ => some k_ ≠ (v822 : Value).ownBlock ∧ some k_ ≠ (.slice Ao14 t824.length co14 : Value).ownBlock ∧ some k_ ≠ (v829 : Value).ownBlock) (Kd.R_keptB (HO834.out) hkp (fun k_ hk_ hs_ => (hk_.1.2) hs_)) (fun k_ hk_ => ⟨hk_.1.1.1.2, hk_.1.1.2, hk_.1.2⟩)); have n4_ := Aside0.mk (hb); clear HO_6; clear HO_8; clear HO_9; clear HO834; clear HB; have HO_6 := n0_; have HO_8 := n1_; have HO_9 := n2_; have HO834 := n3_; have HB := n4_; clear n0_ n1_ n2_ n3_ n4_; (try clear hb); (try clear hkp); (try clear hy0)))
            (try simp only [Act.put, List.setIfInBounds_toArray, List.set_cons_zero, List.set_cons_succ])
            go_cut [65] (fun v65 wc => ∃ (kq : Nat) (x65_28 : Bool), v65 = .bool x65_28 ∧ Aside0 (laws_FnExactShuffleNotes.j1 kq l0 a1 t820 t821 t827 x65_28 = some r) ∧ Aside0 (kq ≤ kj8) ∧ Aside0 (Kd.R k75 75 wc w.heap.size (fun k_ => some k_ ≠ (v829 : Value).ownBlock) v822 t820) ∧ Aside0 (Kd.R k75 75 wc w.heap.size (fun k_ => some k_ ≠ (v822 : Value).ownBlock) v829 t827) ∧ Aside0 (Below w.heap.size w wc))
            case first =>
              have H := HC29.out
              clear HC29
              by_cases c34 : t836 < 0
              · rw [if_pos c34] at H
                have c34b0 : decide (t836 < 0) = true := decide_eq_true c34
                clear c34
                (first | rw [c34b0] | (simp only [i64_w, i32_w]; rw [c34b0]) | skip)
                have H' := Aside0.mk H
                clear H
                go_wp2
                go_meet
                case rel => exact ⟨_, (true), (by first | rfl | (simp; done) | (simp [*]; done)), H', ⟨by have := HJ8.out; first | omega | exact Nat.le_refl _⟩, ⟨by (with_reducible repeat (first | apply Kd.R_alloc | apply Kd.R_drewN | apply Kd.R_drew)); exact Kd.R_mono HO_6.out (fun _ hk => hk.2.1)⟩, ⟨by (with_reducible repeat (first | apply Kd.R_alloc | apply Kd.R_drewN | apply Kd.R_drew)); exact Kd.R_mono HO_9.out (fun _ hk => hk.1)⟩, ⟨by repeat (first | (with_reducible first | exact HB.out | apply below_alloc | apply pw_below_drewN | apply below_drew1) | exact HB.out)⟩⟩
              · rw [if_neg c34] at H
                have c34b0 : decide (t836 < 0) = false := decide_eq_false c34
                clear c34
                (first | rw [c34b0] | (simp only [i64_w, i32_w]; rw [c34b0]) | skip)
                replace H := Option.bind_eq_some_iff.mp H
                obtain ⟨t838, A350, H⟩ := H
                replace H : (if t838 = true then (laws_FnExactShuffleNotes.j1 kj8 l0 a1 t820 t821 t827 (t828 != t821)) else (laws_FnExactShuffleNotes.j1 kj8 l0 a1 t820 t821 t827 true)) = some r := H
                have A35 := Aside0.mk A350
                clear A350
                by_cases c36 : t838 = true
                · subst c36
                  have H1 : (laws_FnExactShuffleNotes.j1 kj8 l0 a1 t820 t821 t827 (t828 != t821)) = some r := by rw [if_pos rfl] at H; exact H
                  clear H
                  have H := H1
                  clear H1
                  have H' := Aside0.mk H
                  clear H
                  obtain ⟨Ao37, co37, eo37⟩ := Kd.R_slice HO_9.out
                  subst eo37
                  obtain ⟨Ao38, co38, eo38⟩ := Kd.R_slice HO_6.out
                  subst eo38
                  go_wp2_with (first | (go_at_call 19; (with_reducible refine (laws_eqNoteS.calls kj8 _ _ t827 _ _ t820 true _ ?side1 ?side2 ?side3 ?side4 A35.out).mono ?_); (case side1 => repeat (first | exact (Kd.R_reads' HO_9.out).2.2 | (with_reducible refine Kd.C_alloc ?_ _) | (with_reducible refine Kd.C_drewN ?_ _) | (with_reducible refine Kd.C_drew ?_))); (case side2 => exact (Kd.R_reads' HO_9.out).2.1); (case side3 => repeat (first | exact (Kd.R_reads' HO_6.out).2.2 | (with_reducible refine Kd.C_alloc ?_ _) | (with_reducible refine Kd.C_drewN ?_ _) | (with_reducible refine Kd.C_drew ?_))); (case side4 => exact (Kd.R_reads' HO_6.out).2.1); rintro e w39 ⟨rfl, hb⟩; have n0_ := Aside0.mk (Kd.R_below (by (with_reducible repeat (first | apply Kd.R_alloc | apply Kd.R_drewN | apply Kd.R_drew)); exact HO_6.out) hb); have n1_ := Aside0.mk (Kd.R_below (by (with_reducible repeat (first | apply Kd.R_alloc | apply Kd.R_drewN | apply Kd.R_drew)); exact HO_8.out) hb); have n2_ := Aside0.mk (Kd.R_below (by (with_reducible repeat (first | apply Kd.R_alloc | apply Kd.R_drewN | apply Kd.R_drew)); exact HO_9.out) hb); have n3_ := Aside0.mk (Kd.R_below (by (with_reducible repeat (first | apply Kd.R_alloc | apply Kd.R_drewN | apply Kd.R_drew)); exact HO834.out) hb); have n4_ := Aside0.mk (below_step (by repeat (first | (with_reducible first | exact HB.out | apply below_alloc | apply pw_below_drewN | apply below_drew1) | exact HB.out)) hb); clear HO_6; clear HO_8; clear HO_9; clear HO834; clear HB; have HO_6 := n0_; have HO_8 := n1_; have HO_9 := n2_; have HO834 := n3_; have HB := n4_; clear n0_ n1_ n2_ n3_ n4_; (try clear hb); (try clear hb2); (try clear hk); (try clear hi)))
                  go_meet
                  case rel => exact ⟨_, ((t828 != t821)), (by first | rfl | (simp; done) | (simp [*]; done)), H', ⟨by have := HJ8.out; first | omega | exact Nat.le_refl _⟩, ⟨by (with_reducible repeat (first | apply Kd.R_alloc | apply Kd.R_drewN | apply Kd.R_drew)); exact Kd.R_mono HO_6.out (fun _ hk => hk.2.1)⟩, ⟨by (with_reducible repeat (first | apply Kd.R_alloc | apply Kd.R_drewN | apply Kd.R_drew)); exact Kd.R_mono HO_9.out (fun _ hk => hk.1)⟩, ⟨by repeat (first | (with_reducible first | exact HB.out | apply below_alloc | apply pw_below_drewN | apply below_drew1) | exact HB.out)⟩⟩
                · replace c36 := Bool.eq_false_iff.mpr c36
                  subst c36
                  have H1 : (laws_FnExactShuffleNotes.j1 kj8 l0 a1 t820 t821 t827 true) = some r := by rw [if_neg (show ¬ (false = true) by decide)] at H; exact H
                  clear H
                  have H := H1
                  clear H1
                  have H' := Aside0.mk H
                  clear H
                  obtain ⟨Ao40, co40, eo40⟩ := Kd.R_slice HO_9.out
                  subst eo40
                  obtain ⟨Ao41, co41, eo41⟩ := Kd.R_slice HO_6.out
                  subst eo41
                  go_wp2_with (first | (go_at_call 19; (with_reducible refine (laws_eqNoteS.calls kj8 _ _ t827 _ _ t820 false _ ?side1 ?side2 ?side3 ?side4 A35.out).mono ?_); (case side1 => repeat (first | exact (Kd.R_reads' HO_9.out).2.2 | (with_reducible refine Kd.C_alloc ?_ _) | (with_reducible refine Kd.C_drewN ?_ _) | (with_reducible refine Kd.C_drew ?_))); (case side2 => exact (Kd.R_reads' HO_9.out).2.1); (case side3 => repeat (first | exact (Kd.R_reads' HO_6.out).2.2 | (with_reducible refine Kd.C_alloc ?_ _) | (with_reducible refine Kd.C_drewN ?_ _) | (with_reducible refine Kd.C_drew ?_))); (case side4 => exact (Kd.R_reads' HO_6.out).2.1); rintro e w42 ⟨rfl, hb⟩; have n0_ := Aside0.mk (Kd.R_below (by (with_reducible repeat (first | apply Kd.R_alloc | apply Kd.R_drewN | apply Kd.R_drew)); exact HO_6.out) hb); have n1_ := Aside0.mk (Kd.R_below (by (with_reducible repeat (first | apply Kd.R_alloc | apply Kd.R_drewN | apply Kd.R_drew)); exact HO_8.out) hb); have n2_ := Aside0.mk (Kd.R_below (by (with_reducible repeat (first | apply Kd.R_alloc | apply Kd.R_drewN | apply Kd.R_drew)); exact HO_9.out) hb); have n3_ := Aside0.mk (Kd.R_below (by (with_reducible repeat (first | apply Kd.R_alloc | apply Kd.R_drewN | apply Kd.R_drew)); exact HO834.out) hb); have n4_ := Aside0.mk (below_step (by repeat (first | (with_reducible first | exact HB.out | apply below_alloc | apply pw_below_drewN | apply below_drew1) | exact HB.out)) hb); clear HO_6; clear HO_8; clear HO_9; clear HO834; clear HB; have HO_6 := n0_; have HO_8 := n1_; have HO_9 := n2_; have HO834 := n3_; have HB := n4_; clear n0_ n1_ n2_ n3_ n4_; (try clear hb); (try clear hb2); (try clear hk); (try clear hi)))
                  go_meet
                  case rel => exact ⟨_, (true), (by first | rfl | (simp; done) | (simp [*]; done)), H', ⟨by have := HJ8.out; first | omega | exact Nat.le_refl _⟩, ⟨by (with_reducible repeat (first | apply Kd.R_alloc | apply Kd.R_drewN | apply Kd.R_drew)); exact Kd.R_mono HO_6.out (fun _ hk => hk.2.1)⟩, ⟨by (with_reducible repeat (first | apply Kd.R_alloc | apply Kd.R_drewN | apply Kd.R_drew)); exact Kd.R_mono HO_9.out (fun _ hk => hk.1)⟩, ⟨by repeat (first | (with_reducible first | exact HB.out | apply below_alloc | apply pw_below_drewN | apply below_drew1) | exact HB.out)⟩⟩
            case rest =>
              clear HC29
              try clear c1
              try clear c2
              try clear p2
              try clear c3
              try clear c4
              try clear c4b0
              try clear c12
              try clear c15
              try clear c17
              try clear c19
              try clear c24
              try clear c27
              try clear c32
              try clear c34
              try clear c34b0
              try clear c36
              try clear p2
              obtain ⟨kq, x65_28, rfl, HA, HJ28, HO_6, HO_9, HB⟩ := hcut
              cases kq with
              | zero => exact absurd HA.out (by simp [laws_FnExactShuffleNotes.j1])
              | succ kj28 =>
                have H := HA.out
                clear HA
                simp only [laws_FnExactShuffleNotes.j1] at H
                by_cases c43 : x65_28 = true
                · subst c43
                  have H1 : (some false) = some r := by rw [if_pos rfl] at H; exact H
                  clear H
                  have H := H1
                  clear H1
                  exact absurd ((Option.some.inj H).trans HT.out) (by decide)
                · replace c43 := Bool.eq_false_iff.mpr c43
                  subst c43
                  have H1 : ((laws_markNoteS.f kj28 t827 1).bind fun bt839 => ((laws_heldNoteS.f kj28 bt839.2 1).bind fun t841 => (if t841 < 0 then (some false) else (if t841 = bt839.1 then ((laws_toNoteS.f kj28 l0).bind fun t842 => ((impl_ShuffleNotes.f kj28 t842 a1).bind fun bt845 => ((laws_eqNoteS.f kj28 bt845.1 t820).bind fun t849 => (if t849 = true then (laws_FnExactShuffleNotes.j2 kj28 bt839.2 bt839.1 (bt845.2 != t821)) else (laws_FnExactShuffleNotes.j2 kj28 bt839.2 bt839.1 true))))) else (some false))))) = some r := by rw [if_neg (show ¬ (false = true) by decide)] at H; exact H
                  clear H
                  have H := H1
                  clear H1
                  replace H := Option.bind_eq_some_iff.mp H
                  obtain ⟨⟨t839, t840⟩, A440, H⟩ := H
                  replace H : ((laws_heldNoteS.f kj28 t840 1).bind fun t841 => (if t841 < 0 then (some false) else (if t841 = t839 then ((laws_toNoteS.f kj28 l0).bind fun t842 => ((impl_ShuffleNotes.f kj28 t842 a1).bind fun bt845 => ((laws_eqNoteS.f kj28 bt845.1 t820).bind fun t849 => (if t849 = true then (laws_FnExactShuffleNotes.j2 kj28 t840 t839 (bt845.2 != t821)) else (laws_FnExactShuffleNotes.j2 kj28 t840 t839 true))))) else (some false)))) = some r := H
                  have A44 := Aside0.mk A440
                  clear A440
                  replace H := Option.bind_eq_some_iff.mp H
                  obtain ⟨t841, A450, H⟩ := H
                  replace H : (if t841 < 0 then (some false) else (if t841 = t839 then ((laws_toNoteS.f kj28 l0).bind fun t842 => ((impl_ShuffleNotes.f kj28 t842 a1).bind fun bt845 => ((laws_eqNoteS.f kj28 bt845.1 t820).bind fun t849 => (if t849 = true then (laws_FnExactShuffleNotes.j2 kj28 t840 t839 (bt845.2 != t821)) else (laws_FnExactShuffleNotes.j2 kj28 t840 t839 true))))) else (some false))) = some r := H
                  have A45 := Aside0.mk A450
                  clear A450
                  by_cases c46 : t841 < 0
                  · rw [if_pos c46] at H
                    have c46b0 : decide (t841 < 0) = true := decide_eq_true c46
                    clear c46
                    exact absurd ((Option.some.inj H).trans HT.out) (by decide)
                  · rw [if_neg c46] at H
                    have c46b0 : decide (t841 < 0) = false := decide_eq_false c46
                    clear c46
                    by_cases c47 : t841 = t839
                    · rw [if_pos c47] at H
                      have c47b0 : (t841 == t839) = true := beq_iff_eq.mpr c47
                      have c47b1 : (t841 != t839) = false := bne_eq_false_iff_eq.mpr c47
                      clear c47
                      replace H := Option.bind_eq_some_iff.mp H
                      obtain ⟨t842, A480, H⟩ := H
                      replace H : ((impl_ShuffleNotes.f kj28 t842 a1).bind fun bt845 => ((laws_eqNoteS.f kj28 bt845.1 t820).bind fun t849 => (if t849 = true then (laws_FnExactShuffleNotes.j2 kj28 t840 t839 (bt845.2 != t821)) else (laws_FnExactShuffleNotes.j2 kj28 t840 t839 true)))) = some r := H
                      have A48 := Aside0.mk A480
                      clear A480
                      replace H := Option.bind_eq_some_iff.mp H
                      obtain ⟨⟨t845, t846⟩, A490, H⟩ := H
                      replace H : ((laws_eqNoteS.f kj28 t845 t820).bind fun t849 => (if t849 = true then (laws_FnExactShuffleNotes.j2 kj28 t840 t839 (t846 != t821)) else (laws_FnExactShuffleNotes.j2 kj28 t840 t839 true))) = some r := H
                      have A49 := Aside0.mk A490
                      clear A490
                      have HC50 := Aside0.mk H
                      clear H
                      obtain ⟨Ao51, co51, eo51⟩ := Kd.R_slice HO_9.out
                      subst eo51
                      go_upto_region 25 with (first | ((with_reducible refine gate_callee (f := 32) rfl ?_); refine goesL_ (some 68) rfl rfl Try.func32 (by kernel_rfl) rfl #[.slice Ao51 t827.length co51, .int .i64 1] rfl (by (try simp only [List.map_toArray, List.map_cons, List.map_nil]); first | done | rfl | (simp only [List.length_drop, List.length_take]; rfl)) ?_; (with_reducible refine (laws_markNoteS.calls kj28 (fun k_ => some k_ = (.slice Ao51 t827.length co51 : Value).ownBlock) (.slice Ao51 t827.length co51) t827 1 t839 t840 w _ ?side1 ?side2 A44.out).mono ?_); (case side1 => repeat (first | (with_reducible first | exact HB.out | apply below_alloc | apply pw_below_drewN | apply below_drew1) | exact HB.out)); (case side2 => exact Kd.R_tight rfl HO_9.out); rintro e w52 ⟨rfl, hy0, hb, hkp⟩; refine ⟨_, rfl, ?_⟩; have n0_ := Aside0.mk (Kd.R_mono (ok' := fun k_ => some k_ ≠ (.slice Ao51 t827.length co51 : Value).ownBlock) (Kd.R_keptB (HO_6.out) hkp (fun k_ hk_ hs_ => (hk_) hs_)) (fun k_ hk_ => hk_.1)); have n1_ := Aside0.mk (Kd.R_reok rfl hy0 (fun k_ e_ => HO_9.out.1 k_ e_)); have n2_ := Aside0.mk (hb); clear HO_6; clear HO_9; clear HB; have HO_6 := n0_; have HO_9 := n1_; have HB := n2_; clear n0_ n1_ n2_; (try clear hb); (try clear hkp); (try clear hy0)) | ((with_reducible refine gate_callee (f := 46) rfl ?_); refine goesL_ (some 71) rfl rfl Try.func46 (by kernel_rfl) rfl #[.slice Ao51 t840.length co51, .int .i64 1] rfl (by (try simp only [List.map_toArray, List.map_cons, List.map_nil]); first | done | (rw [show t840.length = t827.length from (Kd.R_reads' HO_9.out).1.symm] <;> rfl) | rfl | (simp only [List.length_drop, List.length_take]; rfl)) ?_; (with_reducible refine (laws_heldNoteS.calls kj28 _ _ t840 1 t841 _ ?side1 ?side2 A45.out).mono ?_); (case side1 => repeat (first | exact (Kd.R_reads' HO_9.out).2.2 | (with_reducible refine Kd.C_alloc ?_ _) | (with_reducible refine Kd.C_drewN ?_ _) | (with_reducible refine Kd.C_drew ?_))); (case side2 => rw [show t840.length = t827.length from (Kd.R_reads' HO_9.out).1.symm]; exact (Kd.R_reads' HO_9.out).2.1); rintro e w' ⟨rfl, ⟨nd, rfl⟩⟩; refine ⟨_, rfl, ?_⟩) | ((with_reducible refine gate_callee (f := 17) rfl ?_); refine goesL_ (some 79) rfl rfl Try.func17 (by kernel_rfl) rfl #[.slice A0 l0.length c0] rfl (by (try simp only [List.map_toArray, List.map_cons, List.map_nil]); first | done | rfl | (simp only [List.length_drop, List.length_take]; rfl)) ?_; (with_reducible refine (laws_toNoteS.calls kj28 _ _ l0 t842 _ ?side1 ?side2 A48.out).mono ?_); (case side1 => repeat (first | exact (Kd.C_below HR0.out (by repeat (first | (with_reducible first | exact HB.out | apply below_alloc | apply pw_below_drewN | apply below_drew1) | exact HB.out))) | (with_reducible refine Kd.C_alloc ?_ _) | (with_reducible refine Kd.C_drewN ?_ _) | (with_reducible refine Kd.C_drew ?_))); (case side2 => exact HC0.out); rintro e w53 ⟨v843, rfl, ho0, hb⟩; refine ⟨_, rfl, ?_⟩; have n0_ := Aside0.mk (Kd.R_elder' (by (with_reducible repeat (first | apply Kd.R_alloc | apply Kd.R_drewN | apply Kd.R_drew)); exact HO_6.out) (Kd.R_base ho0) hb); have n1_ := Aside0.mk (Kd.R_elder' (by (with_reducible repeat (first | apply Kd.R_alloc | apply Kd.R_drewN | apply Kd.R_drew)); exact HO_9.out) (Kd.R_base ho0) hb); have n2_ := Aside0.mk (Kd.R_lower (Kd.R_new' (Kd.R_new' ho0 (Kd.R_lt (by (with_reducible repeat (first | apply Kd.R_alloc | apply Kd.R_drewN | apply Kd.R_drew)); exact HO_6.out))) (Kd.R_lt (by (with_reducible repeat (first | apply Kd.R_alloc | apply Kd.R_drewN | apply Kd.R_drew)); exact HO_9.out))) (below_size (by repeat (first | (with_reducible first | exact HB.out | apply below_alloc | apply pw_below_drewN | apply below_drew1) | exact HB.out)))); have n3_ := Aside0.mk (below_step (by repeat (first | (with_reducible first | exact HB.out | apply below_alloc | apply pw_below_drewN | apply below_drew1) | exact HB.out)) hb); clear HO_6; clear HO_9; clear HB; have HO_6 := n0_; have HO_9 := n1_; have HO844 := n2_; have HB := n3_; clear n0_ n1_ n2_ n3_; (try clear hb); (try clear hb2); (try clear hk); (try clear hi); (try clear ho0); obtain ⟨Ao54, co54, eo54⟩ := Kd.R_slice HO844.out; subst eo54) | ((with_reducible refine gate_callee (f := 45) rfl ?_); refine goesL_ (some 81) rfl rfl Try.func45 (by kernel_rfl) rfl #[.slice Ao54 t842.length co54, .int .i64 a1] rfl (by (try simp only [List.map_toArray, List.map_cons, List.map_nil]); first | done | rfl | (simp only [List.length_drop, List.length_take]; rfl)) ?_; (with_reducible refine (impl_ShuffleNotes.calls kj28 _ _ t842 a1 t845 t846 _ ?side1 ?side2 A49.out).mono ?_); (case side1 => repeat (first | exact (Kd.R_reads' HO844.out).2.2 | (with_reducible refine Kd.C_alloc ?_ _) | (with_reducible refine Kd.C_drewN ?_ _) | (with_reducible refine Kd.C_drew ?_))); (case side2 => exact (Kd.R_reads' HO844.out).2.1); rintro e w55 ⟨v847, rfl, ho0, hb⟩; refine ⟨_, rfl, ?_⟩; have n0_ := Aside0.mk (Kd.R_elder' (by (with_reducible repeat (first | apply Kd.R_alloc | apply Kd.R_drewN | apply Kd.R_drew)); exact HO_6.out) (Kd.R_base ho0) hb); have n1_ := Aside0.mk (Kd.R_elder' (by (with_reducible repeat (first | apply Kd.R_alloc | apply Kd.R_drewN | apply Kd.R_drew)); exact HO_9.out) (Kd.R_base ho0) hb); have n2_ := Aside0.mk (Kd.R_elder' (by (with_reducible repeat (first | apply Kd.R_alloc | apply Kd.R_drewN | apply Kd.R_drew)); exact HO844.out) (Kd.R_base ho0) hb); have n3_ := Aside0.mk (Kd.R_lower (Kd.R_new' (Kd.R_new' (Kd.R_new' ho0 (Kd.R_lt (by (with_reducible repeat (first | apply Kd.R_alloc | apply Kd.R_drewN | apply Kd.R_drew)); exact HO_6.out))) (Kd.R_lt (by (with_reducible repeat (first | apply Kd.R_alloc | apply Kd.R_drewN | apply Kd.R_drew)); exact HO_9.out))) (Kd.R_lt (by (with_reducible repeat (first | apply Kd.R_alloc | apply Kd.R_drewN | apply Kd.R_drew)); exact HO844.out))) (below_size (by repeat (first | (with_reducible first | exact HB.out | apply below_alloc | apply pw_below_drewN | apply below_drew1) | exact HB.out)))); have n4_ := Aside0.mk (below_step (by repeat (first | (with_reducible first | exact HB.out | apply below_alloc | apply pw_below_drewN | apply below_drew1) | exact HB.out)) hb); clear HO_6; clear HO_9; clear HO844; clear HB; have HO_6 := n0_; have HO_9 := n1_; have HO844 := n2_; have HO848 := n3_; have HB := n4_; clear n0_ n1_ n2_ n3_ n4_; (try clear hb); (try clear hb2); (try clear hk); (try clear hi); (try clear ho0)))
                      (try simp only [Act.put, List.setIfInBounds_toArray, List.set_cons_zero, List.set_cons_succ])
                      go_cut [92] (fun v92 wc => ∃ (kq : Nat) (x92_49 : Bool), v92 = .bool x92_49 ∧ Aside0 (laws_FnExactShuffleNotes.j2 kq t840 t839 x92_49 = some r) ∧ Aside0 (kq ≤ kj28) ∧ Aside0 (Kd.R k75 75 wc w.heap.size (fun _ => True) (.slice Ao51 t827.length co51) t840) ∧ Aside0 (Below w.heap.size w wc))
                      case first =>
                        have H := HC50.out
                        clear HC50
                        replace H := Option.bind_eq_some_iff.mp H
                        obtain ⟨t849, A560, H⟩ := H
                        replace H : (if t849 = true then (laws_FnExactShuffleNotes.j2 kj28 t840 t839 (t846 != t821)) else (laws_FnExactShuffleNotes.j2 kj28 t840 t839 true)) = some r := H
                        have A56 := Aside0.mk A560
                        clear A560
                        by_cases c57 : t849 = true
                        · subst c57
                          have H1 : (laws_FnExactShuffleNotes.j2 kj28 t840 t839 (t846 != t821)) = some r := by rw [if_pos rfl] at H; exact H
                          clear H
                          have H := H1
                          clear H1
                          have H' := Aside0.mk H
                          clear H
                          obtain ⟨Ao58, co58, eo58⟩ := Kd.R_slice HO848.out
                          subst eo58
                          obtain ⟨Ao59, co59, eo59⟩ := Kd.R_slice HO_6.out
                          subst eo59
                          go_wp2_with (first | ((with_reducible refine gate_callee (f := 19) rfl ?_); refine goesL_ (some 86) rfl rfl Try.func19 (by kernel_rfl) rfl #[.slice Ao58 t845.length co58, .slice Ao59 t820.length co59] rfl (by (try simp only [List.map_toArray, List.map_cons, List.map_nil]); first | done | rfl | (simp only [List.length_drop, List.length_take]; rfl)) ?_; (with_reducible refine (laws_eqNoteS.calls kj28 _ _ t845 _ _ t820 true _ ?side1 ?side2 ?side3 ?side4 A56.out).mono ?_); (case side1 => repeat (first | exact (Kd.R_reads' HO848.out).2.2 | (with_reducible refine Kd.C_alloc ?_ _) | (with_reducible refine Kd.C_drewN ?_ _) | (with_reducible refine Kd.C_drew ?_))); (case side2 => exact (Kd.R_reads' HO848.out).2.1); (case side3 => repeat (first | exact (Kd.R_reads' HO_6.out).2.2 | (with_reducible refine Kd.C_alloc ?_ _) | (with_reducible refine Kd.C_drewN ?_ _) | (with_reducible refine Kd.C_drew ?_))); (case side4 => exact (Kd.R_reads' HO_6.out).2.1); rintro e w60 ⟨rfl, hb⟩; refine ⟨_, rfl, ?_⟩; have n0_ := Aside0.mk (Kd.R_below (by (with_reducible repeat (first | apply Kd.R_alloc | apply Kd.R_drewN | apply Kd.R_drew)); exact HO_6.out) hb); have n1_ := Aside0.mk (Kd.R_below (by (with_reducible repeat (first | apply Kd.R_alloc | apply Kd.R_drewN | apply Kd.R_drew)); exact HO_9.out) hb); have n2_ := Aside0.mk (Kd.R_below (by (with_reducible repeat (first | apply Kd.R_alloc | apply Kd.R_drewN | apply Kd.R_drew)); exact HO844.out) hb); have n3_ := Aside0.mk (Kd.R_below (by (with_reducible repeat (first | apply Kd.R_alloc | apply Kd.R_drewN | apply Kd.R_drew)); exact HO848.out) hb); have n4_ := Aside0.mk (below_step (by repeat (first | (with_reducible first | exact HB.out | apply below_alloc | apply pw_below_drewN | apply below_drew1) | exact HB.out)) hb); clear HO_6; clear HO_9; clear HO844; clear HO848; clear HB; have HO_6 := n0_; have HO_9 := n1_; have HO844 := n2_; have HO848 := n3_; have HB := n4_; clear n0_ n1_ n2_ n3_ n4_; (try clear hb); (try clear hb2); (try clear hk); (try clear hi)))
                          go_meet
                          case rel => exact ⟨_, ((t846 != t821)), (by first | rfl | (simp; done) | (simp [*]; done)), H', ⟨by have := HJ8.out; have := HJ28.out; first | omega | exact Nat.le_refl _⟩, ⟨by (with_reducible repeat (first | apply Kd.R_alloc | apply Kd.R_drewN | apply Kd.R_drew)); exact Kd.R_mono HO_9.out (fun _ hk => trivial)⟩, ⟨by repeat (first | (with_reducible first | exact HB.out | apply below_alloc | apply pw_below_drewN | apply below_drew1) | exact HB.out)⟩⟩
                        · replace c57 := Bool.eq_false_iff.mpr c57
                          subst c57
                          have H1 : (laws_FnExactShuffleNotes.j2 kj28 t840 t839 true) = some r := by rw [if_neg (show ¬ (false = true) by decide)] at H; exact H
                          clear H
                          have H := H1
                          clear H1
                          have H' := Aside0.mk H
                          clear H
                          obtain ⟨Ao61, co61, eo61⟩ := Kd.R_slice HO848.out
                          subst eo61
                          obtain ⟨Ao62, co62, eo62⟩ := Kd.R_slice HO_6.out
                          subst eo62
                          go_wp2_with (first | ((with_reducible refine gate_callee (f := 19) rfl ?_); refine goesL_ (some 86) rfl rfl Try.func19 (by kernel_rfl) rfl #[.slice Ao61 t845.length co61, .slice Ao62 t820.length co62] rfl (by (try simp only [List.map_toArray, List.map_cons, List.map_nil]); first | done | rfl | (simp only [List.length_drop, List.length_take]; rfl)) ?_; (with_reducible refine (laws_eqNoteS.calls kj28 _ _ t845 _ _ t820 false _ ?side1 ?side2 ?side3 ?side4 A56.out).mono ?_); (case side1 => repeat (first | exact (Kd.R_reads' HO848.out).2.2 | (with_reducible refine Kd.C_alloc ?_ _) | (with_reducible refine Kd.C_drewN ?_ _) | (with_reducible refine Kd.C_drew ?_))); (case side2 => exact (Kd.R_reads' HO848.out).2.1); (case side3 => repeat (first | exact (Kd.R_reads' HO_6.out).2.2 | (with_reducible refine Kd.C_alloc ?_ _) | (with_reducible refine Kd.C_drewN ?_ _) | (with_reducible refine Kd.C_drew ?_))); (case side4 => exact (Kd.R_reads' HO_6.out).2.1); rintro e w63 ⟨rfl, hb⟩; refine ⟨_, rfl, ?_⟩; have n0_ := Aside0.mk (Kd.R_below (by (with_reducible repeat (first | apply Kd.R_alloc | apply Kd.R_drewN | apply Kd.R_drew)); exact HO_6.out) hb); have n1_ := Aside0.mk (Kd.R_below (by (with_reducible repeat (first | apply Kd.R_alloc | apply Kd.R_drewN | apply Kd.R_drew)); exact HO_9.out) hb); have n2_ := Aside0.mk (Kd.R_below (by (with_reducible repeat (first | apply Kd.R_alloc | apply Kd.R_drewN | apply Kd.R_drew)); exact HO844.out) hb); have n3_ := Aside0.mk (Kd.R_below (by (with_reducible repeat (first | apply Kd.R_alloc | apply Kd.R_drewN | apply Kd.R_drew)); exact HO848.out) hb); have n4_ := Aside0.mk (below_step (by repeat (first | (with_reducible first | exact HB.out | apply below_alloc | apply pw_below_drewN | apply below_drew1) | exact HB.out)) hb); clear HO_6; clear HO_9; clear HO844; clear HO848; clear HB; have HO_6 := n0_; have HO_9 := n1_; have HO844 := n2_; have HO848 := n3_; have HB := n4_; clear n0_ n1_ n2_ n3_ n4_; (try clear hb); (try clear hb2); (try clear hk); (try clear hi)))
                          go_meet
                          case rel => exact ⟨_, (true), (by first | rfl | (simp; done) | (simp [*]; done)), H', ⟨by have := HJ8.out; have := HJ28.out; first | omega | exact Nat.le_refl _⟩, ⟨by (with_reducible repeat (first | apply Kd.R_alloc | apply Kd.R_drewN | apply Kd.R_drew)); exact Kd.R_mono HO_9.out (fun _ hk => trivial)⟩, ⟨by repeat (first | (with_reducible first | exact HB.out | apply below_alloc | apply pw_below_drewN | apply below_drew1) | exact HB.out)⟩⟩
                      case rest =>
                        clear HC50
                        try clear c1
                        try clear c2
                        try clear p2
                        try clear c3
                        try clear c4
                        try clear c4b0
                        try clear c5
                        try clear c12
                        try clear c15
                        try clear c17
                        try clear c19
                        try clear c24
                        try clear c27
                        try clear c32
                        try clear c34
                        try clear c34b0
                        try clear c36
                        try clear c43
                        try clear c44
                        try clear c45
                        try clear c46
                        try clear c46b0
                        try clear c47
                        try clear c47b0
                        try clear c47b1
                        try clear c57
                        try clear p2
                        obtain ⟨kq, x92_49, rfl, HA, HJ49, HO_9, HB⟩ := hcut
                        have hl9_49 := (Kd.R_reads' HO_9.out).1
                        rw [hl9_49] at HO_9
                        (try simp only [hl9_49])
                        cases kq with
                        | zero => exact absurd HA.out (by simp [laws_FnExactShuffleNotes.j2])
                        | succ kj49 =>
                          have H := HA.out
                          clear HA
                          simp only [laws_FnExactShuffleNotes.j2] at H
                          by_cases c64 : x92_49 = true
                          · subst c64
                            have H1 : (some false) = some r := by rw [if_pos rfl] at H; exact H
                            clear H
                            have H := H1
                            clear H1
                            exact absurd ((Option.some.inj H).trans HT.out) (by decide)
                          · replace c64 := Bool.eq_false_iff.mpr c64
                            subst c64
                            have H1 : ((laws_heldNoteS.f kj49 t840 1).bind fun t850 => (if t850 < 0 then (some false) else (if t850 = t839 then (some true) else (some false)))) = some r := by rw [if_neg (show ¬ (false = true) by decide)] at H; exact H
                            clear H
                            have H := H1
                            clear H1
                            replace H := Option.bind_eq_some_iff.mp H
                            obtain ⟨t850, A650, H⟩ := H
                            replace H : (if t850 < 0 then (some false) else (if t850 = t839 then (some true) else (some false))) = some r := H
                            have A65 := Aside0.mk A650
                            clear A650
                            by_cases c66 : t850 < 0
                            · rw [if_pos c66] at H
                              have c66b0 : decide (t850 < 0) = true := decide_eq_true c66
                              have c66b2 := c66b0; (try simp only [hl9_49] at c66b2)
                              clear c66
                              exact absurd ((Option.some.inj H).trans HT.out) (by decide)
                            · rw [if_neg c66] at H
                              have c66b0 : decide (t850 < 0) = false := decide_eq_false c66
                              have c66b2 := c66b0; (try simp only [hl9_49] at c66b2)
                              clear c66
                              by_cases c67 : t850 = t839
                              · rw [if_pos c67] at H
                                have c67b0 : (t850 == t839) = true := beq_iff_eq.mpr c67
                                have c67b1 : (t850 != t839) = false := bne_eq_false_iff_eq.mpr c67
                                clear c67
                                obtain rfl := Option.some.inj H
                                go_wp2_with (first | ((with_reducible refine gate_callee (f := 46) rfl ?_); refine goesL_ (some 95) rfl rfl Try.func46 (by kernel_rfl) rfl #[.slice Ao51 t840.length co51, .int .i64 1] rfl (by (try simp only [List.map_toArray, List.map_cons, List.map_nil]); first | done | rfl | (simp only [List.length_drop, List.length_take]; rfl)) ?_; (with_reducible refine (laws_heldNoteS.calls kj49 _ _ t840 1 t850 _ ?side1 ?side2 A65.out).mono ?_); (case side1 => repeat (first | exact (Kd.R_reads' HO_9.out).2.2 | (with_reducible refine Kd.C_alloc ?_ _) | (with_reducible refine Kd.C_drewN ?_ _) | (with_reducible refine Kd.C_drew ?_))); (case side2 => exact (Kd.R_reads' HO_9.out).2.1); rintro e w' ⟨rfl, ⟨nd, rfl⟩⟩; refine ⟨_, rfl, ?_⟩))
                                go_ret
                                exact ⟨by first | rfl | (simp [errW_none, errW_some] <;> rfl) | (simp [*, errW_none, errW_some] <;> rfl), by repeat (first | (with_reducible first | exact HB.out | apply below_alloc | apply pw_below_drewN | apply below_drew1) | exact HB.out)⟩
                              · rw [if_neg c67] at H
                                have c67b0 : (t850 == t839) = false := beq_eq_false_iff_ne.mpr c67
                                have c67b1 : (t850 != t839) = true := bne_iff_ne.mpr c67
                                exact absurd ((Option.some.inj H).trans HT.out) (by decide)
                    · rw [if_neg c47] at H
                      have c47b0 : (t841 == t839) = false := beq_eq_false_iff_ne.mpr c47
                      have c47b1 : (t841 != t839) = true := bne_iff_ne.mpr c47
                      exact absurd ((Option.some.inj H).trans HT.out) (by decide)
          · replace c27 := Bool.eq_false_iff.mpr c27
            subst c27
            have H1 : (some false) = some r := by rw [if_neg (show ¬ (false = true) by decide)] at H; exact H
            clear H
            have H := H1
            clear H1
            exact absurd ((Option.some.inj H).trans HT.out) (by decide)

/-- THE ONE PURE STATEMENT of laws_FnExactShuffleNotes. -/
def laws_FnExactShuffleNotes.Pure : Prop := ∀ (l0 : List (S77)) (a1 : Int), (l0.length ≤ maxLen ∧ ∀ y0 ∈ l0, ((Lit.int .i64 y0.f0).wf = true ∧ (Lit.int .i64 y0.f1).wf = true)) → (Lit.int .i64 a1).wf = true → ∃ k, laws_FnExactShuffleNotes.f k l0 a1 = some true
theorem laws_FnExactShuffleNotes.walk (P : laws_FnExactShuffleNotes.Pure) (A0 : Option Addr) (c0 : Nat) (l0 : List (S77)) (a1 : Int) (w : World) (hr0 : Kd.C k77 w A0 l0.length l0) (hc0 : l0.length ≤ c0) (w0 : (l0.length ≤ maxLen ∧ ∀ y0 ∈ l0, ((Lit.int .i64 y0.f0).wf = true ∧ (Lit.int .i64 y0.f1).wf = true))) (w1 : (Lit.int .i64 a1).wf = true) :
    Calls Try.prog 12 #[.slice A0 l0.length c0, .int .i64 a1] w fun e w' => e = .returned (.bool true) ∧ Below w.heap.size w w' := by
  obtain ⟨k, h⟩ := P l0 a1 w0 w1
  refine (laws_FnExactShuffleNotes.calls k _ _ l0 a1 true w hr0 hc0 rfl h).mono ?_
  rintro e w' ⟨rfl, hd⟩
  exact ⟨rfl, hd⟩

end Go.Proofs.Ytlgigomahobfbaa.P
end

section
namespace Go.Proofs.Ytlgigomahobfbaa.Pure
open Go.RowKit Go.Proofs.Ytlgigomahobfbaa.P Go.Proofs.YtlgigomahobfbaaW.PrintWords Go.Proofs.YtlgigomahobfbaaW.PrintLast Go.Proofs.YtlgigomahobfbaaW.PrintMore
set_option linter.unusedVariables false
set_option linter.unusedSimpArgs false

theorem note_eta (x : S75) : (⟨x.f0, x.f1⟩ : S75) = x := rfl
theorem shuffle_loop : ∀ (d : Nat) (s : Int) (l : List S75), d < l.length ∨ d = 0 → l.length ≤ 48 → 0 ≤ s → s ≤ 999999 →
    ∃ r, r.length = l.length ∧ Ev (fun k => spec_ShuffleNotes.l0 k s l (d : Int)) (r, 0) ∧ Ev (fun k => impl_ShuffleNotes.l0 k l (d : Int) s) (r, 0) := by
  intro d
  induction d with
  | zero =>
    intro s l hd hl s0 s1
    refine ⟨l, rfl, Ev.succ ?_, Ev.succ ?_⟩
    · simp only [spec_ShuffleNotes.l0]
      exact Ev.ite_neg (by omega) (Ev.now _)
    · simp only [impl_ShuffleNotes.l0]
      exact Ev.ite_neg (by omega) (Ev.now _)
  | succ d ih =>
    intro s l hd hl s0 s1
    have hd' : d + 1 < l.length := by omega
    have hn := nextM_bound s
    have hp := pickM_bound s (((d + 1 : Nat) : Int) + 1) (by omega)
    have hk := spec_l13Pick_eq s (((d + 1 : Nat) : Int) + 1) s0 s1 (by omega) (by omega)
    obtain ⟨r, r0, r1, r2⟩ := ih (nextM s) ((l.set (d + 1) (rd_T75 l (pickM s (((d + 1 : Nat) : Int) + 1)))).set (pickM s (((d + 1 : Nat) : Int) + 1)).toNat (rd_T75 l ((d + 1 : Nat) : Int))) (by simp; omega) (by simpa using hl) hn.1 hn.2
    refine ⟨r, by simpa using r0, Ev.succ ?_, Ev.succ ?_⟩
    · simp only [spec_ShuffleNotes.l0]
      rw [w64 (x := ((d + 1 : Nat) : Int) + 1) (by omega) (by omega), w64 (x := ((d + 1 : Nat) : Int) - 1) (by omega) (by omega), show ((d + 1 : Nat) : Int) - 1 = (d : Int) by omega, Int.toNat_natCast]
      exact Ev.ite_pos (by omega) (Ev.bindc hk (Ev.ite_pos (by omega) (Ev.ite_pos (by omega) (Ev.ite_pos (show 0 ≤ pickM s (((d + 1 : Nat) : Int) + 1) by omega) (Ev.ite_pos (show pickM s (((d + 1 : Nat) : Int) + 1) < (l.length : Int) by omega) r1)))))
    · simp only [impl_ShuffleNotes.l0]
      rw [w64 (x := ((d + 1 : Nat) : Int) + 1) (by omega) (by omega), w64 (x := ((d + 1 : Nat) : Int) - 1) (by omega) (by omega), show ((d + 1 : Nat) : Int) - 1 = (d : Int) by omega, Int.toNat_natCast]
      exact Ev.ite_pos (by omega) (Ev.bindc ((pick_eq s _).trans hk) (Ev.ite_pos (show 0 ≤ pickM s (((d + 1 : Nat) : Int) + 1) by omega) (Ev.ite_pos (show pickM s (((d + 1 : Nat) : Int) + 1) < (l.length : Int) by omega) (Ev.ite_pos (by omega) (Ev.ite_pos (by omega) r2)))))
theorem shuffle_start (l : List S75) (s : Int) (hl : l.length ≤ 48) (s0 : 0 ≤ s) (s1 : s ≤ 999999) :
    ∃ r, r.length ≤ 48 ∧ Ev (fun k => spec_ShuffleNotes.l0 k s l ((l.length : Int) - 1)) (r, 0) ∧ Ev (fun k => impl_ShuffleNotes.l0 k l ((l.length : Int) - 1) s) (r, 0) := by
  by_cases h : l.length = 0
  · refine ⟨l, hl, Ev.succ ?_, Ev.succ ?_⟩
    · simp only [spec_ShuffleNotes.l0]
      exact Ev.ite_neg (by omega) (Ev.now _)
    · simp only [impl_ShuffleNotes.l0]
      exact Ev.ite_neg (by omega) (Ev.now _)
  · obtain ⟨r, r0, r1, r2⟩ := shuffle_loop (l.length - 1) s l (by omega) hl s0 s1
    rw [show ((l.length - 1 : Nat) : Int) = (l.length : Int) - 1 by omega] at r1 r2
    exact ⟨r, by omega, r1, r2⟩
theorem bothShuffleNotes (l : List S75) (s : Int) (hl : l.length ≤ 1048576) : ∃ r c, r.length ≤ 48 ∧ Ev (fun k => spec_ShuffleNotes.f k l s) (r, c) ∧ Ev (fun k => impl_ShuffleNotes.f k l s) (r, c) := by
  unfold spec_ShuffleNotes.f impl_ShuffleNotes.f
  cases h : melB l with
  | false => exact ⟨[], 1, by simp, Ev.bind (spec_l09Ok_ev l (by omega)) (Ev.ite_neg (by rw [h]; decide) (Ev.now _)), Ev.bind (impl_ValidMelody_ev l (by omega)) (Ev.ite_neg (by rw [h]; decide) (Ev.now _))⟩
  | true =>
    have h4 := (melB_all h).2
    cases hs : (decide (0 ≤ s) && decide (s ≤ 999999)) with
    | false => exact ⟨[], 2, by simp, Ev.bind (spec_l09Ok_ev l (by omega)) (Ev.ite_pos h (Ev.bindc (spec_l13Seed_eq s) (Ev.ite_neg (by rw [hs]; decide) (Ev.now _)))), Ev.bind (impl_ValidMelody_ev l (by omega)) (Ev.ite_pos h (Ev.bindc (impl_seedOk_eq s) (Ev.ite_neg (by rw [hs]; decide) (Ev.now _))))⟩
    | true =>
      have hs' := hs
      rw [Bool.and_eq_true, decide_eq_true_eq, decide_eq_true_eq] at hs'
      obtain ⟨r, r0, r1, r2⟩ := shuffle_start l s h4 hs'.1 hs'.2
      have eo : spec_l09Own.f l = some l := by
        unfold spec_l09Own.f
        simp only [Option.bind_some, List.nil_append, List.length_nil, Nat.zero_add]
        rw [if_pos (by omega)]
      have ei : impl_Note_95.f l = some l := by
        unfold impl_Note_95.f
        simp only [Option.bind_some, List.nil_append, List.length_nil, Nat.zero_add]
        rw [if_pos (by omega)]
      refine ⟨r, 0, r0, Ev.bind (spec_l09Ok_ev l (by omega)) (Ev.ite_pos h (Ev.bindc (spec_l13Seed_eq s) (Ev.ite_pos hs (Ev.bindc eo ?_)))), Ev.bind (impl_ValidMelody_ev l (by omega)) (Ev.ite_pos h (Ev.bindc (impl_seedOk_eq s) (Ev.ite_pos hs (Ev.bindc ei ?_))))⟩
      · rw [w64 (x := (l.length : Int) - 1) (by omega) (by omega)]
        exact r1
      · rw [w64 (x := (l.length : Int) - 1) (by omega) (by omega)]
        exact r2
theorem FnExactShuffleNotes : laws_FnExactShuffleNotes.Pure := by
  intro l s ⟨hl, _⟩ ws
  refine Ev.out (r := true) ?_
  unfold laws_FnExactShuffleNotes.f
  refine Ev.bindc (szNoteS_eq l _ (by omega) (by omega) (Nat.le_trans hl (by decide))) ?_
  by_cases gl : (1048576 : Int) - l.length < 0
  · rw [if_pos gl]
    exact Ev.ite_pos (by omega) (Ev.now _)
  rw [if_neg gl]
  refine Ev.ite_neg gl ?_
  have tl := toNoteS_ev l (by omega)
  have ll : (l.map noteOf).length ≤ 1048576 := by simp; omega
  obtain ⟨r, c, lr, es, ei⟩ := bothShuffleNotes (l.map noteOf) s ll
  have eq := eqNoteS_self r (by omega)
  refine Ev.bind tl (Ev.bind es (Ev.bind tl (Ev.bind ei (Ev.bind eq (Ev.ite_pos rfl (Ev.succ ?_))))))
  simp only [laws_FnExactShuffleNotes.j0]
  refine Ev.ite_neg (by simp) (Ev.bind tl (Ev.bind (eqNoteS_self _ (by omega)) (Ev.ite_pos rfl (Ev.bind (markNoteS_eq (l.map noteOf) 1 ll (by omega) (by omega)) ?_))))
  refine Ev.ite_neg (show ¬ ((1 : Int) + 2 * ((l.map noteOf).length : Int) < 0) by omega) (Ev.bind eq (Ev.ite_pos rfl (Ev.succ ?_)))
  simp only [laws_FnExactShuffleNotes.j1]
  refine Ev.ite_neg (by simp) (Ev.bind (markNoteS_eq r 1 (by omega) (by omega) (by omega)) (Ev.bind (heldNoteS_ev r.length 1 (by omega) (by omega) (by omega)) ?_))
  refine Ev.ite_neg (by omega) (Ev.ite_pos rfl (Ev.bind tl (Ev.bind ei (Ev.bind eq (Ev.ite_pos rfl (Ev.succ ?_))))))
  simp only [laws_FnExactShuffleNotes.j2]
  exact Ev.ite_neg (by simp) (Ev.bind (heldNoteS_ev r.length 1 (by omega) (by omega) (by omega)) (Ev.ite_neg (by omega) (Ev.ite_pos rfl (Ev.now _))))

end Go.Proofs.Ytlgigomahobfbaa.Pure
end
