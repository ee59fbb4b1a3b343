/- The pure statement of FnExactOrnamentMelody. No condition. -/
import Derived.Test.YtlgigomahobfbaaGOM1
import Derived.Test.YtlgigomahobfbaaGOM2
import Derived.Test.YtlgigomahobfbaaGOM3
import Derived.Test.YtlgigomahobfbaaGOM4
section
namespace Go.Proofs.Ytlgigomahobfbaa.P
open Go.RowKit Go.Proofs.YtlgigomahobfbaaW.PrintWords Go.Proofs.YtlgigomahobfbaaW.PrintLast Go.Proofs.YtlgigomahobfbaaW.PrintMore
attribute [local go_sem] max2_int min2_int max_two min_two max_three min_three max_four min_four   -- for this text's walks alone
set_option linter.unusedVariables false
set_option linter.unusedSimpArgs false

/-! ### laws_FnExactOrnamentMelody: function 13 -/
mutual
def laws_FnExactOrnamentMelody.j0 : Nat → List (S77) → List (S103) → List Int → Int → List (S75) → List (S98) → List Int → Int → Bool → Option (Bool)
  | 0, _, _, _, _, _, _, _, _, _ => none
  | k + 1, x0, x1, x6, x7, x8, x9, x10, x11, x53 => if x53 = true then (some false) else ((laws_toNoteS.f k x0).bind fun t976 => ((laws_eqNoteS.f k x8 t976).bind fun t979 => (if t979 = true then ((laws_toOrnamentS.f k x1).bind fun t980 => ((laws_eqOrnamentS.f k x9 t980).bind fun t983 => (if t983 = true then ((laws_markNoteS.f k x8 1).bind fun bt984 => ((laws_markOrnamentS.f k x9 bt984.1).bind fun bt986 => (if bt986.1 < 0 then (laws_FnExactOrnamentMelody.j1 k x0 x1 x6 x7 x10 true) else ((laws_eqInt64S.f k x10 x6).bind fun t988 => (if t988 = true then (laws_FnExactOrnamentMelody.j1 k x0 x1 x6 x7 x10 (x11 != x7)) else (laws_FnExactOrnamentMelody.j1 k x0 x1 x6 x7 x10 true)))))) else (some false)))) else (some false))))
def laws_FnExactOrnamentMelody.j1 : Nat → List (S77) → List (S103) → List Int → Int → List Int → Bool → Option (Bool)
  | 0, _, _, _, _, _, _ => none
  | k + 1, x0, x1, x6, x7, x10, x82 => if x82 = true then (some false) else ((laws_markInt64S.f k x10 1).bind fun bt989 => ((laws_heldInt64S.f k bt989.2 1).bind fun t991 => (if t991 < 0 then (some false) else (if t991 = bt989.1 then ((laws_toNoteS.f k x0).bind fun t992 => ((laws_toOrnamentS.f k x1).bind fun t995 => ((impl_OrnamentMelody.f k t992 t995).bind fun bt998 => ((laws_eqInt64S.f k bt998.1 x6).bind fun t1002 => (if t1002 = true then (laws_FnExactOrnamentMelody.j2 k bt989.2 bt989.1 (bt998.2 != x7)) else (laws_FnExactOrnamentMelody.j2 k bt989.2 bt989.1 true)))))) else (some false)))))
def laws_FnExactOrnamentMelody.j2 : Nat → List Int → Int → Bool → Option (Bool)
  | 0, _, _, _ => none
  | k + 1, x10, x13, x110 => if x110 = true then (some false) else ((laws_heldInt64S.f k x10 1).bind fun t1003 => (if t1003 < 0 then (some false) else (if t1003 = x13 then (some true) else (some false))))
end
def laws_FnExactOrnamentMelody.f (k : Nat) (l0 : List (S77)) (l1 : List (S103)) : Option (Bool) := (laws_szNoteS.f l0 1048576).bind fun t953 => (if t953 < 0 then (some true) else ((laws_szOrnamentS.f l1 t953).bind fun t954 => (if t954 < 0 then (some true) else ((laws_toNoteS.f k l0).bind fun t955 => ((laws_toOrnamentS.f k l1).bind fun t958 => ((spec_OrnamentMelody.f k t955 t958).bind fun bt961 => ((laws_toNoteS.f k l0).bind fun t965 => ((laws_toOrnamentS.f k l1).bind fun t968 => ((impl_OrnamentMelody.f k t965 t968).bind fun bt971 => ((laws_eqInt64S.f k bt971.1 bt961.1).bind fun t975 => (if t975 = true then (laws_FnExactOrnamentMelody.j0 k l0 l1 bt961.1 bt961.2 t965 t968 bt971.1 bt971.2 (bt971.2 != bt961.2)) else (laws_FnExactOrnamentMelody.j0 k l0 l1 bt961.1 bt961.2 t965 t968 bt971.1 bt971.2 true))))))))))))
theorem laws_FnExactOrnamentMelody.mono_l : ∀ k, (∀ y0 y1 y2 y3 y4 y5 y6 y7 y8, LeO (laws_FnExactOrnamentMelody.j0 k y0 y1 y2 y3 y4 y5 y6 y7 y8) (laws_FnExactOrnamentMelody.j0 (k + 1) y0 y1 y2 y3 y4 y5 y6 y7 y8)) ∧ (∀ y0 y1 y2 y3 y4 y5, LeO (laws_FnExactOrnamentMelody.j1 k y0 y1 y2 y3 y4 y5) (laws_FnExactOrnamentMelody.j1 (k + 1) y0 y1 y2 y3 y4 y5)) ∧ (∀ y0 y1 y2, LeO (laws_FnExactOrnamentMelody.j2 k y0 y1 y2) (laws_FnExactOrnamentMelody.j2 (k + 1) y0 y1 y2))
  | 0 => ⟨fun _ _ _ _ _ _ _ _ _ r h => by simp [laws_FnExactOrnamentMelody.j0] at h, fun _ _ _ _ _ _ r h => by simp [laws_FnExactOrnamentMelody.j1] at h, fun _ _ _ r h => by simp [laws_FnExactOrnamentMelody.j2] at h⟩
  | k + 1 => by
    obtain ⟨ih0, ih1, ih2⟩ := laws_FnExactOrnamentMelody.mono_l k
    refine ⟨?_, ?_, ?_⟩
    · intro y0 y1 y2 y3 y4 y5 y6 y7 y8
      unfold laws_FnExactOrnamentMelody.j0
      repeat' first
      | (with_reducible exact ih0 _ _ _ _ _ _ _ _ _)
      | (with_reducible exact ih1 _ _ _ _ _ _)
      | (with_reducible exact ih2 _ _ _)
      | (with_reducible exact impl_OrnamentMelody.mono _ _ _)
      | (with_reducible exact laws_eqInt64S.mono _ _ _)
      | (with_reducible exact laws_eqNoteS.mono _ _ _)
      | (with_reducible exact laws_eqOrnamentS.mono _ _ _)
      | (with_reducible exact laws_heldInt64S.mono _ _ _)
      | (with_reducible exact laws_markInt64S.mono _ _ _)
      | (with_reducible exact laws_markNoteS.mono _ _ _)
      | (with_reducible exact laws_markOrnamentS.mono _ _ _)
      | (with_reducible exact laws_toNoteS.mono _ _)
      | (with_reducible exact laws_toOrnamentS.mono _ _)
      | (with_reducible exact spec_OrnamentMelody.mono _ _ _)
      | (with_reducible exact LeO.refl _)
      | (with_reducible exact LeO.none _)
      | (with_reducible refine LeO.ite ?_ ?_)
      | (with_reducible refine LeO.bind ?_ (fun _ => ?_))
      | exact ih0 _ _ _ _ _ _ _ _ _
      | exact ih1 _ _ _ _ _ _
      | exact ih2 _ _ _
      | exact impl_OrnamentMelody.mono _ _ _
      | exact laws_eqInt64S.mono _ _ _
      | exact laws_eqNoteS.mono _ _ _
      | exact laws_eqOrnamentS.mono _ _ _
      | exact laws_heldInt64S.mono _ _ _
      | exact laws_markInt64S.mono _ _ _
      | exact laws_markNoteS.mono _ _ _
      | exact laws_markOrnamentS.mono _ _ _
      | exact laws_toNoteS.mono _ _
      | exact laws_toOrnamentS.mono _ _
      | exact spec_OrnamentMelody.mono _ _ _
      | exact LeO.none _
      | refine LeO.ite ?_ ?_
      | refine LeO.bind ?_ (fun _ => ?_)
    · intro y0 y1 y2 y3 y4 y5
      unfold laws_FnExactOrnamentMelody.j1
      repeat' first
      | (with_reducible exact ih0 _ _ _ _ _ _ _ _ _)
      | (with_reducible exact ih1 _ _ _ _ _ _)
      | (with_reducible exact ih2 _ _ _)
      | (with_reducible exact impl_OrnamentMelody.mono _ _ _)
      | (with_reducible exact laws_eqInt64S.mono _ _ _)
      | (with_reducible exact laws_eqNoteS.mono _ _ _)
      | (with_reducible exact laws_eqOrnamentS.mono _ _ _)
      | (with_reducible exact laws_heldInt64S.mono _ _ _)
      | (with_reducible exact laws_markInt64S.mono _ _ _)
      | (with_reducible exact laws_markNoteS.mono _ _ _)
      | (with_reducible exact laws_markOrnamentS.mono _ _ _)
      | (with_reducible exact laws_toNoteS.mono _ _)
      | (with_reducible exact laws_toOrnamentS.mono _ _)
      | (with_reducible exact spec_OrnamentMelody.mono _ _ _)
      | (with_reducible exact LeO.refl _)
      | (with_reducible exact LeO.none _)
      | (with_reducible refine LeO.ite ?_ ?_)
      | (with_reducible refine LeO.bind ?_ (fun _ => ?_))
      | exact ih0 _ _ _ _ _ _ _ _ _
      | exact ih1 _ _ _ _ _ _
      | exact ih2 _ _ _
      | exact impl_OrnamentMelody.mono _ _ _
      | exact laws_eqInt64S.mono _ _ _
      | exact laws_eqNoteS.mono _ _ _
      | exact laws_eqOrnamentS.mono _ _ _
      | exact laws_heldInt64S.mono _ _ _
      | exact laws_markInt64S.mono _ _ _
      | exact laws_markNoteS.mono _ _ _
      | exact laws_markOrnamentS.mono _ _ _
      | exact laws_toNoteS.mono _ _
      | exact laws_toOrnamentS.mono _ _
      | exact spec_OrnamentMelody.mono _ _ _
      | exact LeO.none _
      | refine LeO.ite ?_ ?_
      | refine LeO.bind ?_ (fun _ => ?_)
    · intro y0 y1 y2
      unfold laws_FnExactOrnamentMelody.j2
      repeat' first
      | (with_reducible exact ih0 _ _ _ _ _ _ _ _ _)
      | (with_reducible exact ih1 _ _ _ _ _ _)
      | (with_reducible exact ih2 _ _ _)
      | (with_reducible exact impl_OrnamentMelody.mono _ _ _)
      | (with_reducible exact laws_eqInt64S.mono _ _ _)
      | (with_reducible exact laws_eqNoteS.mono _ _ _)
      | (with_reducible exact laws_eqOrnamentS.mono _ _ _)
      | (with_reducible exact laws_heldInt64S.mono _ _ _)
      | (with_reducible exact laws_markInt64S.mono _ _ _)
      | (with_reducible exact laws_markNoteS.mono _ _ _)
      | (with_reducible exact laws_markOrnamentS.mono _ _ _)
      | (with_reducible exact laws_toNoteS.mono _ _)
      | (with_reducible exact laws_toOrnamentS.mono _ _)
      | (with_reducible exact spec_OrnamentMelody.mono _ _ _)
      | (with_reducible exact LeO.refl _)
      | (with_reducible exact LeO.none _)
      | (with_reducible refine LeO.ite ?_ ?_)
      | (with_reducible refine LeO.bind ?_ (fun _ => ?_))
      | exact ih0 _ _ _ _ _ _ _ _ _
      | exact ih1 _ _ _ _ _ _
      | exact ih2 _ _ _
      | exact impl_OrnamentMelody.mono _ _ _
      | exact laws_eqInt64S.mono _ _ _
      | exact laws_eqNoteS.mono _ _ _
      | exact laws_eqOrnamentS.mono _ _ _
      | exact laws_heldInt64S.mono _ _ _
      | exact laws_markInt64S.mono _ _ _
      | exact laws_markNoteS.mono _ _ _
      | exact laws_markOrnamentS.mono _ _ _
      | exact laws_toNoteS.mono _ _
      | exact laws_toOrnamentS.mono _ _
      | exact spec_OrnamentMelody.mono _ _ _
      | exact LeO.none _
      | refine LeO.ite ?_ ?_
      | refine LeO.bind ?_ (fun _ => ?_)
theorem laws_FnExactOrnamentMelody.mono : ∀ a0 a1 k, LeO (laws_FnExactOrnamentMelody.f k a0 a1) (laws_FnExactOrnamentMelody.f (k + 1) a0 a1) := by
  intro a0 a1 k
  obtain ⟨ih0, ih1, ih2⟩ := laws_FnExactOrnamentMelody.mono_l k
  unfold laws_FnExactOrnamentMelody.f
  repeat' first
      | (with_reducible exact ih0 _ _ _ _ _ _ _ _ _)
      | (with_reducible exact ih1 _ _ _ _ _ _)
      | (with_reducible exact ih2 _ _ _)
      | (with_reducible exact impl_OrnamentMelody.mono _ _ _)
      | (with_reducible exact laws_eqInt64S.mono _ _ _)
      | (with_reducible exact laws_eqNoteS.mono _ _ _)
      | (with_reducible exact laws_eqOrnamentS.mono _ _ _)
      | (with_reducible exact laws_heldInt64S.mono _ _ _)
      | (with_reducible exact laws_markInt64S.mono _ _ _)
      | (with_reducible exact laws_markNoteS.mono _ _ _)
      | (with_reducible exact laws_markOrnamentS.mono _ _ _)
      | (with_reducible exact laws_toNoteS.mono _ _)
      | (with_reducible exact laws_toOrnamentS.mono _ _)
      | (with_reducible exact spec_OrnamentMelody.mono _ _ _)
      | (with_reducible exact LeO.refl _)
      | (with_reducible exact LeO.none _)
      | (with_reducible refine LeO.ite ?_ ?_)
      | (with_reducible refine LeO.bind ?_ (fun _ => ?_))
      | exact ih0 _ _ _ _ _ _ _ _ _
      | exact ih1 _ _ _ _ _ _
      | exact ih2 _ _ _
      | exact impl_OrnamentMelody.mono _ _ _
      | exact laws_eqInt64S.mono _ _ _
      | exact laws_eqNoteS.mono _ _ _
      | exact laws_eqOrnamentS.mono _ _ _
      | exact laws_heldInt64S.mono _ _ _
      | exact laws_markInt64S.mono _ _ _
      | exact laws_markNoteS.mono _ _ _
      | exact laws_markOrnamentS.mono _ _ _
      | exact laws_toNoteS.mono _ _
      | exact laws_toOrnamentS.mono _ _
      | exact spec_OrnamentMelody.mono _ _ _
      | exact LeO.none _
      | refine LeO.ite ?_ ?_
      | refine LeO.bind ?_ (fun _ => ?_)
set_option maxHeartbeats 8000000 in
set_option maxRecDepth 100000 in
theorem laws_FnExactOrnamentMelody.calls (k : Nat) (A0 : Option Addr) (c0 : Nat) (l0 : List (S77)) (A1 : Option Addr) (c1 : Nat) (l1 : List (S103)) (r : Bool) (w : World) (hr0 : Kd.C k77 w A0 l0.length l0) (hc0 : l0.length ≤ c0) (hr1 : Kd.C k103 w A1 l1.length l1) (hc1 : l1.length ≤ c1) (hT : r = true) (h : laws_FnExactOrnamentMelody.f k l0 l1 = some r) :
    Calls Try.prog 13 #[.slice A0 l0.length c0, .slice A1 l1.length c1] w fun e w' => e = .returned (.bool r) ∧ Below w.heap.size w w' := by
  have HR0 := Aside0.mk hr0
  have HC0 := Aside0.mk hc0
  clear hr0 hc0
  have HR1 := Aside0.mk hr1
  have HC1 := Aside0.mk hc1
  clear hr1 hc1
  have HT := Aside0.mk hT
  clear hT
  have HB := Aside0.mk (Below.refl w.heap.size w)
  have H : ((laws_szNoteS.f l0 1048576).bind fun t953 => (if t953 < 0 then (some true) else ((laws_szOrnamentS.f l1 t953).bind fun t954 => (if t954 < 0 then (some true) else ((laws_toNoteS.f k l0).bind fun t955 => ((laws_toOrnamentS.f k l1).bind fun t958 => ((spec_OrnamentMelody.f k t955 t958).bind fun bt961 => ((laws_toNoteS.f k l0).bind fun t965 => ((laws_toOrnamentS.f k l1).bind fun t968 => ((impl_OrnamentMelody.f k t965 t968).bind fun bt971 => ((laws_eqInt64S.f k bt971.1 bt961.1).bind fun t975 => (if t975 = true then (laws_FnExactOrnamentMelody.j0 k l0 l1 bt961.1 bt961.2 t965 t968 bt971.1 bt971.2 (bt971.2 != bt961.2)) else (laws_FnExactOrnamentMelody.j0 k l0 l1 bt961.1 bt961.2 t965 t968 bt971.1 bt971.2 true))))))))))))) = some r := h
  clear h
  replace H := Option.bind_eq_some_iff.mp H
  obtain ⟨t953, A30, H⟩ := H
  replace H : (if t953 < 0 then (some true) else ((laws_szOrnamentS.f l1 t953).bind fun t954 => (if t954 < 0 then (some true) else ((laws_toNoteS.f k l0).bind fun t955 => ((laws_toOrnamentS.f k l1).bind fun t958 => ((spec_OrnamentMelody.f k t955 t958).bind fun bt961 => ((laws_toNoteS.f k l0).bind fun t965 => ((laws_toOrnamentS.f k l1).bind fun t968 => ((impl_OrnamentMelody.f k t965 t968).bind fun bt971 => ((laws_eqInt64S.f k bt971.1 bt961.1).bind fun t975 => (if t975 = true then (laws_FnExactOrnamentMelody.j0 k l0 l1 bt961.1 bt961.2 t965 t968 bt971.1 bt971.2 (bt971.2 != bt961.2)) else (laws_FnExactOrnamentMelody.j0 k l0 l1 bt961.1 bt961.2 t965 t968 bt971.1 bt971.2 true)))))))))))) = some r := H
  have A3 := Aside0.mk A30
  clear A30
  by_cases c4 : t953 < 0
  · rw [if_pos c4] at H
    have c4b0 : decide (t953 < 0) = true := decide_eq_true c4
    clear c4
    obtain rfl := Option.some.inj H
    go_enter Try.func13, Try.ntmps13
    go_wp2_with (first | ((with_reducible refine gate_callee (f := 15) rfl ?_); refine goesL_ (some 19) rfl rfl Try.func15 (by kernel_rfl) rfl #[.slice A0 l0.length c0, .int .i64 1048576] rfl (by (try simp only [List.map_toArray, List.map_cons, List.map_nil]); first | done | rfl | (simp only [List.length_drop, List.length_take]; rfl)) ?_; (with_reducible refine (laws_szNoteS.calls _ _ l0 1048576 t953 _ ?side1 ?side2 A3.out).mono ?_); (case side1 => repeat (first | exact HR0.out | (with_reducible refine Kd.C_alloc ?_ _) | (with_reducible refine Kd.C_drewN ?_ _) | (with_reducible refine Kd.C_drew ?_))); (case side2 => exact HC0.out); rintro e w' ⟨rfl, ⟨nd, rfl⟩⟩; refine ⟨_, rfl, ?_⟩))
    go_ret
    exact ⟨by first | rfl | (simp [errW_none, errW_some] <;> rfl) | (simp [*, errW_none, errW_some] <;> rfl), by repeat (first | (with_reducible first | exact HB.out | apply below_alloc | apply pw_below_drewN | apply below_drew1) | exact HB.out)⟩
  · rw [if_neg c4] at H
    have c4b0 : decide (t953 < 0) = false := decide_eq_false c4
    clear c4
    replace H := Option.bind_eq_some_iff.mp H
    obtain ⟨t954, A50, H⟩ := H
    replace H : (if t954 < 0 then (some true) else ((laws_toNoteS.f k l0).bind fun t955 => ((laws_toOrnamentS.f k l1).bind fun t958 => ((spec_OrnamentMelody.f k t955 t958).bind fun bt961 => ((laws_toNoteS.f k l0).bind fun t965 => ((laws_toOrnamentS.f k l1).bind fun t968 => ((impl_OrnamentMelody.f k t965 t968).bind fun bt971 => ((laws_eqInt64S.f k bt971.1 bt961.1).bind fun t975 => (if t975 = true then (laws_FnExactOrnamentMelody.j0 k l0 l1 bt961.1 bt961.2 t965 t968 bt971.1 bt971.2 (bt971.2 != bt961.2)) else (laws_FnExactOrnamentMelody.j0 k l0 l1 bt961.1 bt961.2 t965 t968 bt971.1 bt971.2 true)))))))))) = some r := H
    have A5 := Aside0.mk A50
    clear A50
    by_cases c6 : t954 < 0
    · rw [if_pos c6] at H
      have c6b0 : decide (t954 < 0) = true := decide_eq_true c6
      clear c6
      obtain rfl := Option.some.inj H
      go_enter Try.func13, Try.ntmps13
      go_wp2_with (first | ((with_reducible refine gate_callee (f := 15) rfl ?_); refine goesL_ (some 19) rfl rfl Try.func15 (by kernel_rfl) rfl #[.slice A0 l0.length c0, .int .i64 1048576] rfl (by (try simp only [List.map_toArray, List.map_cons, List.map_nil]); first | done | rfl | (simp only [List.length_drop, List.length_take]; rfl)) ?_; (with_reducible refine (laws_szNoteS.calls _ _ l0 1048576 t953 _ ?side1 ?side2 A3.out).mono ?_); (case side1 => repeat (first | exact HR0.out | (with_reducible refine Kd.C_alloc ?_ _) | (with_reducible refine Kd.C_drewN ?_ _) | (with_reducible refine Kd.C_drew ?_))); (case side2 => exact HC0.out); rintro e w' ⟨rfl, ⟨nd, rfl⟩⟩; refine ⟨_, rfl, ?_⟩) | ((with_reducible refine gate_callee (f := 47) rfl ?_); refine goesL_ (some 24) rfl rfl Try.func47 (by kernel_rfl) rfl #[.slice A1 l1.length c1, .int .i64 t953] rfl (by (try simp only [List.map_toArray, List.map_cons, List.map_nil]); first | done | rfl | (simp only [List.length_drop, List.length_take]; rfl)) ?_; (with_reducible refine (laws_szOrnamentS.calls _ _ l1 t953 t954 _ ?side1 ?side2 A5.out).mono ?_); (case side1 => repeat (first | exact HR1.out | (with_reducible refine Kd.C_alloc ?_ _) | (with_reducible refine Kd.C_drewN ?_ _) | (with_reducible refine Kd.C_drew ?_))); (case side2 => exact HC1.out); rintro e w' ⟨rfl, ⟨nd, rfl⟩⟩; refine ⟨_, rfl, ?_⟩))
      go_ret
      exact ⟨by first | rfl | (simp [errW_none, errW_some] <;> rfl) | (simp [*, errW_none, errW_some] <;> rfl), by repeat (first | (with_reducible first | exact HB.out | apply below_alloc | apply pw_below_drewN | apply below_drew1) | exact HB.out)⟩
    · rw [if_neg c6] at H
      have c6b0 : decide (t954 < 0) = false := decide_eq_false c6
      clear c6
      replace H := Option.bind_eq_some_iff.mp H
      obtain ⟨t955, A70, H⟩ := H
      replace H : ((laws_toOrnamentS.f k l1).bind fun t958 => ((spec_OrnamentMelody.f k t955 t958).bind fun bt961 => ((laws_toNoteS.f k l0).bind fun t965 => ((laws_toOrnamentS.f k l1).bind fun t968 => ((impl_OrnamentMelody.f k t965 t968).bind fun bt971 => ((laws_eqInt64S.f k bt971.1 bt961.1).bind fun t975 => (if t975 = true then (laws_FnExactOrnamentMelody.j0 k l0 l1 bt961.1 bt961.2 t965 t968 bt971.1 bt971.2 (bt971.2 != bt961.2)) else (laws_FnExactOrnamentMelody.j0 k l0 l1 bt961.1 bt961.2 t965 t968 bt971.1 bt971.2 true)))))))) = some r := H
      have A7 := Aside0.mk A70
      clear A70
      replace H := Option.bind_eq_some_iff.mp H
      obtain ⟨t958, A80, H⟩ := H
      replace H : ((spec_OrnamentMelody.f k t955 t958).bind fun bt961 => ((laws_toNoteS.f k l0).bind fun t965 => ((laws_toOrnamentS.f k l1).bind fun t968 => ((impl_OrnamentMelody.f k t965 t968).bind fun bt971 => ((laws_eqInt64S.f k bt971.1 bt961.1).bind fun t975 => (if t975 = true then (laws_FnExactOrnamentMelody.j0 k l0 l1 bt961.1 bt961.2 t965 t968 bt971.1 bt971.2 (bt971.2 != bt961.2)) else (laws_FnExactOrnamentMelody.j0 k l0 l1 bt961.1 bt961.2 t965 t968 bt971.1 bt971.2 true))))))) = some r := H
      have A8 := Aside0.mk A80
      clear A80
      replace H := Option.bind_eq_some_iff.mp H
      obtain ⟨⟨t961, t962⟩, A90, H⟩ := H
      replace H : ((laws_toNoteS.f k l0).bind fun t965 => ((laws_toOrnamentS.f k l1).bind fun t968 => ((impl_OrnamentMelody.f k t965 t968).bind fun bt971 => ((laws_eqInt64S.f k bt971.1 t961).bind fun t975 => (if t975 = true then (laws_FnExactOrnamentMelody.j0 k l0 l1 t961 t962 t965 t968 bt971.1 bt971.2 (bt971.2 != t962)) else (laws_FnExactOrnamentMelody.j0 k l0 l1 t961 t962 t965 t968 bt971.1 bt971.2 true)))))) = some r := H
      have A9 := Aside0.mk A90
      clear A90
      replace H := Option.bind_eq_some_iff.mp H
      obtain ⟨t965, A100, H⟩ := H
      replace H : ((laws_toOrnamentS.f k l1).bind fun t968 => ((impl_OrnamentMelody.f k t965 t968).bind fun bt971 => ((laws_eqInt64S.f k bt971.1 t961).bind fun t975 => (if t975 = true then (laws_FnExactOrnamentMelody.j0 k l0 l1 t961 t962 t965 t968 bt971.1 bt971.2 (bt971.2 != t962)) else (laws_FnExactOrnamentMelody.j0 k l0 l1 t961 t962 t965 t968 bt971.1 bt971.2 true))))) = some r := H
      have A10 := Aside0.mk A100
      clear A100
      replace H := Option.bind_eq_some_iff.mp H
      obtain ⟨t968, A110, H⟩ := H
      replace H : ((impl_OrnamentMelody.f k t965 t968).bind fun bt971 => ((laws_eqInt64S.f k bt971.1 t961).bind fun t975 => (if t975 = true then (laws_FnExactOrnamentMelody.j0 k l0 l1 t961 t962 t965 t968 bt971.1 bt971.2 (bt971.2 != t962)) else (laws_FnExactOrnamentMelody.j0 k l0 l1 t961 t962 t965 t968 bt971.1 bt971.2 true)))) = some r := H
      have A11 := Aside0.mk A110
      clear A110
      replace H := Option.bind_eq_some_iff.mp H
      obtain ⟨⟨t971, t972⟩, A120, H⟩ := H
      replace H : ((laws_eqInt64S.f k t971 t961).bind fun t975 => (if t975 = true then (laws_FnExactOrnamentMelody.j0 k l0 l1 t961 t962 t965 t968 t971 t972 (t972 != t962)) else (laws_FnExactOrnamentMelody.j0 k l0 l1 t961 t962 t965 t968 t971 t972 true))) = some r := H
      have A12 := Aside0.mk A120
      clear A120
      have HC13 := Aside0.mk H
      clear H
      go_enter Try.func13, Try.ntmps13
      go_upto_region 12 with (first | ((with_reducible refine gate_callee (f := 15) rfl ?_); refine goesL_ (some 19) rfl rfl Try.func15 (by kernel_rfl) rfl #[.slice A0 l0.length c0, .int .i64 1048576] rfl (by (try simp only [List.map_toArray, List.map_cons, List.map_nil]); first | done | rfl | (simp only [List.length_drop, List.length_take]; rfl)) ?_; (with_reducible refine (laws_szNoteS.calls _ _ l0 1048576 t953 _ ?side1 ?side2 A3.out).mono ?_); (case side1 => repeat (first | exact HR0.out | (with_reducible refine Kd.C_alloc ?_ _) | (with_reducible refine Kd.C_drewN ?_ _) | (with_reducible refine Kd.C_drew ?_))); (case side2 => exact HC0.out); rintro e w' ⟨rfl, ⟨nd, rfl⟩⟩; refine ⟨_, rfl, ?_⟩) | ((with_reducible refine gate_callee (f := 47) rfl ?_); refine goesL_ (some 24) rfl rfl Try.func47 (by kernel_rfl) rfl #[.slice A1 l1.length c1, .int .i64 t953] rfl (by (try simp only [List.map_toArray, List.map_cons, List.map_nil]); first | done | rfl | (simp only [List.length_drop, List.length_take]; rfl)) ?_; (with_reducible refine (laws_szOrnamentS.calls _ _ l1 t953 t954 _ ?side1 ?side2 A5.out).mono ?_); (case side1 => repeat (first | exact HR1.out | (with_reducible refine Kd.C_alloc ?_ _) | (with_reducible refine Kd.C_drewN ?_ _) | (with_reducible refine Kd.C_drew ?_))); (case side2 => exact HC1.out); rintro e w' ⟨rfl, ⟨nd, rfl⟩⟩; refine ⟨_, rfl, ?_⟩) | ((with_reducible refine gate_callee (f := 17) rfl ?_); refine goesL_ (some 29) rfl rfl Try.func17 (by kernel_rfl) rfl #[.slice A0 l0.length c0] rfl (by (try simp only [List.map_toArray, List.map_cons, List.map_nil]); first | done | rfl | (simp only [List.length_drop, List.length_take]; rfl)) ?_; (with_reducible refine (laws_toNoteS.calls k _ _ l0 t955 _ ?side1 ?side2 A7.out).mono ?_); (case side1 => repeat (first | exact HR0.out | (with_reducible refine Kd.C_alloc ?_ _) | (with_reducible refine Kd.C_drewN ?_ _) | (with_reducible refine Kd.C_drew ?_))); (case side2 => exact HC0.out); rintro e w14 ⟨v956, rfl, ho0, hb⟩; refine ⟨_, rfl, ?_⟩; have n0_ := Aside0.mk (Kd.R_lower ho0 (below_size (by repeat (first | (with_reducible first | exact HB.out | apply below_alloc | apply pw_below_drewN | apply below_drew1) | exact HB.out)))); have n1_ := Aside0.mk (below_step (by repeat (first | (with_reducible first | exact HB.out | apply below_alloc | apply pw_below_drewN | apply below_drew1) | exact HB.out)) hb); clear HB; have HO957 := n0_; have HB := n1_; clear n0_ n1_; (try clear hb); (try clear hb2); (try clear hk); (try clear hi); (try clear ho0)) | ((with_reducible refine gate_callee (f := 49) rfl ?_); refine goesL_ (some 31) rfl rfl Try.func49 (by kernel_rfl) rfl #[.slice A1 l1.length c1] rfl (by (try simp only [List.map_toArray, List.map_cons, List.map_nil]); first | done | rfl | (simp only [List.length_drop, List.length_take]; rfl)) ?_; (with_reducible refine (laws_toOrnamentS.calls k _ _ l1 t958 _ ?side1 ?side2 A8.out).mono ?_); (case side1 => repeat (first | exact (Kd.C_below HR1.out HB.out) | (with_reducible refine Kd.C_alloc ?_ _) | (with_reducible refine Kd.C_drewN ?_ _) | (with_reducible refine Kd.C_drew ?_))); (case side2 => exact HC1.out); rintro e w15 ⟨v959, rfl, ho0, hb⟩; refine ⟨_, rfl, ?_⟩; have n0_ := Aside0.mk (Kd.R_below (by (with_reducible repeat (first | apply Kd.R_alloc | apply Kd.R_drewN | apply Kd.R_drew)); exact HO957.out) hb); have n1_ := Aside0.mk (Kd.R_lower ho0 (below_size (by repeat (first | (with_reducible first | exact HB.out | apply below_alloc | apply pw_below_drewN | apply below_drew1) | exact HB.out)))); have n2_ := Aside0.mk (below_step (by repeat (first | (with_reducible first | exact HB.out | apply below_alloc | apply pw_below_drewN | apply below_drew1) | exact HB.out)) hb); clear HO957; clear HB; have HO957 := n0_; have HO960 := n1_; have HB := n2_; clear n0_ n1_ n2_; (try clear hb); (try clear hb2); (try clear hk); (try clear hi); (try clear ho0); obtain ⟨Ao16, co16, eo16⟩ := Kd.R_slice HO957.out; subst eo16; obtain ⟨Ao17, co17, eo17⟩ := Kd.R_slice HO960.out; subst eo17) | ((with_reducible refine gate_callee (f := 48) rfl ?_); refine goesL_ (some 32) rfl rfl Try.func48 (by kernel_rfl) rfl #[.slice Ao16 t955.length co16, .slice Ao17 t958.length co17] rfl (by (try simp only [List.map_toArray, List.map_cons, List.map_nil]); first | done | rfl | (simp only [List.length_drop, List.length_take]; rfl)) ?_; (with_reducible refine (spec_OrnamentMelody.calls k _ _ t955 _ _ t958 t961 t962 _ ?side1 ?side2 ?side3 ?side4 A9.out).mono ?_); (case side1 => repeat (first | exact (Kd.R_reads' HO957.out).2.2 | (with_reducible refine Kd.C_alloc ?_ _) | (with_reducible refine Kd.C_drewN ?_ _) | (with_reducible refine Kd.C_drew ?_))); (case side2 => exact (Kd.R_reads' HO957.out).2.1); (case side3 => repeat (first | exact (Kd.R_reads' HO960.out).2.2 | (with_reducible refine Kd.C_alloc ?_ _) | (with_reducible refine Kd.C_drewN ?_ _) | (with_reducible refine Kd.C_drew ?_))); (case side4 => exact (Kd.R_reads' HO960.out).2.1); rintro e w18 ⟨v963, rfl, ho0, hb⟩; refine ⟨_, rfl, ?_⟩; have n0_ := Aside0.mk (Kd.R_below (by (with_reducible repeat (first | apply Kd.R_alloc | apply Kd.R_drewN | apply Kd.R_drew)); exact HO957.out) hb); have n1_ := Aside0.mk (Kd.R_below (by (with_reducible repeat (first | apply Kd.R_alloc | apply Kd.R_drewN | apply Kd.R_drew)); exact HO960.out) hb); have n2_ := Aside0.mk (Kd.R_lower ho0 (below_size (by repeat (first | (with_reducible first | exact HB.out | apply below_alloc | apply pw_below_drewN | apply below_drew1) | exact HB.out)))); have n3_ := Aside0.mk (below_step (by repeat (first | (with_reducible first | exact HB.out | apply below_alloc | apply pw_below_drewN | apply below_drew1) | exact HB.out)) hb); clear HO957; clear HO960; clear HB; have HO957 := n0_; have HO960 := n1_; have HO964 := n2_; have HB := n3_; clear n0_ n1_ n2_ n3_; (try clear hb); (try clear hb2); (try clear hk); (try clear hi); (try clear ho0)) | ((with_reducible refine gate_callee (f := 17) rfl ?_); refine goesL_ (some 36) rfl rfl Try.func17 (by kernel_rfl) rfl #[.slice A0 l0.length c0] rfl (by (try simp only [List.map_toArray, List.map_cons, List.map_nil]); first | done | rfl | (simp only [List.length_drop, List.length_take]; rfl)) ?_; (with_reducible refine (laws_toNoteS.calls k _ _ l0 t965 _ ?side1 ?side2 A10.out).mono ?_); (case side1 => repeat (first | exact (Kd.C_below HR0.out HB.out) | (with_reducible refine Kd.C_alloc ?_ _) | (with_reducible refine Kd.C_drewN ?_ _) | (with_reducible refine Kd.C_drew ?_))); (case side2 => exact HC0.out); rintro e w19 ⟨v966, rfl, ho0, hb⟩; refine ⟨_, rfl, ?_⟩; have n0_ := Aside0.mk (Kd.R_elder' (by (with_reducible repeat (first | apply Kd.R_alloc | apply Kd.R_drewN | apply Kd.R_drew)); exact HO957.out) (Kd.R_base ho0) hb); have n1_ := Aside0.mk (Kd.R_below (by (with_reducible repeat (first | apply Kd.R_alloc | apply Kd.R_drewN | apply Kd.R_drew)); exact HO960.out) hb); have n2_ := Aside0.mk (Kd.R_below (by (with_reducible repeat (first | apply Kd.R_alloc | apply Kd.R_drewN | apply Kd.R_drew)); exact HO964.out) hb); have n3_ := Aside0.mk (Kd.R_lower (Kd.R_new' ho0 (Kd.R_lt (by (with_reducible repeat (first | apply Kd.R_alloc | apply Kd.R_drewN | apply Kd.R_drew)); exact HO957.out))) (below_size (by repeat (first | (with_reducible first | exact HB.out | apply below_alloc | apply pw_below_drewN | apply below_drew1) | exact HB.out)))); have n4_ := Aside0.mk (below_step (by repeat (first | (with_reducible first | exact HB.out | apply below_alloc | apply pw_below_drewN | apply below_drew1) | exact HB.out)) hb); clear HO957; clear HO960; clear HO964; clear HB; have HO957 := n0_; have HO960 := n1_; have HO964 := n2_; have HO967 := n3_; have HB := n4_; clear n0_ n1_ n2_ n3_ n4_; (try clear hb); (try clear hb2); (try clear hk); (try clear hi); (try clear ho0)) | ((with_reducible refine gate_callee (f := 49) rfl ?_); refine goesL_ (some 38) rfl rfl Try.func49 (by kernel_rfl) rfl #[.slice A1 l1.length c1] rfl (by (try simp only [List.map_toArray, List.map_cons, List.map_nil]); first | done | rfl | (simp only [List.length_drop, List.length_take]; rfl)) ?_; (with_reducible refine (laws_toOrnamentS.calls k _ _ l1 t968 _ ?side1 ?side2 A11.out).mono ?_); (case side1 => repeat (first | exact (Kd.C_below HR1.out HB.out) | (with_reducible refine Kd.C_alloc ?_ _) | (with_reducible refine Kd.C_drewN ?_ _) | (with_reducible refine Kd.C_drew ?_))); (case side2 => exact HC1.out); rintro e w20 ⟨v969, rfl, ho0, hb⟩; refine ⟨_, rfl, ?_⟩; have n0_ := Aside0.mk (Kd.R_below (by (with_reducible repeat (first | apply Kd.R_alloc | apply Kd.R_drewN | apply Kd.R_drew)); exact HO957.out) hb); have n1_ := Aside0.mk (Kd.R_elder' (by (with_reducible repeat (first | apply Kd.R_alloc | apply Kd.R_drewN | apply Kd.R_drew)); exact HO960.out) (Kd.R_base ho0) hb); have n2_ := Aside0.mk (Kd.R_below (by (with_reducible repeat (first | apply Kd.R_alloc | apply Kd.R_drewN | apply Kd.R_drew)); exact HO964.out) hb); have n3_ := Aside0.mk (Kd.R_below (by (with_reducible repeat (first | apply Kd.R_alloc | apply Kd.R_drewN | apply Kd.R_drew)); exact HO967.out) hb); have n4_ := Aside0.mk (Kd.R_lower (Kd.R_new' ho0 (Kd.R_lt (by (with_reducible repeat (first | apply Kd.R_alloc | apply Kd.R_drewN | apply Kd.R_drew)); exact HO960.out))) (below_size (by repeat (first | (with_reducible first | exact HB.out | apply below_alloc | apply pw_below_drewN | apply below_drew1) | exact HB.out)))); have n5_ := Aside0.mk (below_step (by repeat (first | (with_reducible first | exact HB.out | apply below_alloc | apply pw_below_drewN | apply below_drew1) | exact HB.out)) hb); clear HO957; clear HO960; clear HO964; clear HO967; clear HB; have HO957 := n0_; have HO960 := n1_; have HO964 := n2_; have HO967 := n3_; have HO970 := n4_; have HB := n5_; clear n0_ n1_ n2_ n3_ n4_ n5_; (try clear hb); (try clear hb2); (try clear hk); (try clear hi); (try clear ho0); obtain ⟨Ao21, co21, eo21⟩ := Kd.R_slice HO967.out; subst eo21; obtain ⟨Ao22, co22, eo22⟩ := Kd.R_slice HO970.out; subst eo22) | ((with_reducible refine gate_callee (f := 50) rfl ?_); refine goesL_ (some 42) rfl rfl Try.func50 (by kernel_rfl) rfl #[.slice Ao21 t965.length co21, .slice Ao22 t968.length co22] rfl (by (try simp only [List.map_toArray, List.map_cons, List.map_nil]); first | done | rfl | (simp only [List.length_drop, List.length_take]; rfl)) ?_; (with_reducible refine (impl_OrnamentMelody.calls k _ _ t965 _ _ t968 t971 t972 _ ?side1 ?side2 ?side3 ?side4 A12.out).mono ?_); (case side1 => repeat (first | exact (Kd.R_reads' HO967.out).2.2 | (with_reducible refine Kd.C_alloc ?_ _) | (with_reducible refine Kd.C_drewN ?_ _) | (with_reducible refine Kd.C_drew ?_))); (case side2 => exact (Kd.R_reads' HO967.out).2.1); (case side3 => repeat (first | exact (Kd.R_reads' HO970.out).2.2 | (with_reducible refine Kd.C_alloc ?_ _) | (with_reducible refine Kd.C_drewN ?_ _) | (with_reducible refine Kd.C_drew ?_))); (case side4 => exact (Kd.R_reads' HO970.out).2.1); rintro e w23 ⟨v973, rfl, ho0, hb⟩; refine ⟨_, rfl, ?_⟩; have n0_ := Aside0.mk (Kd.R_below (by (with_reducible repeat (first | apply Kd.R_alloc | apply Kd.R_drewN | apply Kd.R_drew)); exact HO957.out) hb); have n1_ := Aside0.mk (Kd.R_below (by (with_reducible repeat (first | apply Kd.R_alloc | apply Kd.R_drewN | apply Kd.R_drew)); exact HO960.out) hb); have n2_ := Aside0.mk (Kd.R_elder' (by (with_reducible repeat (first | apply Kd.R_alloc | apply Kd.R_drewN | apply Kd.R_drew)); exact HO964.out) (Kd.R_base ho0) hb); have n3_ := Aside0.mk (Kd.R_below (by (with_reducible repeat (first | apply Kd.R_alloc | apply Kd.R_drewN | apply Kd.R_drew)); exact HO967.out) hb); have n4_ := Aside0.mk (Kd.R_below (by (with_reducible repeat (first | apply Kd.R_alloc | apply Kd.R_drewN | apply Kd.R_drew)); exact HO970.out) hb); have n5_ := Aside0.mk (Kd.R_lower (Kd.R_new' ho0 (Kd.R_lt (by (with_reducible repeat (first | apply Kd.R_alloc | apply Kd.R_drewN | apply Kd.R_drew)); exact HO964.out))) (below_size (by repeat (first | (with_reducible first | exact HB.out | apply below_alloc | apply pw_below_drewN | apply below_drew1) | exact HB.out)))); have n6_ := Aside0.mk (below_step (by repeat (first | (with_reducible first | exact HB.out | apply below_alloc | apply pw_below_drewN | apply below_drew1) | exact HB.out)) hb); clear HO957; clear HO960; clear HO964; clear HO967; clear HO970; clear HB; have HO957 := n0_; have HO960 := n1_; have HO964 := n2_; have HO967 := n3_; have HO970 := n4_; have HO974 := n5_; have HB := n6_; clear n0_ n1_ n2_ n3_ n4_ n5_ n6_; (try clear hb); (try clear hb2); (try clear hk); (try clear hi); (try clear ho0)))
      (try simp only [Act.put, List.setIfInBounds_toArray, List.set_cons_zero, List.set_cons_succ])
      go_cut [53] (fun v53 wc => ∃ (kq : Nat) (x53_12 : Bool), v53 = .bool x53_12 ∧ Aside0 (laws_FnExactOrnamentMelody.j0 kq l0 l1 t961 t962 t965 t968 t971 t972 x53_12 = some r) ∧ Aside0 (kq ≤ k) ∧ Aside0 (Kd.R (Kd.int .i64) 2 wc w.heap.size (fun k_ => some k_ ≠ (v973 : Value).ownBlock) v963 t961) ∧ Aside0 (Kd.R k75 75 wc w.heap.size (fun _ => True) (.slice Ao21 t965.length co21) t965) ∧ Aside0 (Kd.R k98 98 wc w.heap.size (fun _ => True) (.slice Ao22 t968.length co22) t968) ∧ Aside0 (Kd.R (Kd.int .i64) 2 wc w.heap.size (fun k_ => some k_ ≠ (v963 : Value).ownBlock) v973 t971) ∧ Aside0 (Below w.heap.size w wc))
      case first =>
        have H := HC13.out
        clear HC13
        replace H := Option.bind_eq_some_iff.mp H
        obtain ⟨t975, A240, H⟩ := H
        replace H : (if t975 = true then (laws_FnExactOrnamentMelody.j0 k l0 l1 t961 t962 t965 t968 t971 t972 (t972 != t962)) else (laws_FnExactOrnamentMelody.j0 k l0 l1 t961 t962 t965 t968 t971 t972 true)) = some r := H
        have A24 := Aside0.mk A240
        clear A240
        by_cases c25 : t975 = true
        · subst c25
          have H1 : (laws_FnExactOrnamentMelody.j0 k l0 l1 t961 t962 t965 t968 t971 t972 (t972 != t962)) = some r := by rw [if_pos rfl] at H; exact H
          clear H
          have H := H1
          clear H1
          have H' := Aside0.mk H
          clear H
          obtain ⟨Ao26, co26, eo26⟩ := Kd.R_slice HO974.out
          subst eo26
          obtain ⟨Ao27, co27, eo27⟩ := Kd.R_slice HO964.out
          subst eo27
          go_wp2_with (first | ((with_reducible refine gate_callee (f := 23) rfl ?_); refine goesL_ (some 47) rfl rfl Try.func23 (by kernel_rfl) rfl #[.slice Ao26 t971.length co26, .slice Ao27 t961.length co27] rfl (by (try simp only [List.map_toArray, List.map_cons, List.map_nil]); first | done | rfl | (simp only [List.length_drop, List.length_take]; rfl)) ?_; (with_reducible refine (laws_eqInt64S.calls k _ _ t971 _ _ t961 true _ ?side1 ?side2 ?side3 ?side4 A24.out).mono ?_); (case side1 => repeat (first | exact (Kd.R_reads' HO974.out).2.2 | (with_reducible refine Kd.C_alloc ?_ _) | (with_reducible refine Kd.C_drewN ?_ _) | (with_reducible refine Kd.C_drew ?_))); (case side2 => exact (Kd.R_reads' HO974.out).2.1); (case side3 => repeat (first | exact (Kd.R_reads' HO964.out).2.2 | (with_reducible refine Kd.C_alloc ?_ _) | (with_reducible refine Kd.C_drewN ?_ _) | (with_reducible refine Kd.C_drew ?_))); (case side4 => exact (Kd.R_reads' HO964.out).2.1); rintro e w' ⟨rfl, ⟨nd, rfl⟩⟩; refine ⟨_, rfl, ?_⟩))
          go_meet
          case rel => exact ⟨_, ((t972 != t962)), (by first | rfl | (simp; done) | (simp [*]; done)), H', ⟨by first | omega | exact Nat.le_refl _⟩, ⟨by (with_reducible repeat (first | apply Kd.R_alloc | apply Kd.R_drewN | apply Kd.R_drew)); exact Kd.R_mono HO964.out (fun _ hk => hk.2)⟩, ⟨by (with_reducible repeat (first | apply Kd.R_alloc | apply Kd.R_drewN | apply Kd.R_drew)); exact Kd.R_mono HO967.out (fun _ hk => trivial)⟩, ⟨by (with_reducible repeat (first | apply Kd.R_alloc | apply Kd.R_drewN | apply Kd.R_drew)); exact Kd.R_mono HO970.out (fun _ hk => trivial)⟩, ⟨by (with_reducible repeat (first | apply Kd.R_alloc | apply Kd.R_drewN | apply Kd.R_drew)); exact Kd.R_mono HO974.out (fun _ hk => hk.2)⟩, ⟨by repeat (first | (with_reducible first | exact HB.out | apply below_alloc | apply pw_below_drewN | apply below_drew1) | exact HB.out)⟩⟩
        · replace c25 := Bool.eq_false_iff.mpr c25
          subst c25
          have H1 : (laws_FnExactOrnamentMelody.j0 k l0 l1 t961 t962 t965 t968 t971 t972 true) = some r := by rw [if_neg (show ¬ (false = true) by decide)] at H; exact H
          clear H
          have H := H1
          clear H1
          have H' := Aside0.mk H
          clear H
          obtain ⟨Ao28, co28, eo28⟩ := Kd.R_slice HO974.out
          subst eo28
          obtain ⟨Ao29, co29, eo29⟩ := Kd.R_slice HO964.out
          subst eo29
          go_wp2_with (first | ((with_reducible refine gate_callee (f := 23) rfl ?_); refine goesL_ (some 47) rfl rfl Try.func23 (by kernel_rfl) rfl #[.slice Ao28 t971.length co28, .slice Ao29 t961.length co29] rfl (by (try simp only [List.map_toArray, List.map_cons, List.map_nil]); first | done | rfl | (simp only [List.length_drop, List.length_take]; rfl)) ?_; (with_reducible refine (laws_eqInt64S.calls k _ _ t971 _ _ t961 false _ ?side1 ?side2 ?side3 ?side4 A24.out).mono ?_); (case side1 => repeat (first | exact (Kd.R_reads' HO974.out).2.2 | (with_reducible refine Kd.C_alloc ?_ _) | (with_reducible refine Kd.C_drewN ?_ _) | (with_reducible refine Kd.C_drew ?_))); (case side2 => exact (Kd.R_reads' HO974.out).2.1); (case side3 => repeat (first | exact (Kd.R_reads' HO964.out).2.2 | (with_reducible refine Kd.C_alloc ?_ _) | (with_reducible refine Kd.C_drewN ?_ _) | (with_reducible refine Kd.C_drew ?_))); (case side4 => exact (Kd.R_reads' HO964.out).2.1); rintro e w' ⟨rfl, ⟨nd, rfl⟩⟩; refine ⟨_, rfl, ?_⟩))
          go_meet
          case rel => exact ⟨_, (true), (by first | rfl | (simp; done) | (simp [*]; done)), H', ⟨by first | omega | exact Nat.le_refl _⟩, ⟨by (with_reducible repeat (first | apply Kd.R_alloc | apply Kd.R_drewN | apply Kd.R_drew)); exact Kd.R_mono HO964.out (fun _ hk => hk.2)⟩, ⟨by (with_reducible repeat (first | apply Kd.R_alloc | apply Kd.R_drewN | apply Kd.R_drew)); exact Kd.R_mono HO967.out (fun _ hk => trivial)⟩, ⟨by (with_reducible repeat (first | apply Kd.R_alloc | apply Kd.R_drewN | apply Kd.R_drew)); exact Kd.R_mono HO970.out (fun _ hk => trivial)⟩, ⟨by (with_reducible repeat (first | apply Kd.R_alloc | apply Kd.R_drewN | apply Kd.R_drew)); exact Kd.R_mono HO974.out (fun _ hk => hk.2)⟩, ⟨by repeat (first | (with_reducible first | exact HB.out | apply below_alloc | apply pw_below_drewN | apply below_drew1) | exact HB.out)⟩⟩
      case rest =>
        clear HC13
        try clear c1
        try clear c2
        try clear p2
        try clear c4
        try clear c4b0
        try clear c5
        try clear c6
        try clear c6b0
        try clear c13
        try clear c15
        try clear c17
        try clear c23
        try clear c25
        obtain ⟨kq, x53_12, rfl, HA, HJ12, HO_6, HO_8, HO_9, HO_10, HB⟩ := hcut
        cases kq with
        | zero => exact absurd HA.out (by simp [laws_FnExactOrnamentMelody.j0])
        | succ kj12 =>
          have H := HA.out
          clear HA
          simp only [laws_FnExactOrnamentMelody.j0] at H
          by_cases c30 : x53_12 = true
          · subst c30
            have H1 : (some false) = some r := by rw [if_pos rfl] at H; exact H
            clear H
            have H := H1
            clear H1
            exact absurd ((Option.some.inj H).trans HT.out) (by decide)
          · replace c30 := Bool.eq_false_iff.mpr c30
            subst c30
            have H1 : ((laws_toNoteS.f kj12 l0).bind fun t976 => ((laws_eqNoteS.f kj12 t965 t976).bind fun t979 => (if t979 = true then ((laws_toOrnamentS.f kj12 l1).bind fun t980 => ((laws_eqOrnamentS.f kj12 t968 t980).bind fun t983 => (if t983 = true then ((laws_markNoteS.f kj12 t965 1).bind fun bt984 => ((laws_markOrnamentS.f kj12 t968 bt984.1).bind fun bt986 => (if bt986.1 < 0 then (laws_FnExactOrnamentMelody.j1 kj12 l0 l1 t961 t962 t971 true) else ((laws_eqInt64S.f kj12 t971 t961).bind fun t988 => (if t988 = true then (laws_FnExactOrnamentMelody.j1 kj12 l0 l1 t961 t962 t971 (t972 != t962)) else (laws_FnExactOrnamentMelody.j1 kj12 l0 l1 t961 t962 t971 true)))))) else (some false)))) else (some false)))) = some r := by rw [if_neg (show ¬ (false = true) by decide)] at H; exact H
            clear H
            have H := H1
            clear H1
            replace H := Option.bind_eq_some_iff.mp H
            obtain ⟨t976, A310, H⟩ := H
            replace H : ((laws_eqNoteS.f kj12 t965 t976).bind fun t979 => (if t979 = true then ((laws_toOrnamentS.f kj12 l1).bind fun t980 => ((laws_eqOrnamentS.f kj12 t968 t980).bind fun t983 => (if t983 = true then ((laws_markNoteS.f kj12 t965 1).bind fun bt984 => ((laws_markOrnamentS.f kj12 t968 bt984.1).bind fun bt986 => (if bt986.1 < 0 then (laws_FnExactOrnamentMelody.j1 kj12 l0 l1 t961 t962 t971 true) else ((laws_eqInt64S.f kj12 t971 t961).bind fun t988 => (if t988 = true then (laws_FnExactOrnamentMelody.j1 kj12 l0 l1 t961 t962 t971 (t972 != t962)) else (laws_FnExactOrnamentMelody.j1 kj12 l0 l1 t961 t962 t971 true)))))) else (some false)))) else (some false))) = some r := H
            have A31 := Aside0.mk A310
            clear A310
            replace H := Option.bind_eq_some_iff.mp H
            obtain ⟨t979, A320, H⟩ := H
            replace H : (if t979 = true then ((laws_toOrnamentS.f kj12 l1).bind fun t980 => ((laws_eqOrnamentS.f kj12 t968 t980).bind fun t983 => (if t983 = true then ((laws_markNoteS.f kj12 t965 1).bind fun bt984 => ((laws_markOrnamentS.f kj12 t968 bt984.1).bind fun bt986 => (if bt986.1 < 0 then (laws_FnExactOrnamentMelody.j1 kj12 l0 l1 t961 t962 t971 true) else ((laws_eqInt64S.f kj12 t971 t961).bind fun t988 => (if t988 = true then (laws_FnExactOrnamentMelody.j1 kj12 l0 l1 t961 t962 t971 (t972 != t962)) else (laws_FnExactOrnamentMelody.j1 kj12 l0 l1 t961 t962 t971 true)))))) else (some false)))) else (some false)) = some r := H
            have A32 := Aside0.mk A320
            clear A320
            by_cases c33 : t979 = true
            · subst c33
              have H1 : ((laws_toOrnamentS.f kj12 l1).bind fun t980 => ((laws_eqOrnamentS.f kj12 t968 t980).bind fun t983 => (if t983 = true then ((laws_markNoteS.f kj12 t965 1).bind fun bt984 => ((laws_markOrnamentS.f kj12 t968 bt984.1).bind fun bt986 => (if bt986.1 < 0 then (laws_FnExactOrnamentMelody.j1 kj12 l0 l1 t961 t962 t971 true) else ((laws_eqInt64S.f kj12 t971 t961).bind fun t988 => (if t988 = true then (laws_FnExactOrnamentMelody.j1 kj12 l0 l1 t961 t962 t971 (t972 != t962)) else (laws_FnExactOrnamentMelody.j1 kj12 l0 l1 t961 t962 t971 true)))))) else (some false)))) = some r := by rw [if_pos rfl] at H; exact H
              clear H
              have H := H1
              clear H1
              replace H := Option.bind_eq_some_iff.mp H
              obtain ⟨t980, A340, H⟩ := H
              replace H : ((laws_eqOrnamentS.f kj12 t968 t980).bind fun t983 => (if t983 = true then ((laws_markNoteS.f kj12 t965 1).bind fun bt984 => ((laws_markOrnamentS.f kj12 t968 bt984.1).bind fun bt986 => (if bt986.1 < 0 then (laws_FnExactOrnamentMelody.j1 kj12 l0 l1 t961 t962 t971 true) else ((laws_eqInt64S.f kj12 t971 t961).bind fun t988 => (if t988 = true then (laws_FnExactOrnamentMelody.j1 kj12 l0 l1 t961 t962 t971 (t972 != t962)) else (laws_FnExactOrnamentMelody.j1 kj12 l0 l1 t961 t962 t971 true)))))) else (some false))) = some r := H
              have A34 := Aside0.mk A340
              clear A340
              replace H := Option.bind_eq_some_iff.mp H
              obtain ⟨t983, A350, H⟩ := H
              replace H : (if t983 = true then ((laws_markNoteS.f kj12 t965 1).bind fun bt984 => ((laws_markOrnamentS.f kj12 t968 bt984.1).bind fun bt986 => (if bt986.1 < 0 then (laws_FnExactOrnamentMelody.j1 kj12 l0 l1 t961 t962 t971 true) else ((laws_eqInt64S.f kj12 t971 t961).bind fun t988 => (if t988 = true then (laws_FnExactOrnamentMelody.j1 kj12 l0 l1 t961 t962 t971 (t972 != t962)) else (laws_FnExactOrnamentMelody.j1 kj12 l0 l1 t961 t962 t971 true)))))) else (some false)) = some r := H
              have A35 := Aside0.mk A350
              clear A350
              by_cases c36 : t983 = true
              · subst c36
                have H1 : ((laws_markNoteS.f kj12 t965 1).bind fun bt984 => ((laws_markOrnamentS.f kj12 t968 bt984.1).bind fun bt986 => (if bt986.1 < 0 then (laws_FnExactOrnamentMelody.j1 kj12 l0 l1 t961 t962 t971 true) else ((laws_eqInt64S.f kj12 t971 t961).bind fun t988 => (if t988 = true then (laws_FnExactOrnamentMelody.j1 kj12 l0 l1 t961 t962 t971 (t972 != t962)) else (laws_FnExactOrnamentMelody.j1 kj12 l0 l1 t961 t962 t971 true)))))) = some r := by rw [if_pos rfl] at H; exact H
                clear H
                have H := H1
                clear H1
                replace H := Option.bind_eq_some_iff.mp H
                obtain ⟨⟨t984, t985⟩, A370, H⟩ := H
                replace H : ((laws_markOrnamentS.f kj12 t968 t984).bind fun bt986 => (if bt986.1 < 0 then (laws_FnExactOrnamentMelody.j1 kj12 l0 l1 t961 t962 t971 true) else ((laws_eqInt64S.f kj12 t971 t961).bind fun t988 => (if t988 = true then (laws_FnExactOrnamentMelody.j1 kj12 l0 l1 t961 t962 t971 (t972 != t962)) else (laws_FnExactOrnamentMelody.j1 kj12 l0 l1 t961 t962 t971 true))))) = some r := H
                have A37 := Aside0.mk A370
                clear A370
                replace H := Option.bind_eq_some_iff.mp H
                obtain ⟨⟨t986, t987⟩, A380, H⟩ := H
                replace H : (if t986 < 0 then (laws_FnExactOrnamentMelody.j1 kj12 l0 l1 t961 t962 t971 true) else ((laws_eqInt64S.f kj12 t971 t961).bind fun t988 => (if t988 = true then (laws_FnExactOrnamentMelody.j1 kj12 l0 l1 t961 t962 t971 (t972 != t962)) else (laws_FnExactOrnamentMelody.j1 kj12 l0 l1 t961 t962 t971 true)))) = some r := H
                have A38 := Aside0.mk A380
                clear A380
                have HC39 := Aside0.mk H
                clear H
                go_upto_region 21 with (first | ((with_reducible refine gate_callee (f := 17) rfl ?_); refine goesL_ (some 56) rfl rfl Try.func17 (by kernel_rfl) rfl #[.slice A0 l0.length c0] rfl (by (try simp only [List.map_toArray, List.map_cons, List.map_nil]); first | done | rfl | (simp only [List.length_drop, List.length_take]; rfl)) ?_; (with_reducible refine (laws_toNoteS.calls kj12 _ _ l0 t976 _ ?side1 ?side2 A31.out).mono ?_); (case side1 => repeat (first | exact (Kd.C_below HR0.out HB.out) | (with_reducible refine Kd.C_alloc ?_ _) | (with_reducible refine Kd.C_drewN ?_ _) | (with_reducible refine Kd.C_drew ?_))); (case side2 => exact HC0.out); rintro e w40 ⟨v977, rfl, ho0, hb⟩; refine ⟨_, rfl, ?_⟩; have n0_ := Aside0.mk (Kd.R_below (by (with_reducible repeat (first | apply Kd.R_alloc | apply Kd.R_drewN | apply Kd.R_drew)); exact HO_6.out) hb); have n1_ := Aside0.mk (Kd.R_elder' (by (with_reducible repeat (first | apply Kd.R_alloc | apply Kd.R_drewN | apply Kd.R_drew)); exact HO_8.out) (Kd.R_base ho0) hb); have n2_ := Aside0.mk (Kd.R_below (by (with_reducible repeat (first | apply Kd.R_alloc | apply Kd.R_drewN | apply Kd.R_drew)); exact HO_9.out) hb); have n3_ := Aside0.mk (Kd.R_below (by (with_reducible repeat (first | apply Kd.R_alloc | apply Kd.R_drewN | apply Kd.R_drew)); exact HO_10.out) hb); have n4_ := Aside0.mk (Kd.R_lower (Kd.R_new' ho0 (Kd.R_lt (by (with_reducible repeat (first | apply Kd.R_alloc | apply Kd.R_drewN | apply Kd.R_drew)); exact HO_8.out))) (below_size (by repeat (first | (with_reducible first | exact HB.out | apply below_alloc | apply pw_below_drewN | apply below_drew1) | exact HB.out)))); have n5_ := Aside0.mk (below_step (by repeat (first | (with_reducible first | exact HB.out | apply below_alloc | apply pw_below_drewN | apply below_drew1) | exact HB.out)) hb); clear HO_6; clear HO_8; clear HO_9; clear HO_10; clear HB; have HO_6 := n0_; have HO_8 := n1_; have HO_9 := n2_; have HO_10 := n3_; have HO978 := n4_; have HB := n5_; clear n0_ n1_ n2_ n3_ n4_ n5_; (try clear hb); (try clear hb2); (try clear hk); (try clear hi); (try clear ho0); obtain ⟨Ao41, co41, eo41⟩ := Kd.R_slice HO978.out; subst eo41) | ((with_reducible refine gate_callee (f := 19) rfl ?_); refine goesL_ (some 57) rfl rfl Try.func19 (by kernel_rfl) rfl #[.slice Ao21 t965.length co21, .slice Ao41 t976.length co41] rfl (by (try simp only [List.map_toArray, List.map_cons, List.map_nil]); first | done | rfl | (simp only [List.length_drop, List.length_take]; rfl)) ?_; (with_reducible refine (laws_eqNoteS.calls kj12 _ _ t965 _ _ t976 true _ ?side1 ?side2 ?side3 ?side4 A32.out).mono ?_); (case side1 => repeat (first | exact (Kd.R_reads' HO_8.out).2.2 | (with_reducible refine Kd.C_alloc ?_ _) | (with_reducible refine Kd.C_drewN ?_ _) | (with_reducible refine Kd.C_drew ?_))); (case side2 => exact (Kd.R_reads' HO_8.out).2.1); (case side3 => repeat (first | exact (Kd.R_reads' HO978.out).2.2 | (with_reducible refine Kd.C_alloc ?_ _) | (with_reducible refine Kd.C_drewN ?_ _) | (with_reducible refine Kd.C_drew ?_))); (case side4 => exact (Kd.R_reads' HO978.out).2.1); rintro e w42 ⟨rfl, hb⟩; refine ⟨_, rfl, ?_⟩; have n0_ := Aside0.mk (Kd.R_below (by (with_reducible repeat (first | apply Kd.R_alloc | apply Kd.R_drewN | apply Kd.R_drew)); exact HO_6.out) hb); have n1_ := Aside0.mk (Kd.R_below (by (with_reducible repeat (first | apply Kd.R_alloc | apply Kd.R_drewN | apply Kd.R_drew)); exact HO_8.out) hb); have n2_ := Aside0.mk (Kd.R_below (by (with_reducible repeat (first | apply Kd.R_alloc | apply Kd.R_drewN | apply Kd.R_drew)); exact HO_9.out) hb); have n3_ := Aside0.mk (Kd.R_below (by (with_reducible repeat (first | apply Kd.R_alloc | apply Kd.R_drewN | apply Kd.R_drew)); exact HO_10.out) hb); have n4_ := Aside0.mk (Kd.R_below (by (with_reducible repeat (first | apply Kd.R_alloc | apply Kd.R_drewN | apply Kd.R_drew)); exact HO978.out) hb); have n5_ := Aside0.mk (below_step (by repeat (first | (with_reducible first | exact HB.out | apply below_alloc | apply pw_below_drewN | apply below_drew1) | exact HB.out)) hb); clear HO_6; clear HO_8; clear HO_9; clear HO_10; clear HO978; clear HB; have HO_6 := n0_; have HO_8 := n1_; have HO_9 := n2_; have HO_10 := n3_; have HO978 := n4_; have HB := n5_; clear n0_ n1_ n2_ n3_ n4_ n5_; (try clear hb); (try clear hb2); (try clear hk); (try clear hi)) | ((with_reducible refine gate_callee (f := 49) rfl ?_); refine goesL_ (some 61) rfl rfl Try.func49 (by kernel_rfl) rfl #[.slice A1 l1.length c1] rfl (by (try simp only [List.map_toArray, List.map_cons, List.map_nil]); first | done | rfl | (simp only [List.length_drop, List.length_take]; rfl)) ?_; (with_reducible refine (laws_toOrnamentS.calls kj12 _ _ l1 t980 _ ?side1 ?side2 A34.out).mono ?_); (case side1 => repeat (first | exact (Kd.C_below HR1.out HB.out) | (with_reducible refine Kd.C_alloc ?_ _) | (with_reducible refine Kd.C_drewN ?_ _) | (with_reducible refine Kd.C_drew ?_))); (case side2 => exact HC1.out); rintro e w43 ⟨v981, rfl, ho0, hb⟩; refine ⟨_, rfl, ?_⟩; have n0_ := Aside0.mk (Kd.R_below (by (with_reducible repeat (first | apply Kd.R_alloc | apply Kd.R_drewN | apply Kd.R_drew)); exact HO_6.out) hb); have n1_ := Aside0.mk (Kd.R_below (by (with_reducible repeat (first | apply Kd.R_alloc | apply Kd.R_drewN | apply Kd.R_drew)); exact HO_8.out) hb); have n2_ := Aside0.mk (Kd.R_elder' (by (with_reducible repeat (first | apply Kd.R_alloc | apply Kd.R_drewN | apply Kd.R_drew)); exact HO_9.out) (Kd.R_base ho0) hb); have n3_ := Aside0.mk (Kd.R_below (by (with_reducible repeat (first | apply Kd.R_alloc | apply Kd.R_drewN | apply Kd.R_drew)); exact HO_10.out) hb); have n4_ := Aside0.mk (Kd.R_below (by (with_reducible repeat (first | apply Kd.R_alloc | apply Kd.R_drewN | apply Kd.R_drew)); exact HO978.out) hb); have n5_ := Aside0.mk (Kd.R_lower (Kd.R_new' ho0 (Kd.R_lt (by (with_reducible repeat (first | apply Kd.R_alloc | apply Kd.R_drewN | apply Kd.R_drew)); exact HO_9.out))) (below_size (by repeat (first | (with_reducible first | exact HB.out | apply below_alloc | apply pw_below_drewN | apply below_drew1) | exact HB.out)))); have n6_ := Aside0.mk (below_step (by repeat (first | (with_reducible first | exact HB.out | apply below_alloc | apply pw_below_drewN | apply below_drew1) | exact HB.out)) hb); clear HO_6; clear HO_8; clear HO_9; clear HO_10; clear HO978; clear HB; have HO_6 := n0_; have HO_8 := n1_; have HO_9 := n2_; have HO_10 := n3_; have HO978 := n4_; have HO982 := n5_; have HB := n6_; clear n0_ n1_ n2_ n3_ n4_ n5_ n6_; (try clear hb); (try clear hb2); (try clear hk); (try clear hi); (try clear ho0); obtain ⟨Ao44, co44, eo44⟩ := Kd.R_slice HO982.out; subst eo44) | ((with_reducible refine gate_callee (f := 51) rfl ?_); refine goesL_ (some 62) rfl rfl Try.func51 (by kernel_rfl) rfl #[.slice Ao22 t968.length co22, .slice Ao44 t980.length co44] rfl (by (try simp only [List.map_toArray, List.map_cons, List.map_nil]); first | done | rfl | (simp only [List.length_drop, List.length_take]; rfl)) ?_; (with_reducible refine (laws_eqOrnamentS.calls kj12 _ _ t968 _ _ t980 true _ ?side1 ?side2 ?side3 ?side4 A35.out).mono ?_); (case side1 => repeat (first | exact (Kd.R_reads' HO_9.out).2.2 | (with_reducible refine Kd.C_alloc ?_ _) | (with_reducible refine Kd.C_drewN ?_ _) | (with_reducible refine Kd.C_drew ?_))); (case side2 => exact (Kd.R_reads' HO_9.out).2.1); (case side3 => repeat (first | exact (Kd.R_reads' HO982.out).2.2 | (with_reducible refine Kd.C_alloc ?_ _) | (with_reducible refine Kd.C_drewN ?_ _) | (with_reducible refine Kd.C_drew ?_))); (case side4 => exact (Kd.R_reads' HO982.out).2.1); rintro e w45 ⟨rfl, hb⟩; refine ⟨_, rfl, ?_⟩; have n0_ := Aside0.mk (Kd.R_below (by (with_reducible repeat (first | apply Kd.R_alloc | apply Kd.R_drewN | apply Kd.R_drew)); exact HO_6.out) hb); have n1_ := Aside0.mk (Kd.R_below (by (with_reducible repeat (first | apply Kd.R_alloc | apply Kd.R_drewN | apply Kd.R_drew)); exact HO_8.out) hb); have n2_ := Aside0.mk (Kd.R_below (by (with_reducible repeat (first | apply Kd.R_alloc | apply Kd.R_drewN | apply Kd.R_drew)); exact HO_9.out) hb); have n3_ := Aside0.mk (Kd.R_below (by (with_reducible repeat (first | apply Kd.R_alloc | apply Kd.R_drewN | apply Kd.R_drew)); exact HO_10.out) hb); have n4_ := Aside0.mk (Kd.R_below (by (with_reducible repeat (first | apply Kd.R_alloc | apply Kd.R_drewN | apply Kd.R_drew)); exact HO978.out) hb); have n5_ := Aside0.mk (Kd.R_below (by (with_reducible repeat (first | apply Kd.R_alloc | apply Kd.R_drewN | apply Kd.R_drew)); exact HO982.out) hb); have n6_ := Aside0.mk (below_step (by repeat (first | (with_reducible first | exact HB.out | apply below_alloc | apply pw_below_drewN | apply below_drew1) | exact HB.out)) hb); clear HO_6; clear HO_8; clear HO_9; clear HO_10; clear HO978; clear HO982; clear HB; have HO_6 := n0_; have HO_8 := n1_; have HO_9 := n2_; have HO_10 := n3_; have HO978 := n4_; have HO982 := n5_; have HB := n6_; clear n0_ n1_ n2_ n3_ n4_ n5_ n6_; (try clear hb); (try clear hb2); (try clear hk); (try clear hi)) | ((with_reducible refine gate_callee (f := 32) rfl ?_); refine goesL_ (some 66) rfl rfl Try.func32 (by kernel_rfl) rfl #[.slice Ao21 t965.length co21, .int .i64 1] rfl (by (try simp only [List.map_toArray, List.map_cons, List.map_nil]); first | done | rfl | (simp only [List.length_drop, List.length_take]; rfl)) ?_; (with_reducible refine (laws_markNoteS.calls kj12 (fun k_ => some k_ = (.slice Ao21 t965.length co21 : Value).ownBlock) (.slice Ao21 t965.length co21) t965 1 t984 t985 w _ ?side1 ?side2 A37.out).mono ?_); (case side1 => repeat (first | (with_reducible first | exact HB.out | apply below_alloc | apply pw_below_drewN | apply below_drew1) | exact HB.out)); (case side2 => exact Kd.R_tight rfl HO_8.out); rintro e w46 ⟨rfl, hy0, hb, hkp⟩; refine ⟨_, rfl, ?_⟩; have n0_ := Aside0.mk (Kd.R_mono (ok' := fun k_ => some k_ ≠ (v973 : Value).ownBlock) (Kd.R_keptB ((Kd.R_apart' HO_6.out (Kd.R_typed HO_8.out) (by decide))) hkp (fun k_ hk_ hs_ => (hk_.2) hs_)) (fun k_ hk_ => hk_.1.1)); have n1_ := Aside0.mk (Kd.R_reok rfl hy0 (fun k_ e_ => HO_8.out.1 k_ e_)); have n2_ := Aside0.mk (Kd.R_mono (ok' := fun k_ => some k_ ≠ (.slice Ao44 t980.length co44 : Value).ownBlock) (Kd.R_keptB ((Kd.R_apart' HO_9.out (Kd.R_typed HO_8.out) (by decide))) hkp (fun k_ hk_ hs_ => (hk_.2) hs_)) (fun k_ hk_ => hk_.1.1.2)); have n3_ := Aside0.mk (Kd.R_mono (ok' := fun k_ => some k_ ≠ (v963 : Value).ownBlock) (Kd.R_keptB ((Kd.R_apart' HO_10.out (Kd.R_typed HO_8.out) (by decide))) hkp (fun k_ hk_ hs_ => (hk_.2) hs_)) (fun k_ hk_ => hk_.1.1)); have n4_ := Aside0.mk (Kd.R_mono (ok' := fun k_ => some k_ ≠ (.slice Ao21 t965.length co21 : Value).ownBlock) (Kd.R_keptB (HO978.out) hkp (fun k_ hk_ hs_ => (hk_.2) hs_)) (fun k_ hk_ => hk_.1.2)); have n5_ := Aside0.mk (Kd.R_mono (ok' := fun k_ => some k_ ≠ (.slice Ao22 t968.length co22 : Value).ownBlock) (Kd.R_keptB ((Kd.R_apart' HO982.out (Kd.R_typed HO_8.out) (by decide))) hkp (fun k_ hk_ hs_ => (hk_.2) hs_)) (fun k_ hk_ => hk_.1.1.2)); have n6_ := Aside0.mk (hb); clear HO_6; clear HO_8; clear HO_9; clear HO_10; clear HO978; clear HO982; clear HB; have HO_6 := n0_; have HO_8 := n1_; have HO_9 := n2_; have HO_10 := n3_; have HO978 := n4_; have HO982 := n5_; have HB := n6_; clear n0_ n1_ n2_ n3_ n4_ n5_ n6_; (try clear hb); (try clear hkp); (try clear hy0)) | ((with_reducible refine gate_callee (f := 52) rfl ?_); refine goesL_ (some 69) rfl rfl Try.func52 (by kernel_rfl) rfl #[.slice Ao22 t968.length co22, .int .i64 t984] rfl (by (try simp only [List.map_toArray, List.map_cons, List.map_nil]); first | done | rfl | (simp only [List.length_drop, List.length_take]; rfl)) ?_; (with_reducible refine (laws_markOrnamentS.calls kj12 (fun k_ => some k_ = (.slice Ao22 t968.length co22 : Value).ownBlock) (.slice Ao22 t968.length co22) t968 t984 t986 t987 w _ ?side1 ?side2 A38.out).mono ?_); (case side1 => repeat (first | (with_reducible first | exact HB.out | apply below_alloc | apply pw_below_drewN | apply below_drew1) | exact HB.out)); (case side2 => exact Kd.R_tight rfl HO_9.out); rintro e w47 ⟨rfl, hy0, hb, hkp⟩; refine ⟨_, rfl, ?_⟩; have n0_ := Aside0.mk (Kd.R_mono (ok' := fun k_ => some k_ ≠ (v973 : Value).ownBlock) (Kd.R_keptB ((Kd.R_apart' HO_6.out (Kd.R_typed HO_9.out) (by decide))) hkp (fun k_ hk_ hs_ => (hk_.2) hs_)) (fun k_ hk_ => hk_.1.1)); have n1_ := Aside0.mk (Kd.R_mono (ok' := fun k_ => some k_ ≠ (.slice Ao41 t976.length co41 : Value).ownBlock) (Kd.R_keptB ((Kd.R_apart' HO_8.out (Kd.R_typed HO_9.out) (by decide))) hkp (fun k_ hk_ hs_ => (hk_.2) hs_)) (fun k_ hk_ => hk_.1.1.2)); have n2_ := Aside0.mk (Kd.R_reok rfl hy0 (fun k_ e_ => HO_9.out.1 k_ e_)); have n3_ := Aside0.mk (Kd.R_mono (ok' := fun k_ => some k_ ≠ (v963 : Value).ownBlock) (Kd.R_keptB ((Kd.R_apart' HO_10.out (Kd.R_typed HO_9.out) (by decide))) hkp (fun k_ hk_ hs_ => (hk_.2) hs_)) (fun k_ hk_ => hk_.1.1)); have n4_ := Aside0.mk (Kd.R_mono (ok' := fun k_ => some k_ ≠ (.slice Ao21 t965.length co21 : Value).ownBlock) (Kd.R_keptB ((Kd.R_apart' HO978.out (Kd.R_typed HO_9.out) (by decide))) hkp (fun k_ hk_ hs_ => (hk_.2) hs_)) (fun k_ hk_ => hk_.1.1)); have n5_ := Aside0.mk (Kd.R_mono (ok' := fun k_ => some k_ ≠ (.slice Ao22 t968.length co22 : Value).ownBlock) (Kd.R_keptB (HO982.out) hkp (fun k_ hk_ hs_ => (hk_) hs_)) (fun k_ hk_ => hk_.1)); have n6_ := Aside0.mk (hb); clear HO_6; clear HO_8; clear HO_9; clear HO_10; clear HO978; clear HO982; clear HB; have HO_6 := n0_; have HO_8 := n1_; have HO_9 := n2_; have HO_10 := n3_; have HO978 := n4_; have HO982 := n5_; have HB := n6_; clear n0_ n1_ n2_ n3_ n4_ n5_ n6_; (try clear hb); (try clear hkp); (try clear hy0)))
                (try simp only [Act.put, List.setIfInBounds_toArray, List.set_cons_zero, List.set_cons_succ])
                go_cut [82] (fun v82 wc => ∃ (kq : Nat) (x82_38 : Bool), v82 = .bool x82_38 ∧ Aside0 (laws_FnExactOrnamentMelody.j1 kq l0 l1 t961 t962 t971 x82_38 = some r) ∧ Aside0 (kq ≤ kj12) ∧ Aside0 (Kd.R (Kd.int .i64) 2 wc w.heap.size (fun k_ => some k_ ≠ (v973 : Value).ownBlock) v963 t961) ∧ Aside0 (Kd.R (Kd.int .i64) 2 wc w.heap.size (fun k_ => some k_ ≠ (v963 : Value).ownBlock) v973 t971) ∧ Aside0 (Below w.heap.size w wc))
                case first =>
                  have H := HC39.out
                  clear HC39
                  by_cases c48 : t986 < 0
                  · rw [if_pos c48] at H
                    have c48b0 : decide (t986 < 0) = true := decide_eq_true c48
                    clear c48
                    (first | rw [c48b0] | (simp only [i64_w, i32_w]; rw [c48b0]) | skip)
                    have H' := Aside0.mk H
                    clear H
                    go_wp2
                    go_meet
                    case rel => exact ⟨_, (true), (by first | rfl | (simp; done) | (simp [*]; done)), H', ⟨by have := HJ12.out; first | omega | exact Nat.le_refl _⟩, ⟨by (with_reducible repeat (first | apply Kd.R_alloc | apply Kd.R_drewN | apply Kd.R_drew)); exact HO_6.out⟩, ⟨by (with_reducible repeat (first | apply Kd.R_alloc | apply Kd.R_drewN | apply Kd.R_drew)); exact HO_10.out⟩, ⟨by repeat (first | (with_reducible first | exact HB.out | apply below_alloc | apply pw_below_drewN | apply below_drew1) | exact HB.out)⟩⟩
                  · rw [if_neg c48] at H
                    have c48b0 : decide (t986 < 0) = false := decide_eq_false c48
                    clear c48
                    (first | rw [c48b0] | (simp only [i64_w, i32_w]; rw [c48b0]) | skip)
                    replace H := Option.bind_eq_some_iff.mp H
                    obtain ⟨t988, A490, H⟩ := H
                    replace H : (if t988 = true then (laws_FnExactOrnamentMelody.j1 kj12 l0 l1 t961 t962 t971 (t972 != t962)) else (laws_FnExactOrnamentMelody.j1 kj12 l0 l1 t961 t962 t971 true)) = some r := H
                    have A49 := Aside0.mk A490
                    clear A490
                    by_cases c50 : t988 = true
                    · subst c50
                      have H1 : (laws_FnExactOrnamentMelody.j1 kj12 l0 l1 t961 t962 t971 (t972 != t962)) = some r := by rw [if_pos rfl] at H; exact H
                      clear H
                      have H := H1
                      clear H1
                      have H' := Aside0.mk H
                      clear H
                      obtain ⟨Ao51, co51, eo51⟩ := Kd.R_slice HO_10.out
                      subst eo51
                      obtain ⟨Ao52, co52, eo52⟩ := Kd.R_slice HO_6.out
                      subst eo52
                      go_wp2_with (first | (go_at_call 23; (with_reducible refine (laws_eqInt64S.calls kj12 _ _ t971 _ _ t961 true _ ?side1 ?side2 ?side3 ?side4 A49.out).mono ?_); (case side1 => repeat (first | exact (Kd.R_reads' HO_10.out).2.2 | (with_reducible refine Kd.C_alloc ?_ _) | (with_reducible refine Kd.C_drewN ?_ _) | (with_reducible refine Kd.C_drew ?_))); (case side2 => exact (Kd.R_reads' HO_10.out).2.1); (case side3 => repeat (first | exact (Kd.R_reads' HO_6.out).2.2 | (with_reducible refine Kd.C_alloc ?_ _) | (with_reducible refine Kd.C_drewN ?_ _) | (with_reducible refine Kd.C_drew ?_))); (case side4 => exact (Kd.R_reads' HO_6.out).2.1); rintro e w' ⟨rfl, ⟨nd, rfl⟩⟩))
                      go_meet
                      case rel => exact ⟨_, ((t972 != t962)), (by first | rfl | (simp; done) | (simp [*]; done)), H', ⟨by have := HJ12.out; first | omega | exact Nat.le_refl _⟩, ⟨by (with_reducible repeat (first | apply Kd.R_alloc | apply Kd.R_drewN | apply Kd.R_drew)); exact HO_6.out⟩, ⟨by (with_reducible repeat (first | apply Kd.R_alloc | apply Kd.R_drewN | apply Kd.R_drew)); exact HO_10.out⟩, ⟨by repeat (first | (with_reducible first | exact HB.out | apply below_alloc | apply pw_below_drewN | apply below_drew1) | exact HB.out)⟩⟩
                    · replace c50 := Bool.eq_false_iff.mpr c50
                      subst c50
                      have H1 : (laws_FnExactOrnamentMelody.j1 kj12 l0 l1 t961 t962 t971 true) = some r := by rw [if_neg (show ¬ (false = true) by decide)] at H; exact H
                      clear H
                      have H := H1
                      clear H1
                      have H' := Aside0.mk H
                      clear H
                      obtain ⟨Ao53, co53, eo53⟩ := Kd.R_slice HO_10.out
                      subst eo53
                      obtain ⟨Ao54, co54, eo54⟩ := Kd.R_slice HO_6.out
                      subst eo54
                      go_wp2_with (first | (go_at_call 23; (with_reducible refine (laws_eqInt64S.calls kj12 _ _ t971 _ _ t961 false _ ?side1 ?side2 ?side3 ?side4 A49.out).mono ?_); (case side1 => repeat (first | exact (Kd.R_reads' HO_10.out).2.2 | (with_reducible refine Kd.C_alloc ?_ _) | (with_reducible refine Kd.C_drewN ?_ _) | (with_reducible refine Kd.C_drew ?_))); (case side2 => exact (Kd.R_reads' HO_10.out).2.1); (case side3 => repeat (first | exact (Kd.R_reads' HO_6.out).2.2 | (with_reducible refine Kd.C_alloc ?_ _) | (with_reducible refine Kd.C_drewN ?_ _) | (with_reducible refine Kd.C_drew ?_))); (case side4 => exact (Kd.R_reads' HO_6.out).2.1); rintro e w' ⟨rfl, ⟨nd, rfl⟩⟩))
                      go_meet
                      case rel => exact ⟨_, (true), (by first | rfl | (simp; done) | (simp [*]; done)), H', ⟨by have := HJ12.out; first | omega | exact Nat.le_refl _⟩, ⟨by (with_reducible repeat (first | apply Kd.R_alloc | apply Kd.R_drewN | apply Kd.R_drew)); exact HO_6.out⟩, ⟨by (with_reducible repeat (first | apply Kd.R_alloc | apply Kd.R_drewN | apply Kd.R_drew)); exact HO_10.out⟩, ⟨by repeat (first | (with_reducible first | exact HB.out | apply below_alloc | apply pw_below_drewN | apply below_drew1) | exact HB.out)⟩⟩
                case rest =>
                  clear HC39
                  try clear c1
                  try clear c2
                  try clear p2
                  try clear c3
                  try clear c4
                  try clear c4b0
                  try clear c5
                  try clear c6
                  try clear c6b0
                  try clear c13
                  try clear c15
                  try clear c17
                  try clear c19
                  try clear c23
                  try clear c25
                  try clear c30
                  try clear c32
                  try clear c33
                  try clear c36
                  try clear c47
                  try clear c48
                  try clear c48b0
                  try clear c49
                  try clear c50
                  try clear c51
                  try clear c52
                  try clear p2
                  obtain ⟨kq, x82_38, rfl, HA, HJ38, HO_6, HO_10, HB⟩ := hcut
                  cases kq with
                  | zero => exact absurd HA.out (by simp [laws_FnExactOrnamentMelody.j1])
                  | succ kj38 =>
                    have H := HA.out
                    clear HA
                    simp only [laws_FnExactOrnamentMelody.j1] at H
                    by_cases c55 : x82_38 = true
                    · subst c55
                      have H1 : (some false) = some r := by rw [if_pos rfl] at H; exact H
                      clear H
                      have H := H1
                      clear H1
                      exact absurd ((Option.some.inj H).trans HT.out) (by decide)
                    · replace c55 := Bool.eq_false_iff.mpr c55
                      subst c55
                      have H1 : ((laws_markInt64S.f kj38 t971 1).bind fun bt989 => ((laws_heldInt64S.f kj38 bt989.2 1).bind fun t991 => (if t991 < 0 then (some false) else (if t991 = bt989.1 then ((laws_toNoteS.f kj38 l0).bind fun t992 => ((laws_toOrnamentS.f kj38 l1).bind fun t995 => ((impl_OrnamentMelody.f kj38 t992 t995).bind fun bt998 => ((laws_eqInt64S.f kj38 bt998.1 t961).bind fun t1002 => (if t1002 = true then (laws_FnExactOrnamentMelody.j2 kj38 bt989.2 bt989.1 (bt998.2 != t962)) else (laws_FnExactOrnamentMelody.j2 kj38 bt989.2 bt989.1 true)))))) else (some false))))) = some r := by rw [if_neg (show ¬ (false = true) by decide)] at H; exact H
                      clear H
                      have H := H1
                      clear H1
                      replace H := Option.bind_eq_some_iff.mp H
                      obtain ⟨⟨t989, t990⟩, A560, H⟩ := H
                      replace H : ((laws_heldInt64S.f kj38 t990 1).bind fun t991 => (if t991 < 0 then (some false) else (if t991 = t989 then ((laws_toNoteS.f kj38 l0).bind fun t992 => ((laws_toOrnamentS.f kj38 l1).bind fun t995 => ((impl_OrnamentMelody.f kj38 t992 t995).bind fun bt998 => ((laws_eqInt64S.f kj38 bt998.1 t961).bind fun t1002 => (if t1002 = true then (laws_FnExactOrnamentMelody.j2 kj38 t990 t989 (bt998.2 != t962)) else (laws_FnExactOrnamentMelody.j2 kj38 t990 t989 true)))))) else (some false)))) = some r := H
                      have A56 := Aside0.mk A560
                      clear A560
                      replace H := Option.bind_eq_some_iff.mp H
                      obtain ⟨t991, A570, H⟩ := H
                      replace H : (if t991 < 0 then (some false) else (if t991 = t989 then ((laws_toNoteS.f kj38 l0).bind fun t992 => ((laws_toOrnamentS.f kj38 l1).bind fun t995 => ((impl_OrnamentMelody.f kj38 t992 t995).bind fun bt998 => ((laws_eqInt64S.f kj38 bt998.1 t961).bind fun t1002 => (if t1002 = true then (laws_FnExactOrnamentMelody.j2 kj38 t990 t989 (bt998.2 != t962)) else (laws_FnExactOrnamentMelody.j2 kj38 t990 t989 true)))))) else (some false))) = some r := H
                      have A57 := Aside0.mk A570
                      clear A570
                      by_cases c58 : t991 < 0
                      · rw [if_pos c58] at H
                        have c58b0 : decide (t991 < 0) = true := decide_eq_true c58
                        clear c58
                        exact absurd ((Option.some.inj H).trans HT.out) (by decide)
                      · rw [if_neg c58] at H
                        have c58b0 : decide (t991 < 0) = false := decide_eq_false c58
                        clear c58
                        by_cases c59 : t991 = t989
                        · rw [if_pos c59] at H
                          have c59b0 : (t991 == t989) = true := beq_iff_eq.mpr c59
                          have c59b1 : (t991 != t989) = false := bne_eq_false_iff_eq.mpr c59
                          clear c59
                          replace H := Option.bind_eq_some_iff.mp H
                          obtain ⟨t992, A600, H⟩ := H
                          replace H : ((laws_toOrnamentS.f kj38 l1).bind fun t995 => ((impl_OrnamentMelody.f kj38 t992 t995).bind fun bt998 => ((laws_eqInt64S.f kj38 bt998.1 t961).bind fun t1002 => (if t1002 = true then (laws_FnExactOrnamentMelody.j2 kj38 t990 t989 (bt998.2 != t962)) else (laws_FnExactOrnamentMelody.j2 kj38 t990 t989 true))))) = some r := H
                          have A60 := Aside0.mk A600
                          clear A600
                          replace H := Option.bind_eq_some_iff.mp H
                          obtain ⟨t995, A610, H⟩ := H
                          replace H : ((impl_OrnamentMelody.f kj38 t992 t995).bind fun bt998 => ((laws_eqInt64S.f kj38 bt998.1 t961).bind fun t1002 => (if t1002 = true then (laws_FnExactOrnamentMelody.j2 kj38 t990 t989 (bt998.2 != t962)) else (laws_FnExactOrnamentMelody.j2 kj38 t990 t989 true)))) = some r := H
                          have A61 := Aside0.mk A610
                          clear A610
                          replace H := Option.bind_eq_some_iff.mp H
                          obtain ⟨⟨t998, t999⟩, A620, H⟩ := H
                          replace H : ((laws_eqInt64S.f kj38 t998 t961).bind fun t1002 => (if t1002 = true then (laws_FnExactOrnamentMelody.j2 kj38 t990 t989 (t999 != t962)) else (laws_FnExactOrnamentMelody.j2 kj38 t990 t989 true))) = some r := H
                          have A62 := Aside0.mk A620
                          clear A620
                          have HC63 := Aside0.mk H
                          clear H
                          obtain ⟨Ao64, co64, eo64⟩ := Kd.R_slice HO_10.out
                          subst eo64
                          go_upto_region 32 with (first | ((with_reducible refine gate_callee (f := 33) rfl ?_); refine goesL_ (some 85) rfl rfl Try.func33 (by kernel_rfl) rfl #[.slice Ao64 t971.length co64, .int .i64 1] rfl (by (try simp only [List.map_toArray, List.map_cons, List.map_nil]); first | done | rfl | (simp only [List.length_drop, List.length_take]; rfl)) ?_; (with_reducible refine (laws_markInt64S.calls kj38 (fun k_ => some k_ = (.slice Ao64 t971.length co64 : Value).ownBlock) (.slice Ao64 t971.length co64) t971 1 t989 t990 w _ ?side1 ?side2 A56.out).mono ?_); (case side1 => repeat (first | (with_reducible first | exact HB.out | apply below_alloc | apply pw_below_drewN | apply below_drew1) | exact HB.out)); (case side2 => exact Kd.R_tight rfl HO_10.out); rintro e w65 ⟨rfl, hy0, hb, hkp⟩; refine ⟨_, rfl, ?_⟩; have n0_ := Aside0.mk (Kd.R_mono (ok' := fun k_ => some k_ ≠ (.slice Ao64 t971.length co64 : Value).ownBlock) (Kd.R_keptB (HO_6.out) hkp (fun k_ hk_ hs_ => (hk_) hs_)) (fun k_ hk_ => hk_.1)); have n1_ := Aside0.mk (Kd.R_reok rfl hy0 (fun k_ e_ => HO_10.out.1 k_ e_)); have n2_ := Aside0.mk (hb); clear HO_6; clear HO_10; clear HB; have HO_6 := n0_; have HO_10 := n1_; have HB := n2_; clear n0_ n1_ n2_; (try clear hb); (try clear hkp); (try clear hy0)) | ((with_reducible refine gate_callee (f := 34) rfl ?_); refine goesL_ (some 88) rfl rfl Try.func34 (by kernel_rfl) rfl #[.slice Ao64 t990.length co64, .int .i64 1] rfl (by (try simp only [List.map_toArray, List.map_cons, List.map_nil]); first | done | (rw [show t990.length = t971.length from (Kd.R_reads' HO_10.out).1.symm] <;> rfl) | rfl | (simp only [List.length_drop, List.length_take]; rfl)) ?_; (with_reducible refine (laws_heldInt64S.calls kj38 _ _ t990 1 t991 _ ?side1 ?side2 A57.out).mono ?_); (case side1 => repeat (first | exact (Kd.R_reads' HO_10.out).2.2 | (with_reducible refine Kd.C_alloc ?_ _) | (with_reducible refine Kd.C_drewN ?_ _) | (with_reducible refine Kd.C_drew ?_))); (case side2 => rw [show t990.length = t971.length from (Kd.R_reads' HO_10.out).1.symm]; exact (Kd.R_reads' HO_10.out).2.1); rintro e w' ⟨rfl, ⟨nd, rfl⟩⟩; refine ⟨_, rfl, ?_⟩) | ((with_reducible refine gate_callee (f := 17) rfl ?_); refine goesL_ (some 96) rfl rfl Try.func17 (by kernel_rfl) rfl #[.slice A0 l0.length c0] rfl (by (try simp only [List.map_toArray, List.map_cons, List.map_nil]); first | done | rfl | (simp only [List.length_drop, List.length_take]; rfl)) ?_; (with_reducible refine (laws_toNoteS.calls kj38 _ _ l0 t992 _ ?side1 ?side2 A60.out).mono ?_); (case side1 => repeat (first | exact (Kd.C_below HR0.out (by repeat (first | (with_reducible first | exact HB.out | apply below_alloc | apply pw_below_drewN | apply below_drew1) | exact HB.out))) | (with_reducible refine Kd.C_alloc ?_ _) | (with_reducible refine Kd.C_drewN ?_ _) | (with_reducible refine Kd.C_drew ?_))); (case side2 => exact HC0.out); rintro e w66 ⟨v993, rfl, ho0, hb⟩; refine ⟨_, rfl, ?_⟩; have n0_ := Aside0.mk (Kd.R_below (by (with_reducible repeat (first | apply Kd.R_alloc | apply Kd.R_drewN | apply Kd.R_drew)); exact HO_6.out) hb); have n1_ := Aside0.mk (Kd.R_below (by (with_reducible repeat (first | apply Kd.R_alloc | apply Kd.R_drewN | apply Kd.R_drew)); exact HO_10.out) hb); have n2_ := Aside0.mk (Kd.R_lower ho0 (below_size (by repeat (first | (with_reducible first | exact HB.out | apply below_alloc | apply pw_below_drewN | apply below_drew1) | exact HB.out)))); have n3_ := Aside0.mk (below_step (by repeat (first | (with_reducible first | exact HB.out | apply below_alloc | apply pw_below_drewN | apply below_drew1) | exact HB.out)) hb); clear HO_6; clear HO_10; clear HB; have HO_6 := n0_; have HO_10 := n1_; have HO994 := n2_; have HB := n3_; clear n0_ n1_ n2_ n3_; (try clear hb); (try clear hb2); (try clear hk); (try clear hi); (try clear ho0)) | ((with_reducible refine gate_callee (f := 49) rfl ?_); refine goesL_ (some 98) rfl rfl Try.func49 (by kernel_rfl) rfl #[.slice A1 l1.length c1] rfl (by (try simp only [List.map_toArray, List.map_cons, List.map_nil]); first | done | rfl | (simp only [List.length_drop, List.length_take]; rfl)) ?_; (with_reducible refine (laws_toOrnamentS.calls kj38 _ _ l1 t995 _ ?side1 ?side2 A61.out).mono ?_); (case side1 => repeat (first | exact (Kd.C_below HR1.out HB.out) | (with_reducible refine Kd.C_alloc ?_ _) | (with_reducible refine Kd.C_drewN ?_ _) | (with_reducible refine Kd.C_drew ?_))); (case side2 => exact HC1.out); rintro e w67 ⟨v996, rfl, ho0, hb⟩; refine ⟨_, rfl, ?_⟩; have n0_ := Aside0.mk (Kd.R_below (by (with_reducible repeat (first | apply Kd.R_alloc | apply Kd.R_drewN | apply Kd.R_drew)); exact HO_6.out) hb); have n1_ := Aside0.mk (Kd.R_below (by (with_reducible repeat (first | apply Kd.R_alloc | apply Kd.R_drewN | apply Kd.R_drew)); exact HO_10.out) hb); have n2_ := Aside0.mk (Kd.R_below (by (with_reducible repeat (first | apply Kd.R_alloc | apply Kd.R_drewN | apply Kd.R_drew)); exact HO994.out) hb); have n3_ := Aside0.mk (Kd.R_lower ho0 (below_size (by repeat (first | (with_reducible first | exact HB.out | apply below_alloc | apply pw_below_drewN | apply below_drew1) | exact HB.out)))); have n4_ := Aside0.mk (below_step (by repeat (first | (with_reducible first | exact HB.out | apply below_alloc | apply pw_below_drewN | apply below_drew1) | exact HB.out)) hb); clear HO_6; clear HO_10; clear HO994; clear HB; have HO_6 := n0_; have HO_10 := n1_; have HO994 := n2_; have HO997 := n3_; have HB := n4_; clear n0_ n1_ n2_ n3_ n4_; (try clear hb); (try clear hb2); (try clear hk); (try clear hi); (try clear ho0); obtain ⟨Ao68, co68, eo68⟩ := Kd.R_slice HO994.out; subst eo68; obtain ⟨Ao69, co69, eo69⟩ := Kd.R_slice HO997.out; subst eo69) | ((with_reducible refine gate_callee (f := 50) rfl ?_); refine goesL_ (some 99) rfl rfl Try.func50 (by kernel_rfl) rfl #[.slice Ao68 t992.length co68, .slice Ao69 t995.length co69] rfl (by (try simp only [List.map_toArray, List.map_cons, List.map_nil]); first | done | rfl | (simp only [List.length_drop, List.length_take]; rfl)) ?_; (with_reducible refine (impl_OrnamentMelody.calls kj38 _ _ t992 _ _ t995 t998 t999 _ ?side1 ?side2 ?side3 ?side4 A62.out).mono ?_); (case side1 => repeat (first | exact (Kd.R_reads' HO994.out).2.2 | (with_reducible refine Kd.C_alloc ?_ _) | (with_reducible refine Kd.C_drewN ?_ _) | (with_reducible refine Kd.C_drew ?_))); (case side2 => exact (Kd.R_reads' HO994.out).2.1); (case side3 => repeat (first | exact (Kd.R_reads' HO997.out).2.2 | (with_reducible refine Kd.C_alloc ?_ _) | (with_reducible refine Kd.C_drewN ?_ _) | (with_reducible refine Kd.C_drew ?_))); (case side4 => exact (Kd.R_reads' HO997.out).2.1); rintro e w70 ⟨v1000, rfl, ho0, hb⟩; refine ⟨_, rfl, ?_⟩; have n0_ := Aside0.mk (Kd.R_elder' (by (with_reducible repeat (first | apply Kd.R_alloc | apply Kd.R_drewN | apply Kd.R_drew)); exact HO_6.out) (Kd.R_base ho0) hb); have n1_ := Aside0.mk (Kd.R_elder' (by (with_reducible repeat (first | apply Kd.R_alloc | apply Kd.R_drewN | apply Kd.R_drew)); exact HO_10.out) (Kd.R_base ho0) hb); have n2_ := Aside0.mk (Kd.R_below (by (with_reducible repeat (first | apply Kd.R_alloc | apply Kd.R_drewN | apply Kd.R_drew)); exact HO994.out) hb); have n3_ := Aside0.mk (Kd.R_below (by (with_reducible repeat (first | apply Kd.R_alloc | apply Kd.R_drewN | apply Kd.R_drew)); exact HO997.out) hb); have n4_ := Aside0.mk (Kd.R_lower (Kd.R_new' (Kd.R_new' ho0 (Kd.R_lt (by (with_reducible repeat (first | apply Kd.R_alloc | apply Kd.R_drewN | apply Kd.R_drew)); exact HO_6.out))) (Kd.R_lt (by (with_reducible repeat (first | apply Kd.R_alloc | apply Kd.R_drewN | apply Kd.R_drew)); exact HO_10.out))) (below_size (by repeat (first | (with_reducible first | exact HB.out | apply below_alloc | apply pw_below_drewN | apply below_drew1) | exact HB.out)))); have n5_ := Aside0.mk (below_step (by repeat (first | (with_reducible first | exact HB.out | apply below_alloc | apply pw_below_drewN | apply below_drew1) | exact HB.out)) hb); clear HO_6; clear HO_10; clear HO994; clear HO997; clear HB; have HO_6 := n0_; have HO_10 := n1_; have HO994 := n2_; have HO997 := n3_; have HO1001 := n4_; have HB := n5_; clear n0_ n1_ n2_ n3_ n4_ n5_; (try clear hb); (try clear hb2); (try clear hk); (try clear hi); (try clear ho0)))
                          (try simp only [Act.put, List.setIfInBounds_toArray, List.set_cons_zero, List.set_cons_succ])
                          go_cut [110] (fun v110 wc => ∃ (kq : Nat) (x110_62 : Bool), v110 = .bool x110_62 ∧ Aside0 (laws_FnExactOrnamentMelody.j2 kq t990 t989 x110_62 = some r) ∧ Aside0 (kq ≤ kj38) ∧ Aside0 (Kd.R (Kd.int .i64) 2 wc w.heap.size (fun _ => True) (.slice Ao64 t971.length co64) t990) ∧ Aside0 (Below w.heap.size w wc))
                          case first =>
                            have H := HC63.out
                            clear HC63
                            replace H := Option.bind_eq_some_iff.mp H
                            obtain ⟨t1002, A710, H⟩ := H
                            replace H : (if t1002 = true then (laws_FnExactOrnamentMelody.j2 kj38 t990 t989 (t999 != t962)) else (laws_FnExactOrnamentMelody.j2 kj38 t990 t989 true)) = some r := H
                            have A71 := Aside0.mk A710
                            clear A710
                            by_cases c72 : t1002 = true
                            · subst c72
                              have H1 : (laws_FnExactOrnamentMelody.j2 kj38 t990 t989 (t999 != t962)) = some r := by rw [if_pos rfl] at H; exact H
                              clear H
                              have H := H1
                              clear H1
                              have H' := Aside0.mk H
                              clear H
                              obtain ⟨Ao73, co73, eo73⟩ := Kd.R_slice HO1001.out
                              subst eo73
                              obtain ⟨Ao74, co74, eo74⟩ := Kd.R_slice HO_6.out
                              subst eo74
                              go_wp2_with (first | ((with_reducible refine gate_callee (f := 23) rfl ?_); refine goesL_ (some 104) rfl rfl Try.func23 (by kernel_rfl) rfl #[.slice Ao73 t998.length co73, .slice Ao74 t961.length co74] rfl (by (try simp only [List.map_toArray, List.map_cons, List.map_nil]); first | done | rfl | (simp only [List.length_drop, List.length_take]; rfl)) ?_; (with_reducible refine (laws_eqInt64S.calls kj38 _ _ t998 _ _ t961 true _ ?side1 ?side2 ?side3 ?side4 A71.out).mono ?_); (case side1 => repeat (first | exact (Kd.R_reads' HO1001.out).2.2 | (with_reducible refine Kd.C_alloc ?_ _) | (with_reducible refine Kd.C_drewN ?_ _) | (with_reducible refine Kd.C_drew ?_))); (case side2 => exact (Kd.R_reads' HO1001.out).2.1); (case side3 => repeat (first | exact (Kd.R_reads' HO_6.out).2.2 | (with_reducible refine Kd.C_alloc ?_ _) | (with_reducible refine Kd.C_drewN ?_ _) | (with_reducible refine Kd.C_drew ?_))); (case side4 => exact (Kd.R_reads' HO_6.out).2.1); rintro e w' ⟨rfl, ⟨nd, rfl⟩⟩; refine ⟨_, rfl, ?_⟩))
                              go_meet
                              case rel => exact ⟨_, ((t999 != t962)), (by first | rfl | (simp; done) | (simp [*]; done)), H', ⟨by have := HJ12.out; have := HJ38.out; first | omega | exact Nat.le_refl _⟩, ⟨by (with_reducible repeat (first | apply Kd.R_alloc | apply Kd.R_drewN | apply Kd.R_drew)); exact Kd.R_mono HO_10.out (fun _ hk => trivial)⟩, ⟨by repeat (first | (with_reducible first | exact HB.out | apply below_alloc | apply pw_below_drewN | apply below_drew1) | exact HB.out)⟩⟩
                            · replace c72 := Bool.eq_false_iff.mpr c72
                              subst c72
                              have H1 : (laws_FnExactOrnamentMelody.j2 kj38 t990 t989 true) = some r := by rw [if_neg (show ¬ (false = true) by decide)] at H; exact H
                              clear H
                              have H := H1
                              clear H1
                              have H' := Aside0.mk H
                              clear H
                              obtain ⟨Ao75, co75, eo75⟩ := Kd.R_slice HO1001.out
                              subst eo75
                              obtain ⟨Ao76, co76, eo76⟩ := Kd.R_slice HO_6.out
                              subst eo76
                              go_wp2_with (first | ((with_reducible refine gate_callee (f := 23) rfl ?_); refine goesL_ (some 104) rfl rfl Try.func23 (by kernel_rfl) rfl #[.slice Ao75 t998.length co75, .slice Ao76 t961.length co76] rfl (by (try simp only [List.map_toArray, List.map_cons, List.map_nil]); first | done | rfl | (simp only [List.length_drop, List.length_take]; rfl)) ?_; (with_reducible refine (laws_eqInt64S.calls kj38 _ _ t998 _ _ t961 false _ ?side1 ?side2 ?side3 ?side4 A71.out).mono ?_); (case side1 => repeat (first | exact (Kd.R_reads' HO1001.out).2.2 | (with_reducible refine Kd.C_alloc ?_ _) | (with_reducible refine Kd.C_drewN ?_ _) | (with_reducible refine Kd.C_drew ?_))); (case side2 => exact (Kd.R_reads' HO1001.out).2.1); (case side3 => repeat (first | exact (Kd.R_reads' HO_6.out).2.2 | (with_reducible refine Kd.C_alloc ?_ _) | (with_reducible refine Kd.C_drewN ?_ _) | (with_reducible refine Kd.C_drew ?_))); (case side4 => exact (Kd.R_reads' HO_6.out).2.1); rintro e w' ⟨rfl, ⟨nd, rfl⟩⟩; refine ⟨_, rfl, ?_⟩))
                              go_meet
                              case rel => exact ⟨_, (true), (by first | rfl | (simp; done) | (simp [*]; done)), H', ⟨by have := HJ12.out; have := HJ38.out; first | omega | exact Nat.le_refl _⟩, ⟨by (with_reducible repeat (first | apply Kd.R_alloc | apply Kd.R_drewN | apply Kd.R_drew)); exact Kd.R_mono HO_10.out (fun _ hk => trivial)⟩, ⟨by repeat (first | (with_reducible first | exact HB.out | apply below_alloc | apply pw_below_drewN | apply below_drew1) | exact HB.out)⟩⟩
                          case rest =>
                            clear HC63
                            try clear c1
                            try clear c2
                            try clear p2
                            try clear c3
                            try clear c4
                            try clear c4b0
                            try clear c5
                            try clear c6
                            try clear c6b0
                            try clear c7
                            try clear c13
                            try clear c15
                            try clear c17
                            try clear c19
                            try clear c23
                            try clear c25
                            try clear c30
                            try clear c32
                            try clear c33
                            try clear c34
                            try clear c36
                            try clear c47
                            try clear c48
                            try clear c48b0
                            try clear c49
                            try clear c50
                            try clear c51
                            try clear c52
                            try clear c55
                            try clear c58
                            try clear c58b0
                            try clear c59
                            try clear c59b0
                            try clear c59b1
                            try clear c72
                            try clear p2
                            obtain ⟨kq, x110_62, rfl, HA, HJ62, HO_10, HB⟩ := hcut
                            have hl10_62 := (Kd.R_reads' HO_10.out).1
                            rw [hl10_62] at HO_10
                            (try simp only [hl10_62])
                            cases kq with
                            | zero => exact absurd HA.out (by simp [laws_FnExactOrnamentMelody.j2])
                            | succ kj62 =>
                              have H := HA.out
                              clear HA
                              simp only [laws_FnExactOrnamentMelody.j2] at H
                              by_cases c77 : x110_62 = true
                              · subst c77
                                have H1 : (some false) = some r := by rw [if_pos rfl] at H; exact H
                                clear H
                                have H := H1
                                clear H1
                                exact absurd ((Option.some.inj H).trans HT.out) (by decide)
                              · replace c77 := Bool.eq_false_iff.mpr c77
                                subst c77
                                have H1 : ((laws_heldInt64S.f kj62 t990 1).bind fun t1003 => (if t1003 < 0 then (some false) else (if t1003 = t989 then (some true) else (some false)))) = some r := by rw [if_neg (show ¬ (false = true) by decide)] at H; exact H
                                clear H
                                have H := H1
                                clear H1
                                replace H := Option.bind_eq_some_iff.mp H
                                obtain ⟨t1003, A780, H⟩ := H
                                replace H : (if t1003 < 0 then (some false) else (if t1003 = t989 then (some true) else (some false))) = some r := H
                                have A78 := Aside0.mk A780
                                clear A780
                                by_cases c79 : t1003 < 0
                                · rw [if_pos c79] at H
                                  have c79b0 : decide (t1003 < 0) = true := decide_eq_true c79
                                  have c79b2 := c79b0; (try simp only [hl10_62] at c79b2)
                                  clear c79
                                  exact absurd ((Option.some.inj H).trans HT.out) (by decide)
                                · rw [if_neg c79] at H
                                  have c79b0 : decide (t1003 < 0) = false := decide_eq_false c79
                                  have c79b2 := c79b0; (try simp only [hl10_62] at c79b2)
                                  clear c79
                                  by_cases c80 : t1003 = t989
                                  · rw [if_pos c80] at H
                                    have c80b0 : (t1003 == t989) = true := beq_iff_eq.mpr c80
                                    have c80b1 : (t1003 != t989) = false := bne_eq_false_iff_eq.mpr c80
                                    clear c80
                                    obtain rfl := Option.some.inj H
                                    go_wp2_with (first | ((with_reducible refine gate_callee (f := 34) rfl ?_); refine goesL_ (some 113) rfl rfl Try.func34 (by kernel_rfl) rfl #[.slice Ao64 t990.length co64, .int .i64 1] rfl (by (try simp only [List.map_toArray, List.map_cons, List.map_nil]); first | done | rfl | (simp only [List.length_drop, List.length_take]; rfl)) ?_; (with_reducible refine (laws_heldInt64S.calls kj62 _ _ t990 1 t1003 _ ?side1 ?side2 A78.out).mono ?_); (case side1 => repeat (first | exact (Kd.R_reads' HO_10.out).2.2 | (with_reducible refine Kd.C_alloc ?_ _) | (with_reducible refine Kd.C_drewN ?_ _) | (with_reducible refine Kd.C_drew ?_))); (case side2 => exact (Kd.R_reads' HO_10.out).2.1); rintro e w' ⟨rfl, ⟨nd, rfl⟩⟩; refine ⟨_, rfl, ?_⟩))
                                    go_ret
                                    exact ⟨by first | rfl | (simp [errW_none, errW_some] <;> rfl) | (simp [*, errW_none, errW_some] <;> rfl), by repeat (first | (with_reducible first | exact HB.out | apply below_alloc | apply pw_below_drewN | apply below_drew1) | exact HB.out)⟩
                                  · rw [if_neg c80] at H
                                    have c80b0 : (t1003 == t989) = false := beq_eq_false_iff_ne.mpr c80
                                    have c80b1 : (t1003 != t989) = true := bne_iff_ne.mpr c80
                                    exact absurd ((Option.some.inj H).trans HT.out) (by decide)
                        · rw [if_neg c59] at H
                          have c59b0 : (t991 == t989) = false := beq_eq_false_iff_ne.mpr c59
                          have c59b1 : (t991 != t989) = true := bne_iff_ne.mpr c59
                          exact absurd ((Option.some.inj H).trans HT.out) (by decide)
              · replace c36 := Bool.eq_false_iff.mpr c36
                subst c36
                have H1 : (some false) = some r := by rw [if_neg (show ¬ (false = true) by decide)] at H; exact H
                clear H
                have H := H1
                clear H1
                exact absurd ((Option.some.inj H).trans HT.out) (by decide)
            · replace c33 := Bool.eq_false_iff.mpr c33
              subst c33
              have H1 : (some false) = some r := by rw [if_neg (show ¬ (false = true) by decide)] at H; exact H
              clear H
              have H := H1
              clear H1
              exact absurd ((Option.some.inj H).trans HT.out) (by decide)

/-- THE ONE PURE STATEMENT of laws_FnExactOrnamentMelody. -/
def laws_FnExactOrnamentMelody.Pure : Prop := ∀ (l0 : List (S77)) (l1 : List (S103)), (l0.length ≤ maxLen ∧ ∀ y0 ∈ l0, ((Lit.int .i64 y0.f0).wf = true ∧ (Lit.int .i64 y0.f1).wf = true)) → (l1.length ≤ maxLen ∧ ∀ y0 ∈ l1, ((Lit.int .i64 y0.f0).wf = true ∧ (Lit.int .i64 y0.f1).wf = true ∧ (Lit.int .i64 y0.f2).wf = true)) → ∃ k, laws_FnExactOrnamentMelody.f k l0 l1 = some true
theorem laws_FnExactOrnamentMelody.walk (P : laws_FnExactOrnamentMelody.Pure) (A0 : Option Addr) (c0 : Nat) (l0 : List (S77)) (A1 : Option Addr) (c1 : Nat) (l1 : List (S103)) (w : World) (hr0 : Kd.C k77 w A0 l0.length l0) (hc0 : l0.length ≤ c0) (hr1 : Kd.C k103 w A1 l1.length l1) (hc1 : l1.length ≤ c1) (w0 : (l0.length ≤ maxLen ∧ ∀ y0 ∈ l0, ((Lit.int .i64 y0.f0).wf = true ∧ (Lit.int .i64 y0.f1).wf = true))) (w1 : (l1.length ≤ maxLen ∧ ∀ y0 ∈ l1, ((Lit.int .i64 y0.f0).wf = true ∧ (Lit.int .i64 y0.f1).wf = true ∧ (Lit.int .i64 y0.f2).wf = true))) :
    Calls Try.prog 13 #[.slice A0 l0.length c0, .slice A1 l1.length c1] w fun e w' => e = .returned (.bool true) ∧ Below w.heap.size w w' := by
  obtain ⟨k, h⟩ := P l0 l1 w0 w1
  refine (laws_FnExactOrnamentMelody.calls k _ _ l0 _ _ l1 true w hr0 hc0 hr1 hc1 rfl h).mono ?_
  rintro e w' ⟨rfl, hd⟩
  exact ⟨rfl, hd⟩

end Go.Proofs.Ytlgigomahobfbaa.P
end

section
namespace Go.Proofs.Ytlgigomahobfbaa.Pure
open Go.RowKit Go.Proofs.Ytlgigomahobfbaa.P Go.Proofs.YtlgigomahobfbaaW.PrintWords Go.Proofs.YtlgigomahobfbaaW.PrintLast Go.Proofs.YtlgigomahobfbaaW.PrintMore
set_option linter.unusedVariables false
set_option linter.unusedSimpArgs false

def okOB (x : S98) : Bool := decide (x.f0 = 0) || ((decide (1 ≤ x.f0) && decide (x.f0 ≤ 4)) && ((decide (-1200 ≤ x.f1) && decide (x.f1 ≤ 1200)) && (decide (1 ≤ x.f2) && decide (x.f2 ≤ 16))))
theorem okOB_ok {x : S98} (h : okOB x = true) : okO x := by
  simp only [okOB, Bool.or_eq_true, Bool.and_eq_true, decide_eq_true_eq] at h
  rcases h with h | ⟨h1, h2, h3⟩
  · exact .inl h
  · exact .inr ⟨h1, h2, h3⟩
theorem spec_l10Ok_eq (x : S98) (h : x.f0 ≠ 0) : spec_l10Ok.f x.f0 x.f1 x.f2 = some (okOB x) := by
  unfold spec_l10Ok.f okOB
  rw [spec_l00In_eq, spec_l00In_eq, spec_l00In_eq]
  simp only [Option.bind_some, h, decide_false, Bool.false_or]
  cases (decide (1 ≤ x.f0) && decide (x.f0 ≤ 4)) with
  | false => rfl
  | true =>
    cases (decide (-1200 ≤ x.f1) && decide (x.f1 ≤ 1200)) with
    | false => rfl
    | true => rfl
theorem impl_ValidOrnament_eq (x : S98) (h : x.f0 ≠ 0) : impl_ValidOrnament.f x.f0 x.f1 x.f2 = some (okOB x) := by
  unfold impl_ValidOrnament.f okOB
  rw [impl_within_eq, impl_within_eq, impl_within_eq]
  simp only [Option.bind_some, h, decide_false, Bool.false_or]
  cases (decide (1 ≤ x.f0) && decide (x.f0 ≤ 4)) with
  | false => rfl
  | true =>
    cases (decide (-1200 ≤ x.f1) && decide (x.f1 ≤ 1200)) with
    | false => rfl
    | true => rfl
theorem impl_wrong_eq (x : S98) : impl_OrnamentMelody_1.f x.f0 x.f1 x.f2 = some (!okOB x) := by
  unfold impl_OrnamentMelody_1.f
  by_cases h : x.f0 = 0
  · rw [if_pos h]
    simp [okOB, h]
  · rw [if_neg h, impl_ValidOrnament_eq x h]
    rfl
theorem impl_orn_any_eq (l : List S98) : impl_orn_any.f l = some (l.any fun x => !okOB x) := by
  unfold impl_orn_any.f
  rw [if_pos (List.all_eq_true.2 fun p _ => by rw [impl_wrong_eq]; rfl)]
  congr 1
  rw [Bool.eq_iff_iff, List.any_eq_true, List.any_eq_true]
  exact ⟨fun ⟨p, hp, hq⟩ => ⟨p, hp, by rw [impl_wrong_eq] at hq; simpa using hq⟩, fun ⟨p, hp, hq⟩ => ⟨p, hp, by rw [impl_wrong_eq]; simpa using hq⟩⟩
theorem rdO_at {l : List S98} {i : Nat} (h : i < l.length) : rd_T98 l (i : Int) = l[i] := by simp [rd_T98, h]
theorem spec_OrnM_l0 (m : List S75) (ls : List S98) (hl : ls.length ≤ 1048576) (r : List Int × Int) (h : (ls.any fun x => !okOB x) = false → Ev (fun k => if (ls.length : Int) = (m.length : Int) then spec_OrnamentMelody.l1 k m ls [] 0 else some ([], 7)) r) (h2 : (ls.any fun x => !okOB x) = true → r = ([], 1)) : ∀ (d i : Nat), ls.length - i = d → i ≤ ls.length → (∀ j, j < i → ∀ hj : j < ls.length, okOB ls[j] = true) → Ev (fun k => spec_OrnamentMelody.l0 k m ls i) r := by
  intro d
  induction d with
  | zero =>
    intro i hd hi hj
    refine Ev.succ ?_
    simp only [spec_OrnamentMelody.l0]
    refine Ev.ite_neg (by omega) (h ?_)
    rw [List.any_eq_false]
    intro p hp
    obtain ⟨j, hj', rfl⟩ := List.getElem_of_mem hp
    simp [hj j (by omega) hj']
  | succ d ih =>
    intro i hd hi hj
    have hi' : i < ls.length := by omega
    have f1 : (i : Int) < (ls.length : Int) := by omega
    have f2 : (0 : Int) ≤ (i : Int) := by omega
    have w : wrap64 ((i : Int) + 1) = ((i + 1 : Nat) : Int) := by rw [w64 (by omega) (by omega)]; rfl
    have nx : okOB ls[i] = true → Ev (fun k => spec_OrnamentMelody.l0 k m ls ((i + 1 : Nat) : Int)) r := fun q => ih (i + 1) (by clear w; omega) (by clear w; omega) (fun j h1 h3 => by
      by_cases e : j = i
      · subst e
        exact q
      · exact hj j (by clear w; omega) h3)
    refine Ev.succ ?_
    simp only [spec_OrnamentMelody.l0, w]
    rw [rdO_at hi']
    refine Ev.ite_pos f1 (Ev.ite_pos f2 ?_)
    by_cases z : ls[i].f0 = 0
    · exact Ev.ite_pos z (nx (by simp [okOB, z]))
    · refine Ev.ite_neg z (Ev.bindc (spec_l10Ok_eq _ z) ?_)
      cases q : okOB ls[i] with
      | true => exact Ev.ite_pos rfl (nx q)
      | false =>
        rw [h2 (List.any_eq_true.2 ⟨ls[i], List.getElem_mem hi', by rw [q]; rfl⟩)]
        exact Ev.ite_neg (by decide) (Ev.now _)
theorem specO_len (m : List S75) (ls : List S98) (ha : m.all okN = true) : ∀ d i, i + d ≤ m.length → (specO m ls d i).length ≤ 64 * d
  | 0, _, _ => by simp [specO]
  | d + 1, i, h => by
    have := specO_len m ls ha d (i + 1) (by omega)
    have o := okN_rd ha (show i < m.length by omega)
    rw [specO, List.length_append, noteO_len]
    omega
theorem bothOrnamentMelody (m : List S75) (ls : List S98) (hm : m.length ≤ 1048576) (hl : ls.length ≤ 1048576) : ∃ (r : List Int) (c : Int), r.length ≤ 1048576 ∧ Ev (fun k => spec_OrnamentMelody.f k m ls) (r, c) ∧ Ev (fun k => impl_OrnamentMelody.f k m ls) (r, c) := by
  cases v : melB m with
  | false =>
    refine ⟨[], 1, by simp, ?_, ?_⟩
    · unfold spec_OrnamentMelody.f
      exact Ev.bind (spec_l09Ok_ev m (by omega)) (Ev.ite_neg (by rw [v]; decide) (Ev.now _))
    · unfold impl_OrnamentMelody.f
      refine Ev.bind (impl_ValidMelody_ev m (by omega)) (Ev.ite_neg (by rw [v]; decide) (Ev.succ ?_))
      simp only [impl_OrnamentMelody.j0]
      exact Ev.ite_pos trivial (Ev.now _)
  | true =>
    have S : ∀ r, ((ls.any fun x => !okOB x) = false → Ev (fun k => if (ls.length : Int) = (m.length : Int) then spec_OrnamentMelody.l1 k m ls [] 0 else some ([], 7)) r) → ((ls.any fun x => !okOB x) = true → r = ([], 1)) → Ev (fun k => spec_OrnamentMelody.f k m ls) r := by
      intro r h1 h2
      unfold spec_OrnamentMelody.f
      exact Ev.bind (spec_l09Ok_ev m (by omega)) (Ev.ite_pos v (spec_OrnM_l0 m ls hl r h1 h2 ls.length 0 (by omega) (by omega) (fun j h => by omega)))
    have I : ∀ r, Ev (fun k => impl_OrnamentMelody.j0 k m ls (ls.any fun x => !okOB x)) r → Ev (fun k => impl_OrnamentMelody.f k m ls) r := by
      intro r h
      unfold impl_OrnamentMelody.f
      exact Ev.bind (impl_ValidMelody_ev m (by omega)) (Ev.ite_pos v (Ev.bindc (impl_orn_any_eq ls) h))
    cases w : (ls.any fun x => !okOB x) with
    | true =>
      refine ⟨[], 1, by simp, S _ (fun h => by rw [w] at h; cases h) (fun _ => rfl), I _ ?_⟩
      rw [w]
      refine Ev.succ ?_
      simp only [impl_OrnamentMelody.j0]
      exact Ev.ite_pos trivial (Ev.now _)
    | false =>
      have hx : ∀ i : Nat, i < ls.length → okO (rd_T98 ls i) := by
        intro i hi
        rw [rdO_at hi]
        refine okOB_ok ?_
        have := List.any_eq_false.1 w ls[i] (List.getElem_mem hi)
        simpa using this
      obtain ⟨ha, h48⟩ := melB_all v
      by_cases g : (ls.length : Int) = (m.length : Int)
      · have es := spec_Orn_l1 m ls v (by omega) hx m.length 0 [] (by omega) (by simp) (by omega)
        have ei := impl_OrnM_l0 m ls v (by omega) hx m.length 0 [] (by omega) (by simp) (by omega)
        rw [List.nil_append] at es ei
        rw [List.nil_append] at ei
        have hlen := specO_len m ls ha m.length 0 (by omega)
        refine ⟨(finO (specO m ls m.length 0)).1, (finO (specO m ls m.length 0)).2, ?_, S _ (fun _ => Ev.ite_pos g es) (fun h => by rw [w] at h; cases h), I _ ?_⟩
        · unfold finO
          split
          · show (specO m ls m.length 0).length ≤ 1048576
            omega
          · simp
        · rw [w]
          refine Ev.succ ?_
          simp only [impl_OrnamentMelody.j0]
          exact Ev.ite_neg (by decide) (Ev.ite_pos g (Ev.bind (impl_melodyCurve_ev m v) ei))
      · refine ⟨[], 7, by simp, S _ (fun _ => Ev.ite_neg g (Ev.now _)) (fun h => by rw [w] at h; cases h), I _ ?_⟩
        rw [w]
        refine Ev.succ ?_
        simp only [impl_OrnamentMelody.j0]
        exact Ev.ite_neg (by decide) (Ev.ite_neg g (Ev.now _))
def ornOf (x : S103) : S98 := ⟨x.f0, x.f1, x.f2⟩
theorem rdQ_at {l : List S103} {i : Nat} (h : i < l.length) : rd_T103 l (i : Int) = l[i] := by simp [rd_T103, h]
theorem setO_at {l : List S98} {i : Nat} {v : S98} {m : List S98} (h : i < l.length) (e : l.take i = m) : (l.set i v).take (i + 1) = m ++ [v] := by
  rw [List.take_succ_eq_append_getElem (by simpa using h)]
  simp [List.take_set_of_le, e]
theorem szOrnamentS_eq (l : List S103) (a : Int) (h0 : 0 ≤ a) (h1 : a ≤ 1048576) (hl : l.length ≤ 9223372036854775807) : laws_szOrnamentS.f l a = some (if a - l.length < 0 then -1 else a - l.length) := by
  unfold laws_szOrnamentS.f
  rw [w64 (x := a - l.length) (by omega) (by omega)]
  split <;> rfl
theorem toOrnamentS_l0 (l : List S103) (hl : l.length ≤ 9223372036854775807) : ∀ (d i : Nat) (m : List S98), l.length - i = d → i ≤ l.length → m.length = l.length → m.take i = (l.map ornOf).take i → Ev (fun k => laws_toOrnamentS.l0 k l m i) (l.map ornOf) := by
  intro d
  induction d with
  | zero =>
    intro i m hd hi hm ht
    have : i = l.length := by omega
    subst this
    refine Ev.succ ?_
    simp only [laws_toOrnamentS.l0]
    refine Ev.ite_neg (by omega) ?_
    rw [List.take_of_length_le (by omega), List.take_of_length_le (by simp)] at ht
    rw [ht]
    exact Ev.now _
  | succ d ih =>
    intro i m hd hi hm ht
    refine Ev.succ ?_
    simp only [laws_toOrnamentS.l0]
    refine Ev.ite_pos (by omega) ?_
    refine Ev.ite_pos (by omega) ?_
    refine Ev.bindc (show laws_toOrnament.f _ _ _ = some (_, _, _) from rfl) ?_
    refine Ev.ite_pos (by omega) ?_
    rw [w64 (x := (i : Int) + 1) (by omega) (by omega), rdQ_at (show i < l.length by omega), Int.toNat_natCast]
    have := ih (i + 1) (m.set i (ornOf l[i])) (by omega) (by omega) (by simpa using hm) (by
      rw [setO_at (by omega) ht, List.take_succ_eq_append_getElem (by simpa using (by omega : i < l.length))]
      simp)
    simpa [ornOf] using this
theorem toOrnamentS_ev (l : List S103) (h : l.length ≤ 1048576) : Ev (fun k => laws_toOrnamentS.f k l) (l.map ornOf) := by
  unfold laws_toOrnamentS.f
  refine Ev.ite_pos (by omega) ?_
  refine Ev.ite_pos (by omega) ?_
  exact toOrnamentS_l0 l (by omega) l.length 0 _ (by omega) (by omega) (by simp) (by simp)
theorem eqOrnamentS_l0 (a : List S98) (hl : a.length ≤ 9223372036854775807) : ∀ (d i : Nat), a.length - i = d → Ev (fun k => laws_eqOrnamentS.l0 k a a i) true := by
  intro d
  induction d with
  | zero =>
    intro i hd
    refine Ev.succ ?_
    simp only [laws_eqOrnamentS.l0]
    exact Ev.ite_neg (by omega) (Ev.now _)
  | succ d ih =>
    intro i hd
    refine Ev.succ ?_
    simp only [laws_eqOrnamentS.l0]
    refine Ev.ite_pos (by omega) ?_
    refine Ev.ite_pos (by omega) ?_
    refine Ev.ite_pos (by omega) ?_
    refine Ev.bindc (a := true) (by simp [laws_eqOrnament.f]) ?_
    refine Ev.ite_pos rfl ?_
    rw [w64 (x := (i : Int) + 1) (by omega) (by omega)]
    simpa using ih (i + 1) (by omega)
theorem eqOrnamentS_self (a : List S98) (hl : a.length ≤ 9223372036854775807) : Ev (fun k => laws_eqOrnamentS.f k a a) true := by
  unfold laws_eqOrnamentS.f
  exact Ev.ite_pos rfl (by simpa using eqOrnamentS_l0 a hl a.length 0 (by omega))
theorem markOrnamentS_l0 : ∀ (d i : Nat) (l : List S98) (v : Int), l.length ≤ 1048576 → l.length - i = d → 0 ≤ v → v ≤ 1000000000 + 3 * i → ∃ m, Ev (fun k => laws_markOrnamentS.l0 k l v i) (v + 3 * d, m) := by
  intro d
  induction d with
  | zero =>
    intro i l v hl hd h0 h1
    refine ⟨l, Ev.succ ?_⟩
    simp only [laws_markOrnamentS.l0]
    refine Ev.ite_neg (by omega) ?_
    simpa using Ev.now _
  | succ d ih =>
    intro i l v hl hd h0 h1
    have f1 : (i : Int) < (l.length : Int) := by omega
    have f2 : (0 : Int) ≤ (i : Int) := by omega
    have e : v + 3 * ((d + 1 : Nat) : Int) = v + 3 + 3 * (d : Int) := by omega
    have hi : ∀ l' : List S98, l'.length = l.length → ∃ m, Ev (fun k => laws_markOrnamentS.l0 k l' (v + 3) ((i + 1 : Nat) : Int)) (v + 3 + 3 * (d : Int), m) := fun l' h' => ih (i + 1) l' (v + 3) (by omega) (by omega) (by omega) (by omega)
    have b0 : v ≤ 1100000000 := by omega
    have w1 : wrap64 (v + 1) = v + 1 := w64 (by omega) (by omega)
    have w2 : wrap64 (v + 1 + 1) = v + 2 := by rw [w64 (by clear w1; omega) (by clear w1; omega)]; clear w1; omega
    have w3 : wrap64 (v + 2 + 1) = v + 3 := by rw [w64 (by clear w1 w2; omega) (by clear w1 w2; omega)]; clear w1 w2; omega
    have w4 : wrap64 ((i : Int) + 1) = ((i + 1 : Nat) : Int) := by rw [w64 (by clear w1 w2 w3; omega) (by clear w1 w2 w3; omega)]; rfl
    rw [e]
    obtain ⟨m, hm⟩ := hi (((l.set i ⟨v, (rd_T98 l i).f1, (rd_T98 l i).f2⟩).set i ⟨(rd_T98 (l.set i ⟨v, (rd_T98 l i).f1, (rd_T98 l i).f2⟩) i).f0, v + 1, (rd_T98 (l.set i ⟨v, (rd_T98 l i).f1, (rd_T98 l i).f2⟩) i).f2⟩).set i ⟨(rd_T98 ((l.set i ⟨v, (rd_T98 l i).f1, (rd_T98 l i).f2⟩).set i ⟨(rd_T98 (l.set i ⟨v, (rd_T98 l i).f1, (rd_T98 l i).f2⟩) i).f0, v + 1, (rd_T98 (l.set i ⟨v, (rd_T98 l i).f1, (rd_T98 l i).f2⟩) i).f2⟩) i).f0, (rd_T98 ((l.set i ⟨v, (rd_T98 l i).f1, (rd_T98 l i).f2⟩).set i ⟨(rd_T98 (l.set i ⟨v, (rd_T98 l i).f1, (rd_T98 l i).f2⟩) i).f0, v + 1, (rd_T98 (l.set i ⟨v, (rd_T98 l i).f1, (rd_T98 l i).f2⟩) i).f2⟩) i).f1, v + 2⟩) (by simp only [List.length_set])
    refine ⟨m, Ev.succ ?_⟩
    simp only [laws_markOrnamentS.l0, w1, w2, w3, w4]
    exact Ev.ite_pos f1 (Ev.ite_pos f2 (Ev.bindc rfl (Ev.bindc rfl hm)))
theorem markOrnamentS_ev (l : List S98) (v : Int) (hl : l.length ≤ 1048576) (h0 : 0 ≤ v) (h1 : v ≤ 1000000000) : ∃ m, Ev (fun k => laws_markOrnamentS.f k l v) (v + 3 * l.length, m) := by
  unfold laws_markOrnamentS.f
  exact markOrnamentS_l0 l.length 0 l v hl (by omega) h0 (by omega)
theorem FnExactOrnamentMelody : laws_FnExactOrnamentMelody.Pure := by
  intro a b ⟨ha, _⟩ ⟨hb, _⟩
  have e : maxLen ≤ 9223372036854775807 := by decide
  refine Ev.out (r := true) ?_
  unfold laws_FnExactOrnamentMelody.f
  refine Ev.bindc (szNoteS_eq a _ (by omega) (by omega) (Nat.le_trans ha e)) ?_
  by_cases h : (1048576 : Int) - a.length < 0
  · rw [if_pos h]
    exact Ev.ite_pos (by omega) (Ev.now _)
  rw [if_neg h]
  refine Ev.ite_neg h ?_
  refine Ev.bindc (szOrnamentS_eq b _ (by omega) (by omega) (Nat.le_trans hb e)) ?_
  by_cases h' : (1048576 : Int) - a.length - b.length < 0
  · rw [if_pos h']
    exact Ev.ite_pos (by omega) (Ev.now _)
  rw [if_neg h']
  refine Ev.ite_neg h' ?_
  have hs := toNoteS_ev a (by omega)
  have ht := toOrnamentS_ev b (by omega)
  have hm : (a.map noteOf).length ≤ 1048576 := by simp; omega
  have hn : (b.map ornOf).length ≤ 1048576 := by simp; omega
  obtain ⟨r, c, lr, es, ei⟩ := bothOrnamentMelody (a.map noteOf) (b.map ornOf) hm hn
  obtain ⟨m1, e1⟩ := markNoteS_ev (a.map noteOf) 1 hm (by omega) (by omega)
  obtain ⟨m2, e2⟩ := markOrnamentS_ev (b.map ornOf) (1 + 2 * (a.map noteOf).length) hn (by omega) (by omega)
  refine Ev.bind hs (Ev.bind ht (Ev.bind es (Ev.bind hs (Ev.bind ht (Ev.bind ei (Ev.bind (eqInt64S_self r (by omega)) (Ev.ite_pos rfl (Ev.succ ?_))))))))
  simp only [laws_FnExactOrnamentMelody.j0]
  refine Ev.ite_neg (by simp) ?_
  refine Ev.bind hs (Ev.bind (eqNoteS_self _ (by omega)) (Ev.ite_pos rfl ?_))
  refine Ev.bind ht (Ev.bind (eqOrnamentS_self _ (by omega)) (Ev.ite_pos rfl ?_))
  refine Ev.bind e1 (Ev.bind e2 (Ev.ite_neg (by omega) (Ev.bind (eqInt64S_self r (by omega)) (Ev.ite_pos rfl (Ev.succ ?_)))))
  simp only [laws_FnExactOrnamentMelody.j1]
  refine Ev.ite_neg (by simp) ?_
  refine Ev.bind (markInt64S_ev r 1 (by omega) (by omega) (by omega)) ?_
  refine Ev.bind (heldInt64S_ev r.length 1 (by omega) (by omega) (by omega)) ?_
  refine Ev.ite_neg (by omega) ?_
  refine Ev.ite_pos rfl ?_
  refine Ev.bind hs (Ev.bind ht (Ev.bind ei (Ev.bind (eqInt64S_self r (by omega)) (Ev.ite_pos rfl (Ev.succ ?_)))))
  simp only [laws_FnExactOrnamentMelody.j2]
  refine Ev.ite_neg (by simp) ?_
  refine Ev.bind (heldInt64S_ev r.length 1 (by omega) (by omega) (by omega)) ?_
  refine Ev.ite_neg (by omega) ?_
  exact Ev.ite_pos rfl (Ev.now _)

end Go.Proofs.Ytlgigomahobfbaa.Pure
end
