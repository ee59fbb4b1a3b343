/- Texts of this seat, merged: QSpecL08One, QSpecL08Ok, QSpecL08Season, QSpecFittingat, Open, LEv, QLawsToint64S, LCopy, LName, LIName, LIn, LWithin, LItems. -/
import Derived.Deep.Slices
import Derived.WideShapes
import Derived.ChangeShapes
import Derived.ChangeMaps5
import Derived.ChangeSame
import Derived.Test.YthpcepojkhjlfaaGFA1
import Derived.Test.YthpcepojkhjlfaaGFA2
import Derived.Test.YthpcepojkhjlfaaGFA3
section
namespace Go.Proofs.Ythpcepojkhjlfaa.P
open Go.RowKit Go.Proofs.YthpcepojkhjlfaaW.PrintWords Go.Proofs.YthpcepojkhjlfaaW.PrintLast Go.Proofs.YthpcepojkhjlfaaW.PrintMore
attribute [local go_sem] max2_int min2_int max_two min_two max_three min_three max_four min_four   -- for this text's walks alone
set_option linter.unusedVariables false
set_option linter.unusedSimpArgs false
/-! ### spec_l08One: function 104 -/
def spec_l08One.f (k : Nat) (a0_0 : ByteArray) (a0_1 : Int) (a0_2 : Int) (a0_3 : Int) (a0_4 : Int) (a0_5 : Int) : Option (Bool) := (spec_l01Name.f k a0_0).bind fun t767 => (if t767 = true then ((spec_l08Minute.f a0_1).bind fun t768 => (if t768 = true then ((spec_l08Minute.f a0_2).bind fun t769 => (if t769 = true then (if a0_1 = a0_2 then (some false) else ((spec_l00In.f a0_3 (-1) 5).bind fun t770 => (if t770 = true then ((spec_l00In.f a0_4 1 240).bind fun t771 => (if t771 = true then ((spec_l00In.f a0_5 0 1000).bind fun t772 => (some t772)) else (some false))) else (some false)))) else (some false))) else (some false))) else (some false))
theorem spec_l08One.mono : ∀ a0 a1 a2 a3 a4 a5 k, LeO (spec_l08One.f k a0 a1 a2 a3 a4 a5) (spec_l08One.f (k + 1) a0 a1 a2 a3 a4 a5) := by
  intro a0 a1 a2 a3 a4 a5 k
  unfold spec_l08One.f
  repeat' first
      | (with_reducible exact spec_l01Name.mono _ _)
      | (with_reducible exact LeO.refl _)
      | (with_reducible exact LeO.none _)
      | (with_reducible refine LeO.ite ?_ ?_)
      | (with_reducible refine LeO.bind ?_ (fun _ => ?_))
      | exact spec_l01Name.mono _ _
      | exact LeO.none _
      | refine LeO.ite ?_ ?_
      | refine LeO.bind ?_ (fun _ => ?_)
set_option maxHeartbeats 8000000 in
set_option maxRecDepth 100000 in
theorem spec_l08One.calls (k : Nat) (g0 : Addr) (a0_0 : ByteArray) (a0_1 : Int) (a0_2 : Int) (a0_3 : Int) (a0_4 : Int) (a0_5 : Int) (r : Bool) (w : World) (hp0 : w.cell? g0 = some (.string a0_0) ∧ w.cell? ⟨g0.block, g0.off + 1, none⟩ = some (.int .i64 a0_1) ∧ w.cell? ⟨g0.block, g0.off + 2, none⟩ = some (.int .i64 a0_2) ∧ w.cell? ⟨g0.block, g0.off + 3, none⟩ = some (.int .i64 a0_3) ∧ w.cell? ⟨g0.block, g0.off + 4, none⟩ = some (.int .i64 a0_4) ∧ w.cell? ⟨g0.block, g0.off + 5, none⟩ = some (.int .i64 a0_5)) (h : spec_l08One.f k a0_0 a0_1 a0_2 a0_3 a0_4 a0_5 = some r) :
    Calls Try.prog 104 #[.pointer (some g0)] w fun e w' => e = .returned (.bool r) ∧ Drawn0 w w' := by
  have HBX0 := Aside0.mk hp0
  have HBP0 := Aside0.mk hp0
  clear hp0
  have H : ((spec_l01Name.f k a0_0).bind fun t767 => (if t767 = true then ((spec_l08Minute.f a0_1).bind fun t768 => (if t768 = true then ((spec_l08Minute.f a0_2).bind fun t769 => (if t769 = true then (if a0_1 = a0_2 then (some false) else ((spec_l00In.f a0_3 (-1) 5).bind fun t770 => (if t770 = true then ((spec_l00In.f a0_4 1 240).bind fun t771 => (if t771 = true then ((spec_l00In.f a0_5 0 1000).bind fun t772 => (some t772)) else (some false))) else (some false)))) else (some false))) else (some false))) else (some false))) = some r := h
  clear h
  replace H := Option.bind_eq_some_iff.mp H
  obtain ⟨t767, A20, H⟩ := H
  replace H : (if t767 = true then ((spec_l08Minute.f a0_1).bind fun t768 => (if t768 = true then ((spec_l08Minute.f a0_2).bind fun t769 => (if t769 = true then (if a0_1 = a0_2 then (some false) else ((spec_l00In.f a0_3 (-1) 5).bind fun t770 => (if t770 = true then ((spec_l00In.f a0_4 1 240).bind fun t771 => (if t771 = true then ((spec_l00In.f a0_5 0 1000).bind fun t772 => (some t772)) else (some false))) else (some false)))) else (some false))) else (some false))) else (some false)) = some r := H
  have A2 := Aside0.mk A20
  clear A20
  by_cases c3 : t767 = true
  · subst c3
    have H1 : ((spec_l08Minute.f a0_1).bind fun t768 => (if t768 = true then ((spec_l08Minute.f a0_2).bind fun t769 => (if t769 = true then (if a0_1 = a0_2 then (some false) else ((spec_l00In.f a0_3 (-1) 5).bind fun t770 => (if t770 = true then ((spec_l00In.f a0_4 1 240).bind fun t771 => (if t771 = true then ((spec_l00In.f a0_5 0 1000).bind fun t772 => (some t772)) else (some false))) else (some false)))) else (some false))) else (some false))) = some r := by rw [if_pos rfl] at H; exact H
    clear H
    have H := H1
    clear H1
    replace H := Option.bind_eq_some_iff.mp H
    obtain ⟨t768, A40, H⟩ := H
    replace H : (if t768 = true then ((spec_l08Minute.f a0_2).bind fun t769 => (if t769 = true then (if a0_1 = a0_2 then (some false) else ((spec_l00In.f a0_3 (-1) 5).bind fun t770 => (if t770 = true then ((spec_l00In.f a0_4 1 240).bind fun t771 => (if t771 = true then ((spec_l00In.f a0_5 0 1000).bind fun t772 => (some t772)) else (some false))) else (some false)))) else (some false))) else (some false)) = some r := H
    have A4 := Aside0.mk A40
    clear A40
    by_cases c5 : t768 = true
    · subst c5
      have H1 : ((spec_l08Minute.f a0_2).bind fun t769 => (if t769 = true then (if a0_1 = a0_2 then (some false) else ((spec_l00In.f a0_3 (-1) 5).bind fun t770 => (if t770 = true then ((spec_l00In.f a0_4 1 240).bind fun t771 => (if t771 = true then ((spec_l00In.f a0_5 0 1000).bind fun t772 => (some t772)) else (some false))) else (some false)))) else (some false))) = some r := by rw [if_pos rfl] at H; exact H
      clear H
      have H := H1
      clear H1
      replace H := Option.bind_eq_some_iff.mp H
      obtain ⟨t769, A60, H⟩ := H
      replace H : (if t769 = true then (if a0_1 = a0_2 then (some false) else ((spec_l00In.f a0_3 (-1) 5).bind fun t770 => (if t770 = true then ((spec_l00In.f a0_4 1 240).bind fun t771 => (if t771 = true then ((spec_l00In.f a0_5 0 1000).bind fun t772 => (some t772)) else (some false))) else (some false)))) else (some false)) = some r := H
      have A6 := Aside0.mk A60
      clear A60
      by_cases c7 : t769 = true
      · subst c7
        have H1 : (if a0_1 = a0_2 then (some false) else ((spec_l00In.f a0_3 (-1) 5).bind fun t770 => (if t770 = true then ((spec_l00In.f a0_4 1 240).bind fun t771 => (if t771 = true then ((spec_l00In.f a0_5 0 1000).bind fun t772 => (some t772)) else (some false))) else (some false)))) = some r := by rw [if_pos rfl] at H; exact H
        clear H
        have H := H1
        clear H1
        by_cases c8 : a0_1 = a0_2
        · rw [if_pos c8] at H
          have c8b0 : (a0_1 == a0_2) = true := beq_iff_eq.mpr c8
          have c8b1 : (a0_1 != a0_2) = false := bne_eq_false_iff_eq.mpr c8
          clear c8
          obtain rfl := Option.some.inj H
          have hcz9_0 : w.cell? g0 = some (.string a0_0) := HBP0.out.1
          have hcz9_1 : w.cell? ⟨g0.block, g0.off + 1, none⟩ = some (.int .i64 a0_1) := HBP0.out.2.1
          have hcz9_2 : w.cell? ⟨g0.block, g0.off + 2, none⟩ = some (.int .i64 a0_2) := HBP0.out.2.2.1
          have hcz9_3 : w.cell? ⟨g0.block, g0.off + 3, none⟩ = some (.int .i64 a0_3) := HBP0.out.2.2.2.1
          have hcz9_4 : w.cell? ⟨g0.block, g0.off + 4, none⟩ = some (.int .i64 a0_4) := HBP0.out.2.2.2.2.1
          have hcz9_5 : w.cell? ⟨g0.block, g0.off + 5, none⟩ = some (.int .i64 a0_5) := HBP0.out.2.2.2.2.2
          go_enter Try.func104, Try.ntmps104
          go_wp2_with (first | (go_at_call 70; (with_reducible refine (spec_l01Name.calls k a0_0 true _ A2.out).mono ?_); rintro e w' ⟨rfl, ⟨nd, rfl⟩⟩; (try first | exact ⟨rfl, _, World.drewN_drewN _ _ _⟩ | exact ⟨rfl, _, Eq.trans (World.drewN_drewN _ _ _) (congrArg (World.drewN _) (Nat.add_assoc _ _ _))⟩)) | (go_at_call 83; (with_reducible refine (spec_l08Minute.calls a0_1 true _ A4.out).mono ?_); rintro e w' ⟨rfl, ⟨nd, rfl⟩⟩; (try first | exact ⟨rfl, _, World.drewN_drewN _ _ _⟩ | exact ⟨rfl, _, Eq.trans (World.drewN_drewN _ _ _) (congrArg (World.drewN _) (Nat.add_assoc _ _ _))⟩)) | (go_at_call 83; (with_reducible refine (spec_l08Minute.calls a0_2 true _ A6.out).mono ?_); rintro e w' ⟨rfl, ⟨nd, rfl⟩⟩; (try first | exact ⟨rfl, _, World.drewN_drewN _ _ _⟩ | exact ⟨rfl, _, Eq.trans (World.drewN_drewN _ _ _) (congrArg (World.drewN _) (Nat.add_assoc _ _ _))⟩)))
          repeat (go_quiet (first | (go_at_call 70; (with_reducible refine (spec_l01Name.calls k a0_0 true _ A2.out).mono ?_); rintro e w' ⟨rfl, ⟨nd, rfl⟩⟩; (try first | exact ⟨rfl, _, World.drewN_drewN _ _ _⟩ | exact ⟨rfl, _, Eq.trans (World.drewN_drewN _ _ _) (congrArg (World.drewN _) (Nat.add_assoc _ _ _))⟩)) | (go_at_call 83; (with_reducible refine (spec_l08Minute.calls a0_1 true _ A4.out).mono ?_); rintro e w' ⟨rfl, ⟨nd, rfl⟩⟩; (try first | exact ⟨rfl, _, World.drewN_drewN _ _ _⟩ | exact ⟨rfl, _, Eq.trans (World.drewN_drewN _ _ _) (congrArg (World.drewN _) (Nat.add_assoc _ _ _))⟩)) | (go_at_call 83; (with_reducible refine (spec_l08Minute.calls a0_2 true _ A6.out).mono ?_); rintro e w' ⟨rfl, ⟨nd, rfl⟩⟩; (try first | exact ⟨rfl, _, World.drewN_drewN _ _ _⟩ | exact ⟨rfl, _, Eq.trans (World.drewN_drewN _ _ _) (congrArg (World.drewN _) (Nat.add_assoc _ _ _))⟩))); try go_wp2_with (first | (go_at_call 70; (with_reducible refine (spec_l01Name.calls k a0_0 true _ A2.out).mono ?_); rintro e w' ⟨rfl, ⟨nd, rfl⟩⟩; (try first | exact ⟨rfl, _, World.drewN_drewN _ _ _⟩ | exact ⟨rfl, _, Eq.trans (World.drewN_drewN _ _ _) (congrArg (World.drewN _) (Nat.add_assoc _ _ _))⟩)) | (go_at_call 83; (with_reducible refine (spec_l08Minute.calls a0_1 true _ A4.out).mono ?_); rintro e w' ⟨rfl, ⟨nd, rfl⟩⟩; (try first | exact ⟨rfl, _, World.drewN_drewN _ _ _⟩ | exact ⟨rfl, _, Eq.trans (World.drewN_drewN _ _ _) (congrArg (World.drewN _) (Nat.add_assoc _ _ _))⟩)) | (go_at_call 83; (with_reducible refine (spec_l08Minute.calls a0_2 true _ A6.out).mono ?_); rintro e w' ⟨rfl, ⟨nd, rfl⟩⟩; (try first | exact ⟨rfl, _, World.drewN_drewN _ _ _⟩ | exact ⟨rfl, _, Eq.trans (World.drewN_drewN _ _ _) (congrArg (World.drewN _) (Nat.add_assoc _ _ _))⟩))))
          go_ret
          exact ⟨by first | rfl | (simp; done) | (simp [*]; done), by repeat (first | exact Drawn0.refl _ | apply Drawn0.step)⟩
        · rw [if_neg c8] at H
          have c8b0 : (a0_1 == a0_2) = false := beq_eq_false_iff_ne.mpr c8
          have c8b1 : (a0_1 != a0_2) = true := bne_iff_ne.mpr c8
          replace H := Option.bind_eq_some_iff.mp H
          obtain ⟨t770, A100, H⟩ := H
          replace H : (if t770 = true then ((spec_l00In.f a0_4 1 240).bind fun t771 => (if t771 = true then ((spec_l00In.f a0_5 0 1000).bind fun t772 => (some t772)) else (some false))) else (some false)) = some r := H
          have A10 := Aside0.mk A100
          clear A100
          by_cases c11 : t770 = true
          · subst c11
            have H1 : ((spec_l00In.f a0_4 1 240).bind fun t771 => (if t771 = true then ((spec_l00In.f a0_5 0 1000).bind fun t772 => (some t772)) else (some false))) = some r := by rw [if_pos rfl] at H; exact H
            clear H
            have H := H1
            clear H1
            replace H := Option.bind_eq_some_iff.mp H
            obtain ⟨t771, A120, H⟩ := H
            replace H : (if t771 = true then ((spec_l00In.f a0_5 0 1000).bind fun t772 => (some t772)) else (some false)) = some r := H
            have A12 := Aside0.mk A120
            clear A120
            by_cases c13 : t771 = true
            · subst c13
              have H1 : ((spec_l00In.f a0_5 0 1000).bind fun t772 => (some t772)) = some r := by rw [if_pos rfl] at H; exact H
              clear H
              have H := H1
              clear H1
              replace H := Option.bind_eq_some_iff.mp H
              obtain ⟨t772, A140, H⟩ := H
              replace H : (some t772) = some r := H
              have A14 := Aside0.mk A140
              clear A140
              obtain rfl := Option.some.inj H
              have hcz15_0 : w.cell? g0 = some (.string a0_0) := HBP0.out.1
              have hcz15_1 : w.cell? ⟨g0.block, g0.off + 1, none⟩ = some (.int .i64 a0_1) := HBP0.out.2.1
              have hcz15_2 : w.cell? ⟨g0.block, g0.off + 2, none⟩ = some (.int .i64 a0_2) := HBP0.out.2.2.1
              have hcz15_3 : w.cell? ⟨g0.block, g0.off + 3, none⟩ = some (.int .i64 a0_3) := HBP0.out.2.2.2.1
              have hcz15_4 : w.cell? ⟨g0.block, g0.off + 4, none⟩ = some (.int .i64 a0_4) := HBP0.out.2.2.2.2.1
              have hcz15_5 : w.cell? ⟨g0.block, g0.off + 5, none⟩ = some (.int .i64 a0_5) := HBP0.out.2.2.2.2.2
              go_enter Try.func104, Try.ntmps104
              go_wp2_with (first | (go_at_call 70; (with_reducible refine (spec_l01Name.calls k a0_0 true _ A2.out).mono ?_); rintro e w' ⟨rfl, ⟨nd, rfl⟩⟩; (try first | exact ⟨rfl, _, World.drewN_drewN _ _ _⟩ | exact ⟨rfl, _, Eq.trans (World.drewN_drewN _ _ _) (congrArg (World.drewN _) (Nat.add_assoc _ _ _))⟩)) | (go_at_call 83; (with_reducible refine (spec_l08Minute.calls a0_1 true _ A4.out).mono ?_); rintro e w' ⟨rfl, ⟨nd, rfl⟩⟩; (try first | exact ⟨rfl, _, World.drewN_drewN _ _ _⟩ | exact ⟨rfl, _, Eq.trans (World.drewN_drewN _ _ _) (congrArg (World.drewN _) (Nat.add_assoc _ _ _))⟩)) | (go_at_call 83; (with_reducible refine (spec_l08Minute.calls a0_2 true _ A6.out).mono ?_); rintro e w' ⟨rfl, ⟨nd, rfl⟩⟩; (try first | exact ⟨rfl, _, World.drewN_drewN _ _ _⟩ | exact ⟨rfl, _, Eq.trans (World.drewN_drewN _ _ _) (congrArg (World.drewN _) (Nat.add_assoc _ _ _))⟩)) | (go_at_call 73; (with_reducible refine (spec_l00In.calls a0_3 (-1) 5 true _ A10.out).mono ?_); rintro e w' ⟨rfl, ⟨nd, rfl⟩⟩; (try first | exact ⟨rfl, _, World.drewN_drewN _ _ _⟩ | exact ⟨rfl, _, Eq.trans (World.drewN_drewN _ _ _) (congrArg (World.drewN _) (Nat.add_assoc _ _ _))⟩)) | (go_at_call 73; (with_reducible refine (spec_l00In.calls a0_4 1 240 true _ A12.out).mono ?_); rintro e w' ⟨rfl, ⟨nd, rfl⟩⟩; (try first | exact ⟨rfl, _, World.drewN_drewN _ _ _⟩ | exact ⟨rfl, _, Eq.trans (World.drewN_drewN _ _ _) (congrArg (World.drewN _) (Nat.add_assoc _ _ _))⟩)) | (go_at_call 73; (with_reducible refine (spec_l00In.calls a0_5 0 1000 t772 _ A14.out).mono ?_); rintro e w' ⟨rfl, ⟨nd, rfl⟩⟩; (try first | exact ⟨rfl, _, World.drewN_drewN _ _ _⟩ | exact ⟨rfl, _, Eq.trans (World.drewN_drewN _ _ _) (congrArg (World.drewN _) (Nat.add_assoc _ _ _))⟩)))
              repeat (go_quiet (first | (go_at_call 70; (with_reducible refine (spec_l01Name.calls k a0_0 true _ A2.out).mono ?_); rintro e w' ⟨rfl, ⟨nd, rfl⟩⟩; (try first | exact ⟨rfl, _, World.drewN_drewN _ _ _⟩ | exact ⟨rfl, _, Eq.trans (World.drewN_drewN _ _ _) (congrArg (World.drewN _) (Nat.add_assoc _ _ _))⟩)) | (go_at_call 83; (with_reducible refine (spec_l08Minute.calls a0_1 true _ A4.out).mono ?_); rintro e w' ⟨rfl, ⟨nd, rfl⟩⟩; (try first | exact ⟨rfl, _, World.drewN_drewN _ _ _⟩ | exact ⟨rfl, _, Eq.trans (World.drewN_drewN _ _ _) (congrArg (World.drewN _) (Nat.add_assoc _ _ _))⟩)) | (go_at_call 83; (with_reducible refine (spec_l08Minute.calls a0_2 true _ A6.out).mono ?_); rintro e w' ⟨rfl, ⟨nd, rfl⟩⟩; (try first | exact ⟨rfl, _, World.drewN_drewN _ _ _⟩ | exact ⟨rfl, _, Eq.trans (World.drewN_drewN _ _ _) (congrArg (World.drewN _) (Nat.add_assoc _ _ _))⟩)) | (go_at_call 73; (with_reducible refine (spec_l00In.calls a0_3 (-1) 5 true _ A10.out).mono ?_); rintro e w' ⟨rfl, ⟨nd, rfl⟩⟩; (try first | exact ⟨rfl, _, World.drewN_drewN _ _ _⟩ | exact ⟨rfl, _, Eq.trans (World.drewN_drewN _ _ _) (congrArg (World.drewN _) (Nat.add_assoc _ _ _))⟩)) | (go_at_call 73; (with_reducible refine (spec_l00In.calls a0_4 1 240 true _ A12.out).mono ?_); rintro e w' ⟨rfl, ⟨nd, rfl⟩⟩; (try first | exact ⟨rfl, _, World.drewN_drewN _ _ _⟩ | exact ⟨rfl, _, Eq.trans (World.drewN_drewN _ _ _) (congrArg (World.drewN _) (Nat.add_assoc _ _ _))⟩)) | (go_at_call 73; (with_reducible refine (spec_l00In.calls a0_5 0 1000 t772 _ A14.out).mono ?_); rintro e w' ⟨rfl, ⟨nd, rfl⟩⟩; (try first | exact ⟨rfl, _, World.drewN_drewN _ _ _⟩ | exact ⟨rfl, _, Eq.trans (World.drewN_drewN _ _ _) (congrArg (World.drewN _) (Nat.add_assoc _ _ _))⟩))); try go_wp2_with (first | (go_at_call 70; (with_reducible refine (spec_l01Name.calls k a0_0 true _ A2.out).mono ?_); rintro e w' ⟨rfl, ⟨nd, rfl⟩⟩; (try first | exact ⟨rfl, _, World.drewN_drewN _ _ _⟩ | exact ⟨rfl, _, Eq.trans (World.drewN_drewN _ _ _) (congrArg (World.drewN _) (Nat.add_assoc _ _ _))⟩)) | (go_at_call 83; (with_reducible refine (spec_l08Minute.calls a0_1 true _ A4.out).mono ?_); rintro e w' ⟨rfl, ⟨nd, rfl⟩⟩; (try first | exact ⟨rfl, _, World.drewN_drewN _ _ _⟩ | exact ⟨rfl, _, Eq.trans (World.drewN_drewN _ _ _) (congrArg (World.drewN _) (Nat.add_assoc _ _ _))⟩)) | (go_at_call 83; (with_reducible refine (spec_l08Minute.calls a0_2 true _ A6.out).mono ?_); rintro e w' ⟨rfl, ⟨nd, rfl⟩⟩; (try first | exact ⟨rfl, _, World.drewN_drewN _ _ _⟩ | exact ⟨rfl, _, Eq.trans (World.drewN_drewN _ _ _) (congrArg (World.drewN _) (Nat.add_assoc _ _ _))⟩)) | (go_at_call 73; (with_reducible refine (spec_l00In.calls a0_3 (-1) 5 true _ A10.out).mono ?_); rintro e w' ⟨rfl, ⟨nd, rfl⟩⟩; (try first | exact ⟨rfl, _, World.drewN_drewN _ _ _⟩ | exact ⟨rfl, _, Eq.trans (World.drewN_drewN _ _ _) (congrArg (World.drewN _) (Nat.add_assoc _ _ _))⟩)) | (go_at_call 73; (with_reducible refine (spec_l00In.calls a0_4 1 240 true _ A12.out).mono ?_); rintro e w' ⟨rfl, ⟨nd, rfl⟩⟩; (try first | exact ⟨rfl, _, World.drewN_drewN _ _ _⟩ | exact ⟨rfl, _, Eq.trans (World.drewN_drewN _ _ _) (congrArg (World.drewN _) (Nat.add_assoc _ _ _))⟩)) | (go_at_call 73; (with_reducible refine (spec_l00In.calls a0_5 0 1000 t772 _ A14.out).mono ?_); rintro e w' ⟨rfl, ⟨nd, rfl⟩⟩; (try first | exact ⟨rfl, _, World.drewN_drewN _ _ _⟩ | exact ⟨rfl, _, Eq.trans (World.drewN_drewN _ _ _) (congrArg (World.drewN _) (Nat.add_assoc _ _ _))⟩))))
              go_ret
              exact ⟨by first | rfl | (simp; done) | (simp [*]; done), by repeat (first | exact Drawn0.refl _ | apply Drawn0.step)⟩
            · replace c13 := Bool.eq_false_iff.mpr c13
              subst c13
              have H1 : (some false) = some r := by rw [if_neg (show ¬ (false = true) by decide)] at H; exact H
              clear H
              have H := H1
              clear H1
              obtain rfl := Option.some.inj H
              have hcz16_0 : w.cell? g0 = some (.string a0_0) := HBP0.out.1
              have hcz16_1 : w.cell? ⟨g0.block, g0.off + 1, none⟩ = some (.int .i64 a0_1) := HBP0.out.2.1
              have hcz16_2 : w.cell? ⟨g0.block, g0.off + 2, none⟩ = some (.int .i64 a0_2) := HBP0.out.2.2.1
              have hcz16_3 : w.cell? ⟨g0.block, g0.off + 3, none⟩ = some (.int .i64 a0_3) := HBP0.out.2.2.2.1
              have hcz16_4 : w.cell? ⟨g0.block, g0.off + 4, none⟩ = some (.int .i64 a0_4) := HBP0.out.2.2.2.2.1
              have hcz16_5 : w.cell? ⟨g0.block, g0.off + 5, none⟩ = some (.int .i64 a0_5) := HBP0.out.2.2.2.2.2
              go_enter Try.func104, Try.ntmps104
              go_wp2_with (first | (go_at_call 70; (with_reducible refine (spec_l01Name.calls k a0_0 true _ A2.out).mono ?_); rintro e w' ⟨rfl, ⟨nd, rfl⟩⟩; (try first | exact ⟨rfl, _, World.drewN_drewN _ _ _⟩ | exact ⟨rfl, _, Eq.trans (World.drewN_drewN _ _ _) (congrArg (World.drewN _) (Nat.add_assoc _ _ _))⟩)) | (go_at_call 83; (with_reducible refine (spec_l08Minute.calls a0_1 true _ A4.out).mono ?_); rintro e w' ⟨rfl, ⟨nd, rfl⟩⟩; (try first | exact ⟨rfl, _, World.drewN_drewN _ _ _⟩ | exact ⟨rfl, _, Eq.trans (World.drewN_drewN _ _ _) (congrArg (World.drewN _) (Nat.add_assoc _ _ _))⟩)) | (go_at_call 83; (with_reducible refine (spec_l08Minute.calls a0_2 true _ A6.out).mono ?_); rintro e w' ⟨rfl, ⟨nd, rfl⟩⟩; (try first | exact ⟨rfl, _, World.drewN_drewN _ _ _⟩ | exact ⟨rfl, _, Eq.trans (World.drewN_drewN _ _ _) (congrArg (World.drewN _) (Nat.add_assoc _ _ _))⟩)) | (go_at_call 73; (with_reducible refine (spec_l00In.calls a0_3 (-1) 5 true _ A10.out).mono ?_); rintro e w' ⟨rfl, ⟨nd, rfl⟩⟩; (try first | exact ⟨rfl, _, World.drewN_drewN _ _ _⟩ | exact ⟨rfl, _, Eq.trans (World.drewN_drewN _ _ _) (congrArg (World.drewN _) (Nat.add_assoc _ _ _))⟩)) | (go_at_call 73; (with_reducible refine (spec_l00In.calls a0_4 1 240 false _ A12.out).mono ?_); rintro e w' ⟨rfl, ⟨nd, rfl⟩⟩; (try first | exact ⟨rfl, _, World.drewN_drewN _ _ _⟩ | exact ⟨rfl, _, Eq.trans (World.drewN_drewN _ _ _) (congrArg (World.drewN _) (Nat.add_assoc _ _ _))⟩)))
              repeat (go_quiet (first | (go_at_call 70; (with_reducible refine (spec_l01Name.calls k a0_0 true _ A2.out).mono ?_); rintro e w' ⟨rfl, ⟨nd, rfl⟩⟩; (try first | exact ⟨rfl, _, World.drewN_drewN _ _ _⟩ | exact ⟨rfl, _, Eq.trans (World.drewN_drewN _ _ _) (congrArg (World.drewN _) (Nat.add_assoc _ _ _))⟩)) | (go_at_call 83; (with_reducible refine (spec_l08Minute.calls a0_1 true _ A4.out).mono ?_); rintro e w' ⟨rfl, ⟨nd, rfl⟩⟩; (try first | exact ⟨rfl, _, World.drewN_drewN _ _ _⟩ | exact ⟨rfl, _, Eq.trans (World.drewN_drewN _ _ _) (congrArg (World.drewN _) (Nat.add_assoc _ _ _))⟩)) | (go_at_call 83; (with_reducible refine (spec_l08Minute.calls a0_2 true _ A6.out).mono ?_); rintro e w' ⟨rfl, ⟨nd, rfl⟩⟩; (try first | exact ⟨rfl, _, World.drewN_drewN _ _ _⟩ | exact ⟨rfl, _, Eq.trans (World.drewN_drewN _ _ _) (congrArg (World.drewN _) (Nat.add_assoc _ _ _))⟩)) | (go_at_call 73; (with_reducible refine (spec_l00In.calls a0_3 (-1) 5 true _ A10.out).mono ?_); rintro e w' ⟨rfl, ⟨nd, rfl⟩⟩; (try first | exact ⟨rfl, _, World.drewN_drewN _ _ _⟩ | exact ⟨rfl, _, Eq.trans (World.drewN_drewN _ _ _) (congrArg (World.drewN _) (Nat.add_assoc _ _ _))⟩)) | (go_at_call 73; (with_reducible refine (spec_l00In.calls a0_4 1 240 false _ A12.out).mono ?_); rintro e w' ⟨rfl, ⟨nd, rfl⟩⟩; (try first | exact ⟨rfl, _, World.drewN_drewN _ _ _⟩ | exact ⟨rfl, _, Eq.trans (World.drewN_drewN _ _ _) (congrArg (World.drewN _) (Nat.add_assoc _ _ _))⟩))); try go_wp2_with (first | (go_at_call 70; (with_reducible refine (spec_l01Name.calls k a0_0 true _ A2.out).mono ?_); rintro e w' ⟨rfl, ⟨nd, rfl⟩⟩; (try first | exact ⟨rfl, _, World.drewN_drewN _ _ _⟩ | exact ⟨rfl, _, Eq.trans (World.drewN_drewN _ _ _) (congrArg (World.drewN _) (Nat.add_assoc _ _ _))⟩)) | (go_at_call 83; (with_reducible refine (spec_l08Minute.calls a0_1 true _ A4.out).mono ?_); rintro e w' ⟨rfl, ⟨nd, rfl⟩⟩; (try first | exact ⟨rfl, _, World.drewN_drewN _ _ _⟩ | exact ⟨rfl, _, Eq.trans (World.drewN_drewN _ _ _) (congrArg (World.drewN _) (Nat.add_assoc _ _ _))⟩)) | (go_at_call 83; (with_reducible refine (spec_l08Minute.calls a0_2 true _ A6.out).mono ?_); rintro e w' ⟨rfl, ⟨nd, rfl⟩⟩; (try first | exact ⟨rfl, _, World.drewN_drewN _ _ _⟩ | exact ⟨rfl, _, Eq.trans (World.drewN_drewN _ _ _) (congrArg (World.drewN _) (Nat.add_assoc _ _ _))⟩)) | (go_at_call 73; (with_reducible refine (spec_l00In.calls a0_3 (-1) 5 true _ A10.out).mono ?_); rintro e w' ⟨rfl, ⟨nd, rfl⟩⟩; (try first | exact ⟨rfl, _, World.drewN_drewN _ _ _⟩ | exact ⟨rfl, _, Eq.trans (World.drewN_drewN _ _ _) (congrArg (World.drewN _) (Nat.add_assoc _ _ _))⟩)) | (go_at_call 73; (with_reducible refine (spec_l00In.calls a0_4 1 240 false _ A12.out).mono ?_); rintro e w' ⟨rfl, ⟨nd, rfl⟩⟩; (try first | exact ⟨rfl, _, World.drewN_drewN _ _ _⟩ | exact ⟨rfl, _, Eq.trans (World.drewN_drewN _ _ _) (congrArg (World.drewN _) (Nat.add_assoc _ _ _))⟩))))
              go_ret
              exact ⟨by first | rfl | (simp; done) | (simp [*]; done), by repeat (first | exact Drawn0.refl _ | apply Drawn0.step)⟩
          · replace c11 := Bool.eq_false_iff.mpr c11
            subst c11
            have H1 : (some false) = some r := by rw [if_neg (show ¬ (false = true) by decide)] at H; exact H
            clear H
            have H := H1
            clear H1
            obtain rfl := Option.some.inj H
            have hcz17_0 : w.cell? g0 = some (.string a0_0) := HBP0.out.1
            have hcz17_1 : w.cell? ⟨g0.block, g0.off + 1, none⟩ = some (.int .i64 a0_1) := HBP0.out.2.1
            have hcz17_2 : w.cell? ⟨g0.block, g0.off + 2, none⟩ = some (.int .i64 a0_2) := HBP0.out.2.2.1
            have hcz17_3 : w.cell? ⟨g0.block, g0.off + 3, none⟩ = some (.int .i64 a0_3) := HBP0.out.2.2.2.1
            have hcz17_4 : w.cell? ⟨g0.block, g0.off + 4, none⟩ = some (.int .i64 a0_4) := HBP0.out.2.2.2.2.1
            have hcz17_5 : w.cell? ⟨g0.block, g0.off + 5, none⟩ = some (.int .i64 a0_5) := HBP0.out.2.2.2.2.2
            go_enter Try.func104, Try.ntmps104
            go_wp2_with (first | (go_at_call 70; (with_reducible refine (spec_l01Name.calls k a0_0 true _ A2.out).mono ?_); rintro e w' ⟨rfl, ⟨nd, rfl⟩⟩; (try first | exact ⟨rfl, _, World.drewN_drewN _ _ _⟩ | exact ⟨rfl, _, Eq.trans (World.drewN_drewN _ _ _) (congrArg (World.drewN _) (Nat.add_assoc _ _ _))⟩)) | (go_at_call 83; (with_reducible refine (spec_l08Minute.calls a0_1 true _ A4.out).mono ?_); rintro e w' ⟨rfl, ⟨nd, rfl⟩⟩; (try first | exact ⟨rfl, _, World.drewN_drewN _ _ _⟩ | exact ⟨rfl, _, Eq.trans (World.drewN_drewN _ _ _) (congrArg (World.drewN _) (Nat.add_assoc _ _ _))⟩)) | (go_at_call 83; (with_reducible refine (spec_l08Minute.calls a0_2 true _ A6.out).mono ?_); rintro e w' ⟨rfl, ⟨nd, rfl⟩⟩; (try first | exact ⟨rfl, _, World.drewN_drewN _ _ _⟩ | exact ⟨rfl, _, Eq.trans (World.drewN_drewN _ _ _) (congrArg (World.drewN _) (Nat.add_assoc _ _ _))⟩)) | (go_at_call 73; (with_reducible refine (spec_l00In.calls a0_3 (-1) 5 false _ A10.out).mono ?_); rintro e w' ⟨rfl, ⟨nd, rfl⟩⟩; (try first | exact ⟨rfl, _, World.drewN_drewN _ _ _⟩ | exact ⟨rfl, _, Eq.trans (World.drewN_drewN _ _ _) (congrArg (World.drewN _) (Nat.add_assoc _ _ _))⟩)))
            repeat (go_quiet (first | (go_at_call 70; (with_reducible refine (spec_l01Name.calls k a0_0 true _ A2.out).mono ?_); rintro e w' ⟨rfl, ⟨nd, rfl⟩⟩; (try first | exact ⟨rfl, _, World.drewN_drewN _ _ _⟩ | exact ⟨rfl, _, Eq.trans (World.drewN_drewN _ _ _) (congrArg (World.drewN _) (Nat.add_assoc _ _ _))⟩)) | (go_at_call 83; (with_reducible refine (spec_l08Minute.calls a0_1 true _ A4.out).mono ?_); rintro e w' ⟨rfl, ⟨nd, rfl⟩⟩; (try first | exact ⟨rfl, _, World.drewN_drewN _ _ _⟩ | exact ⟨rfl, _, Eq.trans (World.drewN_drewN _ _ _) (congrArg (World.drewN _) (Nat.add_assoc _ _ _))⟩)) | (go_at_call 83; (with_reducible refine (spec_l08Minute.calls a0_2 true _ A6.out).mono ?_); rintro e w' ⟨rfl, ⟨nd, rfl⟩⟩; (try first | exact ⟨rfl, _, World.drewN_drewN _ _ _⟩ | exact ⟨rfl, _, Eq.trans (World.drewN_drewN _ _ _) (congrArg (World.drewN _) (Nat.add_assoc _ _ _))⟩)) | (go_at_call 73; (with_reducible refine (spec_l00In.calls a0_3 (-1) 5 false _ A10.out).mono ?_); rintro e w' ⟨rfl, ⟨nd, rfl⟩⟩; (try first | exact ⟨rfl, _, World.drewN_drewN _ _ _⟩ | exact ⟨rfl, _, Eq.trans (World.drewN_drewN _ _ _) (congrArg (World.drewN _) (Nat.add_assoc _ _ _))⟩))); try go_wp2_with (first | (go_at_call 70; (with_reducible refine (spec_l01Name.calls k a0_0 true _ A2.out).mono ?_); rintro e w' ⟨rfl, ⟨nd, rfl⟩⟩; (try first | exact ⟨rfl, _, World.drewN_drewN _ _ _⟩ | exact ⟨rfl, _, Eq.trans (World.drewN_drewN _ _ _) (congrArg (World.drewN _) (Nat.add_assoc _ _ _))⟩)) | (go_at_call 83; (with_reducible refine (spec_l08Minute.calls a0_1 true _ A4.out).mono ?_); rintro e w' ⟨rfl, ⟨nd, rfl⟩⟩; (try first | exact ⟨rfl, _, World.drewN_drewN _ _ _⟩ | exact ⟨rfl, _, Eq.trans (World.drewN_drewN _ _ _) (congrArg (World.drewN _) (Nat.add_assoc _ _ _))⟩)) | (go_at_call 83; (with_reducible refine (spec_l08Minute.calls a0_2 true _ A6.out).mono ?_); rintro e w' ⟨rfl, ⟨nd, rfl⟩⟩; (try first | exact ⟨rfl, _, World.drewN_drewN _ _ _⟩ | exact ⟨rfl, _, Eq.trans (World.drewN_drewN _ _ _) (congrArg (World.drewN _) (Nat.add_assoc _ _ _))⟩)) | (go_at_call 73; (with_reducible refine (spec_l00In.calls a0_3 (-1) 5 false _ A10.out).mono ?_); rintro e w' ⟨rfl, ⟨nd, rfl⟩⟩; (try first | exact ⟨rfl, _, World.drewN_drewN _ _ _⟩ | exact ⟨rfl, _, Eq.trans (World.drewN_drewN _ _ _) (congrArg (World.drewN _) (Nat.add_assoc _ _ _))⟩))))
            go_ret
            exact ⟨by first | rfl | (simp; done) | (simp [*]; done), by repeat (first | exact Drawn0.refl _ | apply Drawn0.step)⟩
      · replace c7 := Bool.eq_false_iff.mpr c7
        subst c7
        have H1 : (some false) = some r := by rw [if_neg (show ¬ (false = true) by decide)] at H; exact H
        clear H
        have H := H1
        clear H1
        obtain rfl := Option.some.inj H
        have hcz18_0 : w.cell? g0 = some (.string a0_0) := HBP0.out.1
        have hcz18_1 : w.cell? ⟨g0.block, g0.off + 1, none⟩ = some (.int .i64 a0_1) := HBP0.out.2.1
        have hcz18_2 : w.cell? ⟨g0.block, g0.off + 2, none⟩ = some (.int .i64 a0_2) := HBP0.out.2.2.1
        have hcz18_3 : w.cell? ⟨g0.block, g0.off + 3, none⟩ = some (.int .i64 a0_3) := HBP0.out.2.2.2.1
        have hcz18_4 : w.cell? ⟨g0.block, g0.off + 4, none⟩ = some (.int .i64 a0_4) := HBP0.out.2.2.2.2.1
        have hcz18_5 : w.cell? ⟨g0.block, g0.off + 5, none⟩ = some (.int .i64 a0_5) := HBP0.out.2.2.2.2.2
        go_enter Try.func104, Try.ntmps104
        go_wp2_with (first | (go_at_call 70; (with_reducible refine (spec_l01Name.calls k a0_0 true _ A2.out).mono ?_); rintro e w' ⟨rfl, ⟨nd, rfl⟩⟩; (try first | exact ⟨rfl, _, World.drewN_drewN _ _ _⟩ | exact ⟨rfl, _, Eq.trans (World.drewN_drewN _ _ _) (congrArg (World.drewN _) (Nat.add_assoc _ _ _))⟩)) | (go_at_call 83; (with_reducible refine (spec_l08Minute.calls a0_1 true _ A4.out).mono ?_); rintro e w' ⟨rfl, ⟨nd, rfl⟩⟩; (try first | exact ⟨rfl, _, World.drewN_drewN _ _ _⟩ | exact ⟨rfl, _, Eq.trans (World.drewN_drewN _ _ _) (congrArg (World.drewN _) (Nat.add_assoc _ _ _))⟩)) | (go_at_call 83; (with_reducible refine (spec_l08Minute.calls a0_2 false _ A6.out).mono ?_); rintro e w' ⟨rfl, ⟨nd, rfl⟩⟩; (try first | exact ⟨rfl, _, World.drewN_drewN _ _ _⟩ | exact ⟨rfl, _, Eq.trans (World.drewN_drewN _ _ _) (congrArg (World.drewN _) (Nat.add_assoc _ _ _))⟩)))
        repeat (go_quiet (first | (go_at_call 70; (with_reducible refine (spec_l01Name.calls k a0_0 true _ A2.out).mono ?_); rintro e w' ⟨rfl, ⟨nd, rfl⟩⟩; (try first | exact ⟨rfl, _, World.drewN_drewN _ _ _⟩ | exact ⟨rfl, _, Eq.trans (World.drewN_drewN _ _ _) (congrArg (World.drewN _) (Nat.add_assoc _ _ _))⟩)) | (go_at_call 83; (with_reducible refine (spec_l08Minute.calls a0_1 true _ A4.out).mono ?_); rintro e w' ⟨rfl, ⟨nd, rfl⟩⟩; (try first | exact ⟨rfl, _, World.drewN_drewN _ _ _⟩ | exact ⟨rfl, _, Eq.trans (World.drewN_drewN _ _ _) (congrArg (World.drewN _) (Nat.add_assoc _ _ _))⟩)) | (go_at_call 83; (with_reducible refine (spec_l08Minute.calls a0_2 false _ A6.out).mono ?_); rintro e w' ⟨rfl, ⟨nd, rfl⟩⟩; (try first | exact ⟨rfl, _, World.drewN_drewN _ _ _⟩ | exact ⟨rfl, _, Eq.trans (World.drewN_drewN _ _ _) (congrArg (World.drewN _) (Nat.add_assoc _ _ _))⟩))); try go_wp2_with (first | (go_at_call 70; (with_reducible refine (spec_l01Name.calls k a0_0 true _ A2.out).mono ?_); rintro e w' ⟨rfl, ⟨nd, rfl⟩⟩; (try first | exact ⟨rfl, _, World.drewN_drewN _ _ _⟩ | exact ⟨rfl, _, Eq.trans (World.drewN_drewN _ _ _) (congrArg (World.drewN _) (Nat.add_assoc _ _ _))⟩)) | (go_at_call 83; (with_reducible refine (spec_l08Minute.calls a0_1 true _ A4.out).mono ?_); rintro e w' ⟨rfl, ⟨nd, rfl⟩⟩; (try first | exact ⟨rfl, _, World.drewN_drewN _ _ _⟩ | exact ⟨rfl, _, Eq.trans (World.drewN_drewN _ _ _) (congrArg (World.drewN _) (Nat.add_assoc _ _ _))⟩)) | (go_at_call 83; (with_reducible refine (spec_l08Minute.calls a0_2 false _ A6.out).mono ?_); rintro e w' ⟨rfl, ⟨nd, rfl⟩⟩; (try first | exact ⟨rfl, _, World.drewN_drewN _ _ _⟩ | exact ⟨rfl, _, Eq.trans (World.drewN_drewN _ _ _) (congrArg (World.drewN _) (Nat.add_assoc _ _ _))⟩))))
        go_ret
        exact ⟨by first | rfl | (simp; done) | (simp [*]; done), by repeat (first | exact Drawn0.refl _ | apply Drawn0.step)⟩
    · replace c5 := Bool.eq_false_iff.mpr c5
      subst c5
      have H1 : (some false) = some r := by rw [if_neg (show ¬ (false = true) by decide)] at H; exact H
      clear H
      have H := H1
      clear H1
      obtain rfl := Option.some.inj H
      have hcz19_0 : w.cell? g0 = some (.string a0_0) := HBP0.out.1
      have hcz19_1 : w.cell? ⟨g0.block, g0.off + 1, none⟩ = some (.int .i64 a0_1) := HBP0.out.2.1
      have hcz19_2 : w.cell? ⟨g0.block, g0.off + 2, none⟩ = some (.int .i64 a0_2) := HBP0.out.2.2.1
      have hcz19_3 : w.cell? ⟨g0.block, g0.off + 3, none⟩ = some (.int .i64 a0_3) := HBP0.out.2.2.2.1
      have hcz19_4 : w.cell? ⟨g0.block, g0.off + 4, none⟩ = some (.int .i64 a0_4) := HBP0.out.2.2.2.2.1
      have hcz19_5 : w.cell? ⟨g0.block, g0.off + 5, none⟩ = some (.int .i64 a0_5) := HBP0.out.2.2.2.2.2
      go_enter Try.func104, Try.ntmps104
      go_wp2_with (first | (go_at_call 70; (with_reducible refine (spec_l01Name.calls k a0_0 true _ A2.out).mono ?_); rintro e w' ⟨rfl, ⟨nd, rfl⟩⟩; (try first | exact ⟨rfl, _, World.drewN_drewN _ _ _⟩ | exact ⟨rfl, _, Eq.trans (World.drewN_drewN _ _ _) (congrArg (World.drewN _) (Nat.add_assoc _ _ _))⟩)) | (go_at_call 83; (with_reducible refine (spec_l08Minute.calls a0_1 false _ A4.out).mono ?_); rintro e w' ⟨rfl, ⟨nd, rfl⟩⟩; (try first | exact ⟨rfl, _, World.drewN_drewN _ _ _⟩ | exact ⟨rfl, _, Eq.trans (World.drewN_drewN _ _ _) (congrArg (World.drewN _) (Nat.add_assoc _ _ _))⟩)))
      repeat (go_quiet (first | (go_at_call 70; (with_reducible refine (spec_l01Name.calls k a0_0 true _ A2.out).mono ?_); rintro e w' ⟨rfl, ⟨nd, rfl⟩⟩; (try first | exact ⟨rfl, _, World.drewN_drewN _ _ _⟩ | exact ⟨rfl, _, Eq.trans (World.drewN_drewN _ _ _) (congrArg (World.drewN _) (Nat.add_assoc _ _ _))⟩)) | (go_at_call 83; (with_reducible refine (spec_l08Minute.calls a0_1 false _ A4.out).mono ?_); rintro e w' ⟨rfl, ⟨nd, rfl⟩⟩; (try first | exact ⟨rfl, _, World.drewN_drewN _ _ _⟩ | exact ⟨rfl, _, Eq.trans (World.drewN_drewN _ _ _) (congrArg (World.drewN _) (Nat.add_assoc _ _ _))⟩))); try go_wp2_with (first | (go_at_call 70; (with_reducible refine (spec_l01Name.calls k a0_0 true _ A2.out).mono ?_); rintro e w' ⟨rfl, ⟨nd, rfl⟩⟩; (try first | exact ⟨rfl, _, World.drewN_drewN _ _ _⟩ | exact ⟨rfl, _, Eq.trans (World.drewN_drewN _ _ _) (congrArg (World.drewN _) (Nat.add_assoc _ _ _))⟩)) | (go_at_call 83; (with_reducible refine (spec_l08Minute.calls a0_1 false _ A4.out).mono ?_); rintro e w' ⟨rfl, ⟨nd, rfl⟩⟩; (try first | exact ⟨rfl, _, World.drewN_drewN _ _ _⟩ | exact ⟨rfl, _, Eq.trans (World.drewN_drewN _ _ _) (congrArg (World.drewN _) (Nat.add_assoc _ _ _))⟩))))
      go_ret
      exact ⟨by first | rfl | (simp; done) | (simp [*]; done), by repeat (first | exact Drawn0.refl _ | apply Drawn0.step)⟩
  · replace c3 := Bool.eq_false_iff.mpr c3
    subst c3
    have H1 : (some false) = some r := by rw [if_neg (show ¬ (false = true) by decide)] at H; exact H
    clear H
    have H := H1
    clear H1
    obtain rfl := Option.some.inj H
    have hcz20_0 : w.cell? g0 = some (.string a0_0) := HBP0.out.1
    have hcz20_1 : w.cell? ⟨g0.block, g0.off + 1, none⟩ = some (.int .i64 a0_1) := HBP0.out.2.1
    have hcz20_2 : w.cell? ⟨g0.block, g0.off + 2, none⟩ = some (.int .i64 a0_2) := HBP0.out.2.2.1
    have hcz20_3 : w.cell? ⟨g0.block, g0.off + 3, none⟩ = some (.int .i64 a0_3) := HBP0.out.2.2.2.1
    have hcz20_4 : w.cell? ⟨g0.block, g0.off + 4, none⟩ = some (.int .i64 a0_4) := HBP0.out.2.2.2.2.1
    have hcz20_5 : w.cell? ⟨g0.block, g0.off + 5, none⟩ = some (.int .i64 a0_5) := HBP0.out.2.2.2.2.2
    go_enter Try.func104, Try.ntmps104
    go_wp2_with (first | (go_at_call 70; (with_reducible refine (spec_l01Name.calls k a0_0 false _ A2.out).mono ?_); rintro e w' ⟨rfl, ⟨nd, rfl⟩⟩; (try first | exact ⟨rfl, _, World.drewN_drewN _ _ _⟩ | exact ⟨rfl, _, Eq.trans (World.drewN_drewN _ _ _) (congrArg (World.drewN _) (Nat.add_assoc _ _ _))⟩)))
    repeat (go_quiet (first | (go_at_call 70; (with_reducible refine (spec_l01Name.calls k a0_0 false _ A2.out).mono ?_); rintro e w' ⟨rfl, ⟨nd, rfl⟩⟩; (try first | exact ⟨rfl, _, World.drewN_drewN _ _ _⟩ | exact ⟨rfl, _, Eq.trans (World.drewN_drewN _ _ _) (congrArg (World.drewN _) (Nat.add_assoc _ _ _))⟩))); try go_wp2_with (first | (go_at_call 70; (with_reducible refine (spec_l01Name.calls k a0_0 false _ A2.out).mono ?_); rintro e w' ⟨rfl, ⟨nd, rfl⟩⟩; (try first | exact ⟨rfl, _, World.drewN_drewN _ _ _⟩ | exact ⟨rfl, _, Eq.trans (World.drewN_drewN _ _ _) (congrArg (World.drewN _) (Nat.add_assoc _ _ _))⟩))))
    go_ret
    exact ⟨by first | rfl | (simp; done) | (simp [*]; done), by repeat (first | exact Drawn0.refl _ | apply Drawn0.step)⟩
end Go.Proofs.Ythpcepojkhjlfaa.P
end

section
namespace Go.Proofs.Ythpcepojkhjlfaa.P
open Go.RowKit Go.Proofs.YthpcepojkhjlfaaW.PrintWords Go.Proofs.YthpcepojkhjlfaaW.PrintLast Go.Proofs.YthpcepojkhjlfaaW.PrintMore
attribute [local go_sem] max2_int min2_int max_two min_two max_three min_three max_four min_four   -- for this text's walks alone
set_option linter.unusedVariables false
set_option linter.unusedSimpArgs false

/-! ### spec_l08Ok: function 82 -/
attribute [local go_sem] str_leq str_gtr str_geq
def spec_l08Ok.l0 : Nat → List (S95) → Int → Option (Bool)
  | 0, _, _ => none
  | k + 1, x0, x3 => if x3 < (x0.length : Int) then (if 0 ≤ x3 then ((spec_l08One.f k ((rd_T95 x0 x3).f0) ((rd_T95 x0 x3).f1) ((rd_T95 x0 x3).f2) ((rd_T95 x0 x3).f3) ((rd_T95 x0 x3).f4) ((rd_T95 x0 x3).f5)).bind fun t774 => (if t774 = true then (if x3 > 0 then (if 0 ≤ (wrap64 (x3 - 1)) then (if (wrap64 (x3 - 1)) < (x0.length : Int) then (if ((Op.bytesLess (((rd_T95 x0 (wrap64 (x3 - 1))).f0).toList) (((rd_T95 x0 x3).f0).toList)) = true) then (spec_l08Ok.l0 k x0 (wrap64 (x3 + 1))) else (some false)) else (none)) else (none)) else (spec_l08Ok.l0 k x0 (wrap64 (x3 + 1)))) else (some false))) else (none)) else (some (decide ((x0.length : Int) ≤ 12)))
def spec_l08Ok.f (k : Nat) (l0 : List (S95)) : Option (Bool) := spec_l08Ok.l0 k l0 0
theorem spec_l08Ok.mono_l : ∀ k, (∀ y0 y1, LeO (spec_l08Ok.l0 k y0 y1) (spec_l08Ok.l0 (k + 1) y0 y1))
  | 0 => fun _ _ r h => by simp [spec_l08Ok.l0] at h
  | k + 1 => by
    have ih0 := spec_l08Ok.mono_l k
    · intro y0 y1
      unfold spec_l08Ok.l0
      repeat' first
      | (with_reducible exact ih0 _ _)
      | (with_reducible exact spec_l08One.mono _ _ _ _ _ _ _)
      | (with_reducible exact LeO.refl _)
      | (with_reducible exact LeO.none _)
      | (with_reducible refine LeO.ite ?_ ?_)
      | (with_reducible refine LeO.bind ?_ (fun _ => ?_))
      | exact ih0 _ _
      | exact spec_l08One.mono _ _ _ _ _ _ _
      | exact LeO.none _
      | refine LeO.ite ?_ ?_
      | refine LeO.bind ?_ (fun _ => ?_)
theorem spec_l08Ok.mono : ∀ a0 k, LeO (spec_l08Ok.f k a0) (spec_l08Ok.f (k + 1) a0) := by
  intro a0 k
  have ih0 := spec_l08Ok.mono_l k
  unfold spec_l08Ok.f
  repeat' first
      | (with_reducible exact ih0 _ _)
      | (with_reducible exact spec_l08One.mono _ _ _ _ _ _ _)
      | (with_reducible exact LeO.refl _)
      | (with_reducible exact LeO.none _)
      | (with_reducible refine LeO.ite ?_ ?_)
      | (with_reducible refine LeO.bind ?_ (fun _ => ?_))
      | exact ih0 _ _
      | exact spec_l08One.mono _ _ _ _ _ _ _
      | exact LeO.none _
      | refine LeO.ite ?_ ?_
      | refine LeO.bind ?_ (fun _ => ?_)
set_option maxHeartbeats 8000000 in
set_option maxRecDepth 100000 in
theorem spec_l08Ok.calls (k : Nat) (A0 : Option Addr) (c0 : Nat) (l0 : List (S95)) (r : Bool) (w : World) (hr0 : Kd.C k95 w A0 l0.length l0) (hc0 : l0.length ≤ c0) (h : spec_l08Ok.f k l0 = some r) :
    Calls Try.prog 82 #[.slice A0 l0.length c0] w fun e w' => e = .returned (.bool r) ∧ Drawn0 w w' := by
  have HR0 := Aside0.mk hr0
  have HC0 := Aside0.mk hc0
  clear hr0 hc0
  have H : (spec_l08Ok.l0 k l0 0) = some r := h
  clear h
  have H' := Aside0.mk H
  clear H
  go_enter Try.func82, Try.ntmps82
  go_wp2
  repeat (go_quiet (fail); try go_wp2)
  go_loopg [3] k (fun kq v3 w' => ∃ (x3_1 : Int), v3 = .int .i64 x3_1 ∧ Aside0 (spec_l08Ok.l0 kq l0 x3_1 = some r) ∧ Aside0 (kq ≤ k) ∧ Drawn0 w w')
  case atStart => exact ⟨(0), (by first | rfl | (simp; done) | (simp [*]; done)), H', ⟨Nat.le_refl _⟩, by repeat (first | exact Drawn0.refl _ | apply Drawn0.step)⟩
  case round =>
    clear H'
    obtain ⟨x3_1, rfl, HA, HK1, ⟨m1, rfl⟩⟩ := hrel
    cases gk with
    | zero => exact absurd HA.out (by simp [spec_l08Ok.l0])
    | succ k1 =>
      have H := HA.out
      clear HA
      simp only [spec_l08Ok.l0] at H
      by_cases c2 : x3_1 < (l0.length : Int)
      · rw [if_pos c2] at H
        have c2b0 : decide (x3_1 < (l0.length : Int)) = true := decide_eq_true c2
        clear c2
        by_cases c3 : 0 ≤ x3_1
        · rw [if_pos c3] at H
          have c3b0 : decide (0 ≤ x3_1) = true := decide_eq_true c3
          clear c3
          replace H := Option.bind_eq_some_iff.mp H
          obtain ⟨t774, A40, H⟩ := H
          replace H : (if t774 = true then (if x3_1 > 0 then (if 0 ≤ (wrap64 (x3_1 - 1)) then (if (wrap64 (x3_1 - 1)) < (l0.length : Int) then (if ((Op.bytesLess (((rd_T95 l0 (wrap64 (x3_1 - 1))).f0).toList) (((rd_T95 l0 x3_1).f0).toList)) = true) then (spec_l08Ok.l0 k1 l0 (wrap64 (x3_1 + 1))) else (some false)) else (none)) else (none)) else (spec_l08Ok.l0 k1 l0 (wrap64 (x3_1 + 1)))) else (some false)) = some r := H
          have A4 := Aside0.mk A40
          clear A40
          by_cases c5 : t774 = true
          · subst c5
            have H1 : (if x3_1 > 0 then (if 0 ≤ (wrap64 (x3_1 - 1)) then (if (wrap64 (x3_1 - 1)) < (l0.length : Int) then (if ((Op.bytesLess (((rd_T95 l0 (wrap64 (x3_1 - 1))).f0).toList) (((rd_T95 l0 x3_1).f0).toList)) = true) then (spec_l08Ok.l0 k1 l0 (wrap64 (x3_1 + 1))) else (some false)) else (none)) else (none)) else (spec_l08Ok.l0 k1 l0 (wrap64 (x3_1 + 1)))) = some r := by rw [if_pos rfl] at H; exact H
            clear H
            have H := H1
            clear H1
            by_cases c6 : x3_1 > 0
            · rw [if_pos c6] at H
              have c6b0 : decide (0 < x3_1) = true := decide_eq_true c6
              clear c6
              obtain ⟨ji7, hji7⟩ : ∃ j_ : Int, (wrap64 (x3_1 - 1)) = j_ := ⟨_, rfl⟩
              replace H : (if 0 ≤ (ji7) then (if (ji7) < (l0.length : Int) then (if ((Op.bytesLess (((rd_T95 l0 (ji7)).f0).toList) (((rd_T95 l0 x3_1).f0).toList)) = true) then (spec_l08Ok.l0 k1 l0 (wrap64 (x3_1 + 1))) else (some false)) else (none)) else (none)) = some r := by first | (rw [hji7] at H; exact H) | (simp only [hji7] at H ⊢; exact H)
              (try rw [hji7] at A4)
              have hji7w : (IntKind.i64.wrap (x3_1 - 1)) = ji7 := (i64_w _).trans hji7
              by_cases c8 : 0 ≤ (ji7)
              · rw [if_pos c8] at H
                have c8b0 : decide (0 ≤ (ji7)) = true := decide_eq_true c8
                clear c8
                by_cases c9 : (ji7) < (l0.length : Int)
                · rw [if_pos c9] at H
                  have c9b0 : decide ((ji7) < (l0.length : Int)) = true := decide_eq_true c9
                  clear c9
                  by_cases c10 : ((Op.bytesLess (((rd_T95 l0 (ji7)).f0).toList) (((rd_T95 l0 x3_1).f0).toList)) = true)
                  · rw [if_pos c10] at H
                    have c10b0 : (Op.bytesLess (((rd_T95 l0 (ji7)).f0).toList) (((rd_T95 l0 x3_1).f0).toList)) = true := c10
                    clear c10
                    have H' := Aside0.mk H
                    clear H
                    have p773 : 0 ≤ (x3_1 : Int) := of_decide_eq_true (by first | (with_reducible assumption) | assumption)
                    have q773 : x3_1 < (l0.length : Int) := of_decide_eq_true (by first | (with_reducible assumption) | assumption)
                    obtain ⟨ad773, e773, hx773_0, hx773_1, hx773_2, hx773_3, hx773_4, hx773_5⟩ := at_T95 HR0.out x3_1 p773 q773
                    cases e773
                    replace p773 := eq_true p773
                    replace q773 := eq_true q773
                    go_wp2_with (first | (go_at_call 104; (with_reducible refine (spec_l08One.calls k1 (ad773.add ((x3_1 : Int).toNat * 6)) ((rd_T95 l0 x3_1).f0) ((rd_T95 l0 x3_1).f1) ((rd_T95 l0 x3_1).f2) ((rd_T95 l0 x3_1).f3) ((rd_T95 l0 x3_1).f4) ((rd_T95 l0 x3_1).f5) true _ ?side1 A4.out).mono ?_); (case side1 => exact ⟨hx773_0, hx773_1, hx773_2, hx773_3, hx773_4, hx773_5⟩); rintro e w' ⟨rfl, ⟨nd, rfl⟩⟩; (try first | exact ⟨rfl, _, World.drewN_drewN _ _ _⟩ | exact ⟨rfl, _, Eq.trans (World.drewN_drewN _ _ _) (congrArg (World.drewN _) (Nat.add_assoc _ _ _))⟩); have p775 : 0 ≤ ((ji7) : Int) := of_decide_eq_true (by first | (with_reducible assumption) | assumption); have q775 : (ji7) < (l0.length : Int) := of_decide_eq_true (by first | (with_reducible assumption) | assumption); obtain ⟨ad775, e775, hx775_0, hx775_1, hx775_2, hx775_3, hx775_4, hx775_5⟩ := at_T95 HR0.out (ji7) p775 q775; obtain rfl : ad773 = ad775 := (by injection e775); replace p775 := eq_true p775; replace q775 := eq_true q775; have p776 : 0 ≤ (x3_1 : Int) := of_decide_eq_true (by first | (with_reducible assumption) | assumption); have q776 : x3_1 < (l0.length : Int) := of_decide_eq_true (by first | (with_reducible assumption) | assumption); obtain ⟨ad776, e776, hx776_0, hx776_1, hx776_2, hx776_3, hx776_4, hx776_5⟩ := at_T95 HR0.out x3_1 p776 q776; obtain rfl : ad773 = ad776 := (by injection e776); replace p776 := eq_true p776; replace q776 := eq_true q776))
                    repeat (go_quiet (first | (go_at_call 104; (with_reducible refine (spec_l08One.calls k1 (ad773.add ((x3_1 : Int).toNat * 6)) ((rd_T95 l0 x3_1).f0) ((rd_T95 l0 x3_1).f1) ((rd_T95 l0 x3_1).f2) ((rd_T95 l0 x3_1).f3) ((rd_T95 l0 x3_1).f4) ((rd_T95 l0 x3_1).f5) true _ ?side1 A4.out).mono ?_); (case side1 => exact ⟨hx773_0, hx773_1, hx773_2, hx773_3, hx773_4, hx773_5⟩); rintro e w' ⟨rfl, ⟨nd, rfl⟩⟩; (try first | exact ⟨rfl, _, World.drewN_drewN _ _ _⟩ | exact ⟨rfl, _, Eq.trans (World.drewN_drewN _ _ _) (congrArg (World.drewN _) (Nat.add_assoc _ _ _))⟩); have p775 : 0 ≤ ((ji7) : Int) := of_decide_eq_true (by first | (with_reducible assumption) | assumption); have q775 : (ji7) < (l0.length : Int) := of_decide_eq_true (by first | (with_reducible assumption) | assumption); obtain ⟨ad775, e775, hx775_0, hx775_1, hx775_2, hx775_3, hx775_4, hx775_5⟩ := at_T95 HR0.out (ji7) p775 q775; obtain rfl : ad773 = ad775 := (by injection e775); replace p775 := eq_true p775; replace q775 := eq_true q775; have p776 : 0 ≤ (x3_1 : Int) := of_decide_eq_true (by first | (with_reducible assumption) | assumption); have q776 : x3_1 < (l0.length : Int) := of_decide_eq_true (by first | (with_reducible assumption) | assumption); obtain ⟨ad776, e776, hx776_0, hx776_1, hx776_2, hx776_3, hx776_4, hx776_5⟩ := at_T95 HR0.out x3_1 p776 q776; obtain rfl : ad773 = ad776 := (by injection e776); replace p776 := eq_true p776; replace q776 := eq_true q776)); try go_wp2_with (first | (go_at_call 104; (with_reducible refine (spec_l08One.calls k1 (ad773.add ((x3_1 : Int).toNat * 6)) ((rd_T95 l0 x3_1).f0) ((rd_T95 l0 x3_1).f1) ((rd_T95 l0 x3_1).f2) ((rd_T95 l0 x3_1).f3) ((rd_T95 l0 x3_1).f4) ((rd_T95 l0 x3_1).f5) true _ ?side1 A4.out).mono ?_); (case side1 => exact ⟨hx773_0, hx773_1, hx773_2, hx773_3, hx773_4, hx773_5⟩); rintro e w' ⟨rfl, ⟨nd, rfl⟩⟩; (try first | exact ⟨rfl, _, World.drewN_drewN _ _ _⟩ | exact ⟨rfl, _, Eq.trans (World.drewN_drewN _ _ _) (congrArg (World.drewN _) (Nat.add_assoc _ _ _))⟩); have p775 : 0 ≤ ((ji7) : Int) := of_decide_eq_true (by first | (with_reducible assumption) | assumption); have q775 : (ji7) < (l0.length : Int) := of_decide_eq_true (by first | (with_reducible assumption) | assumption); obtain ⟨ad775, e775, hx775_0, hx775_1, hx775_2, hx775_3, hx775_4, hx775_5⟩ := at_T95 HR0.out (ji7) p775 q775; obtain rfl : ad773 = ad775 := (by injection e775); replace p775 := eq_true p775; replace q775 := eq_true q775; have p776 : 0 ≤ (x3_1 : Int) := of_decide_eq_true (by first | (with_reducible assumption) | assumption); have q776 : x3_1 < (l0.length : Int) := of_decide_eq_true (by first | (with_reducible assumption) | assumption); obtain ⟨ad776, e776, hx776_0, hx776_1, hx776_2, hx776_3, hx776_4, hx776_5⟩ := at_T95 HR0.out x3_1 p776 q776; obtain rfl : ad773 = ad776 := (by injection e776); replace p776 := eq_true p776; replace q776 := eq_true q776)))
                    go_roundg k1
                    case measure => have := HK1.out; omega
                    case rel => exact ⟨(wrap64 (x3_1 + 1)), (by first | rfl | (simp; done) | (simp [*]; done)), H', ⟨by have := HK1.out; omega⟩, by repeat (first | exact Drawn0.refl _ | apply Drawn0.step)⟩
                  · rw [if_neg c10] at H
                    have c10b0 : (Op.bytesLess (((rd_T95 l0 (ji7)).f0).toList) (((rd_T95 l0 x3_1).f0).toList)) = false := by simpa using c10
                    clear c10
                    obtain rfl := Option.some.inj H
                    have p773 : 0 ≤ (x3_1 : Int) := of_decide_eq_true (by first | (with_reducible assumption) | assumption)
                    have q773 : x3_1 < (l0.length : Int) := of_decide_eq_true (by first | (with_reducible assumption) | assumption)
                    obtain ⟨ad773, e773, hx773_0, hx773_1, hx773_2, hx773_3, hx773_4, hx773_5⟩ := at_T95 HR0.out x3_1 p773 q773
                    cases e773
                    replace p773 := eq_true p773
                    replace q773 := eq_true q773
                    go_wp2_with (first | (go_at_call 104; (with_reducible refine (spec_l08One.calls k1 (ad773.add ((x3_1 : Int).toNat * 6)) ((rd_T95 l0 x3_1).f0) ((rd_T95 l0 x3_1).f1) ((rd_T95 l0 x3_1).f2) ((rd_T95 l0 x3_1).f3) ((rd_T95 l0 x3_1).f4) ((rd_T95 l0 x3_1).f5) true _ ?side1 A4.out).mono ?_); (case side1 => exact ⟨hx773_0, hx773_1, hx773_2, hx773_3, hx773_4, hx773_5⟩); rintro e w' ⟨rfl, ⟨nd, rfl⟩⟩; (try first | exact ⟨rfl, _, World.drewN_drewN _ _ _⟩ | exact ⟨rfl, _, Eq.trans (World.drewN_drewN _ _ _) (congrArg (World.drewN _) (Nat.add_assoc _ _ _))⟩); have p775 : 0 ≤ ((ji7) : Int) := of_decide_eq_true (by first | (with_reducible assumption) | assumption); have q775 : (ji7) < (l0.length : Int) := of_decide_eq_true (by first | (with_reducible assumption) | assumption); obtain ⟨ad775, e775, hx775_0, hx775_1, hx775_2, hx775_3, hx775_4, hx775_5⟩ := at_T95 HR0.out (ji7) p775 q775; obtain rfl : ad773 = ad775 := (by injection e775); replace p775 := eq_true p775; replace q775 := eq_true q775; have p776 : 0 ≤ (x3_1 : Int) := of_decide_eq_true (by first | (with_reducible assumption) | assumption); have q776 : x3_1 < (l0.length : Int) := of_decide_eq_true (by first | (with_reducible assumption) | assumption); obtain ⟨ad776, e776, hx776_0, hx776_1, hx776_2, hx776_3, hx776_4, hx776_5⟩ := at_T95 HR0.out x3_1 p776 q776; obtain rfl : ad773 = ad776 := (by injection e776); replace p776 := eq_true p776; replace q776 := eq_true q776))
                    repeat (go_quiet (first | (go_at_call 104; (with_reducible refine (spec_l08One.calls k1 (ad773.add ((x3_1 : Int).toNat * 6)) ((rd_T95 l0 x3_1).f0) ((rd_T95 l0 x3_1).f1) ((rd_T95 l0 x3_1).f2) ((rd_T95 l0 x3_1).f3) ((rd_T95 l0 x3_1).f4) ((rd_T95 l0 x3_1).f5) true _ ?side1 A4.out).mono ?_); (case side1 => exact ⟨hx773_0, hx773_1, hx773_2, hx773_3, hx773_4, hx773_5⟩); rintro e w' ⟨rfl, ⟨nd, rfl⟩⟩; (try first | exact ⟨rfl, _, World.drewN_drewN _ _ _⟩ | exact ⟨rfl, _, Eq.trans (World.drewN_drewN _ _ _) (congrArg (World.drewN _) (Nat.add_assoc _ _ _))⟩); have p775 : 0 ≤ ((ji7) : Int) := of_decide_eq_true (by first | (with_reducible assumption) | assumption); have q775 : (ji7) < (l0.length : Int) := of_decide_eq_true (by first | (with_reducible assumption) | assumption); obtain ⟨ad775, e775, hx775_0, hx775_1, hx775_2, hx775_3, hx775_4, hx775_5⟩ := at_T95 HR0.out (ji7) p775 q775; obtain rfl : ad773 = ad775 := (by injection e775); replace p775 := eq_true p775; replace q775 := eq_true q775; have p776 : 0 ≤ (x3_1 : Int) := of_decide_eq_true (by first | (with_reducible assumption) | assumption); have q776 : x3_1 < (l0.length : Int) := of_decide_eq_true (by first | (with_reducible assumption) | assumption); obtain ⟨ad776, e776, hx776_0, hx776_1, hx776_2, hx776_3, hx776_4, hx776_5⟩ := at_T95 HR0.out x3_1 p776 q776; obtain rfl : ad773 = ad776 := (by injection e776); replace p776 := eq_true p776; replace q776 := eq_true q776)); try go_wp2_with (first | (go_at_call 104; (with_reducible refine (spec_l08One.calls k1 (ad773.add ((x3_1 : Int).toNat * 6)) ((rd_T95 l0 x3_1).f0) ((rd_T95 l0 x3_1).f1) ((rd_T95 l0 x3_1).f2) ((rd_T95 l0 x3_1).f3) ((rd_T95 l0 x3_1).f4) ((rd_T95 l0 x3_1).f5) true _ ?side1 A4.out).mono ?_); (case side1 => exact ⟨hx773_0, hx773_1, hx773_2, hx773_3, hx773_4, hx773_5⟩); rintro e w' ⟨rfl, ⟨nd, rfl⟩⟩; (try first | exact ⟨rfl, _, World.drewN_drewN _ _ _⟩ | exact ⟨rfl, _, Eq.trans (World.drewN_drewN _ _ _) (congrArg (World.drewN _) (Nat.add_assoc _ _ _))⟩); have p775 : 0 ≤ ((ji7) : Int) := of_decide_eq_true (by first | (with_reducible assumption) | assumption); have q775 : (ji7) < (l0.length : Int) := of_decide_eq_true (by first | (with_reducible assumption) | assumption); obtain ⟨ad775, e775, hx775_0, hx775_1, hx775_2, hx775_3, hx775_4, hx775_5⟩ := at_T95 HR0.out (ji7) p775 q775; obtain rfl : ad773 = ad775 := (by injection e775); replace p775 := eq_true p775; replace q775 := eq_true q775; have p776 : 0 ≤ (x3_1 : Int) := of_decide_eq_true (by first | (with_reducible assumption) | assumption); have q776 : x3_1 < (l0.length : Int) := of_decide_eq_true (by first | (with_reducible assumption) | assumption); obtain ⟨ad776, e776, hx776_0, hx776_1, hx776_2, hx776_3, hx776_4, hx776_5⟩ := at_T95 HR0.out x3_1 p776 q776; obtain rfl : ad773 = ad776 := (by injection e776); replace p776 := eq_true p776; replace q776 := eq_true q776)))
                    go_ret
                    exact ⟨by first | rfl | (simp; done) | (simp only [← hji7] <;> (first | rfl | simp)) | (simp [*]; done), by repeat (first | exact Drawn0.refl _ | apply Drawn0.step)⟩
                · rw [if_neg c9] at H
                  exact absurd H (by simp)
              · rw [if_neg c8] at H
                exact absurd H (by simp)
            · rw [if_neg c6] at H
              have c6b0 : decide (0 < x3_1) = false := decide_eq_false c6
              clear c6
              have H' := Aside0.mk H
              clear H
              have p773 : 0 ≤ (x3_1 : Int) := of_decide_eq_true (by first | (with_reducible assumption) | assumption)
              have q773 : x3_1 < (l0.length : Int) := of_decide_eq_true (by first | (with_reducible assumption) | assumption)
              obtain ⟨ad773, e773, hx773_0, hx773_1, hx773_2, hx773_3, hx773_4, hx773_5⟩ := at_T95 HR0.out x3_1 p773 q773
              cases e773
              replace p773 := eq_true p773
              replace q773 := eq_true q773
              go_wp2_with (first | (go_at_call 104; (with_reducible refine (spec_l08One.calls k1 (ad773.add ((x3_1 : Int).toNat * 6)) ((rd_T95 l0 x3_1).f0) ((rd_T95 l0 x3_1).f1) ((rd_T95 l0 x3_1).f2) ((rd_T95 l0 x3_1).f3) ((rd_T95 l0 x3_1).f4) ((rd_T95 l0 x3_1).f5) true _ ?side1 A4.out).mono ?_); (case side1 => exact ⟨hx773_0, hx773_1, hx773_2, hx773_3, hx773_4, hx773_5⟩); rintro e w' ⟨rfl, ⟨nd, rfl⟩⟩; (try first | exact ⟨rfl, _, World.drewN_drewN _ _ _⟩ | exact ⟨rfl, _, Eq.trans (World.drewN_drewN _ _ _) (congrArg (World.drewN _) (Nat.add_assoc _ _ _))⟩)))
              repeat (go_quiet (first | (go_at_call 104; (with_reducible refine (spec_l08One.calls k1 (ad773.add ((x3_1 : Int).toNat * 6)) ((rd_T95 l0 x3_1).f0) ((rd_T95 l0 x3_1).f1) ((rd_T95 l0 x3_1).f2) ((rd_T95 l0 x3_1).f3) ((rd_T95 l0 x3_1).f4) ((rd_T95 l0 x3_1).f5) true _ ?side1 A4.out).mono ?_); (case side1 => exact ⟨hx773_0, hx773_1, hx773_2, hx773_3, hx773_4, hx773_5⟩); rintro e w' ⟨rfl, ⟨nd, rfl⟩⟩; (try first | exact ⟨rfl, _, World.drewN_drewN _ _ _⟩ | exact ⟨rfl, _, Eq.trans (World.drewN_drewN _ _ _) (congrArg (World.drewN _) (Nat.add_assoc _ _ _))⟩))); try go_wp2_with (first | (go_at_call 104; (with_reducible refine (spec_l08One.calls k1 (ad773.add ((x3_1 : Int).toNat * 6)) ((rd_T95 l0 x3_1).f0) ((rd_T95 l0 x3_1).f1) ((rd_T95 l0 x3_1).f2) ((rd_T95 l0 x3_1).f3) ((rd_T95 l0 x3_1).f4) ((rd_T95 l0 x3_1).f5) true _ ?side1 A4.out).mono ?_); (case side1 => exact ⟨hx773_0, hx773_1, hx773_2, hx773_3, hx773_4, hx773_5⟩); rintro e w' ⟨rfl, ⟨nd, rfl⟩⟩; (try first | exact ⟨rfl, _, World.drewN_drewN _ _ _⟩ | exact ⟨rfl, _, Eq.trans (World.drewN_drewN _ _ _) (congrArg (World.drewN _) (Nat.add_assoc _ _ _))⟩))))
              go_roundg k1
              case measure => have := HK1.out; omega
              case rel => exact ⟨(wrap64 (x3_1 + 1)), (by first | rfl | (simp; done) | (simp [*]; done)), H', ⟨by have := HK1.out; omega⟩, by repeat (first | exact Drawn0.refl _ | apply Drawn0.step)⟩
          · replace c5 := Bool.eq_false_iff.mpr c5
            subst c5
            have H1 : (some false) = some r := by rw [if_neg (show ¬ (false = true) by decide)] at H; exact H
            clear H
            have H := H1
            clear H1
            obtain rfl := Option.some.inj H
            have p773 : 0 ≤ (x3_1 : Int) := of_decide_eq_true (by first | (with_reducible assumption) | assumption)
            have q773 : x3_1 < (l0.length : Int) := of_decide_eq_true (by first | (with_reducible assumption) | assumption)
            obtain ⟨ad773, e773, hx773_0, hx773_1, hx773_2, hx773_3, hx773_4, hx773_5⟩ := at_T95 HR0.out x3_1 p773 q773
            cases e773
            replace p773 := eq_true p773
            replace q773 := eq_true q773
            go_wp2_with (first | (go_at_call 104; (with_reducible refine (spec_l08One.calls k1 (ad773.add ((x3_1 : Int).toNat * 6)) ((rd_T95 l0 x3_1).f0) ((rd_T95 l0 x3_1).f1) ((rd_T95 l0 x3_1).f2) ((rd_T95 l0 x3_1).f3) ((rd_T95 l0 x3_1).f4) ((rd_T95 l0 x3_1).f5) false _ ?side1 A4.out).mono ?_); (case side1 => exact ⟨hx773_0, hx773_1, hx773_2, hx773_3, hx773_4, hx773_5⟩); rintro e w' ⟨rfl, ⟨nd, rfl⟩⟩; (try first | exact ⟨rfl, _, World.drewN_drewN _ _ _⟩ | exact ⟨rfl, _, Eq.trans (World.drewN_drewN _ _ _) (congrArg (World.drewN _) (Nat.add_assoc _ _ _))⟩)))
            repeat (go_quiet (first | (go_at_call 104; (with_reducible refine (spec_l08One.calls k1 (ad773.add ((x3_1 : Int).toNat * 6)) ((rd_T95 l0 x3_1).f0) ((rd_T95 l0 x3_1).f1) ((rd_T95 l0 x3_1).f2) ((rd_T95 l0 x3_1).f3) ((rd_T95 l0 x3_1).f4) ((rd_T95 l0 x3_1).f5) false _ ?side1 A4.out).mono ?_); (case side1 => exact ⟨hx773_0, hx773_1, hx773_2, hx773_3, hx773_4, hx773_5⟩); rintro e w' ⟨rfl, ⟨nd, rfl⟩⟩; (try first | exact ⟨rfl, _, World.drewN_drewN _ _ _⟩ | exact ⟨rfl, _, Eq.trans (World.drewN_drewN _ _ _) (congrArg (World.drewN _) (Nat.add_assoc _ _ _))⟩))); try go_wp2_with (first | (go_at_call 104; (with_reducible refine (spec_l08One.calls k1 (ad773.add ((x3_1 : Int).toNat * 6)) ((rd_T95 l0 x3_1).f0) ((rd_T95 l0 x3_1).f1) ((rd_T95 l0 x3_1).f2) ((rd_T95 l0 x3_1).f3) ((rd_T95 l0 x3_1).f4) ((rd_T95 l0 x3_1).f5) false _ ?side1 A4.out).mono ?_); (case side1 => exact ⟨hx773_0, hx773_1, hx773_2, hx773_3, hx773_4, hx773_5⟩); rintro e w' ⟨rfl, ⟨nd, rfl⟩⟩; (try first | exact ⟨rfl, _, World.drewN_drewN _ _ _⟩ | exact ⟨rfl, _, Eq.trans (World.drewN_drewN _ _ _) (congrArg (World.drewN _) (Nat.add_assoc _ _ _))⟩))))
            go_ret
            exact ⟨by first | rfl | (simp; done) | (simp [*]; done), by repeat (first | exact Drawn0.refl _ | apply Drawn0.step)⟩
        · rw [if_neg c3] at H
          exact absurd H (by simp)
      · rw [if_neg c2] at H
        have c2b0 : decide (x3_1 < (l0.length : Int)) = false := decide_eq_false c2
        clear c2
        obtain rfl := Option.some.inj H
        go_wp2
        repeat (go_quiet (fail); try go_wp2)
        go_ret
        exact ⟨by first | rfl | (simp; done) | (simp [*]; done), by repeat (first | exact Drawn0.refl _ | apply Drawn0.step)⟩

end Go.Proofs.Ythpcepojkhjlfaa.P
end

section
namespace Go.Proofs.Ythpcepojkhjlfaa.P
open Go.RowKit Go.Proofs.YthpcepojkhjlfaaW.PrintWords Go.Proofs.YthpcepojkhjlfaaW.PrintLast Go.Proofs.YthpcepojkhjlfaaW.PrintMore
attribute [local go_sem] max2_int min2_int max_two min_two max_three min_three max_four min_four   -- for this text's walks alone
set_option linter.unusedVariables false
set_option linter.unusedSimpArgs false
/-! ### spec_l08Season: function 84 -/
def spec_l08Season.f (a0 : Int) : Option (Bool) := (spec_l00In.f a0 0 5).bind fun t777 => (some t777)
set_option maxHeartbeats 8000000 in
set_option maxRecDepth 100000 in
theorem spec_l08Season.calls (a0 : Int) (r : Bool) (w : World) (h : spec_l08Season.f a0 = some r) :
    Calls Try.prog 84 #[.int .i64 a0] w fun e w' => e = .returned (.bool r) ∧ Drawn0 w w' := by
  have H : ((spec_l00In.f a0 0 5).bind fun t777 => (some t777)) = some r := h
  clear h
  replace H := Option.bind_eq_some_iff.mp H
  obtain ⟨t777, A20, H⟩ := H
  replace H : (some t777) = some r := H
  have A2 := Aside0.mk A20
  clear A20
  obtain rfl := Option.some.inj H
  go_enter Try.func84, Try.ntmps84
  go_wp2_with (first | ((with_reducible refine gate_callee (f := 73) rfl ?_); refine goesL_ (some 4) rfl rfl Try.func73 (by kernel_rfl) rfl #[.int .i64 a0, .int .i64 0, .int .i64 5] rfl (by (try simp only [List.map_toArray, List.map_cons, List.map_nil]); first | done | rfl | (simp only [List.length_drop, List.length_take]; rfl)) ?_; (with_reducible refine (spec_l00In.calls a0 0 5 t777 _ A2.out).mono ?_); rintro e w' ⟨rfl, ⟨nd, rfl⟩⟩; refine ⟨_, rfl, ?_⟩))
  go_ret
  exact ⟨by first | rfl | (simp; done) | (simp [*]; done), by repeat (first | exact Drawn0.refl _ | apply Drawn0.step)⟩
/-! ### spec_FittingAt: function 49 -/
mutual
def spec_FittingAt.j0 : Nat → List (S95) → Int → Int → Bool → Option (List Int × Int)
  | 0, _, _, _, _ => none
  | k + 1, x0, x1, x2, x20 => if x20 = true then (some (([] : List Int), 2)) else (spec_FittingAt.l0 k x0 x1 x2 (([] : List Int)) 0)
def spec_FittingAt.l0 : Nat → List (S95) → Int → Int → List Int → Int → Option (List Int × Int)
  | 0, _, _, _, _, _ => none
  | k + 1, x0, x1, x2, x8, x9 => if x9 < (x0.length : Int) then (if 0 ≤ x9 then ((spec_l08Fits.f ((rd_T95 x0 x9).f0) ((rd_T95 x0 x9).f1) ((rd_T95 x0 x9).f2) ((rd_T95 x0 x9).f3) ((rd_T95 x0 x9).f4) ((rd_T95 x0 x9).f5) x1 x2).bind fun t786 => (if t786 = true then (if x8.length < 17592186044416 then (spec_FittingAt.l0 k x0 x1 x2 (x8 ++ [x9]) (wrap64 (x9 + 1))) else (none)) else (spec_FittingAt.l0 k x0 x1 x2 x8 (wrap64 (x9 + 1))))) else (none)) else (some (x8, 0))
end
def spec_FittingAt.f (k : Nat) (l0 : List (S95)) (a1 : Int) (a2 : Int) : Option (List Int × Int) := (spec_l08Ok.f k l0).bind fun t779 => (if t779 = true then ((spec_l08Minute.f a1).bind fun t780 => (if t780 = true then ((spec_l08Season.f a2).bind fun t781 => (spec_FittingAt.j0 k l0 a1 a2 (!t781))) else (spec_FittingAt.j0 k l0 a1 a2 true))) else (some (([] : List Int), 1)))
theorem spec_FittingAt.mono_l : ∀ k, (∀ y0 y1 y2 y3, LeO (spec_FittingAt.j0 k y0 y1 y2 y3) (spec_FittingAt.j0 (k + 1) y0 y1 y2 y3)) ∧ (∀ y0 y1 y2 y3 y4, LeO (spec_FittingAt.l0 k y0 y1 y2 y3 y4) (spec_FittingAt.l0 (k + 1) y0 y1 y2 y3 y4))
  | 0 => ⟨fun _ _ _ _ r h => by simp [spec_FittingAt.j0] at h, fun _ _ _ _ _ r h => by simp [spec_FittingAt.l0] at h⟩
  | k + 1 => by
    obtain ⟨ih0, ih1⟩ := spec_FittingAt.mono_l k
    refine ⟨?_, ?_⟩
    · intro y0 y1 y2 y3
      unfold spec_FittingAt.j0
      repeat' first
      | (with_reducible exact ih0 _ _ _ _)
      | (with_reducible exact ih1 _ _ _ _ _)
      | (with_reducible exact spec_l08Ok.mono _ _)
      | (with_reducible exact LeO.refl _)
      | (with_reducible exact LeO.none _)
      | (with_reducible refine LeO.ite ?_ ?_)
      | (with_reducible refine LeO.bind ?_ (fun _ => ?_))
      | exact ih0 _ _ _ _
      | exact ih1 _ _ _ _ _
      | exact spec_l08Ok.mono _ _
      | exact LeO.none _
      | refine LeO.ite ?_ ?_
      | refine LeO.bind ?_ (fun _ => ?_)
    · intro y0 y1 y2 y3 y4
      unfold spec_FittingAt.l0
      repeat' first
      | (with_reducible exact ih0 _ _ _ _)
      | (with_reducible exact ih1 _ _ _ _ _)
      | (with_reducible exact spec_l08Ok.mono _ _)
      | (with_reducible exact LeO.refl _)
      | (with_reducible exact LeO.none _)
      | (with_reducible refine LeO.ite ?_ ?_)
      | (with_reducible refine LeO.bind ?_ (fun _ => ?_))
      | exact ih0 _ _ _ _
      | exact ih1 _ _ _ _ _
      | exact spec_l08Ok.mono _ _
      | exact LeO.none _
      | refine LeO.ite ?_ ?_
      | refine LeO.bind ?_ (fun _ => ?_)
theorem spec_FittingAt.mono : ∀ a0 a1 a2 k, LeO (spec_FittingAt.f k a0 a1 a2) (spec_FittingAt.f (k + 1) a0 a1 a2) := by
  intro a0 a1 a2 k
  obtain ⟨ih0, ih1⟩ := spec_FittingAt.mono_l k
  unfold spec_FittingAt.f
  repeat' first
      | (with_reducible exact ih0 _ _ _ _)
      | (with_reducible exact ih1 _ _ _ _ _)
      | (with_reducible exact spec_l08Ok.mono _ _)
      | (with_reducible exact LeO.refl _)
      | (with_reducible exact LeO.none _)
      | (with_reducible refine LeO.ite ?_ ?_)
      | (with_reducible refine LeO.bind ?_ (fun _ => ?_))
      | exact ih0 _ _ _ _
      | exact ih1 _ _ _ _ _
      | exact spec_l08Ok.mono _ _
      | exact LeO.none _
      | refine LeO.ite ?_ ?_
      | refine LeO.bind ?_ (fun _ => ?_)
set_option maxHeartbeats 8000000 in
set_option maxRecDepth 100000 in
theorem spec_FittingAt.calls (k : Nat) (A0 : Option Addr) (c0 : Nat) (l0 : List (S95)) (a1 : Int) (a2 : Int) (r1 : List Int) (r2 : Int) (w : World) (hr0 : Kd.C k95 w A0 l0.length l0) (hc0 : l0.length ≤ c0) (h : spec_FittingAt.f k l0 a1 a2 = some (r1, r2)) :
    Calls Try.prog 49 #[.slice A0 l0.length c0, .int .i64 a1, .int .i64 a2] w fun e w' => ∃ v0_ : Value, e = .returned (.tuple #[v0_, .int .i64 r2]) ∧ Kd.R (Kd.int .i64) 2 w' w.heap.size (fun _ => True) v0_ r1 ∧ Below w.heap.size w w' := by
  have HR0 := Aside0.mk hr0
  have HC0 := Aside0.mk hc0
  clear hr0 hc0
  have HB := Aside0.mk (Below.refl w.heap.size w)
  have H : ((spec_l08Ok.f k l0).bind fun t779 => (if t779 = true then ((spec_l08Minute.f a1).bind fun t780 => (if t780 = true then ((spec_l08Season.f a2).bind fun t781 => (spec_FittingAt.j0 k l0 a1 a2 (!t781))) else (spec_FittingAt.j0 k l0 a1 a2 true))) else (some (([] : List Int), 1)))) = some (r1, r2) := h
  clear h
  replace H := Option.bind_eq_some_iff.mp H
  obtain ⟨t779, A40, H⟩ := H
  replace H : (if t779 = true then ((spec_l08Minute.f a1).bind fun t780 => (if t780 = true then ((spec_l08Season.f a2).bind fun t781 => (spec_FittingAt.j0 k l0 a1 a2 (!t781))) else (spec_FittingAt.j0 k l0 a1 a2 true))) else (some (([] : List Int), 1))) = some (r1, r2) := H
  have A4 := Aside0.mk A40
  clear A40
  by_cases c5 : t779 = true
  · subst c5
    have H1 : ((spec_l08Minute.f a1).bind fun t780 => (if t780 = true then ((spec_l08Season.f a2).bind fun t781 => (spec_FittingAt.j0 k l0 a1 a2 (!t781))) else (spec_FittingAt.j0 k l0 a1 a2 true))) = some (r1, r2) := by rw [if_pos rfl] at H; exact H
    clear H
    have H := H1
    clear H1
    have HC6 := Aside0.mk H
    clear H
    go_enter Try.func49, Try.ntmps49
    go_upto_region 3 with (first | ((with_reducible refine gate_callee (f := 82) rfl ?_); refine goesL_ (some 11) rfl rfl Try.func82 (by kernel_rfl) rfl #[.slice A0 l0.length c0] rfl (by (try simp only [List.map_toArray, List.map_cons, List.map_nil]); first | done | rfl | (simp only [List.length_drop, List.length_take]; rfl)) ?_; (with_reducible refine (spec_l08Ok.calls k _ _ l0 true _ ?side1 ?side2 A4.out).mono ?_); (case side1 => repeat (first | exact HR0.out | (with_reducible refine Kd.C_alloc ?_ _) | (with_reducible refine Kd.C_drewN ?_ _) | (with_reducible refine Kd.C_drew ?_))); (case side2 => exact HC0.out); rintro e w' ⟨rfl, ⟨nd, rfl⟩⟩; refine ⟨_, rfl, ?_⟩))
    (try simp only [Act.put, List.setIfInBounds_toArray, List.set_cons_zero, List.set_cons_succ])
    go_cut [20] (fun v20 wc => ∃ (kq : Nat) (x20_5 : Bool), v20 = .bool x20_5 ∧ Aside0 (spec_FittingAt.j0 kq l0 a1 a2 x20_5 = some (r1, r2)) ∧ Aside0 (kq ≤ k) ∧ Aside0 (Below w.heap.size w wc))
    case first =>
      have H := HC6.out
      clear HC6
      replace H := Option.bind_eq_some_iff.mp H
      obtain ⟨t780, A70, H⟩ := H
      replace H : (if t780 = true then ((spec_l08Season.f a2).bind fun t781 => (spec_FittingAt.j0 k l0 a1 a2 (!t781))) else (spec_FittingAt.j0 k l0 a1 a2 true)) = some (r1, r2) := H
      have A7 := Aside0.mk A70
      clear A70
      by_cases c8 : t780 = true
      · subst c8
        have H1 : ((spec_l08Season.f a2).bind fun t781 => (spec_FittingAt.j0 k l0 a1 a2 (!t781))) = some (r1, r2) := by rw [if_pos rfl] at H; exact H
        clear H
        have H := H1
        clear H1
        replace H := Option.bind_eq_some_iff.mp H
        obtain ⟨t781, A90, H⟩ := H
        replace H : (spec_FittingAt.j0 k l0 a1 a2 (!t781)) = some (r1, r2) := H
        have A9 := Aside0.mk A90
        clear A90
        have H' := Aside0.mk H
        clear H
        go_wp2_with (first | ((with_reducible refine gate_callee (f := 83) rfl ?_); refine goesL_ (some 14) rfl rfl Try.func83 (by kernel_rfl) rfl #[.int .i64 a1] rfl (by (try simp only [List.map_toArray, List.map_cons, List.map_nil]); first | done | rfl | (simp only [List.length_drop, List.length_take]; rfl)) ?_; (with_reducible refine (spec_l08Minute.calls a1 true _ A7.out).mono ?_); rintro e w' ⟨rfl, ⟨nd, rfl⟩⟩; refine ⟨_, rfl, ?_⟩) | (go_at_call 84; (with_reducible refine (spec_l08Season.calls a2 t781 _ A9.out).mono ?_); rintro e w' ⟨rfl, ⟨nd, rfl⟩⟩))
        go_meet
        case rel => exact ⟨_, (!t781), (by first | rfl | (simp; done) | (simp [*]; done)), H', ⟨by first | omega | exact Nat.le_refl _⟩, ⟨by repeat (first | (with_reducible first | exact HB.out | apply below_alloc | apply pw_below_drewN | apply below_drew1) | exact HB.out)⟩⟩
      · replace c8 := Bool.eq_false_iff.mpr c8
        subst c8
        have H1 : (spec_FittingAt.j0 k l0 a1 a2 true) = some (r1, r2) := by rw [if_neg (show ¬ (false = true) by decide)] at H; exact H
        clear H
        have H := H1
        clear H1
        have H' := Aside0.mk H
        clear H
        go_wp2_with (first | ((with_reducible refine gate_callee (f := 83) rfl ?_); refine goesL_ (some 14) rfl rfl Try.func83 (by kernel_rfl) rfl #[.int .i64 a1] rfl (by (try simp only [List.map_toArray, List.map_cons, List.map_nil]); first | done | rfl | (simp only [List.length_drop, List.length_take]; rfl)) ?_; (with_reducible refine (spec_l08Minute.calls a1 false _ A7.out).mono ?_); rintro e w' ⟨rfl, ⟨nd, rfl⟩⟩; refine ⟨_, rfl, ?_⟩))
        go_meet
        case rel => exact ⟨_, (true), (by first | rfl | (simp; done) | (simp [*]; done)), H', ⟨by first | omega | exact Nat.le_refl _⟩, ⟨by repeat (first | (with_reducible first | exact HB.out | apply below_alloc | apply pw_below_drewN | apply below_drew1) | exact HB.out)⟩⟩
    case rest =>
      clear HC6
      try clear p2
      try clear c4
      try clear c5
      try clear c8
      obtain ⟨kq, x20_5, rfl, HA, HJ5, HB⟩ := hcut
      cases kq with
      | zero => exact absurd HA.out (by simp [spec_FittingAt.j0])
      | succ kj5 =>
        have H := HA.out
        clear HA
        simp only [spec_FittingAt.j0] at H
        by_cases c10 : x20_5 = true
        · subst c10
          have H1 : (some (([] : List Int), 2)) = some (r1, r2) := by rw [if_pos rfl] at H; exact H
          clear H
          have H := H1
          clear H1
          simp only [Option.some.injEq, Prod.mk.injEq] at H
          obtain ⟨rfl, rfl⟩ := H
          go_wp2
          go_ret2
          exact ⟨_, by first | rfl | (simp [errW_none, errW_some] <;> rfl) | (simp [*, errW_none, errW_some] <;> rfl), by first | exact Kd.R_nil _ _ _ _ _ | exact Kd.N_nil _ _ _ _ _ | exact Kd.V_nil _ _ _ _ _ | exact Kd.Q_nil _ _ _ _ _ | exact Kd.S_nil _ _ _ _ _, by repeat (first | (with_reducible first | exact HB.out | apply below_alloc | apply pw_below_drewN | apply below_drew1) | exact HB.out)⟩
        · replace c10 := Bool.eq_false_iff.mpr c10
          subst c10
          have H1 : (spec_FittingAt.l0 kj5 l0 a1 a2 (([] : List Int)) 0) = some (r1, r2) := by rw [if_neg (show ¬ (false = true) by decide)] at H; exact H
          clear H
          have H := H1
          clear H1
          obtain ⟨y782, hy782⟩ : ∃ y_ : List Int, y_ = (([] : List Int)) := ⟨_, rfl⟩
          replace H : (spec_FittingAt.l0 kj5 l0 a1 a2 y782 0) = some (r1, r2) := by first | (rw [hy782]; with_reducible exact H) | (have H2_ := (Option.bind_some _ _).symm.trans H; rw [hy782]; with_reducible exact H2_) | (have H2_ := (Option.bind_some _ _).symm.trans H; with_reducible exact H2_) | with_reducible exact H | (rw [hy782]; exact H) | exact H
          have Ny782 := Aside0.mk hy782
          clear hy782
          have H' := Aside0.mk H
          clear H
          go_wp2_with (first | ((with_reducible refine gate_dst (N := 21) rfl ?_); refine Kd.R_lit (Kd.int .i64) _ 2 ?hg (N := 21) ?hd (xs := ([] : List Int)) (inner := []) (ok := fun _ => True) (okp := fun _ => True) ?hr ?hp (fun _ hk => hk) trivial (Below.refl _ _) (Nat.le_refl _) (by simp) ?_; (case hd => rfl); (case hg => rfl); (case hr => first | (go_simp; done) | (go_simp; rfl)); (case hp => exact (Reps.none _ _)); intro v783 w11 ho12 hb hg_ hnew_; clear hg_ hnew_; (first | rw [← Ny782.out] at ho12 | (simp only [Int.reduceToNat] at ho12; rw [← Ny782.out] at ho12)); have n0_ := Aside0.mk (Kd.R_lower ho12 (below_size (by repeat (first | (with_reducible first | exact HB.out | apply below_alloc | apply pw_below_drewN | apply below_drew1) | exact HB.out)))); have n1_ := Aside0.mk (below_step (by repeat (first | (with_reducible first | exact HB.out | apply below_alloc | apply pw_below_drewN | apply below_drew1) | exact HB.out)) hb); clear HB; have HO784 := n0_; have HB := n1_; clear n0_ n1_; clear hb ho12))
          go_loopg [8, 9] kj5 (fun kq v8 v9 w' => ∃ (x8_2 : List Int) (x9_2 : Int), v9 = .int .i64 x9_2 ∧ Aside0 (spec_FittingAt.l0 kq l0 a1 a2 x8_2 x9_2 = some (r1, r2)) ∧ Aside0 (kq ≤ kj5) ∧ Aside0 (Kd.R (Kd.int .i64) 2 w' w.heap.size (fun _ => True) v8 x8_2) ∧ Aside0 (Below w.heap.size w w'))
          case atStart => exact ⟨(y782), (0), (by first | rfl | (simp; done) | (simp [*]; done)), H', ⟨Nat.le_refl _⟩, ⟨by (with_reducible repeat (first | apply Kd.R_alloc | apply Kd.R_drewN | apply Kd.R_drew)); exact HO784.out⟩, ⟨by repeat (first | (with_reducible first | exact HB.out | apply below_alloc | apply pw_below_drewN | apply below_drew1) | exact HB.out)⟩⟩
          case round =>
            clear H'
            try clear c1
            try clear p2
            try clear c4
            try clear c5
            try clear c8
            try clear c10
            try clear p2
            obtain ⟨x8_2, x9_2, rfl, HA, HK2, HO_8, HB⟩ := hrel
            cases gk with
            | zero => exact absurd HA.out (by simp [spec_FittingAt.l0])
            | succ k2 =>
              have H := HA.out
              clear HA
              simp only [spec_FittingAt.l0] at H
              by_cases c13 : x9_2 < (l0.length : Int)
              · rw [if_pos c13] at H
                have c13b0 : decide (x9_2 < (l0.length : Int)) = true := decide_eq_true c13
                clear c13
                by_cases c14 : 0 ≤ x9_2
                · rw [if_pos c14] at H
                  have c14b0 : decide (0 ≤ x9_2) = true := decide_eq_true c14
                  clear c14
                  replace H := Option.bind_eq_some_iff.mp H
                  obtain ⟨t786, A150, H⟩ := H
                  replace H : (if t786 = true then (if x8_2.length < 17592186044416 then (spec_FittingAt.l0 k2 l0 a1 a2 (x8_2 ++ [x9_2]) (wrap64 (x9_2 + 1))) else (none)) else (spec_FittingAt.l0 k2 l0 a1 a2 x8_2 (wrap64 (x9_2 + 1)))) = some (r1, r2) := H
                  have A15 := Aside0.mk A150
                  clear A150
                  by_cases c16 : t786 = true
                  · subst c16
                    have H1 : (if x8_2.length < 17592186044416 then (spec_FittingAt.l0 k2 l0 a1 a2 (x8_2 ++ [x9_2]) (wrap64 (x9_2 + 1))) else (none)) = some (r1, r2) := by rw [if_pos rfl] at H; exact H
                    clear H
                    have H := H1
                    clear H1
                    by_cases c17 : x8_2.length < 17592186044416
                    · rw [if_pos c17] at H
                      have LMc17 := Aside0.mk c17
                      clear c17
                      obtain ⟨y787, hy787⟩ : ∃ y_ : List Int, y_ = (x8_2 ++ [x9_2]) := ⟨_, rfl⟩
                      replace H : (spec_FittingAt.l0 k2 l0 a1 a2 y787 (wrap64 (x9_2 + 1))) = some (r1, r2) := by first | (rw [hy787]; with_reducible exact H) | (have H2_ := (Option.bind_some _ _).symm.trans H; rw [hy787]; with_reducible exact H2_) | (have H2_ := (Option.bind_some _ _).symm.trans H; with_reducible exact H2_) | with_reducible exact H | (rw [hy787]; exact H) | exact H
                      have Ny787 := Aside0.mk hy787
                      clear hy787
                      have H' := Aside0.mk H
                      clear H
                      have p785 : 0 ≤ (x9_2 : Int) := of_decide_eq_true (by first | (with_reducible assumption) | assumption)
                      have q785 : x9_2 < (l0.length : Int) := of_decide_eq_true (by first | (with_reducible assumption) | assumption)
                      obtain ⟨ad785, e785, hx785_0, hx785_1, hx785_2, hx785_3, hx785_4, hx785_5⟩ := at_T95 HR0.out x9_2 p785 q785
                      cases e785
                      replace hx785_0 := (HB.out.cell (World.block_lt_of_cell? w _ hx785_0)).trans hx785_0
                      replace hx785_1 := (HB.out.cell (World.block_lt_of_cell? w _ hx785_1)).trans hx785_1
                      replace hx785_2 := (HB.out.cell (World.block_lt_of_cell? w _ hx785_2)).trans hx785_2
                      replace hx785_3 := (HB.out.cell (World.block_lt_of_cell? w _ hx785_3)).trans hx785_3
                      replace hx785_4 := (HB.out.cell (World.block_lt_of_cell? w _ hx785_4)).trans hx785_4
                      replace hx785_5 := (HB.out.cell (World.block_lt_of_cell? w _ hx785_5)).trans hx785_5
                      replace p785 := eq_true p785
                      replace q785 := eq_true q785
                      go_wp2_with (first | ((with_reducible refine gate_callee (f := 85) rfl ?_); refine goesL_ (some 33) rfl rfl Try.func85 (by kernel_rfl) rfl #[.pointer (some (ad785.add ((x9_2 : Int).toNat * 6))), .int .i64 a1, .int .i64 a2] rfl (by (try simp only [List.map_toArray, List.map_cons, List.map_nil]); first | done | rfl | (simp only [List.length_drop, List.length_take]; rfl)) ?_; (with_reducible refine (spec_l08Fits.calls (ad785.add ((x9_2 : Int).toNat * 6)) ((rd_T95 l0 x9_2).f0) ((rd_T95 l0 x9_2).f1) ((rd_T95 l0 x9_2).f2) ((rd_T95 l0 x9_2).f3) ((rd_T95 l0 x9_2).f4) ((rd_T95 l0 x9_2).f5) a1 a2 true _ ?side1 A15.out).mono ?_); (case side1 => exact ⟨hx785_0, hx785_1, hx785_2, hx785_3, hx785_4, hx785_5⟩); rintro e w' ⟨rfl, ⟨nd, rfl⟩⟩; refine ⟨_, rfl, ?_⟩) | ((with_reducible refine gate_builtin (b := .append) (xs := #[.tmp 34, .tmp 36]) rfl ?_); at_builtin; refine Kd.R_append (Kd.int .i64) (w0 := w) w.heap.size rfl (.tmp 34) (.tmp 36) 22 2 (.int .i64 0) 8 rfl Try.underlying22 info2 rfl (by decide) (by omega) u8 x8_2 x9_2 [.int .i64 x9_2] (fun _ => True) (fun _ => False) rfl rfl ?aP (fun _ hk => hk.elim) ?aF ?aO ?aB ?aS ?aL ?_; (case aP => exact rfl); (case aB => exact (by repeat (first | (with_reducible first | exact HB.out | apply below_alloc | apply pw_below_drewN | apply below_drew1) | exact HB.out))); (case aF => exact (fun _ _ => trivial)); (case aO => exact (by (with_reducible repeat (first | apply Kd.R_alloc | apply Kd.R_drewN | apply Kd.R_drew)); exact HO_8.out)); (case aS => exact (below_size (by repeat (first | (with_reducible first | exact HB.out | apply below_alloc | apply pw_below_drewN | apply below_drew1) | exact HB.out)))); (case aL => have := LMc17.out; omega); intro v788 w18 ho hb hg hat; rw [← Ny787.out] at ho; have n0_ := Aside0.mk (hb); have n1_ := Aside0.mk (ho); clear HB; clear HO_8; have HB := n0_; have HO789 := n1_; clear n0_ n1_; clear ho hb hg hat))
                      go_roundg k2
                      case measure => have := HJ5.out; have := HK2.out; omega
                      case rel => exact ⟨(y787), (wrap64 (x9_2 + 1)), (by first | rfl | (simp; done) | (simp [*]; done)), H', ⟨by have := HJ5.out; have := HK2.out; omega⟩, ⟨by (with_reducible repeat (first | apply Kd.R_alloc | apply Kd.R_drewN | apply Kd.R_drew)); exact HO789.out⟩, ⟨by repeat (first | (with_reducible first | exact HB.out | apply below_alloc | apply pw_below_drewN | apply below_drew1) | exact HB.out)⟩⟩
                    · rw [if_neg c17] at H
                      exact absurd H (by simp)
                  · replace c16 := Bool.eq_false_iff.mpr c16
                    subst c16
                    have H1 : (spec_FittingAt.l0 k2 l0 a1 a2 x8_2 (wrap64 (x9_2 + 1))) = some (r1, r2) := by rw [if_neg (show ¬ (false = true) by decide)] at H; exact H
                    clear H
                    have H := H1
                    clear H1
                    have H' := Aside0.mk H
                    clear H
                    have p785 : 0 ≤ (x9_2 : Int) := of_decide_eq_true (by first | (with_reducible assumption) | assumption)
                    have q785 : x9_2 < (l0.length : Int) := of_decide_eq_true (by first | (with_reducible assumption) | assumption)
                    obtain ⟨ad785, e785, hx785_0, hx785_1, hx785_2, hx785_3, hx785_4, hx785_5⟩ := at_T95 HR0.out x9_2 p785 q785
                    cases e785
                    replace hx785_0 := (HB.out.cell (World.block_lt_of_cell? w _ hx785_0)).trans hx785_0
                    replace hx785_1 := (HB.out.cell (World.block_lt_of_cell? w _ hx785_1)).trans hx785_1
                    replace hx785_2 := (HB.out.cell (World.block_lt_of_cell? w _ hx785_2)).trans hx785_2
                    replace hx785_3 := (HB.out.cell (World.block_lt_of_cell? w _ hx785_3)).trans hx785_3
                    replace hx785_4 := (HB.out.cell (World.block_lt_of_cell? w _ hx785_4)).trans hx785_4
                    replace hx785_5 := (HB.out.cell (World.block_lt_of_cell? w _ hx785_5)).trans hx785_5
                    replace p785 := eq_true p785
                    replace q785 := eq_true q785
                    go_wp2_with (first | ((with_reducible refine gate_callee (f := 85) rfl ?_); refine goesL_ (some 33) rfl rfl Try.func85 (by kernel_rfl) rfl #[.pointer (some (ad785.add ((x9_2 : Int).toNat * 6))), .int .i64 a1, .int .i64 a2] rfl (by (try simp only [List.map_toArray, List.map_cons, List.map_nil]); first | done | rfl | (simp only [List.length_drop, List.length_take]; rfl)) ?_; (with_reducible refine (spec_l08Fits.calls (ad785.add ((x9_2 : Int).toNat * 6)) ((rd_T95 l0 x9_2).f0) ((rd_T95 l0 x9_2).f1) ((rd_T95 l0 x9_2).f2) ((rd_T95 l0 x9_2).f3) ((rd_T95 l0 x9_2).f4) ((rd_T95 l0 x9_2).f5) a1 a2 false _ ?side1 A15.out).mono ?_); (case side1 => exact ⟨hx785_0, hx785_1, hx785_2, hx785_3, hx785_4, hx785_5⟩); rintro e w' ⟨rfl, ⟨nd, rfl⟩⟩; refine ⟨_, rfl, ?_⟩))
                    go_roundg k2
                    case measure => have := HJ5.out; have := HK2.out; omega
                    case rel => exact ⟨(x8_2), (wrap64 (x9_2 + 1)), (by first | rfl | (simp; done) | (simp [*]; done)), H', ⟨by have := HJ5.out; have := HK2.out; omega⟩, ⟨by (with_reducible repeat (first | apply Kd.R_alloc | apply Kd.R_drewN | apply Kd.R_drew)); exact HO_8.out⟩, ⟨by repeat (first | (with_reducible first | exact HB.out | apply below_alloc | apply pw_below_drewN | apply below_drew1) | exact HB.out)⟩⟩
                · rw [if_neg c14] at H
                  exact absurd H (by simp)
              · rw [if_neg c13] at H
                have c13b0 : decide (x9_2 < (l0.length : Int)) = false := decide_eq_false c13
                clear c13
                simp only [Option.some.injEq, Prod.mk.injEq] at H
                obtain ⟨rfl, rfl⟩ := H
                go_wp2
                go_ret2
                exact ⟨_, by first | rfl | (simp [errW_none, errW_some] <;> rfl) | (simp [*, errW_none, errW_some] <;> rfl), by (with_reducible repeat (first | apply Kd.R_alloc | apply Kd.R_drewN | apply Kd.R_drew)); exact HO_8.out, by repeat (first | (with_reducible first | exact HB.out | apply below_alloc | apply pw_below_drewN | apply below_drew1) | exact HB.out)⟩
  · replace c5 := Bool.eq_false_iff.mpr c5
    subst c5
    have H1 : (some (([] : List Int), 1)) = some (r1, r2) := by rw [if_neg (show ¬ (false = true) by decide)] at H; exact H
    clear H
    have H := H1
    clear H1
    simp only [Option.some.injEq, Prod.mk.injEq] at H
    obtain ⟨rfl, rfl⟩ := H
    go_enter Try.func49, Try.ntmps49
    go_wp2_with (first | ((with_reducible refine gate_callee (f := 82) rfl ?_); refine goesL_ (some 11) rfl rfl Try.func82 (by kernel_rfl) rfl #[.slice A0 l0.length c0] rfl (by (try simp only [List.map_toArray, List.map_cons, List.map_nil]); first | done | rfl | (simp only [List.length_drop, List.length_take]; rfl)) ?_; (with_reducible refine (spec_l08Ok.calls k _ _ l0 false _ ?side1 ?side2 A4.out).mono ?_); (case side1 => repeat (first | exact HR0.out | (with_reducible refine Kd.C_alloc ?_ _) | (with_reducible refine Kd.C_drewN ?_ _) | (with_reducible refine Kd.C_drew ?_))); (case side2 => exact HC0.out); rintro e w' ⟨rfl, ⟨nd, rfl⟩⟩; refine ⟨_, rfl, ?_⟩))
    go_ret2
    exact ⟨_, by first | rfl | (simp [errW_none, errW_some] <;> rfl) | (simp [*, errW_none, errW_some] <;> rfl), by first | exact Kd.R_nil _ _ _ _ _ | exact Kd.N_nil _ _ _ _ _ | exact Kd.V_nil _ _ _ _ _ | exact Kd.Q_nil _ _ _ _ _ | exact Kd.S_nil _ _ _ _ _, by repeat (first | (with_reducible first | exact HB.out | apply below_alloc | apply pw_below_drewN | apply below_drew1) | exact HB.out)⟩
end Go.Proofs.Ythpcepojkhjlfaa.P
end

section
/- How the arguments of this seat's laws read, as the kinds of the printed words: an argument that the row reads has the cells of its kind, and its numbers, texts and lengths are in bounds. No condition. -/
namespace Go.Proofs.Ythpcepojkhjlfaa.P
open Go.RowKit Go.ChangeShapes Go.WideShapes Go.Proofs.YthpcepojkhjlfaaW.PrintWords Go.Proofs.YthpcepojkhjlfaaW.PrintLast
set_option linter.unusedVariables false

section
variable {H : Type} {enc : TypeId × Value → H} {P : Program} {w : World} {held : Bool}

theorem list_choose {α : Type} (p : Nat → α → Prop) : ∀ n, (∀ i, i < n → ∃ y, p i y) → ∃ ys : List α, ys.length = n ∧ ∀ (i : Nat) (y : α), ys[i]? = some y → p i y := by
  intro n
  induction n with
  | zero => exact fun _ => ⟨[], rfl, fun i y h => by simp at h⟩
  | succ n ih =>
    intro h
    obtain ⟨ys, hl, hp⟩ := ih (fun i hi => h i (by omega))
    obtain ⟨z, hz⟩ := h n (by omega)
    refine ⟨ys ++ [z], by simp [hl], fun i y hy => ?_⟩
    rcases Nat.lt_or_ge i ys.length with hi | hi
    · rw [List.getElem?_append_left hi] at hy
      exact hp i y hy
    · rw [List.getElem?_append_right hi] at hy
      have h0 : i - ys.length = 0 := by
        rcases Nat.eq_zero_or_pos (i - ys.length) with h1 | h1
        · exact h1
        · rw [List.getElem?_eq_none (by simp; omega)] at hy
          cases hy
      rw [h0] at hy
      simp only [List.getElem?_cons_zero, Option.some.injEq] at hy
      subst hy
      have : i = n := by omega
      subst this
      exact hz

theorem len_cons {n : Nat} {cs : List Value} (h : cs.length = n + 1) : ∃ c t, cs = c :: t ∧ t.length = n := by
  cases cs with
  | nil => simp at h
  | cons c t => exact ⟨c, t, rfl, by simpa using h⟩

theorem opn_int {t : TypeId} {k : IntKind} (ht : P.underlying t = some (.int k)) {fuel : Nat} {cs : List Value} {x : DataW H × List MemPlace} (h : DataW.trod enc P w 0 (fun _ => true) held fuel t cs = some x) :
    ∃ y : Int, (Kd.int k).K w y cs ∧ (Lit.int k y).wf = true := by
  obtain ⟨n, hcs, _, hw⟩ := DataW.trod_int ht h
  exact ⟨n, hcs, hw⟩

theorem opn_bool {t : TypeId} (ht : P.underlying t = some .bool) {fuel : Nat} {cs : List Value} {x : DataW H × List MemPlace} (h : DataW.trod enc P w 0 (fun _ => true) held fuel t cs = some x) :
    ∃ y : Bool, Kd.bool.K w y cs ∧ True := by
  obtain ⟨b, hcs, _⟩ := DataW.trod_bool ht h
  exact ⟨b, hcs, trivial⟩

theorem opn_string {t : TypeId} (ht : P.underlying t = some .string) {fuel : Nat} {cs : List Value} {x : DataW H × List MemPlace} (h : DataW.trod enc P w 0 (fun _ => true) held fuel t cs = some x) :
    ∃ y : ByteArray, Kd.string.K w y cs ∧ y.size ≤ maxLen := by
  obtain ⟨s, hcs, _, hs⟩ := DataW.trod_string ht h
  exact ⟨s, hcs, hs⟩

theorem opn_slice {α : Type} (d : Kd α) (ok : α → Prop) {t e : TypeId} (ht : P.underlying t = some (.slice e)) (ce : P.cellsOf e = d.sz)
    (hE : ∀ {fuel : Nat} {cs : List Value} {x : DataW H × List MemPlace}, DataW.trod enc P w 0 (fun _ => true) held fuel e cs = some x → ∃ y : α, d.K w y cs ∧ ok y)
    {fuel : Nat} {cs : List Value} {x : DataW H × List MemPlace} (h : DataW.trod enc P w 0 (fun _ => true) held fuel t cs = some x) :
    ∃ ys : List α, (Kd.slice e d).K w ys cs ∧ ys.length ≤ maxLen ∧ ∀ y ∈ ys, ok y := by
  rcases Go.Deep.open_slice ht h with ⟨rfl, _⟩ | ⟨a, len, cap, m, n, D, Pl, rfl, hb, hl, hm, hmm, rfl, hx⟩
  · exact ⟨[], ⟨none, 0, rfl, Nat.le_refl _, rfl, by simp, fun h => absurd h (Nat.lt_irrefl 0)⟩, Nat.zero_le _, by simp⟩
  · simp only [if_true] at hmm
    subst hmm
    obtain ⟨ys, hyl, hy⟩ := list_choose (fun i (y : α) => (∃ cs', w.cells? 0 (a.add (i * P.cellsOf e)) (P.cellsOf e) = some cs' ∧ d.K w y cs') ∧ ok y) len (fun i hi => by
      obtain ⟨cs', h1, h2⟩ := hx i (by omega)
      obtain ⟨y, hk, ho⟩ := hE h2
      exact ⟨y, ⟨cs', h1, hk⟩, ho⟩)
    subst hyl
    refine ⟨ys, ⟨some a, m, rfl, hl, rfl, Nat.le_trans hl (by unfold maxLen at hm; exact hm), fun _ => ⟨a, rfl, fun j p hp => ?_⟩⟩, Nat.le_trans hl hm, fun y hmem => ?_⟩
    · obtain ⟨⟨cs', h1, hk⟩, _⟩ := hy j p hp
      obtain ⟨_, hlen, hcell⟩ := World.cells?_some h1
      rw [ce] at hlen hcell
      refine ⟨cs', hlen, hk, fun i u hu => ?_⟩
      have hi : i < d.sz := by
        rw [← hlen]
        exact (List.getElem?_eq_some_iff.1 hu).1
      have := hcell i hi
      rw [Go.Deep.add_add] at this
      rw [this, hu]
    · obtain ⟨i, hi⟩ := List.getElem?_of_mem hmem
      exact (hy i y hi).2
end
theorem opn_L22 {H : Type} {enc : TypeId × Value → H} {w : World} {held : Bool} {fuel : Nat} {cs : List Value} {x : DataW H × List MemPlace} (h : DataW.trod enc Try.prog w 0 (fun _ => true) held fuel 22 cs = some x) :
    ∃ y : List Int, (Kd.slice 2 (Kd.int .i64)).K w y cs ∧ y.length ≤ maxLen ∧ ∀ y0 ∈ y, (Lit.int .i64 y0).wf = true :=
  opn_slice (Kd.int .i64) (fun y0 => (Lit.int .i64 y0).wf = true) Try.underlying22 (show Try.prog.cellsOf 2 = _ by kernel_rfl) (fun h => (opn_int Try.underlying2) h) h
theorem opn_S24 {H : Type} {enc : TypeId × Value → H} {w : World} {held : Bool} {fuel : Nat} {cs : List Value} {x : DataW H × List MemPlace} (h : DataW.trod enc Try.prog w 0 (fun _ => true) held fuel 24 cs = some x) :
    ∃ y : S24, k24.K w y cs ∧ y.f0.size ≤ maxLen ∧ (y.f1.length ≤ maxLen ∧ ∀ y0 ∈ y.f1, (Lit.int .i64 y0).wf = true) ∧ (y.f2.length ≤ maxLen ∧ ∀ y0 ∈ y.f2, (Lit.int .i64 y0).wf = true) := by
  obtain ⟨xs, n, _, _, hl, hlen, hf⟩ := DataW.trod_struct Try.underlying24 h
  rw [show Try.prog.cellsOf 24 = 3 from by kernel_rfl] at hl
  obtain ⟨c0, t0, rfl, hl0⟩ := len_cons hl
  obtain ⟨c1, t1, rfl, hl1⟩ := len_cons hl0
  obtain ⟨c2, t2, rfl, hl2⟩ := len_cons hl1
  obtain rfl := List.eq_nil_of_length_eq_zero hl2
  have h0 := hf 0 _ rfl
  rw [List.getElem?_eq_getElem (show 0 < xs.length by rw [hlen]; decide)] at h0
  obtain ⟨y0, k0, w0⟩ := (opn_string Try.underlying9) (show DataW.trod enc Try.prog w 0 (fun _ => true) held n 9 [c0] = some _ from by simpa [show Try.prog.cellsOf 9 = 1 from by kernel_rfl] using h0)
  have h1 := hf 1 _ rfl
  rw [List.getElem?_eq_getElem (show 1 < xs.length by rw [hlen]; decide)] at h1
  obtain ⟨y1, k1, w1⟩ := opn_L22 (show DataW.trod enc Try.prog w 0 (fun _ => true) held n 22 [c1] = some _ from by simpa [show Try.prog.cellsOf 22 = 1 from by kernel_rfl] using h1)
  have h2 := hf 2 _ rfl
  rw [List.getElem?_eq_getElem (show 2 < xs.length by rw [hlen]; decide)] at h2
  obtain ⟨y2, k2, w2⟩ := opn_L22 (show DataW.trod enc Try.prog w 0 (fun _ => true) held n 22 [c2] = some _ from by simpa [show Try.prog.cellsOf 22 = 1 from by kernel_rfl] using h2)
  exact ⟨⟨y0, y1, y2⟩, ⟨[c0], [c1, c2], rfl, k0, ⟨[c1], [c2], rfl, k1, k2⟩⟩, w0, w1, w2⟩
theorem opn_L49 {H : Type} {enc : TypeId × Value → H} {w : World} {held : Bool} {fuel : Nat} {cs : List Value} {x : DataW H × List MemPlace} (h : DataW.trod enc Try.prog w 0 (fun _ => true) held fuel 49 cs = some x) :
    ∃ y : List (List Int), (Kd.slice 22 (Kd.slice 2 (Kd.int .i64))).K w y cs ∧ y.length ≤ maxLen ∧ ∀ y0 ∈ y, (y0.length ≤ maxLen ∧ ∀ y1 ∈ y0, (Lit.int .i64 y1).wf = true) :=
  opn_slice (Kd.slice 2 (Kd.int .i64)) (fun y0 => (y0.length ≤ maxLen ∧ ∀ y1 ∈ y0, (Lit.int .i64 y1).wf = true)) Try.underlying49 (show Try.prog.cellsOf 22 = _ by kernel_rfl) (fun h => opn_L22 h) h
theorem opn_S51 {H : Type} {enc : TypeId × Value → H} {w : World} {held : Bool} {fuel : Nat} {cs : List Value} {x : DataW H × List MemPlace} (h : DataW.trod enc Try.prog w 0 (fun _ => true) held fuel 51 cs = some x) :
    ∃ y : S51, k51.K w y cs ∧ (Lit.int .i64 y.f0).wf = true ∧ (Lit.int .i64 y.f1).wf = true ∧ (Lit.int .i64 y.f2).wf = true ∧ (Lit.int .i64 y.f3).wf = true ∧ (Lit.int .i64 y.f4).wf = true ∧ (y.f5.length ≤ maxLen ∧ ∀ y0 ∈ y.f5, (y0.length ≤ maxLen ∧ ∀ y1 ∈ y0, (Lit.int .i64 y1).wf = true)) ∧ (Lit.int .i64 y.f6).wf = true := by
  obtain ⟨xs, n, _, _, hl, hlen, hf⟩ := DataW.trod_struct Try.underlying51 h
  rw [show Try.prog.cellsOf 51 = 7 from by kernel_rfl] at hl
  obtain ⟨c0, t0, rfl, hl0⟩ := len_cons hl
  obtain ⟨c1, t1, rfl, hl1⟩ := len_cons hl0
  obtain ⟨c2, t2, rfl, hl2⟩ := len_cons hl1
  obtain ⟨c3, t3, rfl, hl3⟩ := len_cons hl2
  obtain ⟨c4, t4, rfl, hl4⟩ := len_cons hl3
  obtain ⟨c5, t5, rfl, hl5⟩ := len_cons hl4
  obtain ⟨c6, t6, rfl, hl6⟩ := len_cons hl5
  obtain rfl := List.eq_nil_of_length_eq_zero hl6
  have h0 := hf 0 _ rfl
  rw [List.getElem?_eq_getElem (show 0 < xs.length by rw [hlen]; decide)] at h0
  obtain ⟨y0, k0, w0⟩ := (opn_int Try.underlying2) (show DataW.trod enc Try.prog w 0 (fun _ => true) held n 2 [c0] = some _ from by simpa [show Try.prog.cellsOf 2 = 1 from by kernel_rfl] using h0)
  have h1 := hf 1 _ rfl
  rw [List.getElem?_eq_getElem (show 1 < xs.length by rw [hlen]; decide)] at h1
  obtain ⟨y1, k1, w1⟩ := (opn_int Try.underlying2) (show DataW.trod enc Try.prog w 0 (fun _ => true) held n 2 [c1] = some _ from by simpa [show Try.prog.cellsOf 2 = 1 from by kernel_rfl] using h1)
  have h2 := hf 2 _ rfl
  rw [List.getElem?_eq_getElem (show 2 < xs.length by rw [hlen]; decide)] at h2
  obtain ⟨y2, k2, w2⟩ := (opn_int Try.underlying2) (show DataW.trod enc Try.prog w 0 (fun _ => true) held n 2 [c2] = some _ from by simpa [show Try.prog.cellsOf 2 = 1 from by kernel_rfl] using h2)
  have h3 := hf 3 _ rfl
  rw [List.getElem?_eq_getElem (show 3 < xs.length by rw [hlen]; decide)] at h3
  obtain ⟨y3, k3, w3⟩ := (opn_int Try.underlying2) (show DataW.trod enc Try.prog w 0 (fun _ => true) held n 2 [c3] = some _ from by simpa [show Try.prog.cellsOf 2 = 1 from by kernel_rfl] using h3)
  have h4 := hf 4 _ rfl
  rw [List.getElem?_eq_getElem (show 4 < xs.length by rw [hlen]; decide)] at h4
  obtain ⟨y4, k4, w4⟩ := (opn_int Try.underlying2) (show DataW.trod enc Try.prog w 0 (fun _ => true) held n 2 [c4] = some _ from by simpa [show Try.prog.cellsOf 2 = 1 from by kernel_rfl] using h4)
  have h5 := hf 5 _ rfl
  rw [List.getElem?_eq_getElem (show 5 < xs.length by rw [hlen]; decide)] at h5
  obtain ⟨y5, k5, w5⟩ := opn_L49 (show DataW.trod enc Try.prog w 0 (fun _ => true) held n 49 [c5] = some _ from by simpa [show Try.prog.cellsOf 49 = 1 from by kernel_rfl] using h5)
  have h6 := hf 6 _ rfl
  rw [List.getElem?_eq_getElem (show 6 < xs.length by rw [hlen]; decide)] at h6
  obtain ⟨y6, k6, w6⟩ := (opn_int Try.underlying2) (show DataW.trod enc Try.prog w 0 (fun _ => true) held n 2 [c6] = some _ from by simpa [show Try.prog.cellsOf 2 = 1 from by kernel_rfl] using h6)
  exact ⟨⟨y0, y1, y2, y3, y4, y5, y6⟩, ⟨[c0], [c1, c2, c3, c4, c5, c6], rfl, k0, ⟨[c1], [c2, c3, c4, c5, c6], rfl, k1, ⟨[c2], [c3, c4, c5, c6], rfl, k2, ⟨[c3], [c4, c5, c6], rfl, k3, ⟨[c4], [c5, c6], rfl, k4, ⟨[c5], [c6], rfl, k5, k6⟩⟩⟩⟩⟩⟩, w0, w1, w2, w3, w4, w5, w6⟩
theorem opn_S91 {H : Type} {enc : TypeId × Value → H} {w : World} {held : Bool} {fuel : Nat} {cs : List Value} {x : DataW H × List MemPlace} (h : DataW.trod enc Try.prog w 0 (fun _ => true) held fuel 91 cs = some x) :
    ∃ y : S91, k91.K w y cs ∧ y.f0.size ≤ maxLen ∧ (Lit.int .i64 y.f1).wf = true ∧ (Lit.int .i64 y.f2).wf = true ∧ (Lit.int .i64 y.f3).wf = true ∧ (Lit.int .i64 y.f4).wf = true ∧ (Lit.int .i64 y.f5).wf = true := by
  obtain ⟨xs, n, _, _, hl, hlen, hf⟩ := DataW.trod_struct Try.underlying91 h
  rw [show Try.prog.cellsOf 91 = 6 from by kernel_rfl] at hl
  obtain ⟨c0, t0, rfl, hl0⟩ := len_cons hl
  obtain ⟨c1, t1, rfl, hl1⟩ := len_cons hl0
  obtain ⟨c2, t2, rfl, hl2⟩ := len_cons hl1
  obtain ⟨c3, t3, rfl, hl3⟩ := len_cons hl2
  obtain ⟨c4, t4, rfl, hl4⟩ := len_cons hl3
  obtain ⟨c5, t5, rfl, hl5⟩ := len_cons hl4
  obtain rfl := List.eq_nil_of_length_eq_zero hl5
  have h0 := hf 0 _ rfl
  rw [List.getElem?_eq_getElem (show 0 < xs.length by rw [hlen]; decide)] at h0
  obtain ⟨y0, k0, w0⟩ := (opn_string Try.underlying9) (show DataW.trod enc Try.prog w 0 (fun _ => true) held n 9 [c0] = some _ from by simpa [show Try.prog.cellsOf 9 = 1 from by kernel_rfl] using h0)
  have h1 := hf 1 _ rfl
  rw [List.getElem?_eq_getElem (show 1 < xs.length by rw [hlen]; decide)] at h1
  obtain ⟨y1, k1, w1⟩ := (opn_int Try.underlying2) (show DataW.trod enc Try.prog w 0 (fun _ => true) held n 2 [c1] = some _ from by simpa [show Try.prog.cellsOf 2 = 1 from by kernel_rfl] using h1)
  have h2 := hf 2 _ rfl
  rw [List.getElem?_eq_getElem (show 2 < xs.length by rw [hlen]; decide)] at h2
  obtain ⟨y2, k2, w2⟩ := (opn_int Try.underlying2) (show DataW.trod enc Try.prog w 0 (fun _ => true) held n 2 [c2] = some _ from by simpa [show Try.prog.cellsOf 2 = 1 from by kernel_rfl] using h2)
  have h3 := hf 3 _ rfl
  rw [List.getElem?_eq_getElem (show 3 < xs.length by rw [hlen]; decide)] at h3
  obtain ⟨y3, k3, w3⟩ := (opn_int Try.underlying2) (show DataW.trod enc Try.prog w 0 (fun _ => true) held n 2 [c3] = some _ from by simpa [show Try.prog.cellsOf 2 = 1 from by kernel_rfl] using h3)
  have h4 := hf 4 _ rfl
  rw [List.getElem?_eq_getElem (show 4 < xs.length by rw [hlen]; decide)] at h4
  obtain ⟨y4, k4, w4⟩ := (opn_int Try.underlying2) (show DataW.trod enc Try.prog w 0 (fun _ => true) held n 2 [c4] = some _ from by simpa [show Try.prog.cellsOf 2 = 1 from by kernel_rfl] using h4)
  have h5 := hf 5 _ rfl
  rw [List.getElem?_eq_getElem (show 5 < xs.length by rw [hlen]; decide)] at h5
  obtain ⟨y5, k5, w5⟩ := (opn_int Try.underlying2) (show DataW.trod enc Try.prog w 0 (fun _ => true) held n 2 [c5] = some _ from by simpa [show Try.prog.cellsOf 2 = 1 from by kernel_rfl] using h5)
  exact ⟨⟨y0, y1, y2, y3, y4, y5⟩, ⟨[c0], [c1, c2, c3, c4, c5], rfl, k0, ⟨[c1], [c2, c3, c4, c5], rfl, k1, ⟨[c2], [c3, c4, c5], rfl, k2, ⟨[c3], [c4, c5], rfl, k3, ⟨[c4], [c5], rfl, k4, k5⟩⟩⟩⟩⟩, w0, w1, w2, w3, w4, w5⟩
theorem opn_L58 {H : Type} {enc : TypeId × Value → H} {w : World} {held : Bool} {fuel : Nat} {cs : List Value} {x : DataW H × List MemPlace} (h : DataW.trod enc Try.prog w 0 (fun _ => true) held fuel 58 cs = some x) :
    ∃ y : List (S91), (Kd.slice 91 k91).K w y cs ∧ y.length ≤ maxLen ∧ ∀ y0 ∈ y, (y0.f0.size ≤ maxLen ∧ (Lit.int .i64 y0.f1).wf = true ∧ (Lit.int .i64 y0.f2).wf = true ∧ (Lit.int .i64 y0.f3).wf = true ∧ (Lit.int .i64 y0.f4).wf = true ∧ (Lit.int .i64 y0.f5).wf = true) :=
  opn_slice k91 (fun y0 => (y0.f0.size ≤ maxLen ∧ (Lit.int .i64 y0.f1).wf = true ∧ (Lit.int .i64 y0.f2).wf = true ∧ (Lit.int .i64 y0.f3).wf = true ∧ (Lit.int .i64 y0.f4).wf = true ∧ (Lit.int .i64 y0.f5).wf = true)) Try.underlying58 (show Try.prog.cellsOf 91 = _ by kernel_rfl) (fun h => opn_S91 h) h
end Go.Proofs.Ythpcepojkhjlfaa.P
end

section
namespace Go.Proofs.Ythpcepojkhjlfaa.P
open Go.RowKit Go.Proofs.Ythpcepojkhjlfaa.P Go.Proofs.YthpcepojkhjlfaaW.PrintWords Go.Proofs.YthpcepojkhjlfaaW.PrintLast Go.Proofs.YthpcepojkhjlfaaW.PrintMore
set_option linter.unusedVariables false
set_option linter.unusedSimpArgs false
theorem Ev.succ {α : Type} {g : Nat → Option α} {r : α} (h : Ev (fun k => g (k + 1)) r) : Ev g r := Ev.step (f := fun k => g (k + 1)) (fun _ => rfl) h
theorem Ev.ite_pos {α : Type} {c : Prop} [Decidable c] {f g : Nat → Option α} {r : α} (hc : c) (h : Ev f r) : Ev (fun k => if c then f k else g k) r := Ev.congr (fun _ => if_pos hc) h
theorem Ev.ite_neg {α : Type} {c : Prop} [Decidable c] {f g : Nat → Option α} {r : α} (hc : ¬ c) (h : Ev g r) : Ev (fun k => if c then f k else g k) r := Ev.congr (fun _ => if_neg hc) h
theorem Ev.bindc {α β : Type} {o : Option α} {f : Nat → α → Option β} {a : α} {r : β} (ho : o = some a) (h : Ev (fun k => f k a) r) : Ev (fun k => o.bind (f k)) r := Ev.congr (fun _ => by rw [ho]; rfl) h
theorem Ev.konst {α : Type} {o : Option α} {r : α} (h : o = some r) : Ev (fun _ => o) r := ⟨0, fun _ _ => h⟩
theorem Ev.both {α : Type} {g : Nat → Option α} {r q : α} (h : Ev g r) (h' : Ev g q) : r = q := by
  obtain ⟨a, ha⟩ := h
  obtain ⟨b, hb⟩ := h'
  have h1 := ha (max a b) (Nat.le_max_left _ _)
  have h2 := hb (max a b) (Nat.le_max_right _ _)
  rw [h1] at h2
  exact Option.some.inj h2
theorem Ev.cast {α : Type} {g : Nat → Option α} {r q : α} (h : Ev g r) (e : r = q) : Ev g q := e ▸ h
theorem Ev.out {α : Type} {g : Nat → Option α} {r : α} (h : Ev g r) : ∃ k, g k = some r := h.rounds

/-- A sum, a difference that needs no wrap. -/
theorem w64 {x : Int} (h0 : -9223372036854775808 ≤ x) (h1 : x ≤ 9223372036854775807) : wrap64 x = x := by unfold wrap64; omega
theorem mn_eq (a b : Int) : mn a b = min a b := by unfold mn; split <;> omega
theorem mx_eq (a b : Int) : mx a b = max a b := by unfold mx; split <;> omega
theorem wf64 {x : Int} (h : (Lit.int .i64 x).wf = true) : -9223372036854775808 ≤ x ∧ x ≤ 9223372036854775807 := by
  simp [Lit.wf, IntKind.min, IntKind.max, IntKind.signed, IntKind.bits] at h
  omega
end Go.Proofs.Ythpcepojkhjlfaa.P
end

section
namespace Go.Proofs.Ythpcepojkhjlfaa.P
open Go.RowKit Go.Proofs.YthpcepojkhjlfaaW.PrintWords Go.Proofs.YthpcepojkhjlfaaW.PrintLast Go.Proofs.YthpcepojkhjlfaaW.PrintMore
attribute [local go_sem] max2_int min2_int max_two min_two max_three min_three max_four min_four   -- for this text's walks alone
set_option linter.unusedVariables false
set_option linter.unusedSimpArgs false
/-! ### laws_toInt64S: function 56 -/
def laws_toInt64S.l0 : Nat → List Int → List Int → Int → Option (List Int)
  | 0, _, _, _ => none
  | k + 1, x0, x3, x4 => if x4 < (x0.length : Int) then (if 0 ≤ x4 then (if x4 < (x3.length : Int) then (laws_toInt64S.l0 k x0 (x3.set (x4 : Int).toNat (rd x0 x4)) (wrap64 (x4 + 1))) else (none)) else (none)) else (some x3)
def laws_toInt64S.f (k : Nat) (l0 : List Int) : Option (List Int) := if 0 ≤ (l0.length : Int) then (if ((l0.length : Int) : Int).toNat ≤ 35184372088832 then (laws_toInt64S.l0 k l0 (List.replicate ((l0.length : Int) : Int).toNat 0) 0) else (none)) else (none)
theorem laws_toInt64S.mono_l : ∀ k, (∀ y0 y1 y2, LeO (laws_toInt64S.l0 k y0 y1 y2) (laws_toInt64S.l0 (k + 1) y0 y1 y2))
  | 0 => fun _ _ _ r h => by simp [laws_toInt64S.l0] at h
  | k + 1 => by
    have ih0 := laws_toInt64S.mono_l k
    · intro y0 y1 y2
      unfold laws_toInt64S.l0
      repeat' first
      | (with_reducible exact ih0 _ _ _)
      | (with_reducible exact LeO.refl _)
      | (with_reducible exact LeO.none _)
      | (with_reducible refine LeO.ite ?_ ?_)
      | (with_reducible refine LeO.bind ?_ (fun _ => ?_))
      | exact ih0 _ _ _
      | exact LeO.none _
      | refine LeO.ite ?_ ?_
      | refine LeO.bind ?_ (fun _ => ?_)
theorem laws_toInt64S.mono : ∀ a0 k, LeO (laws_toInt64S.f k a0) (laws_toInt64S.f (k + 1) a0) := by
  intro a0 k
  have ih0 := laws_toInt64S.mono_l k
  unfold laws_toInt64S.f
  repeat' first
      | (with_reducible exact ih0 _ _ _)
      | (with_reducible exact LeO.refl _)
      | (with_reducible exact LeO.none _)
      | (with_reducible refine LeO.ite ?_ ?_)
      | (with_reducible refine LeO.bind ?_ (fun _ => ?_))
      | exact ih0 _ _ _
      | exact LeO.none _
      | refine LeO.ite ?_ ?_
      | refine LeO.bind ?_ (fun _ => ?_)
set_option maxHeartbeats 8000000 in
set_option maxRecDepth 100000 in
theorem laws_toInt64S.calls (k : Nat) (A0 : Option Addr) (c0 : Nat) (l0 : List Int) (r : List Int) (w : World) (hr0 : Kd.C (Kd.int .i64) w A0 l0.length l0) (hc0 : l0.length ≤ c0) (h : laws_toInt64S.f k l0 = some r) :
    Calls Try.prog 56 #[.slice A0 l0.length c0] w fun e w' => ∃ v0_ : Value, e = .returned (v0_) ∧ Kd.R (Kd.int .i64) 2 w' w.heap.size (fun _ => True) v0_ r ∧ Below w.heap.size w w' := by
  have HR0 := Aside0.mk hr0
  have HC0 := Aside0.mk hc0
  clear hr0 hc0
  have HB := Aside0.mk (Below.refl w.heap.size w)
  have H : (if 0 ≤ (l0.length : Int) then (if ((l0.length : Int) : Int).toNat ≤ 35184372088832 then (laws_toInt64S.l0 k l0 (List.replicate ((l0.length : Int) : Int).toNat 0) 0) else (none)) else (none)) = some r := h
  clear h
  by_cases c2 : 0 ≤ (l0.length : Int)
  · rw [if_pos c2] at H
    have c2b0 := eq_true c2
    have c2b1 : decide (0 ≤ (l0.length : Int)) = true := decide_eq_true c2
    clear c2
    by_cases c3 : ((l0.length : Int) : Int).toNat ≤ 35184372088832
    · rw [if_pos c3] at H
      have c3b0 := eq_true c3
      have c3b1 : decide (((l0.length : Int) : Int).toNat ≤ 35184372088832) = true := decide_eq_true c3
      clear c3
      obtain ⟨y121, hy121⟩ : ∃ y_ : List Int, y_ = (List.replicate ((l0.length : Int) : Int).toNat 0) := ⟨_, rfl⟩
      replace H : (laws_toInt64S.l0 k l0 y121 0) = some r := by first | (rw [hy121]; with_reducible exact H) | (have H2_ := (Option.bind_some _ _).symm.trans H; rw [hy121]; with_reducible exact H2_) | (have H2_ := (Option.bind_some _ _).symm.trans H; with_reducible exact H2_) | with_reducible exact H | (rw [hy121]; exact H) | exact H
      have Ny121 := Aside0.mk hy121
      clear hy121
      have H' := Aside0.mk H
      clear H
      go_enter Try.func56, Try.ntmps56
      go_wp2_with (first | ((with_reducible refine gate_dst (N := 7) rfl ?_); refine Kd.R_make (Kd.int .i64) _ 2 rfl (N := 7) rfl 22 _ _ rfl (l0.length : Int) rfl rfl Try.underlying22 (.int .i64 0) 8 info2 rfl (by decide) (by omega) 0 (ok := fun _ => True) (okp := fun _ => True) rfl (fun _ hk => hk) trivial (of_decide_eq_true (by first | (with_reducible assumption) | assumption)) (Nat.le_trans (Nat.mul_le_mul_right _ (of_decide_eq_true (by first | (with_reducible assumption) | assumption) : (l0.length : Int).toNat ≤ 35184372088832)) (by omega)) (Below.refl _ _) (Nat.le_refl _) ?_; intro v122 w4 ho5 hb hg_ hnew_; clear hg_ hnew_; (first | rw [← Ny121.out] at ho5 | (simp only [Int.reduceToNat] at ho5; rw [← Ny121.out] at ho5)); have n0_ := Aside0.mk (Kd.R_lower ho5 (below_size (by repeat (first | (with_reducible first | exact HB.out | apply below_alloc | apply pw_below_drewN | apply below_drew1) | exact HB.out)))); have n1_ := Aside0.mk (below_step (by repeat (first | (with_reducible first | exact HB.out | apply below_alloc | apply pw_below_drewN | apply below_drew1) | exact HB.out)) hb); clear HB; have HO123 := n0_; have HB := n1_; clear n0_ n1_; clear hb ho5))
      go_loopg [4] k (fun kq v4 w' => ∃ (x3_1 : List Int) (x4_1 : Int), v4 = .int .i64 x4_1 ∧ Aside0 (laws_toInt64S.l0 kq l0 x3_1 x4_1 = some r) ∧ Aside0 (kq ≤ k) ∧ Aside0 (Kd.R (Kd.int .i64) 2 w' w.heap.size (fun _ => True) v122 x3_1) ∧ Aside0 (Below w.heap.size w w'))
      case atStart => exact ⟨(y121), (0), (by first | rfl | (simp; done) | (simp [*]; done)), H', ⟨Nat.le_refl _⟩, ⟨by (with_reducible repeat (first | apply Kd.R_alloc | apply Kd.R_drewN | apply Kd.R_drew)); exact HO123.out⟩, ⟨by repeat (first | (with_reducible first | exact HB.out | apply below_alloc | apply pw_below_drewN | apply below_drew1) | exact HB.out)⟩⟩
      case round =>
        clear H'
        try clear c2
        try clear c2b0
        try clear c2b1
        try clear p2
        try clear c3
        try clear c3b0
        try clear c3b1
        try clear c5
        obtain ⟨x3_1, x4_1, rfl, HA, HK1, HO_3, HB⟩ := hrel
        cases gk with
        | zero => exact absurd HA.out (by simp [laws_toInt64S.l0])
        | succ k1 =>
          have H := HA.out
          clear HA
          simp only [laws_toInt64S.l0] at H
          by_cases c6 : x4_1 < (l0.length : Int)
          · rw [if_pos c6] at H
            have c6b0 : decide (x4_1 < (l0.length : Int)) = true := decide_eq_true c6
            clear c6
            by_cases c7 : 0 ≤ x4_1
            · rw [if_pos c7] at H
              have c7b0 : decide (0 ≤ x4_1) = true := decide_eq_true c7
              clear c7
              by_cases c8 : x4_1 < (x3_1.length : Int)
              · rw [if_pos c8] at H
                have c8b0 : decide (x4_1 < (x3_1.length : Int)) = true := decide_eq_true c8
                clear c8
                obtain ⟨y125, hy125⟩ : ∃ y_ : List Int, y_ = (x3_1.set (x4_1 : Int).toNat (rd l0 x4_1)) := ⟨_, rfl⟩
                replace H : (laws_toInt64S.l0 k1 l0 y125 (wrap64 (x4_1 + 1))) = some r := by first | (rw [hy125]; with_reducible exact H) | (have H2_ := (Option.bind_some _ _).symm.trans H; rw [hy125]; with_reducible exact H2_) | (have H2_ := (Option.bind_some _ _).symm.trans H; with_reducible exact H2_) | with_reducible exact H | (rw [hy125]; exact H) | exact H
                have Ny125 := Aside0.mk hy125
                clear hy125
                have H' := Aside0.mk H
                clear H
                have p124 : 0 ≤ (x4_1 : Int) := of_decide_eq_true (by first | (with_reducible assumption) | assumption)
                have q124 : x4_1 < (l0.length : Int) := of_decide_eq_true (by first | (with_reducible assumption) | assumption)
                obtain ⟨ad124, e124, hx124_0⟩ := Kd.at_int HR0.out x4_1 p124 q124
                cases e124
                replace hx124_0 := (HB.out.cell (World.block_lt_of_cell? w _ hx124_0)).trans hx124_0
                replace p124 := eq_true p124
                replace q124 := eq_true q124
                have p9 : 0 ≤ (x4_1 : Int) := of_decide_eq_true (by first | (with_reducible assumption) | assumption)
                have q9 : (x4_1 : Int) < ((x3_1.length : Int) : Int) := of_decide_eq_true (by first | (with_reducible assumption) | assumption)
                obtain ⟨go9, co9, eo9, gb9, gl9, cl9, HG9⟩ := Kd.R_form HO_3.out (by omega)
                (first | cases eo9 | (injection eo9 with ea_ en_ ec_; (first | subst ea_ | (injection ea_ with ea_; subst ea_)); subst ec_; clear en_))
                have GB9 := Aside0.mk gb9
                have GG9 := Aside0.mk HG9
                clear gb9 gl9 HG9
                obtain ⟨hx9_0, hf9_0⟩ := Kd.R_celln 0 HO_3.out (x4_1 : Int) p9 q9
                replace p9 := eq_true p9
                replace q9 := eq_true q9
                have HP10 := Kd.R_putg HO_3.out (x4_1 : Int) (rd l0 x4_1)
                go_wp2_with (first | ((with_reducible refine gate_store (t := 2) (p := 20) rfl ?_); refine store_event (t := 2) (p := 20) (v := ?vo_w11) (w1 := (wr.setCell ⟨go9, (x4_1 : Int).toNat, none⟩ (.int .i64 (rd l0 x4_1)))) ?hg ?ho ?hn ?hr ?_; (case ho => rfl); (case hg => rfl); (case hn => rfl); (case hr => first | (go_simp; done) | (go_simp; rfl)); intro w11 hw; have hg : wr.grownBy w11 (some go9) := (by rw [hw]; exact HP10.2); have hp_ : Kd.R (Kd.int .i64) 2 w11 w.heap.size (fun _ => True) (.slice (some ⟨go9, 0, none⟩) x3_1.length co9) y125 := (by rw [hw, Ny125.out]; exact HP10.1); clear HP10; have n0_ := Aside0.mk (hp_); have n1_ := Aside0.mk ((by rw [hw]; exact below_set (HB.out) GB9.out : Below w.heap.size w w11)); clear HO_3; clear HB; have HO_3 := n0_; have HB := n1_; clear n0_ n1_; clear hg hw hp_))
                go_roundg k1
                case measure => have := HK1.out; omega
                case rel => exact ⟨(y125), (wrap64 (x4_1 + 1)), (by first | rfl | (simp; done) | (simp [*]; done)), H', ⟨by have := HK1.out; omega⟩, ⟨by (with_reducible repeat (first | apply Kd.R_alloc | apply Kd.R_drewN | apply Kd.R_drew)); exact HO_3.out⟩, ⟨by repeat (first | (with_reducible first | exact HB.out | apply below_alloc | apply pw_below_drewN | apply below_drew1) | exact HB.out)⟩⟩
              · rw [if_neg c8] at H
                exact absurd H (by simp)
            · rw [if_neg c7] at H
              exact absurd H (by simp)
          · rw [if_neg c6] at H
            have c6b0 : decide (x4_1 < (l0.length : Int)) = false := decide_eq_false c6
            clear c6
            obtain rfl := Option.some.inj H
            go_wp2
            go_ret
            exact ⟨_, by first | rfl | (simp [errW_none, errW_some] <;> rfl) | (simp [*, errW_none, errW_some] <;> rfl), by (with_reducible repeat (first | apply Kd.R_alloc | apply Kd.R_drewN | apply Kd.R_drew)); exact HO_3.out, by repeat (first | (with_reducible first | exact HB.out | apply below_alloc | apply pw_below_drewN | apply below_drew1) | exact HB.out)⟩
    · rw [if_neg c3] at H
      exact absurd H (by simp)
  · rw [if_neg c2] at H
    exact absurd H (by simp)
end Go.Proofs.Ythpcepojkhjlfaa.P
end

section
namespace Go.Proofs.Ythpcepojkhjlfaa.P
open Go.RowKit Go.Proofs.Ythpcepojkhjlfaa.P Go.Proofs.YthpcepojkhjlfaaW.PrintWords Go.Proofs.YthpcepojkhjlfaaW.PrintLast Go.Proofs.YthpcepojkhjlfaaW.PrintMore
set_option linter.unusedVariables false
set_option linter.unusedSimpArgs false
theorem set_at {l : List Int} {i : Nat} {v : Int} {m : List Int} (h : i < l.length) (e : l.take i = m) : (l.set i v).take (i + 1) = m ++ [v] := by
  rw [List.take_succ_eq_append_getElem (by simpa using h)]
  simp [List.take_set_of_le, e]
theorem rd_at {l : List Int} {i : Nat} (h : i < l.length) : rd l (i : Int) = l[i] := by simp [rd, h]

theorem toInt64S_l0 (l : List Int) (hl : l.length ≤ 9223372036854775807) : ∀ (d i : Nat) (m : List Int), l.length - i = d → i ≤ l.length → m.length = l.length → m.take i = l.take i → Ev (fun k => laws_toInt64S.l0 k l m i) l := by
  intro d
  induction d with
  | zero =>
    intro i m hd hi hm ht
    have : i = l.length := by omega
    subst this
    refine Ev.succ ?_
    simp only [laws_toInt64S.l0]
    refine Ev.ite_neg (by omega) ?_
    rw [List.take_of_length_le (by omega), List.take_of_length_le (Nat.le_refl _)] at ht
    rw [ht]
    exact Ev.now _
  | succ d ih =>
    intro i m hd hi hm ht
    refine Ev.succ ?_
    simp only [laws_toInt64S.l0]
    refine Ev.ite_pos (by omega) ?_
    refine Ev.ite_pos (by omega) ?_
    refine Ev.ite_pos (by omega) ?_
    rw [w64 (x := (i : Int) + 1) (by omega) (by omega), rd_at (show i < l.length by omega), Int.toNat_natCast]
    have := ih (i + 1) (m.set i l[i]) (by omega) (by omega) (by simpa using hm) (by
      rw [set_at (by omega) ht, ← List.take_succ_eq_append_getElem (by omega)])
    simpa using this
theorem toInt64S_ev (l : List Int) (h : l.length ≤ 35184372088832) : Ev (fun k => laws_toInt64S.f k l) l := by
  unfold laws_toInt64S.f
  refine Ev.ite_pos (by omega) ?_
  refine Ev.ite_pos (by omega) ?_
  exact toInt64S_l0 l (by omega) l.length 0 _ (by omega) (by omega) (by simp) (by simp)

theorem eqInt64S_l0 (a b : List Int) (hl : a.length ≤ 9223372036854775807) (hab : a.length = b.length) : ∀ (d i : Nat), a.length - i = d → i ≤ a.length → a.take i = b.take i → Ev (fun k => laws_eqInt64S.l0 k a b i) (decide (a = b)) := by
  intro d
  induction d with
  | zero =>
    intro i hd hi ht
    refine Ev.succ ?_
    simp only [laws_eqInt64S.l0]
    refine Ev.ite_neg (by omega) ?_
    rw [List.take_of_length_le (by omega), List.take_of_length_le (by omega)] at ht
    simpa [ht] using Ev.now true
  | succ d ih =>
    intro i hd hi ht
    refine Ev.succ ?_
    simp only [laws_eqInt64S.l0]
    refine Ev.ite_pos (by omega) ?_
    refine Ev.ite_pos (by omega) ?_
    refine Ev.ite_pos (by omega) ?_
    by_cases he : rd a i = rd b i
    · refine Ev.ite_pos he ?_
      rw [w64 (x := (i : Int) + 1) (by omega) (by omega)]
      rw [rd_at (show i < a.length by omega), rd_at (show i < b.length by omega)] at he
      have := ih (i + 1) (by omega) (by omega) (by
        rw [List.take_succ_eq_append_getElem (by omega), List.take_succ_eq_append_getElem (by omega), ht, he])
      simpa using this
    · refine Ev.ite_neg he ?_
      have : ¬ a = b := fun e => he (by rw [e])
      simpa [this] using Ev.now false
theorem eqInt64S_ev (a b : List Int) (hl : a.length ≤ 9223372036854775807) : Ev (fun k => laws_eqInt64S.f k a b) (decide (a = b)) := by
  unfold laws_eqInt64S.f
  by_cases h : a.length = b.length
  · refine Ev.ite_pos (by omega) ?_
    exact eqInt64S_l0 a b hl h a.length 0 (by omega) (by omega) (by simp)
  · refine Ev.ite_neg (by omega) ?_
    have : ¬ a = b := fun e => h (by rw [e])
    simpa [this] using Ev.now false
theorem eqInt64S_self (a : List Int) (hl : a.length ≤ 9223372036854775807) : Ev (fun k => laws_eqInt64S.f k a a) true := by simpa using eqInt64S_ev a a hl

/-- The marks from v on: n of them. -/
def marks : Nat → Int → List Int
  | 0, _ => []
  | n + 1, v => v :: marks n (v + 1)
theorem marks_length : ∀ n v, (marks n v).length = n
  | 0, _ => rfl
  | n + 1, v => by simp [marks, marks_length n]
theorem marks_get : ∀ n v i, i < n → (marks n v)[i]? = some (v + i)
  | 0, _, i, h => by omega
  | n + 1, v, 0, _ => by simp [marks]
  | n + 1, v, i + 1, h => by
    simp only [marks, List.getElem?_cons_succ]
    rw [marks_get n (v + 1) i (by omega)]
    congr 1
    omega
theorem markInt64S_l0 (n : Nat) (v : Int) (hn : n ≤ 4611686018427387904) (h0 : 0 ≤ v) (hv : v ≤ 4611686018427387903) : ∀ (d i : Nat) (l : List Int), n - i = d → i ≤ n → l.length = n → (∀ j, j < i → l[j]? = some (v + j)) →
    Ev (fun k => laws_markInt64S.l0 k l (v + i) i) (v + n, marks n v) := by
  intro d
  induction d with
  | zero =>
    intro i l hd hi hl hj
    have : i = n := by omega
    subst this
    refine Ev.succ ?_
    simp only [laws_markInt64S.l0]
    refine Ev.ite_neg (by omega) ?_
    have : l = marks i v := by
      refine List.ext_getElem? fun j => ?_
      rcases Nat.lt_or_ge j i with h | h
      · rw [hj j h, marks_get i v j h]
      · rw [List.getElem?_eq_none (by omega), List.getElem?_eq_none (by rw [marks_length]; omega)]
    rw [this]
    exact Ev.now _
  | succ d ih =>
    intro i l hd hi hl hj
    refine Ev.succ ?_
    simp only [laws_markInt64S.l0]
    refine Ev.ite_pos (by omega) ?_
    refine Ev.ite_pos (by omega) ?_
    rw [w64 (x := (i : Int) + 1) (by omega) (by omega), w64 (x := v + (i : Int) + 1) (by omega) (by omega), Int.toNat_natCast]
    have := ih (i + 1) (l.set i (v + i)) (by omega) (by omega) (by simpa using hl) (fun j hj' => by
      rcases Nat.lt_or_ge j i with h | h
      · rw [List.getElem?_set_ne (by omega), hj j h]
      · have : j = i := by omega
        subst this
        rw [List.getElem?_set_self (by omega)])
    simpa [Int.add_assoc] using this
theorem markInt64S_ev (l : List Int) (v : Int) (hn : l.length ≤ 4611686018427387904) (h0 : 0 ≤ v) (hv : v ≤ 4611686018427387903) : Ev (fun k => laws_markInt64S.f k l v) (v + l.length, marks l.length v) := by
  unfold laws_markInt64S.f
  have := markInt64S_l0 l.length v hn h0 hv l.length 0 l (by omega) (by omega) rfl (fun j hj => by omega)
  simpa using this
theorem heldInt64S_l0 (n : Nat) (v : Int) (hn : n ≤ 4611686018427387904) (h0 : 0 ≤ v) (hv : v ≤ 4611686018427387903) : ∀ (d i : Nat), n - i = d → i ≤ n →
    Ev (fun k => laws_heldInt64S.l0 k (marks n v) (v + i) i) (v + n) := by
  intro d
  induction d with
  | zero =>
    intro i hd hi
    have : i = n := by omega
    subst this
    refine Ev.succ ?_
    simp only [laws_heldInt64S.l0]
    refine Ev.ite_neg (by rw [marks_length]; omega) ?_
    exact Ev.now _
  | succ d ih =>
    intro i hd hi
    refine Ev.succ ?_
    simp only [laws_heldInt64S.l0]
    refine Ev.ite_pos (by rw [marks_length]; omega) ?_
    refine Ev.ite_pos (by omega) ?_
    refine Ev.ite_pos (by
      have h := marks_get n v i (by omega)
      simp only [rd, Int.toNat_natCast, List.getD_eq_getElem?_getD, h, Option.getD_some]) ?_
    rw [w64 (x := (i : Int) + 1) (by omega) (by omega), w64 (x := v + (i : Int) + 1) (by omega) (by omega)]
    have := ih (i + 1) (by omega) (by omega)
    simpa [Int.add_assoc] using this
theorem heldInt64S_ev (n : Nat) (v : Int) (hn : n ≤ 4611686018427387904) (h0 : 0 ≤ v) (hv : v ≤ 4611686018427387903) : Ev (fun k => laws_heldInt64S.f k (marks n v) v) (v + n) := by
  unfold laws_heldInt64S.f
  have := heldInt64S_l0 n v hn h0 hv n 0 (by omega) (by omega)
  simpa using this
def smallB (b : Int) : Bool := decide (97 ≤ b) && decide (b ≤ 122)
def digitB (b : Int) : Bool := decide (48 ≤ b) && decide (b ≤ 57)
def nameB (s : ByteArray) : Bool := decide (1 ≤ s.size) && decide (s.size ≤ 10) && smallB (bt s 0) && (List.range' 0 s.size).all fun j => smallB (bt s j) || digitB (bt s j)
theorem toList_nil (s : ByteArray) : s.toList = [] ↔ s.size = 0 := by
  rw [ByteArray.toList_eq, List.eq_nil_iff_length_eq_zero]
  exact Iff.rfl
theorem spec_l01Small_eq (b : Int) : spec_l01Small.f b = some (smallB b) := by
  unfold spec_l01Small.f smallB
  by_cases h : b ≥ 97
  · have : 97 ≤ b := h
    simp [this]
  · have : ¬ 97 ≤ b := h
    simp [this]
theorem spec_l01Digit_eq (b : Int) : spec_l01Digit.f b = some (digitB b) := by
  unfold spec_l01Digit.f digitB
  by_cases h : b ≥ 48
  · have : 48 ≤ b := h
    simp [this]
  · have : ¬ 48 ≤ b := h
    simp [this]
def bytesB (s : ByteArray) (i d : Nat) : Bool := (List.range' i d).all fun j => smallB (bt s j) || digitB (bt s j)
theorem bytesB_succ (s : ByteArray) (i d : Nat) : bytesB s i (d + 1) = ((smallB (bt s i) || digitB (bt s i)) && bytesB s (i + 1) d) := by
  simp [bytesB, List.range'_succ]
theorem spec_l01Name_l0 (s : ByteArray) (hs : s.size ≤ 10) : ∀ (d i : Nat), s.size - i = d → Ev (fun k => spec_l01Name.l0 k s i) (bytesB s i d) := by
  intro d
  induction d with
  | zero =>
    intro i hd
    refine Ev.succ ?_
    simp only [spec_l01Name.l0]
    refine Ev.ite_neg (by omega) ?_
    exact Ev.now _
  | succ d ih =>
    intro i hd
    refine Ev.succ ?_
    simp only [spec_l01Name.l0]
    refine Ev.ite_pos (by omega) ?_
    refine Ev.ite_pos (by omega) ?_
    refine Ev.bindc (spec_l01Small_eq _) ?_
    have ih' : Ev (fun k => spec_l01Name.l0 k s ((i : Int) + 1)) (bytesB s (i + 1) d) := by simpa using ih (i + 1) (by omega)
    rw [w64 (x := (i : Int) + 1) (by omega) (by omega), bytesB_succ]
    cases h : smallB (bt s i) with
    | true =>
      refine Ev.ite_pos rfl ?_
      simpa using ih'
    | false =>
      refine Ev.ite_neg (by decide) ?_
      refine Ev.bindc (spec_l01Digit_eq _) ?_
      cases h' : digitB (bt s i) with
      | true =>
        refine Ev.ite_pos rfl ?_
        simpa using ih'
      | false =>
        refine Ev.ite_neg (by decide) ?_
        simpa using Ev.now false
theorem spec_l01Name_ev (s : ByteArray) : Ev (fun k => spec_l01Name.f k s) (nameB s) := by
  unfold spec_l01Name.f nameB
  have hno : Ev (fun k => spec_l01Name.j0 k s true) false := by
    refine Ev.succ ?_
    simp only [spec_l01Name.j0]
    exact Ev.ite_pos (by simp) (Ev.now _)
  by_cases h0 : s.size = 0
  · refine Ev.ite_pos ((toList_nil s).2 h0) ?_
    exact Ev.cast hno (by simp [h0])
  refine Ev.ite_neg (fun h => h0 ((toList_nil s).1 h)) ?_
  by_cases h1 : s.size ≤ 10
  · refine Ev.ite_neg (by omega) ?_
    refine Ev.ite_pos (by omega) ?_
    refine Ev.bindc (spec_l01Small_eq _) ?_
    cases h : smallB (bt s 0) with
    | true =>
      refine Ev.succ ?_
      simp only [spec_l01Name.j0]
      refine Ev.ite_neg (by simp) ?_
      have := spec_l01Name_l0 s h1 s.size 0 (by omega)
      refine Ev.cast (by simpa using this) ?_
      have h2 : 1 ≤ s.size := by omega
      simp [bytesB, h1, h2]
    | false => exact Ev.cast hno (by simp)
  · refine Ev.ite_pos (by omega) ?_
    exact Ev.cast hno (by simp; omega)
theorem impl_onlyNameBytes_l0 (s : ByteArray) (hs : s.size ≤ 10) : ∀ (d i : Nat), s.size - i = d → Ev (fun k => impl_onlyNameBytes.l0 k s (s.size : Int) i) (bytesB s i d) := by
  intro d
  induction d with
  | zero =>
    intro i hd
    refine Ev.succ ?_
    simp only [impl_onlyNameBytes.l0]
    refine Ev.ite_neg (by omega) ?_
    exact Ev.now _
  | succ d ih =>
    intro i hd
    refine Ev.succ ?_
    simp only [impl_onlyNameBytes.l0]
    refine Ev.ite_pos (by omega) ?_
    refine Ev.ite_pos (by omega) ?_
    refine Ev.ite_pos (by omega) ?_
    have ih' : Ev (fun k => impl_onlyNameBytes.l0 k s (s.size : Int) ((i : Int) + 1)) (bytesB s (i + 1) d) := by simpa using ih (i + 1) (by omega)
    rw [w64 (x := (i : Int) + 1) (by omega) (by omega), bytesB_succ]
    have key : Ev (fun k => if bt s i < 48 then some false else if bt s i > 57 then some false else impl_onlyNameBytes.l0 k s (s.size : Int) ((i : Int) + 1)) (digitB (bt s i) && bytesB s (i + 1) d) := by
      by_cases a : bt s i < 48
      · refine Ev.ite_pos a ?_
        refine Ev.cast (Ev.now false) ?_
        have : ¬ 48 ≤ bt s i := by omega
        simp [digitB, this]
      refine Ev.ite_neg a ?_
      by_cases b : bt s i > 57
      · refine Ev.ite_pos b ?_
        refine Ev.cast (Ev.now false) ?_
        have : ¬ bt s i ≤ 57 := by omega
        simp [digitB, this]
      refine Ev.ite_neg b ?_
      refine Ev.cast ih' ?_
      have h1 : 48 ≤ bt s i := by omega
      have h2 : bt s i ≤ 57 := by omega
      simp [digitB, h1, h2]
    by_cases a : bt s i < 97
    · refine Ev.ite_pos a ?_
      refine Ev.cast key ?_
      have : ¬ 97 ≤ bt s i := by omega
      simp [smallB, this]
    refine Ev.ite_neg a ?_
    by_cases b : bt s i > 122
    · refine Ev.ite_pos b ?_
      refine Ev.cast key ?_
      have : ¬ bt s i ≤ 122 := by omega
      simp [smallB, this]
    refine Ev.ite_neg b ?_
    refine Ev.cast ih' ?_
    have h1 : 97 ≤ bt s i := by omega
    have h2 : bt s i ≤ 122 := by omega
    simp [smallB, h1, h2]
theorem impl_IsName_ev (s : ByteArray) : Ev (fun k => impl_IsName.f k s) (nameB s) := by
  unfold impl_IsName.f nameB
  by_cases h0 : s.size = 0
  · refine Ev.ite_pos (by omega) ?_
    exact Ev.cast (Ev.now false) (by simp [h0])
  refine Ev.ite_neg (by omega) ?_
  by_cases h1 : s.size ≤ 10
  · refine Ev.ite_neg (by omega) ?_
    refine Ev.ite_pos (by omega) ?_
    by_cases a : bt s 0 < 97
    · refine Ev.ite_pos a ?_
      refine Ev.cast (Ev.now false) ?_
      have : ¬ 97 ≤ bt s 0 := by omega
      simp [smallB, this]
    refine Ev.ite_neg a ?_
    by_cases b : bt s 0 > 122
    · refine Ev.ite_pos b ?_
      refine Ev.cast (Ev.now false) ?_
      have : ¬ bt s 0 ≤ 122 := by omega
      simp [smallB, this]
    refine Ev.ite_neg b ?_
    refine Ev.bind (a := bytesB s 0 s.size) ?_ ?_
    · unfold impl_onlyNameBytes.f
      simpa using impl_onlyNameBytes_l0 s h1 s.size 0 (by omega)
    · refine Ev.cast (Ev.now _) ?_
      have h2 : 1 ≤ s.size := by omega
      have h3 : 97 ≤ bt s 0 := by omega
      have h4 : bt s 0 ≤ 122 := by omega
      simp [bytesB, h1, h2, smallB, h3, h4]
  · refine Ev.ite_pos (by omega) ?_
    exact Ev.cast (Ev.now false) (by simp; omega)
theorem spec_l00In_eq (n a b : Int) : spec_l00In.f n a b = some (decide (a ≤ n) && decide (n ≤ b)) := by
  unfold spec_l00In.f
  by_cases h : n ≥ a
  · have : a ≤ n := h
    simp [this]
  · have : ¬ a ≤ n := h
    simp [this]
theorem impl_within_eq (n a b : Int) : impl_within.f n a b = some (decide (a ≤ n) && decide (n ≤ b)) := by
  unfold impl_within.f
  by_cases h : n ≥ a
  · have : a ≤ n := h
    simp [this]
  · have : ¬ a ≤ n := h
    simp [this]
def itemOf (x : S91) : S95 := ⟨x.f0, x.f1, x.f2, x.f3, x.f4, x.f5⟩
theorem rdi_at {l : List S95} {i : Nat} (h : i < l.length) : rd_T95 l (i : Int) = l[i] := by simp [rd_T95, h]
theorem rdj_at {l : List S91} {i : Nat} (h : i < l.length) : rd_T91 l (i : Int) = l[i] := by simp [rd_T91, h]
theorem seti_at {l : List S95} {i : Nat} {v : S95} {m : List S95} (h : i < l.length) (e : l.take i = m) : (l.set i v).take (i + 1) = m ++ [v] := by
  rw [List.take_succ_eq_append_getElem (by simpa using h)]
  simp [List.take_set_of_le, e]
theorem szItemS_l0 (l : List S91) (hl : l.length ≤ 1048576) (hs : ∀ x ∈ l, x.f0.size ≤ 9223372036854775807) : ∀ (d i : Nat) (a : Int), l.length - i = d → 0 ≤ a → a ≤ 1048576 → ∃ t, Ev (fun k => laws_szItemS.l0 k l a i) t := by
  intro d
  induction d with
  | zero =>
    intro i a hd h0 h1
    refine ⟨a, Ev.succ ?_⟩
    simp only [laws_szItemS.l0]
    exact Ev.ite_neg (by omega) (Ev.now _)
  | succ d ih =>
    intro i a hd h0 h1
    have hi : i < l.length := by omega
    have hz := hs l[i] (List.getElem_mem hi)
    by_cases g : a - (l[i].f0.size : Int) < 0
    · refine ⟨-1, Ev.succ ?_⟩
      simp only [laws_szItemS.l0]
      rw [rdj_at hi]
      refine Ev.ite_pos (by omega) (Ev.ite_pos (by omega) (Ev.bindc (a := -1) ?_ (Ev.ite_pos (by omega) (Ev.now _))))
      unfold laws_szItem.f
      rw [w64 (by omega) (by omega), if_pos g]
    · obtain ⟨t, ht⟩ := ih (i + 1) (a - (l[i].f0.size : Int)) (by omega) (by omega) (by omega)
      refine ⟨t, Ev.succ ?_⟩
      simp only [laws_szItemS.l0]
      rw [rdj_at hi, w64 (x := (i : Int) + 1) (by omega) (by omega)]
      refine Ev.ite_pos (by omega) (Ev.ite_pos (by omega) (Ev.bindc (a := a - (l[i].f0.size : Int)) ?_ (Ev.ite_neg g (by simpa using ht))))
      unfold laws_szItem.f
      rw [w64 (by omega) (by omega), if_neg g]
theorem szItemS_ge (l : List S91) (hl : l.length ≤ 9223372036854775807) (hs : ∀ x ∈ l, x.f0.size ≤ 9223372036854775807) : ∃ t, Ev (fun k => laws_szItemS.f k l 1048576) t ∧ (t < 0 ∨ l.length ≤ 1048576) := by
  unfold laws_szItemS.f
  rw [w64 (x := (1048576 : Int) - l.length) (by omega) (by omega)]
  by_cases h : (1048576 : Int) - (l.length : Int) < 0
  · exact ⟨-1, Ev.ite_pos h (Ev.now _), .inl (by omega)⟩
  · obtain ⟨t, ht⟩ := szItemS_l0 l (by omega) hs l.length 0 (1048576 - l.length) (by omega) (by omega) (by omega)
    exact ⟨t, Ev.ite_neg h (by simpa using ht), .inr (by omega)⟩
theorem toItemS_l0 (l : List S91) (hl : l.length ≤ 9223372036854775807) : ∀ (d i : Nat) (m : List S95), l.length - i = d → i ≤ l.length → m.length = l.length → m.take i = (l.map itemOf).take i → Ev (fun k => laws_toItemS.l0 k l m i) (l.map itemOf) := by
  intro d
  induction d with
  | zero =>
    intro i m hd hi hm ht
    have : i = l.length := by omega
    subst this
    refine Ev.succ ?_
    simp only [laws_toItemS.l0]
    refine Ev.ite_neg (by omega) ?_
    rw [List.take_of_length_le (by omega), List.take_of_length_le (by simp)] at ht
    rw [ht]
    exact Ev.now _
  | succ d ih =>
    intro i m hd hi hm ht
    refine Ev.succ ?_
    simp only [laws_toItemS.l0]
    refine Ev.ite_pos (by omega) ?_
    refine Ev.ite_pos (by omega) ?_
    refine Ev.bindc (show laws_toItem.f _ _ _ _ _ _ = some (_, _, _, _, _, _) from rfl) ?_
    refine Ev.ite_pos (by omega) ?_
    rw [w64 (x := (i : Int) + 1) (by omega) (by omega), rdj_at (show i < l.length by omega), Int.toNat_natCast]
    have := ih (i + 1) (m.set i (itemOf l[i])) (by omega) (by omega) (by simpa using hm) (by
      rw [seti_at (by omega) ht, List.take_succ_eq_append_getElem (by simpa using (by omega : i < l.length))]
      simp)
    simpa [itemOf] using this
theorem toItemS_ev (l : List S91) (h : l.length ≤ 1048576) : Ev (fun k => laws_toItemS.f k l) (l.map itemOf) := by
  unfold laws_toItemS.f
  refine Ev.ite_pos (by omega) ?_
  refine Ev.ite_pos (by omega) ?_
  exact toItemS_l0 l (by omega) l.length 0 _ (by omega) (by omega) (by simp) (by simp)
theorem eqItemS_l0 (a : List S95) (hl : a.length ≤ 9223372036854775807) : ∀ (d i : Nat), a.length - i = d → Ev (fun k => laws_eqItemS.l0 k a a i) true := by
  intro d
  induction d with
  | zero =>
    intro i hd
    refine Ev.succ ?_
    simp only [laws_eqItemS.l0]
    exact Ev.ite_neg (by omega) (Ev.now _)
  | succ d ih =>
    intro i hd
    refine Ev.succ ?_
    simp only [laws_eqItemS.l0]
    refine Ev.ite_pos (by omega) ?_
    refine Ev.ite_pos (by omega) ?_
    refine Ev.ite_pos (by omega) ?_
    refine Ev.bindc (a := true) (by simp [laws_eqItem.f]) ?_
    refine Ev.ite_pos rfl ?_
    rw [w64 (x := (i : Int) + 1) (by omega) (by omega)]
    simpa using ih (i + 1) (by omega)
theorem eqItemS_self (a : List S95) (hl : a.length ≤ 9223372036854775807) : Ev (fun k => laws_eqItemS.f k a a) true := by
  unfold laws_eqItemS.f
  exact Ev.ite_pos rfl (by simpa using eqItemS_l0 a hl a.length 0 (by omega))
theorem markText_l0 : ∀ (n : Nat) (v : Int) (s : ByteArray), v.toNat ≤ n → v ≤ 1000000000000 → s.size + n ≤ 9000000000000000000 → ∃ r, Ev (fun k => laws_markText.l0 k v s) r := by
  intro n
  induction n with
  | zero =>
    intro v s hn hv hs
    refine ⟨(⟨#[109]⟩ : ByteArray) ++ s, Ev.succ ?_⟩
    simp only [laws_markText.l0]
    exact Ev.ite_neg (by omega) (Ev.ite_pos (by omega) (Ev.now _))
  | succ n ih =>
    intro v s hn hv hs
    by_cases h : v > 0
    · have e : Int.tdiv v 10 = v / 10 := Int.tdiv_eq_ediv_of_nonneg (by omega)
      have w : wrap64 (Int.tdiv v 10) = v / 10 := by rw [e, w64 (by omega) (by omega)]
      have z : (strOfNums [(wrap64 (48 + (Int.tmod v 10))) % 256]).size = 1 := by rw [strOfNums_size]; rfl
      obtain ⟨r, hr⟩ := ih (v / 10) (strOfNums [(wrap64 (48 + (Int.tmod v 10))) % 256] ++ s) (by omega) (by omega) (by rw [ByteArray.size_append, z]; omega)
      refine ⟨r, Ev.succ ?_⟩
      simp only [laws_markText.l0]
      rw [w]
      exact Ev.ite_pos h (Ev.bindc rfl (Ev.ite_pos (by rw [z]; omega) hr))
    · refine ⟨(⟨#[109]⟩ : ByteArray) ++ s, Ev.succ ?_⟩
      simp only [laws_markText.l0]
      exact Ev.ite_neg h (Ev.ite_pos (by omega) (Ev.now _))
theorem markText_ev (v : Int) (hv : v ≤ 1000000000000) : ∃ r, Ev (fun k => laws_markText.f k v) r := by
  unfold laws_markText.f
  by_cases h : v ≤ 0
  · exact ⟨_, Ev.ite_pos h (Ev.now _)⟩
  · obtain ⟨r, hr⟩ := markText_l0 v.toNat v (⟨#[]⟩ : ByteArray) (Nat.le_refl _) hv (by show 0 + v.toNat ≤ _; omega)
    exact ⟨r, Ev.ite_neg h hr⟩
def ExEv (g : Nat → Option (Int × List S95)) (v : Int) : Prop := ∃ m, Ev g (v, m)
theorem ExEv.succ {g : Nat → Option (Int × List S95)} {v : Int} (h : ExEv (fun k => g (k + 1)) v) : ExEv g v := h.elim fun m h => ⟨m, Ev.succ h⟩
theorem ExEv.ite_pos {c : Prop} [Decidable c] {f g : Nat → Option (Int × List S95)} {v : Int} (hc : c) (h : ExEv f v) : ExEv (fun k => if c then f k else g k) v := h.elim fun m h => ⟨m, Ev.ite_pos hc h⟩
theorem ExEv.bind {α : Type} {g : Nat → Option α} {f : Nat → α → Option (Int × List S95)} {a : α} {v : Int} (ho : Ev g a) (h : ExEv (fun k => f k a) v) : ExEv (fun k => (g k).bind (f k)) v := h.elim fun m h => ⟨m, Ev.bind ho h⟩
theorem ExEv.bindc {α : Type} {o : Option α} {f : Nat → α → Option (Int × List S95)} {a : α} {v : Int} (ho : o = some a) (h : ExEv (fun k => f k a) v) : ExEv (fun k => o.bind (f k)) v := h.elim fun m h => ⟨m, Ev.bindc ho h⟩
theorem markItemS_l0 : ∀ (d i : Nat) (l : List S95) (v : Int), l.length ≤ 1048576 → l.length - i = d → 0 ≤ v → v ≤ 1000000000 + 6 * i → ExEv (fun k => laws_markItemS.l0 k l v i) (v + 6 * d) := by
  intro d
  induction d with
  | zero =>
    intro i l v hl hd h0 h1
    refine ⟨l, Ev.succ ?_⟩
    simp only [laws_markItemS.l0]
    refine Ev.ite_neg (by omega) ?_
    simpa using Ev.now _
  | succ d ih =>
    intro i l v hl hd h0 h1
    obtain ⟨t, ht⟩ := markText_ev v (by omega)
    have f1 : (i : Int) < (l.length : Int) := by omega
    have f2 : (0 : Int) ≤ (i : Int) := by omega
    have e : v + 6 * ((d + 1 : Nat) : Int) = v + 6 + 6 * (d : Int) := by omega
    have hi : ∀ l' : List S95, l'.length = l.length → ExEv (fun k => laws_markItemS.l0 k l' (v + 6) ((i + 1 : Nat) : Int)) (v + 6 + 6 * (d : Int)) := fun l' h' => ih (i + 1) l' (v + 6) (by omega) (by omega) (by omega) (by omega)
    have b0 : v ≤ 1100000000 := by omega
    have w1 : wrap64 (v + 1) = v + 1 := w64 (by clear e; omega) (by clear e; omega)
    have w2 : wrap64 (v + 1 + 1) = v + 2 := by rw [w64 (by clear e; omega) (by clear e; omega)]; clear e; omega
    have w3 : wrap64 (v + 2 + 1) = v + 3 := by rw [w64 (by clear e; omega) (by clear e; omega)]; clear e; omega
    have w4 : wrap64 (v + 3 + 1) = v + 4 := by rw [w64 (by clear e; omega) (by clear e; omega)]; clear e; omega
    have w5 : wrap64 (v + 4 + 1) = v + 5 := by rw [w64 (by clear e; omega) (by clear e; omega)]; clear e; omega
    have w6 : wrap64 (v + 5 + 1) = v + 6 := by rw [w64 (by clear e; omega) (by clear e; omega)]; clear e; omega
    have w7 : wrap64 ((i : Int) + 1) = ((i + 1 : Nat) : Int) := by rw [w64 (by clear e; omega) (by clear e; omega)]; clear e; omega
    rw [e]
    refine ExEv.succ ?_
    simp only [laws_markItemS.l0, w1, w2, w3, w4, w5, w6, w7]
    refine ExEv.ite_pos f1 (ExEv.bind ht (ExEv.ite_pos f2 (ExEv.bindc rfl (ExEv.bindc rfl (ExEv.bindc rfl (ExEv.bindc rfl (ExEv.bindc rfl ?_)))))))
    exact hi _ (by simp only [List.length_set])
theorem markItemS_ev (l : List S95) (hl : l.length ≤ 1048576) : ∃ m, Ev (fun k => laws_markItemS.f k l 1) (1 + 6 * l.length, m) := by
  unfold laws_markItemS.f
  exact markItemS_l0 l.length 0 l 1 hl (by omega) (by omega) (by omega)
def inR (n a b : Int) : Bool := decide (a ≤ n) && decide (n ≤ b)
theorem l00In_inR (n a b : Int) : spec_l00In.f n a b = some (inR n a b) := spec_l00In_eq n a b
theorem within_inR (n a b : Int) : impl_within.f n a b = some (inR n a b) := impl_within_eq n a b
def itB (x : S95) : Bool := nameB x.f0 && (inR x.f1 0 1439 && (inR x.f2 0 1439 && (!(decide (x.f1 = x.f2)) && (inR x.f3 (-1) 5 && (inR x.f4 1 240 && inR x.f5 0 1000)))))
theorem spec_l08One_ev (x : S95) : Ev (fun k => spec_l08One.f k x.f0 x.f1 x.f2 x.f3 x.f4 x.f5) (itB x) := by
  unfold spec_l08One.f spec_l08Minute.f itB
  refine Ev.bind (spec_l01Name_ev _) ?_
  cases nameB x.f0 with
  | false => exact Ev.ite_neg (by decide) (Ev.now _)
  | true =>
    refine Ev.ite_pos rfl ?_
    simp only [l00In_inR, Option.bind_some]
    cases inR x.f1 0 1439 with
    | false => exact Ev.ite_neg (by decide) (Ev.now _)
    | true =>
      refine Ev.ite_pos rfl ?_
      cases inR x.f2 0 1439 with
      | false => exact Ev.ite_neg (by decide) (Ev.now _)
      | true =>
        refine Ev.ite_pos rfl ?_
        by_cases h : x.f1 = x.f2
        · refine Ev.ite_pos h (Ev.cast (Ev.now _) ?_)
          simp [h]
        · refine Ev.ite_neg h ?_
          cases inR x.f3 (-1) 5 with
          | false => exact Ev.ite_neg (by decide) (Ev.cast (Ev.now _) (by simp))
          | true =>
            refine Ev.ite_pos rfl ?_
            cases inR x.f4 1 240 with
            | false => exact Ev.ite_neg (by decide) (Ev.cast (Ev.now _) (by simp))
            | true => exact Ev.ite_pos rfl (Ev.cast (Ev.now _) (by simp [h]))
theorem impl_ValidItem_ev (x : S95) : Ev (fun k => impl_ValidItem.f k x.f0 x.f1 x.f2 x.f3 x.f4 x.f5) (itB x) := by
  unfold impl_ValidItem.f impl_minuteOk.f itB
  refine Ev.bind (impl_IsName_ev _) ?_
  cases nameB x.f0 with
  | false => exact Ev.ite_neg (by decide) (Ev.now _)
  | true =>
    refine Ev.ite_pos rfl ?_
    simp only [within_inR, Option.bind_some]
    cases inR x.f1 0 1439 with
    | false => exact Ev.ite_neg (by decide) (Ev.now _)
    | true =>
      refine Ev.ite_pos rfl ?_
      cases inR x.f2 0 1439 with
      | false => exact Ev.ite_neg (by decide) (Ev.now _)
      | true =>
        refine Ev.ite_pos rfl ?_
        by_cases h : x.f1 = x.f2
        · refine Ev.ite_pos h (Ev.cast (Ev.now _) ?_)
          simp [h]
        · refine Ev.ite_neg h ?_
          cases inR x.f3 (-1) 5 with
          | false => exact Ev.ite_neg (by decide) (Ev.cast (Ev.now _) (by simp))
          | true =>
            refine Ev.ite_pos rfl ?_
            cases inR x.f4 1 240 with
            | false => exact Ev.ite_neg (by decide) (Ev.cast (Ev.now _) (by simp))
            | true => exact Ev.ite_pos rfl (Ev.cast (Ev.now _) (by simp [h]))
def itP (l : List S95) (j : Nat) : Bool := itB (rd_T95 l j) && (decide (j = 0) || Op.bytesLess (rd_T95 l ((j : Int) - 1)).f0.toList (rd_T95 l j).f0.toList)
def itsB (l : List S95) (i d : Nat) : Bool := (List.range' i d).all (itP l)
theorem itsB_succ (l : List S95) (i d : Nat) : itsB l i (d + 1) = (itP l i && itsB l (i + 1) d) := by
  simp [itsB, List.range'_succ]
theorem spec_l08Ok_l0 (l : List S95) (hl : l.length ≤ 1048576) : ∀ (d i : Nat), l.length - i = d → Ev (fun k => spec_l08Ok.l0 k l i) (itsB l i d && decide (l.length ≤ 12)) := by
  intro d
  induction d with
  | zero =>
    intro i hd
    refine Ev.succ ?_
    simp only [spec_l08Ok.l0]
    refine Ev.ite_neg (by omega) (Ev.cast (Ev.now _) ?_)
    simp only [itsB, List.range'_zero, List.all_nil, Bool.true_and]
    exact decide_eq_decide.2 (by omega)
  | succ d ih =>
    intro i hd
    have f1 : (i : Int) < (l.length : Int) := by omega
    have f2 : (0 : Int) ≤ (i : Int) := by omega
    have w7 : wrap64 ((i : Int) + 1) = ((i + 1 : Nat) : Int) := by rw [w64 (by omega) (by omega)]; omega
    have w8 : wrap64 ((i : Int) - 1) = (i : Int) - 1 := w64 (by omega) (by omega)
    have ih' := ih (i + 1) (by omega)
    refine Ev.succ ?_
    simp only [spec_l08Ok.l0, w7, w8]
    rw [itsB_succ, itP]
    refine Ev.ite_pos f1 (Ev.ite_pos f2 (Ev.bind (spec_l08One_ev _) ?_))
    cases itB (rd_T95 l i) with
    | false => exact Ev.ite_neg (by decide) (Ev.now _)
    | true =>
      refine Ev.ite_pos rfl ?_
      by_cases h0 : i = 0
      · refine Ev.ite_neg (by omega) (Ev.cast ih' ?_)
        simp [h0]
      · refine Ev.ite_pos (by omega) (Ev.ite_pos (by omega) (Ev.ite_pos (by omega) ?_))
        cases hb : Op.bytesLess (rd_T95 l ((i : Int) - 1)).f0.toList (rd_T95 l i).f0.toList with
        | true => exact Ev.ite_pos rfl (Ev.cast ih' (by simp))
        | false => exact Ev.ite_neg (by decide) (Ev.cast (Ev.now _) (by simp [h0]))
theorem impl_ValidItems_l0 (l : List S95) (hl : l.length ≤ 1048576) : ∀ (d i : Nat), l.length - i = d → Ev (fun k => impl_ValidItems.l0 k l l l.length i) (itsB l i d) := by
  intro d
  induction d with
  | zero =>
    intro i hd
    refine Ev.succ ?_
    simp only [impl_ValidItems.l0]
    exact Ev.ite_neg (by omega) (Ev.now _)
  | succ d ih =>
    intro i hd
    have f1 : (i : Int) < (l.length : Int) := by omega
    have f2 : (0 : Int) ≤ (i : Int) := by omega
    have w7 : wrap64 ((i : Int) + 1) = ((i + 1 : Nat) : Int) := by rw [w64 (by omega) (by omega)]; omega
    have w8 : wrap64 ((i : Int) - 1) = (i : Int) - 1 := w64 (by omega) (by omega)
    have ih' := ih (i + 1) (by omega)
    refine Ev.succ ?_
    simp only [impl_ValidItems.l0, w7, w8]
    rw [itsB_succ, itP]
    refine Ev.ite_pos f1 (Ev.ite_pos f2 (Ev.ite_pos f1 (Ev.bind (impl_ValidItem_ev _) ?_)))
    cases itB (rd_T95 l i) with
    | false => exact Ev.ite_neg (by decide) (Ev.now _)
    | true =>
      refine Ev.ite_pos rfl ?_
      by_cases h0 : i = 0
      · refine Ev.ite_neg (by omega) (Ev.cast ih' ?_)
        simp [h0]
      · refine Ev.ite_pos (by omega) (Ev.ite_pos (by omega) (Ev.ite_pos (by omega) ?_))
        cases hb : Op.bytesLess (rd_T95 l ((i : Int) - 1)).f0.toList (rd_T95 l i).f0.toList with
        | true => exact Ev.ite_pos rfl (Ev.cast ih' (by simp))
        | false => exact Ev.ite_neg (by decide) (Ev.cast (Ev.now _) (by simp [h0]))
def itemsB (l : List S95) : Bool := itsB l 0 l.length && decide (l.length ≤ 12)
theorem spec_l08Ok_ev (l : List S95) (hl : l.length ≤ 1048576) : Ev (fun k => spec_l08Ok.f k l) (itemsB l) := by
  unfold spec_l08Ok.f
  exact spec_l08Ok_l0 l hl l.length 0 (by omega)
theorem impl_ValidItems_ev (l : List S95) (hl : l.length ≤ 1048576) : Ev (fun k => impl_ValidItems.f k l) (itemsB l) := by
  unfold impl_ValidItems.f itemsB
  by_cases h : l.length ≤ 12
  · refine Ev.ite_neg (by omega) (Ev.cast (impl_ValidItems_l0 l hl l.length 0 (by omega)) ?_)
    simp [h]
  · refine Ev.ite_pos (by omega) (Ev.cast (Ev.now _) ?_)
    simp [h]
theorem itemsB_at {l : List S95} (h : itemsB l = true) (i : Nat) (hi : i < l.length) : -1 ≤ (rd_T95 l i).f3 := by
  simp only [itemsB, itsB, Bool.and_eq_true, List.all_eq_true] at h
  have := h.1 i (List.mem_range'_1.2 ⟨by omega, by omega⟩)
  simp only [itP, itB, inR, Bool.and_eq_true, decide_eq_true_eq] at this
  exact this.1.2.2.2.2.1.1
def fitB (x : S95) (m s : Int) : Bool := (decide (x.f3 = -1) || decide (x.f3 = s)) && (if x.f1 < x.f2 then decide (x.f1 ≤ m) && decide (m < x.f2) else decide (x.f1 ≤ m) || decide (m < x.f2))
theorem spec_l08Fits_eq (x : S95) (m s : Int) (h3 : -1 ≤ x.f3) (m0 : 0 ≤ m) (m1 : m < 1440) : spec_l08Fits.f x.f0 x.f1 x.f2 x.f3 x.f4 x.f5 m s = some (fitB x m s) := by
  have e : Int.tmod m 1440 = m := Int.tmod_eq_of_lt m0 m1
  unfold spec_l08Fits.f fitB
  rw [e]
  by_cases a : x.f3 ≥ 0
  · have a' : ¬ x.f3 = -1 := by omega
    by_cases b : x.f3 = s
    · by_cases c : x.f1 < x.f2 <;> by_cases d : x.f1 ≤ m <;> simp [a, a', b, c, d]
      all_goals (subst b; simp [a])
    · simp [a, a', b]
  · have a' : x.f3 = -1 := by omega
    by_cases c : x.f1 < x.f2 <;> by_cases d : x.f1 ≤ m <;> simp [a', c, d]
theorem impl_Item_fits_ev (x : S95) (m s : Int) : Ev (fun k => impl_Item_fits.f k x.f0 x.f1 x.f2 x.f3 x.f4 x.f5 m s) (fitB x m s) := by
  have j : ∀ b, Ev (fun k => impl_Item_fits.j0 k m b x.f0 x.f1 x.f2 x.f3 x.f4 x.f5) (!b && (if x.f1 < x.f2 then decide (x.f1 ≤ m) && decide (m < x.f2) else decide (x.f1 ≤ m) || decide (m < x.f2))) := by
    intro b
    refine Ev.succ ?_
    simp only [impl_Item_fits.j0]
    cases b with
    | true => exact Ev.ite_pos rfl (Ev.now _)
    | false =>
      refine Ev.ite_neg (by decide) ?_
      by_cases c : x.f1 < x.f2
      · refine Ev.ite_pos c ?_
        by_cases d : m ≥ x.f1
        · exact Ev.ite_pos d (Ev.cast (Ev.now _) (by simp [c, show x.f1 ≤ m from d]))
        · exact Ev.ite_neg d (Ev.cast (Ev.now _) (by simp [c, show ¬ x.f1 ≤ m from d]))
      · refine Ev.ite_neg c ?_
        by_cases d : m ≥ x.f1
        · exact Ev.ite_pos d (Ev.cast (Ev.now _) (by simp [c, show x.f1 ≤ m from d]))
        · exact Ev.ite_neg d (Ev.cast (Ev.now _) (by simp [c, show ¬ x.f1 ≤ m from d]))
  unfold impl_Item_fits.f fitB
  by_cases a : x.f3 = -1
  · refine Ev.ite_pos a (Ev.cast (j false) (by simp [a]))
  · refine Ev.ite_neg a (Ev.cast (j (x.f3 != s)) ?_)
    by_cases b : x.f3 = s
    · simp [a, b]
    · simp [a, b]
end Go.Proofs.Ythpcepojkhjlfaa.P
end
