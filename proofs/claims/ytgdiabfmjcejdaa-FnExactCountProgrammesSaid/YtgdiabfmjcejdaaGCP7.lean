/- Texts of this seat, merged: QSpecL08One, QSpecL08Ok, QSpecL00Has, QSpecL00Own, QSpecL06Before, QSpecL08Fits. -/
import Derived.Test.YtgdiabfmjcejdaaGCP1
import Derived.Test.YtgdiabfmjcejdaaGCP3
import Derived.Test.YtgdiabfmjcejdaaGCP6
section
namespace Go.Proofs.Ytgdiabfmjcejdaa.P
open Go.RowKit Go.Proofs.YtgdiabfmjcejdaaW.PrintWords Go.Proofs.YtgdiabfmjcejdaaW.PrintLast Go.Proofs.YtgdiabfmjcejdaaW.PrintMore
attribute [local go_sem] max2_int min2_int max_two min_two max_three min_three max_four min_four   -- for this text's walks alone
set_option linter.unusedVariables false
set_option linter.unusedSimpArgs false
/-! ### spec_l08One: function 106 -/
def spec_l08One.f (k : Nat) (a0_0 : ByteArray) (a0_1 : Int) (a0_2 : Int) (a0_3 : Int) (a0_4 : Int) (a0_5 : Int) : Option (Bool) := (spec_l01Name.f k a0_0).bind fun t317 => (if t317 = true then ((spec_l08Minute.f a0_1).bind fun t318 => (if t318 = true then ((spec_l08Minute.f a0_2).bind fun t319 => (if t319 = true then (if a0_1 = a0_2 then (some false) else ((spec_l00In.f a0_3 (-1) 5).bind fun t320 => (if t320 = true then ((spec_l00In.f a0_4 1 240).bind fun t321 => (if t321 = true then ((spec_l00In.f a0_5 0 1000).bind fun t322 => (some t322)) else (some false))) else (some false)))) else (some false))) else (some false))) else (some false))
set_option maxHeartbeats 8000000 in
set_option maxRecDepth 100000 in
theorem spec_l08One.calls (k : Nat) (g0 : Addr) (a0_0 : ByteArray) (a0_1 : Int) (a0_2 : Int) (a0_3 : Int) (a0_4 : Int) (a0_5 : Int) (r : Bool) (w : World) (hp0 : w.cell? g0 = some (.string a0_0) ∧ w.cell? ⟨g0.block, g0.off + 1, none⟩ = some (.int .i64 a0_1) ∧ w.cell? ⟨g0.block, g0.off + 2, none⟩ = some (.int .i64 a0_2) ∧ w.cell? ⟨g0.block, g0.off + 3, none⟩ = some (.int .i64 a0_3) ∧ w.cell? ⟨g0.block, g0.off + 4, none⟩ = some (.int .i64 a0_4) ∧ w.cell? ⟨g0.block, g0.off + 5, none⟩ = some (.int .i64 a0_5)) (h : spec_l08One.f k a0_0 a0_1 a0_2 a0_3 a0_4 a0_5 = some r) :
  Calls Try.prog 106 #[.pointer (some g0)] w fun e w' => e = .returned (.bool r) ∧ Drawn0 w w' := by
 have HBX0 := Aside0.mk hp0
 have HBP0 := Aside0.mk hp0
 clear hp0
 have H : ((spec_l01Name.f k a0_0).bind fun t317 => (if t317 = true then ((spec_l08Minute.f a0_1).bind fun t318 => (if t318 = true then ((spec_l08Minute.f a0_2).bind fun t319 => (if t319 = true then (if a0_1 = a0_2 then (some false) else ((spec_l00In.f a0_3 (-1) 5).bind fun t320 => (if t320 = true then ((spec_l00In.f a0_4 1 240).bind fun t321 => (if t321 = true then ((spec_l00In.f a0_5 0 1000).bind fun t322 => (some t322)) else (some false))) else (some false)))) else (some false))) else (some false))) else (some false))) = some r := h
 clear h
 replace H := Option.bind_eq_some_iff.mp H
 obtain ⟨t317, A20, H⟩ := H
 replace H : (if t317 = true then ((spec_l08Minute.f a0_1).bind fun t318 => (if t318 = true then ((spec_l08Minute.f a0_2).bind fun t319 => (if t319 = true then (if a0_1 = a0_2 then (some false) else ((spec_l00In.f a0_3 (-1) 5).bind fun t320 => (if t320 = true then ((spec_l00In.f a0_4 1 240).bind fun t321 => (if t321 = true then ((spec_l00In.f a0_5 0 1000).bind fun t322 => (some t322)) else (some false))) else (some false)))) else (some false))) else (some false))) else (some false)) = some r := H
 have A2 := Aside0.mk A20
 clear A20
 by_cases c3 : t317 = true
 ·subst c3
  have H1 : ((spec_l08Minute.f a0_1).bind fun t318 => (if t318 = true then ((spec_l08Minute.f a0_2).bind fun t319 => (if t319 = true then (if a0_1 = a0_2 then (some false) else ((spec_l00In.f a0_3 (-1) 5).bind fun t320 => (if t320 = true then ((spec_l00In.f a0_4 1 240).bind fun t321 => (if t321 = true then ((spec_l00In.f a0_5 0 1000).bind fun t322 => (some t322)) else (some false))) else (some false)))) else (some false))) else (some false))) = some r := by rw [if_pos rfl] at H; exact H
  clear H
  have H := H1
  clear H1
  replace H := Option.bind_eq_some_iff.mp H
  obtain ⟨t318, A40, H⟩ := H
  replace H : (if t318 = true then ((spec_l08Minute.f a0_2).bind fun t319 => (if t319 = true then (if a0_1 = a0_2 then (some false) else ((spec_l00In.f a0_3 (-1) 5).bind fun t320 => (if t320 = true then ((spec_l00In.f a0_4 1 240).bind fun t321 => (if t321 = true then ((spec_l00In.f a0_5 0 1000).bind fun t322 => (some t322)) else (some false))) else (some false)))) else (some false))) else (some false)) = some r := H
  have A4 := Aside0.mk A40
  clear A40
  by_cases c5 : t318 = true
  ·subst c5
   have H1 : ((spec_l08Minute.f a0_2).bind fun t319 => (if t319 = true then (if a0_1 = a0_2 then (some false) else ((spec_l00In.f a0_3 (-1) 5).bind fun t320 => (if t320 = true then ((spec_l00In.f a0_4 1 240).bind fun t321 => (if t321 = true then ((spec_l00In.f a0_5 0 1000).bind fun t322 => (some t322)) else (some false))) else (some false)))) else (some false))) = some r := by rw [if_pos rfl] at H; exact H
   clear H
   have H := H1
   clear H1
   replace H := Option.bind_eq_some_iff.mp H
   obtain ⟨t319, A60, H⟩ := H
   replace H : (if t319 = true then (if a0_1 = a0_2 then (some false) else ((spec_l00In.f a0_3 (-1) 5).bind fun t320 => (if t320 = true then ((spec_l00In.f a0_4 1 240).bind fun t321 => (if t321 = true then ((spec_l00In.f a0_5 0 1000).bind fun t322 => (some t322)) else (some false))) else (some false)))) else (some false)) = some r := H
   have A6 := Aside0.mk A60
   clear A60
   by_cases c7 : t319 = true
   ·subst c7
    have H1 : (if a0_1 = a0_2 then (some false) else ((spec_l00In.f a0_3 (-1) 5).bind fun t320 => (if t320 = true then ((spec_l00In.f a0_4 1 240).bind fun t321 => (if t321 = true then ((spec_l00In.f a0_5 0 1000).bind fun t322 => (some t322)) else (some false))) else (some false)))) = some r := by rw [if_pos rfl] at H; exact H
    clear H
    have H := H1
    clear H1
    by_cases c8 : a0_1 = a0_2
    ·rw [if_pos c8] at H
     have c8b0 : (a0_1 == a0_2) = true := beq_iff_eq.mpr c8
     have c8b1 : (a0_1 != a0_2) = false := bne_eq_false_iff_eq.mpr c8
     clear c8
     obtain rfl := Option.some.inj H
     have hcz9_0 : w.cell? g0 = some (.string a0_0) := HBP0.out.1
     have hcz9_1 : w.cell? ⟨g0.block, g0.off + 1, none⟩ = some (.int .i64 a0_1) := HBP0.out.2.1
     have hcz9_2 : w.cell? ⟨g0.block, g0.off + 2, none⟩ = some (.int .i64 a0_2) := HBP0.out.2.2.1
     have hcz9_3 : w.cell? ⟨g0.block, g0.off + 3, none⟩ = some (.int .i64 a0_3) := HBP0.out.2.2.2.1
     have hcz9_4 : w.cell? ⟨g0.block, g0.off + 4, none⟩ = some (.int .i64 a0_4) := HBP0.out.2.2.2.2.1
     have hcz9_5 : w.cell? ⟨g0.block, g0.off + 5, none⟩ = some (.int .i64 a0_5) := HBP0.out.2.2.2.2.2
     go_enter Try.func106, Try.ntmps106
     go_wp2_with (first | (go_at_call 36; (with_reducible refine (spec_l01Name.calls k a0_0 true _ A2.out).mono ?_); rintro e w' ⟨rfl, ⟨nd, rfl⟩⟩; (try first | exact ⟨rfl, _, dN1⟩ | exact ⟨rfl, _, dN2⟩)) | (go_at_call 84; (with_reducible refine (spec_l08Minute.calls a0_1 true _ A4.out).mono ?_); rintro e w' ⟨rfl, ⟨nd, rfl⟩⟩; (try first | exact ⟨rfl, _, dN1⟩ | exact ⟨rfl, _, dN2⟩)) | (go_at_call 84; (with_reducible refine (spec_l08Minute.calls a0_2 true _ A6.out).mono ?_); rintro e w' ⟨rfl, ⟨nd, rfl⟩⟩; (try first | exact ⟨rfl, _, dN1⟩ | exact ⟨rfl, _, dN2⟩)))
     repeat (go_quiet (first | (go_at_call 36; (with_reducible refine (spec_l01Name.calls k a0_0 true _ A2.out).mono ?_); rintro e w' ⟨rfl, ⟨nd, rfl⟩⟩; (try first | exact ⟨rfl, _, dN1⟩ | exact ⟨rfl, _, dN2⟩)) | (go_at_call 84; (with_reducible refine (spec_l08Minute.calls a0_1 true _ A4.out).mono ?_); rintro e w' ⟨rfl, ⟨nd, rfl⟩⟩; (try first | exact ⟨rfl, _, dN1⟩ | exact ⟨rfl, _, dN2⟩)) | (go_at_call 84; (with_reducible refine (spec_l08Minute.calls a0_2 true _ A6.out).mono ?_); rintro e w' ⟨rfl, ⟨nd, rfl⟩⟩; (try first | exact ⟨rfl, _, dN1⟩ | exact ⟨rfl, _, dN2⟩))); try go_wp2_with (first | (go_at_call 36; (with_reducible refine (spec_l01Name.calls k a0_0 true _ A2.out).mono ?_); rintro e w' ⟨rfl, ⟨nd, rfl⟩⟩; (try first | exact ⟨rfl, _, dN1⟩ | exact ⟨rfl, _, dN2⟩)) | (go_at_call 84; (with_reducible refine (spec_l08Minute.calls a0_1 true _ A4.out).mono ?_); rintro e w' ⟨rfl, ⟨nd, rfl⟩⟩; (try first | exact ⟨rfl, _, dN1⟩ | exact ⟨rfl, _, dN2⟩)) | (go_at_call 84; (with_reducible refine (spec_l08Minute.calls a0_2 true _ A6.out).mono ?_); rintro e w' ⟨rfl, ⟨nd, rfl⟩⟩; (try first | exact ⟨rfl, _, dN1⟩ | exact ⟨rfl, _, dN2⟩))))
     go_ret
     exact ⟨by first | rfl | (simp; done) | (simp [*]; done), by repeat (first | exact Drawn0.refl _ | apply Drawn0.step)⟩
    ·rw [if_neg c8] at H
     have c8b0 : (a0_1 == a0_2) = false := beq_eq_false_iff_ne.mpr c8
     have c8b1 : (a0_1 != a0_2) = true := bne_iff_ne.mpr c8
     replace H := Option.bind_eq_some_iff.mp H
     obtain ⟨t320, A100, H⟩ := H
     replace H : (if t320 = true then ((spec_l00In.f a0_4 1 240).bind fun t321 => (if t321 = true then ((spec_l00In.f a0_5 0 1000).bind fun t322 => (some t322)) else (some false))) else (some false)) = some r := H
     have A10 := Aside0.mk A100
     clear A100
     by_cases c11 : t320 = true
     ·subst c11
      have H1 : ((spec_l00In.f a0_4 1 240).bind fun t321 => (if t321 = true then ((spec_l00In.f a0_5 0 1000).bind fun t322 => (some t322)) else (some false))) = some r := by rw [if_pos rfl] at H; exact H
      clear H
      have H := H1
      clear H1
      replace H := Option.bind_eq_some_iff.mp H
      obtain ⟨t321, A120, H⟩ := H
      replace H : (if t321 = true then ((spec_l00In.f a0_5 0 1000).bind fun t322 => (some t322)) else (some false)) = some r := H
      have A12 := Aside0.mk A120
      clear A120
      by_cases c13 : t321 = true
      ·subst c13
       have H1 : ((spec_l00In.f a0_5 0 1000).bind fun t322 => (some t322)) = some r := by rw [if_pos rfl] at H; exact H
       clear H
       have H := H1
       clear H1
       replace H := Option.bind_eq_some_iff.mp H
       obtain ⟨t322, A140, H⟩ := H
       replace H : (some t322) = some r := H
       have A14 := Aside0.mk A140
       clear A140
       obtain rfl := Option.some.inj H
       have hcz15_0 : w.cell? g0 = some (.string a0_0) := HBP0.out.1
       have hcz15_1 : w.cell? ⟨g0.block, g0.off + 1, none⟩ = some (.int .i64 a0_1) := HBP0.out.2.1
       have hcz15_2 : w.cell? ⟨g0.block, g0.off + 2, none⟩ = some (.int .i64 a0_2) := HBP0.out.2.2.1
       have hcz15_3 : w.cell? ⟨g0.block, g0.off + 3, none⟩ = some (.int .i64 a0_3) := HBP0.out.2.2.2.1
       have hcz15_4 : w.cell? ⟨g0.block, g0.off + 4, none⟩ = some (.int .i64 a0_4) := HBP0.out.2.2.2.2.1
       have hcz15_5 : w.cell? ⟨g0.block, g0.off + 5, none⟩ = some (.int .i64 a0_5) := HBP0.out.2.2.2.2.2
       go_enter Try.func106, Try.ntmps106
       go_wp2_with (first | (go_at_call 36; (with_reducible refine (spec_l01Name.calls k a0_0 true _ A2.out).mono ?_); rintro e w' ⟨rfl, ⟨nd, rfl⟩⟩; (try first | exact ⟨rfl, _, dN1⟩ | exact ⟨rfl, _, dN2⟩)) | (go_at_call 84; (with_reducible refine (spec_l08Minute.calls a0_1 true _ A4.out).mono ?_); rintro e w' ⟨rfl, ⟨nd, rfl⟩⟩; (try first | exact ⟨rfl, _, dN1⟩ | exact ⟨rfl, _, dN2⟩)) | (go_at_call 84; (with_reducible refine (spec_l08Minute.calls a0_2 true _ A6.out).mono ?_); rintro e w' ⟨rfl, ⟨nd, rfl⟩⟩; (try first | exact ⟨rfl, _, dN1⟩ | exact ⟨rfl, _, dN2⟩)) | (go_at_call 42; (with_reducible refine (spec_l00In.calls a0_3 (-1) 5 true _ A10.out).mono ?_); rintro e w' ⟨rfl, ⟨nd, rfl⟩⟩; (try first | exact ⟨rfl, _, dN1⟩ | exact ⟨rfl, _, dN2⟩)) | (go_at_call 42; (with_reducible refine (spec_l00In.calls a0_4 1 240 true _ A12.out).mono ?_); rintro e w' ⟨rfl, ⟨nd, rfl⟩⟩; (try first | exact ⟨rfl, _, dN1⟩ | exact ⟨rfl, _, dN2⟩)) | (go_at_call 42; (with_reducible refine (spec_l00In.calls a0_5 0 1000 t322 _ A14.out).mono ?_); rintro e w' ⟨rfl, ⟨nd, rfl⟩⟩; (try first | exact ⟨rfl, _, dN1⟩ | exact ⟨rfl, _, dN2⟩)))
       repeat (go_quiet (first | (go_at_call 36; (with_reducible refine (spec_l01Name.calls k a0_0 true _ A2.out).mono ?_); rintro e w' ⟨rfl, ⟨nd, rfl⟩⟩; (try first | exact ⟨rfl, _, dN1⟩ | exact ⟨rfl, _, dN2⟩)) | (go_at_call 84; (with_reducible refine (spec_l08Minute.calls a0_1 true _ A4.out).mono ?_); rintro e w' ⟨rfl, ⟨nd, rfl⟩⟩; (try first | exact ⟨rfl, _, dN1⟩ | exact ⟨rfl, _, dN2⟩)) | (go_at_call 84; (with_reducible refine (spec_l08Minute.calls a0_2 true _ A6.out).mono ?_); rintro e w' ⟨rfl, ⟨nd, rfl⟩⟩; (try first | exact ⟨rfl, _, dN1⟩ | exact ⟨rfl, _, dN2⟩)) | (go_at_call 42; (with_reducible refine (spec_l00In.calls a0_3 (-1) 5 true _ A10.out).mono ?_); rintro e w' ⟨rfl, ⟨nd, rfl⟩⟩; (try first | exact ⟨rfl, _, dN1⟩ | exact ⟨rfl, _, dN2⟩)) | (go_at_call 42; (with_reducible refine (spec_l00In.calls a0_4 1 240 true _ A12.out).mono ?_); rintro e w' ⟨rfl, ⟨nd, rfl⟩⟩; (try first | exact ⟨rfl, _, dN1⟩ | exact ⟨rfl, _, dN2⟩)) | (go_at_call 42; (with_reducible refine (spec_l00In.calls a0_5 0 1000 t322 _ A14.out).mono ?_); rintro e w' ⟨rfl, ⟨nd, rfl⟩⟩; (try first | exact ⟨rfl, _, dN1⟩ | exact ⟨rfl, _, dN2⟩))); try go_wp2_with (first | (go_at_call 36; (with_reducible refine (spec_l01Name.calls k a0_0 true _ A2.out).mono ?_); rintro e w' ⟨rfl, ⟨nd, rfl⟩⟩; (try first | exact ⟨rfl, _, dN1⟩ | exact ⟨rfl, _, dN2⟩)) | (go_at_call 84; (with_reducible refine (spec_l08Minute.calls a0_1 true _ A4.out).mono ?_); rintro e w' ⟨rfl, ⟨nd, rfl⟩⟩; (try first | exact ⟨rfl, _, dN1⟩ | exact ⟨rfl, _, dN2⟩)) | (go_at_call 84; (with_reducible refine (spec_l08Minute.calls a0_2 true _ A6.out).mono ?_); rintro e w' ⟨rfl, ⟨nd, rfl⟩⟩; (try first | exact ⟨rfl, _, dN1⟩ | exact ⟨rfl, _, dN2⟩)) | (go_at_call 42; (with_reducible refine (spec_l00In.calls a0_3 (-1) 5 true _ A10.out).mono ?_); rintro e w' ⟨rfl, ⟨nd, rfl⟩⟩; (try first | exact ⟨rfl, _, dN1⟩ | exact ⟨rfl, _, dN2⟩)) | (go_at_call 42; (with_reducible refine (spec_l00In.calls a0_4 1 240 true _ A12.out).mono ?_); rintro e w' ⟨rfl, ⟨nd, rfl⟩⟩; (try first | exact ⟨rfl, _, dN1⟩ | exact ⟨rfl, _, dN2⟩)) | (go_at_call 42; (with_reducible refine (spec_l00In.calls a0_5 0 1000 t322 _ A14.out).mono ?_); rintro e w' ⟨rfl, ⟨nd, rfl⟩⟩; (try first | exact ⟨rfl, _, dN1⟩ | exact ⟨rfl, _, dN2⟩))))
       go_ret
       exact ⟨by first | rfl | (simp; done) | (simp [*]; done), by repeat (first | exact Drawn0.refl _ | apply Drawn0.step)⟩
      ·replace c13 := Bool.eq_false_iff.mpr c13
       subst c13
       have H1 : (some false) = some r := by rw [if_neg (show ¬ (false = true) by decide)] at H; exact H
       clear H
       have H := H1
       clear H1
       obtain rfl := Option.some.inj H
       have hcz16_0 : w.cell? g0 = some (.string a0_0) := HBP0.out.1
       have hcz16_1 : w.cell? ⟨g0.block, g0.off + 1, none⟩ = some (.int .i64 a0_1) := HBP0.out.2.1
       have hcz16_2 : w.cell? ⟨g0.block, g0.off + 2, none⟩ = some (.int .i64 a0_2) := HBP0.out.2.2.1
       have hcz16_3 : w.cell? ⟨g0.block, g0.off + 3, none⟩ = some (.int .i64 a0_3) := HBP0.out.2.2.2.1
       have hcz16_4 : w.cell? ⟨g0.block, g0.off + 4, none⟩ = some (.int .i64 a0_4) := HBP0.out.2.2.2.2.1
       have hcz16_5 : w.cell? ⟨g0.block, g0.off + 5, none⟩ = some (.int .i64 a0_5) := HBP0.out.2.2.2.2.2
       go_enter Try.func106, Try.ntmps106
       go_wp2_with (first | (go_at_call 36; (with_reducible refine (spec_l01Name.calls k a0_0 true _ A2.out).mono ?_); rintro e w' ⟨rfl, ⟨nd, rfl⟩⟩; (try first | exact ⟨rfl, _, dN1⟩ | exact ⟨rfl, _, dN2⟩)) | (go_at_call 84; (with_reducible refine (spec_l08Minute.calls a0_1 true _ A4.out).mono ?_); rintro e w' ⟨rfl, ⟨nd, rfl⟩⟩; (try first | exact ⟨rfl, _, dN1⟩ | exact ⟨rfl, _, dN2⟩)) | (go_at_call 84; (with_reducible refine (spec_l08Minute.calls a0_2 true _ A6.out).mono ?_); rintro e w' ⟨rfl, ⟨nd, rfl⟩⟩; (try first | exact ⟨rfl, _, dN1⟩ | exact ⟨rfl, _, dN2⟩)) | (go_at_call 42; (with_reducible refine (spec_l00In.calls a0_3 (-1) 5 true _ A10.out).mono ?_); rintro e w' ⟨rfl, ⟨nd, rfl⟩⟩; (try first | exact ⟨rfl, _, dN1⟩ | exact ⟨rfl, _, dN2⟩)) | (go_at_call 42; (with_reducible refine (spec_l00In.calls a0_4 1 240 false _ A12.out).mono ?_); rintro e w' ⟨rfl, ⟨nd, rfl⟩⟩; (try first | exact ⟨rfl, _, dN1⟩ | exact ⟨rfl, _, dN2⟩)))
       repeat (go_quiet (first | (go_at_call 36; (with_reducible refine (spec_l01Name.calls k a0_0 true _ A2.out).mono ?_); rintro e w' ⟨rfl, ⟨nd, rfl⟩⟩; (try first | exact ⟨rfl, _, dN1⟩ | exact ⟨rfl, _, dN2⟩)) | (go_at_call 84; (with_reducible refine (spec_l08Minute.calls a0_1 true _ A4.out).mono ?_); rintro e w' ⟨rfl, ⟨nd, rfl⟩⟩; (try first | exact ⟨rfl, _, dN1⟩ | exact ⟨rfl, _, dN2⟩)) | (go_at_call 84; (with_reducible refine (spec_l08Minute.calls a0_2 true _ A6.out).mono ?_); rintro e w' ⟨rfl, ⟨nd, rfl⟩⟩; (try first | exact ⟨rfl, _, dN1⟩ | exact ⟨rfl, _, dN2⟩)) | (go_at_call 42; (with_reducible refine (spec_l00In.calls a0_3 (-1) 5 true _ A10.out).mono ?_); rintro e w' ⟨rfl, ⟨nd, rfl⟩⟩; (try first | exact ⟨rfl, _, dN1⟩ | exact ⟨rfl, _, dN2⟩)) | (go_at_call 42; (with_reducible refine (spec_l00In.calls a0_4 1 240 false _ A12.out).mono ?_); rintro e w' ⟨rfl, ⟨nd, rfl⟩⟩; (try first | exact ⟨rfl, _, dN1⟩ | exact ⟨rfl, _, dN2⟩))); try go_wp2_with (first | (go_at_call 36; (with_reducible refine (spec_l01Name.calls k a0_0 true _ A2.out).mono ?_); rintro e w' ⟨rfl, ⟨nd, rfl⟩⟩; (try first | exact ⟨rfl, _, dN1⟩ | exact ⟨rfl, _, dN2⟩)) | (go_at_call 84; (with_reducible refine (spec_l08Minute.calls a0_1 true _ A4.out).mono ?_); rintro e w' ⟨rfl, ⟨nd, rfl⟩⟩; (try first | exact ⟨rfl, _, dN1⟩ | exact ⟨rfl, _, dN2⟩)) | (go_at_call 84; (with_reducible refine (spec_l08Minute.calls a0_2 true _ A6.out).mono ?_); rintro e w' ⟨rfl, ⟨nd, rfl⟩⟩; (try first | exact ⟨rfl, _, dN1⟩ | exact ⟨rfl, _, dN2⟩)) | (go_at_call 42; (with_reducible refine (spec_l00In.calls a0_3 (-1) 5 true _ A10.out).mono ?_); rintro e w' ⟨rfl, ⟨nd, rfl⟩⟩; (try first | exact ⟨rfl, _, dN1⟩ | exact ⟨rfl, _, dN2⟩)) | (go_at_call 42; (with_reducible refine (spec_l00In.calls a0_4 1 240 false _ A12.out).mono ?_); rintro e w' ⟨rfl, ⟨nd, rfl⟩⟩; (try first | exact ⟨rfl, _, dN1⟩ | exact ⟨rfl, _, dN2⟩))))
       go_ret
       exact ⟨by first | rfl | (simp; done) | (simp [*]; done), by repeat (first | exact Drawn0.refl _ | apply Drawn0.step)⟩
     ·replace c11 := Bool.eq_false_iff.mpr c11
      subst c11
      have H1 : (some false) = some r := by rw [if_neg (show ¬ (false = true) by decide)] at H; exact H
      clear H
      have H := H1
      clear H1
      obtain rfl := Option.some.inj H
      have hcz17_0 : w.cell? g0 = some (.string a0_0) := HBP0.out.1
      have hcz17_1 : w.cell? ⟨g0.block, g0.off + 1, none⟩ = some (.int .i64 a0_1) := HBP0.out.2.1
      have hcz17_2 : w.cell? ⟨g0.block, g0.off + 2, none⟩ = some (.int .i64 a0_2) := HBP0.out.2.2.1
      have hcz17_3 : w.cell? ⟨g0.block, g0.off + 3, none⟩ = some (.int .i64 a0_3) := HBP0.out.2.2.2.1
      have hcz17_4 : w.cell? ⟨g0.block, g0.off + 4, none⟩ = some (.int .i64 a0_4) := HBP0.out.2.2.2.2.1
      have hcz17_5 : w.cell? ⟨g0.block, g0.off + 5, none⟩ = some (.int .i64 a0_5) := HBP0.out.2.2.2.2.2
      go_enter Try.func106, Try.ntmps106
      go_wp2_with (first | (go_at_call 36; (with_reducible refine (spec_l01Name.calls k a0_0 true _ A2.out).mono ?_); rintro e w' ⟨rfl, ⟨nd, rfl⟩⟩; (try first | exact ⟨rfl, _, dN1⟩ | exact ⟨rfl, _, dN2⟩)) | (go_at_call 84; (with_reducible refine (spec_l08Minute.calls a0_1 true _ A4.out).mono ?_); rintro e w' ⟨rfl, ⟨nd, rfl⟩⟩; (try first | exact ⟨rfl, _, dN1⟩ | exact ⟨rfl, _, dN2⟩)) | (go_at_call 84; (with_reducible refine (spec_l08Minute.calls a0_2 true _ A6.out).mono ?_); rintro e w' ⟨rfl, ⟨nd, rfl⟩⟩; (try first | exact ⟨rfl, _, dN1⟩ | exact ⟨rfl, _, dN2⟩)) | (go_at_call 42; (with_reducible refine (spec_l00In.calls a0_3 (-1) 5 false _ A10.out).mono ?_); rintro e w' ⟨rfl, ⟨nd, rfl⟩⟩; (try first | exact ⟨rfl, _, dN1⟩ | exact ⟨rfl, _, dN2⟩)))
      repeat (go_quiet (first | (go_at_call 36; (with_reducible refine (spec_l01Name.calls k a0_0 true _ A2.out).mono ?_); rintro e w' ⟨rfl, ⟨nd, rfl⟩⟩; (try first | exact ⟨rfl, _, dN1⟩ | exact ⟨rfl, _, dN2⟩)) | (go_at_call 84; (with_reducible refine (spec_l08Minute.calls a0_1 true _ A4.out).mono ?_); rintro e w' ⟨rfl, ⟨nd, rfl⟩⟩; (try first | exact ⟨rfl, _, dN1⟩ | exact ⟨rfl, _, dN2⟩)) | (go_at_call 84; (with_reducible refine (spec_l08Minute.calls a0_2 true _ A6.out).mono ?_); rintro e w' ⟨rfl, ⟨nd, rfl⟩⟩; (try first | exact ⟨rfl, _, dN1⟩ | exact ⟨rfl, _, dN2⟩)) | (go_at_call 42; (with_reducible refine (spec_l00In.calls a0_3 (-1) 5 false _ A10.out).mono ?_); rintro e w' ⟨rfl, ⟨nd, rfl⟩⟩; (try first | exact ⟨rfl, _, dN1⟩ | exact ⟨rfl, _, dN2⟩))); try go_wp2_with (first | (go_at_call 36; (with_reducible refine (spec_l01Name.calls k a0_0 true _ A2.out).mono ?_); rintro e w' ⟨rfl, ⟨nd, rfl⟩⟩; (try first | exact ⟨rfl, _, dN1⟩ | exact ⟨rfl, _, dN2⟩)) | (go_at_call 84; (with_reducible refine (spec_l08Minute.calls a0_1 true _ A4.out).mono ?_); rintro e w' ⟨rfl, ⟨nd, rfl⟩⟩; (try first | exact ⟨rfl, _, dN1⟩ | exact ⟨rfl, _, dN2⟩)) | (go_at_call 84; (with_reducible refine (spec_l08Minute.calls a0_2 true _ A6.out).mono ?_); rintro e w' ⟨rfl, ⟨nd, rfl⟩⟩; (try first | exact ⟨rfl, _, dN1⟩ | exact ⟨rfl, _, dN2⟩)) | (go_at_call 42; (with_reducible refine (spec_l00In.calls a0_3 (-1) 5 false _ A10.out).mono ?_); rintro e w' ⟨rfl, ⟨nd, rfl⟩⟩; (try first | exact ⟨rfl, _, dN1⟩ | exact ⟨rfl, _, dN2⟩))))
      go_ret
      exact ⟨by first | rfl | (simp; done) | (simp [*]; done), by repeat (first | exact Drawn0.refl _ | apply Drawn0.step)⟩
   ·replace c7 := Bool.eq_false_iff.mpr c7
    subst c7
    have H1 : (some false) = some r := by rw [if_neg (show ¬ (false = true) by decide)] at H; exact H
    clear H
    have H := H1
    clear H1
    obtain rfl := Option.some.inj H
    have hcz18_0 : w.cell? g0 = some (.string a0_0) := HBP0.out.1
    have hcz18_1 : w.cell? ⟨g0.block, g0.off + 1, none⟩ = some (.int .i64 a0_1) := HBP0.out.2.1
    have hcz18_2 : w.cell? ⟨g0.block, g0.off + 2, none⟩ = some (.int .i64 a0_2) := HBP0.out.2.2.1
    have hcz18_3 : w.cell? ⟨g0.block, g0.off + 3, none⟩ = some (.int .i64 a0_3) := HBP0.out.2.2.2.1
    have hcz18_4 : w.cell? ⟨g0.block, g0.off + 4, none⟩ = some (.int .i64 a0_4) := HBP0.out.2.2.2.2.1
    have hcz18_5 : w.cell? ⟨g0.block, g0.off + 5, none⟩ = some (.int .i64 a0_5) := HBP0.out.2.2.2.2.2
    go_enter Try.func106, Try.ntmps106
    go_wp2_with (first | (go_at_call 36; (with_reducible refine (spec_l01Name.calls k a0_0 true _ A2.out).mono ?_); rintro e w' ⟨rfl, ⟨nd, rfl⟩⟩; (try first | exact ⟨rfl, _, dN1⟩ | exact ⟨rfl, _, dN2⟩)) | (go_at_call 84; (with_reducible refine (spec_l08Minute.calls a0_1 true _ A4.out).mono ?_); rintro e w' ⟨rfl, ⟨nd, rfl⟩⟩; (try first | exact ⟨rfl, _, dN1⟩ | exact ⟨rfl, _, dN2⟩)) | (go_at_call 84; (with_reducible refine (spec_l08Minute.calls a0_2 false _ A6.out).mono ?_); rintro e w' ⟨rfl, ⟨nd, rfl⟩⟩; (try first | exact ⟨rfl, _, dN1⟩ | exact ⟨rfl, _, dN2⟩)))
    repeat (go_quiet (first | (go_at_call 36; (with_reducible refine (spec_l01Name.calls k a0_0 true _ A2.out).mono ?_); rintro e w' ⟨rfl, ⟨nd, rfl⟩⟩; (try first | exact ⟨rfl, _, dN1⟩ | exact ⟨rfl, _, dN2⟩)) | (go_at_call 84; (with_reducible refine (spec_l08Minute.calls a0_1 true _ A4.out).mono ?_); rintro e w' ⟨rfl, ⟨nd, rfl⟩⟩; (try first | exact ⟨rfl, _, dN1⟩ | exact ⟨rfl, _, dN2⟩)) | (go_at_call 84; (with_reducible refine (spec_l08Minute.calls a0_2 false _ A6.out).mono ?_); rintro e w' ⟨rfl, ⟨nd, rfl⟩⟩; (try first | exact ⟨rfl, _, dN1⟩ | exact ⟨rfl, _, dN2⟩))); try go_wp2_with (first | (go_at_call 36; (with_reducible refine (spec_l01Name.calls k a0_0 true _ A2.out).mono ?_); rintro e w' ⟨rfl, ⟨nd, rfl⟩⟩; (try first | exact ⟨rfl, _, dN1⟩ | exact ⟨rfl, _, dN2⟩)) | (go_at_call 84; (with_reducible refine (spec_l08Minute.calls a0_1 true _ A4.out).mono ?_); rintro e w' ⟨rfl, ⟨nd, rfl⟩⟩; (try first | exact ⟨rfl, _, dN1⟩ | exact ⟨rfl, _, dN2⟩)) | (go_at_call 84; (with_reducible refine (spec_l08Minute.calls a0_2 false _ A6.out).mono ?_); rintro e w' ⟨rfl, ⟨nd, rfl⟩⟩; (try first | exact ⟨rfl, _, dN1⟩ | exact ⟨rfl, _, dN2⟩))))
    go_ret
    exact ⟨by first | rfl | (simp; done) | (simp [*]; done), by repeat (first | exact Drawn0.refl _ | apply Drawn0.step)⟩
  ·replace c5 := Bool.eq_false_iff.mpr c5
   subst c5
   have H1 : (some false) = some r := by rw [if_neg (show ¬ (false = true) by decide)] at H; exact H
   clear H
   have H := H1
   clear H1
   obtain rfl := Option.some.inj H
   have hcz19_0 : w.cell? g0 = some (.string a0_0) := HBP0.out.1
   have hcz19_1 : w.cell? ⟨g0.block, g0.off + 1, none⟩ = some (.int .i64 a0_1) := HBP0.out.2.1
   have hcz19_2 : w.cell? ⟨g0.block, g0.off + 2, none⟩ = some (.int .i64 a0_2) := HBP0.out.2.2.1
   have hcz19_3 : w.cell? ⟨g0.block, g0.off + 3, none⟩ = some (.int .i64 a0_3) := HBP0.out.2.2.2.1
   have hcz19_4 : w.cell? ⟨g0.block, g0.off + 4, none⟩ = some (.int .i64 a0_4) := HBP0.out.2.2.2.2.1
   have hcz19_5 : w.cell? ⟨g0.block, g0.off + 5, none⟩ = some (.int .i64 a0_5) := HBP0.out.2.2.2.2.2
   go_enter Try.func106, Try.ntmps106
   go_wp2_with (first | (go_at_call 36; (with_reducible refine (spec_l01Name.calls k a0_0 true _ A2.out).mono ?_); rintro e w' ⟨rfl, ⟨nd, rfl⟩⟩; (try first | exact ⟨rfl, _, dN1⟩ | exact ⟨rfl, _, dN2⟩)) | (go_at_call 84; (with_reducible refine (spec_l08Minute.calls a0_1 false _ A4.out).mono ?_); rintro e w' ⟨rfl, ⟨nd, rfl⟩⟩; (try first | exact ⟨rfl, _, dN1⟩ | exact ⟨rfl, _, dN2⟩)))
   repeat (go_quiet (first | (go_at_call 36; (with_reducible refine (spec_l01Name.calls k a0_0 true _ A2.out).mono ?_); rintro e w' ⟨rfl, ⟨nd, rfl⟩⟩; (try first | exact ⟨rfl, _, dN1⟩ | exact ⟨rfl, _, dN2⟩)) | (go_at_call 84; (with_reducible refine (spec_l08Minute.calls a0_1 false _ A4.out).mono ?_); rintro e w' ⟨rfl, ⟨nd, rfl⟩⟩; (try first | exact ⟨rfl, _, dN1⟩ | exact ⟨rfl, _, dN2⟩))); try go_wp2_with (first | (go_at_call 36; (with_reducible refine (spec_l01Name.calls k a0_0 true _ A2.out).mono ?_); rintro e w' ⟨rfl, ⟨nd, rfl⟩⟩; (try first | exact ⟨rfl, _, dN1⟩ | exact ⟨rfl, _, dN2⟩)) | (go_at_call 84; (with_reducible refine (spec_l08Minute.calls a0_1 false _ A4.out).mono ?_); rintro e w' ⟨rfl, ⟨nd, rfl⟩⟩; (try first | exact ⟨rfl, _, dN1⟩ | exact ⟨rfl, _, dN2⟩))))
   go_ret
   exact ⟨by first | rfl | (simp; done) | (simp [*]; done), by repeat (first | exact Drawn0.refl _ | apply Drawn0.step)⟩
 ·replace c3 := Bool.eq_false_iff.mpr c3
  subst c3
  have H1 : (some false) = some r := by rw [if_neg (show ¬ (false = true) by decide)] at H; exact H
  clear H
  have H := H1
  clear H1
  obtain rfl := Option.some.inj H
  have hcz20_0 : w.cell? g0 = some (.string a0_0) := HBP0.out.1
  have hcz20_1 : w.cell? ⟨g0.block, g0.off + 1, none⟩ = some (.int .i64 a0_1) := HBP0.out.2.1
  have hcz20_2 : w.cell? ⟨g0.block, g0.off + 2, none⟩ = some (.int .i64 a0_2) := HBP0.out.2.2.1
  have hcz20_3 : w.cell? ⟨g0.block, g0.off + 3, none⟩ = some (.int .i64 a0_3) := HBP0.out.2.2.2.1
  have hcz20_4 : w.cell? ⟨g0.block, g0.off + 4, none⟩ = some (.int .i64 a0_4) := HBP0.out.2.2.2.2.1
  have hcz20_5 : w.cell? ⟨g0.block, g0.off + 5, none⟩ = some (.int .i64 a0_5) := HBP0.out.2.2.2.2.2
  go_enter Try.func106, Try.ntmps106
  go_wp2_with (first | (go_at_call 36; (with_reducible refine (spec_l01Name.calls k a0_0 false _ A2.out).mono ?_); rintro e w' ⟨rfl, ⟨nd, rfl⟩⟩; (try first | exact ⟨rfl, _, dN1⟩ | exact ⟨rfl, _, dN2⟩)))
  repeat (go_quiet (first | (go_at_call 36; (with_reducible refine (spec_l01Name.calls k a0_0 false _ A2.out).mono ?_); rintro e w' ⟨rfl, ⟨nd, rfl⟩⟩; (try first | exact ⟨rfl, _, dN1⟩ | exact ⟨rfl, _, dN2⟩))); try go_wp2_with (first | (go_at_call 36; (with_reducible refine (spec_l01Name.calls k a0_0 false _ A2.out).mono ?_); rintro e w' ⟨rfl, ⟨nd, rfl⟩⟩; (try first | exact ⟨rfl, _, dN1⟩ | exact ⟨rfl, _, dN2⟩))))
  go_ret
  exact ⟨by first | rfl | (simp; done) | (simp [*]; done), by repeat (first | exact Drawn0.refl _ | apply Drawn0.step)⟩
end Go.Proofs.Ytgdiabfmjcejdaa.P
end

section
namespace Go.Proofs.Ytgdiabfmjcejdaa.P
open Go.RowKit Go.Proofs.YtgdiabfmjcejdaaW.PrintWords Go.Proofs.YtgdiabfmjcejdaaW.PrintLast Go.Proofs.YtgdiabfmjcejdaaW.PrintMore
attribute [local go_sem] max2_int min2_int max_two min_two max_three min_three max_four min_four   -- for this text's walks alone
set_option linter.unusedVariables false
set_option linter.unusedSimpArgs false

/-! ### spec_l08Ok: function 83 -/
attribute [local go_sem] str_leq str_gtr str_geq
def spec_l08Ok.l0 : Nat → List (S75) → Int → Option (Bool)
 | 0, _, _ => none
 | k + 1, x0, x3 => if x3 < (x0.length : Int) then (if 0 ≤ x3 then ((spec_l08One.f k ((rd_T75 x0 x3).f0) ((rd_T75 x0 x3).f1) ((rd_T75 x0 x3).f2) ((rd_T75 x0 x3).f3) ((rd_T75 x0 x3).f4) ((rd_T75 x0 x3).f5)).bind fun t324 => (if t324 = true then (if x3 > 0 then (if 0 ≤ (wrap64 (x3 - 1)) then (if (wrap64 (x3 - 1)) < (x0.length : Int) then (if ((Op.bytesLess (((rd_T75 x0 (wrap64 (x3 - 1))).f0).toList) (((rd_T75 x0 x3).f0).toList)) = true) then (spec_l08Ok.l0 k x0 (wrap64 (x3 + 1))) else (some false)) else (none)) else (none)) else (spec_l08Ok.l0 k x0 (wrap64 (x3 + 1)))) else (some false))) else (none)) else (some (decide ((x0.length : Int) ≤ 12)))
def spec_l08Ok.f (k : Nat) (l0 : List (S75)) : Option (Bool) := spec_l08Ok.l0 k l0 0
set_option maxHeartbeats 8000000 in
set_option maxRecDepth 100000 in
theorem spec_l08Ok.calls (k : Nat) (A0 : Option Addr) (c0 : Nat) (l0 : List (S75)) (r : Bool) (w : World) (hr0 : Kd.C k75 w A0 l0.length l0) (hc0 : l0.length ≤ c0) (h : spec_l08Ok.f k l0 = some r) :
  Calls Try.prog 83 #[.slice A0 l0.length c0] w fun e w' => e = .returned (.bool r) ∧ Drawn0 w w' := by
 have HR0 := Aside0.mk hr0
 have HC0 := Aside0.mk hc0
 clear hr0 hc0
 have H : (spec_l08Ok.l0 k l0 0) = some r := h
 clear h
 have H' := Aside0.mk H
 clear H
 go_enter Try.func83, Try.ntmps83
 go_wp2
 repeat (go_quiet (fail); try go_wp2)
 go_loopg [3] k (fun kq v3 w' => ∃ (x3_1 : Int), v3 = .int .i64 x3_1 ∧ Aside0 (spec_l08Ok.l0 kq l0 x3_1 = some r) ∧ Aside0 (kq ≤ k) ∧ Drawn0 w w')
 case atStart => exact ⟨(0), (by first | rfl | (simp; done) | (simp [*]; done)), H', ⟨Nat.le_refl _⟩, by repeat (first | exact Drawn0.refl _ | apply Drawn0.step)⟩
 case round =>
  clear H'
  obtain ⟨x3_1, rfl, HA, HK1, ⟨m1, rfl⟩⟩ := hrel
  cases gk with
  | zero => exact absurd HA.out (by simp [spec_l08Ok.l0])
  | succ k1 =>
   have H := HA.out
   clear HA
   simp only [spec_l08Ok.l0] at H
   by_cases c2 : x3_1 < (l0.length : Int)
   ·rw [if_pos c2] at H
    have c2b0 : decide (x3_1 < (l0.length : Int)) = true := decide_eq_true c2
    clear c2
    by_cases c3 : 0 ≤ x3_1
    ·rw [if_pos c3] at H
     have c3b0 : decide (0 ≤ x3_1) = true := decide_eq_true c3
     clear c3
     replace H := Option.bind_eq_some_iff.mp H
     obtain ⟨t324, A40, H⟩ := H
     replace H : (if t324 = true then (if x3_1 > 0 then (if 0 ≤ (wrap64 (x3_1 - 1)) then (if (wrap64 (x3_1 - 1)) < (l0.length : Int) then (if ((Op.bytesLess (((rd_T75 l0 (wrap64 (x3_1 - 1))).f0).toList) (((rd_T75 l0 x3_1).f0).toList)) = true) then (spec_l08Ok.l0 k1 l0 (wrap64 (x3_1 + 1))) else (some false)) else (none)) else (none)) else (spec_l08Ok.l0 k1 l0 (wrap64 (x3_1 + 1)))) else (some false)) = some r := H
     have A4 := Aside0.mk A40
     clear A40
     by_cases c5 : t324 = true
     ·subst c5
      have H1 : (if x3_1 > 0 then (if 0 ≤ (wrap64 (x3_1 - 1)) then (if (wrap64 (x3_1 - 1)) < (l0.length : Int) then (if ((Op.bytesLess (((rd_T75 l0 (wrap64 (x3_1 - 1))).f0).toList) (((rd_T75 l0 x3_1).f0).toList)) = true) then (spec_l08Ok.l0 k1 l0 (wrap64 (x3_1 + 1))) else (some false)) else (none)) else (none)) else (spec_l08Ok.l0 k1 l0 (wrap64 (x3_1 + 1)))) = some r := by rw [if_pos rfl] at H; exact H
      clear H
      have H := H1
      clear H1
      by_cases c6 : x3_1 > 0
      ·rw [if_pos c6] at H
       have c6b0 : decide (0 < x3_1) = true := decide_eq_true c6
       clear c6
       obtain ⟨ji7, hji7⟩ : ∃ j_ : Int, (wrap64 (x3_1 - 1)) = j_ := ⟨_, rfl⟩
       replace H : (if 0 ≤ (ji7) then (if (ji7) < (l0.length : Int) then (if ((Op.bytesLess (((rd_T75 l0 (ji7)).f0).toList) (((rd_T75 l0 x3_1).f0).toList)) = true) then (spec_l08Ok.l0 k1 l0 (wrap64 (x3_1 + 1))) else (some false)) else (none)) else (none)) = some r := by first | (rw [hji7] at H; exact H) | (simp only [hji7] at H ⊢; exact H)
       (try rw [hji7] at A4)
       have hji7w : (IntKind.i64.wrap (x3_1 - 1)) = ji7 := (i64_w _).trans hji7
       by_cases c8 : 0 ≤ (ji7)
       ·rw [if_pos c8] at H
        have c8b0 : decide (0 ≤ (ji7)) = true := decide_eq_true c8
        clear c8
        by_cases c9 : (ji7) < (l0.length : Int)
        ·rw [if_pos c9] at H
         have c9b0 : decide ((ji7) < (l0.length : Int)) = true := decide_eq_true c9
         clear c9
         by_cases c10 : ((Op.bytesLess (((rd_T75 l0 (ji7)).f0).toList) (((rd_T75 l0 x3_1).f0).toList)) = true)
         ·rw [if_pos c10] at H
          have c10b0 : (Op.bytesLess (((rd_T75 l0 (ji7)).f0).toList) (((rd_T75 l0 x3_1).f0).toList)) = true := c10
          clear c10
          have H' := Aside0.mk H
          clear H
          have p323 : 0 ≤ (x3_1 : Int) := of_decide_eq_true (by assumption)
          have q323 : x3_1 < (l0.length : Int) := of_decide_eq_true (by assumption)
          obtain ⟨ad323, e323, hx323_0, hx323_1, hx323_2, hx323_3, hx323_4, hx323_5⟩ := at_T75 HR0.out x3_1 p323 q323
          cases e323
          replace p323 := eq_true p323
          replace q323 := eq_true q323
          go_wp2_with (first | (go_at_call 106; (with_reducible refine (spec_l08One.calls k1 (ad323.add ((x3_1 : Int).toNat * 6)) ((rd_T75 l0 x3_1).f0) ((rd_T75 l0 x3_1).f1) ((rd_T75 l0 x3_1).f2) ((rd_T75 l0 x3_1).f3) ((rd_T75 l0 x3_1).f4) ((rd_T75 l0 x3_1).f5) true _ ?side1 A4.out).mono ?_); (case side1 => exact ⟨hx323_0, hx323_1, hx323_2, hx323_3, hx323_4, hx323_5⟩); rintro e w' ⟨rfl, ⟨nd, rfl⟩⟩; (try first | exact ⟨rfl, _, dN1⟩ | exact ⟨rfl, _, dN2⟩); have p325 : 0 ≤ ((ji7) : Int) := of_decide_eq_true (by assumption); have q325 : (ji7) < (l0.length : Int) := of_decide_eq_true (by assumption); obtain ⟨ad325, e325, hx325_0, hx325_1, hx325_2, hx325_3, hx325_4, hx325_5⟩ := at_T75 HR0.out (ji7) p325 q325; obtain rfl : ad323 = ad325 := (by injection e325); replace p325 := eq_true p325; replace q325 := eq_true q325; have p326 : 0 ≤ (x3_1 : Int) := of_decide_eq_true (by assumption); have q326 : x3_1 < (l0.length : Int) := of_decide_eq_true (by assumption); obtain ⟨ad326, e326, hx326_0, hx326_1, hx326_2, hx326_3, hx326_4, hx326_5⟩ := at_T75 HR0.out x3_1 p326 q326; obtain rfl : ad323 = ad326 := (by injection e326); replace p326 := eq_true p326; replace q326 := eq_true q326))
          repeat (go_quiet (first | (go_at_call 106; (with_reducible refine (spec_l08One.calls k1 (ad323.add ((x3_1 : Int).toNat * 6)) ((rd_T75 l0 x3_1).f0) ((rd_T75 l0 x3_1).f1) ((rd_T75 l0 x3_1).f2) ((rd_T75 l0 x3_1).f3) ((rd_T75 l0 x3_1).f4) ((rd_T75 l0 x3_1).f5) true _ ?side1 A4.out).mono ?_); (case side1 => exact ⟨hx323_0, hx323_1, hx323_2, hx323_3, hx323_4, hx323_5⟩); rintro e w' ⟨rfl, ⟨nd, rfl⟩⟩; (try first | exact ⟨rfl, _, dN1⟩ | exact ⟨rfl, _, dN2⟩); have p325 : 0 ≤ ((ji7) : Int) := of_decide_eq_true (by assumption); have q325 : (ji7) < (l0.length : Int) := of_decide_eq_true (by assumption); obtain ⟨ad325, e325, hx325_0, hx325_1, hx325_2, hx325_3, hx325_4, hx325_5⟩ := at_T75 HR0.out (ji7) p325 q325; obtain rfl : ad323 = ad325 := (by injection e325); replace p325 := eq_true p325; replace q325 := eq_true q325; have p326 : 0 ≤ (x3_1 : Int) := of_decide_eq_true (by assumption); have q326 : x3_1 < (l0.length : Int) := of_decide_eq_true (by assumption); obtain ⟨ad326, e326, hx326_0, hx326_1, hx326_2, hx326_3, hx326_4, hx326_5⟩ := at_T75 HR0.out x3_1 p326 q326; obtain rfl : ad323 = ad326 := (by injection e326); replace p326 := eq_true p326; replace q326 := eq_true q326)); try go_wp2_with (first | (go_at_call 106; (with_reducible refine (spec_l08One.calls k1 (ad323.add ((x3_1 : Int).toNat * 6)) ((rd_T75 l0 x3_1).f0) ((rd_T75 l0 x3_1).f1) ((rd_T75 l0 x3_1).f2) ((rd_T75 l0 x3_1).f3) ((rd_T75 l0 x3_1).f4) ((rd_T75 l0 x3_1).f5) true _ ?side1 A4.out).mono ?_); (case side1 => exact ⟨hx323_0, hx323_1, hx323_2, hx323_3, hx323_4, hx323_5⟩); rintro e w' ⟨rfl, ⟨nd, rfl⟩⟩; (try first | exact ⟨rfl, _, dN1⟩ | exact ⟨rfl, _, dN2⟩); have p325 : 0 ≤ ((ji7) : Int) := of_decide_eq_true (by assumption); have q325 : (ji7) < (l0.length : Int) := of_decide_eq_true (by assumption); obtain ⟨ad325, e325, hx325_0, hx325_1, hx325_2, hx325_3, hx325_4, hx325_5⟩ := at_T75 HR0.out (ji7) p325 q325; obtain rfl : ad323 = ad325 := (by injection e325); replace p325 := eq_true p325; replace q325 := eq_true q325; have p326 : 0 ≤ (x3_1 : Int) := of_decide_eq_true (by assumption); have q326 : x3_1 < (l0.length : Int) := of_decide_eq_true (by assumption); obtain ⟨ad326, e326, hx326_0, hx326_1, hx326_2, hx326_3, hx326_4, hx326_5⟩ := at_T75 HR0.out x3_1 p326 q326; obtain rfl : ad323 = ad326 := (by injection e326); replace p326 := eq_true p326; replace q326 := eq_true q326)))
          go_roundg k1
          case measure => have := HK1.out; omega
          case rel => exact ⟨(wrap64 (x3_1 + 1)), (by first | rfl | (simp; done) | (simp [*]; done)), H', ⟨by have := HK1.out; omega⟩, by repeat (first | exact Drawn0.refl _ | apply Drawn0.step)⟩
         ·rw [if_neg c10] at H
          have c10b0 : (Op.bytesLess (((rd_T75 l0 (ji7)).f0).toList) (((rd_T75 l0 x3_1).f0).toList)) = false := by simpa using c10
          clear c10
          obtain rfl := Option.some.inj H
          have p323 : 0 ≤ (x3_1 : Int) := of_decide_eq_true (by assumption)
          have q323 : x3_1 < (l0.length : Int) := of_decide_eq_true (by assumption)
          obtain ⟨ad323, e323, hx323_0, hx323_1, hx323_2, hx323_3, hx323_4, hx323_5⟩ := at_T75 HR0.out x3_1 p323 q323
          cases e323
          replace p323 := eq_true p323
          replace q323 := eq_true q323
          go_wp2_with (first | (go_at_call 106; (with_reducible refine (spec_l08One.calls k1 (ad323.add ((x3_1 : Int).toNat * 6)) ((rd_T75 l0 x3_1).f0) ((rd_T75 l0 x3_1).f1) ((rd_T75 l0 x3_1).f2) ((rd_T75 l0 x3_1).f3) ((rd_T75 l0 x3_1).f4) ((rd_T75 l0 x3_1).f5) true _ ?side1 A4.out).mono ?_); (case side1 => exact ⟨hx323_0, hx323_1, hx323_2, hx323_3, hx323_4, hx323_5⟩); rintro e w' ⟨rfl, ⟨nd, rfl⟩⟩; (try first | exact ⟨rfl, _, dN1⟩ | exact ⟨rfl, _, dN2⟩); have p325 : 0 ≤ ((ji7) : Int) := of_decide_eq_true (by assumption); have q325 : (ji7) < (l0.length : Int) := of_decide_eq_true (by assumption); obtain ⟨ad325, e325, hx325_0, hx325_1, hx325_2, hx325_3, hx325_4, hx325_5⟩ := at_T75 HR0.out (ji7) p325 q325; obtain rfl : ad323 = ad325 := (by injection e325); replace p325 := eq_true p325; replace q325 := eq_true q325; have p326 : 0 ≤ (x3_1 : Int) := of_decide_eq_true (by assumption); have q326 : x3_1 < (l0.length : Int) := of_decide_eq_true (by assumption); obtain ⟨ad326, e326, hx326_0, hx326_1, hx326_2, hx326_3, hx326_4, hx326_5⟩ := at_T75 HR0.out x3_1 p326 q326; obtain rfl : ad323 = ad326 := (by injection e326); replace p326 := eq_true p326; replace q326 := eq_true q326))
          repeat (go_quiet (first | (go_at_call 106; (with_reducible refine (spec_l08One.calls k1 (ad323.add ((x3_1 : Int).toNat * 6)) ((rd_T75 l0 x3_1).f0) ((rd_T75 l0 x3_1).f1) ((rd_T75 l0 x3_1).f2) ((rd_T75 l0 x3_1).f3) ((rd_T75 l0 x3_1).f4) ((rd_T75 l0 x3_1).f5) true _ ?side1 A4.out).mono ?_); (case side1 => exact ⟨hx323_0, hx323_1, hx323_2, hx323_3, hx323_4, hx323_5⟩); rintro e w' ⟨rfl, ⟨nd, rfl⟩⟩; (try first | exact ⟨rfl, _, dN1⟩ | exact ⟨rfl, _, dN2⟩); have p325 : 0 ≤ ((ji7) : Int) := of_decide_eq_true (by assumption); have q325 : (ji7) < (l0.length : Int) := of_decide_eq_true (by assumption); obtain ⟨ad325, e325, hx325_0, hx325_1, hx325_2, hx325_3, hx325_4, hx325_5⟩ := at_T75 HR0.out (ji7) p325 q325; obtain rfl : ad323 = ad325 := (by injection e325); replace p325 := eq_true p325; replace q325 := eq_true q325; have p326 : 0 ≤ (x3_1 : Int) := of_decide_eq_true (by assumption); have q326 : x3_1 < (l0.length : Int) := of_decide_eq_true (by assumption); obtain ⟨ad326, e326, hx326_0, hx326_1, hx326_2, hx326_3, hx326_4, hx326_5⟩ := at_T75 HR0.out x3_1 p326 q326; obtain rfl : ad323 = ad326 := (by injection e326); replace p326 := eq_true p326; replace q326 := eq_true q326)); try go_wp2_with (first | (go_at_call 106; (with_reducible refine (spec_l08One.calls k1 (ad323.add ((x3_1 : Int).toNat * 6)) ((rd_T75 l0 x3_1).f0) ((rd_T75 l0 x3_1).f1) ((rd_T75 l0 x3_1).f2) ((rd_T75 l0 x3_1).f3) ((rd_T75 l0 x3_1).f4) ((rd_T75 l0 x3_1).f5) true _ ?side1 A4.out).mono ?_); (case side1 => exact ⟨hx323_0, hx323_1, hx323_2, hx323_3, hx323_4, hx323_5⟩); rintro e w' ⟨rfl, ⟨nd, rfl⟩⟩; (try first | exact ⟨rfl, _, dN1⟩ | exact ⟨rfl, _, dN2⟩); have p325 : 0 ≤ ((ji7) : Int) := of_decide_eq_true (by assumption); have q325 : (ji7) < (l0.length : Int) := of_decide_eq_true (by assumption); obtain ⟨ad325, e325, hx325_0, hx325_1, hx325_2, hx325_3, hx325_4, hx325_5⟩ := at_T75 HR0.out (ji7) p325 q325; obtain rfl : ad323 = ad325 := (by injection e325); replace p325 := eq_true p325; replace q325 := eq_true q325; have p326 : 0 ≤ (x3_1 : Int) := of_decide_eq_true (by assumption); have q326 : x3_1 < (l0.length : Int) := of_decide_eq_true (by assumption); obtain ⟨ad326, e326, hx326_0, hx326_1, hx326_2, hx326_3, hx326_4, hx326_5⟩ := at_T75 HR0.out x3_1 p326 q326; obtain rfl : ad323 = ad326 := (by injection e326); replace p326 := eq_true p326; replace q326 := eq_true q326)))
          go_ret
          exact ⟨by first | rfl | (simp; done) | (simp only [← hji7] <;> (first | rfl | simp)) | (simp [*]; done), by repeat (first | exact Drawn0.refl _ | apply Drawn0.step)⟩
        ·rw [if_neg c9] at H
         exact absurd H (by simp)
       ·rw [if_neg c8] at H
        exact absurd H (by simp)
      ·rw [if_neg c6] at H
       have c6b0 : decide (0 < x3_1) = false := decide_eq_false c6
       clear c6
       have H' := Aside0.mk H
       clear H
       have p323 : 0 ≤ (x3_1 : Int) := of_decide_eq_true (by assumption)
       have q323 : x3_1 < (l0.length : Int) := of_decide_eq_true (by assumption)
       obtain ⟨ad323, e323, hx323_0, hx323_1, hx323_2, hx323_3, hx323_4, hx323_5⟩ := at_T75 HR0.out x3_1 p323 q323
       cases e323
       replace p323 := eq_true p323
       replace q323 := eq_true q323
       go_wp2_with (first | (go_at_call 106; (with_reducible refine (spec_l08One.calls k1 (ad323.add ((x3_1 : Int).toNat * 6)) ((rd_T75 l0 x3_1).f0) ((rd_T75 l0 x3_1).f1) ((rd_T75 l0 x3_1).f2) ((rd_T75 l0 x3_1).f3) ((rd_T75 l0 x3_1).f4) ((rd_T75 l0 x3_1).f5) true _ ?side1 A4.out).mono ?_); (case side1 => exact ⟨hx323_0, hx323_1, hx323_2, hx323_3, hx323_4, hx323_5⟩); rintro e w' ⟨rfl, ⟨nd, rfl⟩⟩; (try first | exact ⟨rfl, _, dN1⟩ | exact ⟨rfl, _, dN2⟩)))
       repeat (go_quiet (first | (go_at_call 106; (with_reducible refine (spec_l08One.calls k1 (ad323.add ((x3_1 : Int).toNat * 6)) ((rd_T75 l0 x3_1).f0) ((rd_T75 l0 x3_1).f1) ((rd_T75 l0 x3_1).f2) ((rd_T75 l0 x3_1).f3) ((rd_T75 l0 x3_1).f4) ((rd_T75 l0 x3_1).f5) true _ ?side1 A4.out).mono ?_); (case side1 => exact ⟨hx323_0, hx323_1, hx323_2, hx323_3, hx323_4, hx323_5⟩); rintro e w' ⟨rfl, ⟨nd, rfl⟩⟩; (try first | exact ⟨rfl, _, dN1⟩ | exact ⟨rfl, _, dN2⟩))); try go_wp2_with (first | (go_at_call 106; (with_reducible refine (spec_l08One.calls k1 (ad323.add ((x3_1 : Int).toNat * 6)) ((rd_T75 l0 x3_1).f0) ((rd_T75 l0 x3_1).f1) ((rd_T75 l0 x3_1).f2) ((rd_T75 l0 x3_1).f3) ((rd_T75 l0 x3_1).f4) ((rd_T75 l0 x3_1).f5) true _ ?side1 A4.out).mono ?_); (case side1 => exact ⟨hx323_0, hx323_1, hx323_2, hx323_3, hx323_4, hx323_5⟩); rintro e w' ⟨rfl, ⟨nd, rfl⟩⟩; (try first | exact ⟨rfl, _, dN1⟩ | exact ⟨rfl, _, dN2⟩))))
       go_roundg k1
       case measure => have := HK1.out; omega
       case rel => exact ⟨(wrap64 (x3_1 + 1)), (by first | rfl | (simp; done) | (simp [*]; done)), H', ⟨by have := HK1.out; omega⟩, by repeat (first | exact Drawn0.refl _ | apply Drawn0.step)⟩
     ·replace c5 := Bool.eq_false_iff.mpr c5
      subst c5
      have H1 : (some false) = some r := by rw [if_neg (show ¬ (false = true) by decide)] at H; exact H
      clear H
      have H := H1
      clear H1
      obtain rfl := Option.some.inj H
      have p323 : 0 ≤ (x3_1 : Int) := of_decide_eq_true (by assumption)
      have q323 : x3_1 < (l0.length : Int) := of_decide_eq_true (by assumption)
      obtain ⟨ad323, e323, hx323_0, hx323_1, hx323_2, hx323_3, hx323_4, hx323_5⟩ := at_T75 HR0.out x3_1 p323 q323
      cases e323
      replace p323 := eq_true p323
      replace q323 := eq_true q323
      go_wp2_with (first | (go_at_call 106; (with_reducible refine (spec_l08One.calls k1 (ad323.add ((x3_1 : Int).toNat * 6)) ((rd_T75 l0 x3_1).f0) ((rd_T75 l0 x3_1).f1) ((rd_T75 l0 x3_1).f2) ((rd_T75 l0 x3_1).f3) ((rd_T75 l0 x3_1).f4) ((rd_T75 l0 x3_1).f5) false _ ?side1 A4.out).mono ?_); (case side1 => exact ⟨hx323_0, hx323_1, hx323_2, hx323_3, hx323_4, hx323_5⟩); rintro e w' ⟨rfl, ⟨nd, rfl⟩⟩; (try first | exact ⟨rfl, _, dN1⟩ | exact ⟨rfl, _, dN2⟩)))
      repeat (go_quiet (first | (go_at_call 106; (with_reducible refine (spec_l08One.calls k1 (ad323.add ((x3_1 : Int).toNat * 6)) ((rd_T75 l0 x3_1).f0) ((rd_T75 l0 x3_1).f1) ((rd_T75 l0 x3_1).f2) ((rd_T75 l0 x3_1).f3) ((rd_T75 l0 x3_1).f4) ((rd_T75 l0 x3_1).f5) false _ ?side1 A4.out).mono ?_); (case side1 => exact ⟨hx323_0, hx323_1, hx323_2, hx323_3, hx323_4, hx323_5⟩); rintro e w' ⟨rfl, ⟨nd, rfl⟩⟩; (try first | exact ⟨rfl, _, dN1⟩ | exact ⟨rfl, _, dN2⟩))); try go_wp2_with (first | (go_at_call 106; (with_reducible refine (spec_l08One.calls k1 (ad323.add ((x3_1 : Int).toNat * 6)) ((rd_T75 l0 x3_1).f0) ((rd_T75 l0 x3_1).f1) ((rd_T75 l0 x3_1).f2) ((rd_T75 l0 x3_1).f3) ((rd_T75 l0 x3_1).f4) ((rd_T75 l0 x3_1).f5) false _ ?side1 A4.out).mono ?_); (case side1 => exact ⟨hx323_0, hx323_1, hx323_2, hx323_3, hx323_4, hx323_5⟩); rintro e w' ⟨rfl, ⟨nd, rfl⟩⟩; (try first | exact ⟨rfl, _, dN1⟩ | exact ⟨rfl, _, dN2⟩))))
      go_ret
      exact ⟨by first | rfl | (simp; done) | (simp [*]; done), by repeat (first | exact Drawn0.refl _ | apply Drawn0.step)⟩
    ·rw [if_neg c3] at H
     exact absurd H (by simp)
   ·rw [if_neg c2] at H
    have c2b0 : decide (x3_1 < (l0.length : Int)) = false := decide_eq_false c2
    clear c2
    obtain rfl := Option.some.inj H
    go_wp2
    repeat (go_quiet (fail); try go_wp2)
    go_ret
    exact ⟨by first | rfl | (simp; done) | (simp [*]; done), by repeat (first | exact Drawn0.refl _ | apply Drawn0.step)⟩

end Go.Proofs.Ytgdiabfmjcejdaa.P
end

section
namespace Go.Proofs.Ytgdiabfmjcejdaa.P
open Go.RowKit Go.Proofs.YtgdiabfmjcejdaaW.PrintWords Go.Proofs.YtgdiabfmjcejdaaW.PrintLast Go.Proofs.YtgdiabfmjcejdaaW.PrintMore
attribute [local go_sem] max2_int min2_int max_two min_two max_three min_three max_four min_four   -- for this text's walks alone
set_option linter.unusedVariables false
set_option linter.unusedSimpArgs false
/-! ### spec_l00Has: function 58 -/
def spec_l00Has.l0 : Nat → List Int → Int → Int → Option (Bool)
 | 0, _, _, _ => none
 | k + 1, x0, x1, x5 => if x5 < (x0.length : Int) then (if 0 ≤ x5 then (if (rd x0 x5) = x1 then (some true) else (spec_l00Has.l0 k x0 x1 (wrap64 (x5 + 1)))) else (none)) else (some false)
def spec_l00Has.f (k : Nat) (l0 : List Int) (a1 : Int) : Option (Bool) := spec_l00Has.l0 k l0 a1 0
theorem spec_l00Has.mono_l : ∀ k, (∀ y0 y1 y2, LeO (spec_l00Has.l0 k y0 y1 y2) (spec_l00Has.l0 (k + 1) y0 y1 y2))
 | 0 => fun _ _ _ r h => by simp [spec_l00Has.l0] at h
 | k + 1 => by
  have ih0 := spec_l00Has.mono_l k
  ·intro y0 y1 y2
   unfold spec_l00Has.l0
   repeat' first
   | (with_reducible exact ih0 _ _ _)
   | (with_reducible exact LeO.refl _)
   | (with_reducible exact LeO.none _)
   | (with_reducible refine LeO.ite ?_ ?_)
   | (with_reducible refine LeO.bind ?_ (fun _ => ?_))
   | exact ih0 _ _ _
   | exact LeO.none _
   | refine LeO.ite ?_ ?_
   | refine LeO.bind ?_ (fun _ => ?_)
theorem spec_l00Has.mono : ∀ a0 a1 k, LeO (spec_l00Has.f k a0 a1) (spec_l00Has.f (k + 1) a0 a1) := by
 intro a0 a1 k
 have ih0 := spec_l00Has.mono_l k
 unfold spec_l00Has.f
 repeat' first
   | (with_reducible exact ih0 _ _ _)
   | (with_reducible exact LeO.refl _)
   | (with_reducible exact LeO.none _)
   | (with_reducible refine LeO.ite ?_ ?_)
   | (with_reducible refine LeO.bind ?_ (fun _ => ?_))
   | exact ih0 _ _ _
   | exact LeO.none _
   | refine LeO.ite ?_ ?_
   | refine LeO.bind ?_ (fun _ => ?_)
set_option maxHeartbeats 8000000 in
set_option maxRecDepth 100000 in
theorem spec_l00Has.calls (k : Nat) (A0 : Option Addr) (c0 : Nat) (l0 : List Int) (a1 : Int) (r : Bool) (w : World) (hr0 : Kd.C (Kd.int .i64) w A0 l0.length l0) (hc0 : l0.length ≤ c0) (h : spec_l00Has.f k l0 a1 = some r) :
  Calls Try.prog 58 #[.slice A0 l0.length c0, .int .i64 a1] w fun e w' => e = .returned (.bool r) ∧ Drawn0 w w' := by
 have HR0 := Aside0.mk hr0
 have HC0 := Aside0.mk hc0
 clear hr0 hc0
 have H : (spec_l00Has.l0 k l0 a1 0) = some r := h
 clear h
 have H' := Aside0.mk H
 clear H
 go_enter Try.func58, Try.ntmps58
 go_wp2
 go_loopg [5] k (fun kq v5 w' => ∃ (x5_1 : Int), v5 = .int .i64 x5_1 ∧ Aside0 (spec_l00Has.l0 kq l0 a1 x5_1 = some r) ∧ Aside0 (kq ≤ k) ∧ Drawn0 w w')
 case atStart => exact ⟨(0), (by first | rfl | (simp; done) | (simp [*]; done)), H', ⟨Nat.le_refl _⟩, by repeat (first | exact Drawn0.refl _ | apply Drawn0.step)⟩
 case round =>
  clear H'
  try clear p2
  obtain ⟨x5_1, rfl, HA, HK1, ⟨m1, rfl⟩⟩ := hrel
  cases gk with
  | zero => exact absurd HA.out (by simp [spec_l00Has.l0])
  | succ k1 =>
   have H := HA.out
   clear HA
   simp only [spec_l00Has.l0] at H
   by_cases c3 : x5_1 < (l0.length : Int)
   ·rw [if_pos c3] at H
    have c3b0 : decide (x5_1 < (l0.length : Int)) = true := decide_eq_true c3
    clear c3
    by_cases c4 : 0 ≤ x5_1
    ·rw [if_pos c4] at H
     have c4b0 : decide (0 ≤ x5_1) = true := decide_eq_true c4
     clear c4
     by_cases c5 : (rd l0 x5_1) = a1
     ·rw [if_pos c5] at H
      have c5b0 : ((rd l0 x5_1) == a1) = true := beq_iff_eq.mpr c5
      have c5b1 : ((rd l0 x5_1) != a1) = false := bne_eq_false_iff_eq.mpr c5
      clear c5
      obtain rfl := Option.some.inj H
      have p212 : 0 ≤ (x5_1 : Int) := of_decide_eq_true (by assumption)
      have q212 : x5_1 < (l0.length : Int) := of_decide_eq_true (by assumption)
      obtain ⟨ad212, e212, hx212_0⟩ := Kd.at_int HR0.out x5_1 p212 q212
      cases e212
      replace p212 := eq_true p212
      replace q212 := eq_true q212
      go_wp2
      go_ret
      exact ⟨by first | rfl | (simp; done) | (simp [*]; done), by repeat (first | exact Drawn0.refl _ | apply Drawn0.step)⟩
     ·rw [if_neg c5] at H
      have c5b0 : ((rd l0 x5_1) == a1) = false := beq_eq_false_iff_ne.mpr c5
      have c5b1 : ((rd l0 x5_1) != a1) = true := bne_iff_ne.mpr c5
      have H' := Aside0.mk H
      clear H
      have p212 : 0 ≤ (x5_1 : Int) := of_decide_eq_true (by assumption)
      have q212 : x5_1 < (l0.length : Int) := of_decide_eq_true (by assumption)
      obtain ⟨ad212, e212, hx212_0⟩ := Kd.at_int HR0.out x5_1 p212 q212
      cases e212
      replace p212 := eq_true p212
      replace q212 := eq_true q212
      go_wp2
      go_roundg k1
      case measure => have := HK1.out; omega
      case rel => exact ⟨(wrap64 (x5_1 + 1)), (by first | rfl | (simp; done) | (simp [*]; done)), H', ⟨by have := HK1.out; omega⟩, by repeat (first | exact Drawn0.refl _ | apply Drawn0.step)⟩
    ·rw [if_neg c4] at H
     exact absurd H (by simp)
   ·rw [if_neg c3] at H
    have c3b0 : decide (x5_1 < (l0.length : Int)) = false := decide_eq_false c3
    clear c3
    obtain rfl := Option.some.inj H
    go_wp2
    go_ret
    exact ⟨by first | rfl | (simp; done) | (simp [*]; done), by repeat (first | exact Drawn0.refl _ | apply Drawn0.step)⟩
/-! ### spec_l00Own: function 37 -/
def spec_l00Own.f (l0 : List Int) : Option (List Int) := (some (([] : List Int) : List Int)).bind fun y119 => (if y119.length + l0.length < 17592186044416 then (some (y119 ++ l0)) else (none))
set_option maxHeartbeats 8000000 in
set_option maxRecDepth 100000 in
theorem spec_l00Own.calls (A0 : Option Addr) (c0 : Nat) (l0 : List Int) (r : List Int) (w : World) (hr0 : Kd.C (Kd.int .i64) w A0 l0.length l0) (hc0 : l0.length ≤ c0) (h : spec_l00Own.f l0 = some r) :
  Calls Try.prog 37 #[.slice A0 l0.length c0] w fun e w' => ∃ v0_ : Value, e = .returned (v0_) ∧ Kd.R (Kd.int .i64) 2 w' w.heap.size (fun _ => True) v0_ r ∧ Below w.heap.size w w' := by
 have HR0 := Aside0.mk hr0
 have HC0 := Aside0.mk hc0
 clear hr0 hc0
 have HB := Aside0.mk (Below.refl w.heap.size w)
 have H : ((some (([] : List Int) : List Int)).bind fun y119 => (if y119.length + l0.length < 17592186044416 then (some (y119 ++ l0)) else (none))) = some r := h
 clear h
 obtain ⟨y119, hy119⟩ : ∃ y_ : List Int, y_ = (([] : List Int)) := ⟨_, rfl⟩
 replace H : (if y119.length + l0.length < 17592186044416 then (some (y119 ++ l0)) else (none)) = some r := by first | (rw [hy119]; with_reducible exact H) | (have H2_ := (Option.bind_some _ _).symm.trans H; rw [hy119]; with_reducible exact H2_) | (have H2_ := (Option.bind_some _ _).symm.trans H; with_reducible exact H2_) | with_reducible exact H | (rw [hy119]; exact H) | exact H
 have Ny119 := Aside0.mk hy119
 clear hy119
 by_cases c2 : y119.length + l0.length < 17592186044416
 ·rw [if_pos c2] at H
  have LMc2 := Aside0.mk c2
  clear c2
  obtain ⟨y122, hy122⟩ : ∃ y_ : List Int, y_ = (y119 ++ l0) := ⟨_, rfl⟩
  replace H : (some y122) = some r := by first | (rw [hy122]; with_reducible exact H) | (have H2_ := (Option.bind_some _ _).symm.trans H; rw [hy122]; with_reducible exact H2_) | (have H2_ := (Option.bind_some _ _).symm.trans H; with_reducible exact H2_) | with_reducible exact H | (rw [hy122]; exact H) | exact H
  have Ny122 := Aside0.mk hy122
  clear hy122
  obtain rfl := Option.some.inj H
  go_enter Try.func37, Try.ntmps37
  go_wp2_with (first | ((with_reducible refine gate_dst (N := 3) rfl ?_); refine Kd.R_lit (Kd.int .i64) _ 2 ?hg (N := 3) ?hd (xs := ([] : List Int)) (inner := []) (ok := fun _ => True) (okp := fun _ => True) ?hr ?hp (fun _ hk => hk) trivial (Below.refl _ _) (Nat.le_refl _) (by simp) ?_; (case hd => rfl); (case hg => rfl); (case hr => first | (go_simp; done) | (go_simp; rfl)); (case hp => exact (Reps.none _ _)); intro v120 w3 ho4 hb hg_ hnew_; clear hg_ hnew_; (first | rw [← Ny119.out] at ho4 | (simp only [Int.reduceToNat] at ho4; rw [← Ny119.out] at ho4)); have n0_ := Aside0.mk (Kd.R_lower ho4 (below_size (by repeat (first | exact HB.out | apply below_alloc)))); have n1_ := Aside0.mk (below_step (by repeat (first | exact HB.out | apply below_alloc)) hb); clear HB; have HO121 := n0_; have HB := n1_; clear n0_ n1_; clear hb ho4) | ((with_reducible refine gate_builtin (b := .append) (xs := #[.tmp 3, .tmp 4]) rfl ?_); at_builtin; refine Kd.R_append_rows (Kd.int .i64) (w0 := w) w.heap.size rfl (.tmp 3) (.tmp 4) 22 2 (.int .i64 0) 8 rfl Try.underlying22 info2 rfl (by decide) (by omega) v120 y119 l0 _ _ _ (fun _ => True) (fun _ => False) rfl rfl ?aO ?aR (fun _ _ h => h) (fun _ h => h.elim) ?aF ?aB ?aS ?aL ?_; (case aR => exact (Kd.C_below HR0.out HB.out)); (case aB => exact (by repeat (first | exact HB.out | apply below_alloc))); (case aF => exact (fun _ _ => trivial)); (case aO => exact (by (with_reducible repeat (first | apply Kd.R_alloc | apply Kd.R_drewN | apply Kd.R_drew)); exact HO121.out)); (case aS => exact (below_size (by repeat (first | exact HB.out | apply below_alloc)))); (case aL => have := LMc2.out; omega); intro v123 w5 ho hb hg hat; rw [← Ny122.out] at ho; have n0_ := Aside0.mk (hb); have n1_ := Aside0.mk (ho); clear HB; clear HO121; have HB := n0_; have HO124 := n1_; clear n0_ n1_; clear ho hb hg hat))
  go_ret
  exact ⟨_, by first | rfl | (simp [errW_none, errW_some] <;> rfl) | (simp [*, errW_none, errW_some] <;> rfl), by (with_reducible repeat (first | apply Kd.R_alloc | apply Kd.R_drewN | apply Kd.R_drew)); exact HO124.out, by repeat (first | (with_reducible first | exact HB.out | apply below_alloc | apply pw_below_drewN | apply below_drew1) | exact HB.out)⟩
 ·rw [if_neg c2] at H
  exact absurd H (by simp)
/-! ### spec_l06Before: function 107 -/
mutual
def spec_l06Before.l0 : Nat → List Int → List Int → Int → Option (Bool)
 | 0, _, _, _ => none
 | k + 1, x0, x1, x5 => if x5 < (x0.length : Int) then (spec_l06Before.j1 k x0 x1 x5 (decide (x5 < (x1.length : Int)))) else (spec_l06Before.j1 k x0 x1 x5 false)
def spec_l06Before.j1 : Nat → List Int → List Int → Int → Bool → Option (Bool)
 | 0, _, _, _, _ => none
 | k + 1, x0, x1, x5, x15 => if x15 = true then (if 0 ≤ x5 then (if x5 < (x0.length : Int) then (if x5 < (x1.length : Int) then (if (rd x0 x5) = (rd x1 x5) then (spec_l06Before.l0 k x0 x1 (wrap64 (x5 + 1))) else (some (decide ((rd x0 x5) < (rd x1 x5))))) else (none)) else (none)) else (none)) else (some (decide ((x0.length : Int) < (x1.length : Int))))
end
def spec_l06Before.f (k : Nat) (l0 : List Int) (l1 : List Int) : Option (Bool) := spec_l06Before.l0 k l0 l1 0
set_option maxHeartbeats 8000000 in
set_option maxRecDepth 100000 in
theorem spec_l06Before.calls (k : Nat) (A0 : Option Addr) (c0 : Nat) (l0 : List Int) (A1 : Option Addr) (c1 : Nat) (l1 : List Int) (r : Bool) (w : World) (hr0 : Kd.C (Kd.int .i64) w A0 l0.length l0) (hc0 : l0.length ≤ c0) (hr1 : Kd.C (Kd.int .i64) w A1 l1.length l1) (hc1 : l1.length ≤ c1) (h : spec_l06Before.f k l0 l1 = some r) :
  Calls Try.prog 107 #[.slice A0 l0.length c0, .slice A1 l1.length c1] w fun e w' => e = .returned (.bool r) ∧ Drawn0 w w' := by
 have HR0 := Aside0.mk hr0
 have HC0 := Aside0.mk hc0
 clear hr0 hc0
 have HR1 := Aside0.mk hr1
 have HC1 := Aside0.mk hc1
 clear hr1 hc1
 have H : (spec_l06Before.l0 k l0 l1 0) = some r := h
 clear h
 have H' := Aside0.mk H
 clear H
 go_enter Try.func107, Try.ntmps107
 go_wp2
 repeat (go_quiet (fail); try go_wp2)
 go_loopg [5] k (fun kq v5 w' => ∃ (x5_1 : Int), v5 = .int .i64 x5_1 ∧ Aside0 (spec_l06Before.l0 kq l0 l1 x5_1 = some r) ∧ Aside0 (kq ≤ k) ∧ Drawn0 w w')
 case atStart => exact ⟨(0), (by first | rfl | (simp; done) | (simp [*]; done)), H', ⟨Nat.le_refl _⟩, by repeat (first | exact Drawn0.refl _ | apply Drawn0.step)⟩
 case round =>
  clear H'
  try clear c1
  try clear p2
  obtain ⟨x5_1, rfl, HA, HK1, ⟨m1, rfl⟩⟩ := hrel
  cases gk with
  | zero => exact absurd HA.out (by simp [spec_l06Before.l0])
  | succ k1 =>
   have H := HA.out
   clear HA
   simp only [spec_l06Before.l0] at H
   have HC3 := Aside0.mk H
   clear H
   go_upto_region 2 with (fail)
   repeat (go_quiet (fail); go_upto_region 2 with (fail))
   go_cut [15] (fun v15 wc => ∃ (kq : Nat) (x15_2 : Bool), v15 = .bool x15_2 ∧ Aside0 (spec_l06Before.j1 kq l0 l1 x5_1 x15_2 = some r) ∧ Aside0 (kq ≤ k1) ∧ Drawn0 w wc)
   case first =>
    have H := HC3.out
    clear HC3
    by_cases c4 : x5_1 < (l0.length : Int)
    ·rw [if_pos c4] at H
     have c4b0 : decide (x5_1 < (l0.length : Int)) = true := decide_eq_true c4
     clear c4
     (first | rw [c4b0] | (simp only [i64_w, i32_w]; rw [c4b0]) | skip)
     have H' := Aside0.mk H
     clear H
     go_wp2
     repeat (go_quiet (fail); try go_wp2)
     go_meet
     case rel => exact ⟨_, (decide (x5_1 < (l1.length : Int))), (by first | rfl | (simp; done) | (simp [*]; done)), H', ⟨by have := HK1.out; first | omega | exact Nat.le_refl _⟩, by repeat (first | exact Drawn0.refl _ | apply Drawn0.step)⟩
    ·rw [if_neg c4] at H
     have c4b0 : decide (x5_1 < (l0.length : Int)) = false := decide_eq_false c4
     clear c4
     (first | rw [c4b0] | (simp only [i64_w, i32_w]; rw [c4b0]) | skip)
     have H' := Aside0.mk H
     clear H
     go_wp2
     repeat (go_quiet (fail); try go_wp2)
     go_meet
     case rel => exact ⟨_, (false), (by first | rfl | (simp; done) | (simp [*]; done)), H', ⟨by have := HK1.out; first | omega | exact Nat.le_refl _⟩, by repeat (first | exact Drawn0.refl _ | apply Drawn0.step)⟩
   case rest =>
    clear HC3
    try clear c1
    try clear p2
    try clear c4
    try clear c4b0
    try clear p2
    obtain ⟨kq, x15_2, rfl, HA, HJ2, ⟨mc2, rfl⟩⟩ := hcut
    cases kq with
    | zero => exact absurd HA.out (by simp [spec_l06Before.j1])
    | succ kj2 =>
     have H := HA.out
     clear HA
     simp only [spec_l06Before.j1] at H
     by_cases c5 : x15_2 = true
     ·subst c5
      have H1 : (if 0 ≤ x5_1 then (if x5_1 < (l0.length : Int) then (if x5_1 < (l1.length : Int) then (if (rd l0 x5_1) = (rd l1 x5_1) then (spec_l06Before.l0 kj2 l0 l1 (wrap64 (x5_1 + 1))) else (some (decide ((rd l0 x5_1) < (rd l1 x5_1))))) else (none)) else (none)) else (none)) = some r := by rw [if_pos rfl] at H; exact H
      clear H
      have H := H1
      clear H1
      by_cases c6 : 0 ≤ x5_1
      ·rw [if_pos c6] at H
       have c6b0 : decide (0 ≤ x5_1) = true := decide_eq_true c6
       clear c6
       by_cases c7 : x5_1 < (l0.length : Int)
       ·rw [if_pos c7] at H
        have c7b0 : decide (x5_1 < (l0.length : Int)) = true := decide_eq_true c7
        clear c7
        by_cases c8 : x5_1 < (l1.length : Int)
        ·rw [if_pos c8] at H
         have c8b0 : decide (x5_1 < (l1.length : Int)) = true := decide_eq_true c8
         clear c8
         by_cases c9 : (rd l0 x5_1) = (rd l1 x5_1)
         ·rw [if_pos c9] at H
          have c9b0 : ((rd l0 x5_1) == (rd l1 x5_1)) = true := beq_iff_eq.mpr c9
          have c9b1 : ((rd l0 x5_1) != (rd l1 x5_1)) = false := bne_eq_false_iff_eq.mpr c9
          clear c9
          have H' := Aside0.mk H
          clear H
          have p329 : 0 ≤ (x5_1 : Int) := of_decide_eq_true (by assumption)
          have q329 : x5_1 < (l0.length : Int) := of_decide_eq_true (by assumption)
          obtain ⟨ad329, e329, hx329_0⟩ := Kd.at_int HR0.out x5_1 p329 q329
          cases e329
          replace p329 := eq_true p329
          replace q329 := eq_true q329
          have p330 : 0 ≤ (x5_1 : Int) := of_decide_eq_true (by assumption)
          have q330 : x5_1 < (l1.length : Int) := of_decide_eq_true (by assumption)
          obtain ⟨ad330, e330, hx330_0⟩ := Kd.at_int HR1.out x5_1 p330 q330
          cases e330
          replace p330 := eq_true p330
          replace q330 := eq_true q330
          go_wp2
          repeat (go_quiet (fail); try go_wp2)
          go_roundg kj2
          case measure => have := HK1.out; have := HJ2.out; omega
          case rel => exact ⟨(wrap64 (x5_1 + 1)), (by first | rfl | (simp; done) | (simp [*]; done)), H', ⟨by have := HK1.out; have := HJ2.out; omega⟩, by repeat (first | exact Drawn0.refl _ | apply Drawn0.step)⟩
         ·rw [if_neg c9] at H
          have c9b0 : ((rd l0 x5_1) == (rd l1 x5_1)) = false := beq_eq_false_iff_ne.mpr c9
          have c9b1 : ((rd l0 x5_1) != (rd l1 x5_1)) = true := bne_iff_ne.mpr c9
          obtain rfl := Option.some.inj H
          have p329 : 0 ≤ (x5_1 : Int) := of_decide_eq_true (by assumption)
          have q329 : x5_1 < (l0.length : Int) := of_decide_eq_true (by assumption)
          obtain ⟨ad329, e329, hx329_0⟩ := Kd.at_int HR0.out x5_1 p329 q329
          cases e329
          replace p329 := eq_true p329
          replace q329 := eq_true q329
          have p330 : 0 ≤ (x5_1 : Int) := of_decide_eq_true (by assumption)
          have q330 : x5_1 < (l1.length : Int) := of_decide_eq_true (by assumption)
          obtain ⟨ad330, e330, hx330_0⟩ := Kd.at_int HR1.out x5_1 p330 q330
          cases e330
          replace p330 := eq_true p330
          replace q330 := eq_true q330
          have p331 : 0 ≤ (x5_1 : Int) := of_decide_eq_true (by assumption)
          have q331 : x5_1 < (l0.length : Int) := of_decide_eq_true (by assumption)
          obtain ⟨ad331, e331, hx331_0⟩ := Kd.at_int HR0.out x5_1 p331 q331
          obtain rfl : ad329 = ad331 := (by injection e331)
          replace p331 := eq_true p331
          replace q331 := eq_true q331
          have p332 : 0 ≤ (x5_1 : Int) := of_decide_eq_true (by assumption)
          have q332 : x5_1 < (l1.length : Int) := of_decide_eq_true (by assumption)
          obtain ⟨ad332, e332, hx332_0⟩ := Kd.at_int HR1.out x5_1 p332 q332
          obtain rfl : ad330 = ad332 := (by injection e332)
          replace p332 := eq_true p332
          replace q332 := eq_true q332
          go_wp2
          repeat (go_quiet (fail); try go_wp2)
          go_ret
          exact ⟨by first | rfl | (simp; done) | (simp [*]; done), by repeat (first | exact Drawn0.refl _ | apply Drawn0.step)⟩
        ·rw [if_neg c8] at H
         exact absurd H (by simp)
       ·rw [if_neg c7] at H
        exact absurd H (by simp)
      ·rw [if_neg c6] at H
       exact absurd H (by simp)
     ·replace c5 := Bool.eq_false_iff.mpr c5
      subst c5
      have H1 : (some (decide ((l0.length : Int) < (l1.length : Int)))) = some r := by rw [if_neg (show ¬ (false = true) by decide)] at H; exact H
      clear H
      have H := H1
      clear H1
      obtain rfl := Option.some.inj H
      go_wp2
      repeat (go_quiet (fail); try go_wp2)
      go_ret
      exact ⟨by first | rfl | (simp; done) | (simp [*]; done), by repeat (first | exact Drawn0.refl _ | apply Drawn0.step)⟩
/-! ### spec_l08Fits: function 108 -/
def spec_l08Fits.f (a0_0 : ByteArray) (a0_1 : Int) (a0_2 : Int) (a0_3 : Int) (a0_4 : Int) (a0_5 : Int) (a1 : Int) (a2 : Int) : Option (Bool) := if a0_3 ≥ 0 then (if a0_3 = a2 then (if a0_1 < a0_2 then (if (Int.tmod a1 1440) ≥ a0_1 then (some (decide ((Int.tmod a1 1440) < a0_2))) else (some false)) else (if (Int.tmod a1 1440) ≥ a0_1 then (some true) else (some (decide ((Int.tmod a1 1440) < a0_2))))) else (some false)) else (if a0_1 < a0_2 then (if (Int.tmod a1 1440) ≥ a0_1 then (some (decide ((Int.tmod a1 1440) < a0_2))) else (some false)) else (if (Int.tmod a1 1440) ≥ a0_1 then (some true) else (some (decide ((Int.tmod a1 1440) < a0_2)))))
set_option maxHeartbeats 8000000 in
set_option maxRecDepth 100000 in
theorem spec_l08Fits.calls (g0 : Addr) (a0_0 : ByteArray) (a0_1 : Int) (a0_2 : Int) (a0_3 : Int) (a0_4 : Int) (a0_5 : Int) (a1 : Int) (a2 : Int) (r : Bool) (w : World) (hp0 : w.cell? g0 = some (.string a0_0) ∧ w.cell? ⟨g0.block, g0.off + 1, none⟩ = some (.int .i64 a0_1) ∧ w.cell? ⟨g0.block, g0.off + 2, none⟩ = some (.int .i64 a0_2) ∧ w.cell? ⟨g0.block, g0.off + 3, none⟩ = some (.int .i64 a0_3) ∧ w.cell? ⟨g0.block, g0.off + 4, none⟩ = some (.int .i64 a0_4) ∧ w.cell? ⟨g0.block, g0.off + 5, none⟩ = some (.int .i64 a0_5)) (h : spec_l08Fits.f a0_0 a0_1 a0_2 a0_3 a0_4 a0_5 a1 a2 = some r) :
  Calls Try.prog 108 #[.pointer (some g0), .int .i64 a1, .int .i64 a2] w fun e w' => e = .returned (.bool r) ∧ Drawn0 w w' := by
 have HBX0 := Aside0.mk hp0
 have HBP0 := Aside0.mk hp0
 clear hp0
 have H : (if a0_3 ≥ 0 then (if a0_3 = a2 then (if a0_1 < a0_2 then (if (Int.tmod a1 1440) ≥ a0_1 then (some (decide ((Int.tmod a1 1440) < a0_2))) else (some false)) else (if (Int.tmod a1 1440) ≥ a0_1 then (some true) else (some (decide ((Int.tmod a1 1440) < a0_2))))) else (some false)) else (if a0_1 < a0_2 then (if (Int.tmod a1 1440) ≥ a0_1 then (some (decide ((Int.tmod a1 1440) < a0_2))) else (some false)) else (if (Int.tmod a1 1440) ≥ a0_1 then (some true) else (some (decide ((Int.tmod a1 1440) < a0_2)))))) = some r := h
 clear h
 by_cases c4 : a0_3 ≥ 0
 ·rw [if_pos c4] at H
  have c4b0 : decide (0 ≤ a0_3) = true := decide_eq_true c4
  clear c4
  by_cases c5 : a0_3 = a2
  ·rw [if_pos c5] at H
   have c5b0 : (a0_3 == a2) = true := beq_iff_eq.mpr c5
   have c5b1 : (a0_3 != a2) = false := bne_eq_false_iff_eq.mpr c5
   clear c5
   by_cases c6 : a0_1 < a0_2
   ·rw [if_pos c6] at H
    have c6b0 : decide (a0_1 < a0_2) = true := decide_eq_true c6
    clear c6
    by_cases c7 : (Int.tmod a1 1440) ≥ a0_1
    ·rw [if_pos c7] at H
     have c7b0 : decide (a0_1 ≤ (Int.tmod a1 1440)) = true := decide_eq_true c7
     clear c7
     obtain rfl := Option.some.inj H
     have hcz8_0 : w.cell? g0 = some (.string a0_0) := HBP0.out.1
     have hcz8_1 : w.cell? ⟨g0.block, g0.off + 1, none⟩ = some (.int .i64 a0_1) := HBP0.out.2.1
     have hcz8_2 : w.cell? ⟨g0.block, g0.off + 2, none⟩ = some (.int .i64 a0_2) := HBP0.out.2.2.1
     have hcz8_3 : w.cell? ⟨g0.block, g0.off + 3, none⟩ = some (.int .i64 a0_3) := HBP0.out.2.2.2.1
     have hcz8_4 : w.cell? ⟨g0.block, g0.off + 4, none⟩ = some (.int .i64 a0_4) := HBP0.out.2.2.2.2.1
     have hcz8_5 : w.cell? ⟨g0.block, g0.off + 5, none⟩ = some (.int .i64 a0_5) := HBP0.out.2.2.2.2.2
     go_enter Try.func108, Try.ntmps108
     go_wp2
     repeat (go_quiet (fail); try go_wp2)
     go_ret
     exact ⟨by first | rfl | (simp; done) | (simp [*]; done), by repeat (first | exact Drawn0.refl _ | apply Drawn0.step)⟩
    ·rw [if_neg c7] at H
     have c7b0 : decide (a0_1 ≤ (Int.tmod a1 1440)) = false := decide_eq_false c7
     clear c7
     obtain rfl := Option.some.inj H
     have hcz9_0 : w.cell? g0 = some (.string a0_0) := HBP0.out.1
     have hcz9_1 : w.cell? ⟨g0.block, g0.off + 1, none⟩ = some (.int .i64 a0_1) := HBP0.out.2.1
     have hcz9_2 : w.cell? ⟨g0.block, g0.off + 2, none⟩ = some (.int .i64 a0_2) := HBP0.out.2.2.1
     have hcz9_3 : w.cell? ⟨g0.block, g0.off + 3, none⟩ = some (.int .i64 a0_3) := HBP0.out.2.2.2.1
     have hcz9_4 : w.cell? ⟨g0.block, g0.off + 4, none⟩ = some (.int .i64 a0_4) := HBP0.out.2.2.2.2.1
     have hcz9_5 : w.cell? ⟨g0.block, g0.off + 5, none⟩ = some (.int .i64 a0_5) := HBP0.out.2.2.2.2.2
     go_enter Try.func108, Try.ntmps108
     go_wp2
     repeat (go_quiet (fail); try go_wp2)
     go_ret
     exact ⟨by first | rfl | (simp; done) | (simp [*]; done), by repeat (first | exact Drawn0.refl _ | apply Drawn0.step)⟩
   ·rw [if_neg c6] at H
    have c6b0 : decide (a0_1 < a0_2) = false := decide_eq_false c6
    clear c6
    by_cases c10 : (Int.tmod a1 1440) ≥ a0_1
    ·rw [if_pos c10] at H
     have c10b0 : decide (a0_1 ≤ (Int.tmod a1 1440)) = true := decide_eq_true c10
     clear c10
     obtain rfl := Option.some.inj H
     have hcz11_0 : w.cell? g0 = some (.string a0_0) := HBP0.out.1
     have hcz11_1 : w.cell? ⟨g0.block, g0.off + 1, none⟩ = some (.int .i64 a0_1) := HBP0.out.2.1
     have hcz11_2 : w.cell? ⟨g0.block, g0.off + 2, none⟩ = some (.int .i64 a0_2) := HBP0.out.2.2.1
     have hcz11_3 : w.cell? ⟨g0.block, g0.off + 3, none⟩ = some (.int .i64 a0_3) := HBP0.out.2.2.2.1
     have hcz11_4 : w.cell? ⟨g0.block, g0.off + 4, none⟩ = some (.int .i64 a0_4) := HBP0.out.2.2.2.2.1
     have hcz11_5 : w.cell? ⟨g0.block, g0.off + 5, none⟩ = some (.int .i64 a0_5) := HBP0.out.2.2.2.2.2
     go_enter Try.func108, Try.ntmps108
     go_wp2
     repeat (go_quiet (fail); try go_wp2)
     go_ret
     exact ⟨by first | rfl | (simp; done) | (simp [*]; done), by repeat (first | exact Drawn0.refl _ | apply Drawn0.step)⟩
    ·rw [if_neg c10] at H
     have c10b0 : decide (a0_1 ≤ (Int.tmod a1 1440)) = false := decide_eq_false c10
     clear c10
     obtain rfl := Option.some.inj H
     have hcz12_0 : w.cell? g0 = some (.string a0_0) := HBP0.out.1
     have hcz12_1 : w.cell? ⟨g0.block, g0.off + 1, none⟩ = some (.int .i64 a0_1) := HBP0.out.2.1
     have hcz12_2 : w.cell? ⟨g0.block, g0.off + 2, none⟩ = some (.int .i64 a0_2) := HBP0.out.2.2.1
     have hcz12_3 : w.cell? ⟨g0.block, g0.off + 3, none⟩ = some (.int .i64 a0_3) := HBP0.out.2.2.2.1
     have hcz12_4 : w.cell? ⟨g0.block, g0.off + 4, none⟩ = some (.int .i64 a0_4) := HBP0.out.2.2.2.2.1
     have hcz12_5 : w.cell? ⟨g0.block, g0.off + 5, none⟩ = some (.int .i64 a0_5) := HBP0.out.2.2.2.2.2
     go_enter Try.func108, Try.ntmps108
     go_wp2
     repeat (go_quiet (fail); try go_wp2)
     go_ret
     exact ⟨by first | rfl | (simp; done) | (simp [*]; done), by repeat (first | exact Drawn0.refl _ | apply Drawn0.step)⟩
  ·rw [if_neg c5] at H
   have c5b0 : (a0_3 == a2) = false := beq_eq_false_iff_ne.mpr c5
   have c5b1 : (a0_3 != a2) = true := bne_iff_ne.mpr c5
   obtain rfl := Option.some.inj H
   have hcz13_0 : w.cell? g0 = some (.string a0_0) := HBP0.out.1
   have hcz13_1 : w.cell? ⟨g0.block, g0.off + 1, none⟩ = some (.int .i64 a0_1) := HBP0.out.2.1
   have hcz13_2 : w.cell? ⟨g0.block, g0.off + 2, none⟩ = some (.int .i64 a0_2) := HBP0.out.2.2.1
   have hcz13_3 : w.cell? ⟨g0.block, g0.off + 3, none⟩ = some (.int .i64 a0_3) := HBP0.out.2.2.2.1
   have hcz13_4 : w.cell? ⟨g0.block, g0.off + 4, none⟩ = some (.int .i64 a0_4) := HBP0.out.2.2.2.2.1
   have hcz13_5 : w.cell? ⟨g0.block, g0.off + 5, none⟩ = some (.int .i64 a0_5) := HBP0.out.2.2.2.2.2
   go_enter Try.func108, Try.ntmps108
   go_wp2
   repeat (go_quiet (fail); try go_wp2)
   go_ret
   exact ⟨by first | rfl | (simp; done) | (simp [*]; done), by repeat (first | exact Drawn0.refl _ | apply Drawn0.step)⟩
 ·rw [if_neg c4] at H
  have c4b0 : decide (0 ≤ a0_3) = false := decide_eq_false c4
  clear c4
  by_cases c14 : a0_1 < a0_2
  ·rw [if_pos c14] at H
   have c14b0 : decide (a0_1 < a0_2) = true := decide_eq_true c14
   clear c14
   by_cases c15 : (Int.tmod a1 1440) ≥ a0_1
   ·rw [if_pos c15] at H
    have c15b0 : decide (a0_1 ≤ (Int.tmod a1 1440)) = true := decide_eq_true c15
    clear c15
    obtain rfl := Option.some.inj H
    have hcz16_0 : w.cell? g0 = some (.string a0_0) := HBP0.out.1
    have hcz16_1 : w.cell? ⟨g0.block, g0.off + 1, none⟩ = some (.int .i64 a0_1) := HBP0.out.2.1
    have hcz16_2 : w.cell? ⟨g0.block, g0.off + 2, none⟩ = some (.int .i64 a0_2) := HBP0.out.2.2.1
    have hcz16_3 : w.cell? ⟨g0.block, g0.off + 3, none⟩ = some (.int .i64 a0_3) := HBP0.out.2.2.2.1
    have hcz16_4 : w.cell? ⟨g0.block, g0.off + 4, none⟩ = some (.int .i64 a0_4) := HBP0.out.2.2.2.2.1
    have hcz16_5 : w.cell? ⟨g0.block, g0.off + 5, none⟩ = some (.int .i64 a0_5) := HBP0.out.2.2.2.2.2
    go_enter Try.func108, Try.ntmps108
    go_wp2
    repeat (go_quiet (fail); try go_wp2)
    go_ret
    exact ⟨by first | rfl | (simp; done) | (simp [*]; done), by repeat (first | exact Drawn0.refl _ | apply Drawn0.step)⟩
   ·rw [if_neg c15] at H
    have c15b0 : decide (a0_1 ≤ (Int.tmod a1 1440)) = false := decide_eq_false c15
    clear c15
    obtain rfl := Option.some.inj H
    have hcz17_0 : w.cell? g0 = some (.string a0_0) := HBP0.out.1
    have hcz17_1 : w.cell? ⟨g0.block, g0.off + 1, none⟩ = some (.int .i64 a0_1) := HBP0.out.2.1
    have hcz17_2 : w.cell? ⟨g0.block, g0.off + 2, none⟩ = some (.int .i64 a0_2) := HBP0.out.2.2.1
    have hcz17_3 : w.cell? ⟨g0.block, g0.off + 3, none⟩ = some (.int .i64 a0_3) := HBP0.out.2.2.2.1
    have hcz17_4 : w.cell? ⟨g0.block, g0.off + 4, none⟩ = some (.int .i64 a0_4) := HBP0.out.2.2.2.2.1
    have hcz17_5 : w.cell? ⟨g0.block, g0.off + 5, none⟩ = some (.int .i64 a0_5) := HBP0.out.2.2.2.2.2
    go_enter Try.func108, Try.ntmps108
    go_wp2
    repeat (go_quiet (fail); try go_wp2)
    go_ret
    exact ⟨by first | rfl | (simp; done) | (simp [*]; done), by repeat (first | exact Drawn0.refl _ | apply Drawn0.step)⟩
  ·rw [if_neg c14] at H
   have c14b0 : decide (a0_1 < a0_2) = false := decide_eq_false c14
   clear c14
   by_cases c18 : (Int.tmod a1 1440) ≥ a0_1
   ·rw [if_pos c18] at H
    have c18b0 : decide (a0_1 ≤ (Int.tmod a1 1440)) = true := decide_eq_true c18
    clear c18
    obtain rfl := Option.some.inj H
    have hcz19_0 : w.cell? g0 = some (.string a0_0) := HBP0.out.1
    have hcz19_1 : w.cell? ⟨g0.block, g0.off + 1, none⟩ = some (.int .i64 a0_1) := HBP0.out.2.1
    have hcz19_2 : w.cell? ⟨g0.block, g0.off + 2, none⟩ = some (.int .i64 a0_2) := HBP0.out.2.2.1
    have hcz19_3 : w.cell? ⟨g0.block, g0.off + 3, none⟩ = some (.int .i64 a0_3) := HBP0.out.2.2.2.1
    have hcz19_4 : w.cell? ⟨g0.block, g0.off + 4, none⟩ = some (.int .i64 a0_4) := HBP0.out.2.2.2.2.1
    have hcz19_5 : w.cell? ⟨g0.block, g0.off + 5, none⟩ = some (.int .i64 a0_5) := HBP0.out.2.2.2.2.2
    go_enter Try.func108, Try.ntmps108
    go_wp2
    repeat (go_quiet (fail); try go_wp2)
    go_ret
    exact ⟨by first | rfl | (simp; done) | (simp [*]; done), by repeat (first | exact Drawn0.refl _ | apply Drawn0.step)⟩
   ·rw [if_neg c18] at H
    have c18b0 : decide (a0_1 ≤ (Int.tmod a1 1440)) = false := decide_eq_false c18
    clear c18
    obtain rfl := Option.some.inj H
    have hcz20_0 : w.cell? g0 = some (.string a0_0) := HBP0.out.1
    have hcz20_1 : w.cell? ⟨g0.block, g0.off + 1, none⟩ = some (.int .i64 a0_1) := HBP0.out.2.1
    have hcz20_2 : w.cell? ⟨g0.block, g0.off + 2, none⟩ = some (.int .i64 a0_2) := HBP0.out.2.2.1
    have hcz20_3 : w.cell? ⟨g0.block, g0.off + 3, none⟩ = some (.int .i64 a0_3) := HBP0.out.2.2.2.1
    have hcz20_4 : w.cell? ⟨g0.block, g0.off + 4, none⟩ = some (.int .i64 a0_4) := HBP0.out.2.2.2.2.1
    have hcz20_5 : w.cell? ⟨g0.block, g0.off + 5, none⟩ = some (.int .i64 a0_5) := HBP0.out.2.2.2.2.2
    go_enter Try.func108, Try.ntmps108
    go_wp2
    repeat (go_quiet (fail); try go_wp2)
    go_ret
    exact ⟨by first | rfl | (simp; done) | (simp [*]; done), by repeat (first | exact Drawn0.refl _ | apply Drawn0.step)⟩
end Go.Proofs.Ytgdiabfmjcejdaa.P
end
