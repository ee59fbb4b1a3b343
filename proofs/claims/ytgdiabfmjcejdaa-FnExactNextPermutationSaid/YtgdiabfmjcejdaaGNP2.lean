/- Texts of this seat, merged: QSpecL14Numbered, QSpecL00Has, QSpecL03Pitch, QSpecL14Permuted, QSpecNumberedpermutation, Open, LEv, LCopy, LEvAnd, LIn, LIdx, LHasOne, LInP, LDropAt, LSHasOne, LSInP, LPerm, LNumb, LWithin, LNumb2, QImplPermutationnumber, QImplNextpermutation, QSpecPermutationnumber, QSpecNextpermutation, LPermNo. -/
import Derived.Deep.Slices
import Derived.WideShapes
import Derived.ChangeShapes
import Derived.ChangeMaps5
import Derived.ChangeSame
import Derived.Test.YtgdiabfmjcejdaaGNP1
section
namespace Go.Proofs.Ytgdiabfmjcejdaa.P
open Go.RowKit Go.Proofs.YtgdiabfmjcejdaaW.PrintWords Go.Proofs.YtgdiabfmjcejdaaW.PrintLast Go.Proofs.YtgdiabfmjcejdaaW.PrintMore
attribute [local go_sem] max2_int min2_int max_two min_two max_three min_three max_four min_four   -- for this text's walks alone
set_option linter.unusedVariables false
set_option linter.unusedSimpArgs false
/-! ### spec_l14Numbered: function 44 -/
def spec_l14Numbered.l0 : Nat → Int → List Int → List Int → Option (List Int)
  | 0, _, _, _ => none
  | k + 1, x1, x5, x6 => if (x5.length : Int) > 0 then ((spec_l14Factorial.f k (wrap64 ((x5.length : Int) - 1))).bind fun t150 => (if t150 = 0 then (none) else (if 0 ≤ (wrap64 (Int.tdiv x1 t150)) then (if (wrap64 (Int.tdiv x1 t150)) < (x5.length : Int) then (if x6.length < 17592186044416 then (if (wrap64 (Int.tdiv x1 t150)) ≤ (x5.length : Int) then ((spec_l00Own.f (x5.take ((wrap64 (Int.tdiv x1 t150)) : Int).toNat)).bind fun t159 => (if 0 ≤ (wrap64 ((wrap64 (Int.tdiv x1 t150)) + 1)) then (if (wrap64 ((wrap64 (Int.tdiv x1 t150)) + 1)) ≤ (x5.length : Int) then ((some (x5.drop ((wrap64 ((wrap64 (Int.tdiv x1 t150)) + 1)) : Int).toNat : List Int)).bind fun y162 => (if t159.length + y162.length < 17592186044416 then (spec_l14Numbered.l0 k (Int.tmod x1 t150) (t159 ++ y162) (x6 ++ [rd x5 (wrap64 (Int.tdiv x1 t150))])) else (none))) else (none)) else (none))) else (none)) else (none)) else (none)) else (none)))) else (some x6)
def spec_l14Numbered.f (k : Nat) (l0 : List Int) (a1 : Int) : Option (List Int) := (spec_l14Sorted.f k l0).bind fun t144 => (spec_l14Numbered.l0 k a1 t144 (([] : List Int)))
set_option maxHeartbeats 8000000 in
set_option maxRecDepth 100000 in
theorem spec_l14Numbered.calls (k : Nat) (A0 : Option Addr) (c0 : Nat) (l0 : List Int) (a1 : Int) (r : List Int) (w : World) (hr0 : Kd.C (Kd.int .i64) w A0 l0.length l0) (hc0 : l0.length ≤ c0) (h : spec_l14Numbered.f k l0 a1 = some r) :
    Calls Try.prog 44 #[.slice A0 l0.length c0, .int .i64 a1] w fun e w' => ∃ v0_ : Value, e = .returned (v0_) ∧ Kd.R (Kd.int .i64) 2 w' w.heap.size (fun _ => True) v0_ r ∧ Below w.heap.size w w' := by
  have HR0 := Aside0.mk hr0
  have HC0 := Aside0.mk hc0
  clear hr0 hc0
  have HB := Aside0.mk (Below.refl w.heap.size w)
  have H : ((spec_l14Sorted.f k l0).bind fun t144 => (spec_l14Numbered.l0 k a1 t144 (([] : List Int)))) = some r := h
  clear h
  replace H := Option.bind_eq_some_iff.mp H
  obtain ⟨t144, A30, H⟩ := H
  replace H : (spec_l14Numbered.l0 k a1 t144 (([] : List Int))) = some r := H
  have A3 := Aside0.mk A30
  clear A30
  obtain ⟨y147, hy147⟩ : ∃ y_ : List Int, y_ = (([] : List Int)) := ⟨_, rfl⟩
  replace H : (spec_l14Numbered.l0 k a1 t144 y147) = some r := by first | (rw [hy147]; with_reducible exact H) | (have H2_ := (Option.bind_some _ _).symm.trans H; rw [hy147]; with_reducible exact H2_) | (have H2_ := (Option.bind_some _ _).symm.trans H; with_reducible exact H2_) | with_reducible exact H | (rw [hy147]; exact H) | exact H
  have Ny147 := Aside0.mk hy147
  clear hy147
  have H' := Aside0.mk H
  clear H
  go_enter Try.func44, Try.ntmps44
  go_wp2_with (first | ((with_reducible refine gate_callee (f := 78) rfl ?_); refine goesL_ (some 11) rfl rfl Try.func78 (by kernel_rfl) rfl #[.slice A0 l0.length c0] rfl (by (try simp only [List.map_toArray, List.map_cons, List.map_nil]); first | done | rfl | (simp only [List.length_drop, List.length_take]; rfl)) ?_; (with_reducible refine (spec_l14Sorted.calls k _ _ l0 t144 _ ?side1 ?side2 A3.out).mono ?_); (case side1 => exact cs_ HR0.out); (case side2 => exact HC0.out); rintro e w4 ⟨v145, rfl, ho0, hb⟩; refine ⟨_, rfl, ?_⟩; have n0_ := Aside0.mk (Kd.R_lower ho0 (below_size (bb_ HB.out))); have n1_ := Aside0.mk (below_step (bb_ HB.out) hb); clear HB; have HO146 := n0_; have HB := n1_; clear n0_ n1_; (try clear hb); (try clear hb2); (try clear hk); (try clear hi); (try clear ho0)) | ((with_reducible refine gate_dst (N := 12) rfl ?_); refine Kd.R_lit (Kd.int .i64) _ 2 ?hg (N := 12) ?hd (xs := ([] : List Int)) (inner := []) (ok := fun _ => True) (okp := fun _ => True) ?hr ?hp (fun _ hk => hk) trivial (Below.refl _ _) (Nat.le_refl _) (by simp) ?_; (case hd => rfl); (case hg => rfl); (case hr => first | (go_simp; done) | (go_simp; rfl)); (case hp => exact (Reps.none _ _)); intro v148 w5 ho6 hb hg_ hnew_; clear hg_ hnew_; (first | rw [← Ny147.out] at ho6 | (simp only [Int.reduceToNat] at ho6; rw [← Ny147.out] at ho6)); have n0_ := Aside0.mk (Kd.R_elder' (rr_ HO146.out) (Kd.R_base ho6) hb); have n1_ := Aside0.mk (Kd.R_lower (Kd.R_new' ho6 (Kd.R_lt (rr_ HO146.out))) (below_size (bb_ HB.out))); have n2_ := Aside0.mk (below_step (bb_ HB.out) hb); clear HO146; clear HB; have HO146 := n0_; have HO149 := n1_; have HB := n2_; clear n0_ n1_ n2_; clear hb ho6))
  go_loopg [1, 5, 6] k (fun kq v1 v5 v6 w' => ∃ (x1_1 : Int) (x5_1 : List Int) (x6_1 : List Int), v1 = .int .i64 x1_1 ∧ Aside0 (spec_l14Numbered.l0 kq x1_1 x5_1 x6_1 = some r) ∧ Aside0 (kq ≤ k) ∧ Aside0 (Kd.R (Kd.int .i64) 2 w' w.heap.size (fun k_ => some k_ ≠ (v6 : Value).ownBlock) v5 x5_1) ∧ Aside0 (Kd.R (Kd.int .i64) 2 w' w.heap.size (fun k_ => some k_ ≠ (v5 : Value).ownBlock) v6 x6_1) ∧ Aside0 (Below w.heap.size w w'))
  case atStart => exact ⟨(a1), (t144), (y147), sv_, H', ⟨Nat.le_refl _⟩, ⟨by (with_reducible repeat (first | apply Kd.R_alloc | apply Kd.R_drewN | apply Kd.R_drew)); exact Kd.R_mono HO146.out (fun _ hk => hk.2)⟩, ⟨by (with_reducible repeat (first | apply Kd.R_alloc | apply Kd.R_drewN | apply Kd.R_drew)); exact Kd.R_mono HO149.out (fun _ hk => hk.2)⟩, ⟨bb_ HB.out⟩⟩
  case round =>
    clear H'
    (try clear p2); (try clear c4)
    obtain ⟨x1_1, x5_1, x6_1, rfl, HA, HK1, HO_5, HO_6, HB⟩ := hrel
    cases gk with
    | zero => exact absurd HA.out (by simp [spec_l14Numbered.l0])
    | succ k1 =>
      have H := HA.out
      clear HA
      simp only [spec_l14Numbered.l0] at H
      by_cases c7 : (x5_1.length : Int) > 0
      · rw [if_pos c7] at H
        have c7b0 : decide (0 < (x5_1.length : Int)) = true := decide_eq_true c7
        have c7b1 : decide (0 < x5_1.length) = true := decide_eq_true (by omega)
        clear c7
        replace H := Option.bind_eq_some_iff.mp H
        obtain ⟨t150, A80, H⟩ := H
        replace H : (if t150 = 0 then (none) else (if 0 ≤ (wrap64 (Int.tdiv x1_1 t150)) then (if (wrap64 (Int.tdiv x1_1 t150)) < (x5_1.length : Int) then (if x6_1.length < 17592186044416 then (if (wrap64 (Int.tdiv x1_1 t150)) ≤ (x5_1.length : Int) then ((spec_l00Own.f (x5_1.take ((wrap64 (Int.tdiv x1_1 t150)) : Int).toNat)).bind fun t159 => (if 0 ≤ (wrap64 ((wrap64 (Int.tdiv x1_1 t150)) + 1)) then (if (wrap64 ((wrap64 (Int.tdiv x1_1 t150)) + 1)) ≤ (x5_1.length : Int) then ((some (x5_1.drop ((wrap64 ((wrap64 (Int.tdiv x1_1 t150)) + 1)) : Int).toNat : List Int)).bind fun y162 => (if t159.length + y162.length < 17592186044416 then (spec_l14Numbered.l0 k1 (Int.tmod x1_1 t150) (t159 ++ y162) (x6_1 ++ [rd x5_1 (wrap64 (Int.tdiv x1_1 t150))])) else (none))) else (none)) else (none))) else (none)) else (none)) else (none)) else (none))) = some r := H
        have A8 := Aside0.mk A80
        clear A80
        by_cases c9 : t150 = 0
        · rw [if_pos c9] at H
          exact absurd H (by simp)
        · rw [if_neg c9] at H
          have c9b0 : (t150 == 0) = false := beq_eq_false_iff_ne.mpr c9
          have c9b1 : (t150 != 0) = true := bne_iff_ne.mpr c9
          obtain ⟨ji10, hji10⟩ : ∃ j_ : Int, (wrap64 (Int.tdiv x1_1 t150)) = j_ := ⟨_, rfl⟩
          replace H : (if 0 ≤ (ji10) then (if (ji10) < (x5_1.length : Int) then (if x6_1.length < 17592186044416 then (if (ji10) ≤ (x5_1.length : Int) then ((spec_l00Own.f (x5_1.take ((ji10) : Int).toNat)).bind fun t159 => (if 0 ≤ (wrap64 ((ji10) + 1)) then (if (wrap64 ((ji10) + 1)) ≤ (x5_1.length : Int) then ((some (x5_1.drop ((wrap64 ((ji10) + 1)) : Int).toNat : List Int)).bind fun y162 => (if t159.length + y162.length < 17592186044416 then (spec_l14Numbered.l0 k1 (Int.tmod x1_1 t150) (t159 ++ y162) (x6_1 ++ [rd x5_1 (ji10)])) else (none))) else (none)) else (none))) else (none)) else (none)) else (none)) else (none)) = some r := by first | (rw [hji10] at H; exact H) | (simp only [hji10] at H ⊢; exact H)
          (try rw [hji10] at A8)
          have hji10w : (IntKind.i64.wrap (Int.tdiv x1_1 t150)) = ji10 := (i64_w _).trans hji10
          by_cases c11 : 0 ≤ (ji10)
          · rw [if_pos c11] at H
            have c11b0 : decide (0 ≤ (ji10)) = true := decide_eq_true c11
            clear c11
            by_cases c12 : (ji10) < (x5_1.length : Int)
            · rw [if_pos c12] at H
              have c12b0 : decide ((ji10) < (x5_1.length : Int)) = true := decide_eq_true c12
              clear c12
              by_cases c13 : x6_1.length < 17592186044416
              · rw [if_pos c13] at H
                have LMc13 := Aside0.mk c13
                clear c13
                obtain ⟨y152, hy152⟩ : ∃ y_ : List Int, y_ = (x6_1 ++ [rd x5_1 (ji10)]) := ⟨_, rfl⟩
                replace H : (if (ji10) ≤ (x5_1.length : Int) then ((spec_l00Own.f (x5_1.take ((ji10) : Int).toNat)).bind fun t159 => (if 0 ≤ (wrap64 ((ji10) + 1)) then (if (wrap64 ((ji10) + 1)) ≤ (x5_1.length : Int) then ((some (x5_1.drop ((wrap64 ((ji10) + 1)) : Int).toNat : List Int)).bind fun y162 => (if t159.length + y162.length < 17592186044416 then (spec_l14Numbered.l0 k1 (Int.tmod x1_1 t150) (t159 ++ y162) y152) else (none))) else (none)) else (none))) else (none)) = some r := by first | (rw [hy152]; with_reducible exact H) | (have H2_ := (Option.bind_some _ _).symm.trans H; rw [hy152]; with_reducible exact H2_) | (have H2_ := (Option.bind_some _ _).symm.trans H; with_reducible exact H2_) | with_reducible exact H | (rw [hy152]; exact H) | exact H
                have Ny152 := Aside0.mk hy152
                clear hy152
                have c14b0 := eq_true (of_decide_eq_true (by first | (with_reducible assumption) | assumption) : 0 ≤ (ji10))
                by_cases c15 : (ji10) ≤ (x5_1.length : Int)
                · rw [if_pos c15] at H
                  have c15b0 := eq_true c15
                  have c15b1 : decide ((ji10) ≤ (x5_1.length : Int)) = true := decide_eq_true c15
                  clear c15
                  obtain ⟨y155, hy155⟩ : ∃ y_ : List Int, y_ = (x5_1.take ((ji10) : Int).toNat) := ⟨_, rfl⟩
                  replace H : ((spec_l00Own.f y155).bind fun t159 => (if 0 ≤ (wrap64 ((ji10) + 1)) then (if (wrap64 ((ji10) + 1)) ≤ (x5_1.length : Int) then ((some (x5_1.drop ((wrap64 ((ji10) + 1)) : Int).toNat : List Int)).bind fun y162 => (if t159.length + y162.length < 17592186044416 then (spec_l14Numbered.l0 k1 (Int.tmod x1_1 t150) (t159 ++ y162) y152) else (none))) else (none)) else (none))) = some r := by first | (rw [hy155]; with_reducible exact H) | (have H2_ := (Option.bind_some _ _).symm.trans H; rw [hy155]; with_reducible exact H2_) | (have H2_ := (Option.bind_some _ _).symm.trans H; with_reducible exact H2_) | with_reducible exact H | (rw [hy155]; exact H) | exact H
                  have Ny155 := Aside0.mk hy155
                  clear hy155
                  replace H := Option.bind_eq_some_iff.mp H
                  obtain ⟨t159, A160, H⟩ := H
                  replace H : (if 0 ≤ (wrap64 ((ji10) + 1)) then (if (wrap64 ((ji10) + 1)) ≤ (x5_1.length : Int) then ((some (x5_1.drop ((wrap64 ((ji10) + 1)) : Int).toNat : List Int)).bind fun y162 => (if t159.length + y162.length < 17592186044416 then (spec_l14Numbered.l0 k1 (Int.tmod x1_1 t150) (t159 ++ y162) y152) else (none))) else (none)) else (none)) = some r := H
                  have A16 := Aside0.mk A160
                  clear A160
                  obtain ⟨ji17, hji17⟩ : ∃ j_ : Int, (wrap64 ((ji10) + 1)) = j_ := ⟨_, rfl⟩
                  replace H : (if 0 ≤ (ji17) then (if (ji17) ≤ (x5_1.length : Int) then ((some (x5_1.drop ((ji17) : Int).toNat : List Int)).bind fun y162 => (if t159.length + y162.length < 17592186044416 then (spec_l14Numbered.l0 k1 (Int.tmod x1_1 t150) (t159 ++ y162) y152) else (none))) else (none)) else (none)) = some r := by first | (rw [hji17] at H; exact H) | (simp only [hji17] at H ⊢; exact H)
                  (try rw [hji17] at A8)
                  (try rw [hji17] at A16)
                  have hji17w : (IntKind.i64.wrap ((ji10) + 1)) = ji17 := (i64_w _).trans hji17
                  by_cases c18 : 0 ≤ (ji17)
                  · rw [if_pos c18] at H
                    have c18b0 := eq_true c18
                    have c18b1 : decide (0 ≤ (ji17)) = true := decide_eq_true c18
                    clear c18
                    by_cases c19 : (ji17) ≤ (x5_1.length : Int)
                    · rw [if_pos c19] at H
                      have c19b0 := eq_true c19
                      have c19b1 : decide ((ji17) ≤ (x5_1.length : Int)) = true := decide_eq_true c19
                      clear c19
                      obtain ⟨y162, hy162⟩ : ∃ y_ : List Int, y_ = (x5_1.drop ((ji17) : Int).toNat) := ⟨_, rfl⟩
                      replace H : (if t159.length + y162.length < 17592186044416 then (spec_l14Numbered.l0 k1 (Int.tmod x1_1 t150) (t159 ++ y162) y152) else (none)) = some r := by first | (rw [hy162]; with_reducible exact H) | (have H2_ := (Option.bind_some _ _).symm.trans H; rw [hy162]; with_reducible exact H2_) | (have H2_ := (Option.bind_some _ _).symm.trans H; with_reducible exact H2_) | with_reducible exact H | (rw [hy162]; exact H) | exact H
                      have Ny162 := Aside0.mk hy162
                      clear hy162
                      by_cases c20 : t159.length + y162.length < 17592186044416
                      · rw [if_pos c20] at H
                        have LMc20 := Aside0.mk c20
                        clear c20
                        obtain ⟨y166, hy166⟩ : ∃ y_ : List Int, y_ = (t159 ++ y162) := ⟨_, rfl⟩
                        replace H : (spec_l14Numbered.l0 k1 (Int.tmod x1_1 t150) y166 y152) = some r := by first | (rw [hy166]; with_reducible exact H) | (have H2_ := (Option.bind_some _ _).symm.trans H; rw [hy166]; with_reducible exact H2_) | (have H2_ := (Option.bind_some _ _).symm.trans H; with_reducible exact H2_) | with_reducible exact H | (rw [hy166]; exact H) | exact H
                        have Ny166 := Aside0.mk hy166
                        clear hy166
                        have H' := Aside0.mk H
                        clear H
                        obtain ⟨Ao21, co21, eo21⟩ := Kd.R_slice HO_5.out
                        subst eo21
                        go_wp2_with (first | ((with_reducible refine gate_callee (f := 43) rfl ?_); refine goesL_ (some 19) rfl rfl Try.func43 (by kernel_rfl) rfl #[.int .i64 (wrap64 ((x5_1.length : Int) - 1))] rfl (by (try simp only [List.map_toArray, List.map_cons, List.map_nil]); first | done | rfl | (simp only [List.length_drop, List.length_take]; rfl)) ?_; (with_reducible refine (spec_l14Factorial.calls k1 (wrap64 ((x5_1.length : Int) - 1)) t150 _ A8.out).mono ?_); rintro e w' ⟨rfl, ⟨nd, rfl⟩⟩; refine ⟨_, rfl, ?_⟩; have p151 : 0 ≤ ((ji10) : Int) := of_decide_eq_true (by first | (with_reducible assumption) | assumption); have q151 : (ji10) < (x5_1.length : Int) := of_decide_eq_true (by first | (with_reducible assumption) | assumption); obtain ⟨ad151, e151, hx151_0⟩ := Kd.at_int (Kd.R_reads' HO_5.out).2.2 (ji10) p151 q151; cases e151; replace p151 := eq_true p151; replace q151 := eq_true q151) | ((with_reducible refine gate_builtin (b := .append) (xs := #[.tmp 26, .tmp 31]) rfl ?_); at_builtin; refine Kd.R_append (Kd.int .i64) (w0 := w) w.heap.size rfl (.tmp 26) (.tmp 31) 22 2 (.int .i64 0) 8 rfl Try.underlying22 info2 rfl (by decide) (by omega) u6 x6_1 (rd x5_1 (ji10)) [.int .i64 (rd x5_1 (ji10))] (fun k_ => some k_ ≠ (.slice (some ad151) x5_1.length co21 : Value).ownBlock) (fun _ => False) rfl rfl ?aP (fun _ hk => hk.elim) ?aF ?aO ?aB ?aS ?aL ?_; (case aP => exact rfl); (case aB => exact (bb_ HB.out)); (case aF => exact (fun k_ hk => Kd.fresh' (Kd.R_lt (rr_ HO_5.out)) k_ hk)); (case aO => exact (rr_ HO_6.out)); (case aS => exact (below_size (bb_ HB.out))); (case aL => have := LMc13.out; omega); intro v153 w22 ho hb hg hat; rw [← Ny152.out] at ho; have n0_ := Aside0.mk (Kd.R_after (ok := (fun _ => True)) (by (with_reducible repeat (first | apply Kd.R_alloc | apply Kd.R_drewN | apply Kd.R_drew)); exact Kd.R_mono HO_5.out (fun _ hk => ⟨trivial, hk⟩)) hg hat); have n1_ := Aside0.mk (hb); have n2_ := Aside0.mk (ho); clear HO_5; clear HB; clear HO_6; have HO_5 := n0_; have HB := n1_; have HO154 := n2_; clear n0_ n1_ n2_; clear ho hb hg hat; have q23 : ((ji10) : Int) ≤ ((x5_1.length : Int) : Int) := of_decide_eq_true (by first | (with_reducible assumption) | assumption); obtain ⟨i023, hi023, _, hsz23, _⟩ := info_parts info2; have hroom23 : x5_1.length ≤ co21 := (Kd.R_reads' HO_5.out).2.1; have hC23 : Kd.C (Kd.int .i64) _ (some ad151) x5_1.length x5_1 := (Kd.R_reads' HO_5.out).2.2; have hcut23 := cut_to (P := Try.prog) 22 2 .i64 Try.underlying22 hi023 (some ad151) x5_1.length co21 (ji10) (of_decide_eq_true (by first | (with_reducible assumption) | assumption)) q23 hroom23; have hr23 := Kd.C_take (m := ((ji10) : Int).toNat) hC23 (by omega); have hy23 : y155.length = ((ji10) : Int).toNat := (by rw [Ny155.out, List.length_take]; omega); rw [← Ny155.out] at hr23; rw [← hy23] at hcut23; have HR158 := Aside0.mk hr23; have HC158 := Aside0.mk (show y155.length ≤ co21 from by omega); clear hr23 hC23 hroom23 hi023 hsz23; have KY23 := Aside0.mk hy23; clear hy23; have KL23 := Aside0.mk (show ((ji10) : Int).toNat ≤ x5_1.length from by omega); replace q23 := eq_true q23) | ((with_reducible refine gate_callee (f := 37) rfl ?_); refine goesL_ (some 36) rfl rfl Try.func37 (by kernel_rfl) rfl #[.slice (some ad151) y155.length co21] rfl (by (try simp only [List.map_toArray, List.map_cons, List.map_nil]); first | done | rfl | (simp only [List.length_drop, List.length_take]; rfl)) ?_; (with_reducible refine (spec_l00Own.calls _ _ y155 t159 _ ?side1 ?side2 A16.out).mono ?_); (case side1 => repeat (first | exact (by repeat (first | (with_reducible exact HR158.out) | (with_reducible refine Kd.C_alloc ?_ _) | (with_reducible refine Kd.C_drewN ?_ _) | (with_reducible refine Kd.C_drew ?_) | exact HR158.out)) | (with_reducible refine Kd.C_alloc ?_ _) | (with_reducible refine Kd.C_drewN ?_ _) | (with_reducible refine Kd.C_drew ?_))); (case side2 => exact HC158.out); rintro e w24 ⟨v160, rfl, ho0, hb⟩; refine ⟨_, rfl, ?_⟩; have n0_ := Aside0.mk (Kd.R_elder' (rr_ HO_5.out) (Kd.R_base ho0) hb); have n1_ := Aside0.mk (Kd.R_elder' (rr_ HO154.out) (Kd.R_base ho0) hb); have n2_ := Aside0.mk (Kd.R_lower (Kd.R_new' (Kd.R_new' ho0 (Kd.R_lt (rr_ HO_5.out))) (Kd.R_lt (rr_ HO154.out))) (below_size (bb_ HB.out))); have n3_ := Aside0.mk (Kd.C_below (by repeat (first | (with_reducible exact HR158.out) | (with_reducible refine Kd.C_alloc ?_ _) | (with_reducible refine Kd.C_drewN ?_ _) | (with_reducible refine Kd.C_drew ?_) | exact HR158.out)) hb); have n4_ := Aside0.mk (below_step (bb_ HB.out) hb); clear HO_5; clear HO154; clear HR158; clear HB; have HO_5 := n0_; have HO154 := n1_; have HO161 := n2_; have HR158 := n3_; have HB := n4_; clear n0_ n1_ n2_ n3_ n4_; (try clear hb); (try clear hb2); (try clear hk); (try clear hi); (try clear ho0); have q25 : ((ji17) : Int) ≤ ((x5_1.length : Int) : Int) := of_decide_eq_true (by first | (with_reducible assumption) | assumption); obtain ⟨i025, hi025, _, hsz25, _⟩ := info_parts info2; have hroom25 : x5_1.length ≤ co21 := (Kd.R_reads' HO_5.out).2.1; have hC25 : Kd.C (Kd.int .i64) _ (some ad151) x5_1.length x5_1 := (Kd.R_reads' HO_5.out).2.2; have q025 : (0 : Int) ≤ ((ji17) : Int) := of_decide_eq_true (by first | (with_reducible assumption) | assumption); have hcut25 := cut_from (P := Try.prog) 22 2 .i64 Try.underlying22 hi025 1 hsz25 (some ad151) x5_1.length co21 (ji17) q025 q25; have hr25 := Kd.C_drop (m := ((ji17) : Int).toNat) (c := co21) hC25 (by omega) hroom25; obtain ⟨A25, hA25⟩ : ∃ A1, A1 = (if co21 = ((ji17) : Int).toNat then (some ad151) else ((some ad151) : Option Addr).map (·.add (((ji17) : Int).toNat * 1))) := ⟨_, rfl⟩; obtain ⟨c25, hc25⟩ : ∃ c1, c1 = co21 - ((ji17) : Int).toNat := ⟨_, rfl⟩; have hy25 : y162.length = x5_1.length - ((ji17) : Int).toNat := (by rw [Ny162.out, List.length_drop] <;> omega); rw [show (x5_1).drop ((ji17) : Int).toNat = y162 from Ny162.out.symm] at hr25; replace hr25 : Kd.C (Kd.int .i64) _ A25 y162.length y162 := (by rw [hA25]; exact hr25); rw [← hy25, ← hA25, ← hc25] at hcut25; have HR165 := Aside0.mk hr25; have HC165 := Aside0.mk (show y162.length ≤ c25 from by rw [hy25, hc25]; exact Nat.sub_le_sub_right hroom25 _); clear hr25 hC25 hroom25 hi025 hsz25 hc25; have KY25 := Aside0.mk hy25; have KA25 := Aside0.mk hA25; clear hy25 hA25; have KL25 := Aside0.mk (show ((ji17) : Int).toNat ≤ x5_1.length from by omega); replace q25 := eq_true q25) | ((with_reducible refine gate_builtin (b := .append) (xs := #[.tmp 37, .tmp 41]) rfl ?_); at_builtin; refine Kd.R_append_rows (Kd.int .i64) (w0 := w) w.heap.size rfl (.tmp 37) (.tmp 41) 22 2 (.int .i64 0) 8 rfl Try.underlying22 info2 rfl (by decide) (by omega) v160 t159 y162 _ _ _ (fun k_ => some k_ ≠ (.slice (some ad151) x5_1.length co21 : Value).ownBlock ∧ some k_ ≠ (v153 : Value).ownBlock) (fun _ => False) rfl rfl ?aO ?aR (fun _ _ h => h) (fun _ h => h.elim) ?aF ?aB ?aS ?aL ?_; (case aR => repeat (first | exact (by repeat (first | (with_reducible exact HR165.out) | (with_reducible refine Kd.C_alloc ?_ _) | (with_reducible refine Kd.C_drewN ?_ _) | (with_reducible refine Kd.C_drew ?_) | exact HR165.out)) | (with_reducible refine Kd.C_alloc ?_ _) | (with_reducible refine Kd.C_drewN ?_ _) | (with_reducible refine Kd.C_drew ?_))); (case aB => exact (bb_ HB.out)); (case aF => exact (fun k_ hk => ⟨Kd.fresh' (Kd.R_lt (rr_ HO_5.out)) k_ hk, Kd.fresh' (Kd.R_lt (rr_ HO154.out)) k_ hk⟩)); (case aO => exact (by (with_reducible repeat (first | apply Kd.R_alloc | apply Kd.R_drewN | apply Kd.R_drew)); exact Kd.R_mono HO161.out (fun _ hk => ⟨hk.1.2, hk.2⟩))); (case aS => exact (below_size (bb_ HB.out))); (case aL => have := LMc20.out; omega); intro v167 w26 ho hb hg hat; rw [← Ny166.out] at ho; have n0_ := Aside0.mk (Kd.R_after (ok := (fun k_ => some k_ ≠ (v153 : Value).ownBlock)) (by (with_reducible repeat (first | apply Kd.R_alloc | apply Kd.R_drewN | apply Kd.R_drew)); exact Kd.R_mono HO_5.out (fun _ hk => ⟨hk.1.2, hk.2⟩)) hg hat); have n1_ := Aside0.mk (Kd.R_after (ok := (fun k_ => some k_ ≠ (.slice (some ad151) x5_1.length co21 : Value).ownBlock)) (rr_ HO154.out) hg hat); have n2_ := Aside0.mk (hb); have n3_ := Aside0.mk ((show Kd.C (Kd.int .i64) w26 (some ad151) y155.length y155 from by rw [Ny155.out]; exact Kd.C_take (m := ((ji10) : Int).toNat) ((Kd.R_reads' (Kd.R_after (ok := (fun k_ => some k_ ≠ (v153 : Value).ownBlock)) (by (with_reducible repeat (first | apply Kd.R_alloc | apply Kd.R_drewN | apply Kd.R_drew)); exact Kd.R_mono HO_5.out (fun _ hk => ⟨hk.1.2, hk.2⟩)) hg hat)).2.2) KL23.out)); have n4_ := Aside0.mk ((show Kd.C (Kd.int .i64) w26 A25 y162.length y162 from by rw [Ny162.out, KA25.out]; exact Kd.C_drop (m := ((ji17) : Int).toNat) (c := co21) ((Kd.R_reads' (Kd.R_after (ok := (fun k_ => some k_ ≠ (v153 : Value).ownBlock)) (by (with_reducible repeat (first | apply Kd.R_alloc | apply Kd.R_drewN | apply Kd.R_drew)); exact Kd.R_mono HO_5.out (fun _ hk => ⟨hk.1.2, hk.2⟩)) hg hat)).2.2) KL25.out ((Kd.R_reads' (Kd.R_after (ok := (fun k_ => some k_ ≠ (v153 : Value).ownBlock)) (by (with_reducible repeat (first | apply Kd.R_alloc | apply Kd.R_drewN | apply Kd.R_drew)); exact Kd.R_mono HO_5.out (fun _ hk => ⟨hk.1.2, hk.2⟩)) hg hat)).2.1))); have n5_ := Aside0.mk (ho); clear HO_5; clear HO154; clear HB; clear HR158; clear HR165; clear HO161; have HO_5 := n0_; have HO154 := n1_; have HB := n2_; have HR158 := n3_; have HR165 := n4_; have HO168 := n5_; clear n0_ n1_ n2_ n3_ n4_ n5_; clear ho hb hg hat))
                        go_roundg k1
                        case measure => have := HK1.out; omega
                        case rel => exact ⟨(Int.tmod x1_1 t150), (y166), (y152), sv_, H', ⟨by have := HK1.out; omega⟩, ⟨by (with_reducible repeat (first | apply Kd.R_alloc | apply Kd.R_drewN | apply Kd.R_drew)); exact Kd.R_mono HO168.out (fun _ hk => hk.2)⟩, ⟨by (with_reducible repeat (first | apply Kd.R_alloc | apply Kd.R_drewN | apply Kd.R_drew)); exact Kd.R_mono HO154.out (fun _ hk => hk.2)⟩, ⟨bb_ HB.out⟩⟩
                      · rw [if_neg c20] at H
                        exact absurd H (by simp)
                    · rw [if_neg c19] at H
                      exact absurd H (by simp)
                  · rw [if_neg c18] at H
                    exact absurd H (by simp)
                · rw [if_neg c15] at H
                  exact absurd H (by simp)
              · rw [if_neg c13] at H
                exact absurd H (by simp)
            · rw [if_neg c12] at H
              exact absurd H (by simp)
          · rw [if_neg c11] at H
            exact absurd H (by simp)
      · rw [if_neg c7] at H
        have c7b0 : decide (0 < (x5_1.length : Int)) = false := decide_eq_false c7
        have c7b1 : decide (0 < x5_1.length) = false := decide_eq_false (by omega)
        clear c7
        obtain rfl := Option.some.inj H
        obtain ⟨Ao27, co27, eo27⟩ := Kd.R_slice HO_5.out
        subst eo27
        go_wp2
        go_ret
        exact ⟨_, by first | rfl | (simp [errW_none, errW_some] <;> rfl) | (simp [*, errW_none, errW_some] <;> rfl), by (with_reducible repeat (first | apply Kd.R_alloc | apply Kd.R_drewN | apply Kd.R_drew)); exact Kd.R_mono HO_6.out (fun _ hk => trivial), bb_ HB.out⟩
/-! ### spec_l00Has: function 58 -/
def spec_l00Has.l0 : Nat → List Int → Int → Int → Option (Bool)
 | 0, _, _, _ => none
 | k + 1, x0, x1, x5 => if x5 < (x0.length : Int) then (if 0 ≤ x5 then (if (rd x0 x5) = x1 then (some true) else (spec_l00Has.l0 k x0 x1 (wrap64 (x5 + 1)))) else (none)) else (some false)
def spec_l00Has.f (k : Nat) (l0 : List Int) (a1 : Int) : Option (Bool) := spec_l00Has.l0 k l0 a1 0
set_option maxHeartbeats 8000000 in
set_option maxRecDepth 100000 in
theorem spec_l00Has.calls (k : Nat) (A0 : Option Addr) (c0 : Nat) (l0 : List Int) (a1 : Int) (r : Bool) (w : World) (hr0 : Kd.C (Kd.int .i64) w A0 l0.length l0) (hc0 : l0.length ≤ c0) (h : spec_l00Has.f k l0 a1 = some r) :
  Calls Try.prog 58 #[.slice A0 l0.length c0, .int .i64 a1] w fun e w' => e = .returned (.bool r) ∧ Drawn0 w w' := by
 have HR0 := Aside0.mk hr0
 have HC0 := Aside0.mk hc0
 clear hr0 hc0
 have H : (spec_l00Has.l0 k l0 a1 0) = some r := h
 clear h
 have H' := Aside0.mk H
 clear H
 go_enter Try.func58, Try.ntmps58
 go_wp2
 go_loopg [5] k (fun kq v5 w' => ∃ (x5_1 : Int), v5 = .int .i64 x5_1 ∧ Aside0 (spec_l00Has.l0 kq l0 a1 x5_1 = some r) ∧ Aside0 (kq ≤ k) ∧ Drawn0 w w')
 case atStart => exact ⟨(0), sv_, H', ⟨Nat.le_refl _⟩, dr_⟩
 case round =>
  clear H'
  try clear p2
  obtain ⟨x5_1, rfl, HA, HK1, ⟨m1, rfl⟩⟩ := hrel
  cases gk with
  | zero => exact absurd HA.out (by simp [spec_l00Has.l0])
  | succ k1 =>
   have H := HA.out
   clear HA
   simp only [spec_l00Has.l0] at H
   by_cases c3 : x5_1 < (l0.length : Int)
   ·rw [if_pos c3] at H
    have c3b0 : decide (x5_1 < (l0.length : Int)) = true := decide_eq_true c3
    clear c3
    by_cases c4 : 0 ≤ x5_1
    ·rw [if_pos c4] at H
     have c4b0 : decide (0 ≤ x5_1) = true := decide_eq_true c4
     clear c4
     by_cases c5 : (rd l0 x5_1) = a1
     ·rw [if_pos c5] at H
      have c5b0 : ((rd l0 x5_1) == a1) = true := beq_iff_eq.mpr c5
      have c5b1 : ((rd l0 x5_1) != a1) = false := bne_eq_false_iff_eq.mpr c5
      clear c5
      obtain rfl := Option.some.inj H
      have p101 : 0 ≤ (x5_1 : Int) := da_
      have q101 : x5_1 < (l0.length : Int) := da_
      obtain ⟨ad101, e101, hx101_0⟩ := Kd.at_int HR0.out x5_1 p101 q101
      cases e101
      replace p101 := eq_true p101
      replace q101 := eq_true q101
      go_wp2
      go_ret
      exact ⟨sv_, dr_⟩
     ·rw [if_neg c5] at H
      have c5b0 : ((rd l0 x5_1) == a1) = false := beq_eq_false_iff_ne.mpr c5
      have c5b1 : ((rd l0 x5_1) != a1) = true := bne_iff_ne.mpr c5
      have H' := Aside0.mk H
      clear H
      have p101 : 0 ≤ (x5_1 : Int) := da_
      have q101 : x5_1 < (l0.length : Int) := da_
      obtain ⟨ad101, e101, hx101_0⟩ := Kd.at_int HR0.out x5_1 p101 q101
      cases e101
      replace p101 := eq_true p101
      replace q101 := eq_true q101
      go_wp2
      go_roundg k1
      case measure => have := HK1.out; omega
      case rel => exact ⟨(wrap64 (x5_1 + 1)), sv_, H', ⟨by have := HK1.out; omega⟩, dr_⟩
    ·rw [if_neg c4] at H
     exact absurd H (by simp)
   ·rw [if_neg c3] at H
    have c3b0 : decide (x5_1 < (l0.length : Int)) = false := decide_eq_false c3
    clear c3
    obtain rfl := Option.some.inj H
    go_wp2
    go_ret
    exact ⟨sv_, dr_⟩
/-! ### spec_l03Pitch: function 77 -/
def spec_l03Pitch.f (a0 : Int) : Option (Bool) := (spec_l00In.f a0 (-12) 23).bind fun t102 => (some t102)
set_option maxHeartbeats 8000000 in
set_option maxRecDepth 100000 in
theorem spec_l03Pitch.calls (a0 : Int) (r : Bool) (w : World) (h : spec_l03Pitch.f a0 = some r) :
  Calls Try.prog 77 #[.int .i64 a0] w fun e w' => e = .returned (.bool r) ∧ Drawn0 w w' := by
 have H : ((spec_l00In.f a0 (-12) 23).bind fun t102 => (some t102)) = some r := h
 clear h
 replace H := Option.bind_eq_some_iff.mp H
 obtain ⟨t102, A20, H⟩ := H
 replace H : (some t102) = some r := H
 have A2 := Aside0.mk A20
 clear A20
 obtain rfl := Option.some.inj H
 go_enter Try.func77, Try.ntmps77
 go_wp2_with (first | ((with_reducible refine gate_callee (f := 42) rfl ?_); refine goesL_ (some 4) rfl rfl Try.func42 (by kernel_rfl) rfl #[.int .i64 a0, .int .i64 (-12), .int .i64 23] rfl av_ ?_; (with_reducible refine (spec_l00In.calls a0 (-12) 23 t102 _ A2.out).mono ?_); rintro e w' ⟨rfl, ⟨nd, rfl⟩⟩; refine ⟨_, rfl, ?_⟩))
 go_ret
 exact ⟨sv_, dr_⟩
/-! ### spec_l14Permuted: function 41 -/
def spec_l14Permuted.l0 : Nat → List Int → Int → Option (Bool)
 | 0, _, _ => none
 | k + 1, x0, x3 => if x3 < (x0.length : Int) then (if 0 ≤ x3 then ((spec_l03Pitch.f (rd x0 x3)).bind fun t104 => (if t104 = true then (if x3 ≤ (x0.length : Int) then ((spec_l00Has.f k (x0.take (x3 : Int).toNat) (rd x0 x3)).bind fun t107 => (if t107 = true then (some false) else (spec_l14Permuted.l0 k x0 (wrap64 (x3 + 1))))) else (none)) else (some false))) else (none)) else (if (x0.length : Int) ≥ 1 then (some (decide ((x0.length : Int) ≤ 8))) else (some false))
def spec_l14Permuted.f (k : Nat) (l0 : List Int) : Option (Bool) := spec_l14Permuted.l0 k l0 0
set_option maxHeartbeats 8000000 in
set_option maxRecDepth 100000 in
theorem spec_l14Permuted.calls (k : Nat) (A0 : Option Addr) (c0 : Nat) (l0 : List Int) (r : Bool) (w : World) (hr0 : Kd.C (Kd.int .i64) w A0 l0.length l0) (hc0 : l0.length ≤ c0) (h : spec_l14Permuted.f k l0 = some r) :
  Calls Try.prog 41 #[.slice A0 l0.length c0] w fun e w' => e = .returned (.bool r) ∧ Drawn0 w w' := by
 have HR0 := Aside0.mk hr0
 have HC0 := Aside0.mk hc0
 clear hr0 hc0
 have H : (spec_l14Permuted.l0 k l0 0) = some r := h
 clear h
 have H' := Aside0.mk H
 clear H
 go_enter Try.func41, Try.ntmps41
 go_wp2
 repeat (go_quiet (fail); try go_wp2)
 go_loopg [3] k (fun kq v3 w' => ∃ (x3_1 : Int), v3 = .int .i64 x3_1 ∧ Aside0 (spec_l14Permuted.l0 kq l0 x3_1 = some r) ∧ Aside0 (kq ≤ k) ∧ Drawn0 w w')
 case atStart => exact ⟨(0), sv_, H', ⟨Nat.le_refl _⟩, dr_⟩
 case round =>
  clear H'
  obtain ⟨x3_1, rfl, HA, HK1, ⟨m1, rfl⟩⟩ := hrel
  cases gk with
  | zero => exact absurd HA.out (by simp [spec_l14Permuted.l0])
  | succ k1 =>
   have H := HA.out
   clear HA
   simp only [spec_l14Permuted.l0] at H
   by_cases c2 : x3_1 < (l0.length : Int)
   ·rw [if_pos c2] at H
    have c2b0 : decide (x3_1 < (l0.length : Int)) = true := decide_eq_true c2
    clear c2
    by_cases c3 : 0 ≤ x3_1
    ·rw [if_pos c3] at H
     have c3b0 : decide (0 ≤ x3_1) = true := decide_eq_true c3
     clear c3
     replace H := Option.bind_eq_some_iff.mp H
     obtain ⟨t104, A40, H⟩ := H
     replace H : (if t104 = true then (if x3_1 ≤ (l0.length : Int) then ((spec_l00Has.f k1 (l0.take (x3_1 : Int).toNat) (rd l0 x3_1)).bind fun t107 => (if t107 = true then (some false) else (spec_l14Permuted.l0 k1 l0 (wrap64 (x3_1 + 1))))) else (none)) else (some false)) = some r := H
     have A4 := Aside0.mk A40
     clear A40
     by_cases c5 : t104 = true
     ·subst c5
      have H1 : (if x3_1 ≤ (l0.length : Int) then ((spec_l00Has.f k1 (l0.take (x3_1 : Int).toNat) (rd l0 x3_1)).bind fun t107 => (if t107 = true then (some false) else (spec_l14Permuted.l0 k1 l0 (wrap64 (x3_1 + 1))))) else (none)) = some r := by rw [if_pos rfl] at H; exact H
      clear H
      have H := H1
      clear H1
      have c6b0 := eq_true (da_ : 0 ≤ x3_1)
      by_cases c7 : x3_1 ≤ (l0.length : Int)
      ·rw [if_pos c7] at H
       have c7b0 := eq_true c7
       have c7b1 : decide (x3_1 ≤ (l0.length : Int)) = true := decide_eq_true c7
       clear c7
       replace H := Option.bind_eq_some_iff.mp H
       obtain ⟨t107, A80, H⟩ := H
       replace H : (if t107 = true then (some false) else (spec_l14Permuted.l0 k1 l0 (wrap64 (x3_1 + 1)))) = some r := H
       have A8 := Aside0.mk A80
       clear A80
       by_cases c9 : t107 = true
       ·subst c9
        have H1 : (some false) = some r := by rw [if_pos rfl] at H; exact H
        clear H
        have H := H1
        clear H1
        obtain rfl := Option.some.inj H
        have p103 : 0 ≤ (x3_1 : Int) := da_
        have q103 : x3_1 < (l0.length : Int) := da_
        obtain ⟨ad103, e103, hx103_0⟩ := Kd.at_int HR0.out x3_1 p103 q103
        cases e103
        replace p103 := eq_true p103
        replace q103 := eq_true q103
        go_wp2_with (first | (go_at_call 77; (with_reducible refine (spec_l03Pitch.calls (rd l0 x3_1) true _ A4.out).mono ?_); rintro e w' ⟨rfl, ⟨nd, rfl⟩⟩; (try first | exact ⟨rfl, _, dN1⟩ | exact ⟨rfl, _, dN2⟩); obtain ⟨i010, hi010, _, hsz10, _⟩ := info_parts info2; obtain ⟨hcut10, hA10, hC10⟩ := print_take_of (P := Try.prog) (Value.int .i64) 0 22 2 .i64 Try.underlying22 hi010 hsz10 (some ad103) c0 l0 x3_1 (da_) (da_) HC0.out; have HR105 := Aside0.mk (Kd.C_of_reads (h1 := fun _ => rfl) (hA10 _ (Kd.reads_of_C HR0.out))); have HC105 := Aside0.mk hC10; clear hA10 hC10 hi010 hsz10; have p106 : 0 ≤ (x3_1 : Int) := da_; have q106 : x3_1 < (l0.length : Int) := da_; obtain ⟨ad106, e106, hx106_0⟩ := Kd.at_int HR0.out x3_1 p106 q106; obtain rfl : ad103 = ad106 := (by injection e106); replace p106 := eq_true p106; replace q106 := eq_true q106) | (go_at_call 58; refine calls_of_args (args' := #[.slice (some ad103) (l0.take (x3_1 : Int).toNat).length c0, .int .i64 (rd l0 x3_1)]) (by first | rfl | (rw [show (l0.take (x3_1 : Int).toNat).length = x3_1.toNat from (by rw [List.length_take]; have h_ : (x3_1 : Int) ≤ (l0.length : Int) := da_; omega)] <;> rfl) | rfl) ?_; (with_reducible refine (spec_l00Has.calls k1 _ _ (l0.take (x3_1 : Int).toNat) (rd l0 x3_1) true _ ?side1 ?side2 A8.out).mono ?_); (case side1 => exact cr_ HR105.out); (case side2 => exact HC105.out); rintro e w' ⟨rfl, ⟨nd, rfl⟩⟩; (try first | exact ⟨rfl, _, dN1⟩ | exact ⟨rfl, _, dN2⟩)))
        repeat (go_quiet (first | (go_at_call 77; (with_reducible refine (spec_l03Pitch.calls (rd l0 x3_1) true _ A4.out).mono ?_); rintro e w' ⟨rfl, ⟨nd, rfl⟩⟩; (try first | exact ⟨rfl, _, dN1⟩ | exact ⟨rfl, _, dN2⟩); obtain ⟨i010, hi010, _, hsz10, _⟩ := info_parts info2; obtain ⟨hcut10, hA10, hC10⟩ := print_take_of (P := Try.prog) (Value.int .i64) 0 22 2 .i64 Try.underlying22 hi010 hsz10 (some ad103) c0 l0 x3_1 (da_) (da_) HC0.out; have HR105 := Aside0.mk (Kd.C_of_reads (h1 := fun _ => rfl) (hA10 _ (Kd.reads_of_C HR0.out))); have HC105 := Aside0.mk hC10; clear hA10 hC10 hi010 hsz10; have p106 : 0 ≤ (x3_1 : Int) := da_; have q106 : x3_1 < (l0.length : Int) := da_; obtain ⟨ad106, e106, hx106_0⟩ := Kd.at_int HR0.out x3_1 p106 q106; obtain rfl : ad103 = ad106 := (by injection e106); replace p106 := eq_true p106; replace q106 := eq_true q106) | (go_at_call 58; refine calls_of_args (args' := #[.slice (some ad103) (l0.take (x3_1 : Int).toNat).length c0, .int .i64 (rd l0 x3_1)]) (by first | rfl | (rw [show (l0.take (x3_1 : Int).toNat).length = x3_1.toNat from (by rw [List.length_take]; have h_ : (x3_1 : Int) ≤ (l0.length : Int) := da_; omega)] <;> rfl) | rfl) ?_; (with_reducible refine (spec_l00Has.calls k1 _ _ (l0.take (x3_1 : Int).toNat) (rd l0 x3_1) true _ ?side1 ?side2 A8.out).mono ?_); (case side1 => exact cr_ HR105.out); (case side2 => exact HC105.out); rintro e w' ⟨rfl, ⟨nd, rfl⟩⟩; (try first | exact ⟨rfl, _, dN1⟩ | exact ⟨rfl, _, dN2⟩))); try go_wp2_with (first | (go_at_call 77; (with_reducible refine (spec_l03Pitch.calls (rd l0 x3_1) true _ A4.out).mono ?_); rintro e w' ⟨rfl, ⟨nd, rfl⟩⟩; (try first | exact ⟨rfl, _, dN1⟩ | exact ⟨rfl, _, dN2⟩); obtain ⟨i010, hi010, _, hsz10, _⟩ := info_parts info2; obtain ⟨hcut10, hA10, hC10⟩ := print_take_of (P := Try.prog) (Value.int .i64) 0 22 2 .i64 Try.underlying22 hi010 hsz10 (some ad103) c0 l0 x3_1 (da_) (da_) HC0.out; have HR105 := Aside0.mk (Kd.C_of_reads (h1 := fun _ => rfl) (hA10 _ (Kd.reads_of_C HR0.out))); have HC105 := Aside0.mk hC10; clear hA10 hC10 hi010 hsz10; have p106 : 0 ≤ (x3_1 : Int) := da_; have q106 : x3_1 < (l0.length : Int) := da_; obtain ⟨ad106, e106, hx106_0⟩ := Kd.at_int HR0.out x3_1 p106 q106; obtain rfl : ad103 = ad106 := (by injection e106); replace p106 := eq_true p106; replace q106 := eq_true q106) | (go_at_call 58; refine calls_of_args (args' := #[.slice (some ad103) (l0.take (x3_1 : Int).toNat).length c0, .int .i64 (rd l0 x3_1)]) (by first | rfl | (rw [show (l0.take (x3_1 : Int).toNat).length = x3_1.toNat from (by rw [List.length_take]; have h_ : (x3_1 : Int) ≤ (l0.length : Int) := da_; omega)] <;> rfl) | rfl) ?_; (with_reducible refine (spec_l00Has.calls k1 _ _ (l0.take (x3_1 : Int).toNat) (rd l0 x3_1) true _ ?side1 ?side2 A8.out).mono ?_); (case side1 => exact cr_ HR105.out); (case side2 => exact HC105.out); rintro e w' ⟨rfl, ⟨nd, rfl⟩⟩; (try first | exact ⟨rfl, _, dN1⟩ | exact ⟨rfl, _, dN2⟩))))
        go_ret
        exact ⟨sv_, dr_⟩
       ·replace c9 := Bool.eq_false_iff.mpr c9
        subst c9
        have H1 : (spec_l14Permuted.l0 k1 l0 (wrap64 (x3_1 + 1))) = some r := by rw [if_neg (show ¬ (false = true) by decide)] at H; exact H
        clear H
        have H := H1
        clear H1
        have H' := Aside0.mk H
        clear H
        have p103 : 0 ≤ (x3_1 : Int) := da_
        have q103 : x3_1 < (l0.length : Int) := da_
        obtain ⟨ad103, e103, hx103_0⟩ := Kd.at_int HR0.out x3_1 p103 q103
        cases e103
        replace p103 := eq_true p103
        replace q103 := eq_true q103
        go_wp2_with (first | (go_at_call 77; (with_reducible refine (spec_l03Pitch.calls (rd l0 x3_1) true _ A4.out).mono ?_); rintro e w' ⟨rfl, ⟨nd, rfl⟩⟩; (try first | exact ⟨rfl, _, dN1⟩ | exact ⟨rfl, _, dN2⟩); obtain ⟨i011, hi011, _, hsz11, _⟩ := info_parts info2; obtain ⟨hcut11, hA11, hC11⟩ := print_take_of (P := Try.prog) (Value.int .i64) 0 22 2 .i64 Try.underlying22 hi011 hsz11 (some ad103) c0 l0 x3_1 (da_) (da_) HC0.out; have HR105 := Aside0.mk (Kd.C_of_reads (h1 := fun _ => rfl) (hA11 _ (Kd.reads_of_C HR0.out))); have HC105 := Aside0.mk hC11; clear hA11 hC11 hi011 hsz11; have p106 : 0 ≤ (x3_1 : Int) := da_; have q106 : x3_1 < (l0.length : Int) := da_; obtain ⟨ad106, e106, hx106_0⟩ := Kd.at_int HR0.out x3_1 p106 q106; obtain rfl : ad103 = ad106 := (by injection e106); replace p106 := eq_true p106; replace q106 := eq_true q106) | (go_at_call 58; refine calls_of_args (args' := #[.slice (some ad103) (l0.take (x3_1 : Int).toNat).length c0, .int .i64 (rd l0 x3_1)]) (by first | rfl | (rw [show (l0.take (x3_1 : Int).toNat).length = x3_1.toNat from (by rw [List.length_take]; have h_ : (x3_1 : Int) ≤ (l0.length : Int) := da_; omega)] <;> rfl) | rfl) ?_; (with_reducible refine (spec_l00Has.calls k1 _ _ (l0.take (x3_1 : Int).toNat) (rd l0 x3_1) false _ ?side1 ?side2 A8.out).mono ?_); (case side1 => exact cr_ HR105.out); (case side2 => exact HC105.out); rintro e w' ⟨rfl, ⟨nd, rfl⟩⟩; (try first | exact ⟨rfl, _, dN1⟩ | exact ⟨rfl, _, dN2⟩)))
        repeat (go_quiet (first | (go_at_call 77; (with_reducible refine (spec_l03Pitch.calls (rd l0 x3_1) true _ A4.out).mono ?_); rintro e w' ⟨rfl, ⟨nd, rfl⟩⟩; (try first | exact ⟨rfl, _, dN1⟩ | exact ⟨rfl, _, dN2⟩); obtain ⟨i011, hi011, _, hsz11, _⟩ := info_parts info2; obtain ⟨hcut11, hA11, hC11⟩ := print_take_of (P := Try.prog) (Value.int .i64) 0 22 2 .i64 Try.underlying22 hi011 hsz11 (some ad103) c0 l0 x3_1 (da_) (da_) HC0.out; have HR105 := Aside0.mk (Kd.C_of_reads (h1 := fun _ => rfl) (hA11 _ (Kd.reads_of_C HR0.out))); have HC105 := Aside0.mk hC11; clear hA11 hC11 hi011 hsz11; have p106 : 0 ≤ (x3_1 : Int) := da_; have q106 : x3_1 < (l0.length : Int) := da_; obtain ⟨ad106, e106, hx106_0⟩ := Kd.at_int HR0.out x3_1 p106 q106; obtain rfl : ad103 = ad106 := (by injection e106); replace p106 := eq_true p106; replace q106 := eq_true q106) | (go_at_call 58; refine calls_of_args (args' := #[.slice (some ad103) (l0.take (x3_1 : Int).toNat).length c0, .int .i64 (rd l0 x3_1)]) (by first | rfl | (rw [show (l0.take (x3_1 : Int).toNat).length = x3_1.toNat from (by rw [List.length_take]; have h_ : (x3_1 : Int) ≤ (l0.length : Int) := da_; omega)] <;> rfl) | rfl) ?_; (with_reducible refine (spec_l00Has.calls k1 _ _ (l0.take (x3_1 : Int).toNat) (rd l0 x3_1) false _ ?side1 ?side2 A8.out).mono ?_); (case side1 => exact cr_ HR105.out); (case side2 => exact HC105.out); rintro e w' ⟨rfl, ⟨nd, rfl⟩⟩; (try first | exact ⟨rfl, _, dN1⟩ | exact ⟨rfl, _, dN2⟩))); try go_wp2_with (first | (go_at_call 77; (with_reducible refine (spec_l03Pitch.calls (rd l0 x3_1) true _ A4.out).mono ?_); rintro e w' ⟨rfl, ⟨nd, rfl⟩⟩; (try first | exact ⟨rfl, _, dN1⟩ | exact ⟨rfl, _, dN2⟩); obtain ⟨i011, hi011, _, hsz11, _⟩ := info_parts info2; obtain ⟨hcut11, hA11, hC11⟩ := print_take_of (P := Try.prog) (Value.int .i64) 0 22 2 .i64 Try.underlying22 hi011 hsz11 (some ad103) c0 l0 x3_1 (da_) (da_) HC0.out; have HR105 := Aside0.mk (Kd.C_of_reads (h1 := fun _ => rfl) (hA11 _ (Kd.reads_of_C HR0.out))); have HC105 := Aside0.mk hC11; clear hA11 hC11 hi011 hsz11; have p106 : 0 ≤ (x3_1 : Int) := da_; have q106 : x3_1 < (l0.length : Int) := da_; obtain ⟨ad106, e106, hx106_0⟩ := Kd.at_int HR0.out x3_1 p106 q106; obtain rfl : ad103 = ad106 := (by injection e106); replace p106 := eq_true p106; replace q106 := eq_true q106) | (go_at_call 58; refine calls_of_args (args' := #[.slice (some ad103) (l0.take (x3_1 : Int).toNat).length c0, .int .i64 (rd l0 x3_1)]) (by first | rfl | (rw [show (l0.take (x3_1 : Int).toNat).length = x3_1.toNat from (by rw [List.length_take]; have h_ : (x3_1 : Int) ≤ (l0.length : Int) := da_; omega)] <;> rfl) | rfl) ?_; (with_reducible refine (spec_l00Has.calls k1 _ _ (l0.take (x3_1 : Int).toNat) (rd l0 x3_1) false _ ?side1 ?side2 A8.out).mono ?_); (case side1 => exact cr_ HR105.out); (case side2 => exact HC105.out); rintro e w' ⟨rfl, ⟨nd, rfl⟩⟩; (try first | exact ⟨rfl, _, dN1⟩ | exact ⟨rfl, _, dN2⟩))))
        go_roundg k1
        case measure => have := HK1.out; omega
        case rel => exact ⟨(wrap64 (x3_1 + 1)), sv_, H', ⟨by have := HK1.out; omega⟩, dr_⟩
      ·rw [if_neg c7] at H
       exact absurd H (by simp)
     ·replace c5 := Bool.eq_false_iff.mpr c5
      subst c5
      have H1 : (some false) = some r := by rw [if_neg (show ¬ (false = true) by decide)] at H; exact H
      clear H
      have H := H1
      clear H1
      obtain rfl := Option.some.inj H
      have p103 : 0 ≤ (x3_1 : Int) := da_
      have q103 : x3_1 < (l0.length : Int) := da_
      obtain ⟨ad103, e103, hx103_0⟩ := Kd.at_int HR0.out x3_1 p103 q103
      cases e103
      replace p103 := eq_true p103
      replace q103 := eq_true q103
      go_wp2_with (first | (go_at_call 77; (with_reducible refine (spec_l03Pitch.calls (rd l0 x3_1) false _ A4.out).mono ?_); rintro e w' ⟨rfl, ⟨nd, rfl⟩⟩; (try first | exact ⟨rfl, _, dN1⟩ | exact ⟨rfl, _, dN2⟩)))
      repeat (go_quiet (first | (go_at_call 77; (with_reducible refine (spec_l03Pitch.calls (rd l0 x3_1) false _ A4.out).mono ?_); rintro e w' ⟨rfl, ⟨nd, rfl⟩⟩; (try first | exact ⟨rfl, _, dN1⟩ | exact ⟨rfl, _, dN2⟩))); try go_wp2_with (first | (go_at_call 77; (with_reducible refine (spec_l03Pitch.calls (rd l0 x3_1) false _ A4.out).mono ?_); rintro e w' ⟨rfl, ⟨nd, rfl⟩⟩; (try first | exact ⟨rfl, _, dN1⟩ | exact ⟨rfl, _, dN2⟩))))
      go_ret
      exact ⟨sv_, dr_⟩
    ·rw [if_neg c3] at H
     exact absurd H (by simp)
   ·rw [if_neg c2] at H
    have c2b0 : decide (x3_1 < (l0.length : Int)) = false := decide_eq_false c2
    clear c2
    by_cases c12 : (l0.length : Int) ≥ 1
    ·rw [if_pos c12] at H
     have c12b0 : decide (1 ≤ (l0.length : Int)) = true := decide_eq_true c12
     have c12b1 : decide (1 ≤ l0.length) = true := decide_eq_true (by omega)
     clear c12
     obtain rfl := Option.some.inj H
     go_wp2
     repeat (go_quiet (fail); try go_wp2)
     go_ret
     exact ⟨sv_, dr_⟩
    ·rw [if_neg c12] at H
     have c12b0 : decide (1 ≤ (l0.length : Int)) = false := decide_eq_false c12
     have c12b1 : decide (1 ≤ l0.length) = false := decide_eq_false (by omega)
     clear c12
     obtain rfl := Option.some.inj H
     go_wp2
     repeat (go_quiet (fail); try go_wp2)
     go_ret
     exact ⟨sv_, dr_⟩
/-! ### spec_NumberedPermutation: function 15 -/
def spec_NumberedPermutation.f (k : Nat) (l0 : List Int) (a1 : Int) : Option (List Int × Int) := (spec_l14Permuted.f k l0).bind fun t169 => (if t169 = true then ((spec_l14Factorial.f k (l0.length : Int)).bind fun t170 => ((spec_l00In.f a1 0 (wrap64 (t170 - 1))).bind fun t171 => (if t171 = true then ((spec_l14Numbered.f k l0 a1).bind fun t172 => (some (t172, 0))) else (some (([] : List Int), 3))))) else (some (([] : List Int), 1)))
set_option maxHeartbeats 8000000 in
set_option maxRecDepth 100000 in
theorem spec_NumberedPermutation.calls (k : Nat) (A0 : Option Addr) (c0 : Nat) (l0 : List Int) (a1 : Int) (r1 : List Int) (r2 : Int) (w : World) (hr0 : Kd.C (Kd.int .i64) w A0 l0.length l0) (hc0 : l0.length ≤ c0) (h : spec_NumberedPermutation.f k l0 a1 = some (r1, r2)) :
  Calls Try.prog 15 #[.slice A0 l0.length c0, .int .i64 a1] w fun e w' => ∃ v0_ : Value, e = .returned (.tuple #[v0_, .int .i64 r2]) ∧ Kd.R (Kd.int .i64) 2 w' w.heap.size (fun _ => True) v0_ r1 ∧ Below w.heap.size w w' := by
 have HR0 := Aside0.mk hr0
 have HC0 := Aside0.mk hc0
 clear hr0 hc0
 have HB := Aside0.mk (Below.refl w.heap.size w)
 have H : ((spec_l14Permuted.f k l0).bind fun t169 => (if t169 = true then ((spec_l14Factorial.f k (l0.length : Int)).bind fun t170 => ((spec_l00In.f a1 0 (wrap64 (t170 - 1))).bind fun t171 => (if t171 = true then ((spec_l14Numbered.f k l0 a1).bind fun t172 => (some (t172, 0))) else (some (([] : List Int), 3))))) else (some (([] : List Int), 1)))) = some (r1, r2) := h
 clear h
 replace H := Option.bind_eq_some_iff.mp H
 obtain ⟨t169, A30, H⟩ := H
 replace H : (if t169 = true then ((spec_l14Factorial.f k (l0.length : Int)).bind fun t170 => ((spec_l00In.f a1 0 (wrap64 (t170 - 1))).bind fun t171 => (if t171 = true then ((spec_l14Numbered.f k l0 a1).bind fun t172 => (some (t172, 0))) else (some (([] : List Int), 3))))) else (some (([] : List Int), 1))) = some (r1, r2) := H
 have A3 := Aside0.mk A30
 clear A30
 by_cases c4 : t169 = true
 ·subst c4
  have H1 : ((spec_l14Factorial.f k (l0.length : Int)).bind fun t170 => ((spec_l00In.f a1 0 (wrap64 (t170 - 1))).bind fun t171 => (if t171 = true then ((spec_l14Numbered.f k l0 a1).bind fun t172 => (some (t172, 0))) else (some (([] : List Int), 3))))) = some (r1, r2) := by rw [if_pos rfl] at H; exact H
  clear H
  have H := H1
  clear H1
  replace H := Option.bind_eq_some_iff.mp H
  obtain ⟨t170, A50, H⟩ := H
  replace H : ((spec_l00In.f a1 0 (wrap64 (t170 - 1))).bind fun t171 => (if t171 = true then ((spec_l14Numbered.f k l0 a1).bind fun t172 => (some (t172, 0))) else (some (([] : List Int), 3)))) = some (r1, r2) := H
  have A5 := Aside0.mk A50
  clear A50
  replace H := Option.bind_eq_some_iff.mp H
  obtain ⟨t171, A60, H⟩ := H
  replace H : (if t171 = true then ((spec_l14Numbered.f k l0 a1).bind fun t172 => (some (t172, 0))) else (some (([] : List Int), 3))) = some (r1, r2) := H
  have A6 := Aside0.mk A60
  clear A60
  by_cases c7 : t171 = true
  ·subst c7
   have H1 : ((spec_l14Numbered.f k l0 a1).bind fun t172 => (some (t172, 0))) = some (r1, r2) := by rw [if_pos rfl] at H; exact H
   clear H
   have H := H1
   clear H1
   replace H := Option.bind_eq_some_iff.mp H
   obtain ⟨t172, A80, H⟩ := H
   replace H : (some (t172, 0)) = some (r1, r2) := H
   have A8 := Aside0.mk A80
   clear A80
   simp only [Option.some.injEq, Prod.mk.injEq] at H
   obtain ⟨rfl, rfl⟩ := H
   go_enter Try.func15, Try.ntmps15
   go_wp2_with (first | ((with_reducible refine gate_callee (f := 41) rfl ?_); refine goesL_ (some 7) rfl rfl Try.func41 (by kernel_rfl) rfl #[.slice A0 l0.length c0] rfl av_ ?_; (with_reducible refine (spec_l14Permuted.calls k _ _ l0 true _ ?side1 ?side2 A3.out).mono ?_); (case side1 => exact cr_ HR0.out); (case side2 => exact HC0.out); rintro e w' ⟨rfl, ⟨nd, rfl⟩⟩; refine ⟨_, rfl, ?_⟩) | ((with_reducible refine gate_callee (f := 43) rfl ?_); refine goesL_ (some 12) rfl rfl Try.func43 (by kernel_rfl) rfl #[.int .i64 (l0.length : Int)] rfl av_ ?_; (with_reducible refine (spec_l14Factorial.calls k (l0.length : Int) t170 _ A5.out).mono ?_); rintro e w' ⟨rfl, ⟨nd, rfl⟩⟩; refine ⟨_, rfl, ?_⟩) | ((with_reducible refine gate_callee (f := 42) rfl ?_); refine goesL_ (some 14) rfl rfl Try.func42 (by kernel_rfl) rfl #[.int .i64 a1, .int .i64 0, .int .i64 (wrap64 (t170 - 1))] rfl av_ ?_; (with_reducible refine (spec_l00In.calls a1 0 (wrap64 (t170 - 1)) true _ A6.out).mono ?_); rintro e w' ⟨rfl, ⟨nd, rfl⟩⟩; refine ⟨_, rfl, ?_⟩) | ((with_reducible refine gate_callee (f := 44) rfl ?_); refine goesL_ (some 18) rfl rfl Try.func44 (by kernel_rfl) rfl #[.slice A0 l0.length c0, .int .i64 a1] rfl av_ ?_; (with_reducible refine (spec_l14Numbered.calls k _ _ l0 a1 t172 _ ?side1 ?side2 A8.out).mono ?_); (case side1 => exact cr_ HR0.out); (case side2 => exact HC0.out); rintro e w9 ⟨v173, rfl, ho0, hb⟩; refine ⟨_, rfl, ?_⟩; have n0_ := Aside0.mk (Kd.R_lower ho0 (below_size (bb_ HB.out))); have n1_ := Aside0.mk (below_step (bb_ HB.out) hb); clear HB; have HO174 := n0_; have HB := n1_; clear n0_ n1_; (try clear hb); (try clear hb2); (try clear hk); (try clear hi); (try clear ho0)))
   go_ret2
   exact ⟨_, by first | rfl | (simp [errW_none, errW_some] <;> rfl) | (simp [*, errW_none, errW_some] <;> rfl), rr_ HO174.out, bb_ HB.out⟩
  ·replace c7 := Bool.eq_false_iff.mpr c7
   subst c7
   have H1 : (some (([] : List Int), 3)) = some (r1, r2) := by rw [if_neg (show ¬ (false = true) by decide)] at H; exact H
   clear H
   have H := H1
   clear H1
   simp only [Option.some.injEq, Prod.mk.injEq] at H
   obtain ⟨rfl, rfl⟩ := H
   go_enter Try.func15, Try.ntmps15
   go_wp2_with (first | ((with_reducible refine gate_callee (f := 41) rfl ?_); refine goesL_ (some 7) rfl rfl Try.func41 (by kernel_rfl) rfl #[.slice A0 l0.length c0] rfl av_ ?_; (with_reducible refine (spec_l14Permuted.calls k _ _ l0 true _ ?side1 ?side2 A3.out).mono ?_); (case side1 => exact cr_ HR0.out); (case side2 => exact HC0.out); rintro e w' ⟨rfl, ⟨nd, rfl⟩⟩; refine ⟨_, rfl, ?_⟩) | ((with_reducible refine gate_callee (f := 43) rfl ?_); refine goesL_ (some 12) rfl rfl Try.func43 (by kernel_rfl) rfl #[.int .i64 (l0.length : Int)] rfl av_ ?_; (with_reducible refine (spec_l14Factorial.calls k (l0.length : Int) t170 _ A5.out).mono ?_); rintro e w' ⟨rfl, ⟨nd, rfl⟩⟩; refine ⟨_, rfl, ?_⟩) | ((with_reducible refine gate_callee (f := 42) rfl ?_); refine goesL_ (some 14) rfl rfl Try.func42 (by kernel_rfl) rfl #[.int .i64 a1, .int .i64 0, .int .i64 (wrap64 (t170 - 1))] rfl av_ ?_; (with_reducible refine (spec_l00In.calls a1 0 (wrap64 (t170 - 1)) false _ A6.out).mono ?_); rintro e w' ⟨rfl, ⟨nd, rfl⟩⟩; refine ⟨_, rfl, ?_⟩))
   go_ret2
   exact ⟨_, by first | rfl | (simp [errW_none, errW_some] <;> rfl) | (simp [*, errW_none, errW_some] <;> rfl), by first | exact Kd.R_nil _ _ _ _ _ | exact Kd.N_nil _ _ _ _ _ | exact Kd.V_nil _ _ _ _ _ | exact Kd.Q_nil _ _ _ _ _ | exact Kd.S_nil _ _ _ _ _, bb_ HB.out⟩
 ·replace c4 := Bool.eq_false_iff.mpr c4
  subst c4
  have H1 : (some (([] : List Int), 1)) = some (r1, r2) := by rw [if_neg (show ¬ (false = true) by decide)] at H; exact H
  clear H
  have H := H1
  clear H1
  simp only [Option.some.injEq, Prod.mk.injEq] at H
  obtain ⟨rfl, rfl⟩ := H
  go_enter Try.func15, Try.ntmps15
  go_wp2_with (first | ((with_reducible refine gate_callee (f := 41) rfl ?_); refine goesL_ (some 7) rfl rfl Try.func41 (by kernel_rfl) rfl #[.slice A0 l0.length c0] rfl av_ ?_; (with_reducible refine (spec_l14Permuted.calls k _ _ l0 false _ ?side1 ?side2 A3.out).mono ?_); (case side1 => exact cr_ HR0.out); (case side2 => exact HC0.out); rintro e w' ⟨rfl, ⟨nd, rfl⟩⟩; refine ⟨_, rfl, ?_⟩))
  go_ret2
  exact ⟨_, by first | rfl | (simp [errW_none, errW_some] <;> rfl) | (simp [*, errW_none, errW_some] <;> rfl), by first | exact Kd.R_nil _ _ _ _ _ | exact Kd.N_nil _ _ _ _ _ | exact Kd.V_nil _ _ _ _ _ | exact Kd.Q_nil _ _ _ _ _ | exact Kd.S_nil _ _ _ _ _, bb_ HB.out⟩
end Go.Proofs.Ytgdiabfmjcejdaa.P
end

section
/- How the arguments of this seat's laws read, as the kinds of the printed words: an argument that the row reads has the cells of its kind, and its numbers, texts and lengths are in bounds. No condition. -/
namespace Go.Proofs.Ytgdiabfmjcejdaa.P
open Go.RowKit Go.ChangeShapes Go.WideShapes Go.Proofs.YtgdiabfmjcejdaaW.PrintWords Go.Proofs.YtgdiabfmjcejdaaW.PrintLast
set_option linter.unusedVariables false

section
variable {H : Type} {enc : TypeId × Value → H} {P : Program} {w : World} {held : Bool}

theorem list_choose {α : Type} (p : Nat → α → Prop) : ∀ n, (∀ i, i < n → ∃ y, p i y) → ∃ ys : List α, ys.length = n ∧ ∀ (i : Nat) (y : α), ys[i]? = some y → p i y := by
  intro n
  induction n with
  | zero => exact fun _ => ⟨[], rfl, fun i y h => by simp at h⟩
  | succ n ih =>
    intro h
    obtain ⟨ys, hl, hp⟩ := ih (fun i hi => h i (by omega))
    obtain ⟨z, hz⟩ := h n (by omega)
    refine ⟨ys ++ [z], by simp [hl], fun i y hy => ?_⟩
    rcases Nat.lt_or_ge i ys.length with hi | hi
    · rw [List.getElem?_append_left hi] at hy
      exact hp i y hy
    · rw [List.getElem?_append_right hi] at hy
      have h0 : i - ys.length = 0 := by
        rcases Nat.eq_zero_or_pos (i - ys.length) with h1 | h1
        · exact h1
        · rw [List.getElem?_eq_none (by simp; omega)] at hy
          cases hy
      rw [h0] at hy
      simp only [List.getElem?_cons_zero, Option.some.injEq] at hy
      subst hy
      have : i = n := by omega
      subst this
      exact hz

theorem opn_int {t : TypeId} {k : IntKind} (ht : P.underlying t = some (.int k)) {fuel : Nat} {cs : List Value} {x : DataW H × List MemPlace} (h : DataW.trod enc P w 0 (fun _ => true) held fuel t cs = some x) :
    ∃ y : Int, (Kd.int k).K w y cs ∧ (Lit.int k y).wf = true := by
  obtain ⟨n, hcs, _, hw⟩ := DataW.trod_int ht h
  exact ⟨n, hcs, hw⟩

theorem opn_slice {α : Type} (d : Kd α) (ok : α → Prop) {t e : TypeId} (ht : P.underlying t = some (.slice e)) (ce : P.cellsOf e = d.sz)
    (hE : ∀ {fuel : Nat} {cs : List Value} {x : DataW H × List MemPlace}, DataW.trod enc P w 0 (fun _ => true) held fuel e cs = some x → ∃ y : α, d.K w y cs ∧ ok y)
    {fuel : Nat} {cs : List Value} {x : DataW H × List MemPlace} (h : DataW.trod enc P w 0 (fun _ => true) held fuel t cs = some x) :
    ∃ ys : List α, (Kd.slice e d).K w ys cs ∧ ys.length ≤ maxLen ∧ ∀ y ∈ ys, ok y := by
  rcases Go.Deep.open_slice ht h with ⟨rfl, _⟩ | ⟨a, len, cap, m, n, D, Pl, rfl, hb, hl, hm, hmm, rfl, hx⟩
  · exact ⟨[], ⟨none, 0, rfl, Nat.le_refl _, rfl, by simp, fun h => absurd h (Nat.lt_irrefl 0)⟩, Nat.zero_le _, by simp⟩
  · simp only [if_true] at hmm
    subst hmm
    obtain ⟨ys, hyl, hy⟩ := list_choose (fun i (y : α) => (∃ cs', w.cells? 0 (a.add (i * P.cellsOf e)) (P.cellsOf e) = some cs' ∧ d.K w y cs') ∧ ok y) len (fun i hi => by
      obtain ⟨cs', h1, h2⟩ := hx i (by omega)
      obtain ⟨y, hk, ho⟩ := hE h2
      exact ⟨y, ⟨cs', h1, hk⟩, ho⟩)
    subst hyl
    refine ⟨ys, ⟨some a, m, rfl, hl, rfl, Nat.le_trans hl (by unfold maxLen at hm; exact hm), fun _ => ⟨a, rfl, fun j p hp => ?_⟩⟩, Nat.le_trans hl hm, fun y hmem => ?_⟩
    · obtain ⟨⟨cs', h1, hk⟩, _⟩ := hy j p hp
      obtain ⟨_, hlen, hcell⟩ := World.cells?_some h1
      rw [ce] at hlen hcell
      refine ⟨cs', hlen, hk, fun i u hu => ?_⟩
      have hi : i < d.sz := by
        rw [← hlen]
        exact (List.getElem?_eq_some_iff.1 hu).1
      have := hcell i hi
      rw [Go.Deep.add_add] at this
      rw [this, hu]
    · obtain ⟨i, hi⟩ := List.getElem?_of_mem hmem
      exact (hy i y hi).2
end
theorem opn_L22 {H : Type} {enc : TypeId × Value → H} {w : World} {held : Bool} {fuel : Nat} {cs : List Value} {x : DataW H × List MemPlace} (h : DataW.trod enc Try.prog w 0 (fun _ => true) held fuel 22 cs = some x) :
    ∃ y : List Int, (Kd.slice 2 (Kd.int .i64)).K w y cs ∧ y.length ≤ maxLen ∧ ∀ y0 ∈ y, (Lit.int .i64 y0).wf = true :=
  opn_slice (Kd.int .i64) (fun y0 => (Lit.int .i64 y0).wf = true) Try.underlying22 (show Try.prog.cellsOf 2 = _ by kernel_rfl) (fun h => (opn_int Try.underlying2) h) h
end Go.Proofs.Ytgdiabfmjcejdaa.P
end

section
namespace Go.Proofs.Ytgdiabfmjcejdaa.P
open Go.RowKit Go.Proofs.Ytgdiabfmjcejdaa.P Go.Proofs.YtgdiabfmjcejdaaW.PrintWords Go.Proofs.YtgdiabfmjcejdaaW.PrintLast Go.Proofs.YtgdiabfmjcejdaaW.PrintMore
set_option linter.unusedVariables false
set_option linter.unusedSimpArgs false
theorem Ev.succ {α : Type} {g : Nat → Option α} {r : α} (h : Ev (fun k => g (k + 1)) r) : Ev g r := Ev.step (f := fun k => g (k + 1)) (fun _ => rfl) h
theorem Ev.ite_pos {α : Type} {c : Prop} [Decidable c] {f g : Nat → Option α} {r : α} (hc : c) (h : Ev f r) : Ev (fun k => if c then f k else g k) r := Ev.congr (fun _ => if_pos hc) h
theorem Ev.ite_neg {α : Type} {c : Prop} [Decidable c] {f g : Nat → Option α} {r : α} (hc : ¬ c) (h : Ev g r) : Ev (fun k => if c then f k else g k) r := Ev.congr (fun _ => if_neg hc) h
theorem Ev.bindc {α β : Type} {o : Option α} {f : Nat → α → Option β} {a : α} {r : β} (ho : o = some a) (h : Ev (fun k => f k a) r) : Ev (fun k => o.bind (f k)) r := Ev.congr (fun _ => by rw [ho]; rfl) h
theorem Ev.both {α : Type} {g : Nat → Option α} {r q : α} (h : Ev g r) (h' : Ev g q) : r = q := by
  obtain ⟨a, ha⟩ := h
  obtain ⟨b, hb⟩ := h'
  have h1 := ha (max a b) (Nat.le_max_left _ _)
  have h2 := hb (max a b) (Nat.le_max_right _ _)
  rw [h1] at h2
  exact Option.some.inj h2
theorem Ev.cast {α : Type} {g : Nat → Option α} {r q : α} (h : Ev g r) (e : r = q) : Ev g q := e ▸ h
theorem Ev.out {α : Type} {g : Nat → Option α} {r : α} (h : Ev g r) : ∃ k, g k = some r := h.rounds

/-- A sum, a difference that needs no wrap. -/
theorem w64 {x : Int} (h0 : -9223372036854775808 ≤ x) (h1 : x ≤ 9223372036854775807) : wrap64 x = x := by unfold wrap64; omega
theorem set_at {l : List Int} {i : Nat} {v : Int} {m : List Int} (h : i < l.length) (e : l.take i = m) : (l.set i v).take (i + 1) = m ++ [v] := by
  rw [List.take_succ_eq_append_getElem (by simpa using h)]
  simp [List.take_set_of_le, e]
theorem rd_at {l : List Int} {i : Nat} (h : i < l.length) : rd l (i : Int) = l[i] := by simp [rd, h]

theorem toInt64S_l0 (l : List Int) (hl : l.length ≤ 9223372036854775807) : ∀ (d i : Nat) (m : List Int), l.length - i = d → i ≤ l.length → m.length = l.length → m.take i = l.take i → Ev (fun k => laws_toInt64S.l0 k l m i) l := by
  intro d
  induction d with
  | zero =>
    intro i m hd hi hm ht
    have : i = l.length := by omega
    subst this
    refine Ev.succ ?_
    simp only [laws_toInt64S.l0]
    refine Ev.ite_neg (by omega) ?_
    rw [List.take_of_length_le (by omega), List.take_of_length_le (Nat.le_refl _)] at ht
    rw [ht]
    exact Ev.now _
  | succ d ih =>
    intro i m hd hi hm ht
    refine Ev.succ ?_
    simp only [laws_toInt64S.l0]
    refine Ev.ite_pos (by omega) ?_
    refine Ev.ite_pos (by omega) ?_
    refine Ev.ite_pos (by omega) ?_
    rw [w64 (x := (i : Int) + 1) (by omega) (by omega), rd_at (show i < l.length by omega), Int.toNat_natCast]
    have := ih (i + 1) (m.set i l[i]) (by omega) (by omega) (by simpa using hm) (by
      rw [set_at (by omega) ht, ← List.take_succ_eq_append_getElem (by omega)])
    simpa using this
theorem toInt64S_ev (l : List Int) (h : l.length ≤ 35184372088832) : Ev (fun k => laws_toInt64S.f k l) l := by
  unfold laws_toInt64S.f
  refine Ev.ite_pos (by omega) ?_
  refine Ev.ite_pos (by omega) ?_
  exact toInt64S_l0 l (by omega) l.length 0 _ (by omega) (by omega) (by simp) (by simp)

theorem eqInt64S_l0 (a b : List Int) (hl : a.length ≤ 9223372036854775807) (hab : a.length = b.length) : ∀ (d i : Nat), a.length - i = d → i ≤ a.length → a.take i = b.take i → Ev (fun k => laws_eqInt64S.l0 k a b i) (decide (a = b)) := by
  intro d
  induction d with
  | zero =>
    intro i hd hi ht
    refine Ev.succ ?_
    simp only [laws_eqInt64S.l0]
    refine Ev.ite_neg (by omega) ?_
    rw [List.take_of_length_le (by omega), List.take_of_length_le (by omega)] at ht
    simpa [ht] using Ev.now true
  | succ d ih =>
    intro i hd hi ht
    refine Ev.succ ?_
    simp only [laws_eqInt64S.l0]
    refine Ev.ite_pos (by omega) ?_
    refine Ev.ite_pos (by omega) ?_
    refine Ev.ite_pos (by omega) ?_
    by_cases he : rd a i = rd b i
    · refine Ev.ite_pos he ?_
      rw [w64 (x := (i : Int) + 1) (by omega) (by omega)]
      rw [rd_at (show i < a.length by omega), rd_at (show i < b.length by omega)] at he
      have := ih (i + 1) (by omega) (by omega) (by
        rw [List.take_succ_eq_append_getElem (by omega), List.take_succ_eq_append_getElem (by omega), ht, he])
      simpa using this
    · refine Ev.ite_neg he ?_
      have : ¬ a = b := fun e => he (by rw [e])
      simpa [this] using Ev.now false
theorem eqInt64S_ev (a b : List Int) (hl : a.length ≤ 9223372036854775807) : Ev (fun k => laws_eqInt64S.f k a b) (decide (a = b)) := by
  unfold laws_eqInt64S.f
  by_cases h : a.length = b.length
  · refine Ev.ite_pos (by omega) ?_
    exact eqInt64S_l0 a b hl h a.length 0 (by omega) (by omega) (by simp)
  · refine Ev.ite_neg (by omega) ?_
    have : ¬ a = b := fun e => h (by rw [e])
    simpa [this] using Ev.now false
theorem eqInt64S_self (a : List Int) (hl : a.length ≤ 9223372036854775807) : Ev (fun k => laws_eqInt64S.f k a a) true := by simpa using eqInt64S_ev a a hl

/-- The marks from v on: n of them. -/
def marks : Nat → Int → List Int
  | 0, _ => []
  | n + 1, v => v :: marks n (v + 1)
theorem marks_length : ∀ n v, (marks n v).length = n
  | 0, _ => rfl
  | n + 1, v => by simp [marks, marks_length n]
theorem marks_get : ∀ n v i, i < n → (marks n v)[i]? = some (v + i)
  | 0, _, i, h => by omega
  | n + 1, v, 0, _ => by simp [marks]
  | n + 1, v, i + 1, h => by
    simp only [marks, List.getElem?_cons_succ]
    rw [marks_get n (v + 1) i (by omega)]
    congr 1
    omega
theorem markInt64S_l0 (n : Nat) (v : Int) (hn : n ≤ 4611686018427387904) (h0 : 0 ≤ v) (hv : v ≤ 4611686018427387903) : ∀ (d i : Nat) (l : List Int), n - i = d → i ≤ n → l.length = n → (∀ j, j < i → l[j]? = some (v + j)) →
    Ev (fun k => laws_markInt64S.l0 k l (v + i) i) (v + n, marks n v) := by
  intro d
  induction d with
  | zero =>
    intro i l hd hi hl hj
    have : i = n := by omega
    subst this
    refine Ev.succ ?_
    simp only [laws_markInt64S.l0]
    refine Ev.ite_neg (by omega) ?_
    have : l = marks i v := by
      refine List.ext_getElem? fun j => ?_
      rcases Nat.lt_or_ge j i with h | h
      · rw [hj j h, marks_get i v j h]
      · rw [List.getElem?_eq_none (by omega), List.getElem?_eq_none (by rw [marks_length]; omega)]
    rw [this]
    exact Ev.now _
  | succ d ih =>
    intro i l hd hi hl hj
    refine Ev.succ ?_
    simp only [laws_markInt64S.l0]
    refine Ev.ite_pos (by omega) ?_
    refine Ev.ite_pos (by omega) ?_
    rw [w64 (x := (i : Int) + 1) (by omega) (by omega), w64 (x := v + (i : Int) + 1) (by omega) (by omega), Int.toNat_natCast]
    have := ih (i + 1) (l.set i (v + i)) (by omega) (by omega) (by simpa using hl) (fun j hj' => by
      rcases Nat.lt_or_ge j i with h | h
      · rw [List.getElem?_set_ne (by omega), hj j h]
      · have : j = i := by omega
        subst this
        rw [List.getElem?_set_self (by omega)])
    simpa [Int.add_assoc] using this
theorem markInt64S_ev (l : List Int) (v : Int) (hn : l.length ≤ 4611686018427387904) (h0 : 0 ≤ v) (hv : v ≤ 4611686018427387903) : Ev (fun k => laws_markInt64S.f k l v) (v + l.length, marks l.length v) := by
  unfold laws_markInt64S.f
  have := markInt64S_l0 l.length v hn h0 hv l.length 0 l (by omega) (by omega) rfl (fun j hj => by omega)
  simpa using this
theorem heldInt64S_l0 (n : Nat) (v : Int) (hn : n ≤ 4611686018427387904) (h0 : 0 ≤ v) (hv : v ≤ 4611686018427387903) : ∀ (d i : Nat), n - i = d → i ≤ n →
    Ev (fun k => laws_heldInt64S.l0 k (marks n v) (v + i) i) (v + n) := by
  intro d
  induction d with
  | zero =>
    intro i hd hi
    have : i = n := by omega
    subst this
    refine Ev.succ ?_
    simp only [laws_heldInt64S.l0]
    refine Ev.ite_neg (by rw [marks_length]; omega) ?_
    exact Ev.now _
  | succ d ih =>
    intro i hd hi
    refine Ev.succ ?_
    simp only [laws_heldInt64S.l0]
    refine Ev.ite_pos (by rw [marks_length]; omega) ?_
    refine Ev.ite_pos (by omega) ?_
    refine Ev.ite_pos (by
      have h := marks_get n v i (by omega)
      simp only [rd, Int.toNat_natCast, List.getD_eq_getElem?_getD, h, Option.getD_some]) ?_
    rw [w64 (x := (i : Int) + 1) (by omega) (by omega), w64 (x := v + (i : Int) + 1) (by omega) (by omega)]
    have := ih (i + 1) (by omega) (by omega)
    simpa [Int.add_assoc] using this
theorem heldInt64S_ev (n : Nat) (v : Int) (hn : n ≤ 4611686018427387904) (h0 : 0 ≤ v) (hv : v ≤ 4611686018427387903) : Ev (fun k => laws_heldInt64S.f k (marks n v) v) (v + n) := by
  unfold laws_heldInt64S.f
  have := heldInt64S_l0 n v hn h0 hv n 0 (by omega) (by omega)
  simpa using this
theorem Ev.and {α : Type} {g : Nat → Option α} {r : α} {P : Nat → Prop} (h : Ev g r) (h' : ∃ K, ∀ k, K ≤ k → P k) : ∃ K, ∀ k, K ≤ k → (g k = some r ∧ P k) := by
  obtain ⟨a, ha⟩ := h
  obtain ⟨b, hb⟩ := h'
  exact ⟨max a b, fun k hk => ⟨ha k (Nat.le_trans (Nat.le_max_left _ _) hk), hb k (Nat.le_trans (Nat.le_max_right _ _) hk)⟩⟩
theorem spec_l00In_eq (n a b : Int) : spec_l00In.f n a b = some (decide (a ≤ n) && decide (n ≤ b)) := by
  unfold spec_l00In.f
  by_cases h : n ≥ a
  · have : a ≤ n := h
    simp [this]
  · have : ¬ a ≤ n := h
    simp [this]
def idxM (s : List Int) (t : Int) : Nat → Nat → Int
  | 0, _ => -1
  | d + 1, i => if rd s i = t then (i : Int) else idxM s t d (i + 1)
theorem slices_Index_l0 (s : List Int) (t : Int) (hl : s.length ≤ 1048576) : ∀ (d i : Nat), s.length - i = d → Ev (fun k => slices_Index_int64_int64.l0 k s t (s.length : Int) i) (idxM s t d i) := by
  intro d
  induction d with
  | zero =>
    intro i hd
    refine Ev.succ ?_
    simp only [slices_Index_int64_int64.l0]
    exact Ev.ite_neg (by omega) (Ev.now _)
  | succ d ih =>
    intro i hd
    refine Ev.succ ?_
    simp only [slices_Index_int64_int64.l0]
    rw [w64 (x := (i : Int) + 1) (by omega) (by omega)]
    refine Ev.ite_pos (by omega) (Ev.ite_pos (by omega) (Ev.ite_pos (by omega) ?_))
    simp only [idxM]
    by_cases h : rd s i = t
    · rw [if_pos h]
      exact Ev.ite_pos h.symm (Ev.now _)
    · rw [if_neg h]
      exact Ev.ite_neg (fun e => h e.symm) (by simpa using ih (i + 1) (by omega))
def hasM (l : List Int) (v : Int) : Bool := l.any fun n => decide (n = v)
theorem idxM_has (s : List Int) (t : Int) : ∀ d i, s.length - i = d → decide (idxM s t d i ≥ 0) = hasM (s.drop i) t := by
  intro d
  induction d with
  | zero =>
    intro i hd
    rw [List.drop_of_length_le (by omega)]
    simp [idxM, hasM]
  | succ d ih =>
    intro i hd
    have hi : i < s.length := by omega
    by_cases h : rd s i = t
    · have e : idxM s t (d + 1) i = (i : Int) := by
        simp only [idxM]
        rw [if_pos h]
      rw [e, List.drop_eq_getElem_cons hi, ← rd_at hi, decide_eq_true (show (i : Int) ≥ 0 by omega)]
      simp [hasM, h]
    · have e : idxM s t (d + 1) i = idxM s t d (i + 1) := by
        simp only [idxM]
        rw [if_neg h]
      rw [e, ih (i + 1) (by omega), List.drop_eq_getElem_cons hi, ← rd_at hi]
      simp [hasM, h]
theorem slices_Contains_ev (s : List Int) (t : Int) (hl : s.length ≤ 1048576) : Ev (fun k => slices_Contains_int64_int64.f k s t) (hasM s t) := by
  unfold slices_Contains_int64_int64.f
  refine Ev.bind (a := idxM s t s.length 0) ?_ ?_
  · unfold slices_Index_int64_int64.f
    simpa using slices_Index_l0 s t hl s.length 0 (by omega)
  · refine Ev.cast (Ev.now _) ?_
    simpa using idxM_has s t s.length 0 (by omega)
def inP (n : Int) : Bool := decide (-12 ≤ n) && decide (n ≤ 23)
theorem all_drop_at {l : List Int} {i : Nat} (q : Int → Bool) (h : i < l.length) : (l.drop i).all q = (q (rd l i) && (l.drop (i + 1)).all q) := by
  rw [List.drop_eq_getElem_cons h, List.all_cons, rd_at h]
theorem spec_l00Has_l0 (s : List Int) (t : Int) (hl : s.length ≤ 1048576) : ∀ (d i : Nat), s.length - i = d → Ev (fun k => spec_l00Has.l0 k s t i) (hasM (s.drop i) t) := by
  intro d
  induction d with
  | zero =>
    intro i hd
    refine Ev.succ ?_
    simp only [spec_l00Has.l0]
    refine Ev.ite_neg (by omega) ?_
    rw [List.drop_of_length_le (by omega)]
    exact Ev.now _
  | succ d ih =>
    intro i hd
    have hi : i < s.length := by omega
    refine Ev.succ ?_
    simp only [spec_l00Has.l0]
    rw [w64 (x := (i : Int) + 1) (by omega) (by omega), List.drop_eq_getElem_cons hi, ← rd_at hi]
    refine Ev.ite_pos (by omega) (Ev.ite_pos (by omega) ?_)
    by_cases h : rd s i = t
    · refine Ev.ite_pos h (Ev.cast (Ev.now _) ?_)
      simp [hasM, h]
    · refine Ev.ite_neg h (Ev.cast (by simpa using ih (i + 1) (by omega)) ?_)
      simp [hasM, h]
theorem spec_l00Has_ev (s : List Int) (t : Int) (hl : s.length ≤ 1048576) : Ev (fun k => spec_l00Has.f k s t) (hasM s t) := by
  unfold spec_l00Has.f
  simpa using spec_l00Has_l0 s t hl s.length 0 (by omega)
theorem spec_l03Pitch_eq (n : Int) : spec_l03Pitch.f n = some (inP n) := by
  unfold spec_l03Pitch.f
  rw [spec_l00In_eq]
  rfl
def dupF (l : List Int) : Nat → Nat → Bool
  | 0, _ => true
  | d + 1, i => !(hasM (l.take i) (rd l i)) && dupF l d (i + 1)
def permB (l : List Int) : Bool := (l.all inP && dupF l l.length 0) && (decide (1 ≤ l.length) && decide (l.length ≤ 8))
theorem impl_permutedOk_l0 (l : List Int) (hl : l.length ≤ 1048576) : ∀ (d i : Nat), l.length - i = d → i ≤ l.length → Ev (fun k => impl_permutedOk.l0 k l l (l.length : Int) i) ((dupF l d i) && (decide (1 ≤ l.length) && (decide (l.length ≤ 8) && l.all inP))) := by
  intro d
  induction d with
  | zero =>
    intro i hd hi
    refine Ev.succ ?_
    simp only [impl_permutedOk.l0]
    refine Ev.ite_neg (by omega) ?_
    by_cases h : (l.length : Int) ≥ 1
    · have h' : 1 ≤ l.length := by omega
      refine Ev.ite_pos h ?_
      by_cases g : (l.length : Int) ≤ 8
      · have g' : l.length ≤ 8 := by omega
        refine Ev.ite_pos g (Ev.bindc (show impl_allWithin.f l (-12) 23 = some _ from rfl) (Ev.cast (Ev.now _) ?_))
        simp only [dupF, h', g', decide_true, Bool.true_and]
        rfl
      · have g' : ¬ l.length ≤ 8 := by omega
        refine Ev.ite_neg g (Ev.cast (Ev.now _) ?_)
        simp [g']
    · have h' : ¬ 1 ≤ l.length := by omega
      refine Ev.ite_neg h (Ev.cast (Ev.now _) ?_)
      simp [h']
  | succ d ih =>
    intro i hd hi
    refine Ev.succ ?_
    simp only [impl_permutedOk.l0]
    rw [w64 (x := (i : Int) + 1) (by omega) (by omega), Int.toNat_natCast]
    refine Ev.ite_pos (by omega) (Ev.ite_pos (by omega) (Ev.ite_pos (by omega) (Ev.ite_pos (by omega) (Ev.bind (slices_Contains_ev (l.take i) (rd l i) (by simp; omega)) ?_))))
    cases h : hasM (l.take i) (rd l i) with
    | true =>
      refine Ev.ite_pos rfl (Ev.cast (Ev.now _) ?_)
      simp [dupF, h]
    | false =>
      refine Ev.ite_neg (by decide) (Ev.cast (by simpa using ih (i + 1) (by omega) (by omega)) ?_)
      simp [dupF, h]
theorem impl_permutedOk_ev (l : List Int) (hl : l.length ≤ 1048576) : Ev (fun k => impl_permutedOk.f k l) (permB l) := by
  unfold impl_permutedOk.f
  refine Ev.cast (by simpa using impl_permutedOk_l0 l hl l.length 0 (by omega) (by omega)) ?_
  unfold permB
  cases dupF l l.length 0 <;> cases l.all inP <;> simp
theorem spec_l14Permuted_l0 (l : List Int) (hl : l.length ≤ 1048576) : ∀ (d i : Nat), l.length - i = d → i ≤ l.length → Ev (fun k => spec_l14Permuted.l0 k l i) (((l.drop i).all inP && dupF l d i) && (decide (1 ≤ l.length) && decide (l.length ≤ 8))) := by
  intro d
  induction d with
  | zero =>
    intro i hd hi
    refine Ev.succ ?_
    simp only [spec_l14Permuted.l0]
    refine Ev.ite_neg (by omega) ?_
    rw [List.drop_of_length_le (by omega)]
    by_cases h : (l.length : Int) ≥ 1
    · have h' : 1 ≤ l.length := by omega
      refine Ev.ite_pos h (Ev.cast (Ev.now _) ?_)
      simp [dupF, h']
      omega
    · have h' : ¬ 1 ≤ l.length := by omega
      refine Ev.ite_neg h (Ev.cast (Ev.now _) ?_)
      simp [h']
  | succ d ih =>
    intro i hd hi
    refine Ev.succ ?_
    simp only [spec_l14Permuted.l0]
    rw [w64 (x := (i : Int) + 1) (by omega) (by omega), Int.toNat_natCast, all_drop_at inP (by omega)]
    refine Ev.ite_pos (by omega) (Ev.ite_pos (by omega) (Ev.bindc (spec_l03Pitch_eq _) ?_))
    cases hp : inP (rd l i) with
    | false =>
      refine Ev.ite_neg (by decide) (Ev.cast (Ev.now _) ?_)
      simp
    | true =>
      refine Ev.ite_pos rfl (Ev.ite_pos (by omega) (Ev.bind (spec_l00Has_ev (l.take i) (rd l i) (by simp; omega)) ?_))
      cases h : hasM (l.take i) (rd l i) with
      | true =>
        refine Ev.ite_pos rfl (Ev.cast (Ev.now _) ?_)
        simp [dupF, h]
      | false =>
        refine Ev.ite_neg (by decide) (Ev.cast (by simpa using ih (i + 1) (by omega) (by omega)) ?_)
        simp [dupF, h]
theorem spec_l14Permuted_ev (l : List Int) (hl : l.length ≤ 1048576) : Ev (fun k => spec_l14Permuted.f k l) (permB l) := by
  unfold spec_l14Permuted.f permB
  simpa using spec_l14Permuted_l0 l hl l.length 0 (by omega) (by omega)
def fact : Nat → Int
  | 0 => 1
  | n + 1 => ((n : Int) + 1) * fact n
theorem fact_bound : ∀ n, n ≤ 8 → 1 ≤ fact n ∧ fact n ≤ 40320 := by
  intro n hn
  have : n = 0 ∨ n = 1 ∨ n = 2 ∨ n = 3 ∨ n = 4 ∨ n = 5 ∨ n = 6 ∨ n = 7 ∨ n = 8 := by omega
  rcases this with rfl | rfl | rfl | rfl | rfl | rfl | rfl | rfl | rfl <;> decide
theorem spec_l14Factorial_l0 (n : Nat) (hn : n ≤ 8) : ∀ (d i : Nat), n - i = d → i ≤ n → 1 ≤ i → Ev (fun k => spec_l14Factorial.l0 k (n : Int) (fact i) ((i : Int) + 1)) (fact n) := by
  intro d
  induction d with
  | zero =>
    intro i hd hi h1
    have : i = n := by omega
    subst this
    refine Ev.succ ?_
    simp only [spec_l14Factorial.l0]
    exact Ev.ite_neg (by omega) (Ev.now _)
  | succ d ih =>
    intro i hd hi h1
    have hb := fact_bound (i + 1) (by omega)
    have e : fact i * ((i : Int) + 1) = fact (i + 1) := by simp only [fact]; rw [Int.mul_comm]
    refine Ev.succ ?_
    simp only [spec_l14Factorial.l0]
    rw [e, w64 (x := fact (i + 1)) (by omega) (by omega), w64 (x := (i : Int) + 1 + 1) (by omega) (by omega)]
    refine Ev.ite_pos (by omega) ?_
    have := ih (i + 1) (by omega) (by omega) (by omega)
    rw [show ((i + 1 : Nat) : Int) + 1 = (i : Int) + 1 + 1 by omega] at this
    exact this
theorem spec_l14Factorial_ev (n : Nat) (hn : n ≤ 8) : Ev (fun k => spec_l14Factorial.f k (n : Int)) (fact n) := by
  unfold spec_l14Factorial.f
  rcases Nat.eq_zero_or_pos n with rfl | h
  · refine Ev.succ ?_
    simp only [spec_l14Factorial.l0]
    exact Ev.ite_neg (by omega) (Ev.now _)
  · simpa [fact] using spec_l14Factorial_l0 n hn (n - 1) 1 (by omega) (by omega) (by omega)
def insM (x : Int) : List Int → List Int
  | [] => [x]
  | y :: l => if x < y then x :: y :: l else y :: insM x l
theorem insM_perm (x : Int) : ∀ l, (insM x l).Perm (x :: l)
  | [] => List.Perm.refl _
  | y :: l => by
    simp only [insM]
    split
    · exact List.Perm.refl _
    · exact ((insM_perm x l).cons y).trans (List.Perm.swap x y l)
theorem insM_sorted (x : Int) : ∀ l : List Int, l.Pairwise (fun a b => decide (a ≤ b) = true) → (insM x l).Pairwise (fun a b => decide (a ≤ b) = true)
  | [], _ => by simp [insM]
  | y :: l, h => by
    simp only [insM]
    have h1 := List.pairwise_cons.mp h
    split
    · rename_i c
      refine List.pairwise_cons.mpr ⟨fun z hz => ?_, h⟩
      rcases List.mem_cons.mp hz with rfl | hz
      · exact decide_eq_true (by omega)
      · have := of_decide_eq_true (h1.1 z hz)
        exact decide_eq_true (by omega)
    · rename_i c
      refine List.pairwise_cons.mpr ⟨fun z hz => ?_, insM_sorted x l h1.2⟩
      rcases List.mem_cons.mp ((insM_perm x l).mem_iff.mp hz) with rfl | hz
      · exact decide_eq_true (by omega)
      · exact h1.1 z hz
theorem spec_l00Put_done (l : List Int) (x : Int) (hl : l.length ≤ 900) : ∀ (m i : Nat) (out : List Int), l.length - i = m → i ≤ l.length → out.length + m ≤ 1000 → Ev (fun k => spec_l00Put.l0 k l x out true i) (out ++ l.drop i) := by
  intro m
  induction m with
  | zero =>
    intro i out hm hi _
    refine Ev.succ ?_
    simp only [spec_l00Put.l0]
    refine Ev.ite_neg (by omega) (Ev.ite_pos trivial (Ev.cast (Ev.now _) ?_))
    rw [List.drop_of_length_le (by omega), List.append_nil]
  | succ m ih =>
    intro i out hm hi ho
    have hi' : i < l.length := by omega
    refine Ev.succ ?_
    simp only [spec_l00Put.l0]
    refine Ev.ite_pos (by omega) (Ev.ite_pos trivial (Ev.succ ?_))
    simp only [spec_l00Put.j1]
    rw [w64 (x := (i : Int) + 1) (by omega) (by omega)]
    refine Ev.ite_neg (by decide) (Ev.ite_pos (by omega) (Ev.ite_pos (by omega) (Ev.ite_pos (by omega) ?_)))
    have h := ih (i + 1) (out ++ [rd l i]) (by omega) (by omega) (by simp; omega)
    rw [List.drop_eq_getElem_cons hi', ← rd_at hi']
    simpa using h
theorem spec_l00Put_l0 (l : List Int) (x : Int) (hx : x ∉ l) (hl : l.length ≤ 900) : ∀ (m i : Nat) (out : List Int), l.length - i = m → i ≤ l.length → out.length + m ≤ 900 → Ev (fun k => spec_l00Put.l0 k l x out false i) (out ++ insM x (l.drop i)) := by
  intro m
  induction m with
  | zero =>
    intro i out hm hi _
    refine Ev.succ ?_
    simp only [spec_l00Put.l0]
    refine Ev.ite_neg (by omega) (Ev.ite_neg (by decide) (Ev.ite_pos (by omega) (Ev.cast (Ev.now _) ?_)))
    rw [List.drop_of_length_le (by omega)]
    rfl
  | succ m ih =>
    intro i out hm hi ho
    have hi' : i < l.length := by omega
    have hne : rd l i ≠ x := fun e => hx (by rw [← e, rd_at hi']; exact List.getElem_mem hi')
    refine Ev.succ ?_
    simp only [spec_l00Put.l0]
    refine Ev.ite_pos (by omega) (Ev.ite_neg (by decide) (Ev.ite_pos (by omega) (Ev.succ ?_)))
    simp only [spec_l00Put.j1]
    rw [w64 (x := (i : Int) + 1) (by omega) (by omega), List.drop_eq_getElem_cons hi', ← rd_at hi']
    simp only [insM]
    by_cases c : rd l i ≥ x
    · rw [if_pos (show x < rd l i by omega)]
      refine Ev.ite_pos (decide_eq_true c) (Ev.ite_pos (by omega) (Ev.ite_pos (by omega) (Ev.ite_pos (by omega) (Ev.ite_pos (by omega) (Ev.bindc rfl (Ev.ite_pos (by simp; omega) ?_))))))
      have h := spec_l00Put_done l x hl m (i + 1) ((out ++ [x]) ++ [rd l i]) (by omega) (by omega) (by simp; omega)
      simpa using h
    · rw [if_neg (show ¬ x < rd l i by omega)]
      refine Ev.ite_neg (by simpa using c) (Ev.ite_pos (by omega) (Ev.ite_pos (by omega) (Ev.ite_pos (by omega) ?_)))
      have h := ih (i + 1) (out ++ [rd l i]) (by omega) (by omega) (by simp; omega)
      simpa using h
theorem spec_l00Put_ev (l : List Int) (x : Int) (hx : x ∉ l) (hl : l.length ≤ 900) : Ev (fun k => spec_l00Put.f k l x) (insM x l) := by
  unfold spec_l00Put.f
  simpa using spec_l00Put_l0 l x hx hl l.length 0 [] (by omega) (by omega) (by simp; omega)
theorem perm_take_succ {l out : List Int} {i : Nat} (hi : i < l.length) (h : out.Perm (l.take i)) : (insM (rd l i) out).Perm (l.take (i + 1)) := by
  refine (insM_perm _ _).trans ?_
  rw [List.take_succ_eq_append_getElem hi, ← rd_at hi]
  exact (h.cons _).trans (List.perm_append_comm (l₁ := [rd l i]) (l₂ := l.take i))
theorem spec_l14Sorted_l0 (l : List Int) (hl : l.length ≤ 8) (hd : ∀ i, i < l.length → rd l i ∉ l.take i) : ∀ (m i : Nat) (out : List Int), l.length - i = m → i ≤ l.length → out.Perm (l.take i) → out.Pairwise (fun a b => decide (a ≤ b) = true) →
    ∃ r : List Int, r.Perm l ∧ r.Pairwise (fun a b => decide (a ≤ b) = true) ∧ Ev (fun k => spec_l14Sorted.l0 k l out i) r := by
  intro m
  induction m with
  | zero =>
    intro i out hm hi hp hs
    refine ⟨out, by rwa [List.take_of_length_le (by omega)] at hp, hs, Ev.succ ?_⟩
    simp only [spec_l14Sorted.l0]
    exact Ev.ite_neg (by omega) (Ev.now _)
  | succ m ih =>
    intro i out hm hi hp hs
    have hi' : i < l.length := by omega
    have hn : rd l i ∉ out := fun h => hd i hi' (hp.mem_iff.mp h)
    have hol : out.length ≤ 8 := by rw [hp.length_eq]; simp; omega
    obtain ⟨r, r1, r2, r3⟩ := ih (i + 1) (insM (rd l i) out) (by omega) (by omega) (perm_take_succ hi' hp) (insM_sorted _ _ hs)
    refine ⟨r, r1, r2, Ev.succ ?_⟩
    simp only [spec_l14Sorted.l0]
    rw [w64 (x := (i : Int) + 1) (by omega) (by omega)]
    exact Ev.ite_pos (by omega) (Ev.ite_pos (by omega) (Ev.bind (spec_l00Put_ev out (rd l i) hn (by omega)) (by simpa using r3)))
theorem own_eq (l : List Int) (h : l.length < 1000) : spec_l00Own.f l = some l := by
  unfold spec_l00Own.f
  simp
  omega
theorem hasM_iff {l : List Int} {v : Int} : hasM l v = true ↔ v ∈ l := by
  simp only [hasM, List.any_eq_true, decide_eq_true_eq]
  exact ⟨fun ⟨x, h, e⟩ => e ▸ h, fun h => ⟨v, h, rfl⟩⟩
def srtM (l : List Int) : List Int := l.mergeSort (fun x y => decide (x ≤ y))
theorem srtM_length (l : List Int) : (srtM l).length = l.length := List.length_mergeSort l
theorem spec_l14Sorted_ev (l : List Int) (hl : l.length ≤ 8) (hd : ∀ i, i < l.length → rd l i ∉ l.take i) : Ev (fun k => spec_l14Sorted.f k l) (srtM l) := by
  unfold spec_l14Sorted.f
  obtain ⟨r, r1, r2, r3⟩ := spec_l14Sorted_l0 l hl hd l.length 0 [] (by omega) (by omega) (by simp) List.Pairwise.nil
  have tr : ∀ a b c : Int, decide (a ≤ b) = true → decide (b ≤ c) = true → decide (a ≤ c) = true := fun a b c h1 h2 => by simp only [decide_eq_true_eq] at *; omega
  have tot : ∀ a b : Int, (decide (a ≤ b) || decide (b ≤ a)) = true := fun a b => by simp only [Bool.or_eq_true, decide_eq_true_eq]; omega
  refine Ev.cast (by simpa using r3) ?_
  refine List.Perm.eq_of_pairwise (le := fun a b => decide (a ≤ b) = true) (fun a b _ _ h1 h2 => ?_) r2 (List.pairwise_mergeSort tr tot l) (r1.trans (List.mergeSort_perm l _).symm)
  simp only [decide_eq_true_eq] at h1 h2
  omega
/-- The permutation of a sorted list with a number. -/
def numM : Nat → List Int → Int → List Int
  | 0, _, _ => []
  | d + 1, rest, n => rd rest (n / fact d) :: numM d (rest.take (n / fact d).toNat ++ rest.drop ((n / fact d).toNat + 1)) (n % fact d)
theorem numM_length : ∀ d rest n, (numM d rest n).length = d := by
  intro d
  induction d with
  | zero => intro rest n; rfl
  | succ d ih => intro rest n; simp [numM, ih]
theorem quot_at {n : Int} {d : Nat} (hd : d ≤ 7) (h0 : 0 ≤ n) (h1 : n < fact (d + 1)) : 0 ≤ n / fact d ∧ n / fact d ≤ d ∧ 0 ≤ n % fact d ∧ n % fact d < fact d ∧ 1 ≤ fact d ∧ n.tdiv (fact d) = n / fact d ∧ n.tmod (fact d) = n % fact d := by
  have hb := fact_bound d (by omega)
  have hf : fact (d + 1) = ((d : Int) + 1) * fact d := rfl
  refine ⟨Int.ediv_nonneg h0 (by omega), ?_, Int.emod_nonneg _ (by omega), Int.emod_lt_of_pos _ (by omega), hb.1, Int.tdiv_eq_ediv_of_nonneg h0, Int.tmod_eq_emod_of_nonneg h0⟩
  have := (Int.ediv_lt_iff_lt_mul (by omega : 0 < fact d)).mpr (show n < ((d : Int) + 1) * fact d by rw [← hf]; exact h1)
  omega
theorem impl_factorial_l0 (n : Nat) (hn : n ≤ 8) : ∀ (d i : Nat), n - i = d → i ≤ n → 1 ≤ i → Ev (fun k => impl_factorial.l0 k (n : Int) (fact i) ((i : Int) + 1)) (fact n) := by
  intro d
  induction d with
  | zero =>
    intro i hd hi h1
    have : i = n := by omega
    subst this
    refine Ev.succ ?_
    simp only [impl_factorial.l0]
    exact Ev.ite_neg (by omega) (Ev.now _)
  | succ d ih =>
    intro i hd hi h1
    have hb := fact_bound (i + 1) (by omega)
    have e : fact i * ((i : Int) + 1) = fact (i + 1) := by simp only [fact]; rw [Int.mul_comm]
    refine Ev.succ ?_
    simp only [impl_factorial.l0]
    rw [e, w64 (x := fact (i + 1)) (by omega) (by omega), w64 (x := (i : Int) + 1 + 1) (by omega) (by omega)]
    exact Ev.ite_pos (by omega) (by simpa using ih (i + 1) (by omega) (by omega) (by omega))
theorem impl_factorial_ev (n : Nat) (hn : n ≤ 8) : Ev (fun k => impl_factorial.f k (n : Int)) (fact n) := by
  unfold impl_factorial.f
  rcases Nat.eq_zero_or_pos n with rfl | h
  · refine Ev.succ ?_
    simp only [impl_factorial.l0]
    exact Ev.ite_neg (by omega) (Ev.now _)
  · simpa [fact] using impl_factorial_l0 n hn (n - 1) 1 (by omega) (by omega) (by omega)
theorem impl_numbered_l0 : ∀ (d : Nat) (rest out : List Int) (n : Int), d ≤ 8 → rest.length = d → out.length + d ≤ 100 → 0 ≤ n → n < fact d → Ev (fun k => impl_numberedPermutation.l0 k n rest out) (out ++ numM d rest n) := by
  intro d
  induction d with
  | zero =>
    intro rest out n _ hl _ _ _
    refine Ev.succ ?_
    simp only [impl_numberedPermutation.l0]
    refine Ev.ite_neg (by omega) (Ev.cast (Ev.now _) ?_)
    simp [numM]
  | succ d ih =>
    intro rest out n hd hl ho h0 h1
    obtain ⟨q1, q2, q3, q4, q5, q6, q7⟩ := quot_at (by omega) h0 h1
    obtain ⟨i, hi⟩ : ∃ i : Nat, n / fact d = i := ⟨(n / fact d).toNat, by omega⟩
    have hf : Ev (fun k => impl_factorial.f k (wrap64 ((rest.length : Int) - 1))) (fact d) := by
      rw [w64 (by omega) (by omega), show (rest.length : Int) - 1 = (d : Nat) by omega]
      exact impl_factorial_ev d (by omega)
    refine Ev.succ ?_
    simp only [impl_numberedPermutation.l0]
    refine Ev.ite_pos (by omega) (Ev.bind hf (Ev.ite_neg (by omega) ?_))
    rw [q6, q7, hi, w64 (x := (i : Int)) (by omega) (by omega), w64 (x := (i : Int) + 1) (by omega) (by omega)]
    refine Ev.ite_pos (by omega) (Ev.ite_pos (by omega) (Ev.ite_pos (by omega) (Ev.bindc (a := rest.take i ++ rest.drop (i + 1)) ?_ ?_)))
    · unfold slices_Delete_int64_int64.f
      rw [if_pos (by omega), Int.toNat_natCast, show ((i : Int) + 1).toNat = i + 1 by omega]
    · have h := ih (rest.take i ++ rest.drop (i + 1)) (out ++ [rd rest i]) (n % fact d) (by omega) (by simp; omega) (by simp; omega) q3 q4
      simpa [numM, hi] using h
theorem impl_numbered_ev (l : List Int) (n : Int) (hl1 : 1 ≤ l.length) (hl : l.length ≤ 8) (h0 : 0 ≤ n) (h1 : n < fact l.length) : Ev (fun k => impl_numberedPermutation.f k l n) (numM l.length (srtM l) n) := by
  unfold impl_numberedPermutation.f
  refine Ev.ite_pos ⟨by omega, by omega⟩ ?_
  have h := impl_numbered_l0 l.length (srtM l) [] n hl (srtM_length l) (by simp; omega) h0 h1
  rw [List.nil_append] at h
  exact h
theorem spec_numbered_l0 : ∀ (d : Nat) (rest out : List Int) (n : Int), d ≤ 8 → rest.length = d → out.length + d ≤ 100 → 0 ≤ n → n < fact d → Ev (fun k => spec_l14Numbered.l0 k n rest out) (out ++ numM d rest n) := by
  intro d
  induction d with
  | zero =>
    intro rest out n _ hl _ _ _
    refine Ev.succ ?_
    simp only [spec_l14Numbered.l0]
    refine Ev.ite_neg (by omega) (Ev.cast (Ev.now _) ?_)
    simp [numM]
  | succ d ih =>
    intro rest out n hd hl ho h0 h1
    obtain ⟨q1, q2, q3, q4, q5, q6, q7⟩ := quot_at (by omega) h0 h1
    obtain ⟨i, hi⟩ : ∃ i : Nat, n / fact d = i := ⟨(n / fact d).toNat, by omega⟩
    have hf : Ev (fun k => spec_l14Factorial.f k (wrap64 ((rest.length : Int) - 1))) (fact d) := by
      rw [w64 (by omega) (by omega), show (rest.length : Int) - 1 = (d : Nat) by omega]
      exact spec_l14Factorial_ev d (by omega)
    refine Ev.succ ?_
    simp only [spec_l14Numbered.l0]
    refine Ev.ite_pos (by omega) (Ev.bind hf (Ev.ite_neg (by omega) ?_))
    rw [q6, q7, hi, w64 (x := (i : Int)) (by omega) (by omega), w64 (x := (i : Int) + 1) (by omega) (by omega), Int.toNat_natCast, show ((i : Int) + 1).toNat = i + 1 by omega]
    refine Ev.ite_pos (by omega) (Ev.ite_pos (by omega) (Ev.ite_pos (by omega) (Ev.ite_pos (by omega) (Ev.bindc (own_eq (rest.take i) (by simp; omega)) (Ev.ite_pos (by omega) (Ev.ite_pos (by omega) (Ev.bindc rfl (Ev.ite_pos (by simp; omega) ?_))))))))
    have h := ih (rest.take i ++ rest.drop (i + 1)) (out ++ [rd rest i]) (n % fact d) (by omega) (by simp; omega) (by simp; omega) q3 q4
    simpa [numM, hi] using h
theorem spec_numbered_ev (l : List Int) (n : Int) (hl1 : 1 ≤ l.length) (hl : l.length ≤ 8) (hd : ∀ i, i < l.length → rd l i ∉ l.take i) (h0 : 0 ≤ n) (h1 : n < fact l.length) : Ev (fun k => spec_l14Numbered.f k l n) (numM l.length (srtM l) n) := by
  unfold spec_l14Numbered.f
  exact Ev.bind (spec_l14Sorted_ev l hl hd) (by simpa using spec_numbered_l0 l.length (srtM l) [] n hl (srtM_length l) (by simp; omega) h0 h1)
theorem dupF_all {l : List Int} : ∀ (d i : Nat), dupF l d i = true → ∀ j, i ≤ j → j < i + d → rd l j ∉ l.take j := by
  intro d
  induction d with
  | zero => intro i _ j h1 h2; omega
  | succ d ih =>
    intro i h j h1 h2
    simp only [dupF, Bool.and_eq_true, Bool.not_eq_true'] at h
    rcases Nat.eq_or_lt_of_le h1 with rfl | h3
    · intro hm
      have := hasM_iff.mpr hm
      rw [this] at h
      exact absurd h.1 (by decide)
    · exact ih (i + 1) h.2 j h3 (by omega)
theorem permB_parts {l : List Int} (h : permB l = true) : 1 ≤ l.length ∧ l.length ≤ 8 ∧ (∀ i, i < l.length → rd l i ∉ l.take i) ∧ ∀ x ∈ l, inP x = true := by
  simp only [permB, Bool.and_eq_true, decide_eq_true_eq, List.all_eq_true] at h
  exact ⟨h.2.1, h.2.2, fun i hi => dupF_all l.length 0 h.1.2 i (by omega) (by omega), h.1.1⟩
theorem impl_within_eq (n a b : Int) : impl_within.f n a b = some (decide (a ≤ n) && decide (n ≤ b)) := by
  unfold impl_within.f
  by_cases h : n ≥ a
  · have : a ≤ n := h
    simp [this]
  · have : ¬ a ≤ n := h
    simp [this]
theorem bothNumbered (l : List Int) (n : Int) (hl : l.length ≤ 1048576) : ∃ r c, r.length ≤ 1000 ∧ Ev (fun k => spec_NumberedPermutation.f k l n) (r, c) ∧ Ev (fun k => impl_NumberedPermutation.f k l n) (r, c) := by
  have a1 := spec_l14Permuted_ev l hl
  have b1 := impl_permutedOk_ev l hl
  unfold spec_NumberedPermutation.f impl_NumberedPermutation.f
  cases v1 : permB l with
  | false => exact ⟨[], 1, by simp, Ev.bind a1 (Ev.ite_neg (by rw [v1]; decide) (Ev.now _)), Ev.bind b1 (Ev.ite_neg (by rw [v1]; decide) (Ev.now _))⟩
  | true =>
    obtain ⟨l1, l8, hdup, hin⟩ := permB_parts v1
    have hb := fact_bound l.length l8
    have fa := spec_l14Factorial_ev l.length l8
    have fi := impl_factorial_ev l.length l8
    have e : wrap64 (fact l.length - 1) = fact l.length - 1 := w64 (by omega) (by omega)
    by_cases c : 0 ≤ n ∧ n ≤ fact l.length - 1
    · have hc : (decide (0 ≤ n) && decide (n ≤ fact l.length - 1)) = true := by simp [c.1, c.2]
      refine ⟨numM l.length (srtM l) n, 0, by rw [numM_length]; omega, Ev.bind a1 (Ev.ite_pos v1 (Ev.bind fa ?_)), Ev.bind b1 (Ev.ite_pos v1 (Ev.bind fi ?_))⟩
      · rw [e]
        exact Ev.bindc (spec_l00In_eq _ _ _) (Ev.ite_pos hc (Ev.bind (spec_numbered_ev l n l1 l8 hdup c.1 (by omega)) (Ev.now _)))
      · rw [e]
        exact Ev.bindc (impl_within_eq _ _ _) (Ev.ite_pos hc (Ev.bind (impl_numbered_ev l n l1 l8 c.1 (by omega)) (Ev.now _)))
    · have hc : (decide (0 ≤ n) && decide (n ≤ fact l.length - 1)) = false := by
        rw [← Bool.decide_and]
        exact decide_eq_false c
      refine ⟨[], 3, by simp, Ev.bind a1 (Ev.ite_pos v1 (Ev.bind fa ?_)), Ev.bind b1 (Ev.ite_pos v1 (Ev.bind fi ?_))⟩
      · rw [e]
        exact Ev.bindc (spec_l00In_eq _ _ _) (Ev.ite_neg (by rw [hc]; decide) (Ev.now _))
      · rw [e]
        exact Ev.bindc (impl_within_eq _ _ _) (Ev.ite_neg (by rw [hc]; decide) (Ev.now _))
end Go.Proofs.Ytgdiabfmjcejdaa.P
end

section
namespace Go.Proofs.Ytgdiabfmjcejdaa.P
open Go.RowKit Go.Proofs.YtgdiabfmjcejdaaW.PrintWords Go.Proofs.YtgdiabfmjcejdaaW.PrintLast Go.Proofs.YtgdiabfmjcejdaaW.PrintMore
attribute [local go_sem] max2_int min2_int max_two min_two max_three min_three max_four min_four   -- for this text's walks alone
set_option linter.unusedVariables false
set_option linter.unusedSimpArgs false
/-! ### impl_PermutationNumber: function 50 -/
mutual
def impl_PermutationNumber.l0 : Nat → List Int → Int → List Int → Int → Int → Option (Int × Int)
 | 0, _, _, _, _, _ => none
 | k + 1, x0, x4, x13, x14, x15 => if x15 < x14 then (if 0 ≤ x15 then (if x15 < (x13.length : Int) then (if 0 ≤ (wrap64 (x15 + 1)) then (if (wrap64 (x15 + 1)) ≤ (x0.length : Int) then (impl_PermutationNumber.l1 k x0 x4 x15 (rd x13 x15) 0 x13 x14 x15 (x0.drop ((wrap64 (x15 + 1)) : Int).toNat) ((x0.drop ((wrap64 (x15 + 1)) : Int).toNat).length : Int) 0) else (none)) else (none)) else (none)) else (none)) else (some (x4, 0))
def impl_PermutationNumber.l1 : Nat → List Int → Int → Int → Int → Int → List Int → Int → Int → List Int → Int → Int → Option (Int × Int)
 | 0, _, _, _, _, _, _, _, _, _, _, _ => none
 | k + 1, x0, x4, x5, x6, x7, x13, x14, x15, x23, x24, x25 => if x25 < x24 then (if 0 ≤ x25 then (if x25 < (x23.length : Int) then (if (rd x23 x25) < x6 then (impl_PermutationNumber.l1 k x0 x4 x5 x6 (wrap64 (x7 + 1)) x13 x14 x15 x23 x24 (wrap64 (x25 + 1))) else (impl_PermutationNumber.l1 k x0 x4 x5 x6 x7 x13 x14 x15 x23 x24 (wrap64 (x25 + 1)))) else (none)) else (none)) else (impl_PermutationNumber.l0 k x0 (wrap64 ((wrap64 (x4 * (wrap64 ((x0.length : Int) - x5)))) + x7)) x13 x14 (wrap64 (x15 + 1)))
end
def impl_PermutationNumber.f (k : Nat) (l0 : List Int) : Option (Int × Int) := (impl_permutedOk.f k l0).bind fun t206 => (if t206 = true then (impl_PermutationNumber.l0 k l0 0 l0 (l0.length : Int) 0) else (some (0, 1)))
set_option maxHeartbeats 8000000 in
set_option maxRecDepth 100000 in
theorem impl_PermutationNumber.calls (k : Nat) (A0 : Option Addr) (c0 : Nat) (l0 : List Int) (r1 : Int) (r2 : Int) (w : World) (hr0 : Kd.C (Kd.int .i64) w A0 l0.length l0) (hc0 : l0.length ≤ c0) (h : impl_PermutationNumber.f k l0 = some (r1, r2)) :
  Calls Try.prog 50 #[.slice A0 l0.length c0] w fun e w' => e = .returned (.tuple #[.int .i64 r1, .int .i64 r2]) ∧ Below w.heap.size w w' := by
 have HR0 := Aside0.mk hr0
 have HC0 := Aside0.mk hc0
 clear hr0 hc0
 have HB := Aside0.mk (Below.refl w.heap.size w)
 have H : ((impl_permutedOk.f k l0).bind fun t206 => (if t206 = true then (impl_PermutationNumber.l0 k l0 0 l0 (l0.length : Int) 0) else (some (0, 1)))) = some (r1, r2) := h
 clear h
 replace H := Option.bind_eq_some_iff.mp H
 obtain ⟨t206, A20, H⟩ := H
 replace H : (if t206 = true then (impl_PermutationNumber.l0 k l0 0 l0 (l0.length : Int) 0) else (some (0, 1))) = some (r1, r2) := H
 have A2 := Aside0.mk A20
 clear A20
 by_cases c3 : t206 = true
 ·subst c3
  have H1 : (impl_PermutationNumber.l0 k l0 0 l0 (l0.length : Int) 0) = some (r1, r2) := by rw [if_pos rfl] at H; exact H
  clear H
  have H := H1
  clear H1
  have H' := Aside0.mk H
  clear H
  go_enter Try.func50, Try.ntmps50
  go_wp2_with (first | ((with_reducible refine gate_callee (f := 45) rfl ?_); refine goesL_ (some 11) rfl rfl Try.func45 (by kernel_rfl) rfl #[.slice A0 l0.length c0] rfl av_ ?_; (with_reducible refine (impl_permutedOk.calls k _ _ l0 true _ ?side1 ?side2 A2.out).mono ?_); (case side1 => exact cr_ HR0.out); (case side2 => exact HC0.out); rintro e w4 ⟨rfl, hb⟩; refine ⟨_, rfl, ?_⟩; have n0_ := Aside0.mk (below_step (bb_ HB.out) hb); clear HB; have HB := n0_; clear n0_; (try clear hb); (try clear hb2); (try clear hk); (try clear hi)))
  go_loopg [4, 15] k (fun kq v4 v15 w' => ∃ (x4_1 : Int) (x15_1 : Int), v4 = .int .i64 x4_1 ∧ v15 = .int .i64 x15_1 ∧ Aside0 (impl_PermutationNumber.l0 kq l0 x4_1 l0 (l0.length : Int) x15_1 = some (r1, r2)) ∧ Aside0 (kq ≤ k) ∧ Aside0 (Below w.heap.size w w'))
  case atStart => exact ⟨(0), (0), sv_, sv_, H', ⟨Nat.le_refl _⟩, ⟨bb_ HB.out⟩⟩
  case round =>
   clear H'
   (try clear p2); (try clear c3); (try clear c4)
   obtain ⟨x4_1, x15_1, rfl, rfl, HA, HK1, HB⟩ := hrel
   cases gk with
   | zero => exact absurd HA.out (by simp [impl_PermutationNumber.l0])
   | succ k1 =>
    have H := HA.out
    clear HA
    simp only [impl_PermutationNumber.l0] at H
    by_cases c5 : x15_1 < (l0.length : Int)
    ·rw [if_pos c5] at H
     have c5b0 : decide (x15_1 < (l0.length : Int)) = true := decide_eq_true c5
     clear c5
     by_cases c6 : 0 ≤ x15_1
     ·rw [if_pos c6] at H
      have c6b0 : decide (0 ≤ x15_1) = true := decide_eq_true c6
      clear c6
      by_cases c7 : x15_1 < (l0.length : Int)
      ·rw [if_pos c7] at H
       have c7b0 : decide (x15_1 < (l0.length : Int)) = true := decide_eq_true c7
       clear c7
       obtain ⟨ji8, hji8⟩ : ∃ j_ : Int, (wrap64 (x15_1 + 1)) = j_ := ⟨_, rfl⟩
       replace H : (if 0 ≤ (ji8) then (if (ji8) ≤ (l0.length : Int) then (impl_PermutationNumber.l1 k1 l0 x4_1 x15_1 (rd l0 x15_1) 0 l0 (l0.length : Int) x15_1 (l0.drop ((ji8) : Int).toNat) ((l0.drop ((ji8) : Int).toNat).length : Int) 0) else (none)) else (none)) = some (r1, r2) := by first | (rw [hji8] at H; exact H) | (simp only [hji8] at H ⊢; exact H)
       have hji8w : (IntKind.i64.wrap (x15_1 + 1)) = ji8 := (i64_w _).trans hji8
       by_cases c9 : 0 ≤ (ji8)
       ·rw [if_pos c9] at H
        have c9b0 := eq_true c9
        have c9b1 : decide (0 ≤ (ji8)) = true := decide_eq_true c9
        clear c9
        by_cases c10 : (ji8) ≤ (l0.length : Int)
        ·rw [if_pos c10] at H
         have c10b0 := eq_true c10
         have c10b1 : decide ((ji8) ≤ (l0.length : Int)) = true := decide_eq_true c10
         clear c10
         have H' := Aside0.mk H
         clear H
         have p207 : 0 ≤ (x15_1 : Int) := da_
         have q207 : x15_1 < (l0.length : Int) := da_
         obtain ⟨ad207, e207, hx207_0⟩ := Kd.at_int HR0.out x15_1 p207 q207
         cases e207
         replace hx207_0 := (wc_ HB.out hx207_0 :)
         replace p207 := eq_true p207
         replace q207 := eq_true q207
         obtain ⟨i011, hi011, _, hsz11, _⟩ := info_parts info2
         obtain ⟨A11, hcut11, hA11, hC11⟩ := print_drop_of (P := Try.prog) (Value.int .i64) 0 22 2 .i64 Try.underlying22 hi011 hsz11 (some ad207) c0 l0 (ji8) (da_) (da_) HC0.out
         have HR208 := Aside0.mk (Kd.C_of_reads (h1 := fun _ => rfl) (hA11 _ (Kd.reads_of_C HR0.out)))
         have HC208 := Aside0.mk hC11
         clear hA11 hC11 hi011 hsz11
         go_wp2
         go_loopg [7, 25] k1 (fun kq v7 v25 w' => ∃ (x7_2 : Int) (x25_2 : Int), v7 = .int .i64 x7_2 ∧ v25 = .int .i64 x25_2 ∧ Aside0 (impl_PermutationNumber.l1 kq l0 x4_1 x15_1 (rd l0 x15_1) x7_2 l0 (l0.length : Int) x15_1 (l0.drop ((ji8) : Int).toNat) ((l0.drop ((ji8) : Int).toNat).length : Int) x25_2 = some (r1, r2)) ∧ Aside0 (kq ≤ k1) ∧ Aside0 (Below w.heap.size w w'))
         case atStart => exact ⟨(0), (0), sv_, sv_, H', ⟨Nat.le_refl _⟩, ⟨bb_ HB.out⟩⟩
         case round =>
          clear H'
          (try clear c1); (try clear p2); (try clear q2); (try clear hx2); (try clear c3); (try clear c4); (try clear c5); (try clear c5b0); (try clear c6); (try clear c6b0); (try clear p6); (try clear c7); (try clear c7b0); (try clear c9); (try clear c9b0); (try clear c9b1); (try clear c10); (try clear c10b0); (try clear c10b1); (try clear hx207_0); (try clear p2); (try clear p207); (try clear q207)
          obtain ⟨x7_2, x25_2, rfl, rfl, HA, HK2, HB⟩ := hrel
          cases gk with
          | zero => exact absurd HA.out (by simp [impl_PermutationNumber.l1])
          | succ k2 =>
           have H := HA.out
           clear HA
           simp only [impl_PermutationNumber.l1] at H
           by_cases c12 : x25_2 < ((l0.drop ((ji8) : Int).toNat).length : Int)
           ·rw [if_pos c12] at H
            have c12b0 : decide (x25_2 < ((l0.drop ((ji8) : Int).toNat).length : Int)) = true := decide_eq_true c12
            have c12b2 := c12b0; (try simp only [List.length_drop, List.length_take] at c12b2)
            clear c12
            by_cases c13 : 0 ≤ x25_2
            ·rw [if_pos c13] at H
             have c13b0 : decide (0 ≤ x25_2) = true := decide_eq_true c13
             clear c13
             by_cases c14 : x25_2 < ((l0.drop ((ji8) : Int).toNat).length : Int)
             ·rw [if_pos c14] at H
              have c14b0 : decide (x25_2 < ((l0.drop ((ji8) : Int).toNat).length : Int)) = true := decide_eq_true c14
              have c14b2 := c14b0; (try simp only [List.length_drop, List.length_take] at c14b2)
              clear c14
              by_cases c15 : (rd (l0.drop ((ji8) : Int).toNat) x25_2) < (rd l0 x15_1)
              ·rw [if_pos c15] at H
               have c15b0 : decide ((rd (l0.drop ((ji8) : Int).toNat) x25_2) < (rd l0 x15_1)) = true := decide_eq_true c15
               have c15b2 := c15b0; (try simp only [List.length_drop, List.length_take] at c15b2)
               clear c15
               have H' := Aside0.mk H
               clear H
               have p209 : 0 ≤ (x25_2 : Int) := da_
               have q209 : x25_2 < ((l0.drop ((ji8) : Int).toNat).length : Int) := da_
               obtain ⟨ad209, e209, hx209_0⟩ := Kd.at_int HR208.out x25_2 p209 q209
               cases e209
               replace hx209_0 := (wc_ HB.out hx209_0 :)
               replace p209 := eq_true p209
               have q209z := q209; (try simp only [List.length_drop, List.length_take] at q209z); replace q209z := eq_true q209z
               replace q209 := eq_true q209
               go_wp2
               go_roundg k2
               case measure => have := HK1.out; have := HK2.out; omega
               case rel => exact ⟨(wrap64 (x7_2 + 1)), (wrap64 (x25_2 + 1)), sv_, sv_, H', ⟨by have := HK1.out; have := HK2.out; omega⟩, ⟨bb_ HB.out⟩⟩
              ·rw [if_neg c15] at H
               have c15b0 : decide ((rd (l0.drop ((ji8) : Int).toNat) x25_2) < (rd l0 x15_1)) = false := decide_eq_false c15
               have c15b2 := c15b0; (try simp only [List.length_drop, List.length_take] at c15b2)
               clear c15
               have H' := Aside0.mk H
               clear H
               have p209 : 0 ≤ (x25_2 : Int) := da_
               have q209 : x25_2 < ((l0.drop ((ji8) : Int).toNat).length : Int) := da_
               obtain ⟨ad209, e209, hx209_0⟩ := Kd.at_int HR208.out x25_2 p209 q209
               cases e209
               replace hx209_0 := (wc_ HB.out hx209_0 :)
               replace p209 := eq_true p209
               have q209z := q209; (try simp only [List.length_drop, List.length_take] at q209z); replace q209z := eq_true q209z
               replace q209 := eq_true q209
               go_wp2
               go_roundg k2
               case measure => have := HK1.out; have := HK2.out; omega
               case rel => exact ⟨(x7_2), (wrap64 (x25_2 + 1)), sv_, sv_, H', ⟨by have := HK1.out; have := HK2.out; omega⟩, ⟨bb_ HB.out⟩⟩
             ·rw [if_neg c14] at H
              exact absurd H (by simp)
            ·rw [if_neg c13] at H
             exact absurd H (by simp)
           ·rw [if_neg c12] at H
            have c12b0 : decide (x25_2 < ((l0.drop ((ji8) : Int).toNat).length : Int)) = false := decide_eq_false c12
            have c12b2 := c12b0; (try simp only [List.length_drop, List.length_take] at c12b2)
            clear c12
            have H' := Aside0.mk H
            clear H
            go_wp2
            go_roundg k2
            case measure => have := HK1.out; have := HK2.out; omega
            case rel => exact ⟨(wrap64 ((wrap64 (x4_1 * (wrap64 ((l0.length : Int) - x15_1)))) + x7_2)), (wrap64 (x15_1 + 1)), sv_, sv_, H', ⟨by have := HK1.out; have := HK2.out; omega⟩, ⟨bb_ HB.out⟩⟩
        ·rw [if_neg c10] at H
         exact absurd H (by simp)
       ·rw [if_neg c9] at H
        exact absurd H (by simp)
      ·rw [if_neg c7] at H
       exact absurd H (by simp)
     ·rw [if_neg c6] at H
      exact absurd H (by simp)
    ·rw [if_neg c5] at H
     have c5b0 : decide (x15_1 < (l0.length : Int)) = false := decide_eq_false c5
     clear c5
     simp only [Option.some.injEq, Prod.mk.injEq] at H
     obtain ⟨rfl, rfl⟩ := H
     go_wp2
     go_ret2
     exact ⟨by first | rfl | (simp [errW_none, errW_some] <;> rfl) | (simp [*, errW_none, errW_some] <;> rfl), bb_ HB.out⟩
 ·replace c3 := Bool.eq_false_iff.mpr c3
  subst c3
  have H1 : (some (0, 1)) = some (r1, r2) := by rw [if_neg (show ¬ (false = true) by decide)] at H; exact H
  clear H
  have H := H1
  clear H1
  simp only [Option.some.injEq, Prod.mk.injEq] at H
  obtain ⟨rfl, rfl⟩ := H
  go_enter Try.func50, Try.ntmps50
  go_wp2_with (first | ((with_reducible refine gate_callee (f := 45) rfl ?_); refine goesL_ (some 11) rfl rfl Try.func45 (by kernel_rfl) rfl #[.slice A0 l0.length c0] rfl av_ ?_; (with_reducible refine (impl_permutedOk.calls k _ _ l0 false _ ?side1 ?side2 A2.out).mono ?_); (case side1 => exact cr_ HR0.out); (case side2 => exact HC0.out); rintro e w16 ⟨rfl, hb⟩; refine ⟨_, rfl, ?_⟩; have n0_ := Aside0.mk (below_step (bb_ HB.out) hb); clear HB; have HB := n0_; clear n0_; (try clear hb); (try clear hb2); (try clear hk); (try clear hi)))
  go_ret2
  exact ⟨by first | rfl | (simp [errW_none, errW_some] <;> rfl) | (simp [*, errW_none, errW_some] <;> rfl), bb_ HB.out⟩
/-! ### impl_NextPermutation: function 22 -/
def impl_NextPermutation.f (k : Nat) (l0 : List Int) : Option (List Int × Int) := (impl_PermutationNumber.f k l0).bind fun bt210 => (if bt210.2 = 0 then ((impl_NumberedPermutation.f k l0 (wrap64 (bt210.1 + 1))).bind fun bt212 => (some (bt212.1, bt212.2))) else (some (([] : List Int), bt210.2)))
set_option maxHeartbeats 8000000 in
set_option maxRecDepth 100000 in
theorem impl_NextPermutation.calls (k : Nat) (A0 : Option Addr) (c0 : Nat) (l0 : List Int) (r1 : List Int) (r2 : Int) (w : World) (hr0 : Kd.C (Kd.int .i64) w A0 l0.length l0) (hc0 : l0.length ≤ c0) (h : impl_NextPermutation.f k l0 = some (r1, r2)) :
  Calls Try.prog 22 #[.slice A0 l0.length c0] w fun e w' => ∃ v0_ : Value, e = .returned (.tuple #[v0_, .int .i64 r2]) ∧ Kd.R (Kd.int .i64) 2 w' w.heap.size (fun _ => True) v0_ r1 ∧ Below w.heap.size w w' := by
 have HR0 := Aside0.mk hr0
 have HC0 := Aside0.mk hc0
 clear hr0 hc0
 have HB := Aside0.mk (Below.refl w.heap.size w)
 have H : ((impl_PermutationNumber.f k l0).bind fun bt210 => (if bt210.2 = 0 then ((impl_NumberedPermutation.f k l0 (wrap64 (bt210.1 + 1))).bind fun bt212 => (some (bt212.1, bt212.2))) else (some (([] : List Int), bt210.2)))) = some (r1, r2) := h
 clear h
 replace H := Option.bind_eq_some_iff.mp H
 obtain ⟨⟨t210, t211⟩, A20, H⟩ := H
 replace H : (if t211 = 0 then ((impl_NumberedPermutation.f k l0 (wrap64 (t210 + 1))).bind fun bt212 => (some (bt212.1, bt212.2))) else (some (([] : List Int), t211))) = some (r1, r2) := H
 have A2 := Aside0.mk A20
 clear A20
 by_cases c3 : t211 = 0
 ·rw [if_pos c3] at H
  have c3b0 : (t211 == 0) = true := beq_iff_eq.mpr c3
  have c3b1 : (t211 != 0) = false := bne_eq_false_iff_eq.mpr c3
  clear c3
  replace H := Option.bind_eq_some_iff.mp H
  obtain ⟨⟨t212, t213⟩, A40, H⟩ := H
  replace H : (some (t212, t213)) = some (r1, r2) := H
  have A4 := Aside0.mk A40
  clear A40
  simp only [Option.some.injEq, Prod.mk.injEq] at H
  obtain ⟨rfl, rfl⟩ := H
  go_enter Try.func22, Try.ntmps22
  go_wp2_with (first | ((with_reducible refine gate_callee (f := 50) rfl ?_); refine goesL_ (some 8) rfl rfl Try.func50 (by kernel_rfl) rfl #[.slice A0 l0.length c0] rfl av_ ?_; (with_reducible refine (impl_PermutationNumber.calls k _ _ l0 t210 t211 _ ?side1 ?side2 A2.out).mono ?_); (case side1 => exact cr_ HR0.out); (case side2 => exact HC0.out); rintro e w5 ⟨rfl, hb⟩; refine ⟨_, rfl, ?_⟩; have n0_ := Aside0.mk (below_step (bb_ HB.out) hb); clear HB; have HB := n0_; clear n0_; (try clear hb); (try clear hb2); (try clear hk); (try clear hi)) | ((with_reducible refine gate_callee (f := 17) rfl ?_); refine goesL_ (some 17) rfl rfl Try.func17 (by kernel_rfl) rfl #[.slice A0 l0.length c0, .int .i64 (wrap64 (t210 + 1))] rfl av_ ?_; (with_reducible refine (impl_NumberedPermutation.calls k _ _ l0 (wrap64 (t210 + 1)) t212 t213 _ ?side1 ?side2 A4.out).mono ?_); (case side1 => exact (Kd.C_below HR0.out HB.out)); (case side2 => exact HC0.out); rintro e w6 ⟨v214, rfl, ho0, hb⟩; refine ⟨_, rfl, ?_⟩; have n0_ := Aside0.mk (Kd.R_lower ho0 (below_size (bb_ HB.out))); have n1_ := Aside0.mk (below_step (bb_ HB.out) hb); clear HB; have HO215 := n0_; have HB := n1_; clear n0_ n1_; (try clear hb); (try clear hb2); (try clear hk); (try clear hi); (try clear ho0)))
  go_ret2
  exact ⟨_, by first | rfl | (simp [errW_none, errW_some] <;> rfl) | (simp [*, errW_none, errW_some] <;> rfl), rr_ HO215.out, bb_ HB.out⟩
 ·rw [if_neg c3] at H
  have c3b0 : (t211 == 0) = false := beq_eq_false_iff_ne.mpr c3
  have c3b1 : (t211 != 0) = true := bne_iff_ne.mpr c3
  simp only [Option.some.injEq, Prod.mk.injEq] at H
  obtain ⟨rfl, rfl⟩ := H
  go_enter Try.func22, Try.ntmps22
  go_wp2_with (first | ((with_reducible refine gate_callee (f := 50) rfl ?_); refine goesL_ (some 8) rfl rfl Try.func50 (by kernel_rfl) rfl #[.slice A0 l0.length c0] rfl av_ ?_; (with_reducible refine (impl_PermutationNumber.calls k _ _ l0 t210 t211 _ ?side1 ?side2 A2.out).mono ?_); (case side1 => exact cr_ HR0.out); (case side2 => exact HC0.out); rintro e w7 ⟨rfl, hb⟩; refine ⟨_, rfl, ?_⟩; have n0_ := Aside0.mk (below_step (bb_ HB.out) hb); clear HB; have HB := n0_; clear n0_; (try clear hb); (try clear hb2); (try clear hk); (try clear hi)))
  go_ret2
  exact ⟨_, by first | rfl | (simp [errW_none, errW_some] <;> rfl) | (simp [*, errW_none, errW_some] <;> rfl), by first | exact Kd.R_nil _ _ _ _ _ | exact Kd.N_nil _ _ _ _ _ | exact Kd.V_nil _ _ _ _ _ | exact Kd.Q_nil _ _ _ _ _ | exact Kd.S_nil _ _ _ _ _, bb_ HB.out⟩
/-! ### spec_PermutationNumber: function 49 -/
mutual
def spec_PermutationNumber.l0 : Nat → List Int → Int → Int → Option (Int × Int)
 | 0, _, _, _ => none
 | k + 1, x0, x4, x5 => if x5 < (x0.length : Int) then (spec_PermutationNumber.l1 k x0 x4 x5 0 (wrap64 (x5 + 1))) else (some (x4, 0))
def spec_PermutationNumber.l1 : Nat → List Int → Int → Int → Int → Int → Option (Int × Int)
 | 0, _, _, _, _, _ => none
 | k + 1, x0, x4, x5, x6, x7 => if x7 < (x0.length : Int) then (if 0 ≤ x7 then (if 0 ≤ x5 then (if x5 < (x0.length : Int) then (if (rd x0 x7) < (rd x0 x5) then (spec_PermutationNumber.l1 k x0 x4 x5 (wrap64 (x6 + 1)) (wrap64 (x7 + 1))) else (spec_PermutationNumber.l1 k x0 x4 x5 x6 (wrap64 (x7 + 1)))) else (none)) else (none)) else (none)) else ((spec_l14Factorial.f k (wrap64 ((wrap64 ((x0.length : Int) - 1)) - x5))).bind fun t199 => (spec_PermutationNumber.l0 k x0 (wrap64 (x4 + (wrap64 (x6 * t199)))) (wrap64 (x5 + 1))))
end
def spec_PermutationNumber.f (k : Nat) (l0 : List Int) : Option (Int × Int) := (spec_l14Permuted.f k l0).bind fun t196 => (if t196 = true then (spec_PermutationNumber.l0 k l0 0 0) else (some (0, 1)))
set_option maxHeartbeats 8000000 in
set_option maxRecDepth 100000 in
theorem spec_PermutationNumber.calls (k : Nat) (A0 : Option Addr) (c0 : Nat) (l0 : List Int) (r1 : Int) (r2 : Int) (w : World) (hr0 : Kd.C (Kd.int .i64) w A0 l0.length l0) (hc0 : l0.length ≤ c0) (h : spec_PermutationNumber.f k l0 = some (r1, r2)) :
  Calls Try.prog 49 #[.slice A0 l0.length c0] w fun e w' => e = .returned (.tuple #[.int .i64 r1, .int .i64 r2]) ∧ Drawn0 w w' := by
 have HR0 := Aside0.mk hr0
 have HC0 := Aside0.mk hc0
 clear hr0 hc0
 have H : ((spec_l14Permuted.f k l0).bind fun t196 => (if t196 = true then (spec_PermutationNumber.l0 k l0 0 0) else (some (0, 1)))) = some (r1, r2) := h
 clear h
 replace H := Option.bind_eq_some_iff.mp H
 obtain ⟨t196, A20, H⟩ := H
 replace H : (if t196 = true then (spec_PermutationNumber.l0 k l0 0 0) else (some (0, 1))) = some (r1, r2) := H
 have A2 := Aside0.mk A20
 clear A20
 by_cases c3 : t196 = true
 ·subst c3
  have H1 : (spec_PermutationNumber.l0 k l0 0 0) = some (r1, r2) := by rw [if_pos rfl] at H; exact H
  clear H
  have H := H1
  clear H1
  have H' := Aside0.mk H
  clear H
  go_enter Try.func49, Try.ntmps49
  go_wp2_with (first | (go_at_call 41; (with_reducible refine (spec_l14Permuted.calls k _ _ l0 true _ ?side1 ?side2 A2.out).mono ?_); (case side1 => exact cr_ HR0.out); (case side2 => exact HC0.out); rintro e w' ⟨rfl, ⟨nd, rfl⟩⟩; (try first | exact ⟨rfl, _, dN1⟩ | exact ⟨rfl, _, dN2⟩)))
  repeat (go_quiet (first | (go_at_call 41; (with_reducible refine (spec_l14Permuted.calls k _ _ l0 true _ ?side1 ?side2 A2.out).mono ?_); (case side1 => exact cr_ HR0.out); (case side2 => exact HC0.out); rintro e w' ⟨rfl, ⟨nd, rfl⟩⟩; (try first | exact ⟨rfl, _, dN1⟩ | exact ⟨rfl, _, dN2⟩))); try go_wp2_with (first | (go_at_call 41; (with_reducible refine (spec_l14Permuted.calls k _ _ l0 true _ ?side1 ?side2 A2.out).mono ?_); (case side1 => exact cr_ HR0.out); (case side2 => exact HC0.out); rintro e w' ⟨rfl, ⟨nd, rfl⟩⟩; (try first | exact ⟨rfl, _, dN1⟩ | exact ⟨rfl, _, dN2⟩))))
  go_loopg [4, 5] k (fun kq v4 v5 w' => ∃ (x4_1 : Int) (x5_1 : Int), v4 = .int .i64 x4_1 ∧ v5 = .int .i64 x5_1 ∧ Aside0 (spec_PermutationNumber.l0 kq l0 x4_1 x5_1 = some (r1, r2)) ∧ Aside0 (kq ≤ k) ∧ Drawn0 w w')
  case atStart => exact ⟨(0), (0), sv_, sv_, H', ⟨Nat.le_refl _⟩, dr_⟩
  case round =>
   clear H'
   (try clear p2); (try clear c3)
   obtain ⟨x4_1, x5_1, rfl, rfl, HA, HK1, ⟨m1, rfl⟩⟩ := hrel
   cases gk with
   | zero => exact absurd HA.out (by simp [spec_PermutationNumber.l0])
   | succ k1 =>
    have H := HA.out
    clear HA
    simp only [spec_PermutationNumber.l0] at H
    by_cases c4 : x5_1 < (l0.length : Int)
    ·rw [if_pos c4] at H
     have c4b0 : decide (x5_1 < (l0.length : Int)) = true := decide_eq_true c4
     clear c4
     have H' := Aside0.mk H
     clear H
     go_wp2
     repeat (go_quiet (fail); try go_wp2)
     go_loopg [6, 7] k1 (fun kq v6 v7 w' => ∃ (x6_2 : Int) (x7_2 : Int), v6 = .int .i64 x6_2 ∧ v7 = .int .i64 x7_2 ∧ Aside0 (spec_PermutationNumber.l1 kq l0 x4_1 x5_1 x6_2 x7_2 = some (r1, r2)) ∧ Aside0 (kq ≤ k1) ∧ Drawn0 w w')
     case atStart => exact ⟨(0), (wrap64 (x5_1 + 1)), sv_, sv_, H', ⟨Nat.le_refl _⟩, dr_⟩
     case round =>
      clear H'
      (try clear p2); (try clear c3); (try clear c4); (try clear c4b0); (try clear p2)
      obtain ⟨x6_2, x7_2, rfl, rfl, HA, HK2, ⟨m2, rfl⟩⟩ := hrel
      cases gk with
      | zero => exact absurd HA.out (by simp [spec_PermutationNumber.l1])
      | succ k2 =>
       have H := HA.out
       clear HA
       simp only [spec_PermutationNumber.l1] at H
       by_cases c5 : x7_2 < (l0.length : Int)
       ·rw [if_pos c5] at H
        have c5b0 : decide (x7_2 < (l0.length : Int)) = true := decide_eq_true c5
        clear c5
        by_cases c6 : 0 ≤ x7_2
        ·rw [if_pos c6] at H
         have c6b0 : decide (0 ≤ x7_2) = true := decide_eq_true c6
         clear c6
         by_cases c7 : 0 ≤ x5_1
         ·rw [if_pos c7] at H
          have c7b0 : decide (0 ≤ x5_1) = true := decide_eq_true c7
          clear c7
          by_cases c8 : x5_1 < (l0.length : Int)
          ·rw [if_pos c8] at H
           have c8b0 : decide (x5_1 < (l0.length : Int)) = true := decide_eq_true c8
           clear c8
           by_cases c9 : (rd l0 x7_2) < (rd l0 x5_1)
           ·rw [if_pos c9] at H
            have c9b0 : decide ((rd l0 x7_2) < (rd l0 x5_1)) = true := decide_eq_true c9
            clear c9
            have H' := Aside0.mk H
            clear H
            have p197 : 0 ≤ (x7_2 : Int) := da_
            have q197 : x7_2 < (l0.length : Int) := da_
            obtain ⟨ad197, e197, hx197_0⟩ := Kd.at_int HR0.out x7_2 p197 q197
            cases e197
            replace p197 := eq_true p197
            replace q197 := eq_true q197
            have p198 : 0 ≤ (x5_1 : Int) := da_
            have q198 : x5_1 < (l0.length : Int) := da_
            obtain ⟨ad198, e198, hx198_0⟩ := Kd.at_int HR0.out x5_1 p198 q198
            obtain rfl : ad197 = ad198 := (by injection e198)
            replace p198 := eq_true p198
            replace q198 := eq_true q198
            go_wp2
            repeat (go_quiet (fail); try go_wp2)
            go_roundg k2
            case measure => have := HK1.out; have := HK2.out; omega
            case rel => exact ⟨(wrap64 (x6_2 + 1)), (wrap64 (x7_2 + 1)), sv_, sv_, H', ⟨by have := HK1.out; have := HK2.out; omega⟩, dr_⟩
           ·rw [if_neg c9] at H
            have c9b0 : decide ((rd l0 x7_2) < (rd l0 x5_1)) = false := decide_eq_false c9
            clear c9
            have H' := Aside0.mk H
            clear H
            have p197 : 0 ≤ (x7_2 : Int) := da_
            have q197 : x7_2 < (l0.length : Int) := da_
            obtain ⟨ad197, e197, hx197_0⟩ := Kd.at_int HR0.out x7_2 p197 q197
            cases e197
            replace p197 := eq_true p197
            replace q197 := eq_true q197
            have p198 : 0 ≤ (x5_1 : Int) := da_
            have q198 : x5_1 < (l0.length : Int) := da_
            obtain ⟨ad198, e198, hx198_0⟩ := Kd.at_int HR0.out x5_1 p198 q198
            obtain rfl : ad197 = ad198 := (by injection e198)
            replace p198 := eq_true p198
            replace q198 := eq_true q198
            go_wp2
            repeat (go_quiet (fail); try go_wp2)
            go_roundg k2
            case measure => have := HK1.out; have := HK2.out; omega
            case rel => exact ⟨(x6_2), (wrap64 (x7_2 + 1)), sv_, sv_, H', ⟨by have := HK1.out; have := HK2.out; omega⟩, dr_⟩
          ·rw [if_neg c8] at H
           exact absurd H (by simp)
         ·rw [if_neg c7] at H
          exact absurd H (by simp)
        ·rw [if_neg c6] at H
         exact absurd H (by simp)
       ·rw [if_neg c5] at H
        have c5b0 : decide (x7_2 < (l0.length : Int)) = false := decide_eq_false c5
        clear c5
        replace H := Option.bind_eq_some_iff.mp H
        obtain ⟨t199, A100, H⟩ := H
        replace H : (spec_PermutationNumber.l0 k2 l0 (wrap64 (x4_1 + (wrap64 (x6_2 * t199)))) (wrap64 (x5_1 + 1))) = some (r1, r2) := H
        have A10 := Aside0.mk A100
        clear A100
        have H' := Aside0.mk H
        clear H
        go_wp2_with (first | (go_at_call 43; (with_reducible refine (spec_l14Factorial.calls k2 (wrap64 ((wrap64 ((l0.length : Int) - 1)) - x5_1)) t199 _ A10.out).mono ?_); rintro e w' ⟨rfl, ⟨nd, rfl⟩⟩; (try first | exact ⟨rfl, _, dN1⟩ | exact ⟨rfl, _, dN2⟩)))
        repeat (go_quiet (first | (go_at_call 43; (with_reducible refine (spec_l14Factorial.calls k2 (wrap64 ((wrap64 ((l0.length : Int) - 1)) - x5_1)) t199 _ A10.out).mono ?_); rintro e w' ⟨rfl, ⟨nd, rfl⟩⟩; (try first | exact ⟨rfl, _, dN1⟩ | exact ⟨rfl, _, dN2⟩))); try go_wp2_with (first | (go_at_call 43; (with_reducible refine (spec_l14Factorial.calls k2 (wrap64 ((wrap64 ((l0.length : Int) - 1)) - x5_1)) t199 _ A10.out).mono ?_); rintro e w' ⟨rfl, ⟨nd, rfl⟩⟩; (try first | exact ⟨rfl, _, dN1⟩ | exact ⟨rfl, _, dN2⟩))))
        go_roundg k2
        case measure => have := HK1.out; have := HK2.out; omega
        case rel => exact ⟨(wrap64 (x4_1 + (wrap64 (x6_2 * t199)))), (wrap64 (x5_1 + 1)), sv_, sv_, H', ⟨by have := HK1.out; have := HK2.out; omega⟩, dr_⟩
    ·rw [if_neg c4] at H
     have c4b0 : decide (x5_1 < (l0.length : Int)) = false := decide_eq_false c4
     clear c4
     simp only [Option.some.injEq, Prod.mk.injEq] at H
     obtain ⟨rfl, rfl⟩ := H
     go_wp2
     repeat (go_quiet (fail); try go_wp2)
     go_ret2
     exact ⟨sv_, dr_⟩
 ·replace c3 := Bool.eq_false_iff.mpr c3
  subst c3
  have H1 : (some (0, 1)) = some (r1, r2) := by rw [if_neg (show ¬ (false = true) by decide)] at H; exact H
  clear H
  have H := H1
  clear H1
  simp only [Option.some.injEq, Prod.mk.injEq] at H
  obtain ⟨rfl, rfl⟩ := H
  go_enter Try.func49, Try.ntmps49
  go_wp2_with (first | (go_at_call 41; (with_reducible refine (spec_l14Permuted.calls k _ _ l0 false _ ?side1 ?side2 A2.out).mono ?_); (case side1 => exact cr_ HR0.out); (case side2 => exact HC0.out); rintro e w' ⟨rfl, ⟨nd, rfl⟩⟩; (try first | exact ⟨rfl, _, dN1⟩ | exact ⟨rfl, _, dN2⟩)))
  repeat (go_quiet (first | (go_at_call 41; (with_reducible refine (spec_l14Permuted.calls k _ _ l0 false _ ?side1 ?side2 A2.out).mono ?_); (case side1 => exact cr_ HR0.out); (case side2 => exact HC0.out); rintro e w' ⟨rfl, ⟨nd, rfl⟩⟩; (try first | exact ⟨rfl, _, dN1⟩ | exact ⟨rfl, _, dN2⟩))); try go_wp2_with (first | (go_at_call 41; (with_reducible refine (spec_l14Permuted.calls k _ _ l0 false _ ?side1 ?side2 A2.out).mono ?_); (case side1 => exact cr_ HR0.out); (case side2 => exact HC0.out); rintro e w' ⟨rfl, ⟨nd, rfl⟩⟩; (try first | exact ⟨rfl, _, dN1⟩ | exact ⟨rfl, _, dN2⟩))))
  go_ret2
  exact ⟨sv_, dr_⟩
/-! ### spec_NextPermutation: function 21 -/
def spec_NextPermutation.f (k : Nat) (l0 : List Int) : Option (List Int × Int) := (spec_PermutationNumber.f k l0).bind fun bt200 => (if bt200.2 = 0 then ((spec_NumberedPermutation.f k l0 (wrap64 (bt200.1 + 1))).bind fun bt202 => (some (bt202.1, bt202.2))) else (some (([] : List Int), bt200.2)))
set_option maxHeartbeats 8000000 in
set_option maxRecDepth 100000 in
theorem spec_NextPermutation.calls (k : Nat) (A0 : Option Addr) (c0 : Nat) (l0 : List Int) (r1 : List Int) (r2 : Int) (w : World) (hr0 : Kd.C (Kd.int .i64) w A0 l0.length l0) (hc0 : l0.length ≤ c0) (h : spec_NextPermutation.f k l0 = some (r1, r2)) :
  Calls Try.prog 21 #[.slice A0 l0.length c0] w fun e w' => ∃ v0_ : Value, e = .returned (.tuple #[v0_, .int .i64 r2]) ∧ Kd.R (Kd.int .i64) 2 w' w.heap.size (fun _ => True) v0_ r1 ∧ Below w.heap.size w w' := by
 have HR0 := Aside0.mk hr0
 have HC0 := Aside0.mk hc0
 clear hr0 hc0
 have HB := Aside0.mk (Below.refl w.heap.size w)
 have H : ((spec_PermutationNumber.f k l0).bind fun bt200 => (if bt200.2 = 0 then ((spec_NumberedPermutation.f k l0 (wrap64 (bt200.1 + 1))).bind fun bt202 => (some (bt202.1, bt202.2))) else (some (([] : List Int), bt200.2)))) = some (r1, r2) := h
 clear h
 replace H := Option.bind_eq_some_iff.mp H
 obtain ⟨⟨t200, t201⟩, A20, H⟩ := H
 replace H : (if t201 = 0 then ((spec_NumberedPermutation.f k l0 (wrap64 (t200 + 1))).bind fun bt202 => (some (bt202.1, bt202.2))) else (some (([] : List Int), t201))) = some (r1, r2) := H
 have A2 := Aside0.mk A20
 clear A20
 by_cases c3 : t201 = 0
 ·rw [if_pos c3] at H
  have c3b0 : (t201 == 0) = true := beq_iff_eq.mpr c3
  have c3b1 : (t201 != 0) = false := bne_eq_false_iff_eq.mpr c3
  clear c3
  replace H := Option.bind_eq_some_iff.mp H
  obtain ⟨⟨t202, t203⟩, A40, H⟩ := H
  replace H : (some (t202, t203)) = some (r1, r2) := H
  have A4 := Aside0.mk A40
  clear A40
  simp only [Option.some.injEq, Prod.mk.injEq] at H
  obtain ⟨rfl, rfl⟩ := H
  go_enter Try.func21, Try.ntmps21
  go_wp2_with (first | ((with_reducible refine gate_callee (f := 49) rfl ?_); refine goesL_ (some 8) rfl rfl Try.func49 (by kernel_rfl) rfl #[.slice A0 l0.length c0] rfl av_ ?_; (with_reducible refine (spec_PermutationNumber.calls k _ _ l0 t200 t201 _ ?side1 ?side2 A2.out).mono ?_); (case side1 => exact cr_ HR0.out); (case side2 => exact HC0.out); rintro e w' ⟨rfl, ⟨nd, rfl⟩⟩; refine ⟨_, rfl, ?_⟩) | ((with_reducible refine gate_callee (f := 15) rfl ?_); refine goesL_ (some 17) rfl rfl Try.func15 (by kernel_rfl) rfl #[.slice A0 l0.length c0, .int .i64 (wrap64 (t200 + 1))] rfl av_ ?_; (with_reducible refine (spec_NumberedPermutation.calls k _ _ l0 (wrap64 (t200 + 1)) t202 t203 _ ?side1 ?side2 A4.out).mono ?_); (case side1 => exact cr_ HR0.out); (case side2 => exact HC0.out); rintro e w5 ⟨v204, rfl, ho0, hb⟩; refine ⟨_, rfl, ?_⟩; have n0_ := Aside0.mk (Kd.R_lower ho0 (below_size (bb_ HB.out))); have n1_ := Aside0.mk (below_step (bb_ HB.out) hb); clear HB; have HO205 := n0_; have HB := n1_; clear n0_ n1_; (try clear hb); (try clear hb2); (try clear hk); (try clear hi); (try clear ho0)))
  go_ret2
  exact ⟨_, by first | rfl | (simp [errW_none, errW_some] <;> rfl) | (simp [*, errW_none, errW_some] <;> rfl), rr_ HO205.out, bb_ HB.out⟩
 ·rw [if_neg c3] at H
  have c3b0 : (t201 == 0) = false := beq_eq_false_iff_ne.mpr c3
  have c3b1 : (t201 != 0) = true := bne_iff_ne.mpr c3
  simp only [Option.some.injEq, Prod.mk.injEq] at H
  obtain ⟨rfl, rfl⟩ := H
  go_enter Try.func21, Try.ntmps21
  go_wp2_with (first | ((with_reducible refine gate_callee (f := 49) rfl ?_); refine goesL_ (some 8) rfl rfl Try.func49 (by kernel_rfl) rfl #[.slice A0 l0.length c0] rfl av_ ?_; (with_reducible refine (spec_PermutationNumber.calls k _ _ l0 t200 t201 _ ?side1 ?side2 A2.out).mono ?_); (case side1 => exact cr_ HR0.out); (case side2 => exact HC0.out); rintro e w' ⟨rfl, ⟨nd, rfl⟩⟩; refine ⟨_, rfl, ?_⟩))
  go_ret2
  exact ⟨_, by first | rfl | (simp [errW_none, errW_some] <;> rfl) | (simp [*, errW_none, errW_some] <;> rfl), by first | exact Kd.R_nil _ _ _ _ _ | exact Kd.N_nil _ _ _ _ _ | exact Kd.V_nil _ _ _ _ _ | exact Kd.Q_nil _ _ _ _ _ | exact Kd.S_nil _ _ _ _ _, bb_ HB.out⟩
end Go.Proofs.Ytgdiabfmjcejdaa.P
end

section
namespace Go.Proofs.Ytgdiabfmjcejdaa.P
open Go.RowKit Go.Proofs.Ytgdiabfmjcejdaa.P Go.Proofs.YtgdiabfmjcejdaaW.PrintWords Go.Proofs.YtgdiabfmjcejdaaW.PrintLast Go.Proofs.YtgdiabfmjcejdaaW.PrintMore
set_option linter.unusedVariables false
set_option linter.unusedSimpArgs false
/-- How many of the numbers from a place on are less than v. -/
def lessM (l : List Int) (v : Int) : Nat → Nat → Int
  | 0, _ => 0
  | d + 1, i => (if rd l i < v then 1 else 0) + lessM l v d (i + 1)
theorem lessM_bound (l : List Int) (v : Int) : ∀ d i, 0 ≤ lessM l v d i ∧ lessM l v d i ≤ d := by
  intro d
  induction d with
  | zero => intro i; simp [lessM]
  | succ d ih =>
    intro i
    have := ih (i + 1)
    simp only [lessM]
    split <;> omega
def horM (l : List Int) : Nat → Nat → Int → Int
  | 0, _, acc => acc
  | d + 1, i, acc => horM l d (i + 1) (acc * ((d : Int) + 1) + lessM l (rd l i) d (i + 1))
def sumP (l : List Int) : Nat → Nat → Int
  | 0, _ => 0
  | d + 1, i => lessM l (rd l i) d (i + 1) * fact d + sumP l d (i + 1)
theorem hor_sum (l : List Int) : ∀ d i acc, horM l d i acc = acc * fact d + sumP l d i := by
  intro d
  induction d with
  | zero => intro i acc; simp [horM, sumP, fact]
  | succ d ih =>
    intro i acc
    simp only [horM, sumP]
    rw [ih, Int.add_mul, Int.mul_assoc]
    simp only [fact]
    omega
theorem impl_PN_l1 (l : List Int) (hl : l.length ≤ 8) (x4 v : Int) (i : Nat) (hi : i < l.length) (r : Int × Int) : ∀ (d j : Nat) (less : Int), (l.length - (i + 1)) - j = d → 0 ≤ less → less ≤ j →
    Ev (fun k => impl_PermutationNumber.l0 k l (wrap64 ((wrap64 (x4 * (wrap64 ((l.length : Int) - i)))) + (less + lessM l v d (i + 1 + j)))) l (l.length : Int) (wrap64 ((i : Int) + 1))) r →
    Ev (fun k => impl_PermutationNumber.l1 k l x4 (i : Int) v less l (l.length : Int) (i : Int) (l.drop (i + 1)) ((l.drop (i + 1)).length : Int) (j : Int)) r := by
  intro d
  induction d with
  | zero =>
    intro j less hd h0 h1 h
    refine Ev.succ ?_
    simp only [impl_PermutationNumber.l1]
    refine Ev.ite_neg (by simp; omega) ?_
    simpa [lessM] using h
  | succ d ih =>
    intro j less hd h0 h1 h
    have hj : j < (l.drop (i + 1)).length := by simp; omega
    have e : rd (l.drop (i + 1)) (j : Int) = rd l ((i + 1 + j : Nat) : Int) := by
      rw [rd_at hj, rd_at (show i + 1 + j < l.length by omega), List.getElem_drop]
    refine Ev.succ ?_
    simp only [impl_PermutationNumber.l1]
    rw [w64 (x := (j : Int) + 1) (by omega) (by omega), e]
    refine Ev.ite_pos (by simp; omega) (Ev.ite_pos (by omega) (Ev.ite_pos (by simp; omega) ?_))
    simp only [lessM] at h
    by_cases hc : rd l ((i + 1 + j : Nat) : Int) < v
    · rw [if_pos hc] at h
      refine Ev.ite_pos hc ?_
      rw [w64 (x := less + 1) (by omega) (by omega)]
      have := ih (j + 1) (less + 1) (by omega) (by omega) (by omega) (by rw [show i + 1 + (j + 1) = i + 1 + j + 1 by omega, show less + 1 + lessM l v d (i + 1 + j + 1) = less + (1 + lessM l v d (i + 1 + j + 1)) by omega]; exact h)
      simpa using this
    · rw [if_neg hc] at h
      refine Ev.ite_neg hc ?_
      have := ih (j + 1) less (by omega) (by omega) (by omega) (by rw [show i + 1 + (j + 1) = i + 1 + j + 1 by omega, show less + lessM l v d (i + 1 + j + 1) = less + (0 + lessM l v d (i + 1 + j + 1)) by omega]; exact h)
      simpa using this
theorem impl_PN_l0 (l : List Int) (hl : l.length ≤ 8) : ∀ (d i : Nat) (acc : Int), l.length - i = d → i ≤ l.length → 0 ≤ acc → acc ≤ 16 ^ i → Ev (fun k => impl_PermutationNumber.l0 k l acc l (l.length : Int) i) (horM l d i acc, 0) := by
  intro d
  induction d with
  | zero =>
    intro i acc hd hi h0 h1
    refine Ev.succ ?_
    simp only [impl_PermutationNumber.l0]
    exact Ev.ite_neg (by omega) (Ev.now _)
  | succ d ih =>
    intro i acc hd hi h0 h1
    have hb : (16 : Int) ^ i ≤ 4294967296 := by
      have : i = 0 ∨ i = 1 ∨ i = 2 ∨ i = 3 ∨ i = 4 ∨ i = 5 ∨ i = 6 ∨ i = 7 ∨ i = 8 := by omega
      rcases this with rfl | rfl | rfl | rfl | rfl | rfl | rfl | rfl | rfl <;> decide
    have hb1 : (1 : Int) ≤ (16 : Int) ^ i := by
      have : i = 0 ∨ i = 1 ∨ i = 2 ∨ i = 3 ∨ i = 4 ∨ i = 5 ∨ i = 6 ∨ i = 7 ∨ i = 8 := by omega
      rcases this with rfl | rfl | rfl | rfl | rfl | rfl | rfl | rfl | rfl <;> decide
    have hlb := lessM_bound l (rd l i) d (i + 1)
    have hd8 : (d : Int) + 1 ≤ 8 := by omega
    have m0 : 0 ≤ acc * ((d : Int) + 1) := Int.mul_nonneg h0 (by omega)
    have m1 : acc * ((d : Int) + 1) ≤ acc * 8 := Int.mul_le_mul_of_nonneg_left hd8 h0
    refine Ev.succ ?_
    simp only [impl_PermutationNumber.l0]
    rw [w64 (x := (i : Int) + 1) (by omega) (by omega), show ((i : Int) + 1).toNat = i + 1 by omega]
    refine Ev.ite_pos (by omega) (Ev.ite_pos (by omega) (Ev.ite_pos (by omega) (Ev.ite_pos (by omega) (Ev.ite_pos (by omega) ?_))))
    refine impl_PN_l1 l hl acc (rd l i) i (by omega) _ d 0 0 (by omega) (by omega) (by omega) ?_
    rw [w64 (x := (i : Int) + 1) (by omega) (by omega), w64 (x := (l.length : Int) - i) (by omega) (by omega), show (l.length : Int) - i = (d : Int) + 1 by omega, w64 (x := acc * ((d : Int) + 1)) (by omega) (by omega), Int.zero_add, Nat.add_zero, w64 (x := _ + _) (by omega) (by omega)]
    simp only [horM]
    have := ih (i + 1) (acc * ((d : Int) + 1) + lessM l (rd l i) d (i + 1)) (by omega) (by omega) (by omega) (by rw [Int.pow_succ]; omega)
    simpa using this
theorem spec_PN_l1 (l : List Int) (hl : l.length ≤ 8) (x4 : Int) (i : Nat) (hi : i < l.length) (r : Int × Int) : ∀ (d j : Nat) (less : Int), l.length - j = d → 0 ≤ less → less ≤ j →
    Ev (fun k => spec_PermutationNumber.l0 k l (wrap64 (x4 + (wrap64 ((less + lessM l (rd l i) d j) * fact (l.length - 1 - i))))) (wrap64 ((i : Int) + 1))) r →
    Ev (fun k => spec_PermutationNumber.l1 k l x4 (i : Int) less (j : Int)) r := by
  intro d
  induction d with
  | zero =>
    intro j less hd h0 h1 h
    refine Ev.succ ?_
    simp only [spec_PermutationNumber.l1]
    rw [w64 (x := (l.length : Int) - 1) (by omega) (by omega), w64 (x := (l.length : Int) - 1 - i) (by omega) (by omega), show (l.length : Int) - 1 - i = ((l.length - 1 - i : Nat) : Int) by omega]
    refine Ev.ite_neg (by omega) (Ev.bind (spec_l14Factorial_ev _ (by omega)) ?_)
    simpa [lessM] using h
  | succ d ih =>
    intro j less hd h0 h1 h
    refine Ev.succ ?_
    simp only [spec_PermutationNumber.l1]
    rw [w64 (x := (j : Int) + 1) (by omega) (by omega)]
    refine Ev.ite_pos (by omega) (Ev.ite_pos (by omega) (Ev.ite_pos (by omega) (Ev.ite_pos (by omega) ?_)))
    simp only [lessM] at h
    by_cases hc : rd l (j : Int) < rd l i
    · rw [if_pos hc] at h
      refine Ev.ite_pos hc ?_
      rw [w64 (x := less + 1) (by omega) (by omega)]
      have := ih (j + 1) (less + 1) (by omega) (by omega) (by omega) (by rw [show less + 1 + lessM l (rd l i) d (j + 1) = less + (1 + lessM l (rd l i) d (j + 1)) by omega]; exact h)
      simpa using this
    · rw [if_neg hc] at h
      refine Ev.ite_neg hc ?_
      have := ih (j + 1) less (by omega) (by omega) (by omega) (by rw [show less + lessM l (rd l i) d (j + 1) = less + (0 + lessM l (rd l i) d (j + 1)) by omega]; exact h)
      simpa using this
theorem spec_PN_l0 (l : List Int) (hl : l.length ≤ 8) : ∀ (d i : Nat) (acc : Int), l.length - i = d → i ≤ l.length → 0 ≤ acc → acc ≤ 1000000 * i → Ev (fun k => spec_PermutationNumber.l0 k l acc i) (acc + sumP l d i, 0) := by
  intro d
  induction d with
  | zero =>
    intro i acc hd hi h0 h1
    refine Ev.succ ?_
    simp only [spec_PermutationNumber.l0]
    refine Ev.ite_neg (by omega) ?_
    simpa [sumP] using Ev.now _
  | succ d ih =>
    intro i acc hd hi h0 h1
    have hf := fact_bound d (by omega)
    have hlb := lessM_bound l (rd l i) d (i + 1)
    have m0 : 0 ≤ lessM l (rd l i) d (i + 1) * fact d := Int.mul_nonneg hlb.1 (by omega)
    have m1 : lessM l (rd l i) d (i + 1) * fact d ≤ lessM l (rd l i) d (i + 1) * 40320 := Int.mul_le_mul_of_nonneg_left hf.2 hlb.1
    refine Ev.succ ?_
    simp only [spec_PermutationNumber.l0]
    rw [w64 (x := (i : Int) + 1) (by omega) (by omega)]
    refine Ev.ite_pos (by omega) ?_
    have := spec_PN_l1 l hl acc i (by omega) (acc + sumP l (d + 1) i, 0) d (i + 1) 0 (by omega) (by omega) (by omega) (by
      rw [w64 (x := (i : Int) + 1) (by omega) (by omega), Int.zero_add, show l.length - 1 - i = d by omega, w64 (x := _ * _) (by omega) (by omega), w64 (x := acc + _) (by omega) (by omega)]
      refine Ev.cast (by simpa using ih (i + 1) (acc + lessM l (rd l i) d (i + 1) * fact d) (by omega) (by omega) (by omega) (by omega)) ?_
      simp [sumP, Int.add_assoc])
    simpa using this
theorem bothPermutationNumber (l : List Int) (hl : l.length ≤ 1048576) : Ev (fun k => spec_PermutationNumber.f k l) (if permB l = true then (sumP l l.length 0, 0) else (0, 1)) ∧ Ev (fun k => impl_PermutationNumber.f k l) (if permB l = true then (sumP l l.length 0, 0) else (0, 1)) := by
  unfold spec_PermutationNumber.f impl_PermutationNumber.f
  cases h : permB l with
  | false => exact ⟨Ev.bind (spec_l14Permuted_ev l hl) (Ev.ite_neg (by rw [h]; decide) (Ev.now _)), Ev.bind (impl_permutedOk_ev l hl) (Ev.ite_neg (by rw [h]; decide) (Ev.now _))⟩
  | true =>
    have h' := h
    simp only [permB, Bool.and_eq_true, decide_eq_true_eq] at h'
    refine ⟨Ev.bind (spec_l14Permuted_ev l hl) (Ev.ite_pos h ?_), Ev.bind (impl_permutedOk_ev l hl) (Ev.ite_pos h ?_)⟩
    · simpa using spec_PN_l0 l h'.2.2 l.length 0 0 (by omega) (by omega) (by omega) (by omega)
    · have := impl_PN_l0 l h'.2.2 l.length 0 0 (by omega) (by omega) (by omega) (by simp)
      rw [hor_sum] at this
      simpa using this
end Go.Proofs.Ytgdiabfmjcejdaa.P
end
