/- The pure statement of FnExactGrowMelody. No condition. -/
import Derived.Test.YtinlejhffokbaaaGGM1
import Derived.Test.YtinlejhffokbaaaGGM3
import Derived.Test.YtinlejhffokbaaaGGM4
import Derived.Test.YtinlejhffokbaaaGGM5
import Derived.Test.YtinlejhffokbaaaGGM7
import Derived.Test.YtinlejhffokbaaaGGM8
section
namespace Go.Proofs.Ytinlejhffokbaaa.P
open Go.RowKit Go.Proofs.YtinlejhffokbaaaW.PrintWords Go.Proofs.YtinlejhffokbaaaW.PrintLast Go.Proofs.YtinlejhffokbaaaW.PrintMore
attribute [local go_sem] max2_int min2_int max_two min_two max_three min_three max_four min_four   -- for this text's walks alone
set_option linter.unusedVariables false
set_option linter.unusedSimpArgs false

/-! ### laws_FnExactGrowMelody: function 4 (given) -/
/-- What the plain side tells: both give the same, and what the laws' helpers say of it. -/
def laws_FnExactGrowMelody.Pure : Prop := ∀ (r_0 : ByteArray) (r_1 : List Int) (r_2 : List Int) (r_3 : Int) (r_4 : Int) (r_5 : List (List Int)) (sd : Int) (st : Int) (n : Int) (lo : Int) (hi : Int), r_0.size ≤ maxLen → (r_1.length ≤ maxLen ∧ ∀ y0 ∈ r_1, (Lit.int .i64 y0).wf = true) → (r_2.length ≤ maxLen ∧ ∀ y0 ∈ r_2, (Lit.int .i64 y0).wf = true) → (Lit.int .i64 r_3).wf = true → (Lit.int .i64 r_4).wf = true → (r_5.length ≤ maxLen ∧ ∀ y0 ∈ r_5, (y0.length ≤ maxLen ∧ ∀ y1 ∈ y0, (Lit.int .i64 y1).wf = true)) → (Lit.int .i64 sd).wf = true → (Lit.int .i64 st).wf = true → (Lit.int .i64 n).wf = true → (Lit.int .i64 lo).wf = true → (Lit.int .i64 hi).wf = true → ∃ k : Nat, ∃ zr : Int, laws_szRaga.f k r_0 r_1 r_2 r_3 r_4 r_5 1048576 = some zr ∧ (zr < 0 ∨ (¬ zr < 0 ∧ ∃ (R0 : List S90) (R1 : Int) (vr : Int) (m0 : Int) (N0 : List S90), spec_GrowMelody.f k r_0 r_1 r_2 r_3 r_4 r_5 sd st n lo hi = some (R0, R1) ∧ impl_GrowMelody.f k r_0 r_1 r_2 r_3 r_4 r_5 sd st n lo hi = some (R0, R1) ∧ laws_toRaga.f k r_0 r_1 r_2 r_3 r_4 r_5 = some (r_0, r_1, r_2, r_3, r_4, r_5) ∧ laws_eqRaga.f k r_0 r_1 r_2 r_3 r_4 r_5 r_0 r_1 r_2 r_3 r_4 r_5 = some true ∧ laws_markRaga.f k r_0 r_1 r_2 r_3 r_4 r_5 1 = some vr ∧ 0 ≤ vr ∧ laws_eqNoteS.f k R0 R0 = some true ∧ laws_markNoteS.f k R0 1 = some (m0, N0) ∧ laws_heldNoteS.f k N0 1 = some m0 ∧ 0 ≤ m0))
set_option maxHeartbeats 16000000 in
set_option maxRecDepth 100000 in
theorem laws_FnExactGrowMelody.walk (P : laws_FnExactGrowMelody.Pure) (r_0 : ByteArray) (Ar_1 : Option Addr) (cr_1 : Nat) (r_1 : List Int) (Ar_2 : Option Addr) (cr_2 : Nat) (r_2 : List Int) (r_3 : Int) (r_4 : Int) (Ar_5 : Option Addr) (cr_5 : Nat) (r_5 : List (List Int)) (sd : Int) (st : Int) (n : Int) (lo : Int) (hi : Int) (w : World) (hrr_1 : Kd.C (Kd.int .i64) w Ar_1 r_1.length r_1) (hcr_1 : r_1.length ≤ cr_1) (hrr_2 : Kd.C (Kd.int .i64) w Ar_2 r_2.length r_2) (hcr_2 : r_2.length ≤ cr_2) (hrr_5 : Kd.C (Kd.slice 2 (Kd.int .i64)) w Ar_5 r_5.length r_5) (hcr_5 : r_5.length ≤ cr_5) (w_r_0 : r_0.size ≤ maxLen) (w_r_1 : (r_1.length ≤ maxLen ∧ ∀ y0 ∈ r_1, (Lit.int .i64 y0).wf = true)) (w_r_2 : (r_2.length ≤ maxLen ∧ ∀ y0 ∈ r_2, (Lit.int .i64 y0).wf = true)) (w_r_3 : (Lit.int .i64 r_3).wf = true) (w_r_4 : (Lit.int .i64 r_4).wf = true) (w_r_5 : (r_5.length ≤ maxLen ∧ ∀ y0 ∈ r_5, (y0.length ≤ maxLen ∧ ∀ y1 ∈ y0, (Lit.int .i64 y1).wf = true))) (w_sd : (Lit.int .i64 sd).wf = true) (w_st : (Lit.int .i64 st).wf = true) (w_n : (Lit.int .i64 n).wf = true) (w_lo : (Lit.int .i64 lo).wf = true) (w_hi : (Lit.int .i64 hi).wf = true) :
    Calls Try.prog 4 #[.agg #[.string r_0, .slice Ar_1 r_1.length cr_1, .slice Ar_2 r_2.length cr_2, .int .i64 r_3, .int .i64 r_4, .slice Ar_5 r_5.length cr_5], .int .i64 sd, .int .i64 st, .int .i64 n, .int .i64 lo, .int .i64 hi] w fun e w' => e = .returned (.bool true) ∧ Below w.heap.size w w' := by
  obtain ⟨k, HP⟩ := P r_0 r_1 r_2 r_3 r_4 r_5 sd st n lo hi w_r_0 w_r_1 w_r_2 w_r_3 w_r_4 w_r_5 w_sd w_st w_n w_lo w_hi
  clear P w_r_0 w_r_1 w_r_2 w_r_3 w_r_4 w_r_5 w_sd w_st w_n w_lo w_hi
  have HRr_1 := Aside0.mk hrr_1
  have HCr_1 := Aside0.mk hcr_1
  clear hrr_1 hcr_1
  have HRr_2 := Aside0.mk hrr_2
  have HCr_2 := Aside0.mk hcr_2
  clear hrr_2 hcr_2
  have HRr_5 := Aside0.mk hrr_5
  have HCr_5 := Aside0.mk hcr_5
  clear hrr_5 hcr_5
  have HS := Aside0.mk (Since.start w)
  have hu25 := Try.underlying25
  have hu29 := Try.underlying29
  obtain ⟨zr, z_, HP⟩ := HP
  have Zr := Aside0.mk z_
  clear z_
  rcases HP with h1_ | ⟨h1_, HP⟩
  · have c_zr : decide (zr < 0) = true := decide_eq_true h1_
    clear h1_
    have Q0 := trivial
    go_enter Try.func4, Try.ntmps4
    go_wp2_with (first
      | ((clear Q0); (with_reducible refine gate_dst (N := 6) rfl ?_); refine box_event ?hg (N := 6) ?hd (cs := #[.string r_0, .slice Ar_1 r_1.length cr_1, .slice Ar_2 r_2.length cr_2, .int .i64 r_3, .int .i64 r_4, .slice Ar_5 r_5.length cr_5]) (t := 25) ?hr ?_; (case hd => rfl); (case hg => rfl); (case hr => first | (go_simp; done) | (go_simp; rfl)); intro gar hg w1 hbox hb; have BKar := Aside0.mk hbox; have Gar := Aside0.mk (show w.heap.size ≤ gar ∧ gar < w1.heap.size from ⟨by rw [hg]; exact below_size (Bl.out), blk_lt hbox⟩); clear hbox hg; have hs_ := Aside0.mk (HS.out.go hb); have M_w1 := Aside0.mk (Bl.size (w := w) hb); clear HS; have HS := hs_; clear hs_; clear hb; obtain ⟨har_0, har_1, har_2, har_3, har_4, har_5, hfar⟩ := boxed6 BKar.out (HS.out.at_ (W := w1)); have Q1 := trivial)
      | ((clear Q1); (with_reducible refine gate_callee (f := 13) rfl ?_); refine goesL_ (some _) rfl rfl Try.func13 (by kernel_rfl) rfl #[.agg #[.string r_0, .slice Ar_1 r_1.length cr_1, .slice Ar_2 r_2.length cr_2, .int .i64 r_3, .int .i64 r_4, .slice Ar_5 r_5.length cr_5], .int .i64 1048576] rfl (by (try simp only [List.map_toArray, List.map_cons, List.map_nil]); first | done | rfl) ?_; (with_reducible refine (laws_szRaga.calls k r_0 _ _ r_1 _ _ r_2 r_3 r_4 _ _ r_5 1048576 zr _ ?s0 ?t0 ?s1 ?t1 ?s2 ?t2 Zr.out).mono ?_); (case s0 => exact HS.out.C HRr_1.out); (case t0 => exact HCr_1.out); (case s1 => exact HS.out.C HRr_2.out); (case t1 => exact HCr_2.out); (case s2 => exact HS.out.C HRr_5.out); (case t2 => exact HCr_5.out); rintro e w2 ⟨rfl, hb_⟩; refine ⟨_, rfl, ?_⟩; have hb := below_of hb_; clear hb_; have hs_ := Aside0.mk (HS.out.go hb); have M_w2 := Aside0.mk (Bl.size (w := w1) hb); clear HS; have HS := hs_; clear hs_; clear hb; clear har_0 har_1 har_2 har_3 har_4 har_5 hfar; obtain ⟨har_0, har_1, har_2, har_3, har_4, har_5, hfar⟩ := boxed6 BKar.out (HS.out.at_ (W := w2)); have Q2 := trivial))
    go_ret
    exact ⟨by first | rfl | (simp; done) | (simp [*]; done), HS.out.at_⟩
  have c_zr : decide (zr < 0) = false := decide_eq_false h1_
  clear h1_
  obtain ⟨R0, R1, vr, m0, N0, pP, pI, pTr, pEr, pKr, pk0, pER0, pKR0, pHR0, pm00⟩ := HP
  have P := Aside0.mk pP
  clear pP
  have I := Aside0.mk pI
  clear pI
  have Tr := Aside0.mk pTr
  clear pTr
  have Er := Aside0.mk pEr
  clear pEr
  have Kr := Aside0.mk pKr
  clear pKr
  have c_k : decide (vr < 0) = false := decide_eq_false (by omega)
  clear pk0
  have ER0 := Aside0.mk pER0
  clear pER0
  have KR0 := Aside0.mk pKR0
  clear pKR0
  have HR0 := Aside0.mk pHR0
  clear pHR0
  have c_m00 : decide (m0 < 0) = false := decide_eq_false (by omega)
  clear pm00
  have Q0 := trivial
  go_enter Try.func4, Try.ntmps4
  go_wp2_with (first
    | ((clear Q0); (with_reducible refine gate_dst (N := 6) rfl ?_); refine box_event ?hg (N := 6) ?hd (cs := #[.string r_0, .slice Ar_1 r_1.length cr_1, .slice Ar_2 r_2.length cr_2, .int .i64 r_3, .int .i64 r_4, .slice Ar_5 r_5.length cr_5]) (t := 25) ?hr ?_; (case hd => rfl); (case hg => rfl); (case hr => first | (go_simp; done) | (go_simp; rfl)); intro gar hg w1 hbox hb; have BKar := Aside0.mk hbox; have Gar := Aside0.mk (show w.heap.size ≤ gar ∧ gar < w1.heap.size from ⟨by rw [hg]; exact below_size (Bl.out), blk_lt hbox⟩); clear hbox hg; have hs_ := Aside0.mk (HS.out.go hb); have M_w1 := Aside0.mk (Bl.size (w := w) hb); clear HS; have HS := hs_; clear hs_; clear hb; obtain ⟨har_0, har_1, har_2, har_3, har_4, har_5, hfar⟩ := boxed6 BKar.out (HS.out.at_ (W := w1)); have Q1 := trivial)
    | ((clear Q1); (with_reducible refine gate_callee (f := 13) rfl ?_); refine goesL_ (some _) rfl rfl Try.func13 (by kernel_rfl) rfl #[.agg #[.string r_0, .slice Ar_1 r_1.length cr_1, .slice Ar_2 r_2.length cr_2, .int .i64 r_3, .int .i64 r_4, .slice Ar_5 r_5.length cr_5], .int .i64 1048576] rfl (by (try simp only [List.map_toArray, List.map_cons, List.map_nil]); first | done | rfl) ?_; (with_reducible refine (laws_szRaga.calls k r_0 _ _ r_1 _ _ r_2 r_3 r_4 _ _ r_5 1048576 zr _ ?s0 ?t0 ?s1 ?t1 ?s2 ?t2 Zr.out).mono ?_); (case s0 => exact HS.out.C HRr_1.out); (case t0 => exact HCr_1.out); (case s1 => exact HS.out.C HRr_2.out); (case t1 => exact HCr_2.out); (case s2 => exact HS.out.C HRr_5.out); (case t2 => exact HCr_5.out); rintro e w2 ⟨rfl, hb_⟩; refine ⟨_, rfl, ?_⟩; have hb := below_of hb_; clear hb_; have hs_ := Aside0.mk (HS.out.go hb); have M_w2 := Aside0.mk (Bl.size (w := w1) hb); clear HS; have HS := hs_; clear hs_; clear hb; clear har_0 har_1 har_2 har_3 har_4 har_5 hfar; obtain ⟨har_0, har_1, har_2, har_3, har_4, har_5, hfar⟩ := boxed6 BKar.out (HS.out.at_ (W := w2)); have Q2 := trivial)
    | ((clear Q2); (with_reducible refine gate_callee (f := 15) rfl ?_); refine goesL_ (some _) rfl rfl Try.func15 (by kernel_rfl) rfl #[.agg #[.string r_0, .slice Ar_1 r_1.length cr_1, .slice Ar_2 r_2.length cr_2, .int .i64 r_3, .int .i64 r_4, .slice Ar_5 r_5.length cr_5]] rfl (by (try simp only [List.map_toArray, List.map_cons, List.map_nil]); first | done | rfl) ?_; (with_reducible refine (laws_toRaga.calls k r_0 _ _ r_1 _ _ r_2 r_3 r_4 _ _ r_5 r_0 r_1 r_2 r_3 r_4 r_5 _ ?s0 ?t0 ?s1 ?t1 ?s2 ?t2 Tr.out).mono ?_); (case s0 => exact HS.out.C HRr_1.out); (case t0 => exact HCr_1.out); (case s1 => exact HS.out.C HRr_2.out); (case t1 => exact HCr_2.out); (case s2 => exact HS.out.C HRr_5.out); (case t2 => exact HCr_5.out); rintro e w3 ⟨v0, v1, v2, rfl, ho0, ho1, ho2, hb⟩; refine ⟨_, rfl, ?_⟩; obtain ⟨ATr_r_1, cTr_r_1, ev⟩ := Kd.R_slice ho0; subst ev; have HOTr_r_1 := Aside0.mk (Kd.R_lower ho0 (below_size (Bl.out (w := w2)))); clear ho0; obtain ⟨ATr_r_2, cTr_r_2, ev⟩ := Kd.R_slice ho1; subst ev; have HOTr_r_2 := Aside0.mk (Kd.R_lower ho1 (below_size (Bl.out (w := w2)))); clear ho1; obtain ⟨ATr_r_5, cTr_r_5, ev⟩ := Kd.S_slice ho2; subst ev; have HOTr_r_5 := Aside0.mk (Kd.S_lower ho2 (below_size (Bl.out (w := w2)))); clear ho2; have hs_ := Aside0.mk (HS.out.go hb); have M_w3 := Aside0.mk (Bl.size (w := w2) hb); clear HS; have HS := hs_; clear hs_; clear hb; clear har_0 har_1 har_2 har_3 har_4 har_5 hfar; obtain ⟨har_0, har_1, har_2, har_3, har_4, har_5, hfar⟩ := boxed6 BKar.out (HS.out.at_ (W := w3)); have Q3 := trivial)
    | ((clear Q3); (with_reducible refine gate_callee (f := 22) rfl ?_); refine goesL_ (some _) rfl rfl Try.func22 (by kernel_rfl) rfl #[.agg #[.string r_0, .slice ATr_r_1 r_1.length cTr_r_1, .slice ATr_r_2 r_2.length cTr_r_2, .int .i64 r_3, .int .i64 r_4, .slice ATr_r_5 r_5.length cTr_r_5], .int .i64 sd, .int .i64 st, .int .i64 n, .int .i64 lo, .int .i64 hi] rfl (by (try simp only [List.map_toArray, List.map_cons, List.map_nil]); first | done | rfl) ?_; (with_reducible refine (spec_GrowMelody.calls k r_0 _ _ r_1 _ _ r_2 r_3 r_4 _ _ r_5 sd st n lo hi R0 R1 _ ?s0 ?t0 ?s1 ?t1 ?s2 ?t2 P.out).mono ?_); (case s0 => exact HS.out.C (RC HOTr_r_1.out)); (case t0 => exact RL HOTr_r_1.out); (case s1 => exact HS.out.C (RC HOTr_r_2.out)); (case t1 => exact RL HOTr_r_2.out); (case s2 => exact HS.out.C (SC HOTr_r_5.out)); (case t2 => exact SL HOTr_r_5.out); rintro e w4 ⟨v0, rfl, ho0, hb⟩; refine ⟨_, rfl, ?_⟩; obtain ⟨AW0, cW0, ev⟩ := Kd.R_slice ho0; subst ev; have HOW0 := Aside0.mk (Kd.R_lower ho0 (below_size (Bl.out (w := w3)))); clear ho0; have hs_ := Aside0.mk (HS.out.go hb); have M_w4 := Aside0.mk (Bl.size (w := w3) hb); clear HS; have HS := hs_; clear hs_; clear hb; clear har_0 har_1 har_2 har_3 har_4 har_5 hfar; obtain ⟨har_0, har_1, har_2, har_3, har_4, har_5, hfar⟩ := boxed6 BKar.out (HS.out.at_ (W := w4)); have Q4 := trivial)
    | ((clear Q4); (with_reducible refine gate_callee (f := 15) rfl ?_); refine goesL_ (some _) rfl rfl Try.func15 (by kernel_rfl) rfl #[.agg #[.string r_0, .slice Ar_1 r_1.length cr_1, .slice Ar_2 r_2.length cr_2, .int .i64 r_3, .int .i64 r_4, .slice Ar_5 r_5.length cr_5]] rfl (by (try simp only [List.map_toArray, List.map_cons, List.map_nil]); first | done | rfl) ?_; (with_reducible refine (laws_toRaga.calls k r_0 _ _ r_1 _ _ r_2 r_3 r_4 _ _ r_5 r_0 r_1 r_2 r_3 r_4 r_5 _ ?s0 ?t0 ?s1 ?t1 ?s2 ?t2 Tr.out).mono ?_); (case s0 => exact HS.out.C HRr_1.out); (case t0 => exact HCr_1.out); (case s1 => exact HS.out.C HRr_2.out); (case t1 => exact HCr_2.out); (case s2 => exact HS.out.C HRr_5.out); (case t2 => exact HCr_5.out); rintro e w5 ⟨v0, v1, v2, rfl, ho0, ho1, ho2, hb⟩; refine ⟨_, rfl, ?_⟩; obtain ⟨AXr_r_1, cXr_r_1, ev⟩ := Kd.R_slice ho0; subst ev; have HOXr_r_1 := Aside0.mk (Kd.R_lower ho0 (below_size (Bl.out (w := w4)))); clear ho0; obtain ⟨AXr_r_2, cXr_r_2, ev⟩ := Kd.R_slice ho1; subst ev; have HOXr_r_2 := Aside0.mk (Kd.R_lower ho1 (below_size (Bl.out (w := w4)))); clear ho1; obtain ⟨AXr_r_5, cXr_r_5, ev⟩ := Kd.S_slice ho2; subst ev; have HOXr_r_5 := Aside0.mk (Kd.S_lower ho2 (below_size (Bl.out (w := w4)))); clear ho2; have hs_ := Aside0.mk (HS.out.go hb); have M_w5 := Aside0.mk (Bl.size (w := w4) hb); clear HS; have HS := hs_; clear hs_; clear hb; clear har_0 har_1 har_2 har_3 har_4 har_5 hfar; obtain ⟨har_0, har_1, har_2, har_3, har_4, har_5, hfar⟩ := boxed6 BKar.out (HS.out.at_ (W := w5)); have Q5 := trivial)
    | ((clear Q5); (with_reducible refine gate_dst (N := 16) rfl ?_); refine box_event ?hg (N := 16) ?hd (cs := #[.string (⟨#[]⟩ : ByteArray), .slice none 0 0, .slice none 0 0, .int .i64 0, .int .i64 0, .slice none 0 0]) (t := 29) ?hr ?_; (case hd => rfl); (case hg => rfl); (case hr => first | (go_simp; done) | (go_simp; rfl)); intro gxr hg w6b hbox hb; have BKxr := Aside0.mk hbox; have Gxr := Aside0.mk (show w5.heap.size ≤ gxr by rw [hg]; exact below_size Bl.out); have HX : Bl w5 w6b := ⟨Bl.go hb⟩; clear hg; clear har_0 har_1 har_2 har_3 har_4 har_5 hfar; obtain ⟨hxr_0, hxr_1, hxr_2, hxr_3, hxr_4, hxr_5, hfxr⟩ := boxed6 hbox (Below.refl _ _); clear hbox hb; obtain ⟨har_0, har_1, har_2, har_3, har_4, har_5, hfar⟩ := boxed6 BKar.out (HS.out.at_ (W := w6b)); have hnar : gar ≠ gxr := Nat.ne_of_lt (Nat.lt_of_lt_of_le Gar.out.2 (Nat.le_trans (Nat.le_trans M_w2.out (Nat.le_trans M_w3.out (Nat.le_trans M_w4.out (M_w5.out)))) Gxr.out)); have hoar := hnar.symm; have Q6 := trivial)
    | ((clear Q6); (with_reducible refine gate_callee (f := 23) rfl ?_); refine goesL_ (some _) rfl rfl Try.func23 (by kernel_rfl) rfl #[.agg #[.string r_0, .slice AXr_r_1 r_1.length cXr_r_1, .slice AXr_r_2 r_2.length cXr_r_2, .int .i64 r_3, .int .i64 r_4, .slice AXr_r_5 r_5.length cXr_r_5], .int .i64 sd, .int .i64 st, .int .i64 n, .int .i64 lo, .int .i64 hi] rfl (by (try simp only [List.map_toArray, List.map_cons, List.map_nil]); first | done | rfl) ?_; refine calls_at w5 gxr #[.string r_0, .slice AXr_r_1 r_1.length cXr_r_1, .slice AXr_r_2 r_2.length cXr_r_2, .int .i64 r_3, .int .i64 r_4, .slice AXr_r_5 r_5.length cXr_r_5] 29 (by with_reducible repeat (first | exact HX | refine Bl.set ?_ Gxr.out | apply Bl.alloc | apply Bl.drewN | apply Bl.drew)) (by (with_reducible repeat (first | refine blk_drewN ?_ _ | refine blk_drew ?_ | refine blk_alloc ?_ _)); exact (blk_put (blk_put (blk_put (blk_put (blk_put (blk_put BKxr.out 0 (.string r_0) rfl) 1 (.slice AXr_r_1 r_1.length cXr_r_1) rfl) 2 (.slice AXr_r_2 r_2.length cXr_r_2) rfl) 3 (.int .i64 r_3) rfl) 4 (.int .i64 r_4) rfl) 5 (.slice AXr_r_5 r_5.length cXr_r_5) rfl)) ?_; intro W_ hx_ hbk_; clear BKxr HX; have BKxr := Aside0.mk hbk_; clear hbk_; (with_reducible refine (impl_GrowMelody.calls k r_0 _ _ r_1 _ _ r_2 r_3 r_4 _ _ r_5 sd st n lo hi R0 R1 _ ?s0 ?t0 ?s1 ?t1 ?s2 ?t2 I.out).mono ?_); (case s0 => exact HS.out.C (RC HOXr_r_1.out)); (case t0 => exact RL HOXr_r_1.out); (case s1 => exact HS.out.C (RC HOXr_r_2.out)); (case t1 => exact RL HOXr_r_2.out); (case s2 => exact HS.out.C (SC HOXr_r_5.out)); (case t2 => exact SL HOXr_r_5.out); rintro e w7 ⟨v0, rfl, ho0, hb⟩; refine ⟨_, rfl, ?_⟩; obtain ⟨AG0, cG0, ev⟩ := Kd.R_slice ho0; subst ev; have HOG0 := Aside0.mk (Kd.R_lower ho0 (below_size (Bl.out (w := w5)))); clear ho0; have hs_ := Aside0.mk (HS.out.go hb); have M_w7 := Aside0.mk (Bl.size (w := w5) hb); clear HS; have HS := hs_; clear hs_; have bk_ := Aside0.mk (blk_below BKxr.out hb); have g_ := Aside0.mk (⟨Gxr.out, Nat.lt_of_lt_of_le (blk_lt BKxr.out) (below_size0 hb)⟩ : w5.heap.size ≤ gxr ∧ gxr < w7.heap.size); clear BKxr Gxr hx_; have BKxr := bk_; have Gxr := g_; clear bk_ g_; clear hb; clear hxr_0 hxr_1 hxr_2 hxr_3 hxr_4 hxr_5 hfxr har_0 har_1 har_2 har_3 har_4 har_5 hfar hnar hoar; obtain ⟨har_0, har_1, har_2, har_3, har_4, har_5, hfar⟩ := boxed6 BKar.out (HS.out.at_ (W := w7)); obtain ⟨hxr_0, hxr_1, hxr_2, hxr_3, hxr_4, hxr_5, hfxr⟩ := boxed6 BKxr.out (HS.out.at_ (W := w7)); have Q7 := trivial)
    | ((clear Q7); (with_reducible refine gate_callee (f := 24) rfl ?_); refine goesL_ (some _) rfl rfl Try.func24 (by kernel_rfl) rfl #[.slice AG0 R0.length cG0, .slice AW0 R0.length cW0] rfl (by (try simp only [List.map_toArray, List.map_cons, List.map_nil]); first | done | rfl) ?_; (with_reducible refine (laws_eqNoteS.calls k _ _ R0 _ _ R0 true _ ?s0 ?t0 ?s1 ?t1 ER0.out).mono ?_); (case s0 => exact HS.out.C (RC HOG0.out)); (case t0 => exact RL HOG0.out); (case s1 => exact HS.out.C (RC HOW0.out)); (case t1 => exact RL HOW0.out); rintro e w8 ⟨rfl, hb_⟩; refine ⟨_, rfl, ?_⟩; have hb := below_of hb_; clear hb_; have hs_ := Aside0.mk (HS.out.go hb); have M_w8 := Aside0.mk (Bl.size (w := w7) hb); clear HS; have HS := hs_; clear hs_; clear hb; clear har_0 har_1 har_2 har_3 har_4 har_5 hfar hxr_0 hxr_1 hxr_2 hxr_3 hxr_4 hxr_5 hfxr; obtain ⟨har_0, har_1, har_2, har_3, har_4, har_5, hfar⟩ := boxed6 BKar.out (HS.out.at_ (W := w8)); obtain ⟨hxr_0, hxr_1, hxr_2, hxr_3, hxr_4, hxr_5, hfxr⟩ := boxed6 BKxr.out (HS.out.at_ (W := w8)); have Q8 := trivial))
  refine start_ (n := 5) (S := fun w' => w'.cell? ⟨gar, 0, none⟩ = some (.string r_0) ∧ w'.cell? ⟨gar, 1, none⟩ = some (.slice Ar_1 r_1.length cr_1) ∧ w'.cell? ⟨gar, 2, none⟩ = some (.slice Ar_2 r_2.length cr_2) ∧ w'.cell? ⟨gar, 3, none⟩ = some (.int .i64 r_3) ∧ w'.cell? ⟨gar, 4, none⟩ = some (.int .i64 r_4) ∧ w'.cell? ⟨gar, 5, none⟩ = some (.slice Ar_5 r_5.length cr_5) ∧ w'.cell? ⟨gxr, 0, none⟩ = some (.string r_0) ∧ w'.cell? ⟨gxr, 1, none⟩ = some (.slice AXr_r_1 r_1.length cXr_r_1) ∧ w'.cell? ⟨gxr, 2, none⟩ = some (.slice AXr_r_2 r_2.length cXr_r_2) ∧ w'.cell? ⟨gxr, 3, none⟩ = some (.int .i64 r_3) ∧ w'.cell? ⟨gxr, 4, none⟩ = some (.int .i64 r_4) ∧ w'.cell? ⟨gxr, 5, none⟩ = some (.slice AXr_r_5 r_5.length cXr_r_5)) (ds := []) #[false, false, false, false, false] (by kernel_rfl) rfl rfl ⟨har_0, har_1, har_2, har_3, har_4, har_5, hxr_0, hxr_1, hxr_2, hxr_3, hxr_4, hxr_5⟩ (fun hHeld => ?_)
  refine take_ (i := 0) (N := some 61) (v := ?_) (a' := ?_) #[true, false, false, false, false] rfl rfl (by kernel_rfl) (fun _ _ _ h => h) (Or.inl ⟨by rfl, ?_⟩) hHeld ?_ ?_
  rotate_left
  · rintro w' ⟨s0, s1, s2, s3, s4, s5, s6, s7, s8, s9, s10, s11⟩; go_simp; with_reducible rfl
  rotate_left
  · go_simp; rfl
  refine take_ (i := 1) (N := some 62) (v := ?_) (a' := ?_) #[true, true, false, false, false] rfl rfl (by kernel_rfl) (fun _ _ _ h => h) (Or.inl ⟨by rfl, ?_⟩) hHeld ?_ ?_
  rotate_left
  · rintro w' ⟨s0, s1, s2, s3, s4, s5, s6, s7, s8, s9, s10, s11⟩; go_simp; with_reducible rfl
  rotate_left
  · go_simp; rfl
  refine one_ (i := 2) (N := some 63) #[true, true, true, false, false] rfl rfl (by kernel_rfl) (by decide) (fun K hK => ?_)
  refine goes_ Try.func15 (by kernel_rfl) rfl #[.agg #[.string r_0, .slice Ar_1 r_1.length cr_1, .slice Ar_2 r_2.length cr_2, .int .i64 r_3, .int .i64 r_4, .slice Ar_5 r_5.length cr_5]] (by rfl) rfl rfl (by (try simp only [List.map_toArray, List.map_cons, List.map_nil]); first | done | rfl) ?_
  clear hHeld Q8
  (with_reducible refine (laws_toRaga.calls k r_0 _ _ r_1 _ _ r_2 r_3 r_4 _ _ r_5 r_0 r_1 r_2 r_3 r_4 r_5 _ ?s0 ?t0 ?s1 ?t1 ?s2 ?t2 Tr.out).mono ?_)
  (case s0 => exact HS.out.C HRr_1.out)
  (case t0 => exact HCr_1.out)
  (case s1 => exact HS.out.C HRr_2.out)
  (case t1 => exact HCr_2.out)
  (case s2 => exact HS.out.C HRr_5.out)
  (case t2 => exact HCr_5.out)
  rintro e w9 ⟨v0, v1, v2, rfl, ho0, ho1, ho2, hb⟩
  refine ⟨_, rfl, ?_⟩
  obtain ⟨AUr_r_1, cUr_r_1, ev⟩ := Kd.R_slice ho0
  subst ev
  have HOUr_r_1 := Aside0.mk (Kd.R_lower ho0 (below_size (Bl.out (w := w8))))
  clear ho0
  obtain ⟨AUr_r_2, cUr_r_2, ev⟩ := Kd.R_slice ho1
  subst ev
  have HOUr_r_2 := Aside0.mk (Kd.R_lower ho1 (below_size (Bl.out (w := w8))))
  clear ho1
  obtain ⟨AUr_r_5, cUr_r_5, ev⟩ := Kd.S_slice ho2
  subst ev
  have HOUr_r_5 := Aside0.mk (Kd.S_lower ho2 (below_size (Bl.out (w := w8))))
  clear ho2
  have hs_ := Aside0.mk (HS.out.go hb)
  have M_w9 := Aside0.mk (Bl.size (w := w8) hb)
  clear HS
  have HS := hs_
  clear hs_
  clear hb
  clear har_0 har_1 har_2 har_3 har_4 har_5 hfar hxr_0 hxr_1 hxr_2 hxr_3 hxr_4 hxr_5 hfxr
  obtain ⟨har_0, har_1, har_2, har_3, har_4, har_5, hfar⟩ := boxed6 BKar.out (HS.out.at_ (W := w9))
  obtain ⟨hxr_0, hxr_1, hxr_2, hxr_3, hxr_4, hxr_5, hfxr⟩ := boxed6 BKxr.out (HS.out.at_ (W := w9))
  have Q9 := trivial
  refine hK.out _ _ ⟨har_0, har_1, har_2, har_3, har_4, har_5, hxr_0, hxr_1, hxr_2, hxr_3, hxr_4, hxr_5⟩ (fun hHeld => ?_)
  clear hK K
  refine norm_ (a' := ?_) ?_ ?_
  rotate_left
  · show Act.put _ (some 63) _ = _; go_simp; rfl
  refine one_ (i := 3) (N := some 64) #[true, true, true, true, false] rfl rfl (by kernel_rfl) (by decide) (fun K hK => ?_)
  refine goes_ Try.func18 (by kernel_rfl) rfl #[.agg #[.string r_0, .slice AXr_r_1 r_1.length cXr_r_1, .slice AXr_r_2 r_2.length cXr_r_2, .int .i64 r_3, .int .i64 r_4, .slice AXr_r_5 r_5.length cXr_r_5], .agg #[.string r_0, .slice AUr_r_1 r_1.length cUr_r_1, .slice AUr_r_2 r_2.length cUr_r_2, .int .i64 r_3, .int .i64 r_4, .slice AUr_r_5 r_5.length cUr_r_5]] (by rfl) rfl rfl (by (try simp only [List.map_toArray, List.map_cons, List.map_nil]); first | done | rfl) ?_
  clear hHeld Q9
  (with_reducible refine (laws_eqRaga.calls k r_0 _ _ r_1 _ _ r_2 r_3 r_4 _ _ r_5 r_0 _ _ r_1 _ _ r_2 r_3 r_4 _ _ r_5 true _ ?s0 ?t0 ?s1 ?t1 ?s2 ?t2 ?s3 ?t3 ?s4 ?t4 ?s5 ?t5 Er.out).mono ?_)
  (case s0 => exact HS.out.C (RC HOXr_r_1.out))
  (case t0 => exact RL HOXr_r_1.out)
  (case s1 => exact HS.out.C (RC HOXr_r_2.out))
  (case t1 => exact RL HOXr_r_2.out)
  (case s2 => exact HS.out.C (SC HOXr_r_5.out))
  (case t2 => exact SL HOXr_r_5.out)
  (case s3 => exact HS.out.C (RC HOUr_r_1.out))
  (case t3 => exact RL HOUr_r_1.out)
  (case s4 => exact HS.out.C (RC HOUr_r_2.out))
  (case t4 => exact RL HOUr_r_2.out)
  (case s5 => exact HS.out.C (SC HOUr_r_5.out))
  (case t5 => exact SL HOUr_r_5.out)
  rintro e w10 ⟨rfl, hb_⟩
  refine ⟨_, rfl, ?_⟩
  have hb := below_of hb_
  clear hb_
  have hs_ := Aside0.mk (HS.out.go hb)
  have M_w10 := Aside0.mk (Bl.size (w := w9) hb)
  clear HS
  have HS := hs_
  clear hs_
  clear hb
  clear har_0 har_1 har_2 har_3 har_4 har_5 hfar hxr_0 hxr_1 hxr_2 hxr_3 hxr_4 hxr_5 hfxr
  obtain ⟨har_0, har_1, har_2, har_3, har_4, har_5, hfar⟩ := boxed6 BKar.out (HS.out.at_ (W := w10))
  obtain ⟨hxr_0, hxr_1, hxr_2, hxr_3, hxr_4, hxr_5, hfxr⟩ := boxed6 BKxr.out (HS.out.at_ (W := w10))
  have Q10 := trivial
  refine hK.out _ _ ⟨har_0, har_1, har_2, har_3, har_4, har_5, hxr_0, hxr_1, hxr_2, hxr_3, hxr_4, hxr_5⟩ (fun hHeld => ?_)
  clear hK K
  refine norm_ (a' := ?_) ?_ ?_
  rotate_left
  · show Act.put _ (some 64) _ = _; go_simp; rfl
  refine pure_ (i := 4) (N := some 65) (v := ?_) (a' := ?_) #[true, true, true, true, true] rfl rfl (by kernel_rfl) (fun _ _ _ h => h) (Or.inl ⟨by rfl, ?_⟩) ?_ ?_
  rotate_left
  · intro w'; go_simp; with_reducible rfl
  rotate_left
  · go_simp; rfl
  refine done_ (by kernel_rfl) ?_
  clear hHeld
  go_wp2_with (first
    | ((clear Q10); (with_reducible refine gate_callee (f := 19) rfl ?_); refine goesL_ (some _) rfl rfl Try.func19 (by kernel_rfl) rfl #[.agg #[.string r_0, .slice AXr_r_1 r_1.length cXr_r_1, .slice AXr_r_2 r_2.length cXr_r_2, .int .i64 r_3, .int .i64 r_4, .slice AXr_r_5 r_5.length cXr_r_5], .int .i64 1] rfl (by (try simp only [List.map_toArray, List.map_cons, List.map_nil]); first | done | rfl) ?_; (with_reducible refine (laws_markRaga.calls k (fun k_ => w4.heap.size ≤ k_ ∧ k_ < w5.heap.size) r_0 (.slice AXr_r_1 r_1.length cXr_r_1) (.slice AXr_r_2 r_2.length cXr_r_2) (.slice AXr_r_5 r_5.length cXr_r_5) r_1 r_2 r_3 r_4 r_5 1 vr w _ ?s0 ?r0 ?r1 ?r2 Kr.out).mono ?_); (case s0 => exact HS.out.at_); (case r0 => exact Kd.R_lower (range_R HOXr_r_1.out HS.out.at_ w4.heap.size (Nat.le_refl _)) (Nat.le_trans M_w1.out (Nat.le_trans M_w2.out (Nat.le_trans M_w3.out (M_w4.out))))); (case r1 => exact Kd.R_lower (range_R HOXr_r_2.out HS.out.at_ w4.heap.size (Nat.le_refl _)) (Nat.le_trans M_w1.out (Nat.le_trans M_w2.out (Nat.le_trans M_w3.out (M_w4.out))))); (case r2 => exact Kd.S_lower (range_S HOXr_r_5.out HS.out.at_ w4.heap.size (Nat.le_refl _)) (Nat.le_trans M_w1.out (Nat.le_trans M_w2.out (Nat.le_trans M_w3.out (M_w4.out))))); rintro e w11 ⟨rfl, hb, hkp⟩; refine ⟨_, rfl, ?_⟩; have nG0 := Aside0.mk (keep_R (range_R HOG0.out HS.out.at_ w5.heap.size (Nat.le_refl _)) hkp (.inr (Nat.le_refl _))); have nW0 := Aside0.mk (keep_R (range_R HOW0.out HS.out.at_ w3.heap.size (Nat.le_refl _)) hkp (.inl (Nat.le_refl _))); have nbar := Aside0.mk (keep_blk (blk_below BKar.out HS.out.at_) hkp (.inl (Nat.lt_of_lt_of_le Gar.out.2 (Nat.le_trans M_w2.out (Nat.le_trans M_w3.out (M_w4.out)))))); have M_w11 := Aside0.mk (Nat.le_trans (below_size (Bl.out (w := w10))) hkp.1); clear HS hkp HOG0 HOW0 BKar; have HS := Aside0.mk (Since.two hb); clear hb; have HOG0 := nG0; clear nG0; have HOW0 := nW0; clear nW0; have BKar := nbar; clear nbar; clear har_0 har_1 har_2 har_3 har_4 har_5 hfar hxr_0 hxr_1 hxr_2 hxr_3 hxr_4 hxr_5 hfxr; obtain ⟨har_0, har_1, har_2, har_3, har_4, har_5, hfar⟩ := boxed6 BKar.out (HS.out.at_ (W := w11)); have Q11 := trivial)
    | ((clear Q11); go_at_call 24; refine calls_of_args (args' := #[.slice AG0 R0.length cG0, .slice AW0 R0.length cW0]) (by (try simp only [List.map_toArray, List.map_cons, List.map_nil]); first | done | rfl) ?_; (with_reducible refine (laws_eqNoteS.calls k _ _ R0 _ _ R0 true _ ?s0 ?t0 ?s1 ?t1 ER0.out).mono ?_); (case s0 => exact HS.out.C (RC HOG0.out)); (case t0 => exact RL HOG0.out); (case s1 => exact HS.out.C (RC HOW0.out)); (case t1 => exact RL HOW0.out); rintro e w12 ⟨rfl, hb_⟩; have hb := below_of hb_; clear hb_; have hs_ := Aside0.mk (HS.out.go hb); have M_w12 := Aside0.mk (Bl.size (w := w11) hb); clear HS; have HS := hs_; clear hs_; clear hb; clear har_0 har_1 har_2 har_3 har_4 har_5 hfar; obtain ⟨har_0, har_1, har_2, har_3, har_4, har_5, hfar⟩ := boxed6 BKar.out (HS.out.at_ (W := w12)); have Q12 := trivial)
    | ((clear Q12); (with_reducible refine gate_callee (f := 25) rfl ?_); refine goesL_ (some _) rfl rfl Try.func25 (by kernel_rfl) rfl #[.slice AG0 R0.length cG0, .int .i64 1] rfl (by (try simp only [List.map_toArray, List.map_cons, List.map_nil]); first | done | rfl) ?_; (with_reducible refine (laws_markNoteS.calls k (fun k_ => w5.heap.size ≤ k_ ∧ k_ < w7.heap.size) (.slice AG0 R0.length cG0) R0 1 m0 N0 w _ ?s0 ?r0 KR0.out).mono ?_); (case s0 => exact HS.out.at_); (case r0 => exact Kd.R_lower (Kd.R_mono (Kd.R_below HOG0.out HS.out.at_) (fun _ h_ => h_.1)) (Nat.le_trans M_w1.out (Nat.le_trans M_w2.out (Nat.le_trans M_w3.out (Nat.le_trans M_w4.out (M_w5.out)))))); rintro e w13 ⟨rfl, hy_, hb, hkp⟩; refine ⟨_, rfl, ?_⟩; have HL0 := Aside0.mk (Kd.R_reads' hy_).1; have HY0 := Aside0.mk hy_; clear hy_; have nW0 := Aside0.mk (keep_R (Kd.R_below HOW0.out HS.out.at_) hkp (.inl (M_w5.out))); have nbar := Aside0.mk (keep_blk (blk_below BKar.out HS.out.at_) hkp (.inl (Nat.lt_of_lt_of_le Gar.out.2 (Nat.le_trans M_w2.out (Nat.le_trans M_w3.out (Nat.le_trans M_w4.out (M_w5.out))))))); have M_w13 := Aside0.mk (Nat.le_trans (below_size (Bl.out (w := w12))) hkp.1); clear HS hkp HOW0 BKar; have HS := Aside0.mk (Since.two hb); clear hb; have HOW0 := nW0; clear nW0; have BKar := nbar; clear nbar; clear har_0 har_1 har_2 har_3 har_4 har_5 hfar; obtain ⟨har_0, har_1, har_2, har_3, har_4, har_5, hfar⟩ := boxed6 BKar.out (HS.out.at_ (W := w13)); have Q13 := trivial)
    | ((clear Q13); (with_reducible refine gate_callee (f := 26) rfl ?_); refine goesL_ (some _) rfl rfl Try.func26 (by kernel_rfl) rfl #[.slice AG0 N0.length cG0, .int .i64 1] rfl (by (try simp only [List.map_toArray, List.map_cons, List.map_nil]); first | done | (rw [show N0.length = R0.length from HL0.out.symm] <;> rfl) | rfl) ?_; (with_reducible refine (laws_heldNoteS.calls k _ _ N0 1 m0 _ ?s0 ?t0 HR0.out).mono ?_); (case s0 => exact HS.out.C (RC HY0.out)); (case t0 => exact (HL0.out ▸ RL HY0.out)); rintro e w14 ⟨rfl, hb_⟩; refine ⟨_, rfl, ?_⟩; have hb := below_of hb_; clear hb_; have hs_ := Aside0.mk (HS.out.go hb); have M_w14 := Aside0.mk (Bl.size (w := w13) hb); clear HS; have HS := hs_; clear hs_; clear hb; clear har_0 har_1 har_2 har_3 har_4 har_5 hfar; obtain ⟨har_0, har_1, har_2, har_3, har_4, har_5, hfar⟩ := boxed6 BKar.out (HS.out.at_ (W := w14)); have Q14 := trivial)
    | ((clear Q14); (with_reducible refine gate_callee (f := 15) rfl ?_); refine goesL_ (some _) rfl rfl Try.func15 (by kernel_rfl) rfl #[.agg #[.string r_0, .slice Ar_1 r_1.length cr_1, .slice Ar_2 r_2.length cr_2, .int .i64 r_3, .int .i64 r_4, .slice Ar_5 r_5.length cr_5]] rfl (by (try simp only [List.map_toArray, List.map_cons, List.map_nil]); first | done | rfl) ?_; (with_reducible refine (laws_toRaga.calls k r_0 _ _ r_1 _ _ r_2 r_3 r_4 _ _ r_5 r_0 r_1 r_2 r_3 r_4 r_5 _ ?s0 ?t0 ?s1 ?t1 ?s2 ?t2 Tr.out).mono ?_); (case s0 => exact HS.out.C HRr_1.out); (case t0 => exact HCr_1.out); (case s1 => exact HS.out.C HRr_2.out); (case t1 => exact HCr_2.out); (case s2 => exact HS.out.C HRr_5.out); (case t2 => exact HCr_5.out); rintro e w15 ⟨v0, v1, v2, rfl, ho0, ho1, ho2, hb⟩; refine ⟨_, rfl, ?_⟩; obtain ⟨AVr_r_1, cVr_r_1, ev⟩ := Kd.R_slice ho0; subst ev; have HOVr_r_1 := Aside0.mk (Kd.R_lower ho0 (below_size (Bl.out (w := w14)))); clear ho0; obtain ⟨AVr_r_2, cVr_r_2, ev⟩ := Kd.R_slice ho1; subst ev; have HOVr_r_2 := Aside0.mk (Kd.R_lower ho1 (below_size (Bl.out (w := w14)))); clear ho1; obtain ⟨AVr_r_5, cVr_r_5, ev⟩ := Kd.S_slice ho2; subst ev; have HOVr_r_5 := Aside0.mk (Kd.S_lower ho2 (below_size (Bl.out (w := w14)))); clear ho2; have hs_ := Aside0.mk (HS.out.go hb); have M_w15 := Aside0.mk (Bl.size (w := w14) hb); clear HS; have HS := hs_; clear hs_; clear hb; clear har_0 har_1 har_2 har_3 har_4 har_5 hfar; obtain ⟨har_0, har_1, har_2, har_3, har_4, har_5, hfar⟩ := boxed6 BKar.out (HS.out.at_ (W := w15)); have Q15 := trivial)
    | ((clear Q15); (with_reducible refine gate_callee (f := 23) rfl ?_); refine goesL_ (some _) rfl rfl Try.func23 (by kernel_rfl) rfl #[.agg #[.string r_0, .slice AVr_r_1 r_1.length cVr_r_1, .slice AVr_r_2 r_2.length cVr_r_2, .int .i64 r_3, .int .i64 r_4, .slice AVr_r_5 r_5.length cVr_r_5], .int .i64 sd, .int .i64 st, .int .i64 n, .int .i64 lo, .int .i64 hi] rfl (by (try simp only [List.map_toArray, List.map_cons, List.map_nil]); first | done | rfl) ?_; (with_reducible refine (impl_GrowMelody.calls k r_0 _ _ r_1 _ _ r_2 r_3 r_4 _ _ r_5 sd st n lo hi R0 R1 _ ?s0 ?t0 ?s1 ?t1 ?s2 ?t2 I.out).mono ?_); (case s0 => exact HS.out.C (RC HOVr_r_1.out)); (case t0 => exact RL HOVr_r_1.out); (case s1 => exact HS.out.C (RC HOVr_r_2.out)); (case t1 => exact RL HOVr_r_2.out); (case s2 => exact HS.out.C (SC HOVr_r_5.out)); (case t2 => exact SL HOVr_r_5.out); rintro e w16 ⟨v0, rfl, ho0, hb⟩; refine ⟨_, rfl, ?_⟩; obtain ⟨AH0, cH0, ev⟩ := Kd.R_slice ho0; subst ev; have HOH0 := Aside0.mk (Kd.R_lower ho0 (below_size (Bl.out (w := w15)))); clear ho0; have hs_ := Aside0.mk (HS.out.go hb); have M_w16 := Aside0.mk (Bl.size (w := w15) hb); clear HS; have HS := hs_; clear hs_; clear hb; clear har_0 har_1 har_2 har_3 har_4 har_5 hfar; obtain ⟨har_0, har_1, har_2, har_3, har_4, har_5, hfar⟩ := boxed6 BKar.out (HS.out.at_ (W := w16)); have Q16 := trivial)
    | ((clear Q16); (with_reducible refine gate_callee (f := 24) rfl ?_); refine goesL_ (some _) rfl rfl Try.func24 (by kernel_rfl) rfl #[.slice AH0 R0.length cH0, .slice AW0 R0.length cW0] rfl (by (try simp only [List.map_toArray, List.map_cons, List.map_nil]); first | done | rfl) ?_; (with_reducible refine (laws_eqNoteS.calls k _ _ R0 _ _ R0 true _ ?s0 ?t0 ?s1 ?t1 ER0.out).mono ?_); (case s0 => exact HS.out.C (RC HOH0.out)); (case t0 => exact RL HOH0.out); (case s1 => exact HS.out.C (RC HOW0.out)); (case t1 => exact RL HOW0.out); rintro e w17 ⟨rfl, hb_⟩; refine ⟨_, rfl, ?_⟩; have hb := below_of hb_; clear hb_; have hs_ := Aside0.mk (HS.out.go hb); have M_w17 := Aside0.mk (Bl.size (w := w16) hb); clear HS; have HS := hs_; clear hs_; clear hb; clear har_0 har_1 har_2 har_3 har_4 har_5 hfar; obtain ⟨har_0, har_1, har_2, har_3, har_4, har_5, hfar⟩ := boxed6 BKar.out (HS.out.at_ (W := w17)); have Q17 := trivial)
    | ((clear Q17); (with_reducible refine gate_callee (f := 26) rfl ?_); refine goesL_ (some _) rfl rfl Try.func26 (by kernel_rfl) rfl #[.slice AG0 N0.length cG0, .int .i64 1] rfl (by (try simp only [List.map_toArray, List.map_cons, List.map_nil]); first | done | (rw [show N0.length = R0.length from HL0.out.symm] <;> rfl) | rfl) ?_; (with_reducible refine (laws_heldNoteS.calls k _ _ N0 1 m0 _ ?s0 ?t0 HR0.out).mono ?_); (case s0 => exact HS.out.C (RC HY0.out)); (case t0 => exact (HL0.out ▸ RL HY0.out)); rintro e w18 ⟨rfl, hb_⟩; refine ⟨_, rfl, ?_⟩; have hb := below_of hb_; clear hb_; have hs_ := Aside0.mk (HS.out.go hb); have M_w18 := Aside0.mk (Bl.size (w := w17) hb); clear HS; have HS := hs_; clear hs_; clear hb; clear har_0 har_1 har_2 har_3 har_4 har_5 hfar; obtain ⟨har_0, har_1, har_2, har_3, har_4, har_5, hfar⟩ := boxed6 BKar.out (HS.out.at_ (W := w18)); have Q18 := trivial))
  go_ret
  exact ⟨by first | rfl | (simp; done) | (simp [*]; done), HS.out.at_⟩

end Go.Proofs.Ytinlejhffokbaaa.P
end

section
namespace Go.Proofs.Ytinlejhffokbaaa.Pure
open Go.RowKit Go.Proofs.Ytinlejhffokbaaa.P Go.Proofs.YtinlejhffokbaaaW.PrintWords Go.Proofs.YtinlejhffokbaaaW.PrintLast Go.Proofs.YtinlejhffokbaaaW.PrintMore
set_option linter.unusedVariables false
set_option linter.unusedSimpArgs false

theorem bothMelody_l0 (s : ByteArray) (u d : List Int) (st wk : Int) (f : List (List Int)) (lo hi : Int) (h1 : -12 ≤ lo) (h2 : lo ≤ hi) (h3 : hi ≤ 23) (hu : u.length ≤ 1048576) (hd : d.length ≤ 1048576) (hf : f.length ≤ 8) (hp : ∀ j, j < f.length → (rd_L1 f j).length = 2) :
    ∀ (m : Nat) (left sd : Int) (ps : List Int) (out : List S90), left ≤ m → 1 ≤ left → left ≤ 48 → Grown lo hi sd ps → ps.length + m ≤ 500 → out.length + m ≤ 1000 → ∃ r : List S90 × Int, r.1.length ≤ 1000 ∧ Ev (fun k => spec_GrowMelody.l0 k sd lo hi ps out left s u d st wk f) r ∧ Ev (fun k => impl_GrowMelody.l0 k left lo hi out (lastM ps) s u d st wk f sd) r := by
  intro m
  induction m with
  | zero => intro left sd ps out e1 e2 _ _ _ _; omega
  | succ m ih =>
    intro left sd ps out hm hl0 hl1 hg hps hout
    have ⟨g1, g2, g3, g4, g5⟩ := hg
    have hq := pickM_bound sd (min 4 left) (by omega)
    have hn := nextM_bound sd
    have eM : impl_picker_pick.f sd (mn left 4) = some (pickM sd (min 4 left), nextM sd) := by
      rw [mn_eq, show min left 4 = min 4 left by omega]
      exact (pick_eq _ _).trans (spec_l13Pick_eq _ _ g4 g5 (by omega) (by omega))
    have eS := spec_l13Pick_eq sd (min 4 left) g4 g5 (by omega) (by omega)
    have e1 : wrap64 (pickM sd (min 4 left) + 1) = pickM sd (min 4 left) + 1 := w64 (by omega) (by omega)
    have e2 : wrap64 (left - (pickM sd (min 4 left) + 1)) = left - (pickM sd (min 4 left) + 1) := w64 (by omega) (by omega)
    have e3 : wrap64 ((ps.length : Int) - 1) = (ps.length : Int) - 1 := w64 (by omega) (by omega)
    by_cases c : left - (pickM sd (min 4 left) + 1) = 0
    · refine ⟨(out ++ [⟨lastM ps, pickM sd (min 4 left) + 1⟩], 0), by simp; omega, Ev.succ ?_, Ev.succ ?_⟩
      · simp only [spec_GrowMelody.l0]
        refine Ev.ite_pos (by omega) (Ev.bindc (spec_l00Min_eq _ _) (Ev.bindc eS ?_))
        simp only [e1, e2, e3]
        exact Ev.ite_pos (by omega) (Ev.ite_pos (by omega) (Ev.ite_pos (by omega) (Ev.bindc rfl (Ev.ite_pos c (Ev.now _)))))
      · simp only [impl_GrowMelody.l0]
        refine Ev.ite_pos (by omega) (Ev.bindc eM ?_)
        simp only [e1, e2]
        exact Ev.ite_pos (by omega) (Ev.bindc rfl (Ev.ite_pos c (Ev.now _)))
    · have hg' : Grown lo hi (nextM sd) ps := ⟨g1, g2, g3, hn.1, hn.2⟩
      have gS := spec_l13Grow_ev s u d st wk f lo hi 1 (nextM sd) ps h1 h2 h3 (by omega) hu hd hf hp hg' (by simp; omega)
      have gI := impl_picker_grow_ev s u d st wk f (lastM ps) lo hi (nextM sd) (by omega) h1 h2 h3 hu hd hf hp hn.1 hn.2
      have hS : ∀ r, Ev (fun k => (spec_l13Grow.f k s u d st wk f (nextM sd) ps 1 lo hi).bind fun bt351 => (if bt351.2.2 = true then (spec_GrowMelody.l0 k bt351.2.1 lo hi bt351.1 (out ++ [⟨lastM ps, pickM sd (min 4 left) + 1⟩]) (left - (pickM sd (min 4 left) + 1)) s u d st wk f) else (some (([] : List S90), 3)))) r → Ev (fun k => spec_GrowMelody.l0 k sd lo hi ps out left s u d st wk f) r := by
        intro r hr
        refine Ev.succ ?_
        simp only [spec_GrowMelody.l0]
        refine Ev.ite_pos (by omega) (Ev.bindc (spec_l00Min_eq _ _) (Ev.bindc eS ?_))
        simp only [e1, e2, e3]
        exact Ev.ite_pos (by omega) (Ev.ite_pos (by omega) (Ev.ite_pos (by omega) (Ev.bindc rfl (Ev.ite_neg c hr))))
      have hI : ∀ r, Ev (fun k => (impl_picker_grow.f k (nextM sd) s u d st wk f (lastM ps) lo hi).bind fun bt370 => (if bt370.2.1 = true then (impl_GrowMelody.l0 k (left - (pickM sd (min 4 left) + 1)) lo hi (out ++ [⟨lastM ps, pickM sd (min 4 left) + 1⟩]) bt370.1 s u d st wk f bt370.2.2) else (some (([] : List S90), 3)))) r → Ev (fun k => impl_GrowMelody.l0 k left lo hi out (lastM ps) s u d st wk f sd) r := by
        intro r hr
        refine Ev.succ ?_
        simp only [impl_GrowMelody.l0]
        refine Ev.ite_pos (by omega) (Ev.bindc eM ?_)
        simp only [e1, e2]
        exact Ev.ite_pos (by omega) (Ev.bindc rfl (Ev.ite_neg c hr))
      by_cases c2 : (stepsM u d f (lastM ps) lo (hi + 1 - lo).toNat).length = 0
      · refine ⟨([], 3), by simp, hS _ (Ev.bind gS ?_), hI _ (Ev.bind gI ?_)⟩
        · simp only [show (1 : Int).toNat = 1 from rfl, growM, if_pos c2, growS]
          exact Ev.ite_neg (by simp) (Ev.now _)
        · simp only [grow1, if_pos c2]
          exact Ev.ite_neg (by simp) (Ev.now _)
      · have hstep := growM_step hg' h2 c2 (by omega)
        obtain ⟨r, hr, eA, eB⟩ := ih (left - (pickM sd (min 4 left) + 1)) (nextM (nextM sd)) _ (out ++ [⟨lastM ps, pickM sd (min 4 left) + 1⟩]) (by omega) (by omega) (by omega) hstep (by simp; omega) (by simp; omega)
        rw [lastM_snoc] at eB
        refine ⟨r, hr, hS _ (Ev.bind gS ?_), hI _ (Ev.bind gI ?_)⟩
        · simp only [show (1 : Int).toNat = 1 from rfl, growM, if_neg c2, growS]
          exact Ev.ite_pos (by simp) eA
        · simp only [grow1, if_neg c2]
          exact Ev.ite_pos (by simp) eB
theorem bothGrowMelody (s0 : ByteArray) (u0 d0 : List Int) (st0 wk0 : Int) (f0 : List (List Int)) (sd a n lo hi : Int) (h0 : Fits s0 u0 d0 f0) : ∃ (r : List S90) (c : Int), r.length ≤ 1000 ∧ Ev (fun k => spec_GrowMelody.f k s0 u0 d0 st0 wk0 f0 sd a n lo hi) (r, c) ∧ Ev (fun k => impl_GrowMelody.f k s0 u0 d0 st0 wk0 f0 sd a n lo hi) (r, c) := by
  have a0 := spec_ask_ev s0 u0 d0 st0 wk0 f0 sd a lo hi h0
  have b0 := impl_ValidRaga_ev s0 u0 d0 st0 wk0 f0 h0.1 h0.2.1 h0.2.2.1 h0.2.2.2.1
  have jt : Ev (fun k => impl_GrowMelody.j0 k sd a n lo hi true s0 u0 d0 st0 wk0 f0) (([] : List S90), 2) := by
    refine Ev.succ ?_
    simp only [impl_GrowMelody.j0]
    exact Ev.ite_pos (by decide) (Ev.now _)
  unfold spec_GrowMelody.f impl_GrowMelody.f
  cases v0 : ragaB s0 u0 d0 st0 wk0 f0 with
  | false =>
    rw [v0, if_neg Bool.false_ne_true] at a0
    exact ⟨[], 1, by simp, Ev.bind a0 (Ev.ite_neg (by decide) (Ev.now _)), Ev.bind b0 (Ev.ite_neg (by rw [v0]; decide) (Ev.now _))⟩
  | true =>
    rw [v0, if_pos rfl] at a0
    obtain ⟨p1, p2, p3, p4⟩ := ragaB_parts v0
    cases c1 : (decide (0 ≤ sd) && decide (sd ≤ 999999)) with
    | false =>
      replace a0 := Ev.cast a0 (show _ = (2 : Int) by rw [c1]; rfl)
      exact ⟨[], 2, by simp, Ev.bind a0 (Ev.ite_neg (by decide) (Ev.now _)), Ev.bind b0 (Ev.ite_pos v0 (Ev.bindc (impl_seedOk_eq sd) (Ev.ite_neg (by rw [c1]; decide) jt)))⟩
    | true =>
      cases c2 : (inP lo && inB hi lo 23) with
      | false =>
        replace a0 := Ev.cast a0 (show _ = (2 : Int) by rw [c1, c2]; rfl)
        exact ⟨[], 2, by simp, Ev.bind a0 (Ev.ite_neg (by decide) (Ev.now _)), Ev.bind b0 (Ev.ite_pos v0 (Ev.bindc (impl_seedOk_eq sd) (Ev.ite_pos c1 (Ev.bindc (impl_rangeOk_eq lo hi) (Ev.ite_neg (by rw [c2]; decide) jt)))))⟩
      | true =>
        cases c3 : inB a lo hi with
        | false =>
          replace a0 := Ev.cast a0 (show _ = (2 : Int) by rw [c1, c2, c3]; rfl)
          exact ⟨[], 2, by simp, Ev.bind a0 (Ev.ite_neg (by decide) (Ev.now _)), Ev.bind b0 (Ev.ite_pos v0 (Ev.bindc (impl_seedOk_eq sd) (Ev.ite_pos c1 (Ev.bindc (impl_rangeOk_eq lo hi) (Ev.ite_pos c2 (Ev.bindc (impl_within_eq a lo hi) (Ev.ite_neg (by rw [show (decide (lo ≤ a) && decide (a ≤ hi)) = false from c3]; decide) jt)))))))⟩
        | true =>
          replace a0 := Ev.cast a0 (show _ = (0 : Int) by rw [c1, c2, c3]; rfl)
          have hi1 : ∀ t : Bool, ∀ r, Ev (fun k => impl_GrowMelody.j0 k sd a n lo hi (!t) s0 u0 d0 st0 wk0 f0) r → (decide (1 ≤ n) && decide (n ≤ 48)) = t → Ev (fun k => (impl_ValidRaga.f k s0 u0 d0 st0 wk0 f0).bind fun t312 => (if t312 = true then ((impl_seedOk.f sd).bind fun t313 => (if t313 = true then ((impl_rangeOk.f lo hi).bind fun t314 => (if t314 = true then ((impl_within.f a lo hi).bind fun t315 => (if t315 = true then ((impl_within.f n 1 48).bind fun t316 => (impl_GrowMelody.j0 k sd a n lo hi (!t316) s0 u0 d0 st0 wk0 f0)) else (impl_GrowMelody.j0 k sd a n lo hi true s0 u0 d0 st0 wk0 f0))) else (impl_GrowMelody.j0 k sd a n lo hi true s0 u0 d0 st0 wk0 f0))) else (impl_GrowMelody.j0 k sd a n lo hi true s0 u0 d0 st0 wk0 f0))) else (some (([] : List S90), 1)))) r := fun t r hr ht => Ev.bind b0 (Ev.ite_pos v0 (Ev.bindc (impl_seedOk_eq sd) (Ev.ite_pos c1 (Ev.bindc (impl_rangeOk_eq lo hi) (Ev.ite_pos c2 (Ev.bindc (impl_within_eq a lo hi) (Ev.ite_pos c3 (Ev.bindc (impl_within_eq n 1 48) (by rw [ht]; exact hr)))))))))
          have q1 : -12 ≤ lo ∧ lo ≤ hi ∧ hi ≤ 23 := by simp [inP, inB] at c2; omega
          have q2 : lo ≤ a ∧ a ≤ hi := by simpa [inB] using c3
          have q3 : 0 ≤ sd ∧ sd ≤ 999999 := by simpa using c1
          cases c4 : (decide (1 ≤ n) && decide (n ≤ 48)) with
          | false =>
            exact ⟨[], 2, by simp, Ev.bind a0 (Ev.ite_pos rfl (Ev.bindc (spec_l00In_eq n 1 48) (Ev.ite_neg (by rw [c4]; decide) (Ev.now _)))), hi1 false _ jt c4⟩
          | true =>
            have q4 : 1 ≤ n ∧ n ≤ 48 := by simpa using c4
            have hg : Grown lo hi sd [a] := ⟨by simp, by simp, by simp [lastM, rd]; omega, q3.1, q3.2⟩
            obtain ⟨⟨r, c⟩, hr, eS, eI⟩ := bothMelody_l0 s0 u0 d0 st0 wk0 f0 lo hi q1.1 q1.2.1 q1.2.2 h0.2.1 h0.2.2.1 p3 p4 48 n sd [a] [] (by omega) q4.1 q4.2 hg (by simp) (by simp)
            rw [show lastM [a] = a by simp [lastM, rd]] at eI
            have hj : ∀ r, Ev (fun k => (impl_Raga_hasTone.f k s0 u0 d0 st0 wk0 f0 (tn a)).bind fun t363 => (if t363 = true then (impl_GrowMelody.l0 k n lo hi ([] : List S90) a s0 u0 d0 st0 wk0 f0 sd) else (some (([] : List S90), 3)))) r → Ev (fun k => impl_GrowMelody.j0 k sd a n lo hi (!true) s0 u0 d0 st0 wk0 f0) r := by
              intro r hr
              refine Ev.succ ?_
              simp only [impl_GrowMelody.j0]
              exact Ev.ite_neg (by decide) (Ev.bindc (show impl_ToneOf.f a = some (tn a) from rfl) hr)
            cases c5 : toneB u0 d0 (tn a) with
            | false =>
              exact ⟨[], 3, by simp, Ev.bind a0 (Ev.ite_pos rfl (Ev.bindc (spec_l00In_eq n 1 48) (Ev.ite_pos c4 (Ev.bindc (show spec_l03Tone.f a = some (tn a) from rfl) (Ev.bind (spec_l05Tone_ev s0 u0 d0 st0 wk0 f0 _ h0.2.1 h0.2.2.1) (Ev.ite_neg (by rw [c5]; decide) (Ev.now _))))))), hi1 true _ (hj _ (Ev.bind (impl_hasTone_ev s0 u0 d0 st0 wk0 f0 _ h0.2.1 h0.2.2.1) (Ev.ite_neg (by rw [c5]; decide) (Ev.now _)))) c4⟩
            | true =>
              exact ⟨r, c, hr, Ev.bind a0 (Ev.ite_pos rfl (Ev.bindc (spec_l00In_eq n 1 48) (Ev.ite_pos c4 (Ev.bindc (show spec_l03Tone.f a = some (tn a) from rfl) (Ev.bind (spec_l05Tone_ev s0 u0 d0 st0 wk0 f0 _ h0.2.1 h0.2.2.1) (Ev.ite_pos c5 eS)))))), hi1 true _ (hj _ (Ev.bind (impl_hasTone_ev s0 u0 d0 st0 wk0 f0 _ h0.2.1 h0.2.2.1) (Ev.ite_pos c5 eI))) c4⟩
theorem FnExactGrowMelody : laws_FnExactGrowMelody.Pure := by
  intro s0 u0 d0 st0 wk0 f0 sd a n lo hi hs0 ⟨hu0, _⟩ ⟨hd0, _⟩ _ _ ⟨hf0, hr0⟩ _ _ _ _ _
  obtain ⟨z, ez, cz⟩ := szRaga_ge s0 u0 d0 st0 wk0 f0 1048576 (by omega) (by omega) hs0 hu0 hd0 hf0 (fun y hy => (hr0 y hy).1)
  rcases cz with cz | ⟨z0, z1, h0⟩
  · obtain ⟨k, hk⟩ := Ev.out ez
    exact ⟨k, z, hk, .inl cz⟩
  · obtain ⟨r, c, lr, es, ei⟩ := bothGrowMelody s0 u0 d0 st0 wk0 f0 sd a n lo hi h0
    obtain ⟨v, v0, em⟩ := markRaga_ev s0 u0 d0 st0 wk0 f0 h0
    obtain ⟨K, hK⟩ := Ev.and ez (Ev.and es (Ev.and ei (Ev.and (toRaga_ev h0 st0 wk0) (Ev.and (eqRaga_self h0 st0 wk0) (Ev.and em (Ev.and (eqNoteS_self r (by omega)) (Ev.and (markNoteS_eq r 1 (by omega) (by omega) (by omega)) (heldNoteS_ev r.length 1 (by omega) (by omega) (by omega)))))))))
    obtain ⟨k1, k2, k3, k4, k5, k6, k7, k8, k9⟩ := hK K (Nat.le_refl _)
    exact ⟨K, z, k1, .inr ⟨by omega, r, c, v, _, _, k2, k3, k4, k5, k6, v0, k7, k8, k9, by omega⟩⟩

end Go.Proofs.Ytinlejhffokbaaa.Pure
end
