/- The pure statement of FnExactGrowStages. No condition. -/
import Derived.Test.YtinlejhffokbaaaGGS1
import Derived.Test.YtinlejhffokbaaaGGS3
import Derived.Test.YtinlejhffokbaaaGGS4
import Derived.Test.YtinlejhffokbaaaGGS5
import Derived.Test.YtinlejhffokbaaaGGS6
import Derived.Test.YtinlejhffokbaaaGGS7
section
namespace Go.Proofs.Ytinlejhffokbaaa.P
open Go.RowKit Go.Proofs.YtinlejhffokbaaaW.PrintWords Go.Proofs.YtinlejhffokbaaaW.PrintLast Go.Proofs.YtinlejhffokbaaaW.PrintMore
attribute [local go_sem] max2_int min2_int max_two min_two max_three min_three max_four min_four   -- for this text's walks alone
set_option linter.unusedVariables false
set_option linter.unusedSimpArgs false

/-! ### laws_FnExactGrowStages: function 6 (given) -/
/-- What the plain side tells: both give the same, and what the laws' helpers say of it. -/
def laws_FnExactGrowStages.Pure : Prop := ∀ (r_0 : ByteArray) (r_1 : List Int) (r_2 : List Int) (r_3 : Int) (r_4 : Int) (r_5 : List (List Int)) (sd : Int) (st : Int) (ea : Int) (rg : List (List Int)), r_0.size ≤ maxLen → (r_1.length ≤ maxLen ∧ ∀ y0 ∈ r_1, (Lit.int .i64 y0).wf = true) → (r_2.length ≤ maxLen ∧ ∀ y0 ∈ r_2, (Lit.int .i64 y0).wf = true) → (Lit.int .i64 r_3).wf = true → (Lit.int .i64 r_4).wf = true → (r_5.length ≤ maxLen ∧ ∀ y0 ∈ r_5, (y0.length ≤ maxLen ∧ ∀ y1 ∈ y0, (Lit.int .i64 y1).wf = true)) → (Lit.int .i64 sd).wf = true → (Lit.int .i64 st).wf = true → (Lit.int .i64 ea).wf = true → (rg.length ≤ maxLen ∧ ∀ y0 ∈ rg, (y0.length ≤ maxLen ∧ ∀ y1 ∈ y0, (Lit.int .i64 y1).wf = true)) → ∃ k : Nat, ∃ zr : Int, laws_szRaga.f k r_0 r_1 r_2 r_3 r_4 r_5 1048576 = some zr ∧ (zr < 0 ∨ (¬ zr < 0 ∧ ∃ zrg : Int, laws_szInt64SS.f k rg zr = some zrg ∧ (zrg < 0 ∨ (¬ zrg < 0 ∧ ∃ (R0 : List Int) (R1 : Int) (vr : Int) (vrg : Int) (Mrg : List (List Int)) (m0 : Int) (N0 : List Int), spec_GrowStages.f k r_0 r_1 r_2 r_3 r_4 r_5 sd st ea rg = some (R0, R1) ∧ impl_GrowStages.f k r_0 r_1 r_2 r_3 r_4 r_5 sd st ea rg = some (R0, R1) ∧ laws_toRaga.f k r_0 r_1 r_2 r_3 r_4 r_5 = some (r_0, r_1, r_2, r_3, r_4, r_5) ∧ laws_eqRaga.f k r_0 r_1 r_2 r_3 r_4 r_5 r_0 r_1 r_2 r_3 r_4 r_5 = some true ∧ laws_toInt64SS.f k rg = some rg ∧ laws_eqInt64SS.f k rg rg = some true ∧ laws_markRaga.f k r_0 r_1 r_2 r_3 r_4 r_5 1 = some vr ∧ laws_markInt64SS.f k rg vr = some (vrg, Mrg) ∧ 0 ≤ vrg ∧ laws_eqInt64S.f k R0 R0 = some true ∧ laws_markInt64S.f k R0 1 = some (m0, N0) ∧ laws_heldInt64S.f k N0 1 = some m0 ∧ 0 ≤ m0))))
set_option maxHeartbeats 16000000 in
set_option maxRecDepth 100000 in
theorem laws_FnExactGrowStages.walk (P : laws_FnExactGrowStages.Pure) (r_0 : ByteArray) (Ar_1 : Option Addr) (cr_1 : Nat) (r_1 : List Int) (Ar_2 : Option Addr) (cr_2 : Nat) (r_2 : List Int) (r_3 : Int) (r_4 : Int) (Ar_5 : Option Addr) (cr_5 : Nat) (r_5 : List (List Int)) (sd : Int) (st : Int) (ea : Int) (Arg : Option Addr) (crg : Nat) (rg : List (List Int)) (w : World) (hrr_1 : Kd.C (Kd.int .i64) w Ar_1 r_1.length r_1) (hcr_1 : r_1.length ≤ cr_1) (hrr_2 : Kd.C (Kd.int .i64) w Ar_2 r_2.length r_2) (hcr_2 : r_2.length ≤ cr_2) (hrr_5 : Kd.C (Kd.slice 2 (Kd.int .i64)) w Ar_5 r_5.length r_5) (hcr_5 : r_5.length ≤ cr_5) (hrrg : Kd.C (Kd.slice 2 (Kd.int .i64)) w Arg rg.length rg) (hcrg : rg.length ≤ crg) (w_r_0 : r_0.size ≤ maxLen) (w_r_1 : (r_1.length ≤ maxLen ∧ ∀ y0 ∈ r_1, (Lit.int .i64 y0).wf = true)) (w_r_2 : (r_2.length ≤ maxLen ∧ ∀ y0 ∈ r_2, (Lit.int .i64 y0).wf = true)) (w_r_3 : (Lit.int .i64 r_3).wf = true) (w_r_4 : (Lit.int .i64 r_4).wf = true) (w_r_5 : (r_5.length ≤ maxLen ∧ ∀ y0 ∈ r_5, (y0.length ≤ maxLen ∧ ∀ y1 ∈ y0, (Lit.int .i64 y1).wf = true))) (w_sd : (Lit.int .i64 sd).wf = true) (w_st : (Lit.int .i64 st).wf = true) (w_ea : (Lit.int .i64 ea).wf = true) (w_rg : (rg.length ≤ maxLen ∧ ∀ y0 ∈ rg, (y0.length ≤ maxLen ∧ ∀ y1 ∈ y0, (Lit.int .i64 y1).wf = true))) :
    Calls Try.prog 6 #[.agg #[.string r_0, .slice Ar_1 r_1.length cr_1, .slice Ar_2 r_2.length cr_2, .int .i64 r_3, .int .i64 r_4, .slice Ar_5 r_5.length cr_5], .int .i64 sd, .int .i64 st, .int .i64 ea, .slice Arg rg.length crg] w fun e w' => e = .returned (.bool true) ∧ Below w.heap.size w w' := by
  obtain ⟨k, HP⟩ := P r_0 r_1 r_2 r_3 r_4 r_5 sd st ea rg w_r_0 w_r_1 w_r_2 w_r_3 w_r_4 w_r_5 w_sd w_st w_ea w_rg
  clear P w_r_0 w_r_1 w_r_2 w_r_3 w_r_4 w_r_5 w_sd w_st w_ea w_rg
  have HRr_1 := Aside0.mk hrr_1
  have HCr_1 := Aside0.mk hcr_1
  clear hrr_1 hcr_1
  have HRr_2 := Aside0.mk hrr_2
  have HCr_2 := Aside0.mk hcr_2
  clear hrr_2 hcr_2
  have HRr_5 := Aside0.mk hrr_5
  have HCr_5 := Aside0.mk hcr_5
  clear hrr_5 hcr_5
  have HRrg := Aside0.mk hrrg
  have HCrg := Aside0.mk hcrg
  clear hrrg hcrg
  have HS := Aside0.mk (Since.start w)
  have hu25 := Try.underlying25
  have hu29 := Try.underlying29
  obtain ⟨zr, z_, HP⟩ := HP
  have Zr := Aside0.mk z_
  clear z_
  rcases HP with h1_ | ⟨h1_, HP⟩
  · have c_zr : decide (zr < 0) = true := decide_eq_true h1_
    clear h1_
    have Q0 := trivial
    go_enter Try.func6, Try.ntmps6
    go_wp2_with (first
      | ((clear Q0); (with_reducible refine gate_dst (N := 5) rfl ?_); refine box_event ?hg (N := 5) ?hd (cs := #[.string r_0, .slice Ar_1 r_1.length cr_1, .slice Ar_2 r_2.length cr_2, .int .i64 r_3, .int .i64 r_4, .slice Ar_5 r_5.length cr_5]) (t := 25) ?hr ?_; (case hd => rfl); (case hg => rfl); (case hr => first | (go_simp; done) | (go_simp; rfl)); intro gar hg w1 hbox hb; have BKar := Aside0.mk hbox; have Gar := Aside0.mk (show w.heap.size ≤ gar ∧ gar < w1.heap.size from ⟨by rw [hg]; exact below_size (Bl.out), blk_lt hbox⟩); clear hbox hg; have hs_ := Aside0.mk (HS.out.go hb); have M_w1 := Aside0.mk (Bl.size (w := w) hb); clear HS; have HS := hs_; clear hs_; clear hb; obtain ⟨har_0, har_1, har_2, har_3, har_4, har_5, hfar⟩ := boxed6 BKar.out (HS.out.at_ (W := w1)); have Q1 := trivial)
      | ((clear Q1); (with_reducible refine gate_callee (f := 13) rfl ?_); refine goesL_ (some _) rfl rfl Try.func13 (by kernel_rfl) rfl #[.agg #[.string r_0, .slice Ar_1 r_1.length cr_1, .slice Ar_2 r_2.length cr_2, .int .i64 r_3, .int .i64 r_4, .slice Ar_5 r_5.length cr_5], .int .i64 1048576] rfl aw_ ?_; (with_reducible refine (laws_szRaga.calls k r_0 _ _ r_1 _ _ r_2 r_3 r_4 _ _ r_5 1048576 zr _ ?s0 ?t0 ?s1 ?t1 ?s2 ?t2 Zr.out).mono ?_); (case s0 => exact HS.out.C HRr_1.out); (case t0 => exact HCr_1.out); (case s1 => exact HS.out.C HRr_2.out); (case t1 => exact HCr_2.out); (case s2 => exact HS.out.C HRr_5.out); (case t2 => exact HCr_5.out); rintro e w2 ⟨rfl, hb_⟩; refine ⟨_, rfl, ?_⟩; have hb := below_of hb_; clear hb_; have hs_ := Aside0.mk (HS.out.go hb); have M_w2 := Aside0.mk (Bl.size (w := w1) hb); clear HS; have HS := hs_; clear hs_; clear hb; clear har_0 har_1 har_2 har_3 har_4 har_5 hfar; obtain ⟨har_0, har_1, har_2, har_3, har_4, har_5, hfar⟩ := boxed6 BKar.out (HS.out.at_ (W := w2)); have Q2 := trivial))
    go_ret
    exact ⟨sv_, HS.out.at_⟩
  have c_zr : decide (zr < 0) = false := decide_eq_false h1_
  clear h1_
  obtain ⟨zrg, z_, HP⟩ := HP
  have Zrg := Aside0.mk z_
  clear z_
  rcases HP with h1_ | ⟨h1_, HP⟩
  · have c_zrg : decide (zrg < 0) = true := decide_eq_true h1_
    clear h1_
    have Q0 := trivial
    go_enter Try.func6, Try.ntmps6
    go_wp2_with (first
      | ((clear Q0); (with_reducible refine gate_dst (N := 5) rfl ?_); refine box_event ?hg (N := 5) ?hd (cs := #[.string r_0, .slice Ar_1 r_1.length cr_1, .slice Ar_2 r_2.length cr_2, .int .i64 r_3, .int .i64 r_4, .slice Ar_5 r_5.length cr_5]) (t := 25) ?hr ?_; (case hd => rfl); (case hg => rfl); (case hr => first | (go_simp; done) | (go_simp; rfl)); intro gar hg w1 hbox hb; have BKar := Aside0.mk hbox; have Gar := Aside0.mk (show w.heap.size ≤ gar ∧ gar < w1.heap.size from ⟨by rw [hg]; exact below_size (Bl.out), blk_lt hbox⟩); clear hbox hg; have hs_ := Aside0.mk (HS.out.go hb); have M_w1 := Aside0.mk (Bl.size (w := w) hb); clear HS; have HS := hs_; clear hs_; clear hb; obtain ⟨har_0, har_1, har_2, har_3, har_4, har_5, hfar⟩ := boxed6 BKar.out (HS.out.at_ (W := w1)); have Q1 := trivial)
      | ((clear Q1); (with_reducible refine gate_callee (f := 13) rfl ?_); refine goesL_ (some _) rfl rfl Try.func13 (by kernel_rfl) rfl #[.agg #[.string r_0, .slice Ar_1 r_1.length cr_1, .slice Ar_2 r_2.length cr_2, .int .i64 r_3, .int .i64 r_4, .slice Ar_5 r_5.length cr_5], .int .i64 1048576] rfl aw_ ?_; (with_reducible refine (laws_szRaga.calls k r_0 _ _ r_1 _ _ r_2 r_3 r_4 _ _ r_5 1048576 zr _ ?s0 ?t0 ?s1 ?t1 ?s2 ?t2 Zr.out).mono ?_); (case s0 => exact HS.out.C HRr_1.out); (case t0 => exact HCr_1.out); (case s1 => exact HS.out.C HRr_2.out); (case t1 => exact HCr_2.out); (case s2 => exact HS.out.C HRr_5.out); (case t2 => exact HCr_5.out); rintro e w2 ⟨rfl, hb_⟩; refine ⟨_, rfl, ?_⟩; have hb := below_of hb_; clear hb_; have hs_ := Aside0.mk (HS.out.go hb); have M_w2 := Aside0.mk (Bl.size (w := w1) hb); clear HS; have HS := hs_; clear hs_; clear hb; clear har_0 har_1 har_2 har_3 har_4 har_5 hfar; obtain ⟨har_0, har_1, har_2, har_3, har_4, har_5, hfar⟩ := boxed6 BKar.out (HS.out.at_ (W := w2)); have Q2 := trivial)
      | ((clear Q2); (with_reducible refine gate_callee (f := 33) rfl ?_); refine goesL_ (some _) rfl rfl Try.func33 (by kernel_rfl) rfl #[.slice Arg rg.length crg, .int .i64 zr] rfl aw_ ?_; (with_reducible refine (laws_szInt64SS.calls k _ _ rg zr zrg _ ?s0 ?t0 Zrg.out).mono ?_); (case s0 => exact HS.out.C HRrg.out); (case t0 => exact HCrg.out); rintro e w3 ⟨rfl, hb_⟩; refine ⟨_, rfl, ?_⟩; have hb := below_of hb_; clear hb_; have hs_ := Aside0.mk (HS.out.go hb); have M_w3 := Aside0.mk (Bl.size (w := w2) hb); clear HS; have HS := hs_; clear hs_; clear hb; clear har_0 har_1 har_2 har_3 har_4 har_5 hfar; obtain ⟨har_0, har_1, har_2, har_3, har_4, har_5, hfar⟩ := boxed6 BKar.out (HS.out.at_ (W := w3)); have Q3 := trivial))
    go_ret
    exact ⟨sv_, HS.out.at_⟩
  have c_zrg : decide (zrg < 0) = false := decide_eq_false h1_
  clear h1_
  obtain ⟨R0, R1, vr, vrg, Mrg, m0, N0, pP, pI, pTr, pEr, pTrg, pErg, pKr, pKrg, pk0, pER0, pKR0, pHR0, pm00⟩ := HP
  have P := Aside0.mk pP
  clear pP
  have I := Aside0.mk pI
  clear pI
  have Tr := Aside0.mk pTr
  clear pTr
  have Er := Aside0.mk pEr
  clear pEr
  have Trg := Aside0.mk pTrg
  clear pTrg
  have Erg := Aside0.mk pErg
  clear pErg
  have Kr := Aside0.mk pKr
  clear pKr
  have Krg := Aside0.mk pKrg
  clear pKrg
  have c_k : decide (vrg < 0) = false := decide_eq_false (by omega)
  clear pk0
  have ER0 := Aside0.mk pER0
  clear pER0
  have KR0 := Aside0.mk pKR0
  clear pKR0
  have HR0 := Aside0.mk pHR0
  clear pHR0
  have c_m00 : decide (m0 < 0) = false := decide_eq_false (by omega)
  clear pm00
  have Q0 := trivial
  go_enter Try.func6, Try.ntmps6
  go_wp2_with (first
    | ((clear Q0); (with_reducible refine gate_dst (N := 5) rfl ?_); refine box_event ?hg (N := 5) ?hd (cs := #[.string r_0, .slice Ar_1 r_1.length cr_1, .slice Ar_2 r_2.length cr_2, .int .i64 r_3, .int .i64 r_4, .slice Ar_5 r_5.length cr_5]) (t := 25) ?hr ?_; (case hd => rfl); (case hg => rfl); (case hr => first | (go_simp; done) | (go_simp; rfl)); intro gar hg w1 hbox hb; have BKar := Aside0.mk hbox; have Gar := Aside0.mk (show w.heap.size ≤ gar ∧ gar < w1.heap.size from ⟨by rw [hg]; exact below_size (Bl.out), blk_lt hbox⟩); clear hbox hg; have hs_ := Aside0.mk (HS.out.go hb); have M_w1 := Aside0.mk (Bl.size (w := w) hb); clear HS; have HS := hs_; clear hs_; clear hb; obtain ⟨har_0, har_1, har_2, har_3, har_4, har_5, hfar⟩ := boxed6 BKar.out (HS.out.at_ (W := w1)); have Q1 := trivial)
    | ((clear Q1); (with_reducible refine gate_callee (f := 13) rfl ?_); refine goesL_ (some _) rfl rfl Try.func13 (by kernel_rfl) rfl #[.agg #[.string r_0, .slice Ar_1 r_1.length cr_1, .slice Ar_2 r_2.length cr_2, .int .i64 r_3, .int .i64 r_4, .slice Ar_5 r_5.length cr_5], .int .i64 1048576] rfl aw_ ?_; (with_reducible refine (laws_szRaga.calls k r_0 _ _ r_1 _ _ r_2 r_3 r_4 _ _ r_5 1048576 zr _ ?s0 ?t0 ?s1 ?t1 ?s2 ?t2 Zr.out).mono ?_); (case s0 => exact HS.out.C HRr_1.out); (case t0 => exact HCr_1.out); (case s1 => exact HS.out.C HRr_2.out); (case t1 => exact HCr_2.out); (case s2 => exact HS.out.C HRr_5.out); (case t2 => exact HCr_5.out); rintro e w2 ⟨rfl, hb_⟩; refine ⟨_, rfl, ?_⟩; have hb := below_of hb_; clear hb_; have hs_ := Aside0.mk (HS.out.go hb); have M_w2 := Aside0.mk (Bl.size (w := w1) hb); clear HS; have HS := hs_; clear hs_; clear hb; clear har_0 har_1 har_2 har_3 har_4 har_5 hfar; obtain ⟨har_0, har_1, har_2, har_3, har_4, har_5, hfar⟩ := boxed6 BKar.out (HS.out.at_ (W := w2)); have Q2 := trivial)
    | ((clear Q2); (with_reducible refine gate_callee (f := 33) rfl ?_); refine goesL_ (some _) rfl rfl Try.func33 (by kernel_rfl) rfl #[.slice Arg rg.length crg, .int .i64 zr] rfl aw_ ?_; (with_reducible refine (laws_szInt64SS.calls k _ _ rg zr zrg _ ?s0 ?t0 Zrg.out).mono ?_); (case s0 => exact HS.out.C HRrg.out); (case t0 => exact HCrg.out); rintro e w3 ⟨rfl, hb_⟩; refine ⟨_, rfl, ?_⟩; have hb := below_of hb_; clear hb_; have hs_ := Aside0.mk (HS.out.go hb); have M_w3 := Aside0.mk (Bl.size (w := w2) hb); clear HS; have HS := hs_; clear hs_; clear hb; clear har_0 har_1 har_2 har_3 har_4 har_5 hfar; obtain ⟨har_0, har_1, har_2, har_3, har_4, har_5, hfar⟩ := boxed6 BKar.out (HS.out.at_ (W := w3)); have Q3 := trivial)
    | ((clear Q3); (with_reducible refine gate_callee (f := 15) rfl ?_); refine goesL_ (some _) rfl rfl Try.func15 (by kernel_rfl) rfl #[.agg #[.string r_0, .slice Ar_1 r_1.length cr_1, .slice Ar_2 r_2.length cr_2, .int .i64 r_3, .int .i64 r_4, .slice Ar_5 r_5.length cr_5]] rfl aw_ ?_; (with_reducible refine (laws_toRaga.calls k r_0 _ _ r_1 _ _ r_2 r_3 r_4 _ _ r_5 r_0 r_1 r_2 r_3 r_4 r_5 _ ?s0 ?t0 ?s1 ?t1 ?s2 ?t2 Tr.out).mono ?_); (case s0 => exact HS.out.C HRr_1.out); (case t0 => exact HCr_1.out); (case s1 => exact HS.out.C HRr_2.out); (case t1 => exact HCr_2.out); (case s2 => exact HS.out.C HRr_5.out); (case t2 => exact HCr_5.out); rintro e w4 ⟨v0, v1, v2, rfl, ho0, ho1, ho2, hb⟩; refine ⟨_, rfl, ?_⟩; obtain ⟨ATr_r_1, cTr_r_1, ev⟩ := Kd.R_slice ho0; subst ev; have HOTr_r_1 := Aside0.mk (Kd.R_lower ho0 (below_size (Bl.out (w := w3)))); clear ho0; obtain ⟨ATr_r_2, cTr_r_2, ev⟩ := Kd.R_slice ho1; subst ev; have HOTr_r_2 := Aside0.mk (Kd.R_lower ho1 (below_size (Bl.out (w := w3)))); clear ho1; obtain ⟨ATr_r_5, cTr_r_5, ev⟩ := Kd.S_slice ho2; subst ev; have HOTr_r_5 := Aside0.mk (Kd.S_lower ho2 (below_size (Bl.out (w := w3)))); clear ho2; have hs_ := Aside0.mk (HS.out.go hb); have M_w4 := Aside0.mk (Bl.size (w := w3) hb); clear HS; have HS := hs_; clear hs_; clear hb; clear har_0 har_1 har_2 har_3 har_4 har_5 hfar; obtain ⟨har_0, har_1, har_2, har_3, har_4, har_5, hfar⟩ := boxed6 BKar.out (HS.out.at_ (W := w4)); have Q4 := trivial)
    | ((clear Q4); (with_reducible refine gate_callee (f := 35) rfl ?_); refine goesL_ (some _) rfl rfl Try.func35 (by kernel_rfl) rfl #[.slice Arg rg.length crg] rfl aw_ ?_; (with_reducible refine (laws_toInt64SS.calls k _ _ rg rg _ ?s0 ?t0 Trg.out).mono ?_); (case s0 => exact HS.out.C HRrg.out); (case t0 => exact HCrg.out); rintro e w5 ⟨v0, rfl, ho0, hb⟩; refine ⟨_, rfl, ?_⟩; obtain ⟨ATrg, cTrg, ev⟩ := Kd.S_slice ho0; subst ev; have HOTrg := Aside0.mk (Kd.S_lower ho0 (below_size (Bl.out (w := w4)))); clear ho0; have hs_ := Aside0.mk (HS.out.go hb); have M_w5 := Aside0.mk (Bl.size (w := w4) hb); clear HS; have HS := hs_; clear hs_; clear hb; clear har_0 har_1 har_2 har_3 har_4 har_5 hfar; obtain ⟨har_0, har_1, har_2, har_3, har_4, har_5, hfar⟩ := boxed6 BKar.out (HS.out.at_ (W := w5)); have Q5 := trivial)
    | ((clear Q5); (with_reducible refine gate_callee (f := 34) rfl ?_); refine goesL_ (some _) rfl rfl Try.func34 (by kernel_rfl) rfl #[.agg #[.string r_0, .slice ATr_r_1 r_1.length cTr_r_1, .slice ATr_r_2 r_2.length cTr_r_2, .int .i64 r_3, .int .i64 r_4, .slice ATr_r_5 r_5.length cTr_r_5], .int .i64 sd, .int .i64 st, .int .i64 ea, .slice ATrg rg.length cTrg] rfl aw_ ?_; (with_reducible refine (spec_GrowStages.calls k r_0 _ _ r_1 _ _ r_2 r_3 r_4 _ _ r_5 sd st ea _ _ rg R0 R1 _ ?s0 ?t0 ?s1 ?t1 ?s2 ?t2 ?s3 ?t3 P.out).mono ?_); (case s0 => exact HS.out.C (RC HOTr_r_1.out)); (case t0 => exact RL HOTr_r_1.out); (case s1 => exact HS.out.C (RC HOTr_r_2.out)); (case t1 => exact RL HOTr_r_2.out); (case s2 => exact HS.out.C (SC HOTr_r_5.out)); (case t2 => exact SL HOTr_r_5.out); (case s3 => exact HS.out.C (SC HOTrg.out)); (case t3 => exact SL HOTrg.out); rintro e w6 ⟨v0, rfl, ho0, hb⟩; refine ⟨_, rfl, ?_⟩; obtain ⟨AW0, cW0, ev⟩ := Kd.R_slice ho0; subst ev; have HOW0 := Aside0.mk (Kd.R_lower ho0 (below_size (Bl.out (w := w5)))); clear ho0; have hs_ := Aside0.mk (HS.out.go hb); have M_w6 := Aside0.mk (Bl.size (w := w5) hb); clear HS; have HS := hs_; clear hs_; clear hb; clear har_0 har_1 har_2 har_3 har_4 har_5 hfar; obtain ⟨har_0, har_1, har_2, har_3, har_4, har_5, hfar⟩ := boxed6 BKar.out (HS.out.at_ (W := w6)); have Q6 := trivial)
    | ((clear Q6); (with_reducible refine gate_callee (f := 15) rfl ?_); refine goesL_ (some _) rfl rfl Try.func15 (by kernel_rfl) rfl #[.agg #[.string r_0, .slice Ar_1 r_1.length cr_1, .slice Ar_2 r_2.length cr_2, .int .i64 r_3, .int .i64 r_4, .slice Ar_5 r_5.length cr_5]] rfl aw_ ?_; (with_reducible refine (laws_toRaga.calls k r_0 _ _ r_1 _ _ r_2 r_3 r_4 _ _ r_5 r_0 r_1 r_2 r_3 r_4 r_5 _ ?s0 ?t0 ?s1 ?t1 ?s2 ?t2 Tr.out).mono ?_); (case s0 => exact HS.out.C HRr_1.out); (case t0 => exact HCr_1.out); (case s1 => exact HS.out.C HRr_2.out); (case t1 => exact HCr_2.out); (case s2 => exact HS.out.C HRr_5.out); (case t2 => exact HCr_5.out); rintro e w7 ⟨v0, v1, v2, rfl, ho0, ho1, ho2, hb⟩; refine ⟨_, rfl, ?_⟩; obtain ⟨AXr_r_1, cXr_r_1, ev⟩ := Kd.R_slice ho0; subst ev; have HOXr_r_1 := Aside0.mk (Kd.R_lower ho0 (below_size (Bl.out (w := w6)))); clear ho0; obtain ⟨AXr_r_2, cXr_r_2, ev⟩ := Kd.R_slice ho1; subst ev; have HOXr_r_2 := Aside0.mk (Kd.R_lower ho1 (below_size (Bl.out (w := w6)))); clear ho1; obtain ⟨AXr_r_5, cXr_r_5, ev⟩ := Kd.S_slice ho2; subst ev; have HOXr_r_5 := Aside0.mk (Kd.S_lower ho2 (below_size (Bl.out (w := w6)))); clear ho2; have hs_ := Aside0.mk (HS.out.go hb); have M_w7 := Aside0.mk (Bl.size (w := w6) hb); clear HS; have HS := hs_; clear hs_; clear hb; clear har_0 har_1 har_2 har_3 har_4 har_5 hfar; obtain ⟨har_0, har_1, har_2, har_3, har_4, har_5, hfar⟩ := boxed6 BKar.out (HS.out.at_ (W := w7)); have Q7 := trivial)
    | ((clear Q7); (with_reducible refine gate_dst (N := 14) rfl ?_); refine box_event ?hg (N := 14) ?hd (cs := #[.string (⟨#[]⟩ : ByteArray), .slice none 0 0, .slice none 0 0, .int .i64 0, .int .i64 0, .slice none 0 0]) (t := 29) ?hr ?_; (case hd => rfl); (case hg => rfl); (case hr => first | (go_simp; done) | (go_simp; rfl)); intro gxr hg w8b hbox hb; have BKxr := Aside0.mk hbox; have Gxr := Aside0.mk (show w7.heap.size ≤ gxr by rw [hg]; exact below_size Bl.out); have HX : Bl w7 w8b := ⟨Bl.go hb⟩; clear hg; clear har_0 har_1 har_2 har_3 har_4 har_5 hfar; obtain ⟨hxr_0, hxr_1, hxr_2, hxr_3, hxr_4, hxr_5, hfxr⟩ := boxed6 hbox (Below.refl _ _); clear hbox hb; obtain ⟨har_0, har_1, har_2, har_3, har_4, har_5, hfar⟩ := boxed6 BKar.out (HS.out.at_ (W := w8b)); have hnar : gar ≠ gxr := Nat.ne_of_lt (Nat.lt_of_lt_of_le Gar.out.2 (Nat.le_trans (Nat.le_trans M_w2.out (Nat.le_trans M_w3.out (Nat.le_trans M_w4.out (Nat.le_trans M_w5.out (Nat.le_trans M_w6.out (M_w7.out)))))) Gxr.out)); have hoar := hnar.symm; have Q8 := trivial)
    | ((clear Q8); (with_reducible refine gate_callee (f := 35) rfl ?_); refine goesL_ (some _) rfl rfl Try.func35 (by kernel_rfl) rfl #[.slice Arg rg.length crg] rfl aw_ ?_; refine calls_at w7 gxr #[.string r_0, .slice AXr_r_1 r_1.length cXr_r_1, .slice AXr_r_2 r_2.length cXr_r_2, .int .i64 r_3, .int .i64 r_4, .slice AXr_r_5 r_5.length cXr_r_5] 29 (by with_reducible repeat (first | exact HX | refine Bl.set ?_ Gxr.out | apply Bl.alloc | apply Bl.drewN | apply Bl.drew)) (by (with_reducible repeat (first | refine blk_drewN ?_ _ | refine blk_drew ?_ | refine blk_alloc ?_ _)); exact (blk_put (blk_put (blk_put (blk_put (blk_put (blk_put BKxr.out 0 (.string r_0) rfl) 1 (.slice AXr_r_1 r_1.length cXr_r_1) rfl) 2 (.slice AXr_r_2 r_2.length cXr_r_2) rfl) 3 (.int .i64 r_3) rfl) 4 (.int .i64 r_4) rfl) 5 (.slice AXr_r_5 r_5.length cXr_r_5) rfl)) ?_; intro W_ hx_ hbk_; clear BKxr HX; have BKxr := Aside0.mk hbk_; clear hbk_; (with_reducible refine (laws_toInt64SS.calls k _ _ rg rg _ ?s0 ?t0 Trg.out).mono ?_); (case s0 => exact HS.out.C HRrg.out); (case t0 => exact HCrg.out); rintro e w9 ⟨v0, rfl, ho0, hb⟩; refine ⟨_, rfl, ?_⟩; obtain ⟨AXrg, cXrg, ev⟩ := Kd.S_slice ho0; subst ev; have HOXrg := Aside0.mk (Kd.S_lower ho0 (below_size (Bl.out (w := w7)))); clear ho0; have hs_ := Aside0.mk (HS.out.go hb); have M_w9 := Aside0.mk (Bl.size (w := w7) hb); clear HS; have HS := hs_; clear hs_; have bk_ := Aside0.mk (blk_below BKxr.out hb); have g_ := Aside0.mk (⟨Gxr.out, Nat.lt_of_lt_of_le (blk_lt BKxr.out) (below_size0 hb)⟩ : w7.heap.size ≤ gxr ∧ gxr < w9.heap.size); clear BKxr Gxr hx_; have BKxr := bk_; have Gxr := g_; clear bk_ g_; clear hb; clear hxr_0 hxr_1 hxr_2 hxr_3 hxr_4 hxr_5 hfxr har_0 har_1 har_2 har_3 har_4 har_5 hfar hnar hoar; obtain ⟨har_0, har_1, har_2, har_3, har_4, har_5, hfar⟩ := boxed6 BKar.out (HS.out.at_ (W := w9)); obtain ⟨hxr_0, hxr_1, hxr_2, hxr_3, hxr_4, hxr_5, hfxr⟩ := boxed6 BKxr.out (HS.out.at_ (W := w9)); have Q9 := trivial)
    | ((clear Q9); (with_reducible refine gate_callee (f := 36) rfl ?_); refine goesL_ (some _) rfl rfl Try.func36 (by kernel_rfl) rfl #[.agg #[.string r_0, .slice AXr_r_1 r_1.length cXr_r_1, .slice AXr_r_2 r_2.length cXr_r_2, .int .i64 r_3, .int .i64 r_4, .slice AXr_r_5 r_5.length cXr_r_5], .int .i64 sd, .int .i64 st, .int .i64 ea, .slice AXrg rg.length cXrg] rfl aw_ ?_; (with_reducible refine (impl_GrowStages.calls k r_0 _ _ r_1 _ _ r_2 r_3 r_4 _ _ r_5 sd st ea _ _ rg R0 R1 _ ?s0 ?t0 ?s1 ?t1 ?s2 ?t2 ?s3 ?t3 I.out).mono ?_); (case s0 => exact HS.out.C (RC HOXr_r_1.out)); (case t0 => exact RL HOXr_r_1.out); (case s1 => exact HS.out.C (RC HOXr_r_2.out)); (case t1 => exact RL HOXr_r_2.out); (case s2 => exact HS.out.C (SC HOXr_r_5.out)); (case t2 => exact SL HOXr_r_5.out); (case s3 => exact HS.out.C (SC HOXrg.out)); (case t3 => exact SL HOXrg.out); rintro e w10 ⟨v0, rfl, ho0, hb⟩; refine ⟨_, rfl, ?_⟩; obtain ⟨AG0, cG0, ev⟩ := Kd.R_slice ho0; subst ev; have HOG0 := Aside0.mk (Kd.R_lower ho0 (below_size (Bl.out (w := w9)))); clear ho0; have hs_ := Aside0.mk (HS.out.go hb); have M_w10 := Aside0.mk (Bl.size (w := w9) hb); clear HS; have HS := hs_; clear hs_; clear hb; clear har_0 har_1 har_2 har_3 har_4 har_5 hfar hxr_0 hxr_1 hxr_2 hxr_3 hxr_4 hxr_5 hfxr; obtain ⟨har_0, har_1, har_2, har_3, har_4, har_5, hfar⟩ := boxed6 BKar.out (HS.out.at_ (W := w10)); obtain ⟨hxr_0, hxr_1, hxr_2, hxr_3, hxr_4, hxr_5, hfxr⟩ := boxed6 BKxr.out (HS.out.at_ (W := w10)); have Q10 := trivial)
    | ((clear Q10); (with_reducible refine gate_callee (f := 17) rfl ?_); refine goesL_ (some _) rfl rfl Try.func17 (by kernel_rfl) rfl #[.slice AG0 R0.length cG0, .slice AW0 R0.length cW0] rfl aw_ ?_; (with_reducible refine (laws_eqInt64S.calls k _ _ R0 _ _ R0 true _ ?s0 ?t0 ?s1 ?t1 ER0.out).mono ?_); (case s0 => exact HS.out.C (RC HOG0.out)); (case t0 => exact RL HOG0.out); (case s1 => exact HS.out.C (RC HOW0.out)); (case t1 => exact RL HOW0.out); rintro e w11 ⟨rfl, hb_⟩; refine ⟨_, rfl, ?_⟩; have hb := below_of hb_; clear hb_; have hs_ := Aside0.mk (HS.out.go hb); have M_w11 := Aside0.mk (Bl.size (w := w10) hb); clear HS; have HS := hs_; clear hs_; clear hb; clear har_0 har_1 har_2 har_3 har_4 har_5 hfar hxr_0 hxr_1 hxr_2 hxr_3 hxr_4 hxr_5 hfxr; obtain ⟨har_0, har_1, har_2, har_3, har_4, har_5, hfar⟩ := boxed6 BKar.out (HS.out.at_ (W := w11)); obtain ⟨hxr_0, hxr_1, hxr_2, hxr_3, hxr_4, hxr_5, hfxr⟩ := boxed6 BKxr.out (HS.out.at_ (W := w11)); have Q11 := trivial))
  refine start_ (n := 5) (S := fun w' => w'.cell? ⟨gar, 0, none⟩ = some (.string r_0) ∧ w'.cell? ⟨gar, 1, none⟩ = some (.slice Ar_1 r_1.length cr_1) ∧ w'.cell? ⟨gar, 2, none⟩ = some (.slice Ar_2 r_2.length cr_2) ∧ w'.cell? ⟨gar, 3, none⟩ = some (.int .i64 r_3) ∧ w'.cell? ⟨gar, 4, none⟩ = some (.int .i64 r_4) ∧ w'.cell? ⟨gar, 5, none⟩ = some (.slice Ar_5 r_5.length cr_5) ∧ w'.cell? ⟨gxr, 0, none⟩ = some (.string r_0) ∧ w'.cell? ⟨gxr, 1, none⟩ = some (.slice AXr_r_1 r_1.length cXr_r_1) ∧ w'.cell? ⟨gxr, 2, none⟩ = some (.slice AXr_r_2 r_2.length cXr_r_2) ∧ w'.cell? ⟨gxr, 3, none⟩ = some (.int .i64 r_3) ∧ w'.cell? ⟨gxr, 4, none⟩ = some (.int .i64 r_4) ∧ w'.cell? ⟨gxr, 5, none⟩ = some (.slice AXr_r_5 r_5.length cXr_r_5)) (ds := []) #[false, false, false, false, false] (by kernel_rfl) rfl rfl ⟨har_0, har_1, har_2, har_3, har_4, har_5, hxr_0, hxr_1, hxr_2, hxr_3, hxr_4, hxr_5⟩ (fun hHeld => ?_)
  refine take_ (i := 0) (N := some 66) (v := ?_) (a' := ?_) #[true, false, false, false, false] rfl rfl (by kernel_rfl) (fun _ _ _ h => h) (Or.inl ⟨by rfl, ?_⟩) hHeld ?_ ?_
  rotate_left
  · rintro w' ⟨s0, s1, s2, s3, s4, s5, s6, s7, s8, s9, s10, s11⟩; go_simp; with_reducible rfl
  rotate_left
  · go_simp; rfl
  refine take_ (i := 1) (N := some 67) (v := ?_) (a' := ?_) #[true, true, false, false, false] rfl rfl (by kernel_rfl) (fun _ _ _ h => h) (Or.inl ⟨by rfl, ?_⟩) hHeld ?_ ?_
  rotate_left
  · rintro w' ⟨s0, s1, s2, s3, s4, s5, s6, s7, s8, s9, s10, s11⟩; go_simp; with_reducible rfl
  rotate_left
  · go_simp; rfl
  refine one_ (i := 2) (N := some 68) #[true, true, true, false, false] rfl rfl (by kernel_rfl) (by decide) (fun K hK => ?_)
  refine goes_ Try.func15 (by kernel_rfl) rfl #[.agg #[.string r_0, .slice Ar_1 r_1.length cr_1, .slice Ar_2 r_2.length cr_2, .int .i64 r_3, .int .i64 r_4, .slice Ar_5 r_5.length cr_5]] (by rfl) rfl rfl aw_ ?_
  clear hHeld Q11
  (with_reducible refine (laws_toRaga.calls k r_0 _ _ r_1 _ _ r_2 r_3 r_4 _ _ r_5 r_0 r_1 r_2 r_3 r_4 r_5 _ ?s0 ?t0 ?s1 ?t1 ?s2 ?t2 Tr.out).mono ?_)
  (case s0 => exact HS.out.C HRr_1.out)
  (case t0 => exact HCr_1.out)
  (case s1 => exact HS.out.C HRr_2.out)
  (case t1 => exact HCr_2.out)
  (case s2 => exact HS.out.C HRr_5.out)
  (case t2 => exact HCr_5.out)
  rintro e w12 ⟨v0, v1, v2, rfl, ho0, ho1, ho2, hb⟩
  refine ⟨_, rfl, ?_⟩
  obtain ⟨AUr_r_1, cUr_r_1, ev⟩ := Kd.R_slice ho0
  subst ev
  have HOUr_r_1 := Aside0.mk (Kd.R_lower ho0 (below_size (Bl.out (w := w11))))
  clear ho0
  obtain ⟨AUr_r_2, cUr_r_2, ev⟩ := Kd.R_slice ho1
  subst ev
  have HOUr_r_2 := Aside0.mk (Kd.R_lower ho1 (below_size (Bl.out (w := w11))))
  clear ho1
  obtain ⟨AUr_r_5, cUr_r_5, ev⟩ := Kd.S_slice ho2
  subst ev
  have HOUr_r_5 := Aside0.mk (Kd.S_lower ho2 (below_size (Bl.out (w := w11))))
  clear ho2
  have hs_ := Aside0.mk (HS.out.go hb)
  have M_w12 := Aside0.mk (Bl.size (w := w11) hb)
  clear HS
  have HS := hs_
  clear hs_
  clear hb
  clear har_0 har_1 har_2 har_3 har_4 har_5 hfar hxr_0 hxr_1 hxr_2 hxr_3 hxr_4 hxr_5 hfxr
  obtain ⟨har_0, har_1, har_2, har_3, har_4, har_5, hfar⟩ := boxed6 BKar.out (HS.out.at_ (W := w12))
  obtain ⟨hxr_0, hxr_1, hxr_2, hxr_3, hxr_4, hxr_5, hfxr⟩ := boxed6 BKxr.out (HS.out.at_ (W := w12))
  have Q12 := trivial
  refine hK.out _ _ ⟨har_0, har_1, har_2, har_3, har_4, har_5, hxr_0, hxr_1, hxr_2, hxr_3, hxr_4, hxr_5⟩ (fun hHeld => ?_)
  clear hK K
  refine norm_ (a' := ?_) ?_ ?_
  rotate_left
  · show Act.put _ (some 68) _ = _; go_simp; rfl
  refine one_ (i := 3) (N := some 69) #[true, true, true, true, false] rfl rfl (by kernel_rfl) (by decide) (fun K hK => ?_)
  refine goes_ Try.func18 (by kernel_rfl) rfl #[.agg #[.string r_0, .slice AXr_r_1 r_1.length cXr_r_1, .slice AXr_r_2 r_2.length cXr_r_2, .int .i64 r_3, .int .i64 r_4, .slice AXr_r_5 r_5.length cXr_r_5], .agg #[.string r_0, .slice AUr_r_1 r_1.length cUr_r_1, .slice AUr_r_2 r_2.length cUr_r_2, .int .i64 r_3, .int .i64 r_4, .slice AUr_r_5 r_5.length cUr_r_5]] (by rfl) rfl rfl aw_ ?_
  clear hHeld Q12
  (with_reducible refine (laws_eqRaga.calls k r_0 _ _ r_1 _ _ r_2 r_3 r_4 _ _ r_5 r_0 _ _ r_1 _ _ r_2 r_3 r_4 _ _ r_5 true _ ?s0 ?t0 ?s1 ?t1 ?s2 ?t2 ?s3 ?t3 ?s4 ?t4 ?s5 ?t5 Er.out).mono ?_)
  (case s0 => exact HS.out.C (RC HOXr_r_1.out))
  (case t0 => exact RL HOXr_r_1.out)
  (case s1 => exact HS.out.C (RC HOXr_r_2.out))
  (case t1 => exact RL HOXr_r_2.out)
  (case s2 => exact HS.out.C (SC HOXr_r_5.out))
  (case t2 => exact SL HOXr_r_5.out)
  (case s3 => exact HS.out.C (RC HOUr_r_1.out))
  (case t3 => exact RL HOUr_r_1.out)
  (case s4 => exact HS.out.C (RC HOUr_r_2.out))
  (case t4 => exact RL HOUr_r_2.out)
  (case s5 => exact HS.out.C (SC HOUr_r_5.out))
  (case t5 => exact SL HOUr_r_5.out)
  rintro e w13 ⟨rfl, hb_⟩
  refine ⟨_, rfl, ?_⟩
  have hb := below_of hb_
  clear hb_
  have hs_ := Aside0.mk (HS.out.go hb)
  have M_w13 := Aside0.mk (Bl.size (w := w12) hb)
  clear HS
  have HS := hs_
  clear hs_
  clear hb
  clear har_0 har_1 har_2 har_3 har_4 har_5 hfar hxr_0 hxr_1 hxr_2 hxr_3 hxr_4 hxr_5 hfxr
  obtain ⟨har_0, har_1, har_2, har_3, har_4, har_5, hfar⟩ := boxed6 BKar.out (HS.out.at_ (W := w13))
  obtain ⟨hxr_0, hxr_1, hxr_2, hxr_3, hxr_4, hxr_5, hfxr⟩ := boxed6 BKxr.out (HS.out.at_ (W := w13))
  have Q13 := trivial
  refine hK.out _ _ ⟨har_0, har_1, har_2, har_3, har_4, har_5, hxr_0, hxr_1, hxr_2, hxr_3, hxr_4, hxr_5⟩ (fun hHeld => ?_)
  clear hK K
  refine norm_ (a' := ?_) ?_ ?_
  rotate_left
  · show Act.put _ (some 69) _ = _; go_simp; rfl
  refine pure_ (i := 4) (N := some 70) (v := ?_) (a' := ?_) #[true, true, true, true, true] rfl rfl (by kernel_rfl) (fun _ _ _ h => h) (Or.inl ⟨by rfl, ?_⟩) ?_ ?_
  rotate_left
  · intro w'; go_simp; with_reducible rfl
  rotate_left
  · go_simp; rfl
  refine done_ (by kernel_rfl) ?_
  clear hHeld
  go_wp2_with (first
    | ((clear Q13); (with_reducible refine gate_callee (f := 35) rfl ?_); refine goesL_ (some _) rfl rfl Try.func35 (by kernel_rfl) rfl #[.slice Arg rg.length crg] rfl aw_ ?_; (with_reducible refine (laws_toInt64SS.calls k _ _ rg rg _ ?s0 ?t0 Trg.out).mono ?_); (case s0 => exact HS.out.C HRrg.out); (case t0 => exact HCrg.out); rintro e w14 ⟨v0, rfl, ho0, hb⟩; refine ⟨_, rfl, ?_⟩; obtain ⟨AUrg, cUrg, ev⟩ := Kd.S_slice ho0; subst ev; have HOUrg := Aside0.mk (Kd.S_lower ho0 (below_size (Bl.out (w := w13)))); clear ho0; have hs_ := Aside0.mk (HS.out.go hb); have M_w14 := Aside0.mk (Bl.size (w := w13) hb); clear HS; have HS := hs_; clear hs_; clear hb; clear har_0 har_1 har_2 har_3 har_4 har_5 hfar hxr_0 hxr_1 hxr_2 hxr_3 hxr_4 hxr_5 hfxr; obtain ⟨har_0, har_1, har_2, har_3, har_4, har_5, hfar⟩ := boxed6 BKar.out (HS.out.at_ (W := w14)); obtain ⟨hxr_0, hxr_1, hxr_2, hxr_3, hxr_4, hxr_5, hfxr⟩ := boxed6 BKxr.out (HS.out.at_ (W := w14)); have Q14 := trivial)
    | ((clear Q14); (with_reducible refine gate_callee (f := 37) rfl ?_); refine goesL_ (some _) rfl rfl Try.func37 (by kernel_rfl) rfl #[.slice AXrg rg.length cXrg, .slice AUrg rg.length cUrg] rfl aw_ ?_; (with_reducible refine (laws_eqInt64SS.calls k _ _ rg _ _ rg true _ ?s0 ?t0 ?s1 ?t1 Erg.out).mono ?_); (case s0 => exact HS.out.C (SC HOXrg.out)); (case t0 => exact SL HOXrg.out); (case s1 => exact HS.out.C (SC HOUrg.out)); (case t1 => exact SL HOUrg.out); rintro e w15 ⟨rfl, hb_⟩; refine ⟨_, rfl, ?_⟩; have hb := below_of hb_; clear hb_; have hs_ := Aside0.mk (HS.out.go hb); have M_w15 := Aside0.mk (Bl.size (w := w14) hb); clear HS; have HS := hs_; clear hs_; clear hb; clear har_0 har_1 har_2 har_3 har_4 har_5 hfar hxr_0 hxr_1 hxr_2 hxr_3 hxr_4 hxr_5 hfxr; obtain ⟨har_0, har_1, har_2, har_3, har_4, har_5, hfar⟩ := boxed6 BKar.out (HS.out.at_ (W := w15)); obtain ⟨hxr_0, hxr_1, hxr_2, hxr_3, hxr_4, hxr_5, hfxr⟩ := boxed6 BKxr.out (HS.out.at_ (W := w15)); have Q15 := trivial)
    | ((clear Q15); (with_reducible refine gate_callee (f := 19) rfl ?_); refine goesL_ (some _) rfl rfl Try.func19 (by kernel_rfl) rfl #[.agg #[.string r_0, .slice AXr_r_1 r_1.length cXr_r_1, .slice AXr_r_2 r_2.length cXr_r_2, .int .i64 r_3, .int .i64 r_4, .slice AXr_r_5 r_5.length cXr_r_5], .int .i64 1] rfl aw_ ?_; (with_reducible refine (laws_markRaga.calls k (fun k_ => w6.heap.size ≤ k_ ∧ k_ < w7.heap.size) r_0 (.slice AXr_r_1 r_1.length cXr_r_1) (.slice AXr_r_2 r_2.length cXr_r_2) (.slice AXr_r_5 r_5.length cXr_r_5) r_1 r_2 r_3 r_4 r_5 1 vr w _ ?s0 ?r0 ?r1 ?r2 Kr.out).mono ?_); (case s0 => exact HS.out.at_); (case r0 => exact Kd.R_lower (range_R HOXr_r_1.out HS.out.at_ w6.heap.size (Nat.le_refl _)) (Nat.le_trans M_w1.out (Nat.le_trans M_w2.out (Nat.le_trans M_w3.out (Nat.le_trans M_w4.out (Nat.le_trans M_w5.out (M_w6.out))))))); (case r1 => exact Kd.R_lower (range_R HOXr_r_2.out HS.out.at_ w6.heap.size (Nat.le_refl _)) (Nat.le_trans M_w1.out (Nat.le_trans M_w2.out (Nat.le_trans M_w3.out (Nat.le_trans M_w4.out (Nat.le_trans M_w5.out (M_w6.out))))))); (case r2 => exact Kd.S_lower (range_S HOXr_r_5.out HS.out.at_ w6.heap.size (Nat.le_refl _)) (Nat.le_trans M_w1.out (Nat.le_trans M_w2.out (Nat.le_trans M_w3.out (Nat.le_trans M_w4.out (Nat.le_trans M_w5.out (M_w6.out))))))); rintro e w16 ⟨rfl, hb, hkp⟩; refine ⟨_, rfl, ?_⟩; have nG0 := Aside0.mk (keep_R (range_R HOG0.out HS.out.at_ w9.heap.size (Nat.le_refl _)) hkp (.inr (M_w9.out))); have nW0 := Aside0.mk (keep_R (range_R HOW0.out HS.out.at_ w5.heap.size (Nat.le_refl _)) hkp (.inl (Nat.le_refl _))); have nXrg := Aside0.mk (keep_S (range_S HOXrg.out HS.out.at_ w7.heap.size (Nat.le_refl _)) hkp (.inr (Nat.le_refl _))); have nbar := Aside0.mk (keep_blk (blk_below BKar.out HS.out.at_) hkp (.inl (Nat.lt_of_lt_of_le Gar.out.2 (Nat.le_trans M_w2.out (Nat.le_trans M_w3.out (Nat.le_trans M_w4.out (Nat.le_trans M_w5.out (M_w6.out)))))))); have M_w16 := Aside0.mk (Nat.le_trans (below_size (Bl.out (w := w15))) hkp.1); clear HS hkp HOG0 HOW0 HOXrg BKar; have HS := Aside0.mk (Since.two hb); clear hb; have HOG0 := nG0; clear nG0; have HOW0 := nW0; clear nW0; have HOXrg := nXrg; clear nXrg; have BKar := nbar; clear nbar; clear har_0 har_1 har_2 har_3 har_4 har_5 hfar hxr_0 hxr_1 hxr_2 hxr_3 hxr_4 hxr_5 hfxr; obtain ⟨har_0, har_1, har_2, har_3, har_4, har_5, hfar⟩ := boxed6 BKar.out (HS.out.at_ (W := w16)); have Q16 := trivial)
    | ((clear Q16); (with_reducible refine gate_callee (f := 38) rfl ?_); refine goesL_ (some _) rfl rfl Try.func38 (by kernel_rfl) rfl #[.slice AXrg rg.length cXrg, .int .i64 vr] rfl aw_ ?_; (with_reducible refine (laws_markInt64SS.calls k (fun k_ => w7.heap.size ≤ k_ ∧ k_ < w9.heap.size) (.slice AXrg rg.length cXrg) rg vr vrg Mrg w _ ?s0 ?r0 Krg.out).mono ?_); (case s0 => exact HS.out.at_); (case r0 => exact Kd.S_lower (Kd.S_mono (Kd.S_below HOXrg.out HS.out.at_) (fun _ h_ => h_.1)) (Nat.le_trans M_w1.out (Nat.le_trans M_w2.out (Nat.le_trans M_w3.out (Nat.le_trans M_w4.out (Nat.le_trans M_w5.out (Nat.le_trans M_w6.out (M_w7.out)))))))); rintro e w17 ⟨rfl, hy_, hb, hkp⟩; clear hy_; refine ⟨_, rfl, ?_⟩; have nG0 := Aside0.mk (keep_R (Kd.R_below HOG0.out HS.out.at_) hkp (.inr (Nat.le_refl _))); have nW0 := Aside0.mk (keep_R (Kd.R_below HOW0.out HS.out.at_) hkp (.inl (M_w7.out))); have nbar := Aside0.mk (keep_blk (blk_below BKar.out HS.out.at_) hkp (.inl (Nat.lt_of_lt_of_le Gar.out.2 (Nat.le_trans M_w2.out (Nat.le_trans M_w3.out (Nat.le_trans M_w4.out (Nat.le_trans M_w5.out (Nat.le_trans M_w6.out (M_w7.out))))))))); have M_w17 := Aside0.mk (Nat.le_trans (below_size (Bl.out (w := w16))) hkp.1); clear HS hkp HOG0 HOW0 BKar; have HS := Aside0.mk (Since.two hb); clear hb; have HOG0 := nG0; clear nG0; have HOW0 := nW0; clear nW0; have BKar := nbar; clear nbar; clear har_0 har_1 har_2 har_3 har_4 har_5 hfar; obtain ⟨har_0, har_1, har_2, har_3, har_4, har_5, hfar⟩ := boxed6 BKar.out (HS.out.at_ (W := w17)); have Q17 := trivial)
    | ((clear Q17); go_at_call 17; refine calls_of_args (args' := #[.slice AG0 R0.length cG0, .slice AW0 R0.length cW0]) aw_ ?_; (with_reducible refine (laws_eqInt64S.calls k _ _ R0 _ _ R0 true _ ?s0 ?t0 ?s1 ?t1 ER0.out).mono ?_); (case s0 => exact HS.out.C (RC HOG0.out)); (case t0 => exact RL HOG0.out); (case s1 => exact HS.out.C (RC HOW0.out)); (case t1 => exact RL HOW0.out); rintro e w18 ⟨rfl, hb_⟩; have hb := below_of hb_; clear hb_; have hs_ := Aside0.mk (HS.out.go hb); have M_w18 := Aside0.mk (Bl.size (w := w17) hb); clear HS; have HS := hs_; clear hs_; clear hb; clear har_0 har_1 har_2 har_3 har_4 har_5 hfar; obtain ⟨har_0, har_1, har_2, har_3, har_4, har_5, hfar⟩ := boxed6 BKar.out (HS.out.at_ (W := w18)); have Q18 := trivial)
    | ((clear Q18); (with_reducible refine gate_callee (f := 20) rfl ?_); refine goesL_ (some _) rfl rfl Try.func20 (by kernel_rfl) rfl #[.slice AG0 R0.length cG0, .int .i64 1] rfl aw_ ?_; (with_reducible refine (laws_markInt64S.calls k (fun k_ => w9.heap.size ≤ k_ ∧ k_ < w10.heap.size) (.slice AG0 R0.length cG0) R0 1 m0 N0 w _ ?s0 ?r0 KR0.out).mono ?_); (case s0 => exact HS.out.at_); (case r0 => exact Kd.R_lower (Kd.R_mono (Kd.R_below HOG0.out HS.out.at_) (fun _ h_ => h_.1)) (Nat.le_trans M_w1.out (Nat.le_trans M_w2.out (Nat.le_trans M_w3.out (Nat.le_trans M_w4.out (Nat.le_trans M_w5.out (Nat.le_trans M_w6.out (Nat.le_trans M_w7.out (M_w9.out))))))))); rintro e w19 ⟨rfl, hy_, hb, hkp⟩; refine ⟨_, rfl, ?_⟩; have HL0 := Aside0.mk (Kd.R_reads' hy_).1; have HY0 := Aside0.mk hy_; clear hy_; have nW0 := Aside0.mk (keep_R (Kd.R_below HOW0.out HS.out.at_) hkp (.inl (Nat.le_trans M_w7.out (M_w9.out)))); have nbar := Aside0.mk (keep_blk (blk_below BKar.out HS.out.at_) hkp (.inl (Nat.lt_of_lt_of_le Gar.out.2 (Nat.le_trans M_w2.out (Nat.le_trans M_w3.out (Nat.le_trans M_w4.out (Nat.le_trans M_w5.out (Nat.le_trans M_w6.out (Nat.le_trans M_w7.out (M_w9.out)))))))))); have M_w19 := Aside0.mk (Nat.le_trans (below_size (Bl.out (w := w18))) hkp.1); clear HS hkp HOW0 BKar; have HS := Aside0.mk (Since.two hb); clear hb; have HOW0 := nW0; clear nW0; have BKar := nbar; clear nbar; clear har_0 har_1 har_2 har_3 har_4 har_5 hfar; obtain ⟨har_0, har_1, har_2, har_3, har_4, har_5, hfar⟩ := boxed6 BKar.out (HS.out.at_ (W := w19)); have Q19 := trivial)
    | ((clear Q19); (with_reducible refine gate_callee (f := 21) rfl ?_); refine goesL_ (some _) rfl rfl Try.func21 (by kernel_rfl) rfl #[.slice AG0 N0.length cG0, .int .i64 1] rfl (by (try simp only [List.map_toArray, List.map_cons, List.map_nil]); first | done | (rw [show N0.length = R0.length from HL0.out.symm] <;> rfl) | rfl) ?_; (with_reducible refine (laws_heldInt64S.calls k _ _ N0 1 m0 _ ?s0 ?t0 HR0.out).mono ?_); (case s0 => exact HS.out.C (RC HY0.out)); (case t0 => exact (HL0.out ▸ RL HY0.out)); rintro e w20 ⟨rfl, hb_⟩; refine ⟨_, rfl, ?_⟩; have hb := below_of hb_; clear hb_; have hs_ := Aside0.mk (HS.out.go hb); have M_w20 := Aside0.mk (Bl.size (w := w19) hb); clear HS; have HS := hs_; clear hs_; clear hb; clear har_0 har_1 har_2 har_3 har_4 har_5 hfar; obtain ⟨har_0, har_1, har_2, har_3, har_4, har_5, hfar⟩ := boxed6 BKar.out (HS.out.at_ (W := w20)); have Q20 := trivial)
    | ((clear Q20); (with_reducible refine gate_callee (f := 15) rfl ?_); refine goesL_ (some _) rfl rfl Try.func15 (by kernel_rfl) rfl #[.agg #[.string r_0, .slice Ar_1 r_1.length cr_1, .slice Ar_2 r_2.length cr_2, .int .i64 r_3, .int .i64 r_4, .slice Ar_5 r_5.length cr_5]] rfl aw_ ?_; (with_reducible refine (laws_toRaga.calls k r_0 _ _ r_1 _ _ r_2 r_3 r_4 _ _ r_5 r_0 r_1 r_2 r_3 r_4 r_5 _ ?s0 ?t0 ?s1 ?t1 ?s2 ?t2 Tr.out).mono ?_); (case s0 => exact HS.out.C HRr_1.out); (case t0 => exact HCr_1.out); (case s1 => exact HS.out.C HRr_2.out); (case t1 => exact HCr_2.out); (case s2 => exact HS.out.C HRr_5.out); (case t2 => exact HCr_5.out); rintro e w21 ⟨v0, v1, v2, rfl, ho0, ho1, ho2, hb⟩; refine ⟨_, rfl, ?_⟩; obtain ⟨AVr_r_1, cVr_r_1, ev⟩ := Kd.R_slice ho0; subst ev; have HOVr_r_1 := Aside0.mk (Kd.R_lower ho0 (below_size (Bl.out (w := w20)))); clear ho0; obtain ⟨AVr_r_2, cVr_r_2, ev⟩ := Kd.R_slice ho1; subst ev; have HOVr_r_2 := Aside0.mk (Kd.R_lower ho1 (below_size (Bl.out (w := w20)))); clear ho1; obtain ⟨AVr_r_5, cVr_r_5, ev⟩ := Kd.S_slice ho2; subst ev; have HOVr_r_5 := Aside0.mk (Kd.S_lower ho2 (below_size (Bl.out (w := w20)))); clear ho2; have hs_ := Aside0.mk (HS.out.go hb); have M_w21 := Aside0.mk (Bl.size (w := w20) hb); clear HS; have HS := hs_; clear hs_; clear hb; clear har_0 har_1 har_2 har_3 har_4 har_5 hfar; obtain ⟨har_0, har_1, har_2, har_3, har_4, har_5, hfar⟩ := boxed6 BKar.out (HS.out.at_ (W := w21)); have Q21 := trivial)
    | ((clear Q21); (with_reducible refine gate_callee (f := 35) rfl ?_); refine goesL_ (some _) rfl rfl Try.func35 (by kernel_rfl) rfl #[.slice Arg rg.length crg] rfl aw_ ?_; (with_reducible refine (laws_toInt64SS.calls k _ _ rg rg _ ?s0 ?t0 Trg.out).mono ?_); (case s0 => exact HS.out.C HRrg.out); (case t0 => exact HCrg.out); rintro e w22 ⟨v0, rfl, ho0, hb⟩; refine ⟨_, rfl, ?_⟩; obtain ⟨AVrg, cVrg, ev⟩ := Kd.S_slice ho0; subst ev; have HOVrg := Aside0.mk (Kd.S_lower ho0 (below_size (Bl.out (w := w21)))); clear ho0; have hs_ := Aside0.mk (HS.out.go hb); have M_w22 := Aside0.mk (Bl.size (w := w21) hb); clear HS; have HS := hs_; clear hs_; clear hb; clear har_0 har_1 har_2 har_3 har_4 har_5 hfar; obtain ⟨har_0, har_1, har_2, har_3, har_4, har_5, hfar⟩ := boxed6 BKar.out (HS.out.at_ (W := w22)); have Q22 := trivial)
    | ((clear Q22); (with_reducible refine gate_callee (f := 36) rfl ?_); refine goesL_ (some _) rfl rfl Try.func36 (by kernel_rfl) rfl #[.agg #[.string r_0, .slice AVr_r_1 r_1.length cVr_r_1, .slice AVr_r_2 r_2.length cVr_r_2, .int .i64 r_3, .int .i64 r_4, .slice AVr_r_5 r_5.length cVr_r_5], .int .i64 sd, .int .i64 st, .int .i64 ea, .slice AVrg rg.length cVrg] rfl aw_ ?_; (with_reducible refine (impl_GrowStages.calls k r_0 _ _ r_1 _ _ r_2 r_3 r_4 _ _ r_5 sd st ea _ _ rg R0 R1 _ ?s0 ?t0 ?s1 ?t1 ?s2 ?t2 ?s3 ?t3 I.out).mono ?_); (case s0 => exact HS.out.C (RC HOVr_r_1.out)); (case t0 => exact RL HOVr_r_1.out); (case s1 => exact HS.out.C (RC HOVr_r_2.out)); (case t1 => exact RL HOVr_r_2.out); (case s2 => exact HS.out.C (SC HOVr_r_5.out)); (case t2 => exact SL HOVr_r_5.out); (case s3 => exact HS.out.C (SC HOVrg.out)); (case t3 => exact SL HOVrg.out); rintro e w23 ⟨v0, rfl, ho0, hb⟩; refine ⟨_, rfl, ?_⟩; obtain ⟨AH0, cH0, ev⟩ := Kd.R_slice ho0; subst ev; have HOH0 := Aside0.mk (Kd.R_lower ho0 (below_size (Bl.out (w := w22)))); clear ho0; have hs_ := Aside0.mk (HS.out.go hb); have M_w23 := Aside0.mk (Bl.size (w := w22) hb); clear HS; have HS := hs_; clear hs_; clear hb; clear har_0 har_1 har_2 har_3 har_4 har_5 hfar; obtain ⟨har_0, har_1, har_2, har_3, har_4, har_5, hfar⟩ := boxed6 BKar.out (HS.out.at_ (W := w23)); have Q23 := trivial)
    | ((clear Q23); (with_reducible refine gate_callee (f := 17) rfl ?_); refine goesL_ (some _) rfl rfl Try.func17 (by kernel_rfl) rfl #[.slice AH0 R0.length cH0, .slice AW0 R0.length cW0] rfl aw_ ?_; (with_reducible refine (laws_eqInt64S.calls k _ _ R0 _ _ R0 true _ ?s0 ?t0 ?s1 ?t1 ER0.out).mono ?_); (case s0 => exact HS.out.C (RC HOH0.out)); (case t0 => exact RL HOH0.out); (case s1 => exact HS.out.C (RC HOW0.out)); (case t1 => exact RL HOW0.out); rintro e w24 ⟨rfl, hb_⟩; refine ⟨_, rfl, ?_⟩; have hb := below_of hb_; clear hb_; have hs_ := Aside0.mk (HS.out.go hb); have M_w24 := Aside0.mk (Bl.size (w := w23) hb); clear HS; have HS := hs_; clear hs_; clear hb; clear har_0 har_1 har_2 har_3 har_4 har_5 hfar; obtain ⟨har_0, har_1, har_2, har_3, har_4, har_5, hfar⟩ := boxed6 BKar.out (HS.out.at_ (W := w24)); have Q24 := trivial)
    | ((clear Q24); (with_reducible refine gate_callee (f := 21) rfl ?_); refine goesL_ (some _) rfl rfl Try.func21 (by kernel_rfl) rfl #[.slice AG0 N0.length cG0, .int .i64 1] rfl (by (try simp only [List.map_toArray, List.map_cons, List.map_nil]); first | done | (rw [show N0.length = R0.length from HL0.out.symm] <;> rfl) | rfl) ?_; (with_reducible refine (laws_heldInt64S.calls k _ _ N0 1 m0 _ ?s0 ?t0 HR0.out).mono ?_); (case s0 => exact HS.out.C (RC HY0.out)); (case t0 => exact (HL0.out ▸ RL HY0.out)); rintro e w25 ⟨rfl, hb_⟩; refine ⟨_, rfl, ?_⟩; have hb := below_of hb_; clear hb_; have hs_ := Aside0.mk (HS.out.go hb); have M_w25 := Aside0.mk (Bl.size (w := w24) hb); clear HS; have HS := hs_; clear hs_; clear hb; clear har_0 har_1 har_2 har_3 har_4 har_5 hfar; obtain ⟨har_0, har_1, har_2, har_3, har_4, har_5, hfar⟩ := boxed6 BKar.out (HS.out.at_ (W := w25)); have Q25 := trivial))
  go_ret
  exact ⟨sv_, HS.out.at_⟩

end Go.Proofs.Ytinlejhffokbaaa.P
end

section
namespace Go.Proofs.Ytinlejhffokbaaa.Pure
open Go.RowKit Go.Proofs.Ytinlejhffokbaaa.P Go.Proofs.YtinlejhffokbaaaW.PrintWords Go.Proofs.YtinlejhffokbaaaW.PrintLast Go.Proofs.YtinlejhffokbaaaW.PrintMore
set_option linter.unusedVariables false
set_option linter.unusedSimpArgs false

/-- A range: two pitches, the start between them, no narrower than the one ahead of it. -/
def stageB (st : Int) (R : List (List Int)) (j : Nat) : Bool := decide ((rd_L1 R j).length = 2 ∧ -12 ≤ rd (rd_L1 R j) 0 ∧ rd (rd_L1 R j) 0 ≤ rd (rd_L1 R j) 1 ∧ rd (rd_L1 R j) 1 ≤ 23 ∧ rd (rd_L1 R j) 0 ≤ st ∧ st ≤ rd (rd_L1 R j) 1 ∧ (j = 0 ∨ (rd (rd_L1 R j) 0 ≤ rd (rd_L1 R ((j : Int) - 1)) 0 ∧ rd (rd_L1 R ((j : Int) - 1)) 1 ≤ rd (rd_L1 R j) 1)))
def wideB (st : Int) (R : List (List Int)) : Nat → Nat → Bool
  | 0, _ => true
  | d + 1, i => stageB st R i && wideB st R d (i + 1)
theorem wideB_all {st : Int} {R : List (List Int)} : ∀ (d i : Nat), wideB st R d i = true → ∀ j, i ≤ j → j < i + d → stageB st R j = true := by
  intro d
  induction d with
  | zero => intro i _ j h1 h2; omega
  | succ d ih =>
    intro i h j h1 h2
    simp only [wideB, Bool.and_eq_true] at h
    by_cases c : j = i
    · rw [c]; exact h.1
    · exact ih (i + 1) h.2 j (by omega) (by omega)
theorem prev_of {R : List (List Int)} {i : Nat} (h : (rd_L1 R i).length = 2) : i + 1 = 0 ∨ (rd_L1 R (((i + 1 : Nat) : Int) - 1)).length = 2 := .inr (by rw [show ((i + 1 : Nat) : Int) - 1 = (i : Int) by omega]; exact h)
theorem wider_l0 (R : List (List Int)) (st : Int) (hR : R.length ≤ 1048576) : ∀ (d i : Nat), R.length - i = d → (i = 0 ∨ (rd_L1 R ((i : Int) - 1)).length = 2) → Ev (fun k => spec_l13Wider.l0 k R st i) (wideB st R d i && (decide (1 ≤ (R.length : Int)) && decide ((R.length : Int) ≤ 8))) := by
  intro d
  induction d with
  | zero =>
    intro i hd _
    refine Ev.succ ?_
    simp only [spec_l13Wider.l0]
    exact Ev.ite_neg (by omega) (Ev.bindc (spec_l00In_eq _ _ _) (Ev.cast (Ev.now _) (by simp [wideB])))
  | succ d ih =>
    intro i hd hp
    refine Ev.succ ?_
    simp only [spec_l13Wider.l0, wideB]
    refine Ev.ite_pos (by omega) (Ev.ite_pos (by omega) ?_)
    have jt : Ev (fun k => spec_l13Wider.j1 k R st i (rd_L1 R i) true) false := Ev.succ (by simp only [spec_l13Wider.j1]; exact Ev.ite_pos (by simp) (Ev.now _))
    have no : ∀ g : Nat → Option Bool, Ev g false → stageB st R i = false → Ev g (stageB st R i && wideB st R d (i + 1) && (decide (1 ≤ (R.length : Int)) && decide ((R.length : Int) ≤ 8))) := fun g h e => by rw [e, Bool.false_and, Bool.false_and]; exact h
    by_cases l2 : ((rd_L1 R i).length : Int) = 2
    case neg => exact no _ (Ev.ite_neg l2 jt) (decide_eq_false (fun h => by have := h.1; omega))
    refine Ev.ite_pos l2 (Ev.ite_pos (by omega) (Ev.bindc (spec_l03Pitch_eq _) ?_))
    cases p0 : inP (rd (rd_L1 R i) 0) with
    | false => exact no _ (Ev.ite_neg (by decide) jt) (decide_eq_false (fun h => by simp [inP] at p0; omega))
    | true =>
      refine Ev.ite_pos rfl (Ev.ite_pos (by omega) (Ev.bindc (spec_l03Pitch_eq _) ?_))
      cases p1 : inP (rd (rd_L1 R i) 1) with
      | false => exact no _ (Ev.ite_neg (by decide) jt) (decide_eq_false (fun h => by simp [inP] at p1 p0; omega))
      | true =>
        refine Ev.ite_pos rfl (Ev.bindc (spec_l00In_eq _ _ _) ?_)
        cases p2 : (decide (rd (rd_L1 R i) 0 ≤ st) && decide (st ≤ rd (rd_L1 R i) 1)) with
        | false => exact no _ jt (decide_eq_false (fun h => by simp at p2; omega))
        | true =>
          have q0 : -12 ≤ rd (rd_L1 R i) 0 ∧ rd (rd_L1 R i) 0 ≤ 23 := by simpa [inP] using p0
          have q1 : -12 ≤ rd (rd_L1 R i) 1 ∧ rd (rd_L1 R i) 1 ≤ 23 := by simpa [inP] using p1
          have q2 : rd (rd_L1 R i) 0 ≤ st ∧ st ≤ rd (rd_L1 R i) 1 := by simpa using p2
          have go := ih (i + 1) (by omega) (prev_of (by omega))
          refine Ev.succ ?_
          simp only [spec_l13Wider.j1]
          rw [w64 (x := (i : Int) - 1) (by omega) (by omega), w64 (x := (i : Int) + 1) (by omega) (by omega)]
          refine Ev.ite_neg (by decide) ?_
          have yes : stageB st R i = true → Ev (fun k => spec_l13Wider.l0 k R st ((i : Int) + 1)) (stageB st R i && wideB st R d (i + 1) && (decide (1 ≤ (R.length : Int)) && decide ((R.length : Int) ≤ 8))) := fun e => by rw [e, Bool.true_and]; exact go
          by_cases c0 : i = 0
          · exact Ev.ite_neg (by omega) (yes (decide_eq_true ⟨by omega, by omega, by omega, by omega, by omega, by omega, .inl c0⟩))
          · have hp' := hp.resolve_left c0
            refine Ev.ite_pos (by omega) (Ev.ite_pos (by omega) (Ev.ite_pos (by omega) (Ev.ite_pos (by omega) (Ev.ite_pos (by omega) ?_))))
            by_cases c1 : rd (rd_L1 R i) 0 > rd (rd_L1 R ((i : Int) - 1)) 0
            · exact no _ (Ev.ite_pos c1 (Ev.now _)) (decide_eq_false (fun h => by omega))
            · refine Ev.ite_neg c1 (Ev.ite_pos (by omega) (Ev.ite_pos (by omega) ?_))
              by_cases c2 : rd (rd_L1 R i) 1 < rd (rd_L1 R ((i : Int) - 1)) 1
              · exact no _ (Ev.ite_pos c2 (Ev.now _)) (decide_eq_false (fun h => by omega))
              · exact Ev.ite_neg c2 (yes (decide_eq_true ⟨by omega, by omega, by omega, by omega, by omega, by omega, .inr ⟨by omega, by omega⟩⟩))
theorem iwider_l0 (R : List (List Int)) (sd st e : Int) (s : ByteArray) (u d : List Int) (a b : Int) (f : List (List Int)) (hR : R.length ≤ 1048576) (Z : List Int × Int) (hZ : (∀ j, j < R.length → stageB st R j = true) → Ev (fun k => (impl_ToneOf.f st).bind fun t476 => ((impl_Raga_hasTone.f k s u d a b f t476).bind fun t477 => (if t477 = true then (impl_GrowStages.l1 k e (([st] : List Int)) R (R.length : Int) 0 s u d a b f sd) else (some (([] : List Int), 3))))) Z) :
    ∀ (m i : Nat), R.length - i = m → (i = 0 ∨ (rd_L1 R ((i : Int) - 1)).length = 2) → (∀ j, j < i → stageB st R j = true) → Ev (fun k => impl_GrowStages.l0 k sd st e R R (R.length : Int) i s u d a b f) (if wideB st R m i = true then Z else ([], 7)) := by
  intro m
  induction m with
  | zero =>
    intro i hd _ hpre
    refine Ev.succ ?_
    simp only [impl_GrowStages.l0]
    exact Ev.ite_neg (by omega) (by simpa [wideB] using hZ (fun j h => hpre j (by omega)))
  | succ m ih =>
    intro i hd hp hpre
    refine Ev.succ ?_
    simp only [impl_GrowStages.l0, wideB]
    rw [w64 (x := (i : Int) - 1) (by omega) (by omega), w64 (x := (i : Int) + 1) (by omega) (by omega)]
    refine Ev.ite_pos (by omega) (Ev.ite_pos (by omega) (Ev.ite_pos (by omega) ?_))
    have no : ∀ g : Nat → Option (List Int × Int), Ev g ([], 7) → stageB st R i = false → Ev g (if (stageB st R i && wideB st R m (i + 1)) = true then Z else ([], 7)) := fun g h e => by rw [e, Bool.false_and, if_neg Bool.false_ne_true]; exact h
    by_cases l2 : ((rd_L1 R i).length : Int) = 2
    case neg => exact no _ (Ev.ite_neg l2 (Ev.now _)) (decide_eq_false (fun h => by have := h.1; omega))
    refine Ev.ite_pos l2 (Ev.ite_pos (by omega) (Ev.ite_pos (by omega) (Ev.bindc (impl_rangeOk_eq _ _) ?_)))
    cases p0 : (inP (rd (rd_L1 R i) 0) && inB (rd (rd_L1 R i) 1) (rd (rd_L1 R i) 0) 23) with
    | false => exact no _ (Ev.ite_neg (by decide) (Ev.now _)) (decide_eq_false (fun h => by simp [inP, inB] at p0; omega))
    | true =>
      refine Ev.ite_pos rfl (Ev.bindc (impl_within_eq _ _ _) ?_)
      cases p2 : (decide (rd (rd_L1 R i) 0 ≤ st) && decide (st ≤ rd (rd_L1 R i) 1)) with
      | false => exact no _ (Ev.ite_neg (by decide) (Ev.now _)) (decide_eq_false (fun h => by simp at p2; omega))
      | true =>
        have q0 : -12 ≤ rd (rd_L1 R i) 0 ∧ rd (rd_L1 R i) 0 ≤ rd (rd_L1 R i) 1 ∧ rd (rd_L1 R i) 1 ≤ 23 := by simp [inP, inB] at p0; omega
        have q2 : rd (rd_L1 R i) 0 ≤ st ∧ st ≤ rd (rd_L1 R i) 1 := by simpa using p2
        have yes : stageB st R i = true → Ev (fun k => impl_GrowStages.l0 k sd st e R R (R.length : Int) ((i : Int) + 1) s u d a b f) (if (stageB st R i && wideB st R m (i + 1)) = true then Z else ([], 7)) := fun e => by
          have go := ih (i + 1) (by omega) (prev_of (by omega)) (fun j h => by
            by_cases c : j = i
            · rw [c]; exact e
            · exact hpre j (by omega))
          rw [e, Bool.true_and]
          exact go
        refine Ev.ite_pos rfl ?_
        by_cases c0 : i = 0
        · exact Ev.ite_neg (by omega) (yes (decide_eq_true ⟨by omega, by omega, by omega, by omega, by omega, by omega, .inl c0⟩))
        · have hp' := hp.resolve_left c0
          refine Ev.ite_pos (by omega) (Ev.ite_pos (by omega) (Ev.ite_pos (by omega) (Ev.ite_pos (by omega) ?_)))
          by_cases c1 : rd (rd_L1 R i) 0 > rd (rd_L1 R ((i : Int) - 1)) 0
          · exact no _ (Ev.ite_pos c1 (Ev.now _)) (decide_eq_false (fun h => by omega))
          · refine Ev.ite_neg c1 (Ev.ite_pos (by omega) ?_)
            by_cases c2 : rd (rd_L1 R i) 1 < rd (rd_L1 R ((i : Int) - 1)) 1
            · exact no _ (Ev.ite_pos c2 (Ev.now _)) (decide_eq_false (fun h => by omega))
            · exact Ev.ite_neg c2 (yes (decide_eq_true ⟨by omega, by omega, by omega, by omega, by omega, by omega, .inr ⟨by omega, by omega⟩⟩))
theorem growM_grown {u d : List Int} {f : List (List Int)} {lo hi : Int} (h2 : lo ≤ hi) : ∀ (n : Nat) (s : Int) (out o : List Int) (t : Int), Grown lo hi s out → out.length + n < 1000 → growM u d f lo hi n s out = some (o, t) → Grown lo hi t o := by
  intro n
  induction n with
  | zero => intro s out o t hg _ h; simp only [growM, Option.some.injEq, Prod.mk.injEq] at h; rw [← h.1, ← h.2]; exact hg
  | succ n ih =>
    intro s out o t hg hl h
    simp only [growM] at h
    split at h
    · cases h
    · rename_i c
      exact ih _ _ _ _ (growM_step hg h2 c (by omega)) (by simp; omega) h
def stZ (Z : List Int → Int → List Int × Int) : Option (List Int × Int) → List Int × Int
  | none => ([], 3)
  | some p => Z p.1 p.2
theorem igrow_l2 (R : List (List Int)) (e : Int) (i : Nat) (s : ByteArray) (u d : List Int) (a b : Int) (f : List (List Int)) (x : List Int) (hi : i < 100) (he : e ≤ 6) (hx : x.length = 2) (h1 : -12 ≤ rd x 0) (h2 : rd x 0 ≤ rd x 1) (h3 : rd x 1 ≤ 23) (hu : u.length ≤ 1048576) (hd : d.length ≤ 1048576) (hf : f.length ≤ 8) (hp : ∀ j, j < f.length → (rd_L1 f j).length = 2) :
    ∀ (m : Nat) (j sd : Int) (out : List Int), (e - j).toNat = m → 0 ≤ j → j ≤ 6 → Grown (rd x 0) (rd x 1) sd out → out.length + m < 900 → ∀ (Z : List Int → Int → List Int × Int), (∀ o t, growM u d f (rd x 0) (rd x 1) m sd out = some (o, t) → Ev (fun k => impl_GrowStages.l1 k e o R (R.length : Int) ((i : Int) + 1) s u d a b f t) (Z o t)) →
    Ev (fun k => impl_GrowStages.l2 k e out x R (R.length : Int) i e j s u d a b f sd) (stZ Z (growM u d f (rd x 0) (rd x 1) m sd out)) := by
  intro m
  induction m with
  | zero =>
    intro j sd out hm _ _ _ _ Z hZ
    refine Ev.succ ?_
    simp only [impl_GrowStages.l2]
    rw [w64 (x := (i : Int) + 1) (by omega) (by omega)]
    exact Ev.ite_neg (by omega) (hZ out sd rfl)
  | succ m ih =>
    intro j sd out hm j0 j1 hg hl Z hZ
    have ⟨g1, g2, g3, g4, g5⟩ := hg
    refine Ev.succ ?_
    simp only [impl_GrowStages.l2]
    simp only [growM] at hZ ⊢
    rw [w64 (x := (i : Int) + 1) (by omega) (by omega), w64 (x := j + 1) (by omega) (by omega), w64 (x := (out.length : Int) - 1) (by omega) (by omega)]
    refine Ev.ite_pos (by omega) (Ev.ite_pos (by omega) (Ev.ite_pos (by omega) (Ev.ite_pos (by omega) (Ev.ite_pos (by omega) (Ev.bind (impl_picker_grow_ev s u d a b f (lastM out) (rd x 0) (rd x 1) sd (by omega) h1 h2 h3 hu hd hf hp g4 g5) ?_)))))
    by_cases c : (stepsM u d f (lastM out) (rd x 0) (rd x 1 + 1 - rd x 0).toNat).length = 0
    · rw [if_pos c]
      unfold grow1
      rw [if_pos c]
      exact Ev.ite_neg Bool.false_ne_true (Ev.now _)
    · rw [if_neg c] at hZ ⊢
      unfold grow1
      rw [if_neg c]
      exact Ev.ite_pos rfl (Ev.ite_pos (by omega) (ih (j + 1) (nextM sd) _ (by omega) (by omega) (by omega) (growM_step hg h2 c (by omega)) (by simp; omega) Z hZ))
def stagesM (u d : List Int) (f R : List (List Int)) (e : Nat) : Nat → Nat → Int → List Int → Option (List Int)
  | 0, _, _, out => some out
  | m + 1, i, s, out => (growM u d f (rd (rd_L1 R i) 0) (rd (rd_L1 R i) 1) e s out).bind fun p => stagesM u d f R e m (i + 1) p.2 p.1
def stR : Option (List Int) → List Int × Int
  | none => ([], 3)
  | some o => (o, 0)
theorem stagesM_length {u d : List Int} {f R : List (List Int)} {e : Nat} : ∀ (m i : Nat) (s : Int) (out o : List Int), stagesM u d f R e m i s out = some o → o.length = out.length + m * e := by
  intro m
  induction m with
  | zero => intro i s out o h; simp only [stagesM, Option.some.injEq] at h; rw [h]; omega
  | succ m ih =>
    intro i s out o h
    simp only [stagesM] at h
    obtain ⟨p, h1, h2⟩ := Option.bind_eq_some_iff.1 h
    have := growM_length _ _ _ _ _ (show growM u d f _ _ e s out = some (p.1, p.2) from h1)
    have := ih _ _ _ _ h2
    rw [Nat.succ_mul]
    omega
theorem stR_stage {u d : List Int} {f R : List (List Int)} {e : Nat} (m i : Nat) (s : Int) (out : List Int) : stZ (fun o t => stR (stagesM u d f R e m (i + 1) t o)) (growM u d f (rd (rd_L1 R i) 0) (rd (rd_L1 R i) 1) e s out) = stR (stagesM u d f R e (m + 1) i s out) := by
  simp only [stagesM]
  cases growM u d f (rd (rd_L1 R i) 0) (rd (rd_L1 R i) 1) e s out <;> rfl
/-- Grown through a range, so grown for the next, wider one. -/
theorem next_grown {st : Int} {R : List (List Int)} {i : Nat} {t : Int} {o : List Int} (hw : stageB st R (i + 1) = true) (h : Grown (rd (rd_L1 R i) 0) (rd (rd_L1 R i) 1) t o) : Grown (rd (rd_L1 R ((i + 1 : Nat) : Int)) 0) (rd (rd_L1 R ((i + 1 : Nat) : Int)) 1) t o := by
  have hq := of_decide_eq_true hw
  rw [show ((i + 1 : Nat) : Int) - 1 = (i : Int) by omega] at hq
  obtain ⟨h1, h2, h3, h4, h5⟩ := h
  exact ⟨h1, h2, by omega, h4, h5⟩
theorem istages (R : List (List Int)) (st e : Int) (s : ByteArray) (u d : List Int) (a b : Int) (f : List (List Int)) (hR : R.length ≤ 8) (he : e ≤ 6) (hw : ∀ j, j < R.length → stageB st R j = true) (hu : u.length ≤ 1048576) (hd : d.length ≤ 1048576) (hf : f.length ≤ 8) (hp : ∀ j, j < f.length → (rd_L1 f j).length = 2) :
    ∀ (m i : Nat) (sd : Int) (out : List Int), R.length - i = m → (i < R.length → Grown (rd (rd_L1 R i) 0) (rd (rd_L1 R i) 1) sd out) → out.length + 6 * m < 900 → Ev (fun k => impl_GrowStages.l1 k e out R (R.length : Int) i s u d a b f sd) (stR (stagesM u d f R e.toNat m i sd out)) := by
  intro m
  induction m with
  | zero =>
    intro i sd out hm _ _
    refine Ev.succ ?_
    simp only [impl_GrowStages.l1]
    exact Ev.ite_neg (by omega) (Ev.now _)
  | succ m ih =>
    intro i sd out hm hg hl
    have hq := of_decide_eq_true (hw i (by omega))
    have g := hg (by omega)
    refine Ev.succ ?_
    simp only [impl_GrowStages.l1]
    refine Ev.ite_pos (by omega) (Ev.ite_pos (by omega) (Ev.ite_pos (by omega) ?_))
    rw [← stR_stage]
    refine igrow_l2 R e i s u d a b f (rd_L1 R i) (by omega) he hq.1 (by omega) (by omega) (by omega) hu hd hf hp e.toNat 0 sd out (by omega) (by omega) (by omega) g (by omega) _ ?_
    intro o t ho
    have hl2 := growM_length _ _ _ _ _ ho
    exact ih (i + 1) t o (by omega) (fun c => next_grown (hw (i + 1) c) (growM_grown (by omega) _ _ _ _ _ g (by omega) ho)) (by omega)
theorem sstages (R : List (List Int)) (st e : Int) (s : ByteArray) (u d : List Int) (a b : Int) (f : List (List Int)) (hR : R.length ≤ 8) (he : e ≤ 6) (hw : ∀ j, j < R.length → stageB st R j = true) (hu : u.length ≤ 1048576) (hd : d.length ≤ 1048576) (hf : f.length ≤ 8) (hp : ∀ j, j < f.length → (rd_L1 f j).length = 2) :
    ∀ (m i : Nat) (sd : Int) (out : List Int), R.length - i = m → (i < R.length → Grown (rd (rd_L1 R i) 0) (rd (rd_L1 R i) 1) sd out) → out.length + 6 * m < 900 → Ev (fun k => spec_GrowStages.l0 k sd e R out i s u d a b f) (stR (stagesM u d f R e.toNat m i sd out)) := by
  intro m
  induction m with
  | zero =>
    intro i sd out hm _ _
    refine Ev.succ ?_
    simp only [spec_GrowStages.l0]
    exact Ev.ite_neg (by omega) (Ev.now _)
  | succ m ih =>
    intro i sd out hm hg hl
    have hq := of_decide_eq_true (hw i (by omega))
    have g := hg (by omega)
    refine Ev.succ ?_
    simp only [spec_GrowStages.l0]
    rw [w64 (x := (i : Int) + 1) (by omega) (by omega)]
    refine Ev.ite_pos (by omega) (Ev.ite_pos (by omega) (Ev.ite_pos (by omega) (Ev.ite_pos (by omega) (Ev.bind (spec_l13Grow_ev s u d a b f (rd (rd_L1 R i) 0) (rd (rd_L1 R i) 1) e sd out (by omega) (by omega) (by omega) (by omega) hu hd hf hp g (by omega)) ?_))))
    simp only [stagesM]
    cases ho : growM u d f (rd (rd_L1 R i) 0) (rd (rd_L1 R i) 1) e.toNat sd out with
    | none => exact Ev.ite_neg Bool.false_ne_true (Ev.now _)
    | some p =>
      have hl2 := growM_length _ _ _ _ _ (show growM u d f _ _ e.toNat sd out = some (p.1, p.2) from ho)
      exact Ev.ite_pos rfl (ih (i + 1) p.2 p.1 (by omega) (fun c => next_grown (hw (i + 1) c) (growM_grown (by omega) _ _ _ _ _ g (by omega) ho)) (by omega))
theorem bothGrowStages (s : ByteArray) (u d : List Int) (a b : Int) (f : List (List Int)) (sd st e : Int) (R : List (List Int)) (h0 : Fits s u d f) (hR : R.length ≤ 1048576) : ∃ r c, r.length ≤ 1000 ∧ Ev (fun k => spec_GrowStages.f k s u d a b f sd st e R) (r, c) ∧ Ev (fun k => impl_GrowStages.f k s u d a b f sd st e R) (r, c) := by
  have a0 := spec_l05Ok_ev s u d a b f h0.1 h0.2.1 h0.2.2.1 h0.2.2.2.1
  have b0 := impl_ValidRaga_ev s u d a b f h0.1 h0.2.1 h0.2.2.1 h0.2.2.2.1
  have jt : Ev (fun k => impl_GrowStages.j0 k sd st e R true s u d a b f) ([], 2) := Ev.succ (by simp only [impl_GrowStages.j0]; exact Ev.ite_pos (by simp) (Ev.now _))
  have js : Ev (fun k => spec_GrowStages.j0 k sd st e R true s u d a b f) ([], 2) := Ev.succ (by simp only [spec_GrowStages.j0]; exact Ev.ite_pos (by simp) (Ev.now _))
  unfold spec_GrowStages.f impl_GrowStages.f
  cases v0 : ragaB s u d a b f with
  | false => exact ⟨[], 1, by simp, Ev.bind a0 (Ev.ite_neg (by rw [v0]; decide) (Ev.now _)), Ev.bind b0 (Ev.ite_neg (by rw [v0]; decide) (Ev.now _))⟩
  | true =>
    obtain ⟨p1, p2, p3, p4⟩ := ragaB_parts v0
    cases c1 : (decide (0 ≤ sd) && decide (sd ≤ 999999)) with
    | false => exact ⟨[], 2, by simp, Ev.bind a0 (Ev.ite_pos v0 (Ev.bindc (spec_l13Seed_eq sd) (Ev.ite_neg (by rw [c1]; decide) js))), Ev.bind b0 (Ev.ite_pos v0 (Ev.bindc (impl_seedOk_eq sd) (Ev.ite_neg (by rw [c1]; decide) jt)))⟩
    | true =>
      cases c2 : inP st with
      | false => exact ⟨[], 2, by simp, Ev.bind a0 (Ev.ite_pos v0 (Ev.bindc (spec_l13Seed_eq sd) (Ev.ite_pos c1 (Ev.bindc (spec_l03Pitch_eq st) (Ev.ite_neg (by rw [c2]; decide) js))))), Ev.bind b0 (Ev.ite_pos v0 (Ev.bindc (impl_seedOk_eq sd) (Ev.ite_pos c1 (Ev.bindc (impl_pitchOk_eq st) (Ev.ite_neg (by rw [c2]; decide) jt)))))⟩
      | true =>
        obtain ⟨t, ht⟩ : ∃ t, t = (decide (1 ≤ e) && decide (e ≤ 6)) := ⟨_, rfl⟩
        suffices hh : ∃ r c, r.length ≤ 1000 ∧ Ev (fun k => spec_GrowStages.j0 k sd st e R (!t) s u d a b f) (r, c) ∧ Ev (fun k => impl_GrowStages.j0 k sd st e R (!t) s u d a b f) (r, c) by
          obtain ⟨r, c, h1, h2, h3⟩ := hh
          rw [ht] at h2 h3
          exact ⟨r, c, h1, Ev.bind a0 (Ev.ite_pos v0 (Ev.bindc (spec_l13Seed_eq sd) (Ev.ite_pos c1 (Ev.bindc (spec_l03Pitch_eq st) (Ev.ite_pos c2 (Ev.bindc (spec_l00In_eq e 1 6) h2)))))), Ev.bind b0 (Ev.ite_pos v0 (Ev.bindc (impl_seedOk_eq sd) (Ev.ite_pos c1 (Ev.bindc (impl_pitchOk_eq st) (Ev.ite_pos c2 (Ev.bindc (impl_within_eq e 1 6) h3))))))⟩
        cases t with
        | false => exact ⟨[], 2, by simp, js, jt⟩
        | true =>
          have q1 : 0 ≤ sd ∧ sd ≤ 999999 := by simpa using c1
          have q3 : 1 ≤ e ∧ e ≤ 6 := by simpa using ht.symm
          have hW := wider_l0 R st hR R.length 0 (by omega) (.inl rfl)
          have eW : Ev (fun k => spec_l13Wider.f k R st) (wideB st R R.length 0 && (decide (1 ≤ (R.length : Int)) && decide ((R.length : Int) ≤ 8))) := by unfold spec_l13Wider.f; exact hW
          have hS : ∀ r, Ev (fun k => (spec_l13Wider.f k R st).bind fun t443 => (if t443 = true then ((spec_l03Tone.f st).bind fun t444 => ((spec_l05Tone.f k s u d a b f t444).bind fun t445 => (if t445 = true then (spec_GrowStages.l0 k sd e R (([st] : List Int)) 0 s u d a b f) else (some (([] : List Int), 3))))) else (some (([] : List Int), 7)))) r → Ev (fun k => spec_GrowStages.j0 k sd st e R (!true) s u d a b f) r := fun r h => Ev.succ (by simp only [spec_GrowStages.j0]; exact Ev.ite_neg (by decide) h)
          have hI : ∀ r, Ev (fun k => if (R.length : Int) < 1 then (some (([] : List Int), 7)) else (if (R.length : Int) > 8 then (some (([] : List Int), 7)) else (impl_GrowStages.l0 k sd st e R R (R.length : Int) 0 s u d a b f))) r → Ev (fun k => impl_GrowStages.j0 k sd st e R (!true) s u d a b f) r := fun r h => Ev.succ (by simp only [impl_GrowStages.j0]; exact Ev.ite_neg (by decide) h)
          by_cases l1 : (R.length : Int) < 1
          · exact ⟨[], 7, by simp, hS _ (Ev.bind eW (Ev.ite_neg (by simp; omega) (Ev.now _))), hI _ (Ev.ite_pos l1 (Ev.now _))⟩
          by_cases l8 : (R.length : Int) > 8
          · exact ⟨[], 7, by simp, hS _ (Ev.bind eW (Ev.ite_neg (by simp; omega) (Ev.now _))), hI _ (Ev.ite_neg l1 (Ev.ite_pos l8 (Ev.now _)))⟩
          have eL : (decide (1 ≤ (R.length : Int)) && decide ((R.length : Int) ≤ 8)) = true := by simp; omega
          rw [eL, Bool.and_true] at eW
          cases hw : wideB st R R.length 0 with
          | false =>
            have w0 := iwider_l0 R sd st e s u d a b f hR ([], 0) (fun h => by
              exfalso
              have : ∀ (d i : Nat), i + d ≤ R.length → wideB st R d i = true := by
                intro d
                induction d with
                | zero => intro i _; rfl
                | succ d ih => intro i hi; simp only [wideB, Bool.and_eq_true]; exact ⟨h i (by omega), ih (i + 1) (by omega)⟩
              rw [this R.length 0 (by omega)] at hw
              cases hw) R.length 0 (by omega) (.inl rfl) (fun j h => by omega)
            rw [hw, if_neg Bool.false_ne_true] at w0
            exact ⟨[], 7, by simp, hS _ (Ev.bind eW (Ev.ite_neg (by rw [hw]; decide) (Ev.now _))), hI _ (Ev.ite_neg l1 (Ev.ite_neg l8 w0))⟩
          | true =>
            have hall : ∀ j, j < R.length → stageB st R j = true := fun j h => wideB_all R.length 0 hw j (by omega) (by omega)
            have g0 : 0 < R.length → Grown (rd (rd_L1 R ((0 : Nat) : Int)) 0) (rd (rd_L1 R ((0 : Nat) : Int)) 1) sd [st] := fun h => by
              have hq := of_decide_eq_true (hall 0 h)
              exact ⟨by simp, by simp, by simp [lastM, rd] at hq ⊢; omega, q1.1, q1.2⟩
            cases c5 : toneB u d (tn st) with
            | false =>
              have w0 := iwider_l0 R sd st e s u d a b f hR ([], 3) (fun _ => Ev.bindc (show impl_ToneOf.f st = some (tn st) from rfl) (Ev.bind (impl_hasTone_ev s u d a b f _ h0.2.1 h0.2.2.1) (Ev.ite_neg (by rw [c5]; decide) (Ev.now _)))) R.length 0 (by omega) (.inl rfl) (fun j h => by omega)
              rw [hw, if_pos rfl] at w0
              exact ⟨[], 3, by simp, hS _ (Ev.bind eW (Ev.ite_pos hw (Ev.bindc (show spec_l03Tone.f st = some (tn st) from rfl) (Ev.bind (spec_l05Tone_ev s u d a b f _ h0.2.1 h0.2.2.1) (Ev.ite_neg (by rw [c5]; decide) (Ev.now _)))))), hI _ (Ev.ite_neg l1 (Ev.ite_neg l8 w0))⟩
            | true =>
              have eI := istages R st e s u d a b f (by omega) q3.2 hall h0.2.1 h0.2.2.1 p3 p4 R.length 0 sd [st] (by omega) g0 (by simp; omega)
              have eS := sstages R st e s u d a b f (by omega) q3.2 hall h0.2.1 h0.2.2.1 p3 p4 R.length 0 sd [st] (by omega) g0 (by simp; omega)
              have w0 := iwider_l0 R sd st e s u d a b f hR _ (fun _ => Ev.bindc (show impl_ToneOf.f st = some (tn st) from rfl) (Ev.bind (impl_hasTone_ev s u d a b f _ h0.2.1 h0.2.2.1) (Ev.ite_pos c5 eI))) R.length 0 (by omega) (.inl rfl) (fun j h => by omega)
              rw [hw, if_pos rfl] at w0
              have fS := hS _ (Ev.bind eW (Ev.ite_pos hw (Ev.bindc (show spec_l03Tone.f st = some (tn st) from rfl) (Ev.bind (spec_l05Tone_ev s u d a b f _ h0.2.1 h0.2.2.1) (Ev.ite_pos c5 eS)))))
              have fI := hI _ (Ev.ite_neg l1 (Ev.ite_neg l8 w0))
              cases ho : stagesM u d f R e.toNat R.length 0 sd [st] with
              | none => rw [ho] at fS fI; exact ⟨[], 3, by simp, fS, fI⟩
              | some o =>
                have hl := stagesM_length _ _ _ _ _ ho
                rw [ho] at fS fI
                refine ⟨o, 0, ?_, fS, fI⟩
                have h6 : e.toNat ≤ 6 := by omega
                have := Nat.mul_le_mul (show R.length ≤ 8 by omega) h6
                simp at hl
                omega
theorem FnExactGrowStages : laws_FnExactGrowStages.Pure := by
  intro s0 u0 d0 st0 wk0 f0 sd a n R hs0 ⟨hu0, _⟩ ⟨hd0, _⟩ _ _ ⟨hf0, hr0⟩ _ _ _ ⟨hR0, hRr⟩
  obtain ⟨z, ez, cz⟩ := szRaga_ge s0 u0 d0 st0 wk0 f0 1048576 (by omega) (by omega) hs0 hu0 hd0 hf0 (fun y hy => (hr0 y hy).1)
  rcases cz with cz | ⟨z0, z1, h0⟩
  · obtain ⟨k, hk⟩ := Ev.out ez
    exact ⟨k, z, hk, .inl cz⟩
  obtain ⟨y, ey, cy⟩ := szInt64SS_ge R z z0 z1 hR0 (fun y hy => (hRr y hy).1)
  rcases cy with cy | ⟨y0, y1, hR, hRj⟩
  · obtain ⟨K, hK⟩ := Ev.and ez ey
    obtain ⟨k1, k2⟩ := hK K (Nat.le_refl _)
    exact ⟨K, z, k1, .inr ⟨by omega, y, k2, .inl cy⟩⟩
  obtain ⟨r, c, lr, es, ei⟩ := bothGrowStages s0 u0 d0 st0 wk0 f0 sd a n R h0 hR
  obtain ⟨v, v0, em⟩ := markRaga_le s0 u0 d0 st0 wk0 f0 h0
  obtain ⟨v', M, v1, em'⟩ := markInt64SS_ev R v hRj hR v0.1 (by omega)
  obtain ⟨K, hK⟩ := Ev.and ez (Ev.and ey (Ev.and es (Ev.and ei (Ev.and (toRaga_ev h0 st0 wk0) (Ev.and (eqRaga_self h0 st0 wk0) (Ev.and (toInt64SS_ev R hR hRj) (Ev.and (eqInt64SS_self R hR hRj) (Ev.and em (Ev.and em' (Ev.and (eqInt64S_self r (by omega)) (Ev.and (markInt64S_ev r 1 (by omega) (by omega) (by omega)) (heldInt64S_ev r.length 1 (by omega) (by omega) (by omega)))))))))))))
  obtain ⟨k1, k2, k3, k4, k5, k6, k7, k8, k9, k10, k11, k12, k13⟩ := hK K (Nat.le_refl _)
  exact ⟨K, z, k1, .inr ⟨by omega, y, k2, .inr ⟨by omega, r, c, v, v', M, _, _, k3, k4, k5, k6, k7, k8, k9, k10, v1.1, k11, k12, k13, by omega⟩⟩⟩

end Go.Proofs.Ytinlejhffokbaaa.Pure
end
