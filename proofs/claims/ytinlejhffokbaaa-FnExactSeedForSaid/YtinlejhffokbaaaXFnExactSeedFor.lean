/- The pure statement of FnExactSeedFor. No condition. -/
import Derived.Test.YtinlejhffokbaaaGSF1
import Derived.Test.YtinlejhffokbaaaGSF2
import Derived.Test.YtinlejhffokbaaaGSF3
import Derived.Test.YtinlejhffokbaaaGSF4
import Derived.Test.YtinlejhffokbaaaGSF5
import Derived.Test.YtinlejhffokbaaaGSF6
import Derived.Test.YtinlejhffokbaaaGSF7
section
namespace Go.Proofs.Ytinlejhffokbaaa.P
open Go.RowKit Go.Proofs.YtinlejhffokbaaaW.PrintWords Go.Proofs.YtinlejhffokbaaaW.PrintLast Go.Proofs.YtinlejhffokbaaaW.PrintMore
attribute [local go_sem] max2_int min2_int max_two min_two max_three min_three max_four min_four   -- for this text's walks alone
set_option linter.unusedVariables false
set_option linter.unusedSimpArgs false

/-! ### laws_FnExactSeedFor: function 7 (given) -/
/-- What the plain side tells: both give the same, and what the laws' helpers say of it. -/
def laws_FnExactSeedFor.Pure : Prop := ∀ (r_0 : ByteArray) (r_1 : List Int) (r_2 : List Int) (r_3 : Int) (r_4 : Int) (r_5 : List (List Int)) (p : List Int) (lo : Int) (hi : Int) (mo : Int), r_0.size ≤ maxLen → (r_1.length ≤ maxLen ∧ ∀ y0 ∈ r_1, (Lit.int .i64 y0).wf = true) → (r_2.length ≤ maxLen ∧ ∀ y0 ∈ r_2, (Lit.int .i64 y0).wf = true) → (Lit.int .i64 r_3).wf = true → (Lit.int .i64 r_4).wf = true → (r_5.length ≤ maxLen ∧ ∀ y0 ∈ r_5, (y0.length ≤ maxLen ∧ ∀ y1 ∈ y0, (Lit.int .i64 y1).wf = true)) → (p.length ≤ maxLen ∧ ∀ y0 ∈ p, (Lit.int .i64 y0).wf = true) → (Lit.int .i64 lo).wf = true → (Lit.int .i64 hi).wf = true → (Lit.int .i64 mo).wf = true → ∃ k : Nat, 1048576 < (p.length : Int) ∨ (¬ 1048576 < (p.length : Int) ∧ ∃ zr : Int, laws_szRaga.f k r_0 r_1 r_2 r_3 r_4 r_5 1048576 = some zr ∧ (zr < 0 ∨ (¬ zr < 0 ∧ ∃ (R0 : Int) (R1 : Int), spec_SeedFor.f k r_0 r_1 r_2 r_3 r_4 r_5 p lo hi mo = some (R0, R1) ∧ impl_SeedFor.f k r_0 r_1 r_2 r_3 r_4 r_5 p lo hi mo = some (R0, R1) ∧ laws_toRaga.f k r_0 r_1 r_2 r_3 r_4 r_5 = some (r_0, r_1, r_2, r_3, r_4, r_5) ∧ laws_eqRaga.f k r_0 r_1 r_2 r_3 r_4 r_5 r_0 r_1 r_2 r_3 r_4 r_5 = some true ∧ laws_toInt64S.f k p = some p ∧ laws_eqInt64S.f k p p = some true)))
set_option maxHeartbeats 16000000 in
set_option maxRecDepth 100000 in
theorem laws_FnExactSeedFor.walk (P : laws_FnExactSeedFor.Pure) (r_0 : ByteArray) (Ar_1 : Option Addr) (cr_1 : Nat) (r_1 : List Int) (Ar_2 : Option Addr) (cr_2 : Nat) (r_2 : List Int) (r_3 : Int) (r_4 : Int) (Ar_5 : Option Addr) (cr_5 : Nat) (r_5 : List (List Int)) (Ap : Option Addr) (cp : Nat) (p : List Int) (lo : Int) (hi : Int) (mo : Int) (w : World) (hrr_1 : Kd.C (Kd.int .i64) w Ar_1 r_1.length r_1) (hcr_1 : r_1.length ≤ cr_1) (hrr_2 : Kd.C (Kd.int .i64) w Ar_2 r_2.length r_2) (hcr_2 : r_2.length ≤ cr_2) (hrr_5 : Kd.C (Kd.slice 2 (Kd.int .i64)) w Ar_5 r_5.length r_5) (hcr_5 : r_5.length ≤ cr_5) (hrp : Kd.C (Kd.int .i64) w Ap p.length p) (hcp : p.length ≤ cp) (w_r_0 : r_0.size ≤ maxLen) (w_r_1 : (r_1.length ≤ maxLen ∧ ∀ y0 ∈ r_1, (Lit.int .i64 y0).wf = true)) (w_r_2 : (r_2.length ≤ maxLen ∧ ∀ y0 ∈ r_2, (Lit.int .i64 y0).wf = true)) (w_r_3 : (Lit.int .i64 r_3).wf = true) (w_r_4 : (Lit.int .i64 r_4).wf = true) (w_r_5 : (r_5.length ≤ maxLen ∧ ∀ y0 ∈ r_5, (y0.length ≤ maxLen ∧ ∀ y1 ∈ y0, (Lit.int .i64 y1).wf = true))) (w_p : (p.length ≤ maxLen ∧ ∀ y0 ∈ p, (Lit.int .i64 y0).wf = true)) (w_lo : (Lit.int .i64 lo).wf = true) (w_hi : (Lit.int .i64 hi).wf = true) (w_mo : (Lit.int .i64 mo).wf = true) :
    Calls Try.prog 7 #[.agg #[.string r_0, .slice Ar_1 r_1.length cr_1, .slice Ar_2 r_2.length cr_2, .int .i64 r_3, .int .i64 r_4, .slice Ar_5 r_5.length cr_5], .slice Ap p.length cp, .int .i64 lo, .int .i64 hi, .int .i64 mo] w fun e w' => e = .returned (.bool true) ∧ Below w.heap.size w w' := by
  obtain ⟨k, HP⟩ := P r_0 r_1 r_2 r_3 r_4 r_5 p lo hi mo w_r_0 w_r_1 w_r_2 w_r_3 w_r_4 w_r_5 w_p w_lo w_hi w_mo
  clear P w_r_0 w_r_1 w_r_2 w_r_3 w_r_4 w_r_5 w_p w_lo w_hi w_mo
  have HRr_1 := Aside0.mk hrr_1
  have HCr_1 := Aside0.mk hcr_1
  clear hrr_1 hcr_1
  have HRr_2 := Aside0.mk hrr_2
  have HCr_2 := Aside0.mk hcr_2
  clear hrr_2 hcr_2
  have HRr_5 := Aside0.mk hrr_5
  have HCr_5 := Aside0.mk hcr_5
  clear hrr_5 hcr_5
  have HRp := Aside0.mk hrp
  have HCp := Aside0.mk hcp
  clear hrp hcp
  have HS := Aside0.mk (Since.start w)
  have hu25 := Try.underlying25
  have hu29 := Try.underlying29
  rcases HP with h1_ | ⟨h1_, HP⟩
  · have c_p : decide (1048576 < (p.length : Int)) = true := decide_eq_true h1_
    have d_p : decide (1048576 < p.length) = true := decide_eq_true (by omega)
    clear h1_
    have Q0 := trivial
    go_enter Try.func7, Try.ntmps7
    go_wp2_with (first
      | ((clear Q0); (with_reducible refine gate_dst (N := 5) rfl ?_); refine box_event ?hg (N := 5) ?hd (cs := #[.string r_0, .slice Ar_1 r_1.length cr_1, .slice Ar_2 r_2.length cr_2, .int .i64 r_3, .int .i64 r_4, .slice Ar_5 r_5.length cr_5]) (t := 25) ?hr ?_; (case hd => rfl); (case hg => rfl); (case hr => first | (go_simp; done) | (go_simp; rfl)); intro gar hg w1 hbox hb; have BKar := Aside0.mk hbox; have Gar := Aside0.mk (show w.heap.size ≤ gar ∧ gar < w1.heap.size from ⟨by rw [hg]; exact below_size (Bl.out), blk_lt hbox⟩); clear hbox hg; have hs_ := Aside0.mk (HS.out.go hb); have M_w1 := Aside0.mk (Bl.size (w := w) hb); clear HS; have HS := hs_; clear hs_; clear hb; obtain ⟨har_0, har_1, har_2, har_3, har_4, har_5, hfar⟩ := boxed6 BKar.out (HS.out.at_ (W := w1)); have Q1 := trivial))
    go_ret
    exact ⟨by first | rfl | (simp; done) | (simp [*]; done), HS.out.at_⟩
  have c_p : decide (1048576 < (p.length : Int)) = false := decide_eq_false h1_
  have d_p : decide (1048576 < p.length) = false := decide_eq_false (by omega)
  clear h1_
  obtain ⟨zr, z_, HP⟩ := HP
  have Zr := Aside0.mk z_
  clear z_
  rcases HP with h1_ | ⟨h1_, HP⟩
  · have c_zr : decide (zr < 0) = true := decide_eq_true h1_
    clear h1_
    have Q0 := trivial
    go_enter Try.func7, Try.ntmps7
    go_wp2_with (first
      | ((clear Q0); (with_reducible refine gate_dst (N := 5) rfl ?_); refine box_event ?hg (N := 5) ?hd (cs := #[.string r_0, .slice Ar_1 r_1.length cr_1, .slice Ar_2 r_2.length cr_2, .int .i64 r_3, .int .i64 r_4, .slice Ar_5 r_5.length cr_5]) (t := 25) ?hr ?_; (case hd => rfl); (case hg => rfl); (case hr => first | (go_simp; done) | (go_simp; rfl)); intro gar hg w1 hbox hb; have BKar := Aside0.mk hbox; have Gar := Aside0.mk (show w.heap.size ≤ gar ∧ gar < w1.heap.size from ⟨by rw [hg]; exact below_size (Bl.out), blk_lt hbox⟩); clear hbox hg; have hs_ := Aside0.mk (HS.out.go hb); have M_w1 := Aside0.mk (Bl.size (w := w) hb); clear HS; have HS := hs_; clear hs_; clear hb; obtain ⟨har_0, har_1, har_2, har_3, har_4, har_5, hfar⟩ := boxed6 BKar.out (HS.out.at_ (W := w1)); have Q1 := trivial)
      | ((clear Q1); (with_reducible refine gate_callee (f := 13) rfl ?_); refine goesL_ (some _) rfl rfl Try.func13 (by kernel_rfl) rfl #[.agg #[.string r_0, .slice Ar_1 r_1.length cr_1, .slice Ar_2 r_2.length cr_2, .int .i64 r_3, .int .i64 r_4, .slice Ar_5 r_5.length cr_5], .int .i64 1048576] rfl (by (try simp only [List.map_toArray, List.map_cons, List.map_nil]); first | done | rfl) ?_; (with_reducible refine (laws_szRaga.calls k r_0 _ _ r_1 _ _ r_2 r_3 r_4 _ _ r_5 1048576 zr _ ?s0 ?t0 ?s1 ?t1 ?s2 ?t2 Zr.out).mono ?_); (case s0 => exact HS.out.C HRr_1.out); (case t0 => exact HCr_1.out); (case s1 => exact HS.out.C HRr_2.out); (case t1 => exact HCr_2.out); (case s2 => exact HS.out.C HRr_5.out); (case t2 => exact HCr_5.out); rintro e w2 ⟨rfl, hb_⟩; refine ⟨_, rfl, ?_⟩; have hb := below_of hb_; clear hb_; have hs_ := Aside0.mk (HS.out.go hb); have M_w2 := Aside0.mk (Bl.size (w := w1) hb); clear HS; have HS := hs_; clear hs_; clear hb; clear har_0 har_1 har_2 har_3 har_4 har_5 hfar; obtain ⟨har_0, har_1, har_2, har_3, har_4, har_5, hfar⟩ := boxed6 BKar.out (HS.out.at_ (W := w2)); have Q2 := trivial))
    go_ret
    exact ⟨by first | rfl | (simp; done) | (simp [*]; done), HS.out.at_⟩
  have c_zr : decide (zr < 0) = false := decide_eq_false h1_
  clear h1_
  obtain ⟨R0, R1, pP, pI, pTr, pEr, pTp, pEp⟩ := HP
  have P := Aside0.mk pP
  clear pP
  have I := Aside0.mk pI
  clear pI
  have Tr := Aside0.mk pTr
  clear pTr
  have Er := Aside0.mk pEr
  clear pEr
  have Tp := Aside0.mk pTp
  clear pTp
  have Ep := Aside0.mk pEp
  clear pEp
  have Q0 := trivial
  go_enter Try.func7, Try.ntmps7
  go_wp2_with (first
    | ((clear Q0); (with_reducible refine gate_dst (N := 5) rfl ?_); refine box_event ?hg (N := 5) ?hd (cs := #[.string r_0, .slice Ar_1 r_1.length cr_1, .slice Ar_2 r_2.length cr_2, .int .i64 r_3, .int .i64 r_4, .slice Ar_5 r_5.length cr_5]) (t := 25) ?hr ?_; (case hd => rfl); (case hg => rfl); (case hr => first | (go_simp; done) | (go_simp; rfl)); intro gar hg w1 hbox hb; have BKar := Aside0.mk hbox; have Gar := Aside0.mk (show w.heap.size ≤ gar ∧ gar < w1.heap.size from ⟨by rw [hg]; exact below_size (Bl.out), blk_lt hbox⟩); clear hbox hg; have hs_ := Aside0.mk (HS.out.go hb); have M_w1 := Aside0.mk (Bl.size (w := w) hb); clear HS; have HS := hs_; clear hs_; clear hb; obtain ⟨har_0, har_1, har_2, har_3, har_4, har_5, hfar⟩ := boxed6 BKar.out (HS.out.at_ (W := w1)); have Q1 := trivial)
    | ((clear Q1); (with_reducible refine gate_callee (f := 13) rfl ?_); refine goesL_ (some _) rfl rfl Try.func13 (by kernel_rfl) rfl #[.agg #[.string r_0, .slice Ar_1 r_1.length cr_1, .slice Ar_2 r_2.length cr_2, .int .i64 r_3, .int .i64 r_4, .slice Ar_5 r_5.length cr_5], .int .i64 1048576] rfl (by (try simp only [List.map_toArray, List.map_cons, List.map_nil]); first | done | rfl) ?_; (with_reducible refine (laws_szRaga.calls k r_0 _ _ r_1 _ _ r_2 r_3 r_4 _ _ r_5 1048576 zr _ ?s0 ?t0 ?s1 ?t1 ?s2 ?t2 Zr.out).mono ?_); (case s0 => exact HS.out.C HRr_1.out); (case t0 => exact HCr_1.out); (case s1 => exact HS.out.C HRr_2.out); (case t1 => exact HCr_2.out); (case s2 => exact HS.out.C HRr_5.out); (case t2 => exact HCr_5.out); rintro e w2 ⟨rfl, hb_⟩; refine ⟨_, rfl, ?_⟩; have hb := below_of hb_; clear hb_; have hs_ := Aside0.mk (HS.out.go hb); have M_w2 := Aside0.mk (Bl.size (w := w1) hb); clear HS; have HS := hs_; clear hs_; clear hb; clear har_0 har_1 har_2 har_3 har_4 har_5 hfar; obtain ⟨har_0, har_1, har_2, har_3, har_4, har_5, hfar⟩ := boxed6 BKar.out (HS.out.at_ (W := w2)); have Q2 := trivial)
    | ((clear Q2); (with_reducible refine gate_callee (f := 15) rfl ?_); refine goesL_ (some _) rfl rfl Try.func15 (by kernel_rfl) rfl #[.agg #[.string r_0, .slice Ar_1 r_1.length cr_1, .slice Ar_2 r_2.length cr_2, .int .i64 r_3, .int .i64 r_4, .slice Ar_5 r_5.length cr_5]] rfl (by (try simp only [List.map_toArray, List.map_cons, List.map_nil]); first | done | rfl) ?_; (with_reducible refine (laws_toRaga.calls k r_0 _ _ r_1 _ _ r_2 r_3 r_4 _ _ r_5 r_0 r_1 r_2 r_3 r_4 r_5 _ ?s0 ?t0 ?s1 ?t1 ?s2 ?t2 Tr.out).mono ?_); (case s0 => exact HS.out.C HRr_1.out); (case t0 => exact HCr_1.out); (case s1 => exact HS.out.C HRr_2.out); (case t1 => exact HCr_2.out); (case s2 => exact HS.out.C HRr_5.out); (case t2 => exact HCr_5.out); rintro e w3 ⟨v0, v1, v2, rfl, ho0, ho1, ho2, hb⟩; refine ⟨_, rfl, ?_⟩; obtain ⟨ATr_r_1, cTr_r_1, ev⟩ := Kd.R_slice ho0; subst ev; have HOTr_r_1 := Aside0.mk (Kd.R_lower ho0 (below_size (Bl.out (w := w2)))); clear ho0; obtain ⟨ATr_r_2, cTr_r_2, ev⟩ := Kd.R_slice ho1; subst ev; have HOTr_r_2 := Aside0.mk (Kd.R_lower ho1 (below_size (Bl.out (w := w2)))); clear ho1; obtain ⟨ATr_r_5, cTr_r_5, ev⟩ := Kd.S_slice ho2; subst ev; have HOTr_r_5 := Aside0.mk (Kd.S_lower ho2 (below_size (Bl.out (w := w2)))); clear ho2; have hs_ := Aside0.mk (HS.out.go hb); have M_w3 := Aside0.mk (Bl.size (w := w2) hb); clear HS; have HS := hs_; clear hs_; clear hb; clear har_0 har_1 har_2 har_3 har_4 har_5 hfar; obtain ⟨har_0, har_1, har_2, har_3, har_4, har_5, hfar⟩ := boxed6 BKar.out (HS.out.at_ (W := w3)); have Q3 := trivial)
    | ((clear Q3); (with_reducible refine gate_callee (f := 30) rfl ?_); refine goesL_ (some _) rfl rfl Try.func30 (by kernel_rfl) rfl #[.slice Ap p.length cp] rfl (by (try simp only [List.map_toArray, List.map_cons, List.map_nil]); first | done | rfl) ?_; (with_reducible refine (laws_toInt64S.calls k _ _ p p _ ?s0 ?t0 Tp.out).mono ?_); (case s0 => exact HS.out.C HRp.out); (case t0 => exact HCp.out); rintro e w4 ⟨v0, rfl, ho0, hb⟩; refine ⟨_, rfl, ?_⟩; obtain ⟨ATp, cTp, ev⟩ := Kd.R_slice ho0; subst ev; have HOTp := Aside0.mk (Kd.R_lower ho0 (below_size (Bl.out (w := w3)))); clear ho0; have hs_ := Aside0.mk (HS.out.go hb); have M_w4 := Aside0.mk (Bl.size (w := w3) hb); clear HS; have HS := hs_; clear hs_; clear hb; clear har_0 har_1 har_2 har_3 har_4 har_5 hfar; obtain ⟨har_0, har_1, har_2, har_3, har_4, har_5, hfar⟩ := boxed6 BKar.out (HS.out.at_ (W := w4)); have Q4 := trivial)
    | ((clear Q4); (with_reducible refine gate_callee (f := 39) rfl ?_); refine goesL_ (some _) rfl rfl Try.func39 (by kernel_rfl) rfl #[.agg #[.string r_0, .slice ATr_r_1 r_1.length cTr_r_1, .slice ATr_r_2 r_2.length cTr_r_2, .int .i64 r_3, .int .i64 r_4, .slice ATr_r_5 r_5.length cTr_r_5], .slice ATp p.length cTp, .int .i64 lo, .int .i64 hi, .int .i64 mo] rfl (by (try simp only [List.map_toArray, List.map_cons, List.map_nil]); first | done | rfl) ?_; (with_reducible refine (spec_SeedFor.calls k r_0 _ _ r_1 _ _ r_2 r_3 r_4 _ _ r_5 _ _ p lo hi mo R0 R1 _ ?s0 ?t0 ?s1 ?t1 ?s2 ?t2 ?s3 ?t3 P.out).mono ?_); (case s0 => exact HS.out.C (RC HOTr_r_1.out)); (case t0 => exact RL HOTr_r_1.out); (case s1 => exact HS.out.C (RC HOTr_r_2.out)); (case t1 => exact RL HOTr_r_2.out); (case s2 => exact HS.out.C (SC HOTr_r_5.out)); (case t2 => exact SL HOTr_r_5.out); (case s3 => exact HS.out.C (RC HOTp.out)); (case t3 => exact RL HOTp.out); rintro e w5 ⟨rfl, hb_⟩; refine ⟨_, rfl, ?_⟩; have hb := below_of hb_; clear hb_; have hs_ := Aside0.mk (HS.out.go hb); have M_w5 := Aside0.mk (Bl.size (w := w4) hb); clear HS; have HS := hs_; clear hs_; clear hb; clear har_0 har_1 har_2 har_3 har_4 har_5 hfar; obtain ⟨har_0, har_1, har_2, har_3, har_4, har_5, hfar⟩ := boxed6 BKar.out (HS.out.at_ (W := w5)); have Q5 := trivial)
    | ((clear Q5); (with_reducible refine gate_callee (f := 15) rfl ?_); refine goesL_ (some _) rfl rfl Try.func15 (by kernel_rfl) rfl #[.agg #[.string r_0, .slice Ar_1 r_1.length cr_1, .slice Ar_2 r_2.length cr_2, .int .i64 r_3, .int .i64 r_4, .slice Ar_5 r_5.length cr_5]] rfl (by (try simp only [List.map_toArray, List.map_cons, List.map_nil]); first | done | rfl) ?_; (with_reducible refine (laws_toRaga.calls k r_0 _ _ r_1 _ _ r_2 r_3 r_4 _ _ r_5 r_0 r_1 r_2 r_3 r_4 r_5 _ ?s0 ?t0 ?s1 ?t1 ?s2 ?t2 Tr.out).mono ?_); (case s0 => exact HS.out.C HRr_1.out); (case t0 => exact HCr_1.out); (case s1 => exact HS.out.C HRr_2.out); (case t1 => exact HCr_2.out); (case s2 => exact HS.out.C HRr_5.out); (case t2 => exact HCr_5.out); rintro e w6 ⟨v0, v1, v2, rfl, ho0, ho1, ho2, hb⟩; refine ⟨_, rfl, ?_⟩; obtain ⟨AXr_r_1, cXr_r_1, ev⟩ := Kd.R_slice ho0; subst ev; have HOXr_r_1 := Aside0.mk (Kd.R_lower ho0 (below_size (Bl.out (w := w5)))); clear ho0; obtain ⟨AXr_r_2, cXr_r_2, ev⟩ := Kd.R_slice ho1; subst ev; have HOXr_r_2 := Aside0.mk (Kd.R_lower ho1 (below_size (Bl.out (w := w5)))); clear ho1; obtain ⟨AXr_r_5, cXr_r_5, ev⟩ := Kd.S_slice ho2; subst ev; have HOXr_r_5 := Aside0.mk (Kd.S_lower ho2 (below_size (Bl.out (w := w5)))); clear ho2; have hs_ := Aside0.mk (HS.out.go hb); have M_w6 := Aside0.mk (Bl.size (w := w5) hb); clear HS; have HS := hs_; clear hs_; clear hb; clear har_0 har_1 har_2 har_3 har_4 har_5 hfar; obtain ⟨har_0, har_1, har_2, har_3, har_4, har_5, hfar⟩ := boxed6 BKar.out (HS.out.at_ (W := w6)); have Q6 := trivial)
    | ((clear Q6); (with_reducible refine gate_dst (N := 14) rfl ?_); refine box_event ?hg (N := 14) ?hd (cs := #[.string (⟨#[]⟩ : ByteArray), .slice none 0 0, .slice none 0 0, .int .i64 0, .int .i64 0, .slice none 0 0]) (t := 29) ?hr ?_; (case hd => rfl); (case hg => rfl); (case hr => first | (go_simp; done) | (go_simp; rfl)); intro gxr hg w7b hbox hb; have BKxr := Aside0.mk hbox; have Gxr := Aside0.mk (show w6.heap.size ≤ gxr by rw [hg]; exact below_size Bl.out); have HX : Bl w6 w7b := ⟨Bl.go hb⟩; clear hg; clear har_0 har_1 har_2 har_3 har_4 har_5 hfar; obtain ⟨hxr_0, hxr_1, hxr_2, hxr_3, hxr_4, hxr_5, hfxr⟩ := boxed6 hbox (Below.refl _ _); clear hbox hb; obtain ⟨har_0, har_1, har_2, har_3, har_4, har_5, hfar⟩ := boxed6 BKar.out (HS.out.at_ (W := w7b)); have hnar : gar ≠ gxr := Nat.ne_of_lt (Nat.lt_of_lt_of_le Gar.out.2 (Nat.le_trans (Nat.le_trans M_w2.out (Nat.le_trans M_w3.out (Nat.le_trans M_w4.out (Nat.le_trans M_w5.out (M_w6.out))))) Gxr.out)); have hoar := hnar.symm; have Q7 := trivial)
    | ((clear Q7); (with_reducible refine gate_callee (f := 30) rfl ?_); refine goesL_ (some _) rfl rfl Try.func30 (by kernel_rfl) rfl #[.slice Ap p.length cp] rfl (by (try simp only [List.map_toArray, List.map_cons, List.map_nil]); first | done | rfl) ?_; refine calls_at w6 gxr #[.string r_0, .slice AXr_r_1 r_1.length cXr_r_1, .slice AXr_r_2 r_2.length cXr_r_2, .int .i64 r_3, .int .i64 r_4, .slice AXr_r_5 r_5.length cXr_r_5] 29 (by with_reducible repeat (first | exact HX | refine Bl.set ?_ Gxr.out | apply Bl.alloc | apply Bl.drewN | apply Bl.drew)) (by (with_reducible repeat (first | refine blk_drewN ?_ _ | refine blk_drew ?_ | refine blk_alloc ?_ _)); exact (blk_put (blk_put (blk_put (blk_put (blk_put (blk_put BKxr.out 0 (.string r_0) rfl) 1 (.slice AXr_r_1 r_1.length cXr_r_1) rfl) 2 (.slice AXr_r_2 r_2.length cXr_r_2) rfl) 3 (.int .i64 r_3) rfl) 4 (.int .i64 r_4) rfl) 5 (.slice AXr_r_5 r_5.length cXr_r_5) rfl)) ?_; intro W_ hx_ hbk_; clear BKxr HX; have BKxr := Aside0.mk hbk_; clear hbk_; (with_reducible refine (laws_toInt64S.calls k _ _ p p _ ?s0 ?t0 Tp.out).mono ?_); (case s0 => exact HS.out.C HRp.out); (case t0 => exact HCp.out); rintro e w8 ⟨v0, rfl, ho0, hb⟩; refine ⟨_, rfl, ?_⟩; obtain ⟨AXp, cXp, ev⟩ := Kd.R_slice ho0; subst ev; have HOXp := Aside0.mk (Kd.R_lower ho0 (below_size (Bl.out (w := w6)))); clear ho0; have hs_ := Aside0.mk (HS.out.go hb); have M_w8 := Aside0.mk (Bl.size (w := w6) hb); clear HS; have HS := hs_; clear hs_; have bk_ := Aside0.mk (blk_below BKxr.out hb); have g_ := Aside0.mk (⟨Gxr.out, Nat.lt_of_lt_of_le (blk_lt BKxr.out) (below_size0 hb)⟩ : w6.heap.size ≤ gxr ∧ gxr < w8.heap.size); clear BKxr Gxr hx_; have BKxr := bk_; have Gxr := g_; clear bk_ g_; clear hb; clear hxr_0 hxr_1 hxr_2 hxr_3 hxr_4 hxr_5 hfxr har_0 har_1 har_2 har_3 har_4 har_5 hfar hnar hoar; obtain ⟨har_0, har_1, har_2, har_3, har_4, har_5, hfar⟩ := boxed6 BKar.out (HS.out.at_ (W := w8)); obtain ⟨hxr_0, hxr_1, hxr_2, hxr_3, hxr_4, hxr_5, hfxr⟩ := boxed6 BKxr.out (HS.out.at_ (W := w8)); have Q8 := trivial)
    | ((clear Q8); (with_reducible refine gate_callee (f := 40) rfl ?_); refine goesL_ (some _) rfl rfl Try.func40 (by kernel_rfl) rfl #[.agg #[.string r_0, .slice AXr_r_1 r_1.length cXr_r_1, .slice AXr_r_2 r_2.length cXr_r_2, .int .i64 r_3, .int .i64 r_4, .slice AXr_r_5 r_5.length cXr_r_5], .slice AXp p.length cXp, .int .i64 lo, .int .i64 hi, .int .i64 mo] rfl (by (try simp only [List.map_toArray, List.map_cons, List.map_nil]); first | done | rfl) ?_; (with_reducible refine (impl_SeedFor.calls k r_0 _ _ r_1 _ _ r_2 r_3 r_4 _ _ r_5 _ _ p lo hi mo R0 R1 _ ?s0 ?t0 ?s1 ?t1 ?s2 ?t2 ?s3 ?t3 I.out).mono ?_); (case s0 => exact HS.out.C (RC HOXr_r_1.out)); (case t0 => exact RL HOXr_r_1.out); (case s1 => exact HS.out.C (RC HOXr_r_2.out)); (case t1 => exact RL HOXr_r_2.out); (case s2 => exact HS.out.C (SC HOXr_r_5.out)); (case t2 => exact SL HOXr_r_5.out); (case s3 => exact HS.out.C (RC HOXp.out)); (case t3 => exact RL HOXp.out); rintro e w9 ⟨rfl, hb_⟩; refine ⟨_, rfl, ?_⟩; have hb := below_of hb_; clear hb_; have hs_ := Aside0.mk (HS.out.go hb); have M_w9 := Aside0.mk (Bl.size (w := w8) hb); clear HS; have HS := hs_; clear hs_; clear hb; clear har_0 har_1 har_2 har_3 har_4 har_5 hfar hxr_0 hxr_1 hxr_2 hxr_3 hxr_4 hxr_5 hfxr; obtain ⟨har_0, har_1, har_2, har_3, har_4, har_5, hfar⟩ := boxed6 BKar.out (HS.out.at_ (W := w9)); obtain ⟨hxr_0, hxr_1, hxr_2, hxr_3, hxr_4, hxr_5, hfxr⟩ := boxed6 BKxr.out (HS.out.at_ (W := w9)); have Q9 := trivial))
  refine start_ (n := 5) (S := fun w' => w'.cell? ⟨gar, 0, none⟩ = some (.string r_0) ∧ w'.cell? ⟨gar, 1, none⟩ = some (.slice Ar_1 r_1.length cr_1) ∧ w'.cell? ⟨gar, 2, none⟩ = some (.slice Ar_2 r_2.length cr_2) ∧ w'.cell? ⟨gar, 3, none⟩ = some (.int .i64 r_3) ∧ w'.cell? ⟨gar, 4, none⟩ = some (.int .i64 r_4) ∧ w'.cell? ⟨gar, 5, none⟩ = some (.slice Ar_5 r_5.length cr_5) ∧ w'.cell? ⟨gxr, 0, none⟩ = some (.string r_0) ∧ w'.cell? ⟨gxr, 1, none⟩ = some (.slice AXr_r_1 r_1.length cXr_r_1) ∧ w'.cell? ⟨gxr, 2, none⟩ = some (.slice AXr_r_2 r_2.length cXr_r_2) ∧ w'.cell? ⟨gxr, 3, none⟩ = some (.int .i64 r_3) ∧ w'.cell? ⟨gxr, 4, none⟩ = some (.int .i64 r_4) ∧ w'.cell? ⟨gxr, 5, none⟩ = some (.slice AXr_r_5 r_5.length cXr_r_5)) (ds := []) #[false, false, false, false, false] (by kernel_rfl) rfl rfl ⟨har_0, har_1, har_2, har_3, har_4, har_5, hxr_0, hxr_1, hxr_2, hxr_3, hxr_4, hxr_5⟩ (fun hHeld => ?_)
  refine take_ (i := 0) (N := some 58) (v := ?_) (a' := ?_) #[true, false, false, false, false] rfl rfl (by kernel_rfl) (fun _ _ _ h => h) (Or.inl ⟨by rfl, ?_⟩) hHeld ?_ ?_
  rotate_left
  · rintro w' ⟨s0, s1, s2, s3, s4, s5, s6, s7, s8, s9, s10, s11⟩; go_simp; with_reducible rfl
  rotate_left
  · go_simp; rfl
  refine take_ (i := 1) (N := some 59) (v := ?_) (a' := ?_) #[true, true, false, false, false] rfl rfl (by kernel_rfl) (fun _ _ _ h => h) (Or.inl ⟨by rfl, ?_⟩) hHeld ?_ ?_
  rotate_left
  · rintro w' ⟨s0, s1, s2, s3, s4, s5, s6, s7, s8, s9, s10, s11⟩; go_simp; with_reducible rfl
  rotate_left
  · go_simp; rfl
  refine one_ (i := 2) (N := some 60) #[true, true, true, false, false] rfl rfl (by kernel_rfl) (by decide) (fun K hK => ?_)
  refine goes_ Try.func15 (by kernel_rfl) rfl #[.agg #[.string r_0, .slice Ar_1 r_1.length cr_1, .slice Ar_2 r_2.length cr_2, .int .i64 r_3, .int .i64 r_4, .slice Ar_5 r_5.length cr_5]] (by rfl) rfl rfl (by (try simp only [List.map_toArray, List.map_cons, List.map_nil]); first | done | rfl) ?_
  clear hHeld Q9
  (with_reducible refine (laws_toRaga.calls k r_0 _ _ r_1 _ _ r_2 r_3 r_4 _ _ r_5 r_0 r_1 r_2 r_3 r_4 r_5 _ ?s0 ?t0 ?s1 ?t1 ?s2 ?t2 Tr.out).mono ?_)
  (case s0 => exact HS.out.C HRr_1.out)
  (case t0 => exact HCr_1.out)
  (case s1 => exact HS.out.C HRr_2.out)
  (case t1 => exact HCr_2.out)
  (case s2 => exact HS.out.C HRr_5.out)
  (case t2 => exact HCr_5.out)
  rintro e w10 ⟨v0, v1, v2, rfl, ho0, ho1, ho2, hb⟩
  refine ⟨_, rfl, ?_⟩
  obtain ⟨AUr_r_1, cUr_r_1, ev⟩ := Kd.R_slice ho0
  subst ev
  have HOUr_r_1 := Aside0.mk (Kd.R_lower ho0 (below_size (Bl.out (w := w9))))
  clear ho0
  obtain ⟨AUr_r_2, cUr_r_2, ev⟩ := Kd.R_slice ho1
  subst ev
  have HOUr_r_2 := Aside0.mk (Kd.R_lower ho1 (below_size (Bl.out (w := w9))))
  clear ho1
  obtain ⟨AUr_r_5, cUr_r_5, ev⟩ := Kd.S_slice ho2
  subst ev
  have HOUr_r_5 := Aside0.mk (Kd.S_lower ho2 (below_size (Bl.out (w := w9))))
  clear ho2
  have hs_ := Aside0.mk (HS.out.go hb)
  have M_w10 := Aside0.mk (Bl.size (w := w9) hb)
  clear HS
  have HS := hs_
  clear hs_
  clear hb
  clear har_0 har_1 har_2 har_3 har_4 har_5 hfar hxr_0 hxr_1 hxr_2 hxr_3 hxr_4 hxr_5 hfxr
  obtain ⟨har_0, har_1, har_2, har_3, har_4, har_5, hfar⟩ := boxed6 BKar.out (HS.out.at_ (W := w10))
  obtain ⟨hxr_0, hxr_1, hxr_2, hxr_3, hxr_4, hxr_5, hfxr⟩ := boxed6 BKxr.out (HS.out.at_ (W := w10))
  have Q10 := trivial
  refine hK.out _ _ ⟨har_0, har_1, har_2, har_3, har_4, har_5, hxr_0, hxr_1, hxr_2, hxr_3, hxr_4, hxr_5⟩ (fun hHeld => ?_)
  clear hK K
  refine norm_ (a' := ?_) ?_ ?_
  rotate_left
  · show Act.put _ (some 60) _ = _; go_simp; rfl
  refine one_ (i := 3) (N := some 61) #[true, true, true, true, false] rfl rfl (by kernel_rfl) (by decide) (fun K hK => ?_)
  refine goes_ Try.func18 (by kernel_rfl) rfl #[.agg #[.string r_0, .slice AXr_r_1 r_1.length cXr_r_1, .slice AXr_r_2 r_2.length cXr_r_2, .int .i64 r_3, .int .i64 r_4, .slice AXr_r_5 r_5.length cXr_r_5], .agg #[.string r_0, .slice AUr_r_1 r_1.length cUr_r_1, .slice AUr_r_2 r_2.length cUr_r_2, .int .i64 r_3, .int .i64 r_4, .slice AUr_r_5 r_5.length cUr_r_5]] (by rfl) rfl rfl (by (try simp only [List.map_toArray, List.map_cons, List.map_nil]); first | done | rfl) ?_
  clear hHeld Q10
  (with_reducible refine (laws_eqRaga.calls k r_0 _ _ r_1 _ _ r_2 r_3 r_4 _ _ r_5 r_0 _ _ r_1 _ _ r_2 r_3 r_4 _ _ r_5 true _ ?s0 ?t0 ?s1 ?t1 ?s2 ?t2 ?s3 ?t3 ?s4 ?t4 ?s5 ?t5 Er.out).mono ?_)
  (case s0 => exact HS.out.C (RC HOXr_r_1.out))
  (case t0 => exact RL HOXr_r_1.out)
  (case s1 => exact HS.out.C (RC HOXr_r_2.out))
  (case t1 => exact RL HOXr_r_2.out)
  (case s2 => exact HS.out.C (SC HOXr_r_5.out))
  (case t2 => exact SL HOXr_r_5.out)
  (case s3 => exact HS.out.C (RC HOUr_r_1.out))
  (case t3 => exact RL HOUr_r_1.out)
  (case s4 => exact HS.out.C (RC HOUr_r_2.out))
  (case t4 => exact RL HOUr_r_2.out)
  (case s5 => exact HS.out.C (SC HOUr_r_5.out))
  (case t5 => exact SL HOUr_r_5.out)
  rintro e w11 ⟨rfl, hb_⟩
  refine ⟨_, rfl, ?_⟩
  have hb := below_of hb_
  clear hb_
  have hs_ := Aside0.mk (HS.out.go hb)
  have M_w11 := Aside0.mk (Bl.size (w := w10) hb)
  clear HS
  have HS := hs_
  clear hs_
  clear hb
  clear har_0 har_1 har_2 har_3 har_4 har_5 hfar hxr_0 hxr_1 hxr_2 hxr_3 hxr_4 hxr_5 hfxr
  obtain ⟨har_0, har_1, har_2, har_3, har_4, har_5, hfar⟩ := boxed6 BKar.out (HS.out.at_ (W := w11))
  obtain ⟨hxr_0, hxr_1, hxr_2, hxr_3, hxr_4, hxr_5, hfxr⟩ := boxed6 BKxr.out (HS.out.at_ (W := w11))
  have Q11 := trivial
  refine hK.out _ _ ⟨har_0, har_1, har_2, har_3, har_4, har_5, hxr_0, hxr_1, hxr_2, hxr_3, hxr_4, hxr_5⟩ (fun hHeld => ?_)
  clear hK K
  refine norm_ (a' := ?_) ?_ ?_
  rotate_left
  · show Act.put _ (some 61) _ = _; go_simp; rfl
  refine pure_ (i := 4) (N := some 62) (v := ?_) (a' := ?_) #[true, true, true, true, true] rfl rfl (by kernel_rfl) (fun _ _ _ h => h) (Or.inl ⟨by rfl, ?_⟩) ?_ ?_
  rotate_left
  · intro w'; go_simp; with_reducible rfl
  rotate_left
  · go_simp; rfl
  refine done_ (by kernel_rfl) ?_
  clear hHeld
  go_wp2_with (first
    | ((clear Q11); (with_reducible refine gate_callee (f := 30) rfl ?_); refine goesL_ (some _) rfl rfl Try.func30 (by kernel_rfl) rfl #[.slice Ap p.length cp] rfl (by (try simp only [List.map_toArray, List.map_cons, List.map_nil]); first | done | rfl) ?_; (with_reducible refine (laws_toInt64S.calls k _ _ p p _ ?s0 ?t0 Tp.out).mono ?_); (case s0 => exact HS.out.C HRp.out); (case t0 => exact HCp.out); rintro e w12 ⟨v0, rfl, ho0, hb⟩; refine ⟨_, rfl, ?_⟩; obtain ⟨AUp, cUp, ev⟩ := Kd.R_slice ho0; subst ev; have HOUp := Aside0.mk (Kd.R_lower ho0 (below_size (Bl.out (w := w11)))); clear ho0; have hs_ := Aside0.mk (HS.out.go hb); have M_w12 := Aside0.mk (Bl.size (w := w11) hb); clear HS; have HS := hs_; clear hs_; clear hb; clear har_0 har_1 har_2 har_3 har_4 har_5 hfar hxr_0 hxr_1 hxr_2 hxr_3 hxr_4 hxr_5 hfxr; obtain ⟨har_0, har_1, har_2, har_3, har_4, har_5, hfar⟩ := boxed6 BKar.out (HS.out.at_ (W := w12)); obtain ⟨hxr_0, hxr_1, hxr_2, hxr_3, hxr_4, hxr_5, hfxr⟩ := boxed6 BKxr.out (HS.out.at_ (W := w12)); have Q12 := trivial)
    | ((clear Q12); (with_reducible refine gate_callee (f := 17) rfl ?_); refine goesL_ (some _) rfl rfl Try.func17 (by kernel_rfl) rfl #[.slice AXp p.length cXp, .slice AUp p.length cUp] rfl (by (try simp only [List.map_toArray, List.map_cons, List.map_nil]); first | done | rfl) ?_; (with_reducible refine (laws_eqInt64S.calls k _ _ p _ _ p true _ ?s0 ?t0 ?s1 ?t1 Ep.out).mono ?_); (case s0 => exact HS.out.C (RC HOXp.out)); (case t0 => exact RL HOXp.out); (case s1 => exact HS.out.C (RC HOUp.out)); (case t1 => exact RL HOUp.out); rintro e w13 ⟨rfl, hb_⟩; refine ⟨_, rfl, ?_⟩; have hb := below_of hb_; clear hb_; have hs_ := Aside0.mk (HS.out.go hb); have M_w13 := Aside0.mk (Bl.size (w := w12) hb); clear HS; have HS := hs_; clear hs_; clear hb; clear har_0 har_1 har_2 har_3 har_4 har_5 hfar hxr_0 hxr_1 hxr_2 hxr_3 hxr_4 hxr_5 hfxr; obtain ⟨har_0, har_1, har_2, har_3, har_4, har_5, hfar⟩ := boxed6 BKar.out (HS.out.at_ (W := w13)); obtain ⟨hxr_0, hxr_1, hxr_2, hxr_3, hxr_4, hxr_5, hfxr⟩ := boxed6 BKxr.out (HS.out.at_ (W := w13)); have Q13 := trivial))
  go_ret
  exact ⟨by first | rfl | (simp; done) | (simp [*]; done), HS.out.at_⟩

end Go.Proofs.Ytinlejhffokbaaa.P
end

section
namespace Go.Proofs.Ytinlejhffokbaaa.Pure
open Go.RowKit Go.Proofs.Ytinlejhffokbaaa.P Go.Proofs.YtinlejhffokbaaaW.PrintWords Go.Proofs.YtinlejhffokbaaaW.PrintLast Go.Proofs.YtinlejhffokbaaaW.PrintMore
set_option linter.unusedVariables false
set_option linter.unusedSimpArgs false

def hitB (u d : List Int) (f : List (List Int)) (l : List Int) (lo hi n : Int) : Bool :=
  match growM u d f lo hi (l.length - 1) n [rd l 0] with
  | some (o, _) => decide (o = l)
  | none => false
def seedRes (R : Int × Bool) : Int × Int := if R.2 = true then (R.1, 0) else (0, 3)
theorem seed_lit_ev (s : ByteArray) (u d : List Int) (st wk : Int) (f : List (List Int)) (l : List Int) (lo hi n : Int) (h1 : -12 ≤ lo) (h2 : lo ≤ rd l 0) (h2' : rd l 0 ≤ hi) (h3 : hi ≤ 23) (l1 : 1 ≤ l.length) (l8 : l.length ≤ 8) (hu : u.length ≤ 1048576) (hd : d.length ≤ 1048576) (hf : f.length ≤ 8) (hp : ∀ j, j < f.length → (rd_L1 f j).length = 2) (n0 : 0 ≤ n) (n1 : n ≤ 999999) :
    Ev (fun k => impl_SeedFor_1.f k s u d st wk f l lo hi n) (toneB u d (tn (rd l 0)) && hitB u d f l lo hi n) := by
  unfold impl_SeedFor_1.f
  have e := impl_grow_ev s u d st wk f lo hi (l.length : Int) n (rd l 0) h1 h2 h2' h3 (by omega) (by omega) hu hd hf hp n0 n1
  rw [show ((l.length : Int) - 1).toNat = l.length - 1 by omega] at e
  refine Ev.bind e ?_
  unfold hitB
  cases c : toneB u d (tn (rd l 0)) with
  | false => exact Ev.ite_neg (by simp) (Ev.cast (Ev.now _) (by simp))
  | true =>
    rw [if_pos rfl]
    cases c6 : growM u d f lo hi (l.length - 1) n [rd l 0] with
    | none => exact Ev.ite_neg (by simp [growI]) (Ev.cast (Ev.now _) (by simp))
    | some p =>
      obtain ⟨o, t⟩ := p
      have hl := growM_length _ _ _ _ _ c6
      simp at hl
      exact Ev.ite_pos (by simp [growI]) (Ev.cast (slices_Equal_ev o l (by omega)) (by simp))
theorem spec_seed_l0 (s : ByteArray) (u d : List Int) (st wk : Int) (f : List (List Int)) (l : List Int) (lo hi mo : Int) (h1 : -12 ≤ lo) (h2 : lo ≤ rd l 0) (h2' : rd l 0 ≤ hi) (h3 : hi ≤ 23) (l1 : 1 ≤ l.length) (l8 : l.length ≤ 8) (hu : u.length ≤ 1048576) (hd : d.length ≤ 1048576) (hf : f.length ≤ 8) (hp : ∀ j, j < f.length → (rd_L1 f j).length = 2) (m1 : mo ≤ 2000) :
    ∀ (m : Nat) (i : Int), (mo - i).toNat = m → 0 ≤ i → i ≤ 2000 → Ev (fun k => spec_SeedFor.l0 k l lo hi mo i s u d st wk f) (seedRes (leastM (fun n => hitB u d f l lo hi n) m i)) := by
  intro m
  induction m with
  | zero =>
    intro i hm i0 _
    refine Ev.succ ?_
    simp only [spec_SeedFor.l0]
    exact Ev.ite_neg (by omega) (Ev.now _)
  | succ m ih =>
    intro i hm i0 i1
    refine Ev.succ ?_
    simp only [spec_SeedFor.l0]
    rw [w64 (x := i + 1) (by omega) (by omega), w64 (x := (l.length : Int) - 1) (by omega) (by omega), leastM_succ]
    have e := spec_l13Grow_ev s u d st wk f lo hi ((l.length : Int) - 1) i [rd l 0] h1 (by omega) h3 (by omega) hu hd hf hp ⟨by simp, by simp, by simp [lastM, rd] at h2 h2' ⊢; omega, i0, by omega⟩ (by simp; omega)
    rw [show ((l.length : Int) - 1).toNat = l.length - 1 by omega] at e
    have hn := ih (i + 1) (by omega) (by omega) (by omega)
    refine Ev.ite_pos (by omega) (Ev.ite_pos (by omega) (Ev.bind e ?_))
    cases c6 : growM u d f lo hi (l.length - 1) i [rd l 0] with
    | none =>
      rw [show hitB u d f l lo hi i = false by unfold hitB; rw [c6], if_neg Bool.false_ne_true]
      exact Ev.ite_neg (by simp [growS]) hn
    | some p =>
      obtain ⟨o, t⟩ := p
      have hl := growM_length _ _ _ _ _ c6
      simp at hl
      refine Ev.ite_pos (by simp [growS]) (Ev.bind (spec_l00Same_ev o l (by omega)) ?_)
      have eh : hitB u d f l lo hi i = decide (o = l) := by unfold hitB; rw [c6]
      by_cases c : o = l
      · rw [eh, show decide (o = l) = true from decide_eq_true c, if_pos rfl]
        exact Ev.ite_pos (by simp) (Ev.now _)
      · rw [eh, show decide (o = l) = false from decide_eq_false c, if_neg Bool.false_ne_true]
        exact Ev.ite_neg (by simp) hn
theorem bothSeedFor (s : ByteArray) (u d : List Int) (st wk : Int) (f : List (List Int)) (l : List Int) (lo hi mo : Int) (h0 : Fits s u d f) (hl : l.length ≤ 1048576) (w0 : (Lit.int .i64 mo).wf = true) : ∃ r c, Ev (fun k => spec_SeedFor.f k s u d st wk f l lo hi mo) (r, c) ∧ Ev (fun k => impl_SeedFor.f k s u d st wk f l lo hi mo) (r, c) := by
  have a0 := spec_l05Ok_ev s u d st wk f h0.1 h0.2.1 h0.2.2.1 h0.2.2.2.1
  have b0 := impl_ValidRaga_ev s u d st wk f h0.1 h0.2.1 h0.2.2.1 h0.2.2.2.1
  have j0t : Ev (fun k => spec_SeedFor.j0 k l lo hi mo true s u d st wk f) (0, 2) := by
    refine Ev.succ ?_
    simp only [spec_SeedFor.j0]
    exact Ev.ite_pos (by decide) (Ev.now _)
  have j1t : Ev (fun k => spec_SeedFor.j1 k l lo hi mo true s u d st wk f) (0, 7) := by
    refine Ev.succ ?_
    simp only [spec_SeedFor.j1]
    exact Ev.ite_pos (by decide) (Ev.now _)
  have j2t : Ev (fun k => spec_SeedFor.j2 k l lo hi mo true s u d st wk f) (0, 3) := by
    refine Ev.succ ?_
    simp only [spec_SeedFor.j2]
    exact Ev.ite_pos (by decide) (Ev.now _)
  unfold spec_SeedFor.f impl_SeedFor.f
  cases v0 : ragaB s u d st wk f with
  | false => exact ⟨0, 1, Ev.bind a0 (Ev.ite_neg (by rw [v0]; decide) (Ev.now _)), Ev.bind b0 (Ev.ite_neg (by rw [v0]; decide) (Ev.now _))⟩
  | true =>
    obtain ⟨p1, p2, p3, p4⟩ := ragaB_parts v0
    cases c1 : inP lo with
    | false => exact ⟨0, 2, Ev.bind a0 (Ev.ite_pos v0 (Ev.bindc (spec_l03Pitch_eq lo) (Ev.ite_neg (by rw [c1]; decide) j0t))), Ev.bind b0 (Ev.ite_pos v0 (Ev.bindc (impl_rangeOk_eq lo hi) (Ev.ite_neg (by rw [c1]; simp) (Ev.now _))))⟩
    | true =>
      cases c2 : inB hi lo 23 with
      | false => exact ⟨0, 2, Ev.bind a0 (Ev.ite_pos v0 (Ev.bindc (spec_l03Pitch_eq lo) (Ev.ite_pos c1 (Ev.bindc (spec_l00In_eq hi lo 23) (Ev.ite_neg (by rw [show (decide (lo ≤ hi) && decide (hi ≤ 23)) = false from c2]; decide) j0t))))), Ev.bind b0 (Ev.ite_pos v0 (Ev.bindc (impl_rangeOk_eq lo hi) (Ev.ite_neg (by rw [c1, c2]; decide) (Ev.now _))))⟩
      | true =>
        have c12 : (inP lo && inB hi lo 23) = true := by rw [c1, c2]; rfl
        have q1 : -12 ≤ lo ∧ lo ≤ hi ∧ hi ≤ 23 := by simp [inP, inB] at c1 c2; omega
        have hS : ∀ r (t : Bool), (decide (1 ≤ mo) && decide (mo ≤ 2000)) = t → Ev (fun k => spec_SeedFor.j0 k l lo hi mo (!t) s u d st wk f) r → Ev (fun k => (spec_l05Ok.f k s u d st wk f).bind fun t583 => (if t583 = true then ((spec_l03Pitch.f lo).bind fun t584 => (if t584 = true then ((spec_l00In.f hi lo 23).bind fun t585 => (if t585 = true then ((spec_l00In.f mo 1 2000).bind fun t586 => (spec_SeedFor.j0 k l lo hi mo (!t586) s u d st wk f)) else (spec_SeedFor.j0 k l lo hi mo true s u d st wk f))) else (spec_SeedFor.j0 k l lo hi mo true s u d st wk f))) else (some (0, 1)))) r := fun r t ht hr => Ev.bind a0 (Ev.ite_pos v0 (Ev.bindc (spec_l03Pitch_eq lo) (Ev.ite_pos c1 (Ev.bindc (spec_l00In_eq hi lo 23) (Ev.ite_pos c2 (Ev.bindc (spec_l00In_eq mo 1 2000) (by rw [ht]; exact hr)))))))
        cases c3 : (decide (1 ≤ mo) && decide (mo ≤ 2000)) with
        | false => exact ⟨0, 2, hS _ false c3 j0t, Ev.bind b0 (Ev.ite_pos v0 (Ev.bindc (impl_rangeOk_eq lo hi) (Ev.ite_pos c12 (Ev.bindc (impl_within_eq mo 1 2000) (Ev.ite_neg (by rw [c3]; decide) (Ev.now _))))))⟩
        | true =>
          have q3 : 1 ≤ mo ∧ mo ≤ 2000 := by simpa using c3
          have hI : ∀ r, Ev (fun k => if (l.length : Int) < 1 then some ((0 : Int), (7 : Int)) else if (l.length : Int) > 8 then some (0, 7) else (impl_pitchesOk.f l).bind fun t4 => if t4 = true then ((impl_within.f (rd l 0) lo hi).bind fun t5 => if t5 = true then (if ((List.range (wrap64 (mo - 1) + 1 - 0).toNat).all fun j => (impl_SeedFor_1.f k s u d st wk f l lo hi (j : Int)).isSome) = true then impl_orNotFound.f (leastM (fun n => impl_SeedFor_1.f k s u d st wk f l lo hi n == some true) (wrap64 (mo - 1) + 1 - 0).toNat 0).1 (leastM (fun n => impl_SeedFor_1.f k s u d st wk f l lo hi n == some true) (wrap64 (mo - 1) + 1 - 0).toNat 0).2 else none) else some (0, 3)) else some (0, 7)) r → Ev (fun k => (impl_ValidRaga.f k s u d st wk f).bind fun t1 => if t1 = true then ((impl_rangeOk.f lo hi).bind fun t2 => if t2 = true then ((impl_within.f mo 1 2000).bind fun t3 => if t3 = true then (if (l.length : Int) < 1 then some ((0 : Int), (7 : Int)) else if (l.length : Int) > 8 then some (0, 7) else (impl_pitchesOk.f l).bind fun t4 => if t4 = true then ((impl_within.f (rd l 0) lo hi).bind fun t5 => if t5 = true then (if ((List.range (wrap64 (mo - 1) + 1 - 0).toNat).all fun j => (impl_SeedFor_1.f k s u d st wk f l lo hi (j : Int)).isSome) = true then impl_orNotFound.f (leastM (fun n => impl_SeedFor_1.f k s u d st wk f l lo hi n == some true) (wrap64 (mo - 1) + 1 - 0).toNat 0).1 (leastM (fun n => impl_SeedFor_1.f k s u d st wk f l lo hi n == some true) (wrap64 (mo - 1) + 1 - 0).toNat 0).2 else none) else some (0, 3)) else some (0, 7)) else some (0, 2)) else some (0, 2)) else some (0, 1)) r := fun r hr => Ev.bind b0 (Ev.ite_pos v0 (Ev.bindc (impl_rangeOk_eq lo hi) (Ev.ite_pos c12 (Ev.bindc (impl_within_eq mo 1 2000) (Ev.ite_pos c3 hr)))))
          have hS1 : ∀ r, Ev (fun k => (spec_l05Pitches.f k l).bind fun t587 => (if t587 = true then ((spec_l00In.f (l.length : Int) 1 8).bind fun t588 => (spec_SeedFor.j1 k l lo hi mo (!t588) s u d st wk f)) else (spec_SeedFor.j1 k l lo hi mo true s u d st wk f))) r → Ev (fun k => spec_SeedFor.j0 k l lo hi mo (!true) s u d st wk f) r := by
            intro r hr
            refine Ev.succ ?_
            simp only [spec_SeedFor.j0]
            exact Ev.ite_neg (by decide) hr
          have eP := spec_l05Pitches_ev l (by omega)
          cases c4 : pitchesB l with
          | false =>
            refine ⟨0, 7, hS _ true c3 (hS1 _ (Ev.bind eP (Ev.ite_neg (by rw [c4]; decide) j1t))), hI _ ?_⟩
            by_cases e1 : (l.length : Int) < 1
            · exact Ev.ite_pos e1 (Ev.now _)
            · refine Ev.ite_neg e1 ?_
              by_cases e2 : (l.length : Int) > 8
              · exact Ev.ite_pos e2 (Ev.now _)
              · exact Ev.ite_neg e2 (Ev.bindc (impl_pitchesOk_eq l) (Ev.ite_neg (by rw [c4]; decide) (Ev.now _)))
          | true =>
            have hS2 : ∀ r (t : Bool), (decide (1 ≤ (l.length : Int)) && decide ((l.length : Int) ≤ 8)) = t → Ev (fun k => spec_SeedFor.j1 k l lo hi mo (!t) s u d st wk f) r → Ev (fun k => spec_SeedFor.j0 k l lo hi mo (!true) s u d st wk f) r := fun r t ht hr => hS1 r (Ev.bind eP (Ev.ite_pos c4 (Ev.bindc (spec_l00In_eq _ 1 8) (by rw [ht]; exact hr))))
            by_cases e1 : (l.length : Int) < 1
            · exact ⟨0, 7, hS _ true c3 (hS2 _ false (by simp; omega) j1t), hI _ (Ev.ite_pos e1 (Ev.now _))⟩
            by_cases e2 : (l.length : Int) > 8
            · exact ⟨0, 7, hS _ true c3 (hS2 _ false (by simp; omega) j1t), hI _ (Ev.ite_neg e1 (Ev.ite_pos e2 (Ev.now _)))⟩
            have c5 : (decide (1 ≤ (l.length : Int)) && decide ((l.length : Int) ≤ 8)) = true := by simp; omega
            have hI2 : ∀ r, Ev (fun k => (impl_within.f (rd l 0) lo hi).bind fun t5 => if t5 = true then (if ((List.range (wrap64 (mo - 1) + 1 - 0).toNat).all fun j => (impl_SeedFor_1.f k s u d st wk f l lo hi (j : Int)).isSome) = true then impl_orNotFound.f (leastM (fun n => impl_SeedFor_1.f k s u d st wk f l lo hi n == some true) (wrap64 (mo - 1) + 1 - 0).toNat 0).1 (leastM (fun n => impl_SeedFor_1.f k s u d st wk f l lo hi n == some true) (wrap64 (mo - 1) + 1 - 0).toNat 0).2 else none) else some ((0 : Int), (3 : Int))) r → _ := fun r hr => hI r (Ev.ite_neg e1 (Ev.ite_neg e2 (Ev.bindc (impl_pitchesOk_eq l) (Ev.ite_pos c4 hr))))
            cases c6 : (decide (lo ≤ rd l 0) && decide (rd l 0 ≤ hi)) with
            | false =>
              refine ⟨0, 3, hS _ true c3 (hS2 _ true c5 (Ev.succ ?_)), hI2 _ (Ev.bindc (impl_within_eq _ _ _) (Ev.ite_neg (by rw [c6]; decide) (Ev.now _)))⟩
              simp only [spec_SeedFor.j1]
              exact Ev.ite_neg (by decide) (Ev.ite_pos (by omega) (Ev.bindc (spec_l00In_eq _ _ _) (Ev.ite_neg (by rw [c6]; decide) j2t)))
            | true =>
              have q6 : lo ≤ rd l 0 ∧ rd l 0 ≤ hi := by simpa using c6
              have hm : (wrap64 (mo - 1) + 1 - 0).toNat = mo.toNat := by rw [w64 (by omega) (by omega)]; omega
              have eL : ∀ n : Nat, n < mo.toNat → Ev (fun k => impl_SeedFor_1.f k s u d st wk f l lo hi (n : Int)) (toneB u d (tn (rd l 0)) && hitB u d f l lo hi n) := fun n hn => seed_lit_ev s u d st wk f l lo hi n q1.1 q6.1 q6.2 q1.2.2 (by omega) (by omega) h0.2.1 h0.2.2.1 p3 p4 (by omega) (by omega)
              obtain ⟨K, hK⟩ := ev_all (fun k j => impl_SeedFor_1.f k s u d st wk f l lo hi (j : Int)) (fun j => toneB u d (tn (rd l 0)) && hitB u d f l lo hi j) mo.toNat eL
              have eI : Ev (fun k => if ((List.range (wrap64 (mo - 1) + 1 - 0).toNat).all fun j => (impl_SeedFor_1.f k s u d st wk f l lo hi (j : Int)).isSome) = true then impl_orNotFound.f (leastM (fun n => impl_SeedFor_1.f k s u d st wk f l lo hi n == some true) (wrap64 (mo - 1) + 1 - 0).toNat 0).1 (leastM (fun n => impl_SeedFor_1.f k s u d st wk f l lo hi n == some true) (wrap64 (mo - 1) + 1 - 0).toNat 0).2 else none) (seedRes (leastM (fun n => toneB u d (tn (rd l 0)) && hitB u d f l lo hi n) mo.toNat 0)) := by
                refine ⟨K, fun k hk => ?_⟩
                have h1 := hK k hk
                simp only [hm]
                rw [if_pos (List.all_eq_true.2 (fun j hj => by rw [h1 j (List.mem_range.1 hj)]; rfl))]
                rw [leastM_congr (fun n => impl_SeedFor_1.f k s u d st wk f l lo hi n == some true) (fun n => toneB u d (tn (rd l 0)) && hitB u d f l lo hi n) mo.toNat 0 (fun j hj => by
                  have := h1 j hj
                  simp only [Int.zero_add] at this ⊢
                  rw [this]
                  cases (toneB u d (tn (rd l 0)) && hitB u d f l lo hi j) <;> rfl)]
                unfold impl_orNotFound.f seedRes
                split <;> rfl
              have eI2 := hI2 _ (Ev.bindc (impl_within_eq _ _ _) (Ev.ite_pos c6 eI))
              have eT := spec_l05Tone_ev s u d st wk f (tn (rd l 0)) h0.2.1 h0.2.2.1
              have hS3 : ∀ r, Ev (fun k => spec_SeedFor.j2 k l lo hi mo (!toneB u d (tn (rd l 0))) s u d st wk f) r → Ev (fun k => spec_SeedFor.j1 k l lo hi mo (!true) s u d st wk f) r := by
                intro r hr
                refine Ev.succ ?_
                simp only [spec_SeedFor.j1]
                exact Ev.ite_neg (by decide) (Ev.ite_pos (by omega) (Ev.bindc (spec_l00In_eq _ _ _) (Ev.ite_pos c6 (Ev.bindc (show spec_l03Tone.f (rd l 0) = some (tn (rd l 0)) from rfl) (Ev.bind eT hr)))))
              cases c7 : toneB u d (tn (rd l 0)) with
              | false =>
                rw [c7] at hS3 eI2
                rw [leastM_never _ _ _ (fun j hj => by rw [Bool.false_and])] at eI2
                exact ⟨0, 3, hS _ true c3 (hS2 _ true c5 (hS3 _ j2t)), eI2⟩
              | true =>
                rw [c7] at hS3 eI2
                have eS := spec_seed_l0 s u d st wk f l lo hi mo q1.1 q6.1 q6.2 q1.2.2 (by omega) (by omega) h0.2.1 h0.2.2.1 p3 p4 q3.2 mo.toNat 0 (by omega) (by omega) (by omega)
                have e2 : (fun n => true && hitB u d f l lo hi n) = (fun n => hitB u d f l lo hi n) := by funext n; rw [Bool.true_and]
                rw [e2] at eI2
                have j2f : Ev (fun k => spec_SeedFor.j2 k l lo hi mo (!true) s u d st wk f) (seedRes (leastM (fun n => hitB u d f l lo hi n) mo.toNat 0)) := by
                  refine Ev.succ ?_
                  simp only [spec_SeedFor.j2]
                  exact Ev.ite_neg (by decide) eS
                exact ⟨_, _, hS _ true c3 (hS2 _ true c5 (hS3 _ j2f)), eI2⟩
theorem FnExactSeedFor : laws_FnExactSeedFor.Pure := by
  intro s0 u0 d0 st0 wk0 f0 l lo hi mo hs0 ⟨hu0, _⟩ ⟨hd0, _⟩ _ _ ⟨hf0, hr0⟩ ⟨hl0, _⟩ _ _ wm
  by_cases gl : 1048576 < (l.length : Int)
  · exact ⟨0, .inl gl⟩
  have gl' : l.length ≤ 1048576 := by omega
  obtain ⟨z, ez, cz⟩ := szRaga_ge s0 u0 d0 st0 wk0 f0 1048576 (by omega) (by omega) hs0 hu0 hd0 hf0 (fun y hy => (hr0 y hy).1)
  rcases cz with cz | ⟨z0, z1, h0⟩
  · obtain ⟨k, hk⟩ := Ev.out ez
    exact ⟨k, .inr ⟨gl, z, hk, .inl cz⟩⟩
  · obtain ⟨r, c, es, ei⟩ := bothSeedFor s0 u0 d0 st0 wk0 f0 l lo hi mo h0 gl' wm
    obtain ⟨K, hK⟩ := Ev.and ez (Ev.and es (Ev.and ei (Ev.and (toRaga_ev h0 st0 wk0) (Ev.and (eqRaga_self h0 st0 wk0) (Ev.and (toInt64S_ev l (by omega)) (eqInt64S_self l (by omega)))))))
    obtain ⟨k1, k2, k3, k4, k5, k6, k7⟩ := hK K (Nat.le_refl _)
    exact ⟨K, .inr ⟨gl, z, k1, .inr ⟨by omega, r, c, k2, k3, k4, k5, k6, k7⟩⟩⟩

end Go.Proofs.Ytinlejhffokbaaa.Pure
end
