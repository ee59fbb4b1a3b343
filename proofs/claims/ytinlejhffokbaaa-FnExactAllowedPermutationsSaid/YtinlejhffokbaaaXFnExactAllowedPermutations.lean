/- The pure statement of FnExactAllowedPermutations. No condition. -/
import Derived.Test.YtinlejhffokbaaaGAP1
import Derived.Test.YtinlejhffokbaaaGAP3
import Derived.Test.YtinlejhffokbaaaGAP4
import Derived.Test.YtinlejhffokbaaaGAP6
import Derived.Test.YtinlejhffokbaaaGAP7
section
namespace Go.Proofs.Ytinlejhffokbaaa.P
open Go.RowKit Go.Proofs.YtinlejhffokbaaaW.PrintWords Go.Proofs.YtinlejhffokbaaaW.PrintLast Go.Proofs.YtinlejhffokbaaaW.PrintMore
attribute [local go_sem] max2_int min2_int max_two min_two max_three min_three max_four min_four   -- for this text's walks alone
set_option linter.unusedVariables false
set_option linter.unusedSimpArgs false

/-! ### laws_FnExactAllowedPermutations: function 12 (given) -/
/-- What the plain side tells: both give the same, and what the laws' helpers say of it. -/
def laws_FnExactAllowedPermutations.Pure : Prop := ∀ (r_0 : ByteArray) (r_1 : List Int) (r_2 : List Int) (r_3 : Int) (r_4 : Int) (r_5 : List (List Int)) (x : List Int), r_0.size ≤ maxLen → (r_1.length ≤ maxLen ∧ ∀ y0 ∈ r_1, (Lit.int .i64 y0).wf = true) → (r_2.length ≤ maxLen ∧ ∀ y0 ∈ r_2, (Lit.int .i64 y0).wf = true) → (Lit.int .i64 r_3).wf = true → (Lit.int .i64 r_4).wf = true → (r_5.length ≤ maxLen ∧ ∀ y0 ∈ r_5, (y0.length ≤ maxLen ∧ ∀ y1 ∈ y0, (Lit.int .i64 y1).wf = true)) → (x.length ≤ maxLen ∧ ∀ y0 ∈ x, (Lit.int .i64 y0).wf = true) → ∃ k : Nat, 1048576 < (x.length : Int) ∨ (¬ 1048576 < (x.length : Int) ∧ ∃ zr : Int, laws_szRaga.f k r_0 r_1 r_2 r_3 r_4 r_5 1048576 = some zr ∧ (zr < 0 ∨ (¬ zr < 0 ∧ ∃ (R0 : Int) (R1 : List (List Int)) (R2 : Int) (vr : Int) (vx : Int) (Mx : List Int) (m1 : Int) (N1 : List (List Int)), spec_AllowedPermutations.f k r_0 r_1 r_2 r_3 r_4 r_5 x = some (R0, R1, R2) ∧ impl_AllowedPermutations.f k r_0 r_1 r_2 r_3 r_4 r_5 x = some (R0, R1, R2) ∧ laws_toRaga.f k r_0 r_1 r_2 r_3 r_4 r_5 = some (r_0, r_1, r_2, r_3, r_4, r_5) ∧ laws_eqRaga.f k r_0 r_1 r_2 r_3 r_4 r_5 r_0 r_1 r_2 r_3 r_4 r_5 = some true ∧ laws_toInt64S.f k x = some x ∧ laws_eqInt64S.f k x x = some true ∧ laws_markRaga.f k r_0 r_1 r_2 r_3 r_4 r_5 1 = some vr ∧ laws_markInt64S.f k x vr = some (vx, Mx) ∧ 0 ≤ vx ∧ laws_eqInt64SS.f k R1 R1 = some true ∧ laws_markInt64SS.f k R1 1 = some (m1, N1) ∧ laws_heldInt64SS.f k N1 1 = some m1 ∧ 0 ≤ m1)))
set_option maxHeartbeats 16000000 in
set_option maxRecDepth 100000 in
theorem laws_FnExactAllowedPermutations.walk (P : laws_FnExactAllowedPermutations.Pure) (r_0 : ByteArray) (Ar_1 : Option Addr) (cr_1 : Nat) (r_1 : List Int) (Ar_2 : Option Addr) (cr_2 : Nat) (r_2 : List Int) (r_3 : Int) (r_4 : Int) (Ar_5 : Option Addr) (cr_5 : Nat) (r_5 : List (List Int)) (Ax : Option Addr) (cx : Nat) (x : List Int) (w : World) (hrr_1 : Kd.C (Kd.int .i64) w Ar_1 r_1.length r_1) (hcr_1 : r_1.length ≤ cr_1) (hrr_2 : Kd.C (Kd.int .i64) w Ar_2 r_2.length r_2) (hcr_2 : r_2.length ≤ cr_2) (hrr_5 : Kd.C (Kd.slice 2 (Kd.int .i64)) w Ar_5 r_5.length r_5) (hcr_5 : r_5.length ≤ cr_5) (hrx : Kd.C (Kd.int .i64) w Ax x.length x) (hcx : x.length ≤ cx) (w_r_0 : r_0.size ≤ maxLen) (w_r_1 : (r_1.length ≤ maxLen ∧ ∀ y0 ∈ r_1, (Lit.int .i64 y0).wf = true)) (w_r_2 : (r_2.length ≤ maxLen ∧ ∀ y0 ∈ r_2, (Lit.int .i64 y0).wf = true)) (w_r_3 : (Lit.int .i64 r_3).wf = true) (w_r_4 : (Lit.int .i64 r_4).wf = true) (w_r_5 : (r_5.length ≤ maxLen ∧ ∀ y0 ∈ r_5, (y0.length ≤ maxLen ∧ ∀ y1 ∈ y0, (Lit.int .i64 y1).wf = true))) (w_x : (x.length ≤ maxLen ∧ ∀ y0 ∈ x, (Lit.int .i64 y0).wf = true)) :
    Calls Try.prog 12 #[.agg #[.string r_0, .slice Ar_1 r_1.length cr_1, .slice Ar_2 r_2.length cr_2, .int .i64 r_3, .int .i64 r_4, .slice Ar_5 r_5.length cr_5], .slice Ax x.length cx] w fun e w' => e = .returned (.bool true) ∧ Below w.heap.size w w' := by
  obtain ⟨k, HP⟩ := P r_0 r_1 r_2 r_3 r_4 r_5 x w_r_0 w_r_1 w_r_2 w_r_3 w_r_4 w_r_5 w_x
  clear P w_r_0 w_r_1 w_r_2 w_r_3 w_r_4 w_r_5 w_x
  have HRr_1 := Aside0.mk hrr_1
  have HCr_1 := Aside0.mk hcr_1
  clear hrr_1 hcr_1
  have HRr_2 := Aside0.mk hrr_2
  have HCr_2 := Aside0.mk hcr_2
  clear hrr_2 hcr_2
  have HRr_5 := Aside0.mk hrr_5
  have HCr_5 := Aside0.mk hcr_5
  clear hrr_5 hcr_5
  have HRx := Aside0.mk hrx
  have HCx := Aside0.mk hcx
  clear hrx hcx
  have HS := Aside0.mk (Since.start w)
  have hu25 := Try.underlying25
  have hu29 := Try.underlying29
  rcases HP with h1_ | ⟨h1_, HP⟩
  · have c_x : decide (1048576 < (x.length : Int)) = true := decide_eq_true h1_
    have d_x : decide (1048576 < x.length) = true := decide_eq_true (by omega)
    clear h1_
    have Q0 := trivial
    go_enter Try.func12, Try.ntmps12
    go_wp2_with (first
      | ((clear Q0); (with_reducible refine gate_dst (N := 2) rfl ?_); refine box_event ?hg (N := 2) ?hd (cs := #[.string r_0, .slice Ar_1 r_1.length cr_1, .slice Ar_2 r_2.length cr_2, .int .i64 r_3, .int .i64 r_4, .slice Ar_5 r_5.length cr_5]) (t := 25) ?hr ?_; (case hd => rfl); (case hg => rfl); (case hr => first | (go_simp; done) | (go_simp; rfl)); intro gar hg w1 hbox hb; have BKar := Aside0.mk hbox; have Gar := Aside0.mk (show w.heap.size ≤ gar ∧ gar < w1.heap.size from ⟨by rw [hg]; exact below_size (Bl.out), blk_lt hbox⟩); clear hbox hg; have hs_ := Aside0.mk (HS.out.go hb); have M_w1 := Aside0.mk (Bl.size (w := w) hb); clear HS; have HS := hs_; clear hs_; clear hb; obtain ⟨har_0, har_1, har_2, har_3, har_4, har_5, hfar⟩ := boxed6 BKar.out (HS.out.at_ (W := w1)); have Q1 := trivial))
    go_ret
    exact ⟨sv_, HS.out.at_⟩
  have c_x : decide (1048576 < (x.length : Int)) = false := decide_eq_false h1_
  have d_x : decide (1048576 < x.length) = false := decide_eq_false (by omega)
  clear h1_
  obtain ⟨zr, z_, HP⟩ := HP
  have Zr := Aside0.mk z_
  clear z_
  rcases HP with h1_ | ⟨h1_, HP⟩
  · have c_zr : decide (zr < 0) = true := decide_eq_true h1_
    clear h1_
    have Q0 := trivial
    go_enter Try.func12, Try.ntmps12
    go_wp2_with (first
      | ((clear Q0); (with_reducible refine gate_dst (N := 2) rfl ?_); refine box_event ?hg (N := 2) ?hd (cs := #[.string r_0, .slice Ar_1 r_1.length cr_1, .slice Ar_2 r_2.length cr_2, .int .i64 r_3, .int .i64 r_4, .slice Ar_5 r_5.length cr_5]) (t := 25) ?hr ?_; (case hd => rfl); (case hg => rfl); (case hr => first | (go_simp; done) | (go_simp; rfl)); intro gar hg w1 hbox hb; have BKar := Aside0.mk hbox; have Gar := Aside0.mk (show w.heap.size ≤ gar ∧ gar < w1.heap.size from ⟨by rw [hg]; exact below_size (Bl.out), blk_lt hbox⟩); clear hbox hg; have hs_ := Aside0.mk (HS.out.go hb); have M_w1 := Aside0.mk (Bl.size (w := w) hb); clear HS; have HS := hs_; clear hs_; clear hb; obtain ⟨har_0, har_1, har_2, har_3, har_4, har_5, hfar⟩ := boxed6 BKar.out (HS.out.at_ (W := w1)); have Q1 := trivial)
      | ((clear Q1); (with_reducible refine gate_callee (f := 13) rfl ?_); refine goesL_ (some _) rfl rfl Try.func13 (by kernel_rfl) rfl #[.agg #[.string r_0, .slice Ar_1 r_1.length cr_1, .slice Ar_2 r_2.length cr_2, .int .i64 r_3, .int .i64 r_4, .slice Ar_5 r_5.length cr_5], .int .i64 1048576] rfl aw_ ?_; (with_reducible refine (laws_szRaga.calls k r_0 _ _ r_1 _ _ r_2 r_3 r_4 _ _ r_5 1048576 zr _ ?s0 ?t0 ?s1 ?t1 ?s2 ?t2 Zr.out).mono ?_); (case s0 => exact HS.out.C HRr_1.out); (case t0 => exact HCr_1.out); (case s1 => exact HS.out.C HRr_2.out); (case t1 => exact HCr_2.out); (case s2 => exact HS.out.C HRr_5.out); (case t2 => exact HCr_5.out); rintro e w2 ⟨rfl, hb_⟩; refine ⟨_, rfl, ?_⟩; have hb := below_of hb_; clear hb_; have hs_ := Aside0.mk (HS.out.go hb); have M_w2 := Aside0.mk (Bl.size (w := w1) hb); clear HS; have HS := hs_; clear hs_; clear hb; clear har_0 har_1 har_2 har_3 har_4 har_5 hfar; obtain ⟨har_0, har_1, har_2, har_3, har_4, har_5, hfar⟩ := boxed6 BKar.out (HS.out.at_ (W := w2)); have Q2 := trivial))
    go_ret
    exact ⟨sv_, HS.out.at_⟩
  have c_zr : decide (zr < 0) = false := decide_eq_false h1_
  clear h1_
  obtain ⟨R0, R1, R2, vr, vx, Mx, m1, N1, pP, pI, pTr, pEr, pTx, pEx, pKr, pKx, pk0, pER1, pKR1, pHR1, pm10⟩ := HP
  have P := Aside0.mk pP
  clear pP
  have I := Aside0.mk pI
  clear pI
  have Tr := Aside0.mk pTr
  clear pTr
  have Er := Aside0.mk pEr
  clear pEr
  have Tx := Aside0.mk pTx
  clear pTx
  have Ex := Aside0.mk pEx
  clear pEx
  have Kr := Aside0.mk pKr
  clear pKr
  have Kx := Aside0.mk pKx
  clear pKx
  have c_k : decide (vx < 0) = false := decide_eq_false (by omega)
  clear pk0
  have ER1 := Aside0.mk pER1
  clear pER1
  have KR1 := Aside0.mk pKR1
  clear pKR1
  have HR1 := Aside0.mk pHR1
  clear pHR1
  have c_m10 : decide (m1 < 0) = false := decide_eq_false (by omega)
  clear pm10
  have Q0 := trivial
  go_enter Try.func12, Try.ntmps12
  go_wp2_with (first
    | ((clear Q0); (with_reducible refine gate_dst (N := 2) rfl ?_); refine box_event ?hg (N := 2) ?hd (cs := #[.string r_0, .slice Ar_1 r_1.length cr_1, .slice Ar_2 r_2.length cr_2, .int .i64 r_3, .int .i64 r_4, .slice Ar_5 r_5.length cr_5]) (t := 25) ?hr ?_; (case hd => rfl); (case hg => rfl); (case hr => first | (go_simp; done) | (go_simp; rfl)); intro gar hg w1 hbox hb; have BKar := Aside0.mk hbox; have Gar := Aside0.mk (show w.heap.size ≤ gar ∧ gar < w1.heap.size from ⟨by rw [hg]; exact below_size (Bl.out), blk_lt hbox⟩); clear hbox hg; have hs_ := Aside0.mk (HS.out.go hb); have M_w1 := Aside0.mk (Bl.size (w := w) hb); clear HS; have HS := hs_; clear hs_; clear hb; obtain ⟨har_0, har_1, har_2, har_3, har_4, har_5, hfar⟩ := boxed6 BKar.out (HS.out.at_ (W := w1)); have Q1 := trivial)
    | ((clear Q1); (with_reducible refine gate_callee (f := 13) rfl ?_); refine goesL_ (some _) rfl rfl Try.func13 (by kernel_rfl) rfl #[.agg #[.string r_0, .slice Ar_1 r_1.length cr_1, .slice Ar_2 r_2.length cr_2, .int .i64 r_3, .int .i64 r_4, .slice Ar_5 r_5.length cr_5], .int .i64 1048576] rfl aw_ ?_; (with_reducible refine (laws_szRaga.calls k r_0 _ _ r_1 _ _ r_2 r_3 r_4 _ _ r_5 1048576 zr _ ?s0 ?t0 ?s1 ?t1 ?s2 ?t2 Zr.out).mono ?_); (case s0 => exact HS.out.C HRr_1.out); (case t0 => exact HCr_1.out); (case s1 => exact HS.out.C HRr_2.out); (case t1 => exact HCr_2.out); (case s2 => exact HS.out.C HRr_5.out); (case t2 => exact HCr_5.out); rintro e w2 ⟨rfl, hb_⟩; refine ⟨_, rfl, ?_⟩; have hb := below_of hb_; clear hb_; have hs_ := Aside0.mk (HS.out.go hb); have M_w2 := Aside0.mk (Bl.size (w := w1) hb); clear HS; have HS := hs_; clear hs_; clear hb; clear har_0 har_1 har_2 har_3 har_4 har_5 hfar; obtain ⟨har_0, har_1, har_2, har_3, har_4, har_5, hfar⟩ := boxed6 BKar.out (HS.out.at_ (W := w2)); have Q2 := trivial)
    | ((clear Q2); (with_reducible refine gate_callee (f := 15) rfl ?_); refine goesL_ (some _) rfl rfl Try.func15 (by kernel_rfl) rfl #[.agg #[.string r_0, .slice Ar_1 r_1.length cr_1, .slice Ar_2 r_2.length cr_2, .int .i64 r_3, .int .i64 r_4, .slice Ar_5 r_5.length cr_5]] rfl aw_ ?_; (with_reducible refine (laws_toRaga.calls k r_0 _ _ r_1 _ _ r_2 r_3 r_4 _ _ r_5 r_0 r_1 r_2 r_3 r_4 r_5 _ ?s0 ?t0 ?s1 ?t1 ?s2 ?t2 Tr.out).mono ?_); (case s0 => exact HS.out.C HRr_1.out); (case t0 => exact HCr_1.out); (case s1 => exact HS.out.C HRr_2.out); (case t1 => exact HCr_2.out); (case s2 => exact HS.out.C HRr_5.out); (case t2 => exact HCr_5.out); rintro e w3 ⟨v0, v1, v2, rfl, ho0, ho1, ho2, hb⟩; refine ⟨_, rfl, ?_⟩; obtain ⟨ATr_r_1, cTr_r_1, ev⟩ := Kd.R_slice ho0; subst ev; have HOTr_r_1 := Aside0.mk (Kd.R_lower ho0 (below_size (Bl.out (w := w2)))); clear ho0; obtain ⟨ATr_r_2, cTr_r_2, ev⟩ := Kd.R_slice ho1; subst ev; have HOTr_r_2 := Aside0.mk (Kd.R_lower ho1 (below_size (Bl.out (w := w2)))); clear ho1; obtain ⟨ATr_r_5, cTr_r_5, ev⟩ := Kd.S_slice ho2; subst ev; have HOTr_r_5 := Aside0.mk (Kd.S_lower ho2 (below_size (Bl.out (w := w2)))); clear ho2; have hs_ := Aside0.mk (HS.out.go hb); have M_w3 := Aside0.mk (Bl.size (w := w2) hb); clear HS; have HS := hs_; clear hs_; clear hb; clear har_0 har_1 har_2 har_3 har_4 har_5 hfar; obtain ⟨har_0, har_1, har_2, har_3, har_4, har_5, hfar⟩ := boxed6 BKar.out (HS.out.at_ (W := w3)); have Q3 := trivial)
    | ((clear Q3); (with_reducible refine gate_callee (f := 30) rfl ?_); refine goesL_ (some _) rfl rfl Try.func30 (by kernel_rfl) rfl #[.slice Ax x.length cx] rfl aw_ ?_; (with_reducible refine (laws_toInt64S.calls k _ _ x x _ ?s0 ?t0 Tx.out).mono ?_); (case s0 => exact HS.out.C HRx.out); (case t0 => exact HCx.out); rintro e w4 ⟨v0, rfl, ho0, hb⟩; refine ⟨_, rfl, ?_⟩; obtain ⟨ATx, cTx, ev⟩ := Kd.R_slice ho0; subst ev; have HOTx := Aside0.mk (Kd.R_lower ho0 (below_size (Bl.out (w := w3)))); clear ho0; have hs_ := Aside0.mk (HS.out.go hb); have M_w4 := Aside0.mk (Bl.size (w := w3) hb); clear HS; have HS := hs_; clear hs_; clear hb; clear har_0 har_1 har_2 har_3 har_4 har_5 hfar; obtain ⟨har_0, har_1, har_2, har_3, har_4, har_5, hfar⟩ := boxed6 BKar.out (HS.out.at_ (W := w4)); have Q4 := trivial)
    | ((clear Q4); (with_reducible refine gate_callee (f := 53) rfl ?_); refine goesL_ (some _) rfl rfl Try.func53 (by kernel_rfl) rfl #[.agg #[.string r_0, .slice ATr_r_1 r_1.length cTr_r_1, .slice ATr_r_2 r_2.length cTr_r_2, .int .i64 r_3, .int .i64 r_4, .slice ATr_r_5 r_5.length cTr_r_5], .slice ATx x.length cTx] rfl aw_ ?_; (with_reducible refine (spec_AllowedPermutations.calls k r_0 _ _ r_1 _ _ r_2 r_3 r_4 _ _ r_5 _ _ x R0 R1 R2 _ ?s0 ?t0 ?s1 ?t1 ?s2 ?t2 ?s3 ?t3 P.out).mono ?_); (case s0 => exact HS.out.C (RC HOTr_r_1.out)); (case t0 => exact RL HOTr_r_1.out); (case s1 => exact HS.out.C (RC HOTr_r_2.out)); (case t1 => exact RL HOTr_r_2.out); (case s2 => exact HS.out.C (SC HOTr_r_5.out)); (case t2 => exact SL HOTr_r_5.out); (case s3 => exact HS.out.C (RC HOTx.out)); (case t3 => exact RL HOTx.out); rintro e w5 ⟨v1, rfl, ho1, hb⟩; refine ⟨_, rfl, ?_⟩; obtain ⟨AW1, cW1, ev⟩ := Kd.S_slice ho1; subst ev; have HOW1 := Aside0.mk (Kd.S_lower ho1 (below_size (Bl.out (w := w4)))); clear ho1; have hs_ := Aside0.mk (HS.out.go hb); have M_w5 := Aside0.mk (Bl.size (w := w4) hb); clear HS; have HS := hs_; clear hs_; clear hb; clear har_0 har_1 har_2 har_3 har_4 har_5 hfar; obtain ⟨har_0, har_1, har_2, har_3, har_4, har_5, hfar⟩ := boxed6 BKar.out (HS.out.at_ (W := w5)); have Q5 := trivial)
    | ((clear Q5); (with_reducible refine gate_callee (f := 15) rfl ?_); refine goesL_ (some _) rfl rfl Try.func15 (by kernel_rfl) rfl #[.agg #[.string r_0, .slice Ar_1 r_1.length cr_1, .slice Ar_2 r_2.length cr_2, .int .i64 r_3, .int .i64 r_4, .slice Ar_5 r_5.length cr_5]] rfl aw_ ?_; (with_reducible refine (laws_toRaga.calls k r_0 _ _ r_1 _ _ r_2 r_3 r_4 _ _ r_5 r_0 r_1 r_2 r_3 r_4 r_5 _ ?s0 ?t0 ?s1 ?t1 ?s2 ?t2 Tr.out).mono ?_); (case s0 => exact HS.out.C HRr_1.out); (case t0 => exact HCr_1.out); (case s1 => exact HS.out.C HRr_2.out); (case t1 => exact HCr_2.out); (case s2 => exact HS.out.C HRr_5.out); (case t2 => exact HCr_5.out); rintro e w6 ⟨v0, v1, v2, rfl, ho0, ho1, ho2, hb⟩; refine ⟨_, rfl, ?_⟩; obtain ⟨AXr_r_1, cXr_r_1, ev⟩ := Kd.R_slice ho0; subst ev; have HOXr_r_1 := Aside0.mk (Kd.R_lower ho0 (below_size (Bl.out (w := w5)))); clear ho0; obtain ⟨AXr_r_2, cXr_r_2, ev⟩ := Kd.R_slice ho1; subst ev; have HOXr_r_2 := Aside0.mk (Kd.R_lower ho1 (below_size (Bl.out (w := w5)))); clear ho1; obtain ⟨AXr_r_5, cXr_r_5, ev⟩ := Kd.S_slice ho2; subst ev; have HOXr_r_5 := Aside0.mk (Kd.S_lower ho2 (below_size (Bl.out (w := w5)))); clear ho2; have hs_ := Aside0.mk (HS.out.go hb); have M_w6 := Aside0.mk (Bl.size (w := w5) hb); clear HS; have HS := hs_; clear hs_; clear hb; clear har_0 har_1 har_2 har_3 har_4 har_5 hfar; obtain ⟨har_0, har_1, har_2, har_3, har_4, har_5, hfar⟩ := boxed6 BKar.out (HS.out.at_ (W := w6)); have Q6 := trivial)
    | ((clear Q6); (with_reducible refine gate_dst (N := 9) rfl ?_); refine box_event ?hg (N := 9) ?hd (cs := #[.string (⟨#[]⟩ : ByteArray), .slice none 0 0, .slice none 0 0, .int .i64 0, .int .i64 0, .slice none 0 0]) (t := 29) ?hr ?_; (case hd => rfl); (case hg => rfl); (case hr => first | (go_simp; done) | (go_simp; rfl)); intro gxr hg w7b hbox hb; have BKxr := Aside0.mk hbox; have Gxr := Aside0.mk (show w6.heap.size ≤ gxr by rw [hg]; exact below_size Bl.out); have HX : Bl w6 w7b := ⟨Bl.go hb⟩; clear hg; clear har_0 har_1 har_2 har_3 har_4 har_5 hfar; obtain ⟨hxr_0, hxr_1, hxr_2, hxr_3, hxr_4, hxr_5, hfxr⟩ := boxed6 hbox (Below.refl _ _); clear hbox hb; obtain ⟨har_0, har_1, har_2, har_3, har_4, har_5, hfar⟩ := boxed6 BKar.out (HS.out.at_ (W := w7b)); have hnar : gar ≠ gxr := Nat.ne_of_lt (Nat.lt_of_lt_of_le Gar.out.2 (Nat.le_trans (Nat.le_trans M_w2.out (Nat.le_trans M_w3.out (Nat.le_trans M_w4.out (Nat.le_trans M_w5.out (M_w6.out))))) Gxr.out)); have hoar := hnar.symm; have Q7 := trivial)
    | ((clear Q7); (with_reducible refine gate_callee (f := 30) rfl ?_); refine goesL_ (some _) rfl rfl Try.func30 (by kernel_rfl) rfl #[.slice Ax x.length cx] rfl aw_ ?_; refine calls_at w6 gxr #[.string r_0, .slice AXr_r_1 r_1.length cXr_r_1, .slice AXr_r_2 r_2.length cXr_r_2, .int .i64 r_3, .int .i64 r_4, .slice AXr_r_5 r_5.length cXr_r_5] 29 (by with_reducible repeat (first | exact HX | refine Bl.set ?_ Gxr.out | apply Bl.alloc | apply Bl.drewN | apply Bl.drew)) (by (with_reducible repeat (first | refine blk_drewN ?_ _ | refine blk_drew ?_ | refine blk_alloc ?_ _)); exact (blk_put (blk_put (blk_put (blk_put (blk_put (blk_put BKxr.out 0 (.string r_0) rfl) 1 (.slice AXr_r_1 r_1.length cXr_r_1) rfl) 2 (.slice AXr_r_2 r_2.length cXr_r_2) rfl) 3 (.int .i64 r_3) rfl) 4 (.int .i64 r_4) rfl) 5 (.slice AXr_r_5 r_5.length cXr_r_5) rfl)) ?_; intro W_ hx_ hbk_; clear BKxr HX; have BKxr := Aside0.mk hbk_; clear hbk_; (with_reducible refine (laws_toInt64S.calls k _ _ x x _ ?s0 ?t0 Tx.out).mono ?_); (case s0 => exact HS.out.C HRx.out); (case t0 => exact HCx.out); rintro e w8 ⟨v0, rfl, ho0, hb⟩; refine ⟨_, rfl, ?_⟩; obtain ⟨AXx, cXx, ev⟩ := Kd.R_slice ho0; subst ev; have HOXx := Aside0.mk (Kd.R_lower ho0 (below_size (Bl.out (w := w6)))); clear ho0; have hs_ := Aside0.mk (HS.out.go hb); have M_w8 := Aside0.mk (Bl.size (w := w6) hb); clear HS; have HS := hs_; clear hs_; have bk_ := Aside0.mk (blk_below BKxr.out hb); have g_ := Aside0.mk (⟨Gxr.out, Nat.lt_of_lt_of_le (blk_lt BKxr.out) (below_size0 hb)⟩ : w6.heap.size ≤ gxr ∧ gxr < w8.heap.size); clear BKxr Gxr hx_; have BKxr := bk_; have Gxr := g_; clear bk_ g_; clear hb; clear hxr_0 hxr_1 hxr_2 hxr_3 hxr_4 hxr_5 hfxr har_0 har_1 har_2 har_3 har_4 har_5 hfar hnar hoar; obtain ⟨har_0, har_1, har_2, har_3, har_4, har_5, hfar⟩ := boxed6 BKar.out (HS.out.at_ (W := w8)); obtain ⟨hxr_0, hxr_1, hxr_2, hxr_3, hxr_4, hxr_5, hfxr⟩ := boxed6 BKxr.out (HS.out.at_ (W := w8)); have Q8 := trivial)
    | ((clear Q8); (with_reducible refine gate_callee (f := 54) rfl ?_); refine goesL_ (some _) rfl rfl Try.func54 (by kernel_rfl) rfl #[.agg #[.string r_0, .slice AXr_r_1 r_1.length cXr_r_1, .slice AXr_r_2 r_2.length cXr_r_2, .int .i64 r_3, .int .i64 r_4, .slice AXr_r_5 r_5.length cXr_r_5], .slice AXx x.length cXx] rfl aw_ ?_; (with_reducible refine (impl_AllowedPermutations.calls k r_0 _ _ r_1 _ _ r_2 r_3 r_4 _ _ r_5 _ _ x R0 R1 R2 _ ?s0 ?t0 ?s1 ?t1 ?s2 ?t2 ?s3 ?t3 I.out).mono ?_); (case s0 => exact HS.out.C (RC HOXr_r_1.out)); (case t0 => exact RL HOXr_r_1.out); (case s1 => exact HS.out.C (RC HOXr_r_2.out)); (case t1 => exact RL HOXr_r_2.out); (case s2 => exact HS.out.C (SC HOXr_r_5.out)); (case t2 => exact SL HOXr_r_5.out); (case s3 => exact HS.out.C (RC HOXx.out)); (case t3 => exact RL HOXx.out); rintro e w9 ⟨v1, rfl, ho1, hb⟩; refine ⟨_, rfl, ?_⟩; obtain ⟨AG1, cG1, ev⟩ := Kd.S_slice ho1; subst ev; have HOG1 := Aside0.mk (Kd.S_lower ho1 (below_size (Bl.out (w := w8)))); clear ho1; have hs_ := Aside0.mk (HS.out.go hb); have M_w9 := Aside0.mk (Bl.size (w := w8) hb); clear HS; have HS := hs_; clear hs_; clear hb; clear har_0 har_1 har_2 har_3 har_4 har_5 hfar hxr_0 hxr_1 hxr_2 hxr_3 hxr_4 hxr_5 hfxr; obtain ⟨har_0, har_1, har_2, har_3, har_4, har_5, hfar⟩ := boxed6 BKar.out (HS.out.at_ (W := w9)); obtain ⟨hxr_0, hxr_1, hxr_2, hxr_3, hxr_4, hxr_5, hfxr⟩ := boxed6 BKxr.out (HS.out.at_ (W := w9)); have Q9 := trivial)
    | ((clear Q9); go_at_call 37; refine calls_of_args (args' := #[.slice AG1 R1.length cG1, .slice AW1 R1.length cW1]) aw_ ?_; (with_reducible refine (laws_eqInt64SS.calls k _ _ R1 _ _ R1 true _ ?s0 ?t0 ?s1 ?t1 ER1.out).mono ?_); (case s0 => exact HS.out.C (SC HOG1.out)); (case t0 => exact SL HOG1.out); (case s1 => exact HS.out.C (SC HOW1.out)); (case t1 => exact SL HOW1.out); rintro e w10 ⟨rfl, hb_⟩; have hb := below_of hb_; clear hb_; have hs_ := Aside0.mk (HS.out.go hb); have M_w10 := Aside0.mk (Bl.size (w := w9) hb); clear HS; have HS := hs_; clear hs_; clear hb; clear har_0 har_1 har_2 har_3 har_4 har_5 hfar hxr_0 hxr_1 hxr_2 hxr_3 hxr_4 hxr_5 hfxr; obtain ⟨har_0, har_1, har_2, har_3, har_4, har_5, hfar⟩ := boxed6 BKar.out (HS.out.at_ (W := w10)); obtain ⟨hxr_0, hxr_1, hxr_2, hxr_3, hxr_4, hxr_5, hfxr⟩ := boxed6 BKxr.out (HS.out.at_ (W := w10)); have Q10 := trivial))
  refine start_ (n := 5) (S := fun w' => w'.cell? ⟨gar, 0, none⟩ = some (.string r_0) ∧ w'.cell? ⟨gar, 1, none⟩ = some (.slice Ar_1 r_1.length cr_1) ∧ w'.cell? ⟨gar, 2, none⟩ = some (.slice Ar_2 r_2.length cr_2) ∧ w'.cell? ⟨gar, 3, none⟩ = some (.int .i64 r_3) ∧ w'.cell? ⟨gar, 4, none⟩ = some (.int .i64 r_4) ∧ w'.cell? ⟨gar, 5, none⟩ = some (.slice Ar_5 r_5.length cr_5) ∧ w'.cell? ⟨gxr, 0, none⟩ = some (.string r_0) ∧ w'.cell? ⟨gxr, 1, none⟩ = some (.slice AXr_r_1 r_1.length cXr_r_1) ∧ w'.cell? ⟨gxr, 2, none⟩ = some (.slice AXr_r_2 r_2.length cXr_r_2) ∧ w'.cell? ⟨gxr, 3, none⟩ = some (.int .i64 r_3) ∧ w'.cell? ⟨gxr, 4, none⟩ = some (.int .i64 r_4) ∧ w'.cell? ⟨gxr, 5, none⟩ = some (.slice AXr_r_5 r_5.length cXr_r_5)) (ds := []) #[false, false, false, false, false] (by kernel_rfl) rfl rfl ⟨har_0, har_1, har_2, har_3, har_4, har_5, hxr_0, hxr_1, hxr_2, hxr_3, hxr_4, hxr_5⟩ (fun hHeld => ?_)
  refine take_ (i := 0) (N := some 62) (v := ?_) (a' := ?_) #[true, false, false, false, false] rfl rfl (by kernel_rfl) (fun _ _ _ h => h) (Or.inl ⟨by rfl, ?_⟩) hHeld ?_ ?_
  rotate_left
  · rintro w' ⟨s0, s1, s2, s3, s4, s5, s6, s7, s8, s9, s10, s11⟩; go_simp; with_reducible rfl
  rotate_left
  · go_simp; rfl
  refine take_ (i := 1) (N := some 63) (v := ?_) (a' := ?_) #[true, true, false, false, false] rfl rfl (by kernel_rfl) (fun _ _ _ h => h) (Or.inl ⟨by rfl, ?_⟩) hHeld ?_ ?_
  rotate_left
  · rintro w' ⟨s0, s1, s2, s3, s4, s5, s6, s7, s8, s9, s10, s11⟩; go_simp; with_reducible rfl
  rotate_left
  · go_simp; rfl
  refine one_ (i := 2) (N := some 64) #[true, true, true, false, false] rfl rfl (by kernel_rfl) (by decide) (fun K hK => ?_)
  refine goes_ Try.func15 (by kernel_rfl) rfl #[.agg #[.string r_0, .slice Ar_1 r_1.length cr_1, .slice Ar_2 r_2.length cr_2, .int .i64 r_3, .int .i64 r_4, .slice Ar_5 r_5.length cr_5]] (by rfl) rfl rfl aw_ ?_
  clear hHeld Q10
  (with_reducible refine (laws_toRaga.calls k r_0 _ _ r_1 _ _ r_2 r_3 r_4 _ _ r_5 r_0 r_1 r_2 r_3 r_4 r_5 _ ?s0 ?t0 ?s1 ?t1 ?s2 ?t2 Tr.out).mono ?_)
  (case s0 => exact HS.out.C HRr_1.out)
  (case t0 => exact HCr_1.out)
  (case s1 => exact HS.out.C HRr_2.out)
  (case t1 => exact HCr_2.out)
  (case s2 => exact HS.out.C HRr_5.out)
  (case t2 => exact HCr_5.out)
  rintro e w11 ⟨v0, v1, v2, rfl, ho0, ho1, ho2, hb⟩
  refine ⟨_, rfl, ?_⟩
  obtain ⟨AUr_r_1, cUr_r_1, ev⟩ := Kd.R_slice ho0
  subst ev
  have HOUr_r_1 := Aside0.mk (Kd.R_lower ho0 (below_size (Bl.out (w := w10))))
  clear ho0
  obtain ⟨AUr_r_2, cUr_r_2, ev⟩ := Kd.R_slice ho1
  subst ev
  have HOUr_r_2 := Aside0.mk (Kd.R_lower ho1 (below_size (Bl.out (w := w10))))
  clear ho1
  obtain ⟨AUr_r_5, cUr_r_5, ev⟩ := Kd.S_slice ho2
  subst ev
  have HOUr_r_5 := Aside0.mk (Kd.S_lower ho2 (below_size (Bl.out (w := w10))))
  clear ho2
  have hs_ := Aside0.mk (HS.out.go hb)
  have M_w11 := Aside0.mk (Bl.size (w := w10) hb)
  clear HS
  have HS := hs_
  clear hs_
  clear hb
  clear har_0 har_1 har_2 har_3 har_4 har_5 hfar hxr_0 hxr_1 hxr_2 hxr_3 hxr_4 hxr_5 hfxr
  obtain ⟨har_0, har_1, har_2, har_3, har_4, har_5, hfar⟩ := boxed6 BKar.out (HS.out.at_ (W := w11))
  obtain ⟨hxr_0, hxr_1, hxr_2, hxr_3, hxr_4, hxr_5, hfxr⟩ := boxed6 BKxr.out (HS.out.at_ (W := w11))
  have Q11 := trivial
  refine hK.out _ _ ⟨har_0, har_1, har_2, har_3, har_4, har_5, hxr_0, hxr_1, hxr_2, hxr_3, hxr_4, hxr_5⟩ (fun hHeld => ?_)
  clear hK K
  refine norm_ (a' := ?_) ?_ ?_
  rotate_left
  · show Act.put _ (some 64) _ = _; go_simp; rfl
  refine one_ (i := 3) (N := some 65) #[true, true, true, true, false] rfl rfl (by kernel_rfl) (by decide) (fun K hK => ?_)
  refine goes_ Try.func18 (by kernel_rfl) rfl #[.agg #[.string r_0, .slice AXr_r_1 r_1.length cXr_r_1, .slice AXr_r_2 r_2.length cXr_r_2, .int .i64 r_3, .int .i64 r_4, .slice AXr_r_5 r_5.length cXr_r_5], .agg #[.string r_0, .slice AUr_r_1 r_1.length cUr_r_1, .slice AUr_r_2 r_2.length cUr_r_2, .int .i64 r_3, .int .i64 r_4, .slice AUr_r_5 r_5.length cUr_r_5]] (by rfl) rfl rfl aw_ ?_
  clear hHeld Q11
  (with_reducible refine (laws_eqRaga.calls k r_0 _ _ r_1 _ _ r_2 r_3 r_4 _ _ r_5 r_0 _ _ r_1 _ _ r_2 r_3 r_4 _ _ r_5 true _ ?s0 ?t0 ?s1 ?t1 ?s2 ?t2 ?s3 ?t3 ?s4 ?t4 ?s5 ?t5 Er.out).mono ?_)
  (case s0 => exact HS.out.C (RC HOXr_r_1.out))
  (case t0 => exact RL HOXr_r_1.out)
  (case s1 => exact HS.out.C (RC HOXr_r_2.out))
  (case t1 => exact RL HOXr_r_2.out)
  (case s2 => exact HS.out.C (SC HOXr_r_5.out))
  (case t2 => exact SL HOXr_r_5.out)
  (case s3 => exact HS.out.C (RC HOUr_r_1.out))
  (case t3 => exact RL HOUr_r_1.out)
  (case s4 => exact HS.out.C (RC HOUr_r_2.out))
  (case t4 => exact RL HOUr_r_2.out)
  (case s5 => exact HS.out.C (SC HOUr_r_5.out))
  (case t5 => exact SL HOUr_r_5.out)
  rintro e w12 ⟨rfl, hb_⟩
  refine ⟨_, rfl, ?_⟩
  have hb := below_of hb_
  clear hb_
  have hs_ := Aside0.mk (HS.out.go hb)
  have M_w12 := Aside0.mk (Bl.size (w := w11) hb)
  clear HS
  have HS := hs_
  clear hs_
  clear hb
  clear har_0 har_1 har_2 har_3 har_4 har_5 hfar hxr_0 hxr_1 hxr_2 hxr_3 hxr_4 hxr_5 hfxr
  obtain ⟨har_0, har_1, har_2, har_3, har_4, har_5, hfar⟩ := boxed6 BKar.out (HS.out.at_ (W := w12))
  obtain ⟨hxr_0, hxr_1, hxr_2, hxr_3, hxr_4, hxr_5, hfxr⟩ := boxed6 BKxr.out (HS.out.at_ (W := w12))
  have Q12 := trivial
  refine hK.out _ _ ⟨har_0, har_1, har_2, har_3, har_4, har_5, hxr_0, hxr_1, hxr_2, hxr_3, hxr_4, hxr_5⟩ (fun hHeld => ?_)
  clear hK K
  refine norm_ (a' := ?_) ?_ ?_
  rotate_left
  · show Act.put _ (some 65) _ = _; go_simp; rfl
  refine pure_ (i := 4) (N := some 66) (v := ?_) (a' := ?_) #[true, true, true, true, true] rfl rfl (by kernel_rfl) (fun _ _ _ h => h) (Or.inl ⟨by rfl, ?_⟩) ?_ ?_
  rotate_left
  · intro w'; go_simp; with_reducible rfl
  rotate_left
  · go_simp; rfl
  refine done_ (by kernel_rfl) ?_
  clear hHeld
  go_wp2_with (first
    | ((clear Q12); (with_reducible refine gate_callee (f := 30) rfl ?_); refine goesL_ (some _) rfl rfl Try.func30 (by kernel_rfl) rfl #[.slice Ax x.length cx] rfl aw_ ?_; (with_reducible refine (laws_toInt64S.calls k _ _ x x _ ?s0 ?t0 Tx.out).mono ?_); (case s0 => exact HS.out.C HRx.out); (case t0 => exact HCx.out); rintro e w13 ⟨v0, rfl, ho0, hb⟩; refine ⟨_, rfl, ?_⟩; obtain ⟨AUx, cUx, ev⟩ := Kd.R_slice ho0; subst ev; have HOUx := Aside0.mk (Kd.R_lower ho0 (below_size (Bl.out (w := w12)))); clear ho0; have hs_ := Aside0.mk (HS.out.go hb); have M_w13 := Aside0.mk (Bl.size (w := w12) hb); clear HS; have HS := hs_; clear hs_; clear hb; clear har_0 har_1 har_2 har_3 har_4 har_5 hfar hxr_0 hxr_1 hxr_2 hxr_3 hxr_4 hxr_5 hfxr; obtain ⟨har_0, har_1, har_2, har_3, har_4, har_5, hfar⟩ := boxed6 BKar.out (HS.out.at_ (W := w13)); obtain ⟨hxr_0, hxr_1, hxr_2, hxr_3, hxr_4, hxr_5, hfxr⟩ := boxed6 BKxr.out (HS.out.at_ (W := w13)); have Q13 := trivial)
    | ((clear Q13); (with_reducible refine gate_callee (f := 17) rfl ?_); refine goesL_ (some _) rfl rfl Try.func17 (by kernel_rfl) rfl #[.slice AXx x.length cXx, .slice AUx x.length cUx] rfl aw_ ?_; (with_reducible refine (laws_eqInt64S.calls k _ _ x _ _ x true _ ?s0 ?t0 ?s1 ?t1 Ex.out).mono ?_); (case s0 => exact HS.out.C (RC HOXx.out)); (case t0 => exact RL HOXx.out); (case s1 => exact HS.out.C (RC HOUx.out)); (case t1 => exact RL HOUx.out); rintro e w14 ⟨rfl, hb_⟩; refine ⟨_, rfl, ?_⟩; have hb := below_of hb_; clear hb_; have hs_ := Aside0.mk (HS.out.go hb); have M_w14 := Aside0.mk (Bl.size (w := w13) hb); clear HS; have HS := hs_; clear hs_; clear hb; clear har_0 har_1 har_2 har_3 har_4 har_5 hfar hxr_0 hxr_1 hxr_2 hxr_3 hxr_4 hxr_5 hfxr; obtain ⟨har_0, har_1, har_2, har_3, har_4, har_5, hfar⟩ := boxed6 BKar.out (HS.out.at_ (W := w14)); obtain ⟨hxr_0, hxr_1, hxr_2, hxr_3, hxr_4, hxr_5, hfxr⟩ := boxed6 BKxr.out (HS.out.at_ (W := w14)); have Q14 := trivial)
    | ((clear Q14); (with_reducible refine gate_callee (f := 19) rfl ?_); refine goesL_ (some _) rfl rfl Try.func19 (by kernel_rfl) rfl #[.agg #[.string r_0, .slice AXr_r_1 r_1.length cXr_r_1, .slice AXr_r_2 r_2.length cXr_r_2, .int .i64 r_3, .int .i64 r_4, .slice AXr_r_5 r_5.length cXr_r_5], .int .i64 1] rfl aw_ ?_; (with_reducible refine (laws_markRaga.calls k (fun k_ => w5.heap.size ≤ k_ ∧ k_ < w6.heap.size) r_0 (.slice AXr_r_1 r_1.length cXr_r_1) (.slice AXr_r_2 r_2.length cXr_r_2) (.slice AXr_r_5 r_5.length cXr_r_5) r_1 r_2 r_3 r_4 r_5 1 vr w _ ?s0 ?r0 ?r1 ?r2 Kr.out).mono ?_); (case s0 => exact HS.out.at_); (case r0 => exact Kd.R_lower (range_R HOXr_r_1.out HS.out.at_ w5.heap.size (Nat.le_refl _)) (Nat.le_trans M_w1.out (Nat.le_trans M_w2.out (Nat.le_trans M_w3.out (Nat.le_trans M_w4.out (M_w5.out)))))); (case r1 => exact Kd.R_lower (range_R HOXr_r_2.out HS.out.at_ w5.heap.size (Nat.le_refl _)) (Nat.le_trans M_w1.out (Nat.le_trans M_w2.out (Nat.le_trans M_w3.out (Nat.le_trans M_w4.out (M_w5.out)))))); (case r2 => exact Kd.S_lower (range_S HOXr_r_5.out HS.out.at_ w5.heap.size (Nat.le_refl _)) (Nat.le_trans M_w1.out (Nat.le_trans M_w2.out (Nat.le_trans M_w3.out (Nat.le_trans M_w4.out (M_w5.out)))))); rintro e w15 ⟨rfl, hb, hkp⟩; refine ⟨_, rfl, ?_⟩; have nG1 := Aside0.mk (keep_S (range_S HOG1.out HS.out.at_ w8.heap.size (Nat.le_refl _)) hkp (.inr (M_w8.out))); have nW1 := Aside0.mk (keep_S (range_S HOW1.out HS.out.at_ w4.heap.size (Nat.le_refl _)) hkp (.inl (Nat.le_refl _))); have nXx := Aside0.mk (keep_R (range_R HOXx.out HS.out.at_ w6.heap.size (Nat.le_refl _)) hkp (.inr (Nat.le_refl _))); have nbar := Aside0.mk (keep_blk (blk_below BKar.out HS.out.at_) hkp (.inl (Nat.lt_of_lt_of_le Gar.out.2 (Nat.le_trans M_w2.out (Nat.le_trans M_w3.out (Nat.le_trans M_w4.out (M_w5.out))))))); have M_w15 := Aside0.mk (Nat.le_trans (below_size (Bl.out (w := w14))) hkp.1); clear HS hkp HOG1 HOW1 HOXx BKar; have HS := Aside0.mk (Since.two hb); clear hb; have HOG1 := nG1; clear nG1; have HOW1 := nW1; clear nW1; have HOXx := nXx; clear nXx; have BKar := nbar; clear nbar; clear har_0 har_1 har_2 har_3 har_4 har_5 hfar hxr_0 hxr_1 hxr_2 hxr_3 hxr_4 hxr_5 hfxr; obtain ⟨har_0, har_1, har_2, har_3, har_4, har_5, hfar⟩ := boxed6 BKar.out (HS.out.at_ (W := w15)); have Q15 := trivial)
    | ((clear Q15); (with_reducible refine gate_callee (f := 20) rfl ?_); refine goesL_ (some _) rfl rfl Try.func20 (by kernel_rfl) rfl #[.slice AXx x.length cXx, .int .i64 vr] rfl aw_ ?_; (with_reducible refine (laws_markInt64S.calls k (fun k_ => w6.heap.size ≤ k_ ∧ k_ < w8.heap.size) (.slice AXx x.length cXx) x vr vx Mx w _ ?s0 ?r0 Kx.out).mono ?_); (case s0 => exact HS.out.at_); (case r0 => exact Kd.R_lower (Kd.R_mono (Kd.R_below HOXx.out HS.out.at_) (fun _ h_ => h_.1)) (Nat.le_trans M_w1.out (Nat.le_trans M_w2.out (Nat.le_trans M_w3.out (Nat.le_trans M_w4.out (Nat.le_trans M_w5.out (M_w6.out))))))); rintro e w16 ⟨rfl, hy_, hb, hkp⟩; clear hy_; refine ⟨_, rfl, ?_⟩; have nG1 := Aside0.mk (keep_S (Kd.S_below HOG1.out HS.out.at_) hkp (.inr (Nat.le_refl _))); have nW1 := Aside0.mk (keep_S (Kd.S_below HOW1.out HS.out.at_) hkp (.inl (M_w6.out))); have nbar := Aside0.mk (keep_blk (blk_below BKar.out HS.out.at_) hkp (.inl (Nat.lt_of_lt_of_le Gar.out.2 (Nat.le_trans M_w2.out (Nat.le_trans M_w3.out (Nat.le_trans M_w4.out (Nat.le_trans M_w5.out (M_w6.out)))))))); have M_w16 := Aside0.mk (Nat.le_trans (below_size (Bl.out (w := w15))) hkp.1); clear HS hkp HOG1 HOW1 BKar; have HS := Aside0.mk (Since.two hb); clear hb; have HOG1 := nG1; clear nG1; have HOW1 := nW1; clear nW1; have BKar := nbar; clear nbar; clear har_0 har_1 har_2 har_3 har_4 har_5 hfar; obtain ⟨har_0, har_1, har_2, har_3, har_4, har_5, hfar⟩ := boxed6 BKar.out (HS.out.at_ (W := w16)); have Q16 := trivial)
    | ((clear Q16); go_at_call 37; refine calls_of_args (args' := #[.slice AG1 R1.length cG1, .slice AW1 R1.length cW1]) aw_ ?_; (with_reducible refine (laws_eqInt64SS.calls k _ _ R1 _ _ R1 true _ ?s0 ?t0 ?s1 ?t1 ER1.out).mono ?_); (case s0 => exact HS.out.C (SC HOG1.out)); (case t0 => exact SL HOG1.out); (case s1 => exact HS.out.C (SC HOW1.out)); (case t1 => exact SL HOW1.out); rintro e w17 ⟨rfl, hb_⟩; have hb := below_of hb_; clear hb_; have hs_ := Aside0.mk (HS.out.go hb); have M_w17 := Aside0.mk (Bl.size (w := w16) hb); clear HS; have HS := hs_; clear hs_; clear hb; clear har_0 har_1 har_2 har_3 har_4 har_5 hfar; obtain ⟨har_0, har_1, har_2, har_3, har_4, har_5, hfar⟩ := boxed6 BKar.out (HS.out.at_ (W := w17)); have Q17 := trivial)
    | ((clear Q17); (with_reducible refine gate_callee (f := 38) rfl ?_); refine goesL_ (some _) rfl rfl Try.func38 (by kernel_rfl) rfl #[.slice AG1 R1.length cG1, .int .i64 1] rfl aw_ ?_; (with_reducible refine (laws_markInt64SS.calls k (fun k_ => w8.heap.size ≤ k_ ∧ k_ < w9.heap.size) (.slice AG1 R1.length cG1) R1 1 m1 N1 w _ ?s0 ?r0 KR1.out).mono ?_); (case s0 => exact HS.out.at_); (case r0 => exact Kd.S_lower (Kd.S_mono (Kd.S_below HOG1.out HS.out.at_) (fun _ h_ => h_.1)) (Nat.le_trans M_w1.out (Nat.le_trans M_w2.out (Nat.le_trans M_w3.out (Nat.le_trans M_w4.out (Nat.le_trans M_w5.out (Nat.le_trans M_w6.out (M_w8.out)))))))); rintro e w18 ⟨rfl, hy_, hb, hkp⟩; refine ⟨_, rfl, ?_⟩; have HL1 := Aside0.mk (Kd.S_reads' hy_).1; have HY1 := Aside0.mk hy_; clear hy_; have nW1 := Aside0.mk (keep_S (Kd.S_below HOW1.out HS.out.at_) hkp (.inl (Nat.le_trans M_w6.out (M_w8.out)))); have nbar := Aside0.mk (keep_blk (blk_below BKar.out HS.out.at_) hkp (.inl (Nat.lt_of_lt_of_le Gar.out.2 (Nat.le_trans M_w2.out (Nat.le_trans M_w3.out (Nat.le_trans M_w4.out (Nat.le_trans M_w5.out (Nat.le_trans M_w6.out (M_w8.out))))))))); have M_w18 := Aside0.mk (Nat.le_trans (below_size (Bl.out (w := w17))) hkp.1); clear HS hkp HOW1 BKar; have HS := Aside0.mk (Since.two hb); clear hb; have HOW1 := nW1; clear nW1; have BKar := nbar; clear nbar; clear har_0 har_1 har_2 har_3 har_4 har_5 hfar; obtain ⟨har_0, har_1, har_2, har_3, har_4, har_5, hfar⟩ := boxed6 BKar.out (HS.out.at_ (W := w18)); have Q18 := trivial)
    | ((clear Q18); (with_reducible refine gate_callee (f := 55) rfl ?_); refine goesL_ (some _) rfl rfl Try.func55 (by kernel_rfl) rfl #[.slice AG1 N1.length cG1, .int .i64 1] rfl (by (try simp only [List.map_toArray, List.map_cons, List.map_nil]); first | done | (rw [show N1.length = R1.length from HL1.out.symm] <;> rfl) | rfl) ?_; (with_reducible refine (laws_heldInt64SS.calls k _ _ N1 1 m1 _ ?s0 ?t0 HR1.out).mono ?_); (case s0 => exact HS.out.C (SC HY1.out)); (case t0 => exact (HL1.out ▸ SL HY1.out)); rintro e w19 ⟨rfl, hb_⟩; refine ⟨_, rfl, ?_⟩; have hb := below_of hb_; clear hb_; have hs_ := Aside0.mk (HS.out.go hb); have M_w19 := Aside0.mk (Bl.size (w := w18) hb); clear HS; have HS := hs_; clear hs_; clear hb; clear har_0 har_1 har_2 har_3 har_4 har_5 hfar; obtain ⟨har_0, har_1, har_2, har_3, har_4, har_5, hfar⟩ := boxed6 BKar.out (HS.out.at_ (W := w19)); have Q19 := trivial)
    | ((clear Q19); (with_reducible refine gate_callee (f := 15) rfl ?_); refine goesL_ (some _) rfl rfl Try.func15 (by kernel_rfl) rfl #[.agg #[.string r_0, .slice Ar_1 r_1.length cr_1, .slice Ar_2 r_2.length cr_2, .int .i64 r_3, .int .i64 r_4, .slice Ar_5 r_5.length cr_5]] rfl aw_ ?_; (with_reducible refine (laws_toRaga.calls k r_0 _ _ r_1 _ _ r_2 r_3 r_4 _ _ r_5 r_0 r_1 r_2 r_3 r_4 r_5 _ ?s0 ?t0 ?s1 ?t1 ?s2 ?t2 Tr.out).mono ?_); (case s0 => exact HS.out.C HRr_1.out); (case t0 => exact HCr_1.out); (case s1 => exact HS.out.C HRr_2.out); (case t1 => exact HCr_2.out); (case s2 => exact HS.out.C HRr_5.out); (case t2 => exact HCr_5.out); rintro e w20 ⟨v0, v1, v2, rfl, ho0, ho1, ho2, hb⟩; refine ⟨_, rfl, ?_⟩; obtain ⟨AVr_r_1, cVr_r_1, ev⟩ := Kd.R_slice ho0; subst ev; have HOVr_r_1 := Aside0.mk (Kd.R_lower ho0 (below_size (Bl.out (w := w19)))); clear ho0; obtain ⟨AVr_r_2, cVr_r_2, ev⟩ := Kd.R_slice ho1; subst ev; have HOVr_r_2 := Aside0.mk (Kd.R_lower ho1 (below_size (Bl.out (w := w19)))); clear ho1; obtain ⟨AVr_r_5, cVr_r_5, ev⟩ := Kd.S_slice ho2; subst ev; have HOVr_r_5 := Aside0.mk (Kd.S_lower ho2 (below_size (Bl.out (w := w19)))); clear ho2; have hs_ := Aside0.mk (HS.out.go hb); have M_w20 := Aside0.mk (Bl.size (w := w19) hb); clear HS; have HS := hs_; clear hs_; clear hb; clear har_0 har_1 har_2 har_3 har_4 har_5 hfar; obtain ⟨har_0, har_1, har_2, har_3, har_4, har_5, hfar⟩ := boxed6 BKar.out (HS.out.at_ (W := w20)); have Q20 := trivial)
    | ((clear Q20); (with_reducible refine gate_callee (f := 30) rfl ?_); refine goesL_ (some _) rfl rfl Try.func30 (by kernel_rfl) rfl #[.slice Ax x.length cx] rfl aw_ ?_; (with_reducible refine (laws_toInt64S.calls k _ _ x x _ ?s0 ?t0 Tx.out).mono ?_); (case s0 => exact HS.out.C HRx.out); (case t0 => exact HCx.out); rintro e w21 ⟨v0, rfl, ho0, hb⟩; refine ⟨_, rfl, ?_⟩; obtain ⟨AVx, cVx, ev⟩ := Kd.R_slice ho0; subst ev; have HOVx := Aside0.mk (Kd.R_lower ho0 (below_size (Bl.out (w := w20)))); clear ho0; have hs_ := Aside0.mk (HS.out.go hb); have M_w21 := Aside0.mk (Bl.size (w := w20) hb); clear HS; have HS := hs_; clear hs_; clear hb; clear har_0 har_1 har_2 har_3 har_4 har_5 hfar; obtain ⟨har_0, har_1, har_2, har_3, har_4, har_5, hfar⟩ := boxed6 BKar.out (HS.out.at_ (W := w21)); have Q21 := trivial)
    | ((clear Q21); (with_reducible refine gate_callee (f := 54) rfl ?_); refine goesL_ (some _) rfl rfl Try.func54 (by kernel_rfl) rfl #[.agg #[.string r_0, .slice AVr_r_1 r_1.length cVr_r_1, .slice AVr_r_2 r_2.length cVr_r_2, .int .i64 r_3, .int .i64 r_4, .slice AVr_r_5 r_5.length cVr_r_5], .slice AVx x.length cVx] rfl aw_ ?_; (with_reducible refine (impl_AllowedPermutations.calls k r_0 _ _ r_1 _ _ r_2 r_3 r_4 _ _ r_5 _ _ x R0 R1 R2 _ ?s0 ?t0 ?s1 ?t1 ?s2 ?t2 ?s3 ?t3 I.out).mono ?_); (case s0 => exact HS.out.C (RC HOVr_r_1.out)); (case t0 => exact RL HOVr_r_1.out); (case s1 => exact HS.out.C (RC HOVr_r_2.out)); (case t1 => exact RL HOVr_r_2.out); (case s2 => exact HS.out.C (SC HOVr_r_5.out)); (case t2 => exact SL HOVr_r_5.out); (case s3 => exact HS.out.C (RC HOVx.out)); (case t3 => exact RL HOVx.out); rintro e w22 ⟨v1, rfl, ho1, hb⟩; refine ⟨_, rfl, ?_⟩; obtain ⟨AH1, cH1, ev⟩ := Kd.S_slice ho1; subst ev; have HOH1 := Aside0.mk (Kd.S_lower ho1 (below_size (Bl.out (w := w21)))); clear ho1; have hs_ := Aside0.mk (HS.out.go hb); have M_w22 := Aside0.mk (Bl.size (w := w21) hb); clear HS; have HS := hs_; clear hs_; clear hb; clear har_0 har_1 har_2 har_3 har_4 har_5 hfar; obtain ⟨har_0, har_1, har_2, har_3, har_4, har_5, hfar⟩ := boxed6 BKar.out (HS.out.at_ (W := w22)); have Q22 := trivial)
    | ((clear Q22); go_at_call 37; refine calls_of_args (args' := #[.slice AH1 R1.length cH1, .slice AW1 R1.length cW1]) aw_ ?_; (with_reducible refine (laws_eqInt64SS.calls k _ _ R1 _ _ R1 true _ ?s0 ?t0 ?s1 ?t1 ER1.out).mono ?_); (case s0 => exact HS.out.C (SC HOH1.out)); (case t0 => exact SL HOH1.out); (case s1 => exact HS.out.C (SC HOW1.out)); (case t1 => exact SL HOW1.out); rintro e w23 ⟨rfl, hb_⟩; have hb := below_of hb_; clear hb_; have hs_ := Aside0.mk (HS.out.go hb); have M_w23 := Aside0.mk (Bl.size (w := w22) hb); clear HS; have HS := hs_; clear hs_; clear hb; clear har_0 har_1 har_2 har_3 har_4 har_5 hfar; obtain ⟨har_0, har_1, har_2, har_3, har_4, har_5, hfar⟩ := boxed6 BKar.out (HS.out.at_ (W := w23)); have Q23 := trivial)
    | ((clear Q23); (with_reducible refine gate_callee (f := 55) rfl ?_); refine goesL_ (some _) rfl rfl Try.func55 (by kernel_rfl) rfl #[.slice AG1 N1.length cG1, .int .i64 1] rfl (by (try simp only [List.map_toArray, List.map_cons, List.map_nil]); first | done | (rw [show N1.length = R1.length from HL1.out.symm] <;> rfl) | rfl) ?_; (with_reducible refine (laws_heldInt64SS.calls k _ _ N1 1 m1 _ ?s0 ?t0 HR1.out).mono ?_); (case s0 => exact HS.out.C (SC HY1.out)); (case t0 => exact (HL1.out ▸ SL HY1.out)); rintro e w24 ⟨rfl, hb_⟩; refine ⟨_, rfl, ?_⟩; have hb := below_of hb_; clear hb_; have hs_ := Aside0.mk (HS.out.go hb); have M_w24 := Aside0.mk (Bl.size (w := w23) hb); clear HS; have HS := hs_; clear hs_; clear hb; clear har_0 har_1 har_2 har_3 har_4 har_5 hfar; obtain ⟨har_0, har_1, har_2, har_3, har_4, har_5, hfar⟩ := boxed6 BKar.out (HS.out.at_ (W := w24)); have Q24 := trivial))
  go_ret
  exact ⟨sv_, HS.out.at_⟩

end Go.Proofs.Ytinlejhffokbaaa.P
end

section
namespace Go.Proofs.Ytinlejhffokbaaa.Pure
open Go.RowKit Go.Proofs.Ytinlejhffokbaaa.P Go.Proofs.YtinlejhffokbaaaW.PrintWords Go.Proofs.YtinlejhffokbaaaW.PrintLast Go.Proofs.YtinlejhffokbaaaW.PrintMore
set_option linter.unusedVariables false
set_option linter.unusedSimpArgs false

def allM (u d : List Int) (f : List (List Int)) (S : List Int) : Nat → Int → Int → List (List Int) → Int × List (List Int)
  | 0, _, n, out => (n, out)
  | m + 1, p, n, out => if okM u d f (numM S.length S p) = true then allM u d f S m (p + 1) (n + 1) (if n + 1 ≤ 3 then out ++ [numM S.length S p] else out) else allM u d f S m (p + 1) n out
theorem allM_bound (u d : List Int) (f : List (List Int)) (S : List Int) : ∀ m p n out, (out.length : Int) = min n 3 → 0 ≤ n → (∀ l ∈ out, l.length = S.length) → (allM u d f S m p n out).2.length ≤ 3 ∧ ∀ l ∈ (allM u d f S m p n out).2, l.length = S.length := by
  intro m
  induction m with
  | zero => intro p n out h _ h2; exact ⟨by simp only [allM]; omega, h2⟩
  | succ m ih =>
    intro p n out h h0 h2
    simp only [allM]
    split
    · split
      · refine ih _ _ _ (by rw [List.length_append, List.length_singleton]; omega) (by omega) (fun l hl => ?_)
        rcases List.mem_append.mp hl with hl | hl
        · exact h2 l hl
        · rw [List.mem_singleton.mp hl, numM_length]
      · exact ih _ _ _ (by omega) (by omega) h2
    · exact ih _ _ _ h h0 h2
theorem impl_all_l0 (s : ByteArray) (u d : List Int) (a b : Int) (f : List (List Int)) (l : List Int) (h1 : 1 ≤ l.length) (hl : l.length ≤ 8) (hin : ∀ x ∈ l, inP x = true) (hu : u.length ≤ 1048576) (hd : d.length ≤ 1048576) (hf : f.length ≤ 8) (hp : ∀ j, j < f.length → (rd_L1 f j).length = 2) :
    ∀ (m : Nat) (p n : Int) (out : List (List Int)), fact l.length - p = m → 0 ≤ p → 0 ≤ n → n ≤ p → (out.length : Int) = min n 3 → Ev (fun k => impl_AllowedPermutations.l0 k l n out (fact l.length) p s u d a b f) ((allM u d f (srtM l) m p n out).1, (allM u d f (srtM l) m p n out).2, 0) := by
  have hb := fact_bound l.length hl
  intro m
  induction m with
  | zero =>
    intro p n out hm _ _ _ _
    refine Ev.succ ?_
    simp only [impl_AllowedPermutations.l0]
    exact Ev.ite_neg (by omega) (Ev.now _)
  | succ m ih =>
    intro p n out hm h0 hn hnp ho
    have hnum := impl_numbered_ev l p h1 hl h0 (by omega)
    have hmem := numM_mem l.length (srtM l) p hl (srtM_length l) h0 (by omega)
    obtain ⟨x, r, hr, hw⟩ := firstWrong_ev s u d a b f (numM l.length (srtM l) p) (by rw [numM_length]; exact h1) (by rw [numM_length]; omega) (fun y hy => hin y ((srtM_perm l).mem_iff.mp (hmem y hy))) hu hd hf hp
    refine Ev.succ ?_
    simp only [impl_AllowedPermutations.l0, allM]
    rw [w64 (x := p + 1) (by omega) (by omega), w64 (x := n + 1) (by omega) (by omega), srtM_length]
    refine Ev.ite_pos (by omega) (Ev.bind hnum (Ev.bind hw ?_))
    by_cases c : okM u d f (numM l.length (srtM l) p) = true
    · rw [if_pos c]
      refine Ev.ite_pos (hr.mpr c) ?_
      by_cases c3 : n + 1 ≤ 3
      · rw [if_pos c3]
        exact Ev.ite_pos c3 (Ev.ite_pos (by omega) (ih (p + 1) (n + 1) _ (by omega) (by omega) (by omega) (by omega) (by rw [List.length_append, List.length_singleton]; omega)))
      · rw [if_neg c3]
        exact Ev.ite_neg c3 (ih (p + 1) (n + 1) out (by omega) (by omega) (by omega) (by omega) (by omega))
    · rw [if_neg c]
      exact Ev.ite_neg (fun h => c (hr.mp h)) (ih (p + 1) n out (by omega) (by omega) (by omega) (by omega) ho)
theorem spec_all_l1 (s : ByteArray) (u d : List Int) (a b : Int) (f : List (List Int)) (l : List Int) (hl : l.length ≤ 8) (hin : ∀ x ∈ l, inP x = true) (hu : u.length ≤ 1048576) (hd : d.length ≤ 1048576) (hf : f.length ≤ 8) (hp : ∀ j, j < f.length → (rd_L1 f j).length = 2)
    (x1 : List Int) (n p : Int) (out : List (List Int)) (R : Bool → Int × List (List Int) × Int) (hR : ∀ b0, Ev (fun k => spec_AllowedPermutations.j3 k x1 n out p l b0 s u d a b f) (R b0)) :
    ∀ (m i : Nat) (ok : Bool), l.length - i = m → 1 ≤ i → i ≤ 9 → Ev (fun k => spec_AllowedPermutations.l1 k x1 n out p l ok i s u d a b f) (R (ok && seqM u d f l m i)) := by
  intro m
  induction m with
  | zero =>
    intro i ok hm h1 h9
    refine Ev.succ ?_
    simp only [spec_AllowedPermutations.l1, seqM, Bool.and_true]
    exact Ev.ite_neg (by omega) (hR ok)
  | succ m ih =>
    intro i ok hm h1 h9
    have hi : i < l.length := by omega
    have e1 : (i : Int) - 1 = ((i - 1 : Nat) : Int) := by omega
    have hr := spec_l05Reason_ev s u d a b f (rd l ((i : Int) - 1)) (rd l i) (by rw [e1]; exact rd_in hin (i - 1) (by omega)) (rd_in hin i hi) hu hd hf hp
    refine Ev.succ ?_
    simp only [spec_AllowedPermutations.l1]
    rw [w64 (x := (i : Int) - 1) (by omega) (by omega), w64 (x := (i : Int) + 1) (by omega) (by omega)]
    refine Ev.ite_pos (by omega) ?_
    cases ok with
    | false => exact Ev.ite_neg (by decide) (by simpa using hR false)
    | true =>
      refine Ev.ite_pos rfl (Ev.ite_pos (by omega) (Ev.ite_pos (by omega) (Ev.ite_pos (by omega) (Ev.bind hr ?_))))
      have h := ih (i + 1) (reasonR u d f (rd l ((i : Int) - 1)) (rd l i) == 0) (by omega) (by omega) (by omega)
      refine Ev.cast (by simpa using h) ?_
      simp only [seqM, Bool.true_and]
      congr 2
theorem spec_all_l0 (s : ByteArray) (u d : List Int) (a b : Int) (f : List (List Int)) (l : List Int) (h1 : 1 ≤ l.length) (hl : l.length ≤ 8) (hdup : ∀ i, i < l.length → rd l i ∉ l.take i) (hin : ∀ x ∈ l, inP x = true) (hu : u.length ≤ 1048576) (hd : d.length ≤ 1048576) (hf : f.length ≤ 8) (hp : ∀ j, j < f.length → (rd_L1 f j).length = 2) :
    ∀ (m : Nat) (p n : Int) (out : List (List Int)), fact l.length - p = m → 0 ≤ p → 0 ≤ n → n ≤ p → (out.length : Int) = min n 3 → Ev (fun k => spec_AllowedPermutations.l0 k l n out p s u d a b f) ((allM u d f (srtM l) m p n out).1, (allM u d f (srtM l) m p n out).2, 0) := by
  have hb := fact_bound l.length hl
  have hfa := spec_l14Factorial_ev l.length hl
  intro m
  induction m with
  | zero =>
    intro p n out hm _ _ _ _
    refine Ev.succ ?_
    simp only [spec_AllowedPermutations.l0]
    exact Ev.bind hfa (Ev.ite_neg (by omega) (Ev.now _))
  | succ m ih =>
    intro p n out hm h0 hn hnp ho
    have hnum := spec_numbered_ev l p h1 hl hdup h0 (by omega)
    have hmem := numM_mem l.length (srtM l) p hl (srtM_length l) h0 (by omega)
    obtain ⟨L, hL⟩ : ∃ L, numM l.length (srtM l) p = L := ⟨_, rfl⟩
    have hLl : L.length = l.length := by rw [← hL, numM_length]
    rw [hL] at hnum hmem
    refine Ev.succ ?_
    simp only [spec_AllowedPermutations.l0, allM]
    rw [srtM_length, hL]
    refine Ev.bind hfa (Ev.ite_pos (by omega) (Ev.bind hnum (Ev.ite_pos (by omega) (Ev.bindc (show spec_l03Tone.f (rd L 0) = some (tn (rd L 0)) from rfl) (Ev.bind (spec_l05Tone_ev s u d a b f (tn (rd L 0)) hu hd) ?_)))))
    have hj : ∀ b0, Ev (fun k => spec_AllowedPermutations.j3 k l n out p L b0 s u d a b f) (if b0 = true then ((allM u d f (srtM l) m (p + 1) (n + 1) (if n + 1 ≤ 3 then out ++ [L] else out)).1, (allM u d f (srtM l) m (p + 1) (n + 1) (if n + 1 ≤ 3 then out ++ [L] else out)).2, 0) else ((allM u d f (srtM l) m (p + 1) n out).1, (allM u d f (srtM l) m (p + 1) n out).2, 0)) := by
      intro b0
      refine Ev.succ ?_
      simp only [spec_AllowedPermutations.j3]
      rw [w64 (x := p + 1) (by omega) (by omega), w64 (x := n + 1) (by omega) (by omega)]
      cases b0 with
      | true =>
        rw [if_pos rfl]
        refine Ev.ite_pos rfl ?_
        by_cases c3 : n + 1 ≤ 3
        · rw [if_pos c3]
          exact Ev.ite_pos (by omega) (Ev.ite_pos (by omega) (ih (p + 1) (n + 1) _ (by omega) (by omega) (by omega) (by omega) (by rw [List.length_append, List.length_singleton]; omega)))
        · rw [if_neg c3]
          exact Ev.ite_neg (by omega) (ih (p + 1) (n + 1) out (by omega) (by omega) (by omega) (by omega) (by omega))
      | false =>
        rw [if_neg Bool.false_ne_true]
        exact Ev.ite_neg (by decide) (ih (p + 1) n out (by omega) (by omega) (by omega) (by omega) ho)
    have h := spec_all_l1 s u d a b f L (by omega) (fun y hy => hin y ((srtM_perm l).mem_iff.mp (hmem y hy))) hu hd hf hp l n p out _ hj (L.length - 1) 1 (toneB u d (tn (rd L 0))) rfl (Nat.le_refl _) (by omega)
    refine Ev.cast (by simpa using h) ?_
    simp only [okM, Bool.and_eq_true]
    split <;> rfl
theorem bothAllowedPermutations (s : ByteArray) (u d : List Int) (a b : Int) (f : List (List Int)) (l : List Int) (h0 : Fits s u d f) (hl : l.length ≤ 1048576) : ∃ n out q, out.length ≤ 3 ∧ (∃ c, c ≤ 8 ∧ ∀ y ∈ out, y.length = c) ∧ Ev (fun k => spec_AllowedPermutations.f k s u d a b f l) (n, out, q) ∧ Ev (fun k => impl_AllowedPermutations.f k s u d a b f l) (n, out, q) := by
  have a0 := spec_l05Ok_ev s u d a b f h0.1 h0.2.1 h0.2.2.1 h0.2.2.2.1
  have b0 := impl_ValidRaga_ev s u d a b f h0.1 h0.2.1 h0.2.2.1 h0.2.2.2.1
  have jt : Ev (fun k => impl_AllowedPermutations.j0 k l true s u d a b f) (0, [], 1) := Ev.succ (by simp only [impl_AllowedPermutations.j0]; exact Ev.ite_pos trivial (Ev.now _))
  have js : Ev (fun k => spec_AllowedPermutations.j0 k l true s u d a b f) (0, [], 1) := Ev.succ (by simp only [spec_AllowedPermutations.j0]; exact Ev.ite_pos trivial (Ev.now _))
  unfold spec_AllowedPermutations.f impl_AllowedPermutations.f
  cases v0 : ragaB s u d a b f with
  | false => exact ⟨0, [], 1, by simp, ⟨0, by omega, by simp⟩, Ev.bind a0 (Ev.ite_neg (by rw [v0]; decide) js), Ev.bind b0 (Ev.ite_neg (by rw [v0]; decide) jt)⟩
  | true =>
    obtain ⟨p1, p2, p3, p4⟩ := ragaB_parts v0
    have a1 := spec_l14Permuted_ev l hl
    have b1 := impl_permutedOk_ev l hl
    cases v1 : permB l with
    | false => exact ⟨0, [], 1, by simp, ⟨0, by omega, by simp⟩, Ev.bind a0 (Ev.ite_pos v0 (Ev.bind a1 (by rw [v1]; exact js))), Ev.bind b0 (Ev.ite_pos v0 (Ev.bind b1 (by rw [v1]; exact jt)))⟩
    | true =>
      obtain ⟨l1, l8, hdup, hin⟩ := permB_parts v1
      have hb := fact_bound l.length l8
      have hs := spec_all_l0 s u d a b f l l1 l8 hdup hin h0.2.1 h0.2.2.1 p3 p4 (fact l.length).toNat 0 0 [] (by omega) (by omega) (by omega) (by omega) (by decide)
      have hi := impl_all_l0 s u d a b f l l1 l8 hin h0.2.1 h0.2.2.1 p3 p4 (fact l.length).toNat 0 0 [] (by omega) (by omega) (by omega) (by omega) (by decide)
      have hq := allM_bound u d f (srtM l) (fact l.length).toNat 0 0 [] (by decide) (by omega) (by simp)
      refine ⟨_, _, 0, hq.1, ⟨(srtM l).length, by rw [srtM_length]; exact l8, hq.2⟩, Ev.bind a0 (Ev.ite_pos v0 (Ev.bind a1 (by rw [v1]; exact Ev.succ (by simp only [spec_AllowedPermutations.j0]; exact Ev.ite_neg (by decide) hs)))), Ev.bind b0 (Ev.ite_pos v0 (Ev.bind b1 (by rw [v1]; exact Ev.succ (by simp only [impl_AllowedPermutations.j0]; exact Ev.ite_neg (by decide) (Ev.bind (impl_factorial_ev l.length l8) hi)))))⟩
theorem FnExactAllowedPermutations : laws_FnExactAllowedPermutations.Pure := by
  intro s0 u0 d0 st0 wk0 f0 l hs0 ⟨hu0, _⟩ ⟨hd0, _⟩ _ _ ⟨hf0, hr0⟩ ⟨hl0, _⟩
  by_cases hlong : 1048576 < (l.length : Int)
  · exact ⟨0, .inl hlong⟩
  have hl : l.length ≤ 1048576 := by omega
  obtain ⟨z, ez, cz⟩ := szRaga_ge s0 u0 d0 st0 wk0 f0 1048576 (by omega) (by omega) hs0 hu0 hd0 hf0 (fun y hy => (hr0 y hy).1)
  rcases cz with cz | ⟨z0, z1, h0⟩
  · obtain ⟨k, hk⟩ := Ev.out ez
    exact ⟨k, .inr ⟨hlong, z, hk, .inl cz⟩⟩
  obtain ⟨n, out, q, ho, ⟨c, hc, hlc⟩, es, ei⟩ := bothAllowedPermutations s0 u0 d0 st0 wk0 f0 l h0 hl
  have hr : ∀ j, j < out.length → (rd_L1 out j).length ≤ 1048576 := by
    intro j hj
    have : rd_L1 out (j : Int) = out[j] := by simp [rd_L1, hj]
    rw [this, hlc _ (List.getElem_mem hj)]
    omega
  obtain ⟨v, v0, em⟩ := markRaga_le s0 u0 d0 st0 wk0 f0 h0
  have eK := markLL_l0 c hc out [] 1 hlc (by simp; omega) (by omega) (by omega)
  have eH := heldLL_l0 c hc out [] 1 (by simp; omega) (by omega) (by omega)
  have eK' : Ev (fun k => laws_markInt64SS.f k out 1) (1 + (c * out.length : Nat), marksL c out 1) := by unfold laws_markInt64SS.f; simpa using eK
  have eH' : Ev (fun k => laws_heldInt64SS.f k (marksL c out 1) 1) (1 + (c * out.length : Nat)) := by unfold laws_heldInt64SS.f; simpa using eH
  obtain ⟨K, hK⟩ := Ev.and ez (Ev.and es (Ev.and ei (Ev.and (toRaga_ev h0 st0 wk0) (Ev.and (eqRaga_self h0 st0 wk0) (Ev.and (toInt64S_ev l (by omega)) (Ev.and (eqInt64S_self l (by omega)) (Ev.and em (Ev.and (markInt64S_ev l v (by omega) v0.1 (by omega)) (Ev.and (eqInt64SS_self out (by omega) hr) (Ev.and eK' eH'))))))))))
  obtain ⟨k1, k3, k4, k5, k6, k7, k8, k9, k10, k11, k12, k13⟩ := hK K (Nat.le_refl _)
  exact ⟨K, .inr ⟨hlong, z, k1, .inr ⟨by omega, n, out, q, v, _, _, _, _, k3, k4, k5, k6, k7, k8, k9, k10, by omega, k11, k12, k13, by omega⟩⟩⟩

end Go.Proofs.Ytinlejhffokbaaa.Pure
end
