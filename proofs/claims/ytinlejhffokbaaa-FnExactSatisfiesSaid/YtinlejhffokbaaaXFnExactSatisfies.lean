/- The pure statement of FnExactSatisfies. No condition. -/
import Derived.Test.YtinlejhffokbaaaGSAT1
import Derived.Test.YtinlejhffokbaaaGSAT4
import Derived.Test.YtinlejhffokbaaaGSAT7
import Derived.Test.YtinlejhffokbaaaGSAT8
section
namespace Go.Proofs.Ytinlejhffokbaaa.P
open Go.RowKit Go.Proofs.YtinlejhffokbaaaW.PrintWords Go.Proofs.YtinlejhffokbaaaW.PrintLast Go.Proofs.YtinlejhffokbaaaW.PrintMore
attribute [local go_sem] max2_int min2_int max_two min_two max_three min_three max_four min_four   -- for this text's walks alone
set_option linter.unusedVariables false
set_option linter.unusedSimpArgs false

/-! ### laws_FnExactSatisfies: function 8 (given) -/
/-- What the plain side tells: both give the same, and what the laws' helpers say of it. -/
def laws_FnExactSatisfies.Pure : Prop := ∀ (r_0 : ByteArray) (r_1 : List Int) (r_2 : List Int) (r_3 : Int) (r_4 : Int) (r_5 : List (List Int)) (a_0 : Int) (a_1 : Int) (a_2 : Int) (a_3 : Int) (a_4 : Int) (a_5 : List (List Int)) (a_6 : Int) (p : List Int), r_0.size ≤ maxLen → (r_1.length ≤ maxLen ∧ ∀ y0 ∈ r_1, (Lit.int .i64 y0).wf = true) → (r_2.length ≤ maxLen ∧ ∀ y0 ∈ r_2, (Lit.int .i64 y0).wf = true) → (Lit.int .i64 r_3).wf = true → (Lit.int .i64 r_4).wf = true → (r_5.length ≤ maxLen ∧ ∀ y0 ∈ r_5, (y0.length ≤ maxLen ∧ ∀ y1 ∈ y0, (Lit.int .i64 y1).wf = true)) → (Lit.int .i64 a_0).wf = true → (Lit.int .i64 a_1).wf = true → (Lit.int .i64 a_2).wf = true → (Lit.int .i64 a_3).wf = true → (Lit.int .i64 a_4).wf = true → (a_5.length ≤ maxLen ∧ ∀ y0 ∈ a_5, (y0.length ≤ maxLen ∧ ∀ y1 ∈ y0, (Lit.int .i64 y1).wf = true)) → (Lit.int .i64 a_6).wf = true → (p.length ≤ maxLen ∧ ∀ y0 ∈ p, (Lit.int .i64 y0).wf = true) → ∃ k : Nat, 1048576 < (p.length : Int) ∨ (¬ 1048576 < (p.length : Int) ∧ ∃ zr : Int, laws_szRaga.f k r_0 r_1 r_2 r_3 r_4 r_5 1048576 = some zr ∧ (zr < 0 ∨ (¬ zr < 0 ∧ ∃ za : Int, laws_szAsk.f k a_0 a_1 a_2 a_3 a_4 a_5 a_6 zr = some za ∧ (za < 0 ∨ (¬ za < 0 ∧ ∃ (R0 : Bool), spec_Satisfies.f k r_0 r_1 r_2 r_3 r_4 r_5 a_0 a_1 a_2 a_3 a_4 a_5 a_6 p = some R0 ∧ impl_Satisfies.f k r_0 r_1 r_2 r_3 r_4 r_5 a_0 a_1 a_2 a_3 a_4 a_5 a_6 p = some R0 ∧ laws_toRaga.f k r_0 r_1 r_2 r_3 r_4 r_5 = some (r_0, r_1, r_2, r_3, r_4, r_5) ∧ laws_eqRaga.f k r_0 r_1 r_2 r_3 r_4 r_5 r_0 r_1 r_2 r_3 r_4 r_5 = some true ∧ laws_toAsk.f k a_0 a_1 a_2 a_3 a_4 a_5 a_6 = some (a_0, a_1, a_2, a_3, a_4, a_5, a_6) ∧ laws_eqAsk.f k a_0 a_1 a_2 a_3 a_4 a_5 a_6 a_0 a_1 a_2 a_3 a_4 a_5 a_6 = some true ∧ laws_toInt64S.f k p = some p ∧ laws_eqInt64S.f k p p = some true)))))
set_option maxHeartbeats 16000000 in
set_option maxRecDepth 100000 in
theorem laws_FnExactSatisfies.walk (P : laws_FnExactSatisfies.Pure) (r_0 : ByteArray) (Ar_1 : Option Addr) (cr_1 : Nat) (r_1 : List Int) (Ar_2 : Option Addr) (cr_2 : Nat) (r_2 : List Int) (r_3 : Int) (r_4 : Int) (Ar_5 : Option Addr) (cr_5 : Nat) (r_5 : List (List Int)) (a_0 : Int) (a_1 : Int) (a_2 : Int) (a_3 : Int) (a_4 : Int) (Aa_5 : Option Addr) (ca_5 : Nat) (a_5 : List (List Int)) (a_6 : Int) (Ap : Option Addr) (cp : Nat) (p : List Int) (w : World) (hrr_1 : Kd.C (Kd.int .i64) w Ar_1 r_1.length r_1) (hcr_1 : r_1.length ≤ cr_1) (hrr_2 : Kd.C (Kd.int .i64) w Ar_2 r_2.length r_2) (hcr_2 : r_2.length ≤ cr_2) (hrr_5 : Kd.C (Kd.slice 2 (Kd.int .i64)) w Ar_5 r_5.length r_5) (hcr_5 : r_5.length ≤ cr_5) (hra_5 : Kd.C (Kd.slice 2 (Kd.int .i64)) w Aa_5 a_5.length a_5) (hca_5 : a_5.length ≤ ca_5) (hrp : Kd.C (Kd.int .i64) w Ap p.length p) (hcp : p.length ≤ cp) (w_r_0 : r_0.size ≤ maxLen) (w_r_1 : (r_1.length ≤ maxLen ∧ ∀ y0 ∈ r_1, (Lit.int .i64 y0).wf = true)) (w_r_2 : (r_2.length ≤ maxLen ∧ ∀ y0 ∈ r_2, (Lit.int .i64 y0).wf = true)) (w_r_3 : (Lit.int .i64 r_3).wf = true) (w_r_4 : (Lit.int .i64 r_4).wf = true) (w_r_5 : (r_5.length ≤ maxLen ∧ ∀ y0 ∈ r_5, (y0.length ≤ maxLen ∧ ∀ y1 ∈ y0, (Lit.int .i64 y1).wf = true))) (w_a_0 : (Lit.int .i64 a_0).wf = true) (w_a_1 : (Lit.int .i64 a_1).wf = true) (w_a_2 : (Lit.int .i64 a_2).wf = true) (w_a_3 : (Lit.int .i64 a_3).wf = true) (w_a_4 : (Lit.int .i64 a_4).wf = true) (w_a_5 : (a_5.length ≤ maxLen ∧ ∀ y0 ∈ a_5, (y0.length ≤ maxLen ∧ ∀ y1 ∈ y0, (Lit.int .i64 y1).wf = true))) (w_a_6 : (Lit.int .i64 a_6).wf = true) (w_p : (p.length ≤ maxLen ∧ ∀ y0 ∈ p, (Lit.int .i64 y0).wf = true)) :
    Calls Try.prog 8 #[.agg #[.string r_0, .slice Ar_1 r_1.length cr_1, .slice Ar_2 r_2.length cr_2, .int .i64 r_3, .int .i64 r_4, .slice Ar_5 r_5.length cr_5], .agg #[.int .i64 a_0, .int .i64 a_1, .int .i64 a_2, .int .i64 a_3, .int .i64 a_4, .slice Aa_5 a_5.length ca_5, .int .i64 a_6], .slice Ap p.length cp] w fun e w' => e = .returned (.bool true) ∧ Below w.heap.size w w' := by
  obtain ⟨k, HP⟩ := P r_0 r_1 r_2 r_3 r_4 r_5 a_0 a_1 a_2 a_3 a_4 a_5 a_6 p w_r_0 w_r_1 w_r_2 w_r_3 w_r_4 w_r_5 w_a_0 w_a_1 w_a_2 w_a_3 w_a_4 w_a_5 w_a_6 w_p
  clear P w_r_0 w_r_1 w_r_2 w_r_3 w_r_4 w_r_5 w_a_0 w_a_1 w_a_2 w_a_3 w_a_4 w_a_5 w_a_6 w_p
  have HRr_1 := Aside0.mk hrr_1
  have HCr_1 := Aside0.mk hcr_1
  clear hrr_1 hcr_1
  have HRr_2 := Aside0.mk hrr_2
  have HCr_2 := Aside0.mk hcr_2
  clear hrr_2 hcr_2
  have HRr_5 := Aside0.mk hrr_5
  have HCr_5 := Aside0.mk hcr_5
  clear hrr_5 hcr_5
  have HRa_5 := Aside0.mk hra_5
  have HCa_5 := Aside0.mk hca_5
  clear hra_5 hca_5
  have HRp := Aside0.mk hrp
  have HCp := Aside0.mk hcp
  clear hrp hcp
  have HS := Aside0.mk (Since.start w)
  have hu25 := Try.underlying25
  have hu29 := Try.underlying29
  have hu59 := Try.underlying59
  have hu62 := Try.underlying62
  rcases HP with h1_ | ⟨h1_, HP⟩
  · have c_p : decide (1048576 < (p.length : Int)) = true := decide_eq_true h1_
    have d_p : decide (1048576 < p.length) = true := decide_eq_true (by omega)
    clear h1_
    have Q0 := trivial
    go_enter Try.func8, Try.ntmps8
    go_wp2_with (first
      | ((clear Q0); (with_reducible refine gate_dst (N := 3) rfl ?_); refine box_event ?hg (N := 3) ?hd (cs := #[.string r_0, .slice Ar_1 r_1.length cr_1, .slice Ar_2 r_2.length cr_2, .int .i64 r_3, .int .i64 r_4, .slice Ar_5 r_5.length cr_5]) (t := 25) ?hr ?_; (case hd => rfl); (case hg => rfl); (case hr => first | (go_simp; done) | (go_simp; rfl)); intro gar hg w1 hbox hb; have BKar := Aside0.mk hbox; have Gar := Aside0.mk (show w.heap.size ≤ gar ∧ gar < w1.heap.size from ⟨by rw [hg]; exact below_size (Bl.out), blk_lt hbox⟩); clear hbox hg; have hs_ := Aside0.mk (HS.out.go hb); have M_w1 := Aside0.mk (Bl.size (w := w) hb); clear HS; have HS := hs_; clear hs_; clear hb; obtain ⟨har_0, har_1, har_2, har_3, har_4, har_5, hfar⟩ := boxed6 BKar.out (HS.out.at_ (W := w1)); have Q1 := trivial)
      | ((clear Q1); (with_reducible refine gate_dst (N := 4) rfl ?_); refine box_event ?hg (N := 4) ?hd (cs := #[.int .i64 a_0, .int .i64 a_1, .int .i64 a_2, .int .i64 a_3, .int .i64 a_4, .slice Aa_5 a_5.length ca_5, .int .i64 a_6]) (t := 59) ?hr ?_; (case hd => rfl); (case hg => rfl); (case hr => first | (go_simp; done) | (go_simp; rfl)); intro gaa hg w2 hbox hb; have BKaa := Aside0.mk hbox; have Gaa := Aside0.mk (show w1.heap.size ≤ gaa ∧ gaa < w2.heap.size from ⟨by rw [hg]; exact below_size (Bl.out), blk_lt hbox⟩); clear hbox hg; have hs_ := Aside0.mk (HS.out.go hb); have M_w2 := Aside0.mk (Bl.size (w := w1) hb); clear HS; have HS := hs_; clear hs_; clear hb; clear har_0 har_1 har_2 har_3 har_4 har_5 hfar; obtain ⟨har_0, har_1, har_2, har_3, har_4, har_5, hfar⟩ := boxed6 BKar.out (HS.out.at_ (W := w2)); obtain ⟨haa_0, haa_1, haa_2, haa_3, haa_4, haa_5, haa_6, hfaa⟩ := boxed7 BKaa.out (HS.out.at_ (W := w2)); have Q2 := trivial))
    go_ret
    exact ⟨sv_, HS.out.at_⟩
  have c_p : decide (1048576 < (p.length : Int)) = false := decide_eq_false h1_
  have d_p : decide (1048576 < p.length) = false := decide_eq_false (by omega)
  clear h1_
  obtain ⟨zr, z_, HP⟩ := HP
  have Zr := Aside0.mk z_
  clear z_
  rcases HP with h1_ | ⟨h1_, HP⟩
  · have c_zr : decide (zr < 0) = true := decide_eq_true h1_
    clear h1_
    have Q0 := trivial
    go_enter Try.func8, Try.ntmps8
    go_wp2_with (first
      | ((clear Q0); (with_reducible refine gate_dst (N := 3) rfl ?_); refine box_event ?hg (N := 3) ?hd (cs := #[.string r_0, .slice Ar_1 r_1.length cr_1, .slice Ar_2 r_2.length cr_2, .int .i64 r_3, .int .i64 r_4, .slice Ar_5 r_5.length cr_5]) (t := 25) ?hr ?_; (case hd => rfl); (case hg => rfl); (case hr => first | (go_simp; done) | (go_simp; rfl)); intro gar hg w1 hbox hb; have BKar := Aside0.mk hbox; have Gar := Aside0.mk (show w.heap.size ≤ gar ∧ gar < w1.heap.size from ⟨by rw [hg]; exact below_size (Bl.out), blk_lt hbox⟩); clear hbox hg; have hs_ := Aside0.mk (HS.out.go hb); have M_w1 := Aside0.mk (Bl.size (w := w) hb); clear HS; have HS := hs_; clear hs_; clear hb; obtain ⟨har_0, har_1, har_2, har_3, har_4, har_5, hfar⟩ := boxed6 BKar.out (HS.out.at_ (W := w1)); have Q1 := trivial)
      | ((clear Q1); (with_reducible refine gate_dst (N := 4) rfl ?_); refine box_event ?hg (N := 4) ?hd (cs := #[.int .i64 a_0, .int .i64 a_1, .int .i64 a_2, .int .i64 a_3, .int .i64 a_4, .slice Aa_5 a_5.length ca_5, .int .i64 a_6]) (t := 59) ?hr ?_; (case hd => rfl); (case hg => rfl); (case hr => first | (go_simp; done) | (go_simp; rfl)); intro gaa hg w2 hbox hb; have BKaa := Aside0.mk hbox; have Gaa := Aside0.mk (show w1.heap.size ≤ gaa ∧ gaa < w2.heap.size from ⟨by rw [hg]; exact below_size (Bl.out), blk_lt hbox⟩); clear hbox hg; have hs_ := Aside0.mk (HS.out.go hb); have M_w2 := Aside0.mk (Bl.size (w := w1) hb); clear HS; have HS := hs_; clear hs_; clear hb; clear har_0 har_1 har_2 har_3 har_4 har_5 hfar; obtain ⟨har_0, har_1, har_2, har_3, har_4, har_5, hfar⟩ := boxed6 BKar.out (HS.out.at_ (W := w2)); obtain ⟨haa_0, haa_1, haa_2, haa_3, haa_4, haa_5, haa_6, hfaa⟩ := boxed7 BKaa.out (HS.out.at_ (W := w2)); have Q2 := trivial)
      | ((clear Q2); (with_reducible refine gate_callee (f := 13) rfl ?_); refine goesL_ (some _) rfl rfl Try.func13 (by kernel_rfl) rfl #[.agg #[.string r_0, .slice Ar_1 r_1.length cr_1, .slice Ar_2 r_2.length cr_2, .int .i64 r_3, .int .i64 r_4, .slice Ar_5 r_5.length cr_5], .int .i64 1048576] rfl aw_ ?_; (with_reducible refine (laws_szRaga.calls k r_0 _ _ r_1 _ _ r_2 r_3 r_4 _ _ r_5 1048576 zr _ ?s0 ?t0 ?s1 ?t1 ?s2 ?t2 Zr.out).mono ?_); (case s0 => exact HS.out.C HRr_1.out); (case t0 => exact HCr_1.out); (case s1 => exact HS.out.C HRr_2.out); (case t1 => exact HCr_2.out); (case s2 => exact HS.out.C HRr_5.out); (case t2 => exact HCr_5.out); rintro e w3 ⟨rfl, hb_⟩; refine ⟨_, rfl, ?_⟩; have hb := below_of hb_; clear hb_; have hs_ := Aside0.mk (HS.out.go hb); have M_w3 := Aside0.mk (Bl.size (w := w2) hb); clear HS; have HS := hs_; clear hs_; clear hb; clear har_0 har_1 har_2 har_3 har_4 har_5 hfar haa_0 haa_1 haa_2 haa_3 haa_4 haa_5 haa_6 hfaa; obtain ⟨har_0, har_1, har_2, har_3, har_4, har_5, hfar⟩ := boxed6 BKar.out (HS.out.at_ (W := w3)); obtain ⟨haa_0, haa_1, haa_2, haa_3, haa_4, haa_5, haa_6, hfaa⟩ := boxed7 BKaa.out (HS.out.at_ (W := w3)); have Q3 := trivial))
    go_ret
    exact ⟨sv_, HS.out.at_⟩
  have c_zr : decide (zr < 0) = false := decide_eq_false h1_
  clear h1_
  obtain ⟨za, z_, HP⟩ := HP
  have Za := Aside0.mk z_
  clear z_
  rcases HP with h1_ | ⟨h1_, HP⟩
  · have c_za : decide (za < 0) = true := decide_eq_true h1_
    clear h1_
    have Q0 := trivial
    go_enter Try.func8, Try.ntmps8
    go_wp2_with (first
      | ((clear Q0); (with_reducible refine gate_dst (N := 3) rfl ?_); refine box_event ?hg (N := 3) ?hd (cs := #[.string r_0, .slice Ar_1 r_1.length cr_1, .slice Ar_2 r_2.length cr_2, .int .i64 r_3, .int .i64 r_4, .slice Ar_5 r_5.length cr_5]) (t := 25) ?hr ?_; (case hd => rfl); (case hg => rfl); (case hr => first | (go_simp; done) | (go_simp; rfl)); intro gar hg w1 hbox hb; have BKar := Aside0.mk hbox; have Gar := Aside0.mk (show w.heap.size ≤ gar ∧ gar < w1.heap.size from ⟨by rw [hg]; exact below_size (Bl.out), blk_lt hbox⟩); clear hbox hg; have hs_ := Aside0.mk (HS.out.go hb); have M_w1 := Aside0.mk (Bl.size (w := w) hb); clear HS; have HS := hs_; clear hs_; clear hb; obtain ⟨har_0, har_1, har_2, har_3, har_4, har_5, hfar⟩ := boxed6 BKar.out (HS.out.at_ (W := w1)); have Q1 := trivial)
      | ((clear Q1); (with_reducible refine gate_dst (N := 4) rfl ?_); refine box_event ?hg (N := 4) ?hd (cs := #[.int .i64 a_0, .int .i64 a_1, .int .i64 a_2, .int .i64 a_3, .int .i64 a_4, .slice Aa_5 a_5.length ca_5, .int .i64 a_6]) (t := 59) ?hr ?_; (case hd => rfl); (case hg => rfl); (case hr => first | (go_simp; done) | (go_simp; rfl)); intro gaa hg w2 hbox hb; have BKaa := Aside0.mk hbox; have Gaa := Aside0.mk (show w1.heap.size ≤ gaa ∧ gaa < w2.heap.size from ⟨by rw [hg]; exact below_size (Bl.out), blk_lt hbox⟩); clear hbox hg; have hs_ := Aside0.mk (HS.out.go hb); have M_w2 := Aside0.mk (Bl.size (w := w1) hb); clear HS; have HS := hs_; clear hs_; clear hb; clear har_0 har_1 har_2 har_3 har_4 har_5 hfar; obtain ⟨har_0, har_1, har_2, har_3, har_4, har_5, hfar⟩ := boxed6 BKar.out (HS.out.at_ (W := w2)); obtain ⟨haa_0, haa_1, haa_2, haa_3, haa_4, haa_5, haa_6, hfaa⟩ := boxed7 BKaa.out (HS.out.at_ (W := w2)); have Q2 := trivial)
      | ((clear Q2); (with_reducible refine gate_callee (f := 13) rfl ?_); refine goesL_ (some _) rfl rfl Try.func13 (by kernel_rfl) rfl #[.agg #[.string r_0, .slice Ar_1 r_1.length cr_1, .slice Ar_2 r_2.length cr_2, .int .i64 r_3, .int .i64 r_4, .slice Ar_5 r_5.length cr_5], .int .i64 1048576] rfl aw_ ?_; (with_reducible refine (laws_szRaga.calls k r_0 _ _ r_1 _ _ r_2 r_3 r_4 _ _ r_5 1048576 zr _ ?s0 ?t0 ?s1 ?t1 ?s2 ?t2 Zr.out).mono ?_); (case s0 => exact HS.out.C HRr_1.out); (case t0 => exact HCr_1.out); (case s1 => exact HS.out.C HRr_2.out); (case t1 => exact HCr_2.out); (case s2 => exact HS.out.C HRr_5.out); (case t2 => exact HCr_5.out); rintro e w3 ⟨rfl, hb_⟩; refine ⟨_, rfl, ?_⟩; have hb := below_of hb_; clear hb_; have hs_ := Aside0.mk (HS.out.go hb); have M_w3 := Aside0.mk (Bl.size (w := w2) hb); clear HS; have HS := hs_; clear hs_; clear hb; clear har_0 har_1 har_2 har_3 har_4 har_5 hfar haa_0 haa_1 haa_2 haa_3 haa_4 haa_5 haa_6 hfaa; obtain ⟨har_0, har_1, har_2, har_3, har_4, har_5, hfar⟩ := boxed6 BKar.out (HS.out.at_ (W := w3)); obtain ⟨haa_0, haa_1, haa_2, haa_3, haa_4, haa_5, haa_6, hfaa⟩ := boxed7 BKaa.out (HS.out.at_ (W := w3)); have Q3 := trivial)
      | ((clear Q3); (with_reducible refine gate_callee (f := 41) rfl ?_); refine goesL_ (some _) rfl rfl Try.func41 (by kernel_rfl) rfl #[.agg #[.int .i64 a_0, .int .i64 a_1, .int .i64 a_2, .int .i64 a_3, .int .i64 a_4, .slice Aa_5 a_5.length ca_5, .int .i64 a_6], .int .i64 zr] rfl aw_ ?_; (with_reducible refine (laws_szAsk.calls k a_0 a_1 a_2 a_3 a_4 _ _ a_5 a_6 zr za _ ?s0 ?t0 Za.out).mono ?_); (case s0 => exact HS.out.C HRa_5.out); (case t0 => exact HCa_5.out); rintro e w4 ⟨rfl, hb_⟩; refine ⟨_, rfl, ?_⟩; have hb := below_of hb_; clear hb_; have hs_ := Aside0.mk (HS.out.go hb); have M_w4 := Aside0.mk (Bl.size (w := w3) hb); clear HS; have HS := hs_; clear hs_; clear hb; clear har_0 har_1 har_2 har_3 har_4 har_5 hfar haa_0 haa_1 haa_2 haa_3 haa_4 haa_5 haa_6 hfaa; obtain ⟨har_0, har_1, har_2, har_3, har_4, har_5, hfar⟩ := boxed6 BKar.out (HS.out.at_ (W := w4)); obtain ⟨haa_0, haa_1, haa_2, haa_3, haa_4, haa_5, haa_6, hfaa⟩ := boxed7 BKaa.out (HS.out.at_ (W := w4)); have Q4 := trivial))
    go_ret
    exact ⟨sv_, HS.out.at_⟩
  have c_za : decide (za < 0) = false := decide_eq_false h1_
  clear h1_
  obtain ⟨R0, pP, pI, pTr, pEr, pTa, pEa, pTp, pEp⟩ := HP
  have P := Aside0.mk pP
  clear pP
  have I := Aside0.mk pI
  clear pI
  have Tr := Aside0.mk pTr
  clear pTr
  have Er := Aside0.mk pEr
  clear pEr
  have Ta := Aside0.mk pTa
  clear pTa
  have Ea := Aside0.mk pEa
  clear pEa
  have Tp := Aside0.mk pTp
  clear pTp
  have Ep := Aside0.mk pEp
  clear pEp
  have Q0 := trivial
  go_enter Try.func8, Try.ntmps8
  go_wp2_with (first
    | ((clear Q0); (with_reducible refine gate_dst (N := 3) rfl ?_); refine box_event ?hg (N := 3) ?hd (cs := #[.string r_0, .slice Ar_1 r_1.length cr_1, .slice Ar_2 r_2.length cr_2, .int .i64 r_3, .int .i64 r_4, .slice Ar_5 r_5.length cr_5]) (t := 25) ?hr ?_; (case hd => rfl); (case hg => rfl); (case hr => first | (go_simp; done) | (go_simp; rfl)); intro gar hg w1 hbox hb; have BKar := Aside0.mk hbox; have Gar := Aside0.mk (show w.heap.size ≤ gar ∧ gar < w1.heap.size from ⟨by rw [hg]; exact below_size (Bl.out), blk_lt hbox⟩); clear hbox hg; have hs_ := Aside0.mk (HS.out.go hb); have M_w1 := Aside0.mk (Bl.size (w := w) hb); clear HS; have HS := hs_; clear hs_; clear hb; obtain ⟨har_0, har_1, har_2, har_3, har_4, har_5, hfar⟩ := boxed6 BKar.out (HS.out.at_ (W := w1)); have Q1 := trivial)
    | ((clear Q1); (with_reducible refine gate_dst (N := 4) rfl ?_); refine box_event ?hg (N := 4) ?hd (cs := #[.int .i64 a_0, .int .i64 a_1, .int .i64 a_2, .int .i64 a_3, .int .i64 a_4, .slice Aa_5 a_5.length ca_5, .int .i64 a_6]) (t := 59) ?hr ?_; (case hd => rfl); (case hg => rfl); (case hr => first | (go_simp; done) | (go_simp; rfl)); intro gaa hg w2 hbox hb; have BKaa := Aside0.mk hbox; have Gaa := Aside0.mk (show w1.heap.size ≤ gaa ∧ gaa < w2.heap.size from ⟨by rw [hg]; exact below_size (Bl.out), blk_lt hbox⟩); clear hbox hg; have hs_ := Aside0.mk (HS.out.go hb); have M_w2 := Aside0.mk (Bl.size (w := w1) hb); clear HS; have HS := hs_; clear hs_; clear hb; clear har_0 har_1 har_2 har_3 har_4 har_5 hfar; obtain ⟨har_0, har_1, har_2, har_3, har_4, har_5, hfar⟩ := boxed6 BKar.out (HS.out.at_ (W := w2)); obtain ⟨haa_0, haa_1, haa_2, haa_3, haa_4, haa_5, haa_6, hfaa⟩ := boxed7 BKaa.out (HS.out.at_ (W := w2)); have Q2 := trivial)
    | ((clear Q2); (with_reducible refine gate_callee (f := 13) rfl ?_); refine goesL_ (some _) rfl rfl Try.func13 (by kernel_rfl) rfl #[.agg #[.string r_0, .slice Ar_1 r_1.length cr_1, .slice Ar_2 r_2.length cr_2, .int .i64 r_3, .int .i64 r_4, .slice Ar_5 r_5.length cr_5], .int .i64 1048576] rfl aw_ ?_; (with_reducible refine (laws_szRaga.calls k r_0 _ _ r_1 _ _ r_2 r_3 r_4 _ _ r_5 1048576 zr _ ?s0 ?t0 ?s1 ?t1 ?s2 ?t2 Zr.out).mono ?_); (case s0 => exact HS.out.C HRr_1.out); (case t0 => exact HCr_1.out); (case s1 => exact HS.out.C HRr_2.out); (case t1 => exact HCr_2.out); (case s2 => exact HS.out.C HRr_5.out); (case t2 => exact HCr_5.out); rintro e w3 ⟨rfl, hb_⟩; refine ⟨_, rfl, ?_⟩; have hb := below_of hb_; clear hb_; have hs_ := Aside0.mk (HS.out.go hb); have M_w3 := Aside0.mk (Bl.size (w := w2) hb); clear HS; have HS := hs_; clear hs_; clear hb; clear har_0 har_1 har_2 har_3 har_4 har_5 hfar haa_0 haa_1 haa_2 haa_3 haa_4 haa_5 haa_6 hfaa; obtain ⟨har_0, har_1, har_2, har_3, har_4, har_5, hfar⟩ := boxed6 BKar.out (HS.out.at_ (W := w3)); obtain ⟨haa_0, haa_1, haa_2, haa_3, haa_4, haa_5, haa_6, hfaa⟩ := boxed7 BKaa.out (HS.out.at_ (W := w3)); have Q3 := trivial)
    | ((clear Q3); (with_reducible refine gate_callee (f := 41) rfl ?_); refine goesL_ (some _) rfl rfl Try.func41 (by kernel_rfl) rfl #[.agg #[.int .i64 a_0, .int .i64 a_1, .int .i64 a_2, .int .i64 a_3, .int .i64 a_4, .slice Aa_5 a_5.length ca_5, .int .i64 a_6], .int .i64 zr] rfl aw_ ?_; (with_reducible refine (laws_szAsk.calls k a_0 a_1 a_2 a_3 a_4 _ _ a_5 a_6 zr za _ ?s0 ?t0 Za.out).mono ?_); (case s0 => exact HS.out.C HRa_5.out); (case t0 => exact HCa_5.out); rintro e w4 ⟨rfl, hb_⟩; refine ⟨_, rfl, ?_⟩; have hb := below_of hb_; clear hb_; have hs_ := Aside0.mk (HS.out.go hb); have M_w4 := Aside0.mk (Bl.size (w := w3) hb); clear HS; have HS := hs_; clear hs_; clear hb; clear har_0 har_1 har_2 har_3 har_4 har_5 hfar haa_0 haa_1 haa_2 haa_3 haa_4 haa_5 haa_6 hfaa; obtain ⟨har_0, har_1, har_2, har_3, har_4, har_5, hfar⟩ := boxed6 BKar.out (HS.out.at_ (W := w4)); obtain ⟨haa_0, haa_1, haa_2, haa_3, haa_4, haa_5, haa_6, hfaa⟩ := boxed7 BKaa.out (HS.out.at_ (W := w4)); have Q4 := trivial))
  refine start_ (n := 8) (S := fun w' => w'.cell? ⟨gar, 0, none⟩ = some (.string r_0) ∧ w'.cell? ⟨gar, 1, none⟩ = some (.slice Ar_1 r_1.length cr_1) ∧ w'.cell? ⟨gar, 2, none⟩ = some (.slice Ar_2 r_2.length cr_2) ∧ w'.cell? ⟨gar, 3, none⟩ = some (.int .i64 r_3) ∧ w'.cell? ⟨gar, 4, none⟩ = some (.int .i64 r_4) ∧ w'.cell? ⟨gar, 5, none⟩ = some (.slice Ar_5 r_5.length cr_5) ∧ w'.cell? ⟨gaa, 0, none⟩ = some (.int .i64 a_0) ∧ w'.cell? ⟨gaa, 1, none⟩ = some (.int .i64 a_1) ∧ w'.cell? ⟨gaa, 2, none⟩ = some (.int .i64 a_2) ∧ w'.cell? ⟨gaa, 3, none⟩ = some (.int .i64 a_3) ∧ w'.cell? ⟨gaa, 4, none⟩ = some (.int .i64 a_4) ∧ w'.cell? ⟨gaa, 5, none⟩ = some (.slice Aa_5 a_5.length ca_5) ∧ w'.cell? ⟨gaa, 6, none⟩ = some (.int .i64 a_6)) (ds := []) #[false, false, false, false, false, false, false, false] (by kernel_rfl) rfl rfl ⟨har_0, har_1, har_2, har_3, har_4, har_5, haa_0, haa_1, haa_2, haa_3, haa_4, haa_5, haa_6⟩ (fun hHeld => ?_)
  refine take_ (i := 0) (N := some 26) (v := ?_) (a' := ?_) #[true, false, false, false, false, false, false, false] rfl rfl (by kernel_rfl) (fun _ _ _ h => h) (Or.inl ⟨by rfl, ?_⟩) hHeld ?_ ?_
  rotate_left
  · rintro w' ⟨s0, s1, s2, s3, s4, s5, s6, s7, s8, s9, s10, s11, s12⟩; go_simp; with_reducible rfl
  rotate_left
  · go_simp; rfl
  refine take_ (i := 2) (N := some 28) (v := ?_) (a' := ?_) #[true, false, true, false, false, false, false, false] rfl rfl (by kernel_rfl) (fun _ _ _ h => h) (Or.inl ⟨by rfl, ?_⟩) hHeld ?_ ?_
  rotate_left
  · rintro w' ⟨s0, s1, s2, s3, s4, s5, s6, s7, s8, s9, s10, s11, s12⟩; go_simp; with_reducible rfl
  rotate_left
  · go_simp; rfl
  refine pure_ (i := 4) (N := some 30) (v := ?_) (a' := ?_) #[true, false, true, false, true, false, false, false] rfl rfl (by kernel_rfl) (fun _ _ _ h => h) (Or.inl ⟨by rfl, ?_⟩) ?_ ?_
  rotate_left
  · intro w'; go_simp; with_reducible rfl
  rotate_left
  · go_simp; rfl
  refine one_ (i := 1) (N := some 27) #[true, true, true, false, true, false, false, false] rfl rfl (by kernel_rfl) (by decide) (fun K hK => ?_)
  refine goes_ Try.func15 (by kernel_rfl) rfl #[.agg #[.string r_0, .slice Ar_1 r_1.length cr_1, .slice Ar_2 r_2.length cr_2, .int .i64 r_3, .int .i64 r_4, .slice Ar_5 r_5.length cr_5]] (by rfl) rfl rfl aw_ ?_
  clear hHeld Q4
  (with_reducible refine (laws_toRaga.calls k r_0 _ _ r_1 _ _ r_2 r_3 r_4 _ _ r_5 r_0 r_1 r_2 r_3 r_4 r_5 _ ?s0 ?t0 ?s1 ?t1 ?s2 ?t2 Tr.out).mono ?_)
  (case s0 => exact HS.out.C HRr_1.out)
  (case t0 => exact HCr_1.out)
  (case s1 => exact HS.out.C HRr_2.out)
  (case t1 => exact HCr_2.out)
  (case s2 => exact HS.out.C HRr_5.out)
  (case t2 => exact HCr_5.out)
  rintro e w5 ⟨v0, v1, v2, rfl, ho0, ho1, ho2, hb⟩
  refine ⟨_, rfl, ?_⟩
  obtain ⟨ATr_r_1, cTr_r_1, ev⟩ := Kd.R_slice ho0
  subst ev
  have HOTr_r_1 := Aside0.mk (Kd.R_lower ho0 (below_size (Bl.out (w := w4))))
  clear ho0
  obtain ⟨ATr_r_2, cTr_r_2, ev⟩ := Kd.R_slice ho1
  subst ev
  have HOTr_r_2 := Aside0.mk (Kd.R_lower ho1 (below_size (Bl.out (w := w4))))
  clear ho1
  obtain ⟨ATr_r_5, cTr_r_5, ev⟩ := Kd.S_slice ho2
  subst ev
  have HOTr_r_5 := Aside0.mk (Kd.S_lower ho2 (below_size (Bl.out (w := w4))))
  clear ho2
  have hs_ := Aside0.mk (HS.out.go hb)
  have M_w5 := Aside0.mk (Bl.size (w := w4) hb)
  clear HS
  have HS := hs_
  clear hs_
  clear hb
  clear har_0 har_1 har_2 har_3 har_4 har_5 hfar haa_0 haa_1 haa_2 haa_3 haa_4 haa_5 haa_6 hfaa
  obtain ⟨har_0, har_1, har_2, har_3, har_4, har_5, hfar⟩ := boxed6 BKar.out (HS.out.at_ (W := w5))
  obtain ⟨haa_0, haa_1, haa_2, haa_3, haa_4, haa_5, haa_6, hfaa⟩ := boxed7 BKaa.out (HS.out.at_ (W := w5))
  have Q5 := trivial
  refine hK.out _ _ ⟨har_0, har_1, har_2, har_3, har_4, har_5, haa_0, haa_1, haa_2, haa_3, haa_4, haa_5, haa_6⟩ (fun hHeld => ?_)
  clear hK K
  refine norm_ (a' := ?_) ?_ ?_
  rotate_left
  · show Act.put _ (some 27) _ = _; go_simp; rfl
  refine one_ (i := 3) (N := some 29) #[true, true, true, true, true, false, false, false] rfl rfl (by kernel_rfl) (by decide) (fun K hK => ?_)
  refine goes_ Try.func43 (by kernel_rfl) rfl #[.agg #[.int .i64 a_0, .int .i64 a_1, .int .i64 a_2, .int .i64 a_3, .int .i64 a_4, .slice Aa_5 a_5.length ca_5, .int .i64 a_6]] (by rfl) rfl rfl aw_ ?_
  clear hHeld Q5
  (with_reducible refine (laws_toAsk.calls k a_0 a_1 a_2 a_3 a_4 _ _ a_5 a_6 a_0 a_1 a_2 a_3 a_4 a_5 a_6 _ ?s0 ?t0 Ta.out).mono ?_)
  (case s0 => exact HS.out.C HRa_5.out)
  (case t0 => exact HCa_5.out)
  rintro e w6 ⟨v0, rfl, ho0, hb⟩
  refine ⟨_, rfl, ?_⟩
  obtain ⟨ATa_a_5, cTa_a_5, ev⟩ := Kd.S_slice ho0
  subst ev
  have HOTa_a_5 := Aside0.mk (Kd.S_lower ho0 (below_size (Bl.out (w := w5))))
  clear ho0
  have hs_ := Aside0.mk (HS.out.go hb)
  have M_w6 := Aside0.mk (Bl.size (w := w5) hb)
  clear HS
  have HS := hs_
  clear hs_
  clear hb
  clear har_0 har_1 har_2 har_3 har_4 har_5 hfar haa_0 haa_1 haa_2 haa_3 haa_4 haa_5 haa_6 hfaa
  obtain ⟨har_0, har_1, har_2, har_3, har_4, har_5, hfar⟩ := boxed6 BKar.out (HS.out.at_ (W := w6))
  obtain ⟨haa_0, haa_1, haa_2, haa_3, haa_4, haa_5, haa_6, hfaa⟩ := boxed7 BKaa.out (HS.out.at_ (W := w6))
  have Q6 := trivial
  refine hK.out _ _ ⟨har_0, har_1, har_2, har_3, har_4, har_5, haa_0, haa_1, haa_2, haa_3, haa_4, haa_5, haa_6⟩ (fun hHeld => ?_)
  clear hK K
  refine norm_ (a' := ?_) ?_ ?_
  rotate_left
  · show Act.put _ (some 29) _ = _; go_simp; rfl
  refine one_ (i := 5) (N := some 31) #[true, true, true, true, true, true, false, false] rfl rfl (by kernel_rfl) (by decide) (fun K hK => ?_)
  refine goes_ Try.func30 (by kernel_rfl) rfl #[.slice Ap p.length cp] (by rfl) rfl rfl aw_ ?_
  clear hHeld Q6
  (with_reducible refine (laws_toInt64S.calls k _ _ p p _ ?s0 ?t0 Tp.out).mono ?_)
  (case s0 => exact HS.out.C HRp.out)
  (case t0 => exact HCp.out)
  rintro e w7 ⟨v0, rfl, ho0, hb⟩
  refine ⟨_, rfl, ?_⟩
  obtain ⟨ATp, cTp, ev⟩ := Kd.R_slice ho0
  subst ev
  have HOTp := Aside0.mk (Kd.R_lower ho0 (below_size (Bl.out (w := w6))))
  clear ho0
  have hs_ := Aside0.mk (HS.out.go hb)
  have M_w7 := Aside0.mk (Bl.size (w := w6) hb)
  clear HS
  have HS := hs_
  clear hs_
  clear hb
  clear har_0 har_1 har_2 har_3 har_4 har_5 hfar haa_0 haa_1 haa_2 haa_3 haa_4 haa_5 haa_6 hfaa
  obtain ⟨har_0, har_1, har_2, har_3, har_4, har_5, hfar⟩ := boxed6 BKar.out (HS.out.at_ (W := w7))
  obtain ⟨haa_0, haa_1, haa_2, haa_3, haa_4, haa_5, haa_6, hfaa⟩ := boxed7 BKaa.out (HS.out.at_ (W := w7))
  have Q7 := trivial
  refine hK.out _ _ ⟨har_0, har_1, har_2, har_3, har_4, har_5, haa_0, haa_1, haa_2, haa_3, haa_4, haa_5, haa_6⟩ (fun hHeld => ?_)
  clear hK K
  refine norm_ (a' := ?_) ?_ ?_
  rotate_left
  · show Act.put _ (some 31) _ = _; go_simp; rfl
  refine one_ (i := 6) (N := some 32) #[true, true, true, true, true, true, true, false] rfl rfl (by kernel_rfl) (by decide) (fun K hK => ?_)
  refine goes_ Try.func42 (by kernel_rfl) rfl #[.agg #[.string r_0, .slice ATr_r_1 r_1.length cTr_r_1, .slice ATr_r_2 r_2.length cTr_r_2, .int .i64 r_3, .int .i64 r_4, .slice ATr_r_5 r_5.length cTr_r_5], .agg #[.int .i64 a_0, .int .i64 a_1, .int .i64 a_2, .int .i64 a_3, .int .i64 a_4, .slice ATa_a_5 a_5.length cTa_a_5, .int .i64 a_6], .slice ATp p.length cTp] (by rfl) rfl rfl aw_ ?_
  clear hHeld Q7
  (with_reducible refine (spec_Satisfies.calls k r_0 _ _ r_1 _ _ r_2 r_3 r_4 _ _ r_5 a_0 a_1 a_2 a_3 a_4 _ _ a_5 a_6 _ _ p R0 _ ?s0 ?t0 ?s1 ?t1 ?s2 ?t2 ?s3 ?t3 ?s4 ?t4 P.out).mono ?_)
  (case s0 => exact HS.out.C (RC HOTr_r_1.out))
  (case t0 => exact RL HOTr_r_1.out)
  (case s1 => exact HS.out.C (RC HOTr_r_2.out))
  (case t1 => exact RL HOTr_r_2.out)
  (case s2 => exact HS.out.C (SC HOTr_r_5.out))
  (case t2 => exact SL HOTr_r_5.out)
  (case s3 => exact HS.out.C (SC HOTa_a_5.out))
  (case t3 => exact SL HOTa_a_5.out)
  (case s4 => exact HS.out.C (RC HOTp.out))
  (case t4 => exact RL HOTp.out)
  rintro e w8 ⟨rfl, hb_⟩
  refine ⟨_, rfl, ?_⟩
  have hb := below_of hb_
  clear hb_
  have hs_ := Aside0.mk (HS.out.go hb)
  have M_w8 := Aside0.mk (Bl.size (w := w7) hb)
  clear HS
  have HS := hs_
  clear hs_
  clear hb
  clear har_0 har_1 har_2 har_3 har_4 har_5 hfar haa_0 haa_1 haa_2 haa_3 haa_4 haa_5 haa_6 hfaa
  obtain ⟨har_0, har_1, har_2, har_3, har_4, har_5, hfar⟩ := boxed6 BKar.out (HS.out.at_ (W := w8))
  obtain ⟨haa_0, haa_1, haa_2, haa_3, haa_4, haa_5, haa_6, hfaa⟩ := boxed7 BKaa.out (HS.out.at_ (W := w8))
  have Q8 := trivial
  refine hK.out _ _ ⟨har_0, har_1, har_2, har_3, har_4, har_5, haa_0, haa_1, haa_2, haa_3, haa_4, haa_5, haa_6⟩ (fun hHeld => ?_)
  clear hK K
  refine norm_ (a' := ?_) ?_ ?_
  rotate_left
  · show Act.put _ (some 32) _ = _; go_simp; rfl
  refine pure_ (i := 7) (N := some 8) (v := ?_) (a' := ?_) #[true, true, true, true, true, true, true, true] rfl rfl (by kernel_rfl) (fun _ _ _ h => h) (Or.inl ⟨by rfl, ?_⟩) ?_ ?_
  rotate_left
  · intro w'; go_simp; with_reducible rfl
  rotate_left
  · go_simp; rfl
  refine done_ (by kernel_rfl) ?_
  clear hHeld
  go_wp2_with (first
    | ((clear Q8); (with_reducible refine gate_callee (f := 15) rfl ?_); refine goesL_ (some _) rfl rfl Try.func15 (by kernel_rfl) rfl #[.agg #[.string r_0, .slice Ar_1 r_1.length cr_1, .slice Ar_2 r_2.length cr_2, .int .i64 r_3, .int .i64 r_4, .slice Ar_5 r_5.length cr_5]] rfl aw_ ?_; (with_reducible refine (laws_toRaga.calls k r_0 _ _ r_1 _ _ r_2 r_3 r_4 _ _ r_5 r_0 r_1 r_2 r_3 r_4 r_5 _ ?s0 ?t0 ?s1 ?t1 ?s2 ?t2 Tr.out).mono ?_); (case s0 => exact HS.out.C HRr_1.out); (case t0 => exact HCr_1.out); (case s1 => exact HS.out.C HRr_2.out); (case t1 => exact HCr_2.out); (case s2 => exact HS.out.C HRr_5.out); (case t2 => exact HCr_5.out); rintro e w9 ⟨v0, v1, v2, rfl, ho0, ho1, ho2, hb⟩; refine ⟨_, rfl, ?_⟩; obtain ⟨AXr_r_1, cXr_r_1, ev⟩ := Kd.R_slice ho0; subst ev; have HOXr_r_1 := Aside0.mk (Kd.R_lower ho0 (below_size (Bl.out (w := w8)))); clear ho0; obtain ⟨AXr_r_2, cXr_r_2, ev⟩ := Kd.R_slice ho1; subst ev; have HOXr_r_2 := Aside0.mk (Kd.R_lower ho1 (below_size (Bl.out (w := w8)))); clear ho1; obtain ⟨AXr_r_5, cXr_r_5, ev⟩ := Kd.S_slice ho2; subst ev; have HOXr_r_5 := Aside0.mk (Kd.S_lower ho2 (below_size (Bl.out (w := w8)))); clear ho2; have hs_ := Aside0.mk (HS.out.go hb); have M_w9 := Aside0.mk (Bl.size (w := w8) hb); clear HS; have HS := hs_; clear hs_; clear hb; clear har_0 har_1 har_2 har_3 har_4 har_5 hfar haa_0 haa_1 haa_2 haa_3 haa_4 haa_5 haa_6 hfaa; obtain ⟨har_0, har_1, har_2, har_3, har_4, har_5, hfar⟩ := boxed6 BKar.out (HS.out.at_ (W := w9)); obtain ⟨haa_0, haa_1, haa_2, haa_3, haa_4, haa_5, haa_6, hfaa⟩ := boxed7 BKaa.out (HS.out.at_ (W := w9)); have Q9 := trivial)
    | ((clear Q9); (with_reducible refine gate_dst (N := 9) rfl ?_); refine box_event ?hg (N := 9) ?hd (cs := #[.string (⟨#[]⟩ : ByteArray), .slice none 0 0, .slice none 0 0, .int .i64 0, .int .i64 0, .slice none 0 0]) (t := 29) ?hr ?_; (case hd => rfl); (case hg => rfl); (case hr => first | (go_simp; done) | (go_simp; rfl)); intro gxr hg w10b hbox hb; have BKxr := Aside0.mk hbox; have Gxr := Aside0.mk (show w9.heap.size ≤ gxr by rw [hg]; exact below_size Bl.out); have HX : Bl w9 w10b := ⟨Bl.go hb⟩; clear hg; clear har_0 har_1 har_2 har_3 har_4 har_5 hfar haa_0 haa_1 haa_2 haa_3 haa_4 haa_5 haa_6 hfaa; obtain ⟨hxr_0, hxr_1, hxr_2, hxr_3, hxr_4, hxr_5, hfxr⟩ := boxed6 hbox (Below.refl _ _); clear hbox hb; obtain ⟨har_0, har_1, har_2, har_3, har_4, har_5, hfar⟩ := boxed6 BKar.out (HS.out.at_ (W := w10b)); have hnar : gar ≠ gxr := Nat.ne_of_lt (Nat.lt_of_lt_of_le Gar.out.2 (Nat.le_trans (Nat.le_trans M_w2.out (Nat.le_trans M_w3.out (Nat.le_trans M_w4.out (Nat.le_trans M_w5.out (Nat.le_trans M_w6.out (Nat.le_trans M_w7.out (Nat.le_trans M_w8.out (M_w9.out)))))))) Gxr.out)); have hoar := hnar.symm; obtain ⟨haa_0, haa_1, haa_2, haa_3, haa_4, haa_5, haa_6, hfaa⟩ := boxed7 BKaa.out (HS.out.at_ (W := w10b)); have hnaa : gaa ≠ gxr := Nat.ne_of_lt (Nat.lt_of_lt_of_le Gaa.out.2 (Nat.le_trans (Nat.le_trans M_w3.out (Nat.le_trans M_w4.out (Nat.le_trans M_w5.out (Nat.le_trans M_w6.out (Nat.le_trans M_w7.out (Nat.le_trans M_w8.out (M_w9.out))))))) Gxr.out)); have hoaa := hnaa.symm; have Q10 := trivial)
    | ((clear Q10); (with_reducible refine gate_callee (f := 43) rfl ?_); refine goesL_ (some _) rfl rfl Try.func43 (by kernel_rfl) rfl #[.agg #[.int .i64 a_0, .int .i64 a_1, .int .i64 a_2, .int .i64 a_3, .int .i64 a_4, .slice Aa_5 a_5.length ca_5, .int .i64 a_6]] rfl aw_ ?_; refine calls_at w9 gxr #[.string r_0, .slice AXr_r_1 r_1.length cXr_r_1, .slice AXr_r_2 r_2.length cXr_r_2, .int .i64 r_3, .int .i64 r_4, .slice AXr_r_5 r_5.length cXr_r_5] 29 (by with_reducible repeat (first | exact HX | refine Bl.set ?_ Gxr.out | apply Bl.alloc | apply Bl.drewN | apply Bl.drew)) (by (with_reducible repeat (first | refine blk_drewN ?_ _ | refine blk_drew ?_ | refine blk_alloc ?_ _)); exact (blk_put (blk_put (blk_put (blk_put (blk_put (blk_put BKxr.out 0 (.string r_0) rfl) 1 (.slice AXr_r_1 r_1.length cXr_r_1) rfl) 2 (.slice AXr_r_2 r_2.length cXr_r_2) rfl) 3 (.int .i64 r_3) rfl) 4 (.int .i64 r_4) rfl) 5 (.slice AXr_r_5 r_5.length cXr_r_5) rfl)) ?_; intro W_ hx_ hbk_; clear BKxr HX; have BKxr := Aside0.mk hbk_; clear hbk_; (with_reducible refine (laws_toAsk.calls k a_0 a_1 a_2 a_3 a_4 _ _ a_5 a_6 a_0 a_1 a_2 a_3 a_4 a_5 a_6 _ ?s0 ?t0 Ta.out).mono ?_); (case s0 => exact HS.out.C HRa_5.out); (case t0 => exact HCa_5.out); rintro e w11 ⟨v0, rfl, ho0, hb⟩; refine ⟨_, rfl, ?_⟩; obtain ⟨AXa_a_5, cXa_a_5, ev⟩ := Kd.S_slice ho0; subst ev; have HOXa_a_5 := Aside0.mk (Kd.S_lower ho0 (below_size (Bl.out (w := w9)))); clear ho0; have hs_ := Aside0.mk (HS.out.go hb); have M_w11 := Aside0.mk (Bl.size (w := w9) hb); clear HS; have HS := hs_; clear hs_; have bk_ := Aside0.mk (blk_below BKxr.out hb); have g_ := Aside0.mk (⟨Gxr.out, Nat.lt_of_lt_of_le (blk_lt BKxr.out) (below_size0 hb)⟩ : w9.heap.size ≤ gxr ∧ gxr < w11.heap.size); clear BKxr Gxr hx_; have BKxr := bk_; have Gxr := g_; clear bk_ g_; clear hb; clear hxr_0 hxr_1 hxr_2 hxr_3 hxr_4 hxr_5 hfxr har_0 har_1 har_2 har_3 har_4 har_5 hfar hnar hoar haa_0 haa_1 haa_2 haa_3 haa_4 haa_5 haa_6 hfaa hnaa hoaa; obtain ⟨har_0, har_1, har_2, har_3, har_4, har_5, hfar⟩ := boxed6 BKar.out (HS.out.at_ (W := w11)); obtain ⟨haa_0, haa_1, haa_2, haa_3, haa_4, haa_5, haa_6, hfaa⟩ := boxed7 BKaa.out (HS.out.at_ (W := w11)); obtain ⟨hxr_0, hxr_1, hxr_2, hxr_3, hxr_4, hxr_5, hfxr⟩ := boxed6 BKxr.out (HS.out.at_ (W := w11)); have Q11 := trivial)
    | ((clear Q11); (with_reducible refine gate_dst (N := 10) rfl ?_); refine box_event ?hg (N := 10) ?hd (cs := #[.int .i64 0, .int .i64 0, .int .i64 0, .int .i64 0, .int .i64 0, .slice none 0 0, .int .i64 0]) (t := 62) ?hr ?_; (case hd => rfl); (case hg => rfl); (case hr => first | (go_simp; done) | (go_simp; rfl)); intro gxa hg w12b hbox hb; have BKxa := Aside0.mk hbox; have Gxa := Aside0.mk (show w11.heap.size ≤ gxa by rw [hg]; exact below_size Bl.out); have HX : Bl w11 w12b := ⟨Bl.go hb⟩; clear hg; clear har_0 har_1 har_2 har_3 har_4 har_5 hfar haa_0 haa_1 haa_2 haa_3 haa_4 haa_5 haa_6 hfaa hxr_0 hxr_1 hxr_2 hxr_3 hxr_4 hxr_5 hfxr; obtain ⟨hxa_0, hxa_1, hxa_2, hxa_3, hxa_4, hxa_5, hxa_6, hfxa⟩ := boxed7 hbox (Below.refl _ _); clear hbox hb; obtain ⟨har_0, har_1, har_2, har_3, har_4, har_5, hfar⟩ := boxed6 BKar.out (HS.out.at_ (W := w12b)); have hnar : gar ≠ gxa := Nat.ne_of_lt (Nat.lt_of_lt_of_le Gar.out.2 (Nat.le_trans (Nat.le_trans M_w2.out (Nat.le_trans M_w3.out (Nat.le_trans M_w4.out (Nat.le_trans M_w5.out (Nat.le_trans M_w6.out (Nat.le_trans M_w7.out (Nat.le_trans M_w8.out (Nat.le_trans M_w9.out (M_w11.out))))))))) Gxa.out)); have hoar := hnar.symm; obtain ⟨haa_0, haa_1, haa_2, haa_3, haa_4, haa_5, haa_6, hfaa⟩ := boxed7 BKaa.out (HS.out.at_ (W := w12b)); have hnaa : gaa ≠ gxa := Nat.ne_of_lt (Nat.lt_of_lt_of_le Gaa.out.2 (Nat.le_trans (Nat.le_trans M_w3.out (Nat.le_trans M_w4.out (Nat.le_trans M_w5.out (Nat.le_trans M_w6.out (Nat.le_trans M_w7.out (Nat.le_trans M_w8.out (Nat.le_trans M_w9.out (M_w11.out)))))))) Gxa.out)); have hoaa := hnaa.symm; obtain ⟨hxr_0, hxr_1, hxr_2, hxr_3, hxr_4, hxr_5, hfxr⟩ := boxed6 BKxr.out (HS.out.at_ (W := w12b)); have hnxr : gxr ≠ gxa := Nat.ne_of_lt (Nat.lt_of_lt_of_le Gxr.out.2 (Nat.le_trans (Nat.le_refl _) Gxa.out)); have hoxr := hnxr.symm; have Q12 := trivial)
    | ((clear Q12); (with_reducible refine gate_callee (f := 30) rfl ?_); refine goesL_ (some _) rfl rfl Try.func30 (by kernel_rfl) rfl #[.slice Ap p.length cp] rfl aw_ ?_; refine calls_at w11 gxa #[.int .i64 a_0, .int .i64 a_1, .int .i64 a_2, .int .i64 a_3, .int .i64 a_4, .slice AXa_a_5 a_5.length cXa_a_5, .int .i64 a_6] 62 (by with_reducible repeat (first | exact HX | refine Bl.set ?_ Gxa.out | apply Bl.alloc | apply Bl.drewN | apply Bl.drew)) (by (with_reducible repeat (first | refine blk_drewN ?_ _ | refine blk_drew ?_ | refine blk_alloc ?_ _)); exact (blk_put (blk_put (blk_put (blk_put (blk_put (blk_put (blk_put BKxa.out 0 (.int .i64 a_0) rfl) 1 (.int .i64 a_1) rfl) 2 (.int .i64 a_2) rfl) 3 (.int .i64 a_3) rfl) 4 (.int .i64 a_4) rfl) 5 (.slice AXa_a_5 a_5.length cXa_a_5) rfl) 6 (.int .i64 a_6) rfl)) ?_; intro W_ hx_ hbk_; clear BKxa HX; have BKxa := Aside0.mk hbk_; clear hbk_; (with_reducible refine (laws_toInt64S.calls k _ _ p p _ ?s0 ?t0 Tp.out).mono ?_); (case s0 => exact HS.out.C HRp.out); (case t0 => exact HCp.out); rintro e w13 ⟨v0, rfl, ho0, hb⟩; refine ⟨_, rfl, ?_⟩; obtain ⟨AXp, cXp, ev⟩ := Kd.R_slice ho0; subst ev; have HOXp := Aside0.mk (Kd.R_lower ho0 (below_size (Bl.out (w := w11)))); clear ho0; have hs_ := Aside0.mk (HS.out.go hb); have M_w13 := Aside0.mk (Bl.size (w := w11) hb); clear HS; have HS := hs_; clear hs_; have bk_ := Aside0.mk (blk_below BKxa.out hb); have g_ := Aside0.mk (⟨Gxa.out, Nat.lt_of_lt_of_le (blk_lt BKxa.out) (below_size0 hb)⟩ : w11.heap.size ≤ gxa ∧ gxa < w13.heap.size); clear BKxa Gxa hx_; have BKxa := bk_; have Gxa := g_; clear bk_ g_; clear hb; clear hxa_0 hxa_1 hxa_2 hxa_3 hxa_4 hxa_5 hxa_6 hfxa har_0 har_1 har_2 har_3 har_4 har_5 hfar hnar hoar haa_0 haa_1 haa_2 haa_3 haa_4 haa_5 haa_6 hfaa hnaa hoaa hxr_0 hxr_1 hxr_2 hxr_3 hxr_4 hxr_5 hfxr hnxr hoxr; obtain ⟨har_0, har_1, har_2, har_3, har_4, har_5, hfar⟩ := boxed6 BKar.out (HS.out.at_ (W := w13)); obtain ⟨haa_0, haa_1, haa_2, haa_3, haa_4, haa_5, haa_6, hfaa⟩ := boxed7 BKaa.out (HS.out.at_ (W := w13)); obtain ⟨hxr_0, hxr_1, hxr_2, hxr_3, hxr_4, hxr_5, hfxr⟩ := boxed6 BKxr.out (HS.out.at_ (W := w13)); obtain ⟨hxa_0, hxa_1, hxa_2, hxa_3, hxa_4, hxa_5, hxa_6, hfxa⟩ := boxed7 BKxa.out (HS.out.at_ (W := w13)); have Q13 := trivial)
    | ((clear Q13); (with_reducible refine gate_callee (f := 44) rfl ?_); refine goesL_ (some _) rfl rfl Try.func44 (by kernel_rfl) rfl #[.agg #[.string r_0, .slice AXr_r_1 r_1.length cXr_r_1, .slice AXr_r_2 r_2.length cXr_r_2, .int .i64 r_3, .int .i64 r_4, .slice AXr_r_5 r_5.length cXr_r_5], .agg #[.int .i64 a_0, .int .i64 a_1, .int .i64 a_2, .int .i64 a_3, .int .i64 a_4, .slice AXa_a_5 a_5.length cXa_a_5, .int .i64 a_6], .slice AXp p.length cXp] rfl aw_ ?_; (with_reducible refine (impl_Satisfies.calls k r_0 _ _ r_1 _ _ r_2 r_3 r_4 _ _ r_5 a_0 a_1 a_2 a_3 a_4 _ _ a_5 a_6 _ _ p R0 _ ?s0 ?t0 ?s1 ?t1 ?s2 ?t2 ?s3 ?t3 ?s4 ?t4 I.out).mono ?_); (case s0 => exact HS.out.C (RC HOXr_r_1.out)); (case t0 => exact RL HOXr_r_1.out); (case s1 => exact HS.out.C (RC HOXr_r_2.out)); (case t1 => exact RL HOXr_r_2.out); (case s2 => exact HS.out.C (SC HOXr_r_5.out)); (case t2 => exact SL HOXr_r_5.out); (case s3 => exact HS.out.C (SC HOXa_a_5.out)); (case t3 => exact SL HOXa_a_5.out); (case s4 => exact HS.out.C (RC HOXp.out)); (case t4 => exact RL HOXp.out); rintro e w14 ⟨rfl, hb_⟩; refine ⟨_, rfl, ?_⟩; have hb := below_of hb_; clear hb_; have hs_ := Aside0.mk (HS.out.go hb); have M_w14 := Aside0.mk (Bl.size (w := w13) hb); clear HS; have HS := hs_; clear hs_; clear hb; clear har_0 har_1 har_2 har_3 har_4 har_5 hfar haa_0 haa_1 haa_2 haa_3 haa_4 haa_5 haa_6 hfaa hxr_0 hxr_1 hxr_2 hxr_3 hxr_4 hxr_5 hfxr hxa_0 hxa_1 hxa_2 hxa_3 hxa_4 hxa_5 hxa_6 hfxa; obtain ⟨har_0, har_1, har_2, har_3, har_4, har_5, hfar⟩ := boxed6 BKar.out (HS.out.at_ (W := w14)); obtain ⟨haa_0, haa_1, haa_2, haa_3, haa_4, haa_5, haa_6, hfaa⟩ := boxed7 BKaa.out (HS.out.at_ (W := w14)); obtain ⟨hxr_0, hxr_1, hxr_2, hxr_3, hxr_4, hxr_5, hfxr⟩ := boxed6 BKxr.out (HS.out.at_ (W := w14)); obtain ⟨hxa_0, hxa_1, hxa_2, hxa_3, hxa_4, hxa_5, hxa_6, hfxa⟩ := boxed7 BKxa.out (HS.out.at_ (W := w14)); have Q14 := trivial))
  refine start_ (n := 5) (S := fun w' => w'.cell? ⟨gar, 0, none⟩ = some (.string r_0) ∧ w'.cell? ⟨gar, 1, none⟩ = some (.slice Ar_1 r_1.length cr_1) ∧ w'.cell? ⟨gar, 2, none⟩ = some (.slice Ar_2 r_2.length cr_2) ∧ w'.cell? ⟨gar, 3, none⟩ = some (.int .i64 r_3) ∧ w'.cell? ⟨gar, 4, none⟩ = some (.int .i64 r_4) ∧ w'.cell? ⟨gar, 5, none⟩ = some (.slice Ar_5 r_5.length cr_5) ∧ w'.cell? ⟨gaa, 0, none⟩ = some (.int .i64 a_0) ∧ w'.cell? ⟨gaa, 1, none⟩ = some (.int .i64 a_1) ∧ w'.cell? ⟨gaa, 2, none⟩ = some (.int .i64 a_2) ∧ w'.cell? ⟨gaa, 3, none⟩ = some (.int .i64 a_3) ∧ w'.cell? ⟨gaa, 4, none⟩ = some (.int .i64 a_4) ∧ w'.cell? ⟨gaa, 5, none⟩ = some (.slice Aa_5 a_5.length ca_5) ∧ w'.cell? ⟨gaa, 6, none⟩ = some (.int .i64 a_6) ∧ w'.cell? ⟨gxr, 0, none⟩ = some (.string r_0) ∧ w'.cell? ⟨gxr, 1, none⟩ = some (.slice AXr_r_1 r_1.length cXr_r_1) ∧ w'.cell? ⟨gxr, 2, none⟩ = some (.slice AXr_r_2 r_2.length cXr_r_2) ∧ w'.cell? ⟨gxr, 3, none⟩ = some (.int .i64 r_3) ∧ w'.cell? ⟨gxr, 4, none⟩ = some (.int .i64 r_4) ∧ w'.cell? ⟨gxr, 5, none⟩ = some (.slice AXr_r_5 r_5.length cXr_r_5) ∧ w'.cell? ⟨gxa, 0, none⟩ = some (.int .i64 a_0) ∧ w'.cell? ⟨gxa, 1, none⟩ = some (.int .i64 a_1) ∧ w'.cell? ⟨gxa, 2, none⟩ = some (.int .i64 a_2) ∧ w'.cell? ⟨gxa, 3, none⟩ = some (.int .i64 a_3) ∧ w'.cell? ⟨gxa, 4, none⟩ = some (.int .i64 a_4) ∧ w'.cell? ⟨gxa, 5, none⟩ = some (.slice AXa_a_5 a_5.length cXa_a_5) ∧ w'.cell? ⟨gxa, 6, none⟩ = some (.int .i64 a_6)) (ds := []) #[false, false, false, false, false] (by kernel_rfl) rfl rfl ⟨har_0, har_1, har_2, har_3, har_4, har_5, haa_0, haa_1, haa_2, haa_3, haa_4, haa_5, haa_6, hxr_0, hxr_1, hxr_2, hxr_3, hxr_4, hxr_5, hxa_0, hxa_1, hxa_2, hxa_3, hxa_4, hxa_5, hxa_6⟩ (fun hHeld => ?_)
  refine take_ (i := 0) (N := some 46) (v := ?_) (a' := ?_) #[true, false, false, false, false] rfl rfl (by kernel_rfl) (fun _ _ _ h => h) (Or.inl ⟨by rfl, ?_⟩) hHeld ?_ ?_
  rotate_left
  · rintro w' ⟨s0, s1, s2, s3, s4, s5, s6, s7, s8, s9, s10, s11, s12, s13, s14, s15, s16, s17, s18, s19, s20, s21, s22, s23, s24, s25⟩; go_simp; with_reducible rfl
  rotate_left
  · go_simp; rfl
  refine take_ (i := 1) (N := some 47) (v := ?_) (a' := ?_) #[true, true, false, false, false] rfl rfl (by kernel_rfl) (fun _ _ _ h => h) (Or.inl ⟨by rfl, ?_⟩) hHeld ?_ ?_
  rotate_left
  · rintro w' ⟨s0, s1, s2, s3, s4, s5, s6, s7, s8, s9, s10, s11, s12, s13, s14, s15, s16, s17, s18, s19, s20, s21, s22, s23, s24, s25⟩; go_simp; with_reducible rfl
  rotate_left
  · go_simp; rfl
  refine one_ (i := 2) (N := some 48) #[true, true, true, false, false] rfl rfl (by kernel_rfl) (by decide) (fun K hK => ?_)
  refine goes_ Try.func15 (by kernel_rfl) rfl #[.agg #[.string r_0, .slice Ar_1 r_1.length cr_1, .slice Ar_2 r_2.length cr_2, .int .i64 r_3, .int .i64 r_4, .slice Ar_5 r_5.length cr_5]] (by rfl) rfl rfl aw_ ?_
  clear hHeld Q14
  (with_reducible refine (laws_toRaga.calls k r_0 _ _ r_1 _ _ r_2 r_3 r_4 _ _ r_5 r_0 r_1 r_2 r_3 r_4 r_5 _ ?s0 ?t0 ?s1 ?t1 ?s2 ?t2 Tr.out).mono ?_)
  (case s0 => exact HS.out.C HRr_1.out)
  (case t0 => exact HCr_1.out)
  (case s1 => exact HS.out.C HRr_2.out)
  (case t1 => exact HCr_2.out)
  (case s2 => exact HS.out.C HRr_5.out)
  (case t2 => exact HCr_5.out)
  rintro e w15 ⟨v0, v1, v2, rfl, ho0, ho1, ho2, hb⟩
  refine ⟨_, rfl, ?_⟩
  obtain ⟨AUr_r_1, cUr_r_1, ev⟩ := Kd.R_slice ho0
  subst ev
  have HOUr_r_1 := Aside0.mk (Kd.R_lower ho0 (below_size (Bl.out (w := w14))))
  clear ho0
  obtain ⟨AUr_r_2, cUr_r_2, ev⟩ := Kd.R_slice ho1
  subst ev
  have HOUr_r_2 := Aside0.mk (Kd.R_lower ho1 (below_size (Bl.out (w := w14))))
  clear ho1
  obtain ⟨AUr_r_5, cUr_r_5, ev⟩ := Kd.S_slice ho2
  subst ev
  have HOUr_r_5 := Aside0.mk (Kd.S_lower ho2 (below_size (Bl.out (w := w14))))
  clear ho2
  have hs_ := Aside0.mk (HS.out.go hb)
  have M_w15 := Aside0.mk (Bl.size (w := w14) hb)
  clear HS
  have HS := hs_
  clear hs_
  clear hb
  clear har_0 har_1 har_2 har_3 har_4 har_5 hfar haa_0 haa_1 haa_2 haa_3 haa_4 haa_5 haa_6 hfaa hxr_0 hxr_1 hxr_2 hxr_3 hxr_4 hxr_5 hfxr hxa_0 hxa_1 hxa_2 hxa_3 hxa_4 hxa_5 hxa_6 hfxa
  obtain ⟨har_0, har_1, har_2, har_3, har_4, har_5, hfar⟩ := boxed6 BKar.out (HS.out.at_ (W := w15))
  obtain ⟨haa_0, haa_1, haa_2, haa_3, haa_4, haa_5, haa_6, hfaa⟩ := boxed7 BKaa.out (HS.out.at_ (W := w15))
  obtain ⟨hxr_0, hxr_1, hxr_2, hxr_3, hxr_4, hxr_5, hfxr⟩ := boxed6 BKxr.out (HS.out.at_ (W := w15))
  obtain ⟨hxa_0, hxa_1, hxa_2, hxa_3, hxa_4, hxa_5, hxa_6, hfxa⟩ := boxed7 BKxa.out (HS.out.at_ (W := w15))
  have Q15 := trivial
  refine hK.out _ _ ⟨har_0, har_1, har_2, har_3, har_4, har_5, haa_0, haa_1, haa_2, haa_3, haa_4, haa_5, haa_6, hxr_0, hxr_1, hxr_2, hxr_3, hxr_4, hxr_5, hxa_0, hxa_1, hxa_2, hxa_3, hxa_4, hxa_5, hxa_6⟩ (fun hHeld => ?_)
  clear hK K
  refine norm_ (a' := ?_) ?_ ?_
  rotate_left
  · show Act.put _ (some 48) _ = _; go_simp; rfl
  refine one_ (i := 3) (N := some 49) #[true, true, true, true, false] rfl rfl (by kernel_rfl) (by decide) (fun K hK => ?_)
  refine goes_ Try.func18 (by kernel_rfl) rfl #[.agg #[.string r_0, .slice AXr_r_1 r_1.length cXr_r_1, .slice AXr_r_2 r_2.length cXr_r_2, .int .i64 r_3, .int .i64 r_4, .slice AXr_r_5 r_5.length cXr_r_5], .agg #[.string r_0, .slice AUr_r_1 r_1.length cUr_r_1, .slice AUr_r_2 r_2.length cUr_r_2, .int .i64 r_3, .int .i64 r_4, .slice AUr_r_5 r_5.length cUr_r_5]] (by rfl) rfl rfl aw_ ?_
  clear hHeld Q15
  (with_reducible refine (laws_eqRaga.calls k r_0 _ _ r_1 _ _ r_2 r_3 r_4 _ _ r_5 r_0 _ _ r_1 _ _ r_2 r_3 r_4 _ _ r_5 true _ ?s0 ?t0 ?s1 ?t1 ?s2 ?t2 ?s3 ?t3 ?s4 ?t4 ?s5 ?t5 Er.out).mono ?_)
  (case s0 => exact HS.out.C (RC HOXr_r_1.out))
  (case t0 => exact RL HOXr_r_1.out)
  (case s1 => exact HS.out.C (RC HOXr_r_2.out))
  (case t1 => exact RL HOXr_r_2.out)
  (case s2 => exact HS.out.C (SC HOXr_r_5.out))
  (case t2 => exact SL HOXr_r_5.out)
  (case s3 => exact HS.out.C (RC HOUr_r_1.out))
  (case t3 => exact RL HOUr_r_1.out)
  (case s4 => exact HS.out.C (RC HOUr_r_2.out))
  (case t4 => exact RL HOUr_r_2.out)
  (case s5 => exact HS.out.C (SC HOUr_r_5.out))
  (case t5 => exact SL HOUr_r_5.out)
  rintro e w16 ⟨rfl, hb_⟩
  refine ⟨_, rfl, ?_⟩
  have hb := below_of hb_
  clear hb_
  have hs_ := Aside0.mk (HS.out.go hb)
  have M_w16 := Aside0.mk (Bl.size (w := w15) hb)
  clear HS
  have HS := hs_
  clear hs_
  clear hb
  clear har_0 har_1 har_2 har_3 har_4 har_5 hfar haa_0 haa_1 haa_2 haa_3 haa_4 haa_5 haa_6 hfaa hxr_0 hxr_1 hxr_2 hxr_3 hxr_4 hxr_5 hfxr hxa_0 hxa_1 hxa_2 hxa_3 hxa_4 hxa_5 hxa_6 hfxa
  obtain ⟨har_0, har_1, har_2, har_3, har_4, har_5, hfar⟩ := boxed6 BKar.out (HS.out.at_ (W := w16))
  obtain ⟨haa_0, haa_1, haa_2, haa_3, haa_4, haa_5, haa_6, hfaa⟩ := boxed7 BKaa.out (HS.out.at_ (W := w16))
  obtain ⟨hxr_0, hxr_1, hxr_2, hxr_3, hxr_4, hxr_5, hfxr⟩ := boxed6 BKxr.out (HS.out.at_ (W := w16))
  obtain ⟨hxa_0, hxa_1, hxa_2, hxa_3, hxa_4, hxa_5, hxa_6, hfxa⟩ := boxed7 BKxa.out (HS.out.at_ (W := w16))
  have Q16 := trivial
  refine hK.out _ _ ⟨har_0, har_1, har_2, har_3, har_4, har_5, haa_0, haa_1, haa_2, haa_3, haa_4, haa_5, haa_6, hxr_0, hxr_1, hxr_2, hxr_3, hxr_4, hxr_5, hxa_0, hxa_1, hxa_2, hxa_3, hxa_4, hxa_5, hxa_6⟩ (fun hHeld => ?_)
  clear hK K
  refine norm_ (a' := ?_) ?_ ?_
  rotate_left
  · show Act.put _ (some 49) _ = _; go_simp; rfl
  refine pure_ (i := 4) (N := some 50) (v := ?_) (a' := ?_) #[true, true, true, true, true] rfl rfl (by kernel_rfl) (fun _ _ _ h => h) (Or.inl ⟨by rfl, ?_⟩) ?_ ?_
  rotate_left
  · intro w'; go_simp; with_reducible rfl
  rotate_left
  · go_simp; rfl
  refine done_ (by kernel_rfl) ?_
  clear hHeld
  go_wp2
  refine start_ (n := 5) (S := fun w' => w'.cell? ⟨gar, 0, none⟩ = some (.string r_0) ∧ w'.cell? ⟨gar, 1, none⟩ = some (.slice Ar_1 r_1.length cr_1) ∧ w'.cell? ⟨gar, 2, none⟩ = some (.slice Ar_2 r_2.length cr_2) ∧ w'.cell? ⟨gar, 3, none⟩ = some (.int .i64 r_3) ∧ w'.cell? ⟨gar, 4, none⟩ = some (.int .i64 r_4) ∧ w'.cell? ⟨gar, 5, none⟩ = some (.slice Ar_5 r_5.length cr_5) ∧ w'.cell? ⟨gaa, 0, none⟩ = some (.int .i64 a_0) ∧ w'.cell? ⟨gaa, 1, none⟩ = some (.int .i64 a_1) ∧ w'.cell? ⟨gaa, 2, none⟩ = some (.int .i64 a_2) ∧ w'.cell? ⟨gaa, 3, none⟩ = some (.int .i64 a_3) ∧ w'.cell? ⟨gaa, 4, none⟩ = some (.int .i64 a_4) ∧ w'.cell? ⟨gaa, 5, none⟩ = some (.slice Aa_5 a_5.length ca_5) ∧ w'.cell? ⟨gaa, 6, none⟩ = some (.int .i64 a_6) ∧ w'.cell? ⟨gxr, 0, none⟩ = some (.string r_0) ∧ w'.cell? ⟨gxr, 1, none⟩ = some (.slice AXr_r_1 r_1.length cXr_r_1) ∧ w'.cell? ⟨gxr, 2, none⟩ = some (.slice AXr_r_2 r_2.length cXr_r_2) ∧ w'.cell? ⟨gxr, 3, none⟩ = some (.int .i64 r_3) ∧ w'.cell? ⟨gxr, 4, none⟩ = some (.int .i64 r_4) ∧ w'.cell? ⟨gxr, 5, none⟩ = some (.slice AXr_r_5 r_5.length cXr_r_5) ∧ w'.cell? ⟨gxa, 0, none⟩ = some (.int .i64 a_0) ∧ w'.cell? ⟨gxa, 1, none⟩ = some (.int .i64 a_1) ∧ w'.cell? ⟨gxa, 2, none⟩ = some (.int .i64 a_2) ∧ w'.cell? ⟨gxa, 3, none⟩ = some (.int .i64 a_3) ∧ w'.cell? ⟨gxa, 4, none⟩ = some (.int .i64 a_4) ∧ w'.cell? ⟨gxa, 5, none⟩ = some (.slice AXa_a_5 a_5.length cXa_a_5) ∧ w'.cell? ⟨gxa, 6, none⟩ = some (.int .i64 a_6)) (ds := []) #[false, false, false, false, false] (by kernel_rfl) rfl rfl ⟨har_0, har_1, har_2, har_3, har_4, har_5, haa_0, haa_1, haa_2, haa_3, haa_4, haa_5, haa_6, hxr_0, hxr_1, hxr_2, hxr_3, hxr_4, hxr_5, hxa_0, hxa_1, hxa_2, hxa_3, hxa_4, hxa_5, hxa_6⟩ (fun hHeld => ?_)
  refine take_ (i := 0) (N := some 51) (v := ?_) (a' := ?_) #[true, false, false, false, false] rfl rfl (by kernel_rfl) (fun _ _ _ h => h) (Or.inl ⟨by rfl, ?_⟩) hHeld ?_ ?_
  rotate_left
  · rintro w' ⟨s0, s1, s2, s3, s4, s5, s6, s7, s8, s9, s10, s11, s12, s13, s14, s15, s16, s17, s18, s19, s20, s21, s22, s23, s24, s25⟩; go_simp; with_reducible rfl
  rotate_left
  · go_simp; rfl
  refine take_ (i := 1) (N := some 52) (v := ?_) (a' := ?_) #[true, true, false, false, false] rfl rfl (by kernel_rfl) (fun _ _ _ h => h) (Or.inl ⟨by rfl, ?_⟩) hHeld ?_ ?_
  rotate_left
  · rintro w' ⟨s0, s1, s2, s3, s4, s5, s6, s7, s8, s9, s10, s11, s12, s13, s14, s15, s16, s17, s18, s19, s20, s21, s22, s23, s24, s25⟩; go_simp; with_reducible rfl
  rotate_left
  · go_simp; rfl
  refine one_ (i := 2) (N := some 53) #[true, true, true, false, false] rfl rfl (by kernel_rfl) (by decide) (fun K hK => ?_)
  refine goes_ Try.func43 (by kernel_rfl) rfl #[.agg #[.int .i64 a_0, .int .i64 a_1, .int .i64 a_2, .int .i64 a_3, .int .i64 a_4, .slice Aa_5 a_5.length ca_5, .int .i64 a_6]] (by rfl) rfl rfl aw_ ?_
  clear hHeld Q16
  (with_reducible refine (laws_toAsk.calls k a_0 a_1 a_2 a_3 a_4 _ _ a_5 a_6 a_0 a_1 a_2 a_3 a_4 a_5 a_6 _ ?s0 ?t0 Ta.out).mono ?_)
  (case s0 => exact HS.out.C HRa_5.out)
  (case t0 => exact HCa_5.out)
  rintro e w17 ⟨v0, rfl, ho0, hb⟩
  refine ⟨_, rfl, ?_⟩
  obtain ⟨AUa_a_5, cUa_a_5, ev⟩ := Kd.S_slice ho0
  subst ev
  have HOUa_a_5 := Aside0.mk (Kd.S_lower ho0 (below_size (Bl.out (w := w16))))
  clear ho0
  have hs_ := Aside0.mk (HS.out.go hb)
  have M_w17 := Aside0.mk (Bl.size (w := w16) hb)
  clear HS
  have HS := hs_
  clear hs_
  clear hb
  clear har_0 har_1 har_2 har_3 har_4 har_5 hfar haa_0 haa_1 haa_2 haa_3 haa_4 haa_5 haa_6 hfaa hxr_0 hxr_1 hxr_2 hxr_3 hxr_4 hxr_5 hfxr hxa_0 hxa_1 hxa_2 hxa_3 hxa_4 hxa_5 hxa_6 hfxa
  obtain ⟨har_0, har_1, har_2, har_3, har_4, har_5, hfar⟩ := boxed6 BKar.out (HS.out.at_ (W := w17))
  obtain ⟨haa_0, haa_1, haa_2, haa_3, haa_4, haa_5, haa_6, hfaa⟩ := boxed7 BKaa.out (HS.out.at_ (W := w17))
  obtain ⟨hxr_0, hxr_1, hxr_2, hxr_3, hxr_4, hxr_5, hfxr⟩ := boxed6 BKxr.out (HS.out.at_ (W := w17))
  obtain ⟨hxa_0, hxa_1, hxa_2, hxa_3, hxa_4, hxa_5, hxa_6, hfxa⟩ := boxed7 BKxa.out (HS.out.at_ (W := w17))
  have Q17 := trivial
  refine hK.out _ _ ⟨har_0, har_1, har_2, har_3, har_4, har_5, haa_0, haa_1, haa_2, haa_3, haa_4, haa_5, haa_6, hxr_0, hxr_1, hxr_2, hxr_3, hxr_4, hxr_5, hxa_0, hxa_1, hxa_2, hxa_3, hxa_4, hxa_5, hxa_6⟩ (fun hHeld => ?_)
  clear hK K
  refine norm_ (a' := ?_) ?_ ?_
  rotate_left
  · show Act.put _ (some 53) _ = _; go_simp; rfl
  refine one_ (i := 3) (N := some 54) #[true, true, true, true, false] rfl rfl (by kernel_rfl) (by decide) (fun K hK => ?_)
  refine goes_ Try.func45 (by kernel_rfl) rfl #[.agg #[.int .i64 a_0, .int .i64 a_1, .int .i64 a_2, .int .i64 a_3, .int .i64 a_4, .slice AXa_a_5 a_5.length cXa_a_5, .int .i64 a_6], .agg #[.int .i64 a_0, .int .i64 a_1, .int .i64 a_2, .int .i64 a_3, .int .i64 a_4, .slice AUa_a_5 a_5.length cUa_a_5, .int .i64 a_6]] (by rfl) rfl rfl aw_ ?_
  clear hHeld Q17
  (with_reducible refine (laws_eqAsk.calls k a_0 a_1 a_2 a_3 a_4 _ _ a_5 a_6 a_0 a_1 a_2 a_3 a_4 _ _ a_5 a_6 true _ ?s0 ?t0 ?s1 ?t1 Ea.out).mono ?_)
  (case s0 => exact HS.out.C (SC HOXa_a_5.out))
  (case t0 => exact SL HOXa_a_5.out)
  (case s1 => exact HS.out.C (SC HOUa_a_5.out))
  (case t1 => exact SL HOUa_a_5.out)
  rintro e w18 ⟨rfl, hb_⟩
  refine ⟨_, rfl, ?_⟩
  have hb := below_of hb_
  clear hb_
  have hs_ := Aside0.mk (HS.out.go hb)
  have M_w18 := Aside0.mk (Bl.size (w := w17) hb)
  clear HS
  have HS := hs_
  clear hs_
  clear hb
  clear har_0 har_1 har_2 har_3 har_4 har_5 hfar haa_0 haa_1 haa_2 haa_3 haa_4 haa_5 haa_6 hfaa hxr_0 hxr_1 hxr_2 hxr_3 hxr_4 hxr_5 hfxr hxa_0 hxa_1 hxa_2 hxa_3 hxa_4 hxa_5 hxa_6 hfxa
  obtain ⟨har_0, har_1, har_2, har_3, har_4, har_5, hfar⟩ := boxed6 BKar.out (HS.out.at_ (W := w18))
  obtain ⟨haa_0, haa_1, haa_2, haa_3, haa_4, haa_5, haa_6, hfaa⟩ := boxed7 BKaa.out (HS.out.at_ (W := w18))
  obtain ⟨hxr_0, hxr_1, hxr_2, hxr_3, hxr_4, hxr_5, hfxr⟩ := boxed6 BKxr.out (HS.out.at_ (W := w18))
  obtain ⟨hxa_0, hxa_1, hxa_2, hxa_3, hxa_4, hxa_5, hxa_6, hfxa⟩ := boxed7 BKxa.out (HS.out.at_ (W := w18))
  have Q18 := trivial
  refine hK.out _ _ ⟨har_0, har_1, har_2, har_3, har_4, har_5, haa_0, haa_1, haa_2, haa_3, haa_4, haa_5, haa_6, hxr_0, hxr_1, hxr_2, hxr_3, hxr_4, hxr_5, hxa_0, hxa_1, hxa_2, hxa_3, hxa_4, hxa_5, hxa_6⟩ (fun hHeld => ?_)
  clear hK K
  refine norm_ (a' := ?_) ?_ ?_
  rotate_left
  · show Act.put _ (some 54) _ = _; go_simp; rfl
  refine pure_ (i := 4) (N := some 55) (v := ?_) (a' := ?_) #[true, true, true, true, true] rfl rfl (by kernel_rfl) (fun _ _ _ h => h) (Or.inl ⟨by rfl, ?_⟩) ?_ ?_
  rotate_left
  · intro w'; go_simp; with_reducible rfl
  rotate_left
  · go_simp; rfl
  refine done_ (by kernel_rfl) ?_
  clear hHeld
  go_wp2_with (first
    | ((clear Q18); (with_reducible refine gate_callee (f := 30) rfl ?_); refine goesL_ (some _) rfl rfl Try.func30 (by kernel_rfl) rfl #[.slice Ap p.length cp] rfl aw_ ?_; (with_reducible refine (laws_toInt64S.calls k _ _ p p _ ?s0 ?t0 Tp.out).mono ?_); (case s0 => exact HS.out.C HRp.out); (case t0 => exact HCp.out); rintro e w19 ⟨v0, rfl, ho0, hb⟩; refine ⟨_, rfl, ?_⟩; obtain ⟨AUp, cUp, ev⟩ := Kd.R_slice ho0; subst ev; have HOUp := Aside0.mk (Kd.R_lower ho0 (below_size (Bl.out (w := w18)))); clear ho0; have hs_ := Aside0.mk (HS.out.go hb); have M_w19 := Aside0.mk (Bl.size (w := w18) hb); clear HS; have HS := hs_; clear hs_; clear hb; clear har_0 har_1 har_2 har_3 har_4 har_5 hfar haa_0 haa_1 haa_2 haa_3 haa_4 haa_5 haa_6 hfaa hxr_0 hxr_1 hxr_2 hxr_3 hxr_4 hxr_5 hfxr hxa_0 hxa_1 hxa_2 hxa_3 hxa_4 hxa_5 hxa_6 hfxa; obtain ⟨har_0, har_1, har_2, har_3, har_4, har_5, hfar⟩ := boxed6 BKar.out (HS.out.at_ (W := w19)); obtain ⟨haa_0, haa_1, haa_2, haa_3, haa_4, haa_5, haa_6, hfaa⟩ := boxed7 BKaa.out (HS.out.at_ (W := w19)); obtain ⟨hxr_0, hxr_1, hxr_2, hxr_3, hxr_4, hxr_5, hfxr⟩ := boxed6 BKxr.out (HS.out.at_ (W := w19)); obtain ⟨hxa_0, hxa_1, hxa_2, hxa_3, hxa_4, hxa_5, hxa_6, hfxa⟩ := boxed7 BKxa.out (HS.out.at_ (W := w19)); have Q19 := trivial)
    | ((clear Q19); (with_reducible refine gate_callee (f := 17) rfl ?_); refine goesL_ (some _) rfl rfl Try.func17 (by kernel_rfl) rfl #[.slice AXp p.length cXp, .slice AUp p.length cUp] rfl aw_ ?_; (with_reducible refine (laws_eqInt64S.calls k _ _ p _ _ p true _ ?s0 ?t0 ?s1 ?t1 Ep.out).mono ?_); (case s0 => exact HS.out.C (RC HOXp.out)); (case t0 => exact RL HOXp.out); (case s1 => exact HS.out.C (RC HOUp.out)); (case t1 => exact RL HOUp.out); rintro e w20 ⟨rfl, hb_⟩; refine ⟨_, rfl, ?_⟩; have hb := below_of hb_; clear hb_; have hs_ := Aside0.mk (HS.out.go hb); have M_w20 := Aside0.mk (Bl.size (w := w19) hb); clear HS; have HS := hs_; clear hs_; clear hb; clear har_0 har_1 har_2 har_3 har_4 har_5 hfar haa_0 haa_1 haa_2 haa_3 haa_4 haa_5 haa_6 hfaa hxr_0 hxr_1 hxr_2 hxr_3 hxr_4 hxr_5 hfxr hxa_0 hxa_1 hxa_2 hxa_3 hxa_4 hxa_5 hxa_6 hfxa; obtain ⟨har_0, har_1, har_2, har_3, har_4, har_5, hfar⟩ := boxed6 BKar.out (HS.out.at_ (W := w20)); obtain ⟨haa_0, haa_1, haa_2, haa_3, haa_4, haa_5, haa_6, hfaa⟩ := boxed7 BKaa.out (HS.out.at_ (W := w20)); obtain ⟨hxr_0, hxr_1, hxr_2, hxr_3, hxr_4, hxr_5, hfxr⟩ := boxed6 BKxr.out (HS.out.at_ (W := w20)); obtain ⟨hxa_0, hxa_1, hxa_2, hxa_3, hxa_4, hxa_5, hxa_6, hfxa⟩ := boxed7 BKxa.out (HS.out.at_ (W := w20)); have Q20 := trivial))
  go_ret
  exact ⟨sv_, HS.out.at_⟩

end Go.Proofs.Ytinlejhffokbaaa.P
end

section
namespace Go.Proofs.Ytinlejhffokbaaa.Pure
open Go.RowKit Go.Proofs.Ytinlejhffokbaaa.P Go.Proofs.YtinlejhffokbaaaW.PrintWords Go.Proofs.YtinlejhffokbaaaW.PrintLast Go.Proofs.YtinlejhffokbaaaW.PrintMore
set_option linter.unusedVariables false
set_option linter.unusedSimpArgs false

theorem bothSatisfies (s : ByteArray) (u d : List Int) (a b : Int) (f : List (List Int)) (lg st en lo hi : Int) (q : List (List Int)) (rp : Int) (p : List Int) (h0 : Fits s u d f) (hq : q.length ≤ 1048576) (hqr : ∀ j, j < q.length → (rd_L1 q j).length ≤ 1048576) (hp : p.length ≤ 1048576) :
    ∃ r, Ev (fun k => spec_Satisfies.f k s u d a b f lg st en lo hi q rp p) r ∧ Ev (fun k => impl_Satisfies.f k s u d a b f lg st en lo hi q rp p) r := by
  have a0 := spec_l05Ok_ev s u d a b f h0.1 h0.2.1 h0.2.2.1 h0.2.2.2.1
  have b0 := impl_ValidRaga_ev s u d a b f h0.1 h0.2.1 h0.2.2.1 h0.2.2.2.1
  have a1 := spec_l15Ok_ev lg st en lo hi q rp hq hqr
  have b1 := impl_ValidAsk_ev lg st en lo hi q rp hq
  have a2 := spec_l05Pitches_ev p (by omega)
  unfold spec_Satisfies.f impl_Satisfies.f
  cases v0 : ragaB s u d a b f with
  | false => exact ⟨false, Ev.bind a0 (Ev.ite_neg (by rw [v0]; decide) (Ev.now _)), Ev.bind b0 (Ev.ite_neg (by rw [v0]; decide) (Ev.now _))⟩
  | true =>
    obtain ⟨p1, p2, p3, p4⟩ := ragaB_parts v0
    cases v1 : askB lg st en lo hi q rp with
    | false => exact ⟨false, Ev.bind a0 (Ev.ite_pos v0 (Ev.bind a1 (Ev.ite_neg (by rw [v1]; decide) (Ev.now _)))), Ev.bind b0 (Ev.ite_pos v0 (Ev.bind b1 (Ev.ite_neg (by rw [v1]; decide) (Ev.now _))))⟩
    | true =>
      obtain ⟨q1, _, _, _, q5, q6⟩ := askB_parts v1
      cases v2 : pitchesB p with
      | false => exact ⟨false, Ev.bind a0 (Ev.ite_pos v0 (Ev.bind a1 (Ev.ite_pos v1 (Ev.bind a2 (Ev.ite_neg (by rw [v2]; decide) (Ev.now _)))))), Ev.bind b0 (Ev.ite_pos v0 (Ev.bind b1 (Ev.ite_pos v1 (Ev.bindc (impl_pitchesOk_eq p) (Ev.ite_neg (by rw [v2]; decide) (Ev.now _))))))⟩
      | true => exact ⟨_, Ev.bind a0 (Ev.ite_pos v0 (Ev.bind a1 (Ev.ite_pos v1 (Ev.bind a2 (Ev.ite_pos v2 (Ev.bind (spec_is_ev s u d a b f lg st en lo hi q rp p q1.1 v2 hq q6 h0.2.1 h0.2.2.1 p3 p4) (Ev.now _))))))), Ev.bind b0 (Ev.ite_pos v0 (Ev.bind b1 (Ev.ite_pos v1 (Ev.bindc (impl_pitchesOk_eq p) (Ev.ite_pos v2 (Ev.bind (impl_satisfies_ev s u d a b f lg st en lo hi q rp p q1.1 v2 q6 h0.2.1 h0.2.2.1 p3 p4) (Ev.now _)))))))⟩
theorem szAsk_ge (lg st en lo hi : Int) (q : List (List Int)) (rp z : Int) (z0 : 0 ≤ z) (z1 : z ≤ 1048576) (hq : q.length ≤ maxLen) (hr : ∀ y ∈ q, y.length ≤ maxLen) : ∃ t, Ev (fun k => laws_szAsk.f k lg st en lo hi q rp z) t ∧ (t < 0 ∨ (0 ≤ t ∧ t ≤ 1048576 ∧ q.length ≤ 1048576 ∧ ∀ j, j < q.length → (rd_L1 q j).length ≤ 1048576)) := by
  obtain ⟨y, ey, cy⟩ := szInt64SS_ge q z z0 z1 hq hr
  rcases cy with cy | ⟨y0, y1, hR, hRj⟩
  · refine ⟨-1, ?_, .inl (by omega)⟩
    unfold laws_szAsk.f
    exact Ev.bind ey (Ev.ite_pos cy (Ev.now _))
  · refine ⟨y, ?_, .inr ⟨y0, by omega, hR, hRj⟩⟩
    unfold laws_szAsk.f
    exact Ev.bind ey (Ev.ite_neg (by omega) (Ev.now _))
theorem toAsk_ev (lg st en lo hi : Int) (q : List (List Int)) (rp : Int) (c2 : q.length ≤ 1048576) (c3 : ∀ j, j < q.length → (rd_L1 q j).length ≤ 1048576) : Ev (fun k => laws_toAsk.f k lg st en lo hi q rp) (lg, st, en, lo, hi, q, rp) := by
  unfold laws_toAsk.f
  exact Ev.bind (toInt64SS_ev q c2 c3) (Ev.now _)
theorem eqAsk_self (lg st en lo hi : Int) (q : List (List Int)) (rp : Int) (c2 : q.length ≤ 1048576) (c3 : ∀ j, j < q.length → (rd_L1 q j).length ≤ 1048576) : Ev (fun k => laws_eqAsk.f k lg st en lo hi q rp lg st en lo hi q rp) true := by
  unfold laws_eqAsk.f
  exact Ev.ite_pos rfl (Ev.ite_pos rfl (Ev.ite_pos rfl (Ev.ite_pos rfl (Ev.ite_pos rfl (Ev.bind (eqInt64SS_self q c2 c3) (Ev.ite_pos rfl (Ev.ite_pos rfl (Ev.now _))))))))
theorem FnExactSatisfies : laws_FnExactSatisfies.Pure := by
  intro s0 u0 d0 st0 wk0 f0 lg st en lo hi q rp p hs0 ⟨hu0, _⟩ ⟨hd0, _⟩ _ _ ⟨hf0, hr0⟩ _ _ _ _ _ ⟨hq0, hqr⟩ _ ⟨hp0, _⟩
  by_cases hlong : 1048576 < (p.length : Int)
  · exact ⟨0, .inl hlong⟩
  have hp : p.length ≤ 1048576 := by omega
  obtain ⟨z, ez, cz⟩ := szRaga_ge s0 u0 d0 st0 wk0 f0 1048576 (by omega) (by omega) hs0 hu0 hd0 hf0 (fun y hy => (hr0 y hy).1)
  rcases cz with cz | ⟨z0, z1, h0⟩
  · obtain ⟨k, hk⟩ := Ev.out ez
    exact ⟨k, .inr ⟨hlong, z, hk, .inl cz⟩⟩
  obtain ⟨y, ey, cy⟩ := szAsk_ge lg st en lo hi q rp z z0 z1 hq0 (fun y hy => (hqr y hy).1)
  rcases cy with cy | ⟨y0, y1, hR, hRj⟩
  · obtain ⟨K, hK⟩ := Ev.and ez ey
    obtain ⟨k1, k2⟩ := hK K (Nat.le_refl _)
    exact ⟨K, .inr ⟨hlong, z, k1, .inr ⟨by omega, y, k2, .inl cy⟩⟩⟩
  obtain ⟨r, es, ei⟩ := bothSatisfies s0 u0 d0 st0 wk0 f0 lg st en lo hi q rp p h0 hR hRj hp
  obtain ⟨K, hK⟩ := Ev.and ez (Ev.and ey (Ev.and es (Ev.and ei (Ev.and (toRaga_ev h0 st0 wk0) (Ev.and (eqRaga_self h0 st0 wk0) (Ev.and (toAsk_ev lg st en lo hi q rp hR hRj) (Ev.and (eqAsk_self lg st en lo hi q rp hR hRj) (Ev.and (toInt64S_ev p (by omega)) (eqInt64S_self p (by omega))))))))))
  obtain ⟨k1, k2, k3, k4, k5, k6, k7, k8, k9, k10⟩ := hK K (Nat.le_refl _)
  exact ⟨K, .inr ⟨hlong, z, k1, .inr ⟨by omega, y, k2, .inr ⟨by omega, r, k3, k4, k5, k6, k7, k8, k9, k10⟩⟩⟩⟩

end Go.Proofs.Ytinlejhffokbaaa.Pure
end
