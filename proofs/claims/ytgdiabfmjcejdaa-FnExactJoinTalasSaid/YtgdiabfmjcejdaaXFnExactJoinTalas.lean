/- The pure statement of FnExactJoinTalas. No condition. -/
import Derived.Test.YtgdiabfmjcejdaaGJT1
import Derived.Test.YtgdiabfmjcejdaaGJT2
import Derived.Test.YtgdiabfmjcejdaaGJT3
import Derived.Test.YtgdiabfmjcejdaaGJT4
section
namespace Go.Proofs.Ytgdiabfmjcejdaa.P
open Go.RowKit Go.Proofs.YtgdiabfmjcejdaaW.PrintWords Go.Proofs.YtgdiabfmjcejdaaW.PrintLast Go.Proofs.YtgdiabfmjcejdaaW.PrintMore
attribute [local go_sem] max2_int min2_int max_two min_two max_three min_three max_four min_four   -- for this text's walks alone
set_option linter.unusedVariables false
set_option linter.unusedSimpArgs false

/-! ### laws_FnExactJoinTalas: function 3 (given) -/
/-- What the plain side tells: both give the same, and what the laws' helpers say of it. -/
def laws_FnExactJoinTalas.Pure : Prop := ∀ (a_0 : ByteArray) (a_1 : List Int) (a_2 : List Int) (b_0 : ByteArray) (b_1 : List Int) (b_2 : List Int) (n : ByteArray), a_0.size ≤ maxLen → (a_1.length ≤ maxLen ∧ ∀ y0 ∈ a_1, (Lit.int .i64 y0).wf = true) → (a_2.length ≤ maxLen ∧ ∀ y0 ∈ a_2, (Lit.int .i64 y0).wf = true) → b_0.size ≤ maxLen → (b_1.length ≤ maxLen ∧ ∀ y0 ∈ b_1, (Lit.int .i64 y0).wf = true) → (b_2.length ≤ maxLen ∧ ∀ y0 ∈ b_2, (Lit.int .i64 y0).wf = true) → n.size ≤ maxLen → ∃ k : Nat, 1048576 < (n.size : Int) ∨ (¬ 1048576 < (n.size : Int) ∧ ∃ za : Int, laws_szTala.f a_0 a_1 a_2 1048576 = some za ∧ (za < 0 ∨ (¬ za < 0 ∧ ∃ zb : Int, laws_szTala.f b_0 b_1 b_2 za = some zb ∧ (zb < 0 ∨ (¬ zb < 0 ∧ ∃ (R0_0 : ByteArray) (R0_1 : List Int) (R0_2 : List Int) (R1 : Int) (va : Int) (Ma_1 : List Int) (Ma_2 : List Int) (vb : Int) (Mb_1 : List Int) (Mb_2 : List Int) (m0 : Int) (N0_1 : List Int) (N0_2 : List Int), spec_JoinTalas.f k a_0 a_1 a_2 b_0 b_1 b_2 n = some (R0_0, R0_1, R0_2, R1) ∧ impl_JoinTalas.f k a_0 a_1 a_2 b_0 b_1 b_2 n = some (R0_0, R0_1, R0_2, R1) ∧ laws_toTala.f k a_0 a_1 a_2 = some (a_0, a_1, a_2) ∧ laws_eqTala.f k a_0 a_1 a_2 a_0 a_1 a_2 = some true ∧ laws_toTala.f k b_0 b_1 b_2 = some (b_0, b_1, b_2) ∧ laws_eqTala.f k b_0 b_1 b_2 b_0 b_1 b_2 = some true ∧ laws_markTala.f k a_0 a_1 a_2 1 = some (va, Ma_1, Ma_2) ∧ laws_markTala.f k b_0 b_1 b_2 va = some (vb, Mb_1, Mb_2) ∧ 0 ≤ vb ∧ laws_eqTala.f k R0_0 R0_1 R0_2 R0_0 R0_1 R0_2 = some true ∧ laws_markTala.f k R0_0 R0_1 R0_2 1 = some (m0, N0_1, N0_2) ∧ laws_heldTala.f k R0_0 N0_1 N0_2 1 = some m0 ∧ 0 ≤ m0)))))
theorem laws_FnExactJoinTalas.mark (k : Nat) (s : ByteArray) (P : Nat → Prop) (v1 : Value) (l1 : List Int) (v2 : Value) (l2 : List Int) (a r : Int) (N1 N2 : List Int) (w0 w : World) (hB : Below w0.heap.size w0 w) (h1 : Kd.R (Kd.int .i64) 2 w w0.heap.size (fun k_ => P k_ ∧ some k_ ≠ (v2 : Value).ownBlock) v1 l1) (h2 : Kd.R (Kd.int .i64) 2 w w0.heap.size (fun k_ => P k_ ∧ some k_ ≠ (v1 : Value).ownBlock) v2 l2) (h : laws_markTala.f k s l1 l2 a = some (r, N1, N2)) :
    Calls Try.prog 13 #[.agg #[.string s, v1, v2], .int .i64 a] w fun e w' => e = .returned (.int .i64 r) ∧ Kd.R (Kd.int .i64) 2 w' w0.heap.size (fun _ => True) v1 N1 ∧ Kd.R (Kd.int .i64) 2 w' w0.heap.size (fun _ => True) v2 N2 ∧ Below w0.heap.size w0 w' ∧ Kept w w' P := by
  have h1' : Kd.R (Kd.int .i64) 2 w w0.heap.size (fun k_ => P k_ ∧ some k_ ≠ (v2 : Value).ownBlock) v1 l1 := h1
  have h2' : Kd.R (Kd.int .i64) 2 w w0.heap.size (fun k_ => P k_ ∧ some k_ = (v2 : Value).ownBlock) v2 l2 := ⟨fun k hk => ⟨(h2.1 k hk).1, hk.symm⟩, h2.2⟩
  refine (laws_markTala.calls k s _ v1 l1 _ v2 l2 a r N1 N2 w0 w hB h1' (fun k_ h_ h2_ => h_.2 h2_.2) h2' (fun k_ h_ h2_ => h2_.2 h_.2) h).mono ?_
  rintro e w' ⟨he, hy1, hy2, hb, hk⟩
  exact ⟨he, Kd.R_mono hy1 (fun _ _ => trivial), Kd.R_mono hy2 (fun _ _ => trivial), hb, hk.1, fun k_ hl hn => hk.2 k_ hl (fun h_ => hn (h_.elim (fun z => z.1) (fun z => z.1)))⟩
set_option maxHeartbeats 16000000 in
set_option maxRecDepth 100000 in
theorem laws_FnExactJoinTalas.walk (P : laws_FnExactJoinTalas.Pure) (a_0 : ByteArray) (Aa_1 : Option Addr) (ca_1 : Nat) (a_1 : List Int) (Aa_2 : Option Addr) (ca_2 : Nat) (a_2 : List Int) (b_0 : ByteArray) (Ab_1 : Option Addr) (cb_1 : Nat) (b_1 : List Int) (Ab_2 : Option Addr) (cb_2 : Nat) (b_2 : List Int) (n : ByteArray) (w : World) (hra_1 : Kd.C (Kd.int .i64) w Aa_1 a_1.length a_1) (hca_1 : a_1.length ≤ ca_1) (hra_2 : Kd.C (Kd.int .i64) w Aa_2 a_2.length a_2) (hca_2 : a_2.length ≤ ca_2) (hrb_1 : Kd.C (Kd.int .i64) w Ab_1 b_1.length b_1) (hcb_1 : b_1.length ≤ cb_1) (hrb_2 : Kd.C (Kd.int .i64) w Ab_2 b_2.length b_2) (hcb_2 : b_2.length ≤ cb_2) (w_a_0 : a_0.size ≤ maxLen) (w_a_1 : (a_1.length ≤ maxLen ∧ ∀ y0 ∈ a_1, (Lit.int .i64 y0).wf = true)) (w_a_2 : (a_2.length ≤ maxLen ∧ ∀ y0 ∈ a_2, (Lit.int .i64 y0).wf = true)) (w_b_0 : b_0.size ≤ maxLen) (w_b_1 : (b_1.length ≤ maxLen ∧ ∀ y0 ∈ b_1, (Lit.int .i64 y0).wf = true)) (w_b_2 : (b_2.length ≤ maxLen ∧ ∀ y0 ∈ b_2, (Lit.int .i64 y0).wf = true)) (w_n : n.size ≤ maxLen) :
    Calls Try.prog 3 #[.agg #[.string a_0, .slice Aa_1 a_1.length ca_1, .slice Aa_2 a_2.length ca_2], .agg #[.string b_0, .slice Ab_1 b_1.length cb_1, .slice Ab_2 b_2.length cb_2], .string n] w fun e w' => e = .returned (.bool true) ∧ Below w.heap.size w w' := by
  obtain ⟨k, HP⟩ := P a_0 a_1 a_2 b_0 b_1 b_2 n w_a_0 w_a_1 w_a_2 w_b_0 w_b_1 w_b_2 w_n
  clear P w_a_0 w_a_1 w_a_2 w_b_0 w_b_1 w_b_2 w_n
  have HRa_1 := Aside0.mk hra_1
  have HCa_1 := Aside0.mk hca_1
  clear hra_1 hca_1
  have HRa_2 := Aside0.mk hra_2
  have HCa_2 := Aside0.mk hca_2
  clear hra_2 hca_2
  have HRb_1 := Aside0.mk hrb_1
  have HCb_1 := Aside0.mk hcb_1
  clear hrb_1 hcb_1
  have HRb_2 := Aside0.mk hrb_2
  have HCb_2 := Aside0.mk hcb_2
  clear hrb_2 hcb_2
  have HS := Aside0.mk (Since.start w)
  have hu24 := Try.underlying24
  have hu26 := Try.underlying26
  rcases HP with h1_ | ⟨h1_, HP⟩
  · have c_n : decide (1048576 < (n.size : Int)) = true := decide_eq_true h1_
    have d_n : decide (1048576 < n.size) = true := decide_eq_true (by omega)
    clear h1_
    have Q0 := trivial
    go_enter Try.func3, Try.ntmps3
    go_wp2_with (first
      | ((clear Q0); (with_reducible refine gate_dst (N := 3) rfl ?_); refine box_event ?hg (N := 3) ?hd (cs := #[.string a_0, .slice Aa_1 a_1.length ca_1, .slice Aa_2 a_2.length ca_2]) (t := 24) ?hr ?_; (case hd => rfl); (case hg => rfl); (case hr => first | (go_simp; done) | (go_simp; rfl)); intro gaa hg w1 hbox hb; have BKaa := Aside0.mk hbox; have Gaa := Aside0.mk (show w.heap.size ≤ gaa ∧ gaa < w1.heap.size from ⟨by rw [hg]; exact below_size (Bl.out), blk_lt hbox⟩); clear hbox hg; have hs_ := Aside0.mk (HS.out.go hb); have M_w1 := Aside0.mk (Bl.size (w := w) hb); clear HS; have HS := hs_; clear hs_; clear hb; obtain ⟨haa_0, haa_1, haa_2, hfaa⟩ := boxed3 BKaa.out (HS.out.at_ (W := w1)); have Q1 := trivial)
      | ((clear Q1); (with_reducible refine gate_dst (N := 4) rfl ?_); refine box_event ?hg (N := 4) ?hd (cs := #[.string b_0, .slice Ab_1 b_1.length cb_1, .slice Ab_2 b_2.length cb_2]) (t := 24) ?hr ?_; (case hd => rfl); (case hg => rfl); (case hr => first | (go_simp; done) | (go_simp; rfl)); intro gab hg w2 hbox hb; have BKab := Aside0.mk hbox; have Gab := Aside0.mk (show w1.heap.size ≤ gab ∧ gab < w2.heap.size from ⟨by rw [hg]; exact below_size (Bl.out), blk_lt hbox⟩); clear hbox hg; have hs_ := Aside0.mk (HS.out.go hb); have M_w2 := Aside0.mk (Bl.size (w := w1) hb); clear HS; have HS := hs_; clear hs_; clear hb; clear haa_0 haa_1 haa_2 hfaa; obtain ⟨haa_0, haa_1, haa_2, hfaa⟩ := boxed3 BKaa.out (HS.out.at_ (W := w2)); obtain ⟨hab_0, hab_1, hab_2, hfab⟩ := boxed3 BKab.out (HS.out.at_ (W := w2)); have Q2 := trivial))
    go_ret
    exact ⟨by first | rfl | (simp; done) | (simp [*]; done), HS.out.at_⟩
  have c_n : decide (1048576 < (n.size : Int)) = false := decide_eq_false h1_
  have d_n : decide (1048576 < n.size) = false := decide_eq_false (by omega)
  clear h1_
  obtain ⟨za, z_, HP⟩ := HP
  have Za := Aside0.mk z_
  clear z_
  rcases HP with h1_ | ⟨h1_, HP⟩
  · have c_za : decide (za < 0) = true := decide_eq_true h1_
    clear h1_
    have Q0 := trivial
    go_enter Try.func3, Try.ntmps3
    go_wp2_with (first
      | ((clear Q0); (with_reducible refine gate_dst (N := 3) rfl ?_); refine box_event ?hg (N := 3) ?hd (cs := #[.string a_0, .slice Aa_1 a_1.length ca_1, .slice Aa_2 a_2.length ca_2]) (t := 24) ?hr ?_; (case hd => rfl); (case hg => rfl); (case hr => first | (go_simp; done) | (go_simp; rfl)); intro gaa hg w1 hbox hb; have BKaa := Aside0.mk hbox; have Gaa := Aside0.mk (show w.heap.size ≤ gaa ∧ gaa < w1.heap.size from ⟨by rw [hg]; exact below_size (Bl.out), blk_lt hbox⟩); clear hbox hg; have hs_ := Aside0.mk (HS.out.go hb); have M_w1 := Aside0.mk (Bl.size (w := w) hb); clear HS; have HS := hs_; clear hs_; clear hb; obtain ⟨haa_0, haa_1, haa_2, hfaa⟩ := boxed3 BKaa.out (HS.out.at_ (W := w1)); have Q1 := trivial)
      | ((clear Q1); (with_reducible refine gate_dst (N := 4) rfl ?_); refine box_event ?hg (N := 4) ?hd (cs := #[.string b_0, .slice Ab_1 b_1.length cb_1, .slice Ab_2 b_2.length cb_2]) (t := 24) ?hr ?_; (case hd => rfl); (case hg => rfl); (case hr => first | (go_simp; done) | (go_simp; rfl)); intro gab hg w2 hbox hb; have BKab := Aside0.mk hbox; have Gab := Aside0.mk (show w1.heap.size ≤ gab ∧ gab < w2.heap.size from ⟨by rw [hg]; exact below_size (Bl.out), blk_lt hbox⟩); clear hbox hg; have hs_ := Aside0.mk (HS.out.go hb); have M_w2 := Aside0.mk (Bl.size (w := w1) hb); clear HS; have HS := hs_; clear hs_; clear hb; clear haa_0 haa_1 haa_2 hfaa; obtain ⟨haa_0, haa_1, haa_2, hfaa⟩ := boxed3 BKaa.out (HS.out.at_ (W := w2)); obtain ⟨hab_0, hab_1, hab_2, hfab⟩ := boxed3 BKab.out (HS.out.at_ (W := w2)); have Q2 := trivial)
      | ((clear Q2); (with_reducible refine gate_callee (f := 8) rfl ?_); refine goesL_ (some _) rfl rfl Try.func8 (by kernel_rfl) rfl #[.agg #[.string a_0, .slice Aa_1 a_1.length ca_1, .slice Aa_2 a_2.length ca_2], .int .i64 1048576] rfl (by (try simp only [List.map_toArray, List.map_cons, List.map_nil]); first | done | rfl) ?_; (with_reducible refine (laws_szTala.calls a_0 _ _ a_1 _ _ a_2 1048576 za _ ?s0 ?t0 ?s1 ?t1 Za.out).mono ?_); (case s0 => exact HS.out.C HRa_1.out); (case t0 => exact HCa_1.out); (case s1 => exact HS.out.C HRa_2.out); (case t1 => exact HCa_2.out); rintro e w3 ⟨rfl, hb_⟩; refine ⟨_, rfl, ?_⟩; have hb := below_of hb_; clear hb_; have hs_ := Aside0.mk (HS.out.go hb); have M_w3 := Aside0.mk (Bl.size (w := w2) hb); clear HS; have HS := hs_; clear hs_; clear hb; clear haa_0 haa_1 haa_2 hfaa hab_0 hab_1 hab_2 hfab; obtain ⟨haa_0, haa_1, haa_2, hfaa⟩ := boxed3 BKaa.out (HS.out.at_ (W := w3)); obtain ⟨hab_0, hab_1, hab_2, hfab⟩ := boxed3 BKab.out (HS.out.at_ (W := w3)); have Q3 := trivial))
    go_ret
    exact ⟨by first | rfl | (simp; done) | (simp [*]; done), HS.out.at_⟩
  have c_za : decide (za < 0) = false := decide_eq_false h1_
  clear h1_
  obtain ⟨zb, z_, HP⟩ := HP
  have Zb := Aside0.mk z_
  clear z_
  rcases HP with h1_ | ⟨h1_, HP⟩
  · have c_zb : decide (zb < 0) = true := decide_eq_true h1_
    clear h1_
    have Q0 := trivial
    go_enter Try.func3, Try.ntmps3
    go_wp2_with (first
      | ((clear Q0); (with_reducible refine gate_dst (N := 3) rfl ?_); refine box_event ?hg (N := 3) ?hd (cs := #[.string a_0, .slice Aa_1 a_1.length ca_1, .slice Aa_2 a_2.length ca_2]) (t := 24) ?hr ?_; (case hd => rfl); (case hg => rfl); (case hr => first | (go_simp; done) | (go_simp; rfl)); intro gaa hg w1 hbox hb; have BKaa := Aside0.mk hbox; have Gaa := Aside0.mk (show w.heap.size ≤ gaa ∧ gaa < w1.heap.size from ⟨by rw [hg]; exact below_size (Bl.out), blk_lt hbox⟩); clear hbox hg; have hs_ := Aside0.mk (HS.out.go hb); have M_w1 := Aside0.mk (Bl.size (w := w) hb); clear HS; have HS := hs_; clear hs_; clear hb; obtain ⟨haa_0, haa_1, haa_2, hfaa⟩ := boxed3 BKaa.out (HS.out.at_ (W := w1)); have Q1 := trivial)
      | ((clear Q1); (with_reducible refine gate_dst (N := 4) rfl ?_); refine box_event ?hg (N := 4) ?hd (cs := #[.string b_0, .slice Ab_1 b_1.length cb_1, .slice Ab_2 b_2.length cb_2]) (t := 24) ?hr ?_; (case hd => rfl); (case hg => rfl); (case hr => first | (go_simp; done) | (go_simp; rfl)); intro gab hg w2 hbox hb; have BKab := Aside0.mk hbox; have Gab := Aside0.mk (show w1.heap.size ≤ gab ∧ gab < w2.heap.size from ⟨by rw [hg]; exact below_size (Bl.out), blk_lt hbox⟩); clear hbox hg; have hs_ := Aside0.mk (HS.out.go hb); have M_w2 := Aside0.mk (Bl.size (w := w1) hb); clear HS; have HS := hs_; clear hs_; clear hb; clear haa_0 haa_1 haa_2 hfaa; obtain ⟨haa_0, haa_1, haa_2, hfaa⟩ := boxed3 BKaa.out (HS.out.at_ (W := w2)); obtain ⟨hab_0, hab_1, hab_2, hfab⟩ := boxed3 BKab.out (HS.out.at_ (W := w2)); have Q2 := trivial)
      | ((clear Q2); (with_reducible refine gate_callee (f := 8) rfl ?_); refine goesL_ (some _) rfl rfl Try.func8 (by kernel_rfl) rfl #[.agg #[.string a_0, .slice Aa_1 a_1.length ca_1, .slice Aa_2 a_2.length ca_2], .int .i64 1048576] rfl (by (try simp only [List.map_toArray, List.map_cons, List.map_nil]); first | done | rfl) ?_; (with_reducible refine (laws_szTala.calls a_0 _ _ a_1 _ _ a_2 1048576 za _ ?s0 ?t0 ?s1 ?t1 Za.out).mono ?_); (case s0 => exact HS.out.C HRa_1.out); (case t0 => exact HCa_1.out); (case s1 => exact HS.out.C HRa_2.out); (case t1 => exact HCa_2.out); rintro e w3 ⟨rfl, hb_⟩; refine ⟨_, rfl, ?_⟩; have hb := below_of hb_; clear hb_; have hs_ := Aside0.mk (HS.out.go hb); have M_w3 := Aside0.mk (Bl.size (w := w2) hb); clear HS; have HS := hs_; clear hs_; clear hb; clear haa_0 haa_1 haa_2 hfaa hab_0 hab_1 hab_2 hfab; obtain ⟨haa_0, haa_1, haa_2, hfaa⟩ := boxed3 BKaa.out (HS.out.at_ (W := w3)); obtain ⟨hab_0, hab_1, hab_2, hfab⟩ := boxed3 BKab.out (HS.out.at_ (W := w3)); have Q3 := trivial)
      | ((clear Q3); (with_reducible refine gate_callee (f := 8) rfl ?_); refine goesL_ (some _) rfl rfl Try.func8 (by kernel_rfl) rfl #[.agg #[.string b_0, .slice Ab_1 b_1.length cb_1, .slice Ab_2 b_2.length cb_2], .int .i64 za] rfl (by (try simp only [List.map_toArray, List.map_cons, List.map_nil]); first | done | rfl) ?_; (with_reducible refine (laws_szTala.calls b_0 _ _ b_1 _ _ b_2 za zb _ ?s0 ?t0 ?s1 ?t1 Zb.out).mono ?_); (case s0 => exact HS.out.C HRb_1.out); (case t0 => exact HCb_1.out); (case s1 => exact HS.out.C HRb_2.out); (case t1 => exact HCb_2.out); rintro e w4 ⟨rfl, hb_⟩; refine ⟨_, rfl, ?_⟩; have hb := below_of hb_; clear hb_; have hs_ := Aside0.mk (HS.out.go hb); have M_w4 := Aside0.mk (Bl.size (w := w3) hb); clear HS; have HS := hs_; clear hs_; clear hb; clear haa_0 haa_1 haa_2 hfaa hab_0 hab_1 hab_2 hfab; obtain ⟨haa_0, haa_1, haa_2, hfaa⟩ := boxed3 BKaa.out (HS.out.at_ (W := w4)); obtain ⟨hab_0, hab_1, hab_2, hfab⟩ := boxed3 BKab.out (HS.out.at_ (W := w4)); have Q4 := trivial))
    go_ret
    exact ⟨by first | rfl | (simp; done) | (simp [*]; done), HS.out.at_⟩
  have c_zb : decide (zb < 0) = false := decide_eq_false h1_
  clear h1_
  obtain ⟨R0_0, R0_1, R0_2, R1, va, Ma_1, Ma_2, vb, Mb_1, Mb_2, m0, N0_1, N0_2, pP, pI, pTa, pEa, pTb, pEb, pKa, pKb, pk0, pER0, pKR0, pHR0, pm00⟩ := HP
  have P := Aside0.mk pP
  clear pP
  have I := Aside0.mk pI
  clear pI
  have Ta := Aside0.mk pTa
  clear pTa
  have Ea := Aside0.mk pEa
  clear pEa
  have Tb := Aside0.mk pTb
  clear pTb
  have Eb := Aside0.mk pEb
  clear pEb
  have Ka := Aside0.mk pKa
  clear pKa
  have Kb := Aside0.mk pKb
  clear pKb
  have c_k : decide (vb < 0) = false := decide_eq_false (by omega)
  clear pk0
  have ER0 := Aside0.mk pER0
  clear pER0
  have KR0 := Aside0.mk pKR0
  clear pKR0
  have HR0 := Aside0.mk pHR0
  clear pHR0
  have c_m00 : decide (m0 < 0) = false := decide_eq_false (by omega)
  clear pm00
  have Q0 := trivial
  go_enter Try.func3, Try.ntmps3
  go_wp2_with (first
    | ((clear Q0); (with_reducible refine gate_dst (N := 3) rfl ?_); refine box_event ?hg (N := 3) ?hd (cs := #[.string a_0, .slice Aa_1 a_1.length ca_1, .slice Aa_2 a_2.length ca_2]) (t := 24) ?hr ?_; (case hd => rfl); (case hg => rfl); (case hr => first | (go_simp; done) | (go_simp; rfl)); intro gaa hg w1 hbox hb; have BKaa := Aside0.mk hbox; have Gaa := Aside0.mk (show w.heap.size ≤ gaa ∧ gaa < w1.heap.size from ⟨by rw [hg]; exact below_size (Bl.out), blk_lt hbox⟩); clear hbox hg; have hs_ := Aside0.mk (HS.out.go hb); have M_w1 := Aside0.mk (Bl.size (w := w) hb); clear HS; have HS := hs_; clear hs_; clear hb; obtain ⟨haa_0, haa_1, haa_2, hfaa⟩ := boxed3 BKaa.out (HS.out.at_ (W := w1)); have Q1 := trivial)
    | ((clear Q1); (with_reducible refine gate_dst (N := 4) rfl ?_); refine box_event ?hg (N := 4) ?hd (cs := #[.string b_0, .slice Ab_1 b_1.length cb_1, .slice Ab_2 b_2.length cb_2]) (t := 24) ?hr ?_; (case hd => rfl); (case hg => rfl); (case hr => first | (go_simp; done) | (go_simp; rfl)); intro gab hg w2 hbox hb; have BKab := Aside0.mk hbox; have Gab := Aside0.mk (show w1.heap.size ≤ gab ∧ gab < w2.heap.size from ⟨by rw [hg]; exact below_size (Bl.out), blk_lt hbox⟩); clear hbox hg; have hs_ := Aside0.mk (HS.out.go hb); have M_w2 := Aside0.mk (Bl.size (w := w1) hb); clear HS; have HS := hs_; clear hs_; clear hb; clear haa_0 haa_1 haa_2 hfaa; obtain ⟨haa_0, haa_1, haa_2, hfaa⟩ := boxed3 BKaa.out (HS.out.at_ (W := w2)); obtain ⟨hab_0, hab_1, hab_2, hfab⟩ := boxed3 BKab.out (HS.out.at_ (W := w2)); have Q2 := trivial)
    | ((clear Q2); (with_reducible refine gate_callee (f := 8) rfl ?_); refine goesL_ (some _) rfl rfl Try.func8 (by kernel_rfl) rfl #[.agg #[.string a_0, .slice Aa_1 a_1.length ca_1, .slice Aa_2 a_2.length ca_2], .int .i64 1048576] rfl (by (try simp only [List.map_toArray, List.map_cons, List.map_nil]); first | done | rfl) ?_; (with_reducible refine (laws_szTala.calls a_0 _ _ a_1 _ _ a_2 1048576 za _ ?s0 ?t0 ?s1 ?t1 Za.out).mono ?_); (case s0 => exact HS.out.C HRa_1.out); (case t0 => exact HCa_1.out); (case s1 => exact HS.out.C HRa_2.out); (case t1 => exact HCa_2.out); rintro e w3 ⟨rfl, hb_⟩; refine ⟨_, rfl, ?_⟩; have hb := below_of hb_; clear hb_; have hs_ := Aside0.mk (HS.out.go hb); have M_w3 := Aside0.mk (Bl.size (w := w2) hb); clear HS; have HS := hs_; clear hs_; clear hb; clear haa_0 haa_1 haa_2 hfaa hab_0 hab_1 hab_2 hfab; obtain ⟨haa_0, haa_1, haa_2, hfaa⟩ := boxed3 BKaa.out (HS.out.at_ (W := w3)); obtain ⟨hab_0, hab_1, hab_2, hfab⟩ := boxed3 BKab.out (HS.out.at_ (W := w3)); have Q3 := trivial)
    | ((clear Q3); (with_reducible refine gate_callee (f := 8) rfl ?_); refine goesL_ (some _) rfl rfl Try.func8 (by kernel_rfl) rfl #[.agg #[.string b_0, .slice Ab_1 b_1.length cb_1, .slice Ab_2 b_2.length cb_2], .int .i64 za] rfl (by (try simp only [List.map_toArray, List.map_cons, List.map_nil]); first | done | rfl) ?_; (with_reducible refine (laws_szTala.calls b_0 _ _ b_1 _ _ b_2 za zb _ ?s0 ?t0 ?s1 ?t1 Zb.out).mono ?_); (case s0 => exact HS.out.C HRb_1.out); (case t0 => exact HCb_1.out); (case s1 => exact HS.out.C HRb_2.out); (case t1 => exact HCb_2.out); rintro e w4 ⟨rfl, hb_⟩; refine ⟨_, rfl, ?_⟩; have hb := below_of hb_; clear hb_; have hs_ := Aside0.mk (HS.out.go hb); have M_w4 := Aside0.mk (Bl.size (w := w3) hb); clear HS; have HS := hs_; clear hs_; clear hb; clear haa_0 haa_1 haa_2 hfaa hab_0 hab_1 hab_2 hfab; obtain ⟨haa_0, haa_1, haa_2, hfaa⟩ := boxed3 BKaa.out (HS.out.at_ (W := w4)); obtain ⟨hab_0, hab_1, hab_2, hfab⟩ := boxed3 BKab.out (HS.out.at_ (W := w4)); have Q4 := trivial))
  clear Q4
  refine start_ (n := 12) (S := fun w' => w'.cell? ⟨gaa, 0, none⟩ = some (.string a_0) ∧ w'.cell? ⟨gaa, 1, none⟩ = some (.slice Aa_1 a_1.length ca_1) ∧ w'.cell? ⟨gaa, 2, none⟩ = some (.slice Aa_2 a_2.length ca_2) ∧ w'.cell? ⟨gab, 0, none⟩ = some (.string b_0) ∧ w'.cell? ⟨gab, 1, none⟩ = some (.slice Ab_1 b_1.length cb_1) ∧ w'.cell? ⟨gab, 2, none⟩ = some (.slice Ab_2 b_2.length cb_2)) (ds := []) #[false, false, false, false, false, false, false, false, false, false, false, false] (by kernel_rfl) rfl rfl ⟨haa_0, haa_1, haa_2, hab_0, hab_1, hab_2⟩ (fun hHeld => ?_)
  refine take_ (i := 0) (N := some 33) (v := ?_) (a' := ?_) #[true, false, false, false, false, false, false, false, false, false, false, false] rfl rfl (by kernel_rfl) (fun _ _ _ h => h) (Or.inl ⟨by rfl, ?_⟩) hHeld ?_ ?_
  rotate_left
  · rintro w' ⟨s0, s1, s2, s3, s4, s5⟩; go_simp; with_reducible rfl
  rotate_left
  · go_simp; rfl
  refine take_ (i := 2) (N := some 35) (v := ?_) (a' := ?_) #[true, false, true, false, false, false, false, false, false, false, false, false] rfl rfl (by kernel_rfl) (fun _ _ _ h => h) (Or.inl ⟨by rfl, ?_⟩) hHeld ?_ ?_
  rotate_left
  · rintro w' ⟨s0, s1, s2, s3, s4, s5⟩; go_simp; with_reducible rfl
  rotate_left
  · go_simp; rfl
  refine pure_ (i := 4) (N := some 37) (v := ?_) (a' := ?_) #[true, false, true, false, true, false, false, false, false, false, false, false] rfl rfl (by kernel_rfl) (fun _ _ _ h => h) (Or.inl ⟨by rfl, ?_⟩) ?_ ?_
  rotate_left
  · intro w'; go_simp; with_reducible rfl
  rotate_left
  · go_simp; rfl
  refine join_ (σ := Value × Value × Value × Value × Nat) 2 #[true, true, true, true, true, true, true, true, true, true, false, false] (fun s_ => [(34, s_.1), (36, s_.2.1), (38, .tuple #[.agg #[.string R0_0, s_.2.2.1, s_.2.2.2.1], .int .i64 R1]), (32, .tuple #[.agg #[.string R0_0, s_.2.2.1, s_.2.2.2.1], .int .i64 R1]), (39, .agg #[.string R0_0, s_.2.2.1, s_.2.2.2.1]), (40, .int .i64 R1), (8, .pointer (some ⟨s_.2.2.2.2, 0, none⟩))]) (fun s_ w' => (w'.cell? ⟨gaa, 0, none⟩ = some (.string a_0) ∧ w'.cell? ⟨gaa, 1, none⟩ = some (.slice Aa_1 a_1.length ca_1) ∧ w'.cell? ⟨gaa, 2, none⟩ = some (.slice Aa_2 a_2.length ca_2) ∧ w'.cell? ⟨gab, 0, none⟩ = some (.string b_0) ∧ w'.cell? ⟨gab, 1, none⟩ = some (.slice Ab_1 b_1.length cb_1) ∧ w'.cell? ⟨gab, 2, none⟩ = some (.slice Ab_2 b_2.length cb_2)) ∧ Below w4.heap.size w4 w' ∧ Kd.R (Kd.int .i64) 2 w' w4.heap.size (fun k_ => (some k_ ≠ (s_.2.2.2.1 : Value).ownBlock) ∧ k_ ≠ s_.2.2.2.2) (s_.2.2.1) R0_1 ∧ Kd.R (Kd.int .i64) 2 w' w4.heap.size (fun k_ => (some k_ ≠ (s_.2.2.1 : Value).ownBlock) ∧ k_ ≠ s_.2.2.2.2) (s_.2.2.2.1) R0_2 ∧ w'.heap[s_.2.2.2.2]? = some (.cells #[.string (⟨#[]⟩ : ByteArray), .slice none 0 0, .slice none 0 0] 26 (0, 0)) ∧ w4.heap.size ≤ s_.2.2.2.2) ?_ ?_
  rotate_left
  · intro hJ
    refine two_ (i := 1) (j := 9) (Ni := some 34) (Nj := some 8) #[true, true, true, false, true, false, false, false, false, false, false, false] #[true, false, true, false, true, false, false, false, false, true, false, false] rfl rfl rfl rfl (by kernel_rfl) (by decide) (by decide) (fun K hK => ?_) (fun K hK => ?_)
    · refine goes_ Try.func10 (by kernel_rfl) rfl #[.agg #[.string a_0, .slice Aa_1 a_1.length ca_1, .slice Aa_2 a_2.length ca_2]] (by rfl) rfl rfl (by (try simp only [List.map_toArray, List.map_cons, List.map_nil]); first | done | rfl) ?_
      clear hHeld
      (with_reducible refine (laws_toTala.calls k a_0 _ _ a_1 _ _ a_2 a_0 a_1 a_2 _ ?s0 ?t0 ?s1 ?t1 Ta.out).mono ?_)
      (case s0 => exact HS.out.C HRa_1.out)
      (case t0 => exact HCa_1.out)
      (case s1 => exact HS.out.C HRa_2.out)
      (case t1 => exact HCa_2.out)
      rintro e p1 ⟨v0, v1, rfl, ho0, ho1, hb⟩
      refine ⟨_, rfl, ?_⟩
      obtain ⟨ATa_a_1, cTa_a_1, ev⟩ := Kd.R_slice ho0
      subst ev
      have HOTa_a_1 := Aside0.mk ho0
      clear ho0
      obtain ⟨ATa_a_2, cTa_a_2, ev⟩ := Kd.R_slice ho1
      subst ev
      have HOTa_a_2 := Aside0.mk ho1
      clear ho1
      have hs_ := Aside0.mk (HS.out.go hb)
      have M_p1 := Aside0.mk (Bl.size (w := w4) hb)
      clear HS hb haa_0 haa_1 haa_2 hab_0 hab_1 hab_2 hfaa hfab
      have HS := hs_
      clear hs_
      obtain ⟨haa_0, haa_1, haa_2, hfaa⟩ := boxed3 BKaa.out (HS.out.at_ (W := p1))
      obtain ⟨hab_0, hab_1, hab_2, hfab⟩ := boxed3 BKab.out (HS.out.at_ (W := p1))
      refine hK.out _ _ ⟨haa_0, haa_1, haa_2, hab_0, hab_1, hab_2⟩ (fun hHeld => ?_)
      clear hK K
      refine norm_ (a' := ?_) ?_ ?_
      rotate_left
      · show Act.put _ (some 34) _ = _; go_simp; rfl
      refine two_ (i := 3) (j := 9) (Ni := some 36) (Nj := some 8) #[true, true, true, true, true, false, false, false, false, false, false, false] #[true, true, true, false, true, false, false, false, false, true, false, false] rfl rfl rfl rfl (by kernel_rfl) (by decide) (by decide) (fun K hK => ?_) (fun K hK => ?_)
      · refine goes_ Try.func10 (by kernel_rfl) rfl #[.agg #[.string b_0, .slice Ab_1 b_1.length cb_1, .slice Ab_2 b_2.length cb_2]] (by rfl) rfl rfl (by (try simp only [List.map_toArray, List.map_cons, List.map_nil]); first | done | rfl) ?_
        clear hHeld
        (with_reducible refine (laws_toTala.calls k b_0 _ _ b_1 _ _ b_2 b_0 b_1 b_2 _ ?s0 ?t0 ?s1 ?t1 Tb.out).mono ?_)
        (case s0 => exact HS.out.C HRb_1.out)
        (case t0 => exact HCb_1.out)
        (case s1 => exact HS.out.C HRb_2.out)
        (case t1 => exact HCb_2.out)
        rintro e p2 ⟨v0, v1, rfl, ho0, ho1, hb⟩
        refine ⟨_, rfl, ?_⟩
        obtain ⟨ATb_b_1, cTb_b_1, ev⟩ := Kd.R_slice ho0
        subst ev
        have HOTb_b_1 := Aside0.mk ho0
        clear ho0
        obtain ⟨ATb_b_2, cTb_b_2, ev⟩ := Kd.R_slice ho1
        subst ev
        have HOTb_b_2 := Aside0.mk ho1
        clear ho1
        have hs_ := Aside0.mk (HS.out.go hb)
        have M_p2 := Aside0.mk (Bl.size (w := p1) hb)
        clear HS hb haa_0 haa_1 haa_2 hab_0 hab_1 hab_2 hfaa hfab
        have HS := hs_
        clear hs_
        obtain ⟨haa_0, haa_1, haa_2, hfaa⟩ := boxed3 BKaa.out (HS.out.at_ (W := p2))
        obtain ⟨hab_0, hab_1, hab_2, hfab⟩ := boxed3 BKab.out (HS.out.at_ (W := p2))
        refine hK.out _ _ ⟨haa_0, haa_1, haa_2, hab_0, hab_1, hab_2⟩ (fun hHeld => ?_)
        clear hK K
        refine norm_ (a' := ?_) ?_ ?_
        rotate_left
        · show Act.put _ (some 36) _ = _; go_simp; rfl
        refine two_ (i := 5) (j := 9) (Ni := some 38) (Nj := some 8) #[true, true, true, true, true, true, false, false, false, false, false, false] #[true, true, true, true, true, false, false, false, false, true, false, false] rfl rfl rfl rfl (by kernel_rfl) (by decide) (by decide) (fun K hK => ?_) (fun K hK => ?_)
        · refine goes_ Try.func9 (by kernel_rfl) rfl #[.agg #[.string a_0, .slice ATa_a_1 a_1.length cTa_a_1, .slice ATa_a_2 a_2.length cTa_a_2], .agg #[.string b_0, .slice ATb_b_1 b_1.length cTb_b_1, .slice ATb_b_2 b_2.length cTb_b_2], .string n] (by rfl) rfl rfl (by (try simp only [List.map_toArray, List.map_cons, List.map_nil]); first | done | rfl) ?_
          clear hHeld
          (with_reducible refine (spec_JoinTalas.calls k a_0 _ _ a_1 _ _ a_2 b_0 _ _ b_1 _ _ b_2 n R0_0 R0_1 R0_2 R1 _ ?s0 ?t0 ?s1 ?t1 ?s2 ?t2 ?s3 ?t3 P.out).mono ?_)
          (case s0 => exact HS.out.C (RC HOTa_a_1.out))
          (case t0 => exact RL HOTa_a_1.out)
          (case s1 => exact HS.out.C (RC HOTa_a_2.out))
          (case t1 => exact RL HOTa_a_2.out)
          (case s2 => exact HS.out.C (RC HOTb_b_1.out))
          (case t2 => exact RL HOTb_b_1.out)
          (case s3 => exact HS.out.C (RC HOTb_b_2.out))
          (case t3 => exact RL HOTb_b_2.out)
          rintro e p3 ⟨y0, y1, rfl, ho0, ho1, hb⟩
          refine ⟨_, rfl, ?_⟩
          have HOy0 := Aside0.mk ho0
          clear ho0
          have HOy1 := Aside0.mk ho1
          clear ho1
          have hs_ := Aside0.mk (HS.out.go hb)
          have M_p3 := Aside0.mk (Bl.size (w := p2) hb)
          clear HS hb haa_0 haa_1 haa_2 hab_0 hab_1 hab_2 hfaa hfab
          have HS := hs_
          clear hs_
          obtain ⟨haa_0, haa_1, haa_2, hfaa⟩ := boxed3 BKaa.out (HS.out.at_ (W := p3))
          obtain ⟨hab_0, hab_1, hab_2, hfab⟩ := boxed3 BKab.out (HS.out.at_ (W := p3))
          refine hK.out _ _ ⟨haa_0, haa_1, haa_2, hab_0, hab_1, hab_2⟩ (fun hHeld => ?_)
          clear hK K
          refine norm_ (a' := ?_) ?_ ?_
          rotate_left
          · show Act.put _ (some 38) _ = _; go_simp; rfl
          refine pure_ (i := 6) (N := some 32) (v := ?_) (a' := ?_) #[true, true, true, true, true, true, true, false, false, false, false, false] rfl rfl (by kernel_rfl) (fun _ _ _ h => h) (Or.inl ⟨by rfl, ?_⟩) ?_ ?_
          rotate_left
          · intro w'; go_simp; with_reducible rfl
          rotate_left
          · go_simp; rfl
          refine pure_ (i := 7) (N := some 39) (v := ?_) (a' := ?_) #[true, true, true, true, true, true, true, true, false, false, false, false] rfl rfl (by kernel_rfl) (fun _ _ _ h => h) (Or.inl ⟨by rfl, ?_⟩) ?_ ?_
          rotate_left
          · intro w'; go_simp; with_reducible rfl
          rotate_left
          · go_simp; rfl
          refine pure_ (i := 8) (N := some 40) (v := ?_) (a' := ?_) #[true, true, true, true, true, true, true, true, true, false, false, false] rfl rfl (by kernel_rfl) (fun _ _ _ h => h) (Or.inl ⟨by rfl, ?_⟩) ?_ ?_
          rotate_left
          · intro w'; go_simp; with_reducible rfl
          rotate_left
          · go_simp; rfl
          refine one_ (i := 9) (N := some 8) #[true, true, true, true, true, true, true, true, true, true, false, false] rfl rfl (by kernel_rfl) (by decide) (fun K hK => ?_)
          refine box_step ?hg (N := 8) ?hd (cs := #[.string (⟨#[]⟩ : ByteArray), .slice none 0 0, .slice none 0 0]) (t := 26) ?hr ?_; (case hd => rfl); (case hg => rfl); (case hr => first | (go_simp; done) | (go_simp; rfl))
          intro gw0 hg p4 hbox hb
          have BKw0 := Aside0.mk hbox
          have Glo := Aside0.mk (show p3.heap.size ≤ gw0 by rw [hg]; exact below_size (Bl.out (w := p3)))
          have Ghi := Aside0.mk (blk_lt hbox)
          clear hg hbox hHeld
          have hs_ := Aside0.mk (HS.out.go hb)
          have M_p4 := Aside0.mk (Bl.size (w := p3) hb)
          clear HS hb haa_0 haa_1 haa_2 hab_0 hab_1 hab_2 hfaa hfab
          have HS := hs_
          clear hs_
          obtain ⟨haa_0, haa_1, haa_2, hfaa⟩ := boxed3 BKaa.out (HS.out.at_ (W := p4))
          obtain ⟨hab_0, hab_1, hab_2, hfab⟩ := boxed3 BKab.out (HS.out.at_ (W := p4))
          refine hK.out _ _ ⟨haa_0, haa_1, haa_2, hab_0, hab_1, hab_2⟩ (fun hHeld => ?_)
          clear hK K
          refine norm_ (a' := ?_) ?_ ?_
          rotate_left
          · show Act.put _ (some 8) _ = _; go_simp; rfl
          exact norm_ (by first | (simp only [putAll, Act.put, List.setIfInBounds_toArray, List.set_cons_zero, List.set_cons_succ]; done) | (simp only [putAll, Act.put, List.setIfInBounds_toArray, List.set_cons_zero, List.set_cons_succ]; rfl)) (hJ (.agg #[.string a_0, .slice ATa_a_1 a_1.length cTa_a_1, .slice ATa_a_2 a_2.length cTa_a_2], .agg #[.string b_0, .slice ATb_b_1 b_1.length cTb_b_1, .slice ATb_b_2 b_2.length cTb_b_2], y0, y1, gw0) _ ⟨hHeld, (HS.out.at_ (W := p4) (v := w4)), (Kd.R_lower (Kd.R_mono (range_R HOy0.out (HS.out.at_ (W := p4) (v := p3)) p2.heap.size (Nat.le_refl _)) (fun k_ h_ => ⟨h_.2, by show k_ ≠ gw0; have h2_ := h_.1; have := Glo.out; have := Ghi.out; have := M_p1.out; have := M_p2.out; have := M_p3.out; have := M_p4.out; clear hHeld; omega⟩)) (by have := M_p1.out; have := M_p2.out; have := M_p3.out; have := M_p4.out; clear hHeld; omega)), (Kd.R_lower (Kd.R_mono (range_R HOy1.out (HS.out.at_ (W := p4) (v := p3)) p2.heap.size (Nat.le_refl _)) (fun k_ h_ => ⟨h_.2, by show k_ ≠ gw0; have h2_ := h_.1; have := Glo.out; have := Ghi.out; have := M_p1.out; have := M_p2.out; have := M_p3.out; have := M_p4.out; clear hHeld; omega⟩)) (by have := M_p1.out; have := M_p2.out; have := M_p3.out; have := M_p4.out; clear hHeld; omega)), BKw0.out, (by show w4.heap.size ≤ gw0; have := Glo.out; have := M_p1.out; have := M_p2.out; have := M_p3.out; have := M_p4.out; clear hHeld; omega)⟩)
        · refine box_step ?hg (N := 8) ?hd (cs := #[.string (⟨#[]⟩ : ByteArray), .slice none 0 0, .slice none 0 0]) (t := 26) ?hr ?_; (case hd => rfl); (case hg => rfl); (case hr => first | (go_simp; done) | (go_simp; rfl))
          intro gw0 hg p3 hbox hb
          have BKw0 := Aside0.mk hbox
          have Glo := Aside0.mk (show p2.heap.size ≤ gw0 by rw [hg]; exact below_size (Bl.out (w := p2)))
          have Ghi := Aside0.mk (blk_lt hbox)
          clear hg hbox hHeld
          have hs_ := Aside0.mk (HS.out.go hb)
          have M_p3 := Aside0.mk (Bl.size (w := p2) hb)
          clear HS hb haa_0 haa_1 haa_2 hab_0 hab_1 hab_2 hfaa hfab
          have HS := hs_
          clear hs_
          obtain ⟨haa_0, haa_1, haa_2, hfaa⟩ := boxed3 BKaa.out (HS.out.at_ (W := p3))
          obtain ⟨hab_0, hab_1, hab_2, hfab⟩ := boxed3 BKab.out (HS.out.at_ (W := p3))
          refine hK.out _ _ ⟨haa_0, haa_1, haa_2, hab_0, hab_1, hab_2⟩ (fun hHeld => ?_)
          clear hK K
          refine norm_ (a' := ?_) ?_ ?_
          rotate_left
          · show Act.put _ (some 8) _ = _; go_simp; rfl
          refine one_ (i := 5) (N := some 38) #[true, true, true, true, true, true, false, false, false, true, false, false] rfl rfl (by kernel_rfl) (by decide) (fun K hK => ?_)
          refine goes_ Try.func9 (by kernel_rfl) rfl #[.agg #[.string a_0, .slice ATa_a_1 a_1.length cTa_a_1, .slice ATa_a_2 a_2.length cTa_a_2], .agg #[.string b_0, .slice ATb_b_1 b_1.length cTb_b_1, .slice ATb_b_2 b_2.length cTb_b_2], .string n] (by rfl) rfl rfl (by (try simp only [List.map_toArray, List.map_cons, List.map_nil]); first | done | rfl) ?_
          clear hHeld
          (with_reducible refine (spec_JoinTalas.calls k a_0 _ _ a_1 _ _ a_2 b_0 _ _ b_1 _ _ b_2 n R0_0 R0_1 R0_2 R1 _ ?s0 ?t0 ?s1 ?t1 ?s2 ?t2 ?s3 ?t3 P.out).mono ?_)
          (case s0 => exact HS.out.C (RC HOTa_a_1.out))
          (case t0 => exact RL HOTa_a_1.out)
          (case s1 => exact HS.out.C (RC HOTa_a_2.out))
          (case t1 => exact RL HOTa_a_2.out)
          (case s2 => exact HS.out.C (RC HOTb_b_1.out))
          (case t2 => exact RL HOTb_b_1.out)
          (case s3 => exact HS.out.C (RC HOTb_b_2.out))
          (case t3 => exact RL HOTb_b_2.out)
          rintro e p4 ⟨y0, y1, rfl, ho0, ho1, hb⟩
          refine ⟨_, rfl, ?_⟩
          have HOy0 := Aside0.mk ho0
          clear ho0
          have HOy1 := Aside0.mk ho1
          clear ho1
          have hs_ := Aside0.mk (HS.out.go hb)
          have M_p4 := Aside0.mk (Bl.size (w := p3) hb)
          have bk_ := Aside0.mk (blk_below BKw0.out hb)
          clear BKw0
          have BKw0 := bk_
          clear bk_
          clear HS hb haa_0 haa_1 haa_2 hab_0 hab_1 hab_2 hfaa hfab
          have HS := hs_
          clear hs_
          obtain ⟨haa_0, haa_1, haa_2, hfaa⟩ := boxed3 BKaa.out (HS.out.at_ (W := p4))
          obtain ⟨hab_0, hab_1, hab_2, hfab⟩ := boxed3 BKab.out (HS.out.at_ (W := p4))
          refine hK.out _ _ ⟨haa_0, haa_1, haa_2, hab_0, hab_1, hab_2⟩ (fun hHeld => ?_)
          clear hK K
          refine norm_ (a' := ?_) ?_ ?_
          rotate_left
          · show Act.put _ (some 38) _ = _; go_simp; rfl
          refine pure_ (i := 6) (N := some 32) (v := ?_) (a' := ?_) #[true, true, true, true, true, true, true, false, false, true, false, false] rfl rfl (by kernel_rfl) (fun _ _ _ h => h) (Or.inl ⟨by rfl, ?_⟩) ?_ ?_
          rotate_left
          · intro w'; go_simp; with_reducible rfl
          rotate_left
          · go_simp; rfl
          refine pure_ (i := 7) (N := some 39) (v := ?_) (a' := ?_) #[true, true, true, true, true, true, true, true, false, true, false, false] rfl rfl (by kernel_rfl) (fun _ _ _ h => h) (Or.inl ⟨by rfl, ?_⟩) ?_ ?_
          rotate_left
          · intro w'; go_simp; with_reducible rfl
          rotate_left
          · go_simp; rfl
          refine pure_ (i := 8) (N := some 40) (v := ?_) (a' := ?_) #[true, true, true, true, true, true, true, true, true, true, false, false] rfl rfl (by kernel_rfl) (fun _ _ _ h => h) (Or.inl ⟨by rfl, ?_⟩) ?_ ?_
          rotate_left
          · intro w'; go_simp; with_reducible rfl
          rotate_left
          · go_simp; rfl
          exact norm_ (by first | (simp only [putAll, Act.put, List.setIfInBounds_toArray, List.set_cons_zero, List.set_cons_succ]; done) | (simp only [putAll, Act.put, List.setIfInBounds_toArray, List.set_cons_zero, List.set_cons_succ]; rfl)) (hJ (.agg #[.string a_0, .slice ATa_a_1 a_1.length cTa_a_1, .slice ATa_a_2 a_2.length cTa_a_2], .agg #[.string b_0, .slice ATb_b_1 b_1.length cTb_b_1, .slice ATb_b_2 b_2.length cTb_b_2], y0, y1, gw0) _ ⟨hHeld, (HS.out.at_ (W := p4) (v := w4)), (Kd.R_lower (Kd.R_mono (range_R HOy0.out (HS.out.at_ (W := p4) (v := p4)) p3.heap.size (Nat.le_refl _)) (fun k_ h_ => ⟨h_.2, by show k_ ≠ gw0; have h2_ := h_.1; have := Glo.out; have := Ghi.out; have := M_p1.out; have := M_p2.out; have := M_p3.out; have := M_p4.out; clear hHeld; omega⟩)) (by have := M_p1.out; have := M_p2.out; have := M_p3.out; have := M_p4.out; clear hHeld; omega)), (Kd.R_lower (Kd.R_mono (range_R HOy1.out (HS.out.at_ (W := p4) (v := p4)) p3.heap.size (Nat.le_refl _)) (fun k_ h_ => ⟨h_.2, by show k_ ≠ gw0; have h2_ := h_.1; have := Glo.out; have := Ghi.out; have := M_p1.out; have := M_p2.out; have := M_p3.out; have := M_p4.out; clear hHeld; omega⟩)) (by have := M_p1.out; have := M_p2.out; have := M_p3.out; have := M_p4.out; clear hHeld; omega)), BKw0.out, (by show w4.heap.size ≤ gw0; have := Glo.out; have := M_p1.out; have := M_p2.out; have := M_p3.out; have := M_p4.out; clear hHeld; omega)⟩)
      · refine box_step ?hg (N := 8) ?hd (cs := #[.string (⟨#[]⟩ : ByteArray), .slice none 0 0, .slice none 0 0]) (t := 26) ?hr ?_; (case hd => rfl); (case hg => rfl); (case hr => first | (go_simp; done) | (go_simp; rfl))
        intro gw0 hg p2 hbox hb
        have BKw0 := Aside0.mk hbox
        have Glo := Aside0.mk (show p1.heap.size ≤ gw0 by rw [hg]; exact below_size (Bl.out (w := p1)))
        have Ghi := Aside0.mk (blk_lt hbox)
        clear hg hbox hHeld
        have hs_ := Aside0.mk (HS.out.go hb)
        have M_p2 := Aside0.mk (Bl.size (w := p1) hb)
        clear HS hb haa_0 haa_1 haa_2 hab_0 hab_1 hab_2 hfaa hfab
        have HS := hs_
        clear hs_
        obtain ⟨haa_0, haa_1, haa_2, hfaa⟩ := boxed3 BKaa.out (HS.out.at_ (W := p2))
        obtain ⟨hab_0, hab_1, hab_2, hfab⟩ := boxed3 BKab.out (HS.out.at_ (W := p2))
        refine hK.out _ _ ⟨haa_0, haa_1, haa_2, hab_0, hab_1, hab_2⟩ (fun hHeld => ?_)
        clear hK K
        refine norm_ (a' := ?_) ?_ ?_
        rotate_left
        · show Act.put _ (some 8) _ = _; go_simp; rfl
        refine one_ (i := 3) (N := some 36) #[true, true, true, true, true, false, false, false, false, true, false, false] rfl rfl (by kernel_rfl) (by decide) (fun K hK => ?_)
        refine goes_ Try.func10 (by kernel_rfl) rfl #[.agg #[.string b_0, .slice Ab_1 b_1.length cb_1, .slice Ab_2 b_2.length cb_2]] (by rfl) rfl rfl (by (try simp only [List.map_toArray, List.map_cons, List.map_nil]); first | done | rfl) ?_
        clear hHeld
        (with_reducible refine (laws_toTala.calls k b_0 _ _ b_1 _ _ b_2 b_0 b_1 b_2 _ ?s0 ?t0 ?s1 ?t1 Tb.out).mono ?_)
        (case s0 => exact HS.out.C HRb_1.out)
        (case t0 => exact HCb_1.out)
        (case s1 => exact HS.out.C HRb_2.out)
        (case t1 => exact HCb_2.out)
        rintro e p3 ⟨v0, v1, rfl, ho0, ho1, hb⟩
        refine ⟨_, rfl, ?_⟩
        obtain ⟨ATb_b_1, cTb_b_1, ev⟩ := Kd.R_slice ho0
        subst ev
        have HOTb_b_1 := Aside0.mk ho0
        clear ho0
        obtain ⟨ATb_b_2, cTb_b_2, ev⟩ := Kd.R_slice ho1
        subst ev
        have HOTb_b_2 := Aside0.mk ho1
        clear ho1
        have hs_ := Aside0.mk (HS.out.go hb)
        have M_p3 := Aside0.mk (Bl.size (w := p2) hb)
        have bk_ := Aside0.mk (blk_below BKw0.out hb)
        clear BKw0
        have BKw0 := bk_
        clear bk_
        clear HS hb haa_0 haa_1 haa_2 hab_0 hab_1 hab_2 hfaa hfab
        have HS := hs_
        clear hs_
        obtain ⟨haa_0, haa_1, haa_2, hfaa⟩ := boxed3 BKaa.out (HS.out.at_ (W := p3))
        obtain ⟨hab_0, hab_1, hab_2, hfab⟩ := boxed3 BKab.out (HS.out.at_ (W := p3))
        refine hK.out _ _ ⟨haa_0, haa_1, haa_2, hab_0, hab_1, hab_2⟩ (fun hHeld => ?_)
        clear hK K
        refine norm_ (a' := ?_) ?_ ?_
        rotate_left
        · show Act.put _ (some 36) _ = _; go_simp; rfl
        refine one_ (i := 5) (N := some 38) #[true, true, true, true, true, true, false, false, false, true, false, false] rfl rfl (by kernel_rfl) (by decide) (fun K hK => ?_)
        refine goes_ Try.func9 (by kernel_rfl) rfl #[.agg #[.string a_0, .slice ATa_a_1 a_1.length cTa_a_1, .slice ATa_a_2 a_2.length cTa_a_2], .agg #[.string b_0, .slice ATb_b_1 b_1.length cTb_b_1, .slice ATb_b_2 b_2.length cTb_b_2], .string n] (by rfl) rfl rfl (by (try simp only [List.map_toArray, List.map_cons, List.map_nil]); first | done | rfl) ?_
        clear hHeld
        (with_reducible refine (spec_JoinTalas.calls k a_0 _ _ a_1 _ _ a_2 b_0 _ _ b_1 _ _ b_2 n R0_0 R0_1 R0_2 R1 _ ?s0 ?t0 ?s1 ?t1 ?s2 ?t2 ?s3 ?t3 P.out).mono ?_)
        (case s0 => exact HS.out.C (RC HOTa_a_1.out))
        (case t0 => exact RL HOTa_a_1.out)
        (case s1 => exact HS.out.C (RC HOTa_a_2.out))
        (case t1 => exact RL HOTa_a_2.out)
        (case s2 => exact HS.out.C (RC HOTb_b_1.out))
        (case t2 => exact RL HOTb_b_1.out)
        (case s3 => exact HS.out.C (RC HOTb_b_2.out))
        (case t3 => exact RL HOTb_b_2.out)
        rintro e p4 ⟨y0, y1, rfl, ho0, ho1, hb⟩
        refine ⟨_, rfl, ?_⟩
        have HOy0 := Aside0.mk ho0
        clear ho0
        have HOy1 := Aside0.mk ho1
        clear ho1
        have hs_ := Aside0.mk (HS.out.go hb)
        have M_p4 := Aside0.mk (Bl.size (w := p3) hb)
        have bk_ := Aside0.mk (blk_below BKw0.out hb)
        clear BKw0
        have BKw0 := bk_
        clear bk_
        clear HS hb haa_0 haa_1 haa_2 hab_0 hab_1 hab_2 hfaa hfab
        have HS := hs_
        clear hs_
        obtain ⟨haa_0, haa_1, haa_2, hfaa⟩ := boxed3 BKaa.out (HS.out.at_ (W := p4))
        obtain ⟨hab_0, hab_1, hab_2, hfab⟩ := boxed3 BKab.out (HS.out.at_ (W := p4))
        refine hK.out _ _ ⟨haa_0, haa_1, haa_2, hab_0, hab_1, hab_2⟩ (fun hHeld => ?_)
        clear hK K
        refine norm_ (a' := ?_) ?_ ?_
        rotate_left
        · show Act.put _ (some 38) _ = _; go_simp; rfl
        refine pure_ (i := 6) (N := some 32) (v := ?_) (a' := ?_) #[true, true, true, true, true, true, true, false, false, true, false, false] rfl rfl (by kernel_rfl) (fun _ _ _ h => h) (Or.inl ⟨by rfl, ?_⟩) ?_ ?_
        rotate_left
        · intro w'; go_simp; with_reducible rfl
        rotate_left
        · go_simp; rfl
        refine pure_ (i := 7) (N := some 39) (v := ?_) (a' := ?_) #[true, true, true, true, true, true, true, true, false, true, false, false] rfl rfl (by kernel_rfl) (fun _ _ _ h => h) (Or.inl ⟨by rfl, ?_⟩) ?_ ?_
        rotate_left
        · intro w'; go_simp; with_reducible rfl
        rotate_left
        · go_simp; rfl
        refine pure_ (i := 8) (N := some 40) (v := ?_) (a' := ?_) #[true, true, true, true, true, true, true, true, true, true, false, false] rfl rfl (by kernel_rfl) (fun _ _ _ h => h) (Or.inl ⟨by rfl, ?_⟩) ?_ ?_
        rotate_left
        · intro w'; go_simp; with_reducible rfl
        rotate_left
        · go_simp; rfl
        exact norm_ (by first | (simp only [putAll, Act.put, List.setIfInBounds_toArray, List.set_cons_zero, List.set_cons_succ]; done) | (simp only [putAll, Act.put, List.setIfInBounds_toArray, List.set_cons_zero, List.set_cons_succ]; rfl)) (hJ (.agg #[.string a_0, .slice ATa_a_1 a_1.length cTa_a_1, .slice ATa_a_2 a_2.length cTa_a_2], .agg #[.string b_0, .slice ATb_b_1 b_1.length cTb_b_1, .slice ATb_b_2 b_2.length cTb_b_2], y0, y1, gw0) _ ⟨hHeld, (HS.out.at_ (W := p4) (v := w4)), (Kd.R_lower (Kd.R_mono (range_R HOy0.out (HS.out.at_ (W := p4) (v := p4)) p3.heap.size (Nat.le_refl _)) (fun k_ h_ => ⟨h_.2, by show k_ ≠ gw0; have h2_ := h_.1; have := Glo.out; have := Ghi.out; have := M_p1.out; have := M_p2.out; have := M_p3.out; have := M_p4.out; clear hHeld; omega⟩)) (by have := M_p1.out; have := M_p2.out; have := M_p3.out; have := M_p4.out; clear hHeld; omega)), (Kd.R_lower (Kd.R_mono (range_R HOy1.out (HS.out.at_ (W := p4) (v := p4)) p3.heap.size (Nat.le_refl _)) (fun k_ h_ => ⟨h_.2, by show k_ ≠ gw0; have h2_ := h_.1; have := Glo.out; have := Ghi.out; have := M_p1.out; have := M_p2.out; have := M_p3.out; have := M_p4.out; clear hHeld; omega⟩)) (by have := M_p1.out; have := M_p2.out; have := M_p3.out; have := M_p4.out; clear hHeld; omega)), BKw0.out, (by show w4.heap.size ≤ gw0; have := Glo.out; have := M_p1.out; have := M_p2.out; have := M_p3.out; have := M_p4.out; clear hHeld; omega)⟩)
    · refine box_step ?hg (N := 8) ?hd (cs := #[.string (⟨#[]⟩ : ByteArray), .slice none 0 0, .slice none 0 0]) (t := 26) ?hr ?_; (case hd => rfl); (case hg => rfl); (case hr => first | (go_simp; done) | (go_simp; rfl))
      intro gw0 hg p1 hbox hb
      have BKw0 := Aside0.mk hbox
      have Glo := Aside0.mk (show w4.heap.size ≤ gw0 by rw [hg]; exact below_size (Bl.out (w := w4)))
      have Ghi := Aside0.mk (blk_lt hbox)
      clear hg hbox hHeld
      have hs_ := Aside0.mk (HS.out.go hb)
      have M_p1 := Aside0.mk (Bl.size (w := w4) hb)
      clear HS hb haa_0 haa_1 haa_2 hab_0 hab_1 hab_2 hfaa hfab
      have HS := hs_
      clear hs_
      obtain ⟨haa_0, haa_1, haa_2, hfaa⟩ := boxed3 BKaa.out (HS.out.at_ (W := p1))
      obtain ⟨hab_0, hab_1, hab_2, hfab⟩ := boxed3 BKab.out (HS.out.at_ (W := p1))
      refine hK.out _ _ ⟨haa_0, haa_1, haa_2, hab_0, hab_1, hab_2⟩ (fun hHeld => ?_)
      clear hK K
      refine norm_ (a' := ?_) ?_ ?_
      rotate_left
      · show Act.put _ (some 8) _ = _; go_simp; rfl
      refine one_ (i := 1) (N := some 34) #[true, true, true, false, true, false, false, false, false, true, false, false] rfl rfl (by kernel_rfl) (by decide) (fun K hK => ?_)
      refine goes_ Try.func10 (by kernel_rfl) rfl #[.agg #[.string a_0, .slice Aa_1 a_1.length ca_1, .slice Aa_2 a_2.length ca_2]] (by rfl) rfl rfl (by (try simp only [List.map_toArray, List.map_cons, List.map_nil]); first | done | rfl) ?_
      clear hHeld
      (with_reducible refine (laws_toTala.calls k a_0 _ _ a_1 _ _ a_2 a_0 a_1 a_2 _ ?s0 ?t0 ?s1 ?t1 Ta.out).mono ?_)
      (case s0 => exact HS.out.C HRa_1.out)
      (case t0 => exact HCa_1.out)
      (case s1 => exact HS.out.C HRa_2.out)
      (case t1 => exact HCa_2.out)
      rintro e p2 ⟨v0, v1, rfl, ho0, ho1, hb⟩
      refine ⟨_, rfl, ?_⟩
      obtain ⟨ATa_a_1, cTa_a_1, ev⟩ := Kd.R_slice ho0
      subst ev
      have HOTa_a_1 := Aside0.mk ho0
      clear ho0
      obtain ⟨ATa_a_2, cTa_a_2, ev⟩ := Kd.R_slice ho1
      subst ev
      have HOTa_a_2 := Aside0.mk ho1
      clear ho1
      have hs_ := Aside0.mk (HS.out.go hb)
      have M_p2 := Aside0.mk (Bl.size (w := p1) hb)
      have bk_ := Aside0.mk (blk_below BKw0.out hb)
      clear BKw0
      have BKw0 := bk_
      clear bk_
      clear HS hb haa_0 haa_1 haa_2 hab_0 hab_1 hab_2 hfaa hfab
      have HS := hs_
      clear hs_
      obtain ⟨haa_0, haa_1, haa_2, hfaa⟩ := boxed3 BKaa.out (HS.out.at_ (W := p2))
      obtain ⟨hab_0, hab_1, hab_2, hfab⟩ := boxed3 BKab.out (HS.out.at_ (W := p2))
      refine hK.out _ _ ⟨haa_0, haa_1, haa_2, hab_0, hab_1, hab_2⟩ (fun hHeld => ?_)
      clear hK K
      refine norm_ (a' := ?_) ?_ ?_
      rotate_left
      · show Act.put _ (some 34) _ = _; go_simp; rfl
      refine one_ (i := 3) (N := some 36) #[true, true, true, true, true, false, false, false, false, true, false, false] rfl rfl (by kernel_rfl) (by decide) (fun K hK => ?_)
      refine goes_ Try.func10 (by kernel_rfl) rfl #[.agg #[.string b_0, .slice Ab_1 b_1.length cb_1, .slice Ab_2 b_2.length cb_2]] (by rfl) rfl rfl (by (try simp only [List.map_toArray, List.map_cons, List.map_nil]); first | done | rfl) ?_
      clear hHeld
      (with_reducible refine (laws_toTala.calls k b_0 _ _ b_1 _ _ b_2 b_0 b_1 b_2 _ ?s0 ?t0 ?s1 ?t1 Tb.out).mono ?_)
      (case s0 => exact HS.out.C HRb_1.out)
      (case t0 => exact HCb_1.out)
      (case s1 => exact HS.out.C HRb_2.out)
      (case t1 => exact HCb_2.out)
      rintro e p3 ⟨v0, v1, rfl, ho0, ho1, hb⟩
      refine ⟨_, rfl, ?_⟩
      obtain ⟨ATb_b_1, cTb_b_1, ev⟩ := Kd.R_slice ho0
      subst ev
      have HOTb_b_1 := Aside0.mk ho0
      clear ho0
      obtain ⟨ATb_b_2, cTb_b_2, ev⟩ := Kd.R_slice ho1
      subst ev
      have HOTb_b_2 := Aside0.mk ho1
      clear ho1
      have hs_ := Aside0.mk (HS.out.go hb)
      have M_p3 := Aside0.mk (Bl.size (w := p2) hb)
      have bk_ := Aside0.mk (blk_below BKw0.out hb)
      clear BKw0
      have BKw0 := bk_
      clear bk_
      clear HS hb haa_0 haa_1 haa_2 hab_0 hab_1 hab_2 hfaa hfab
      have HS := hs_
      clear hs_
      obtain ⟨haa_0, haa_1, haa_2, hfaa⟩ := boxed3 BKaa.out (HS.out.at_ (W := p3))
      obtain ⟨hab_0, hab_1, hab_2, hfab⟩ := boxed3 BKab.out (HS.out.at_ (W := p3))
      refine hK.out _ _ ⟨haa_0, haa_1, haa_2, hab_0, hab_1, hab_2⟩ (fun hHeld => ?_)
      clear hK K
      refine norm_ (a' := ?_) ?_ ?_
      rotate_left
      · show Act.put _ (some 36) _ = _; go_simp; rfl
      refine one_ (i := 5) (N := some 38) #[true, true, true, true, true, true, false, false, false, true, false, false] rfl rfl (by kernel_rfl) (by decide) (fun K hK => ?_)
      refine goes_ Try.func9 (by kernel_rfl) rfl #[.agg #[.string a_0, .slice ATa_a_1 a_1.length cTa_a_1, .slice ATa_a_2 a_2.length cTa_a_2], .agg #[.string b_0, .slice ATb_b_1 b_1.length cTb_b_1, .slice ATb_b_2 b_2.length cTb_b_2], .string n] (by rfl) rfl rfl (by (try simp only [List.map_toArray, List.map_cons, List.map_nil]); first | done | rfl) ?_
      clear hHeld
      (with_reducible refine (spec_JoinTalas.calls k a_0 _ _ a_1 _ _ a_2 b_0 _ _ b_1 _ _ b_2 n R0_0 R0_1 R0_2 R1 _ ?s0 ?t0 ?s1 ?t1 ?s2 ?t2 ?s3 ?t3 P.out).mono ?_)
      (case s0 => exact HS.out.C (RC HOTa_a_1.out))
      (case t0 => exact RL HOTa_a_1.out)
      (case s1 => exact HS.out.C (RC HOTa_a_2.out))
      (case t1 => exact RL HOTa_a_2.out)
      (case s2 => exact HS.out.C (RC HOTb_b_1.out))
      (case t2 => exact RL HOTb_b_1.out)
      (case s3 => exact HS.out.C (RC HOTb_b_2.out))
      (case t3 => exact RL HOTb_b_2.out)
      rintro e p4 ⟨y0, y1, rfl, ho0, ho1, hb⟩
      refine ⟨_, rfl, ?_⟩
      have HOy0 := Aside0.mk ho0
      clear ho0
      have HOy1 := Aside0.mk ho1
      clear ho1
      have hs_ := Aside0.mk (HS.out.go hb)
      have M_p4 := Aside0.mk (Bl.size (w := p3) hb)
      have bk_ := Aside0.mk (blk_below BKw0.out hb)
      clear BKw0
      have BKw0 := bk_
      clear bk_
      clear HS hb haa_0 haa_1 haa_2 hab_0 hab_1 hab_2 hfaa hfab
      have HS := hs_
      clear hs_
      obtain ⟨haa_0, haa_1, haa_2, hfaa⟩ := boxed3 BKaa.out (HS.out.at_ (W := p4))
      obtain ⟨hab_0, hab_1, hab_2, hfab⟩ := boxed3 BKab.out (HS.out.at_ (W := p4))
      refine hK.out _ _ ⟨haa_0, haa_1, haa_2, hab_0, hab_1, hab_2⟩ (fun hHeld => ?_)
      clear hK K
      refine norm_ (a' := ?_) ?_ ?_
      rotate_left
      · show Act.put _ (some 38) _ = _; go_simp; rfl
      refine pure_ (i := 6) (N := some 32) (v := ?_) (a' := ?_) #[true, true, true, true, true, true, true, false, false, true, false, false] rfl rfl (by kernel_rfl) (fun _ _ _ h => h) (Or.inl ⟨by rfl, ?_⟩) ?_ ?_
      rotate_left
      · intro w'; go_simp; with_reducible rfl
      rotate_left
      · go_simp; rfl
      refine pure_ (i := 7) (N := some 39) (v := ?_) (a' := ?_) #[true, true, true, true, true, true, true, true, false, true, false, false] rfl rfl (by kernel_rfl) (fun _ _ _ h => h) (Or.inl ⟨by rfl, ?_⟩) ?_ ?_
      rotate_left
      · intro w'; go_simp; with_reducible rfl
      rotate_left
      · go_simp; rfl
      refine pure_ (i := 8) (N := some 40) (v := ?_) (a' := ?_) #[true, true, true, true, true, true, true, true, true, true, false, false] rfl rfl (by kernel_rfl) (fun _ _ _ h => h) (Or.inl ⟨by rfl, ?_⟩) ?_ ?_
      rotate_left
      · intro w'; go_simp; with_reducible rfl
      rotate_left
      · go_simp; rfl
      exact norm_ (by first | (simp only [putAll, Act.put, List.setIfInBounds_toArray, List.set_cons_zero, List.set_cons_succ]; done) | (simp only [putAll, Act.put, List.setIfInBounds_toArray, List.set_cons_zero, List.set_cons_succ]; rfl)) (hJ (.agg #[.string a_0, .slice ATa_a_1 a_1.length cTa_a_1, .slice ATa_a_2 a_2.length cTa_a_2], .agg #[.string b_0, .slice ATb_b_1 b_1.length cTb_b_1, .slice ATb_b_2 b_2.length cTb_b_2], y0, y1, gw0) _ ⟨hHeld, (HS.out.at_ (W := p4) (v := w4)), (Kd.R_lower (Kd.R_mono (range_R HOy0.out (HS.out.at_ (W := p4) (v := p4)) p3.heap.size (Nat.le_refl _)) (fun k_ h_ => ⟨h_.2, by show k_ ≠ gw0; have h2_ := h_.1; have := Glo.out; have := Ghi.out; have := M_p1.out; have := M_p2.out; have := M_p3.out; have := M_p4.out; clear hHeld; omega⟩)) (by have := M_p1.out; have := M_p2.out; have := M_p3.out; have := M_p4.out; clear hHeld; omega)), (Kd.R_lower (Kd.R_mono (range_R HOy1.out (HS.out.at_ (W := p4) (v := p4)) p3.heap.size (Nat.le_refl _)) (fun k_ h_ => ⟨h_.2, by show k_ ≠ gw0; have h2_ := h_.1; have := Glo.out; have := Ghi.out; have := M_p1.out; have := M_p2.out; have := M_p3.out; have := M_p4.out; clear hHeld; omega⟩)) (by have := M_p1.out; have := M_p2.out; have := M_p3.out; have := M_p4.out; clear hHeld; omega)), BKw0.out, (by show w4.heap.size ≤ gw0; have := Glo.out; have := M_p1.out; have := M_p2.out; have := M_p3.out; have := M_p4.out; clear hHeld; omega)⟩)
  rintro ⟨t0, t1, y0, y1, gw0⟩ W_ ⟨hHeld, hb, ho0, ho1, hbk, hg⟩
  (try dsimp only at hb ho0 ho1 hbk hg)
  refine norm_ (a' := ?_) ?_ ?_
  rotate_left
  · simp only [putAll, Act.put, List.setIfInBounds_toArray, List.set_cons_zero, List.set_cons_succ]; rfl
  obtain ⟨AW0_1, cW0_1, ev⟩ := Kd.R_slice ho0
  subst ev
  obtain ⟨AW0_2, cW0_2, ev⟩ := Kd.R_slice ho1
  subst ev
  obtain ⟨x0_, x1_, x2_, xf_⟩ := boxed3 hbk (Below.refl _ _)
  have xf0_ := xf_ 0
  have xf1_ := xf_ 1
  have xf2_ := xf_ 2
  refine one_ (i := 10) (N := none) #[true, true, true, true, true, true, true, true, true, true, true, false] rfl rfl (by kernel_rfl) (by decide) (fun K hK => ?_)
  refine skip_ (w1 := ?_) (by rfl) rfl ?_ ?_
  rotate_left
  · go_simp; rfl
  clear x0_ x1_ x2_ xf_ xf0_ xf1_ xf2_
  have hb2 : Below w4.heap.size w4 (((W_.setCell ⟨gw0, 0, none⟩ (.string R0_0)).setCell ⟨gw0, 1, none⟩ (.slice AW0_1 R0_1.length cW0_1)).setCell ⟨gw0, 2, none⟩ (.slice AW0_2 R0_2.length cW0_2)) := (below_set (below_set (below_set hb hg) hg) hg)
  have nbk := (blk_put (blk_put (blk_put hbk 0 (.string R0_0) rfl) 1 (.slice AW0_1 R0_1.length cW0_1) rfl) 2 (.slice AW0_2 R0_2.length cW0_2) rfl)
  have no0 := (Kd.R_far (p := ⟨gw0, 2, none⟩) (Kd.R_far (p := ⟨gw0, 1, none⟩) (Kd.R_far (p := ⟨gw0, 0, none⟩) ho0 (fun _ h_ => h_.2) (.string R0_0)) (fun _ h_ => h_.2) (.slice AW0_1 R0_1.length cW0_1)) (fun _ h_ => h_.2) (.slice AW0_2 R0_2.length cW0_2))
  have no1 := (Kd.R_far (p := ⟨gw0, 2, none⟩) (Kd.R_far (p := ⟨gw0, 1, none⟩) (Kd.R_far (p := ⟨gw0, 0, none⟩) ho1 (fun _ h_ => h_.2) (.string R0_0)) (fun _ h_ => h_.2) (.slice AW0_1 R0_1.length cW0_1)) (fun _ h_ => h_.2) (.slice AW0_2 R0_2.length cW0_2))
  clear hb hbk ho0 ho1
  generalize (((W_.setCell ⟨gw0, 0, none⟩ (.string R0_0)).setCell ⟨gw0, 1, none⟩ (.slice AW0_1 R0_1.length cW0_1)).setCell ⟨gw0, 2, none⟩ (.slice AW0_2 R0_2.length cW0_2)) = w5 at hb2 nbk no0 no1 ⊢
  have hb := hb2
  clear hb2
  have HOW0_1 := Aside0.mk no0
  clear no0
  have HOW0_2 := Aside0.mk no1
  clear no1
  have BKw0 := Aside0.mk nbk
  have Gw0 := Aside0.mk (⟨hg, blk_lt nbk⟩ : w4.heap.size ≤ gw0 ∧ gw0 < w5.heap.size)
  clear nbk hg
  have hs_ := Aside0.mk (HS.out.go hb)
  have M_w5 := Aside0.mk (Bl.size (w := w4) hb)
  clear HS
  have HS := hs_
  clear hs_
  clear hb
  clear haa_0 haa_1 haa_2 hfaa hab_0 hab_1 hab_2 hfab
  obtain ⟨haa_0, haa_1, haa_2, hfaa⟩ := boxed3 BKaa.out (HS.out.at_ (W := w5))
  obtain ⟨hab_0, hab_1, hab_2, hfab⟩ := boxed3 BKab.out (HS.out.at_ (W := w5))
  obtain ⟨hw0_0, hw0_1, hw0_2, hfw0⟩ := boxed3 BKw0.out (HS.out.at_ (W := w5))
  refine hK.out _ _ ⟨haa_0, haa_1, haa_2, hab_0, hab_1, hab_2⟩ (fun hHeld => ?_)
  clear hK K
  refine pure_ (i := 11) (N := some 9) (v := ?_) (a' := ?_) #[true, true, true, true, true, true, true, true, true, true, true, true] rfl rfl (by kernel_rfl) (fun _ _ _ h => h) (Or.inl ⟨by rfl, ?_⟩) ?_ ?_
  rotate_left
  · intro w'; go_simp; with_reducible rfl
  rotate_left
  · go_simp; rfl
  refine done_ (by kernel_rfl) ?_
  clear hHeld
  have Q5 := trivial
  go_wp2_with (first
    | ((clear Q5); (with_reducible refine gate_callee (f := 10) rfl ?_); refine goesL_ (some _) rfl rfl Try.func10 (by kernel_rfl) rfl #[.agg #[.string a_0, .slice Aa_1 a_1.length ca_1, .slice Aa_2 a_2.length ca_2]] rfl (by (try simp only [List.map_toArray, List.map_cons, List.map_nil]); first | done | rfl) ?_; (with_reducible refine (laws_toTala.calls k a_0 _ _ a_1 _ _ a_2 a_0 a_1 a_2 _ ?s0 ?t0 ?s1 ?t1 Ta.out).mono ?_); (case s0 => exact HS.out.C HRa_1.out); (case t0 => exact HCa_1.out); (case s1 => exact HS.out.C HRa_2.out); (case t1 => exact HCa_2.out); rintro e w6 ⟨v0, v1, rfl, ho0, ho1, hb⟩; refine ⟨_, rfl, ?_⟩; obtain ⟨AXa_a_1, cXa_a_1, ev⟩ := Kd.R_slice ho0; subst ev; have HOXa_a_1 := Aside0.mk (Kd.R_lower ho0 (below_size (Bl.out (w := w5)))); clear ho0; obtain ⟨AXa_a_2, cXa_a_2, ev⟩ := Kd.R_slice ho1; subst ev; have HOXa_a_2 := Aside0.mk (Kd.R_lower ho1 (below_size (Bl.out (w := w5)))); clear ho1; have hs_ := Aside0.mk (HS.out.go hb); have M_w6 := Aside0.mk (Bl.size (w := w5) hb); clear HS; have HS := hs_; clear hs_; clear hb; clear haa_0 haa_1 haa_2 hfaa hab_0 hab_1 hab_2 hfab hw0_0 hw0_1 hw0_2 hfw0; obtain ⟨haa_0, haa_1, haa_2, hfaa⟩ := boxed3 BKaa.out (HS.out.at_ (W := w6)); obtain ⟨hab_0, hab_1, hab_2, hfab⟩ := boxed3 BKab.out (HS.out.at_ (W := w6)); obtain ⟨hw0_0, hw0_1, hw0_2, hfw0⟩ := boxed3 BKw0.out (HS.out.at_ (W := w6)); have Q6 := trivial)
    | ((clear Q6); (with_reducible refine gate_dst (N := 10) rfl ?_); refine box_event ?hg (N := 10) ?hd (cs := #[.string (⟨#[]⟩ : ByteArray), .slice none 0 0, .slice none 0 0]) (t := 26) ?hr ?_; (case hd => rfl); (case hg => rfl); (case hr => first | (go_simp; done) | (go_simp; rfl)); intro gxa hg w7b hbox hb; have BKxa := Aside0.mk hbox; have Gxa := Aside0.mk (show w6.heap.size ≤ gxa by rw [hg]; exact below_size Bl.out); have HX : Bl w6 w7b := ⟨Bl.go hb⟩; clear hg; clear haa_0 haa_1 haa_2 hfaa hab_0 hab_1 hab_2 hfab hw0_0 hw0_1 hw0_2 hfw0; obtain ⟨hxa_0, hxa_1, hxa_2, hfxa⟩ := boxed3 hbox (Below.refl _ _); clear hbox hb; obtain ⟨haa_0, haa_1, haa_2, hfaa⟩ := boxed3 BKaa.out (HS.out.at_ (W := w7b)); have hnaa : gaa ≠ gxa := Nat.ne_of_lt (Nat.lt_of_lt_of_le Gaa.out.2 (Nat.le_trans (Nat.le_trans M_w2.out (Nat.le_trans M_w3.out (Nat.le_trans M_w4.out (Nat.le_trans M_w5.out (M_w6.out))))) Gxa.out)); have hoaa := hnaa.symm; obtain ⟨hab_0, hab_1, hab_2, hfab⟩ := boxed3 BKab.out (HS.out.at_ (W := w7b)); have hnab : gab ≠ gxa := Nat.ne_of_lt (Nat.lt_of_lt_of_le Gab.out.2 (Nat.le_trans (Nat.le_trans M_w3.out (Nat.le_trans M_w4.out (Nat.le_trans M_w5.out (M_w6.out)))) Gxa.out)); have hoab := hnab.symm; obtain ⟨hw0_0, hw0_1, hw0_2, hfw0⟩ := boxed3 BKw0.out (HS.out.at_ (W := w7b)); have hnw0 : gw0 ≠ gxa := Nat.ne_of_lt (Nat.lt_of_lt_of_le Gw0.out.2 (Nat.le_trans (M_w6.out) Gxa.out)); have how0 := hnw0.symm; have Q7 := trivial)
    | ((clear Q7); (with_reducible refine gate_callee (f := 10) rfl ?_); refine goesL_ (some _) rfl rfl Try.func10 (by kernel_rfl) rfl #[.agg #[.string b_0, .slice Ab_1 b_1.length cb_1, .slice Ab_2 b_2.length cb_2]] rfl (by (try simp only [List.map_toArray, List.map_cons, List.map_nil]); first | done | rfl) ?_; refine calls_at w6 gxa #[.string a_0, .slice AXa_a_1 a_1.length cXa_a_1, .slice AXa_a_2 a_2.length cXa_a_2] 26 (by with_reducible repeat (first | exact HX | refine Bl.set ?_ Gxa.out | apply Bl.alloc | apply Bl.drewN | apply Bl.drew)) (by (with_reducible repeat (first | refine blk_drewN ?_ _ | refine blk_drew ?_ | refine blk_alloc ?_ _)); exact (blk_put (blk_put (blk_put BKxa.out 0 (.string a_0) rfl) 1 (.slice AXa_a_1 a_1.length cXa_a_1) rfl) 2 (.slice AXa_a_2 a_2.length cXa_a_2) rfl)) ?_; intro W_ hx_ hbk_; clear BKxa HX; have BKxa := Aside0.mk hbk_; clear hbk_; (with_reducible refine (laws_toTala.calls k b_0 _ _ b_1 _ _ b_2 b_0 b_1 b_2 _ ?s0 ?t0 ?s1 ?t1 Tb.out).mono ?_); (case s0 => exact HS.out.C HRb_1.out); (case t0 => exact HCb_1.out); (case s1 => exact HS.out.C HRb_2.out); (case t1 => exact HCb_2.out); rintro e w8 ⟨v0, v1, rfl, ho0, ho1, hb⟩; refine ⟨_, rfl, ?_⟩; obtain ⟨AXb_b_1, cXb_b_1, ev⟩ := Kd.R_slice ho0; subst ev; have HOXb_b_1 := Aside0.mk (Kd.R_lower ho0 (below_size (Bl.out (w := w6)))); clear ho0; obtain ⟨AXb_b_2, cXb_b_2, ev⟩ := Kd.R_slice ho1; subst ev; have HOXb_b_2 := Aside0.mk (Kd.R_lower ho1 (below_size (Bl.out (w := w6)))); clear ho1; have hs_ := Aside0.mk (HS.out.go hb); have M_w8 := Aside0.mk (Bl.size (w := w6) hb); clear HS; have HS := hs_; clear hs_; have bk_ := Aside0.mk (blk_below BKxa.out hb); have g_ := Aside0.mk (⟨Gxa.out, Nat.lt_of_lt_of_le (blk_lt BKxa.out) (below_size0 hb)⟩ : w6.heap.size ≤ gxa ∧ gxa < w8.heap.size); clear BKxa Gxa hx_; have BKxa := bk_; have Gxa := g_; clear bk_ g_; clear hb; clear hxa_0 hxa_1 hxa_2 hfxa haa_0 haa_1 haa_2 hfaa hnaa hoaa hab_0 hab_1 hab_2 hfab hnab hoab hw0_0 hw0_1 hw0_2 hfw0 hnw0 how0; obtain ⟨haa_0, haa_1, haa_2, hfaa⟩ := boxed3 BKaa.out (HS.out.at_ (W := w8)); obtain ⟨hab_0, hab_1, hab_2, hfab⟩ := boxed3 BKab.out (HS.out.at_ (W := w8)); obtain ⟨hw0_0, hw0_1, hw0_2, hfw0⟩ := boxed3 BKw0.out (HS.out.at_ (W := w8)); obtain ⟨hxa_0, hxa_1, hxa_2, hfxa⟩ := boxed3 BKxa.out (HS.out.at_ (W := w8)); have Q8 := trivial)
    | ((clear Q8); (with_reducible refine gate_dst (N := 11) rfl ?_); refine box_event ?hg (N := 11) ?hd (cs := #[.string (⟨#[]⟩ : ByteArray), .slice none 0 0, .slice none 0 0]) (t := 26) ?hr ?_; (case hd => rfl); (case hg => rfl); (case hr => first | (go_simp; done) | (go_simp; rfl)); intro gxb hg w9b hbox hb; have BKxb := Aside0.mk hbox; have Gxb := Aside0.mk (show w8.heap.size ≤ gxb by rw [hg]; exact below_size Bl.out); have HX : Bl w8 w9b := ⟨Bl.go hb⟩; clear hg; clear haa_0 haa_1 haa_2 hfaa hab_0 hab_1 hab_2 hfab hw0_0 hw0_1 hw0_2 hfw0 hxa_0 hxa_1 hxa_2 hfxa; obtain ⟨hxb_0, hxb_1, hxb_2, hfxb⟩ := boxed3 hbox (Below.refl _ _); clear hbox hb; obtain ⟨haa_0, haa_1, haa_2, hfaa⟩ := boxed3 BKaa.out (HS.out.at_ (W := w9b)); have hnaa : gaa ≠ gxb := Nat.ne_of_lt (Nat.lt_of_lt_of_le Gaa.out.2 (Nat.le_trans (Nat.le_trans M_w2.out (Nat.le_trans M_w3.out (Nat.le_trans M_w4.out (Nat.le_trans M_w5.out (Nat.le_trans M_w6.out (M_w8.out)))))) Gxb.out)); have hoaa := hnaa.symm; obtain ⟨hab_0, hab_1, hab_2, hfab⟩ := boxed3 BKab.out (HS.out.at_ (W := w9b)); have hnab : gab ≠ gxb := Nat.ne_of_lt (Nat.lt_of_lt_of_le Gab.out.2 (Nat.le_trans (Nat.le_trans M_w3.out (Nat.le_trans M_w4.out (Nat.le_trans M_w5.out (Nat.le_trans M_w6.out (M_w8.out))))) Gxb.out)); have hoab := hnab.symm; obtain ⟨hw0_0, hw0_1, hw0_2, hfw0⟩ := boxed3 BKw0.out (HS.out.at_ (W := w9b)); have hnw0 : gw0 ≠ gxb := Nat.ne_of_lt (Nat.lt_of_lt_of_le Gw0.out.2 (Nat.le_trans (Nat.le_trans M_w6.out (M_w8.out)) Gxb.out)); have how0 := hnw0.symm; obtain ⟨hxa_0, hxa_1, hxa_2, hfxa⟩ := boxed3 BKxa.out (HS.out.at_ (W := w9b)); have hnxa : gxa ≠ gxb := Nat.ne_of_lt (Nat.lt_of_lt_of_le Gxa.out.2 (Nat.le_trans (Nat.le_refl _) Gxb.out)); have hoxa := hnxa.symm; have Q9 := trivial)
    | ((clear Q9); (with_reducible refine gate_callee (f := 11) rfl ?_); refine goesL_ (some _) rfl rfl Try.func11 (by kernel_rfl) rfl #[.agg #[.string a_0, .slice AXa_a_1 a_1.length cXa_a_1, .slice AXa_a_2 a_2.length cXa_a_2], .agg #[.string b_0, .slice AXb_b_1 b_1.length cXb_b_1, .slice AXb_b_2 b_2.length cXb_b_2], .string n] rfl (by (try simp only [List.map_toArray, List.map_cons, List.map_nil]); first | done | rfl) ?_; refine calls_at w8 gxb #[.string b_0, .slice AXb_b_1 b_1.length cXb_b_1, .slice AXb_b_2 b_2.length cXb_b_2] 26 (by with_reducible repeat (first | exact HX | refine Bl.set ?_ Gxb.out | apply Bl.alloc | apply Bl.drewN | apply Bl.drew)) (by (with_reducible repeat (first | refine blk_drewN ?_ _ | refine blk_drew ?_ | refine blk_alloc ?_ _)); exact (blk_put (blk_put (blk_put BKxb.out 0 (.string b_0) rfl) 1 (.slice AXb_b_1 b_1.length cXb_b_1) rfl) 2 (.slice AXb_b_2 b_2.length cXb_b_2) rfl)) ?_; intro W_ hx_ hbk_; clear BKxb HX; have BKxb := Aside0.mk hbk_; clear hbk_; (with_reducible refine (impl_JoinTalas.calls k a_0 (fun _ => True) _ _ a_1 (fun _ => True) _ _ a_2 b_0 (fun _ => True) _ _ b_1 (fun _ => True) _ _ b_2 n R0_0 R0_1 R0_2 R1 _ ?s0 ?s1 ?s2 ?s3 I.out).mono ?_); (case s0 => exact Kd.V_mono (Kd.V_below (Kd.R_V HOXa_a_1.out) HS.out.at_) (fun _ _ => trivial)); (case s1 => exact Kd.V_mono (Kd.V_below (Kd.R_V HOXa_a_2.out) HS.out.at_) (fun _ _ => trivial)); (case s2 => exact Kd.V_mono (Kd.V_below (Kd.R_V HOXb_b_1.out) HS.out.at_) (fun _ _ => trivial)); (case s3 => exact Kd.V_mono (Kd.V_below (Kd.R_V HOXb_b_2.out) HS.out.at_) (fun _ _ => trivial)); rintro e w10 ⟨v0_1, v0_2, rfl, ho0_1, ho0_2, hb⟩; refine ⟨_, rfl, ?_⟩; obtain ⟨AG0_1, cG0_1, ev⟩ := Kd.R_slice ho0_1; subst ev; have HOG0_1 := Aside0.mk (Kd.R_lower ho0_1 (below_size (Bl.out (w := w8)))); clear ho0_1; obtain ⟨AG0_2, cG0_2, ev⟩ := Kd.R_slice ho0_2; subst ev; have HOG0_2 := Aside0.mk (Kd.R_lower ho0_2 (below_size (Bl.out (w := w8)))); clear ho0_2; have hs_ := Aside0.mk (HS.out.go hb); have M_w10 := Aside0.mk (Bl.size (w := w8) hb); clear HS; have HS := hs_; clear hs_; have bk_ := Aside0.mk (blk_below BKxb.out hb); have g_ := Aside0.mk (⟨Gxb.out, Nat.lt_of_lt_of_le (blk_lt BKxb.out) (below_size0 hb)⟩ : w8.heap.size ≤ gxb ∧ gxb < w10.heap.size); clear BKxb Gxb hx_; have BKxb := bk_; have Gxb := g_; clear bk_ g_; clear hb; clear hxb_0 hxb_1 hxb_2 hfxb haa_0 haa_1 haa_2 hfaa hnaa hoaa hab_0 hab_1 hab_2 hfab hnab hoab hw0_0 hw0_1 hw0_2 hfw0 hnw0 how0 hxa_0 hxa_1 hxa_2 hfxa hnxa hoxa; obtain ⟨haa_0, haa_1, haa_2, hfaa⟩ := boxed3 BKaa.out (HS.out.at_ (W := w10)); obtain ⟨hab_0, hab_1, hab_2, hfab⟩ := boxed3 BKab.out (HS.out.at_ (W := w10)); obtain ⟨hw0_0, hw0_1, hw0_2, hfw0⟩ := boxed3 BKw0.out (HS.out.at_ (W := w10)); obtain ⟨hxa_0, hxa_1, hxa_2, hfxa⟩ := boxed3 BKxa.out (HS.out.at_ (W := w10)); obtain ⟨hxb_0, hxb_1, hxb_2, hfxb⟩ := boxed3 BKxb.out (HS.out.at_ (W := w10)); have Q10 := trivial)
    | ((clear Q10); (with_reducible refine gate_dst (N := 12) rfl ?_); refine box_event ?hg (N := 12) ?hd (cs := #[.string (⟨#[]⟩ : ByteArray), .slice none 0 0, .slice none 0 0]) (t := 26) ?hr ?_; (case hd => rfl); (case hg => rfl); (case hr => first | (go_simp; done) | (go_simp; rfl)); intro gg0 hg w11b hbox hb; have BKg0 := Aside0.mk hbox; have Gg0 := Aside0.mk (show w10.heap.size ≤ gg0 by rw [hg]; exact below_size Bl.out); have HX : Bl w10 w11b := ⟨Bl.go hb⟩; clear hg; clear haa_0 haa_1 haa_2 hfaa hab_0 hab_1 hab_2 hfab hw0_0 hw0_1 hw0_2 hfw0 hxa_0 hxa_1 hxa_2 hfxa hxb_0 hxb_1 hxb_2 hfxb; obtain ⟨hg0_0, hg0_1, hg0_2, hfg0⟩ := boxed3 hbox (Below.refl _ _); clear hbox hb; obtain ⟨haa_0, haa_1, haa_2, hfaa⟩ := boxed3 BKaa.out (HS.out.at_ (W := w11b)); have hnaa : gaa ≠ gg0 := Nat.ne_of_lt (Nat.lt_of_lt_of_le Gaa.out.2 (Nat.le_trans (Nat.le_trans M_w2.out (Nat.le_trans M_w3.out (Nat.le_trans M_w4.out (Nat.le_trans M_w5.out (Nat.le_trans M_w6.out (Nat.le_trans M_w8.out (M_w10.out))))))) Gg0.out)); have hoaa := hnaa.symm; obtain ⟨hab_0, hab_1, hab_2, hfab⟩ := boxed3 BKab.out (HS.out.at_ (W := w11b)); have hnab : gab ≠ gg0 := Nat.ne_of_lt (Nat.lt_of_lt_of_le Gab.out.2 (Nat.le_trans (Nat.le_trans M_w3.out (Nat.le_trans M_w4.out (Nat.le_trans M_w5.out (Nat.le_trans M_w6.out (Nat.le_trans M_w8.out (M_w10.out)))))) Gg0.out)); have hoab := hnab.symm; obtain ⟨hw0_0, hw0_1, hw0_2, hfw0⟩ := boxed3 BKw0.out (HS.out.at_ (W := w11b)); have hnw0 : gw0 ≠ gg0 := Nat.ne_of_lt (Nat.lt_of_lt_of_le Gw0.out.2 (Nat.le_trans (Nat.le_trans M_w6.out (Nat.le_trans M_w8.out (M_w10.out))) Gg0.out)); have how0 := hnw0.symm; obtain ⟨hxa_0, hxa_1, hxa_2, hfxa⟩ := boxed3 BKxa.out (HS.out.at_ (W := w11b)); have hnxa : gxa ≠ gg0 := Nat.ne_of_lt (Nat.lt_of_lt_of_le Gxa.out.2 (Nat.le_trans (M_w10.out) Gg0.out)); have hoxa := hnxa.symm; obtain ⟨hxb_0, hxb_1, hxb_2, hfxb⟩ := boxed3 BKxb.out (HS.out.at_ (W := w11b)); have hnxb : gxb ≠ gg0 := Nat.ne_of_lt (Nat.lt_of_lt_of_le Gxb.out.2 (Nat.le_trans (Nat.le_refl _) Gg0.out)); have hoxb := hnxb.symm; have Q11 := trivial)
    | ((clear Q11); (with_reducible refine gate_callee (f := 12) rfl ?_); refine goesL_ (some _) rfl rfl Try.func12 (by kernel_rfl) rfl #[.agg #[.string R0_0, .slice AG0_1 R0_1.length cG0_1, .slice AG0_2 R0_2.length cG0_2], .agg #[.string R0_0, .slice AW0_1 R0_1.length cW0_1, .slice AW0_2 R0_2.length cW0_2]] rfl (by (try simp only [List.map_toArray, List.map_cons, List.map_nil]); first | done | rfl) ?_; refine calls_at w10 gg0 #[.string R0_0, .slice AG0_1 R0_1.length cG0_1, .slice AG0_2 R0_2.length cG0_2] 26 (by with_reducible repeat (first | exact HX | refine Bl.set ?_ Gg0.out | apply Bl.alloc | apply Bl.drewN | apply Bl.drew)) (by (with_reducible repeat (first | refine blk_drewN ?_ _ | refine blk_drew ?_ | refine blk_alloc ?_ _)); exact (blk_put (blk_put (blk_put BKg0.out 0 (.string R0_0) rfl) 1 (.slice AG0_1 R0_1.length cG0_1) rfl) 2 (.slice AG0_2 R0_2.length cG0_2) rfl)) ?_; intro W_ hx_ hbk_; clear BKg0 HX; have BKg0 := Aside0.mk hbk_; clear hbk_; (with_reducible refine (laws_eqTala.calls k R0_0 _ _ R0_1 _ _ R0_2 R0_0 _ _ R0_1 _ _ R0_2 true _ ?s0 ?t0 ?s1 ?t1 ?s2 ?t2 ?s3 ?t3 ER0.out).mono ?_); (case s0 => exact HS.out.C (RC HOG0_1.out)); (case t0 => exact RL HOG0_1.out); (case s1 => exact HS.out.C (RC HOG0_2.out)); (case t1 => exact RL HOG0_2.out); (case s2 => exact HS.out.C (RC HOW0_1.out)); (case t2 => exact RL HOW0_1.out); (case s3 => exact HS.out.C (RC HOW0_2.out)); (case t3 => exact RL HOW0_2.out); rintro e w12 ⟨rfl, hb_⟩; refine ⟨_, rfl, ?_⟩; have hb := below_of hb_; clear hb_; have hs_ := Aside0.mk (HS.out.go hb); have M_w12 := Aside0.mk (Bl.size (w := w10) hb); clear HS; have HS := hs_; clear hs_; have bk_ := Aside0.mk (blk_below BKg0.out hb); have g_ := Aside0.mk (⟨Gg0.out, Nat.lt_of_lt_of_le (blk_lt BKg0.out) (below_size0 hb)⟩ : w10.heap.size ≤ gg0 ∧ gg0 < w12.heap.size); clear BKg0 Gg0 hx_; have BKg0 := bk_; have Gg0 := g_; clear bk_ g_; clear hb; clear hg0_0 hg0_1 hg0_2 hfg0 haa_0 haa_1 haa_2 hfaa hnaa hoaa hab_0 hab_1 hab_2 hfab hnab hoab hw0_0 hw0_1 hw0_2 hfw0 hnw0 how0 hxa_0 hxa_1 hxa_2 hfxa hnxa hoxa hxb_0 hxb_1 hxb_2 hfxb hnxb hoxb; obtain ⟨haa_0, haa_1, haa_2, hfaa⟩ := boxed3 BKaa.out (HS.out.at_ (W := w12)); obtain ⟨hab_0, hab_1, hab_2, hfab⟩ := boxed3 BKab.out (HS.out.at_ (W := w12)); obtain ⟨hw0_0, hw0_1, hw0_2, hfw0⟩ := boxed3 BKw0.out (HS.out.at_ (W := w12)); obtain ⟨hxa_0, hxa_1, hxa_2, hfxa⟩ := boxed3 BKxa.out (HS.out.at_ (W := w12)); obtain ⟨hxb_0, hxb_1, hxb_2, hfxb⟩ := boxed3 BKxb.out (HS.out.at_ (W := w12)); obtain ⟨hg0_0, hg0_1, hg0_2, hfg0⟩ := boxed3 BKg0.out (HS.out.at_ (W := w12)); have Q12 := trivial))
  refine start_ (n := 5) (S := fun w' => w'.cell? ⟨gaa, 0, none⟩ = some (.string a_0) ∧ w'.cell? ⟨gaa, 1, none⟩ = some (.slice Aa_1 a_1.length ca_1) ∧ w'.cell? ⟨gaa, 2, none⟩ = some (.slice Aa_2 a_2.length ca_2) ∧ w'.cell? ⟨gab, 0, none⟩ = some (.string b_0) ∧ w'.cell? ⟨gab, 1, none⟩ = some (.slice Ab_1 b_1.length cb_1) ∧ w'.cell? ⟨gab, 2, none⟩ = some (.slice Ab_2 b_2.length cb_2) ∧ w'.cell? ⟨gw0, 0, none⟩ = some (.string R0_0) ∧ w'.cell? ⟨gw0, 1, none⟩ = some (.slice AW0_1 R0_1.length cW0_1) ∧ w'.cell? ⟨gw0, 2, none⟩ = some (.slice AW0_2 R0_2.length cW0_2) ∧ w'.cell? ⟨gxa, 0, none⟩ = some (.string a_0) ∧ w'.cell? ⟨gxa, 1, none⟩ = some (.slice AXa_a_1 a_1.length cXa_a_1) ∧ w'.cell? ⟨gxa, 2, none⟩ = some (.slice AXa_a_2 a_2.length cXa_a_2) ∧ w'.cell? ⟨gxb, 0, none⟩ = some (.string b_0) ∧ w'.cell? ⟨gxb, 1, none⟩ = some (.slice AXb_b_1 b_1.length cXb_b_1) ∧ w'.cell? ⟨gxb, 2, none⟩ = some (.slice AXb_b_2 b_2.length cXb_b_2) ∧ w'.cell? ⟨gg0, 0, none⟩ = some (.string R0_0) ∧ w'.cell? ⟨gg0, 1, none⟩ = some (.slice AG0_1 R0_1.length cG0_1) ∧ w'.cell? ⟨gg0, 2, none⟩ = some (.slice AG0_2 R0_2.length cG0_2)) (ds := []) #[false, false, false, false, false] (by kernel_rfl) rfl rfl ⟨haa_0, haa_1, haa_2, hab_0, hab_1, hab_2, hw0_0, hw0_1, hw0_2, hxa_0, hxa_1, hxa_2, hxb_0, hxb_1, hxb_2, hg0_0, hg0_1, hg0_2⟩ (fun hHeld => ?_)
  refine take_ (i := 0) (N := some 61) (v := ?_) (a' := ?_) #[true, false, false, false, false] rfl rfl (by kernel_rfl) (fun _ _ _ h => h) (Or.inl ⟨by rfl, ?_⟩) hHeld ?_ ?_
  rotate_left
  · rintro w' ⟨s0, s1, s2, s3, s4, s5, s6, s7, s8, s9, s10, s11, s12, s13, s14, s15, s16, s17⟩; go_simp; with_reducible rfl
  rotate_left
  · go_simp; rfl
  refine take_ (i := 1) (N := some 62) (v := ?_) (a' := ?_) #[true, true, false, false, false] rfl rfl (by kernel_rfl) (fun _ _ _ h => h) (Or.inl ⟨by rfl, ?_⟩) hHeld ?_ ?_
  rotate_left
  · rintro w' ⟨s0, s1, s2, s3, s4, s5, s6, s7, s8, s9, s10, s11, s12, s13, s14, s15, s16, s17⟩; go_simp; with_reducible rfl
  rotate_left
  · go_simp; rfl
  refine one_ (i := 2) (N := some 63) #[true, true, true, false, false] rfl rfl (by kernel_rfl) (by decide) (fun K hK => ?_)
  refine goes_ Try.func10 (by kernel_rfl) rfl #[.agg #[.string a_0, .slice Aa_1 a_1.length ca_1, .slice Aa_2 a_2.length ca_2]] (by rfl) rfl rfl (by (try simp only [List.map_toArray, List.map_cons, List.map_nil]); first | done | rfl) ?_
  clear hHeld Q12
  (with_reducible refine (laws_toTala.calls k a_0 _ _ a_1 _ _ a_2 a_0 a_1 a_2 _ ?s0 ?t0 ?s1 ?t1 Ta.out).mono ?_)
  (case s0 => exact HS.out.C HRa_1.out)
  (case t0 => exact HCa_1.out)
  (case s1 => exact HS.out.C HRa_2.out)
  (case t1 => exact HCa_2.out)
  rintro e w13 ⟨v0, v1, rfl, ho0, ho1, hb⟩
  refine ⟨_, rfl, ?_⟩
  obtain ⟨AUa_a_1, cUa_a_1, ev⟩ := Kd.R_slice ho0
  subst ev
  have HOUa_a_1 := Aside0.mk (Kd.R_lower ho0 (below_size (Bl.out (w := w12))))
  clear ho0
  obtain ⟨AUa_a_2, cUa_a_2, ev⟩ := Kd.R_slice ho1
  subst ev
  have HOUa_a_2 := Aside0.mk (Kd.R_lower ho1 (below_size (Bl.out (w := w12))))
  clear ho1
  have hs_ := Aside0.mk (HS.out.go hb)
  have M_w13 := Aside0.mk (Bl.size (w := w12) hb)
  clear HS
  have HS := hs_
  clear hs_
  clear hb
  clear haa_0 haa_1 haa_2 hfaa hab_0 hab_1 hab_2 hfab hw0_0 hw0_1 hw0_2 hfw0 hxa_0 hxa_1 hxa_2 hfxa hxb_0 hxb_1 hxb_2 hfxb hg0_0 hg0_1 hg0_2 hfg0
  obtain ⟨haa_0, haa_1, haa_2, hfaa⟩ := boxed3 BKaa.out (HS.out.at_ (W := w13))
  obtain ⟨hab_0, hab_1, hab_2, hfab⟩ := boxed3 BKab.out (HS.out.at_ (W := w13))
  obtain ⟨hw0_0, hw0_1, hw0_2, hfw0⟩ := boxed3 BKw0.out (HS.out.at_ (W := w13))
  obtain ⟨hxa_0, hxa_1, hxa_2, hfxa⟩ := boxed3 BKxa.out (HS.out.at_ (W := w13))
  obtain ⟨hxb_0, hxb_1, hxb_2, hfxb⟩ := boxed3 BKxb.out (HS.out.at_ (W := w13))
  obtain ⟨hg0_0, hg0_1, hg0_2, hfg0⟩ := boxed3 BKg0.out (HS.out.at_ (W := w13))
  have Q13 := trivial
  refine hK.out _ _ ⟨haa_0, haa_1, haa_2, hab_0, hab_1, hab_2, hw0_0, hw0_1, hw0_2, hxa_0, hxa_1, hxa_2, hxb_0, hxb_1, hxb_2, hg0_0, hg0_1, hg0_2⟩ (fun hHeld => ?_)
  clear hK K
  refine norm_ (a' := ?_) ?_ ?_
  rotate_left
  · show Act.put _ (some 63) _ = _; go_simp; rfl
  refine one_ (i := 3) (N := some 64) #[true, true, true, true, false] rfl rfl (by kernel_rfl) (by decide) (fun K hK => ?_)
  refine goes_ Try.func12 (by kernel_rfl) rfl #[.agg #[.string a_0, .slice AXa_a_1 a_1.length cXa_a_1, .slice AXa_a_2 a_2.length cXa_a_2], .agg #[.string a_0, .slice AUa_a_1 a_1.length cUa_a_1, .slice AUa_a_2 a_2.length cUa_a_2]] (by rfl) rfl rfl (by (try simp only [List.map_toArray, List.map_cons, List.map_nil]); first | done | rfl) ?_
  clear hHeld Q13
  (with_reducible refine (laws_eqTala.calls k a_0 _ _ a_1 _ _ a_2 a_0 _ _ a_1 _ _ a_2 true _ ?s0 ?t0 ?s1 ?t1 ?s2 ?t2 ?s3 ?t3 Ea.out).mono ?_)
  (case s0 => exact HS.out.C (RC HOXa_a_1.out))
  (case t0 => exact RL HOXa_a_1.out)
  (case s1 => exact HS.out.C (RC HOXa_a_2.out))
  (case t1 => exact RL HOXa_a_2.out)
  (case s2 => exact HS.out.C (RC HOUa_a_1.out))
  (case t2 => exact RL HOUa_a_1.out)
  (case s3 => exact HS.out.C (RC HOUa_a_2.out))
  (case t3 => exact RL HOUa_a_2.out)
  rintro e w14 ⟨rfl, hb_⟩
  refine ⟨_, rfl, ?_⟩
  have hb := below_of hb_
  clear hb_
  have hs_ := Aside0.mk (HS.out.go hb)
  have M_w14 := Aside0.mk (Bl.size (w := w13) hb)
  clear HS
  have HS := hs_
  clear hs_
  clear hb
  clear haa_0 haa_1 haa_2 hfaa hab_0 hab_1 hab_2 hfab hw0_0 hw0_1 hw0_2 hfw0 hxa_0 hxa_1 hxa_2 hfxa hxb_0 hxb_1 hxb_2 hfxb hg0_0 hg0_1 hg0_2 hfg0
  obtain ⟨haa_0, haa_1, haa_2, hfaa⟩ := boxed3 BKaa.out (HS.out.at_ (W := w14))
  obtain ⟨hab_0, hab_1, hab_2, hfab⟩ := boxed3 BKab.out (HS.out.at_ (W := w14))
  obtain ⟨hw0_0, hw0_1, hw0_2, hfw0⟩ := boxed3 BKw0.out (HS.out.at_ (W := w14))
  obtain ⟨hxa_0, hxa_1, hxa_2, hfxa⟩ := boxed3 BKxa.out (HS.out.at_ (W := w14))
  obtain ⟨hxb_0, hxb_1, hxb_2, hfxb⟩ := boxed3 BKxb.out (HS.out.at_ (W := w14))
  obtain ⟨hg0_0, hg0_1, hg0_2, hfg0⟩ := boxed3 BKg0.out (HS.out.at_ (W := w14))
  have Q14 := trivial
  refine hK.out _ _ ⟨haa_0, haa_1, haa_2, hab_0, hab_1, hab_2, hw0_0, hw0_1, hw0_2, hxa_0, hxa_1, hxa_2, hxb_0, hxb_1, hxb_2, hg0_0, hg0_1, hg0_2⟩ (fun hHeld => ?_)
  clear hK K
  refine norm_ (a' := ?_) ?_ ?_
  rotate_left
  · show Act.put _ (some 64) _ = _; go_simp; rfl
  refine pure_ (i := 4) (N := some 65) (v := ?_) (a' := ?_) #[true, true, true, true, true] rfl rfl (by kernel_rfl) (fun _ _ _ h => h) (Or.inl ⟨by rfl, ?_⟩) ?_ ?_
  rotate_left
  · intro w'; go_simp; with_reducible rfl
  rotate_left
  · go_simp; rfl
  refine done_ (by kernel_rfl) ?_
  clear hHeld
  go_wp2
  refine start_ (n := 5) (S := fun w' => w'.cell? ⟨gaa, 0, none⟩ = some (.string a_0) ∧ w'.cell? ⟨gaa, 1, none⟩ = some (.slice Aa_1 a_1.length ca_1) ∧ w'.cell? ⟨gaa, 2, none⟩ = some (.slice Aa_2 a_2.length ca_2) ∧ w'.cell? ⟨gab, 0, none⟩ = some (.string b_0) ∧ w'.cell? ⟨gab, 1, none⟩ = some (.slice Ab_1 b_1.length cb_1) ∧ w'.cell? ⟨gab, 2, none⟩ = some (.slice Ab_2 b_2.length cb_2) ∧ w'.cell? ⟨gw0, 0, none⟩ = some (.string R0_0) ∧ w'.cell? ⟨gw0, 1, none⟩ = some (.slice AW0_1 R0_1.length cW0_1) ∧ w'.cell? ⟨gw0, 2, none⟩ = some (.slice AW0_2 R0_2.length cW0_2) ∧ w'.cell? ⟨gxa, 0, none⟩ = some (.string a_0) ∧ w'.cell? ⟨gxa, 1, none⟩ = some (.slice AXa_a_1 a_1.length cXa_a_1) ∧ w'.cell? ⟨gxa, 2, none⟩ = some (.slice AXa_a_2 a_2.length cXa_a_2) ∧ w'.cell? ⟨gxb, 0, none⟩ = some (.string b_0) ∧ w'.cell? ⟨gxb, 1, none⟩ = some (.slice AXb_b_1 b_1.length cXb_b_1) ∧ w'.cell? ⟨gxb, 2, none⟩ = some (.slice AXb_b_2 b_2.length cXb_b_2) ∧ w'.cell? ⟨gg0, 0, none⟩ = some (.string R0_0) ∧ w'.cell? ⟨gg0, 1, none⟩ = some (.slice AG0_1 R0_1.length cG0_1) ∧ w'.cell? ⟨gg0, 2, none⟩ = some (.slice AG0_2 R0_2.length cG0_2)) (ds := []) #[false, false, false, false, false] (by kernel_rfl) rfl rfl ⟨haa_0, haa_1, haa_2, hab_0, hab_1, hab_2, hw0_0, hw0_1, hw0_2, hxa_0, hxa_1, hxa_2, hxb_0, hxb_1, hxb_2, hg0_0, hg0_1, hg0_2⟩ (fun hHeld => ?_)
  refine take_ (i := 0) (N := some 66) (v := ?_) (a' := ?_) #[true, false, false, false, false] rfl rfl (by kernel_rfl) (fun _ _ _ h => h) (Or.inl ⟨by rfl, ?_⟩) hHeld ?_ ?_
  rotate_left
  · rintro w' ⟨s0, s1, s2, s3, s4, s5, s6, s7, s8, s9, s10, s11, s12, s13, s14, s15, s16, s17⟩; go_simp; with_reducible rfl
  rotate_left
  · go_simp; rfl
  refine take_ (i := 1) (N := some 67) (v := ?_) (a' := ?_) #[true, true, false, false, false] rfl rfl (by kernel_rfl) (fun _ _ _ h => h) (Or.inl ⟨by rfl, ?_⟩) hHeld ?_ ?_
  rotate_left
  · rintro w' ⟨s0, s1, s2, s3, s4, s5, s6, s7, s8, s9, s10, s11, s12, s13, s14, s15, s16, s17⟩; go_simp; with_reducible rfl
  rotate_left
  · go_simp; rfl
  refine one_ (i := 2) (N := some 68) #[true, true, true, false, false] rfl rfl (by kernel_rfl) (by decide) (fun K hK => ?_)
  refine goes_ Try.func10 (by kernel_rfl) rfl #[.agg #[.string b_0, .slice Ab_1 b_1.length cb_1, .slice Ab_2 b_2.length cb_2]] (by rfl) rfl rfl (by (try simp only [List.map_toArray, List.map_cons, List.map_nil]); first | done | rfl) ?_
  clear hHeld Q14
  (with_reducible refine (laws_toTala.calls k b_0 _ _ b_1 _ _ b_2 b_0 b_1 b_2 _ ?s0 ?t0 ?s1 ?t1 Tb.out).mono ?_)
  (case s0 => exact HS.out.C HRb_1.out)
  (case t0 => exact HCb_1.out)
  (case s1 => exact HS.out.C HRb_2.out)
  (case t1 => exact HCb_2.out)
  rintro e w15 ⟨v0, v1, rfl, ho0, ho1, hb⟩
  refine ⟨_, rfl, ?_⟩
  obtain ⟨AUb_b_1, cUb_b_1, ev⟩ := Kd.R_slice ho0
  subst ev
  have HOUb_b_1 := Aside0.mk (Kd.R_lower ho0 (below_size (Bl.out (w := w14))))
  clear ho0
  obtain ⟨AUb_b_2, cUb_b_2, ev⟩ := Kd.R_slice ho1
  subst ev
  have HOUb_b_2 := Aside0.mk (Kd.R_lower ho1 (below_size (Bl.out (w := w14))))
  clear ho1
  have hs_ := Aside0.mk (HS.out.go hb)
  have M_w15 := Aside0.mk (Bl.size (w := w14) hb)
  clear HS
  have HS := hs_
  clear hs_
  clear hb
  clear haa_0 haa_1 haa_2 hfaa hab_0 hab_1 hab_2 hfab hw0_0 hw0_1 hw0_2 hfw0 hxa_0 hxa_1 hxa_2 hfxa hxb_0 hxb_1 hxb_2 hfxb hg0_0 hg0_1 hg0_2 hfg0
  obtain ⟨haa_0, haa_1, haa_2, hfaa⟩ := boxed3 BKaa.out (HS.out.at_ (W := w15))
  obtain ⟨hab_0, hab_1, hab_2, hfab⟩ := boxed3 BKab.out (HS.out.at_ (W := w15))
  obtain ⟨hw0_0, hw0_1, hw0_2, hfw0⟩ := boxed3 BKw0.out (HS.out.at_ (W := w15))
  obtain ⟨hxa_0, hxa_1, hxa_2, hfxa⟩ := boxed3 BKxa.out (HS.out.at_ (W := w15))
  obtain ⟨hxb_0, hxb_1, hxb_2, hfxb⟩ := boxed3 BKxb.out (HS.out.at_ (W := w15))
  obtain ⟨hg0_0, hg0_1, hg0_2, hfg0⟩ := boxed3 BKg0.out (HS.out.at_ (W := w15))
  have Q15 := trivial
  refine hK.out _ _ ⟨haa_0, haa_1, haa_2, hab_0, hab_1, hab_2, hw0_0, hw0_1, hw0_2, hxa_0, hxa_1, hxa_2, hxb_0, hxb_1, hxb_2, hg0_0, hg0_1, hg0_2⟩ (fun hHeld => ?_)
  clear hK K
  refine norm_ (a' := ?_) ?_ ?_
  rotate_left
  · show Act.put _ (some 68) _ = _; go_simp; rfl
  refine one_ (i := 3) (N := some 69) #[true, true, true, true, false] rfl rfl (by kernel_rfl) (by decide) (fun K hK => ?_)
  refine goes_ Try.func12 (by kernel_rfl) rfl #[.agg #[.string b_0, .slice AXb_b_1 b_1.length cXb_b_1, .slice AXb_b_2 b_2.length cXb_b_2], .agg #[.string b_0, .slice AUb_b_1 b_1.length cUb_b_1, .slice AUb_b_2 b_2.length cUb_b_2]] (by rfl) rfl rfl (by (try simp only [List.map_toArray, List.map_cons, List.map_nil]); first | done | rfl) ?_
  clear hHeld Q15
  (with_reducible refine (laws_eqTala.calls k b_0 _ _ b_1 _ _ b_2 b_0 _ _ b_1 _ _ b_2 true _ ?s0 ?t0 ?s1 ?t1 ?s2 ?t2 ?s3 ?t3 Eb.out).mono ?_)
  (case s0 => exact HS.out.C (RC HOXb_b_1.out))
  (case t0 => exact RL HOXb_b_1.out)
  (case s1 => exact HS.out.C (RC HOXb_b_2.out))
  (case t1 => exact RL HOXb_b_2.out)
  (case s2 => exact HS.out.C (RC HOUb_b_1.out))
  (case t2 => exact RL HOUb_b_1.out)
  (case s3 => exact HS.out.C (RC HOUb_b_2.out))
  (case t3 => exact RL HOUb_b_2.out)
  rintro e w16 ⟨rfl, hb_⟩
  refine ⟨_, rfl, ?_⟩
  have hb := below_of hb_
  clear hb_
  have hs_ := Aside0.mk (HS.out.go hb)
  have M_w16 := Aside0.mk (Bl.size (w := w15) hb)
  clear HS
  have HS := hs_
  clear hs_
  clear hb
  clear haa_0 haa_1 haa_2 hfaa hab_0 hab_1 hab_2 hfab hw0_0 hw0_1 hw0_2 hfw0 hxa_0 hxa_1 hxa_2 hfxa hxb_0 hxb_1 hxb_2 hfxb hg0_0 hg0_1 hg0_2 hfg0
  obtain ⟨haa_0, haa_1, haa_2, hfaa⟩ := boxed3 BKaa.out (HS.out.at_ (W := w16))
  obtain ⟨hab_0, hab_1, hab_2, hfab⟩ := boxed3 BKab.out (HS.out.at_ (W := w16))
  obtain ⟨hw0_0, hw0_1, hw0_2, hfw0⟩ := boxed3 BKw0.out (HS.out.at_ (W := w16))
  obtain ⟨hxa_0, hxa_1, hxa_2, hfxa⟩ := boxed3 BKxa.out (HS.out.at_ (W := w16))
  obtain ⟨hxb_0, hxb_1, hxb_2, hfxb⟩ := boxed3 BKxb.out (HS.out.at_ (W := w16))
  obtain ⟨hg0_0, hg0_1, hg0_2, hfg0⟩ := boxed3 BKg0.out (HS.out.at_ (W := w16))
  have Q16 := trivial
  refine hK.out _ _ ⟨haa_0, haa_1, haa_2, hab_0, hab_1, hab_2, hw0_0, hw0_1, hw0_2, hxa_0, hxa_1, hxa_2, hxb_0, hxb_1, hxb_2, hg0_0, hg0_1, hg0_2⟩ (fun hHeld => ?_)
  clear hK K
  refine norm_ (a' := ?_) ?_ ?_
  rotate_left
  · show Act.put _ (some 69) _ = _; go_simp; rfl
  refine pure_ (i := 4) (N := some 70) (v := ?_) (a' := ?_) #[true, true, true, true, true] rfl rfl (by kernel_rfl) (fun _ _ _ h => h) (Or.inl ⟨by rfl, ?_⟩) ?_ ?_
  rotate_left
  · intro w'; go_simp; with_reducible rfl
  rotate_left
  · go_simp; rfl
  refine done_ (by kernel_rfl) ?_
  clear hHeld
  go_wp2_with (first
    | ((clear Q16); (with_reducible refine gate_callee (f := 13) rfl ?_); refine goesL_ (some _) rfl rfl Try.func13 (by kernel_rfl) rfl #[.agg #[.string a_0, .slice AXa_a_1 a_1.length cXa_a_1, .slice AXa_a_2 a_2.length cXa_a_2], .int .i64 1] rfl (by (try simp only [List.map_toArray, List.map_cons, List.map_nil]); first | done | rfl) ?_; (with_reducible refine (laws_FnExactJoinTalas.mark k a_0 (fun k_ => w5.heap.size ≤ k_ ∧ k_ < w6.heap.size) (.slice AXa_a_1 a_1.length cXa_a_1) a_1 (.slice AXa_a_2 a_2.length cXa_a_2) a_2 1 va Ma_1 Ma_2 w _ ?s0 ?r0 ?r1 Ka.out).mono ?_); (case s0 => exact HS.out.at_); (case r0 => exact Kd.R_lower (range_R HOXa_a_1.out HS.out.at_ w5.heap.size (Nat.le_refl _)) (Nat.le_trans M_w1.out (Nat.le_trans M_w2.out (Nat.le_trans M_w3.out (Nat.le_trans M_w4.out (M_w5.out)))))); (case r1 => exact Kd.R_lower (range_R HOXa_a_2.out HS.out.at_ w5.heap.size (Nat.le_refl _)) (Nat.le_trans M_w1.out (Nat.le_trans M_w2.out (Nat.le_trans M_w3.out (Nat.le_trans M_w4.out (M_w5.out)))))); rintro e w17 ⟨rfl, hy_1, hy_2, hb, hkp⟩; clear hy_1 hy_2; refine ⟨_, rfl, ?_⟩; have nG0_1 := Aside0.mk (keep_R (range_R HOG0_1.out HS.out.at_ w8.heap.size (Nat.le_refl _)) hkp (.inr (M_w8.out))); have nG0_2 := Aside0.mk (keep_R (range_R HOG0_2.out HS.out.at_ w8.heap.size (Nat.le_refl _)) hkp (.inr (M_w8.out))); have nW0_1 := Aside0.mk (keep_R (range_R HOW0_1.out HS.out.at_ w4.heap.size (Nat.le_refl _)) hkp (.inl (Nat.le_refl _))); have nW0_2 := Aside0.mk (keep_R (range_R HOW0_2.out HS.out.at_ w4.heap.size (Nat.le_refl _)) hkp (.inl (Nat.le_refl _))); have nXb_b_1 := Aside0.mk (keep_R (range_R HOXb_b_1.out HS.out.at_ w6.heap.size (Nat.le_refl _)) hkp (.inr (Nat.le_refl _))); have nXb_b_2 := Aside0.mk (keep_R (range_R HOXb_b_2.out HS.out.at_ w6.heap.size (Nat.le_refl _)) hkp (.inr (Nat.le_refl _))); have nbaa := Aside0.mk (keep_blk (blk_below BKaa.out HS.out.at_) hkp (.inl (Nat.lt_of_lt_of_le Gaa.out.2 (Nat.le_trans M_w2.out (Nat.le_trans M_w3.out (Nat.le_trans M_w4.out (M_w5.out))))))); have nbab := Aside0.mk (keep_blk (blk_below BKab.out HS.out.at_) hkp (.inl (Nat.lt_of_lt_of_le Gab.out.2 (Nat.le_trans M_w3.out (Nat.le_trans M_w4.out (M_w5.out)))))); have nbw0 := Aside0.mk (keep_blk (blk_below BKw0.out HS.out.at_) hkp (.inl (Nat.lt_of_lt_of_le Gw0.out.2 (Nat.le_refl _)))); have nbxb := Aside0.mk (keep_blk (blk_below BKxb.out HS.out.at_) hkp (.inr (Nat.le_trans (M_w8.out) Gxb.out.1))); have nbg0 := Aside0.mk (keep_blk (blk_below BKg0.out HS.out.at_) hkp (.inr (Nat.le_trans (Nat.le_trans M_w8.out (M_w10.out)) Gg0.out.1))); have M_w17 := Aside0.mk (Nat.le_trans (below_size (Bl.out (w := w16))) hkp.1); clear HS hkp HOG0_1 HOG0_2 HOW0_1 HOW0_2 HOXb_b_1 HOXb_b_2 BKaa BKab BKw0 BKxb BKg0; have HS := Aside0.mk (Since.two hb); clear hb; have HOG0_1 := nG0_1; clear nG0_1; have HOG0_2 := nG0_2; clear nG0_2; have HOW0_1 := nW0_1; clear nW0_1; have HOW0_2 := nW0_2; clear nW0_2; have HOXb_b_1 := nXb_b_1; clear nXb_b_1; have HOXb_b_2 := nXb_b_2; clear nXb_b_2; have BKaa := nbaa; clear nbaa; have BKab := nbab; clear nbab; have BKw0 := nbw0; clear nbw0; have BKxb := nbxb; clear nbxb; have BKg0 := nbg0; clear nbg0; clear haa_0 haa_1 haa_2 hfaa hab_0 hab_1 hab_2 hfab hw0_0 hw0_1 hw0_2 hfw0 hxa_0 hxa_1 hxa_2 hfxa hxb_0 hxb_1 hxb_2 hfxb hg0_0 hg0_1 hg0_2 hfg0; obtain ⟨haa_0, haa_1, haa_2, hfaa⟩ := boxed3 BKaa.out (HS.out.at_ (W := w17)); obtain ⟨hab_0, hab_1, hab_2, hfab⟩ := boxed3 BKab.out (HS.out.at_ (W := w17)); obtain ⟨hw0_0, hw0_1, hw0_2, hfw0⟩ := boxed3 BKw0.out (HS.out.at_ (W := w17)); obtain ⟨hxb_0, hxb_1, hxb_2, hfxb⟩ := boxed3 BKxb.out (HS.out.at_ (W := w17)); obtain ⟨hg0_0, hg0_1, hg0_2, hfg0⟩ := boxed3 BKg0.out (HS.out.at_ (W := w17)); have Q17 := trivial)
    | ((clear Q17); (with_reducible refine gate_callee (f := 13) rfl ?_); refine goesL_ (some _) rfl rfl Try.func13 (by kernel_rfl) rfl #[.agg #[.string b_0, .slice AXb_b_1 b_1.length cXb_b_1, .slice AXb_b_2 b_2.length cXb_b_2], .int .i64 va] rfl (by (try simp only [List.map_toArray, List.map_cons, List.map_nil]); first | done | rfl) ?_; (with_reducible refine (laws_FnExactJoinTalas.mark k b_0 (fun k_ => w6.heap.size ≤ k_ ∧ k_ < w8.heap.size) (.slice AXb_b_1 b_1.length cXb_b_1) b_1 (.slice AXb_b_2 b_2.length cXb_b_2) b_2 va vb Mb_1 Mb_2 w _ ?s0 ?r0 ?r1 Kb.out).mono ?_); (case s0 => exact HS.out.at_); (case r0 => exact Kd.R_lower (Kd.R_below HOXb_b_1.out HS.out.at_) (Nat.le_trans M_w1.out (Nat.le_trans M_w2.out (Nat.le_trans M_w3.out (Nat.le_trans M_w4.out (Nat.le_trans M_w5.out (M_w6.out))))))); (case r1 => exact Kd.R_lower (Kd.R_below HOXb_b_2.out HS.out.at_) (Nat.le_trans M_w1.out (Nat.le_trans M_w2.out (Nat.le_trans M_w3.out (Nat.le_trans M_w4.out (Nat.le_trans M_w5.out (M_w6.out))))))); rintro e w18 ⟨rfl, hy_1, hy_2, hb, hkp⟩; clear hy_1 hy_2; refine ⟨_, rfl, ?_⟩; have nG0_1 := Aside0.mk (keep_R (Kd.R_below HOG0_1.out HS.out.at_) hkp (.inr (Nat.le_refl _))); have nG0_2 := Aside0.mk (keep_R (Kd.R_below HOG0_2.out HS.out.at_) hkp (.inr (Nat.le_refl _))); have nW0_1 := Aside0.mk (keep_R (Kd.R_below HOW0_1.out HS.out.at_) hkp (.inl (M_w6.out))); have nW0_2 := Aside0.mk (keep_R (Kd.R_below HOW0_2.out HS.out.at_) hkp (.inl (M_w6.out))); have nbaa := Aside0.mk (keep_blk (blk_below BKaa.out HS.out.at_) hkp (.inl (Nat.lt_of_lt_of_le Gaa.out.2 (Nat.le_trans M_w2.out (Nat.le_trans M_w3.out (Nat.le_trans M_w4.out (Nat.le_trans M_w5.out (M_w6.out)))))))); have nbab := Aside0.mk (keep_blk (blk_below BKab.out HS.out.at_) hkp (.inl (Nat.lt_of_lt_of_le Gab.out.2 (Nat.le_trans M_w3.out (Nat.le_trans M_w4.out (Nat.le_trans M_w5.out (M_w6.out))))))); have nbw0 := Aside0.mk (keep_blk (blk_below BKw0.out HS.out.at_) hkp (.inl (Nat.lt_of_lt_of_le Gw0.out.2 (M_w6.out)))); have nbg0 := Aside0.mk (keep_blk (blk_below BKg0.out HS.out.at_) hkp (.inr (Nat.le_trans (M_w10.out) Gg0.out.1))); have M_w18 := Aside0.mk (Nat.le_trans (below_size (Bl.out (w := w17))) hkp.1); clear HS hkp HOG0_1 HOG0_2 HOW0_1 HOW0_2 BKaa BKab BKw0 BKg0; have HS := Aside0.mk (Since.two hb); clear hb; have HOG0_1 := nG0_1; clear nG0_1; have HOG0_2 := nG0_2; clear nG0_2; have HOW0_1 := nW0_1; clear nW0_1; have HOW0_2 := nW0_2; clear nW0_2; have BKaa := nbaa; clear nbaa; have BKab := nbab; clear nbab; have BKw0 := nbw0; clear nbw0; have BKg0 := nbg0; clear nbg0; clear haa_0 haa_1 haa_2 hfaa hab_0 hab_1 hab_2 hfab hw0_0 hw0_1 hw0_2 hfw0 hxb_0 hxb_1 hxb_2 hfxb hg0_0 hg0_1 hg0_2 hfg0; obtain ⟨haa_0, haa_1, haa_2, hfaa⟩ := boxed3 BKaa.out (HS.out.at_ (W := w18)); obtain ⟨hab_0, hab_1, hab_2, hfab⟩ := boxed3 BKab.out (HS.out.at_ (W := w18)); obtain ⟨hw0_0, hw0_1, hw0_2, hfw0⟩ := boxed3 BKw0.out (HS.out.at_ (W := w18)); obtain ⟨hg0_0, hg0_1, hg0_2, hfg0⟩ := boxed3 BKg0.out (HS.out.at_ (W := w18)); have Q18 := trivial)
    | ((clear Q18); go_at_call 12; refine calls_of_args (args' := #[.agg #[.string R0_0, .slice AG0_1 R0_1.length cG0_1, .slice AG0_2 R0_2.length cG0_2], .agg #[.string R0_0, .slice AW0_1 R0_1.length cW0_1, .slice AW0_2 R0_2.length cW0_2]]) (by (try simp only [List.map_toArray, List.map_cons, List.map_nil]); first | done | rfl) ?_; (with_reducible refine (laws_eqTala.calls k R0_0 _ _ R0_1 _ _ R0_2 R0_0 _ _ R0_1 _ _ R0_2 true _ ?s0 ?t0 ?s1 ?t1 ?s2 ?t2 ?s3 ?t3 ER0.out).mono ?_); (case s0 => exact HS.out.C (RC HOG0_1.out)); (case t0 => exact RL HOG0_1.out); (case s1 => exact HS.out.C (RC HOG0_2.out)); (case t1 => exact RL HOG0_2.out); (case s2 => exact HS.out.C (RC HOW0_1.out)); (case t2 => exact RL HOW0_1.out); (case s3 => exact HS.out.C (RC HOW0_2.out)); (case t3 => exact RL HOW0_2.out); rintro e w19 ⟨rfl, hb_⟩; have hb := below_of hb_; clear hb_; have hs_ := Aside0.mk (HS.out.go hb); have M_w19 := Aside0.mk (Bl.size (w := w18) hb); clear HS; have HS := hs_; clear hs_; clear hb; clear haa_0 haa_1 haa_2 hfaa hab_0 hab_1 hab_2 hfab hw0_0 hw0_1 hw0_2 hfw0 hg0_0 hg0_1 hg0_2 hfg0; obtain ⟨haa_0, haa_1, haa_2, hfaa⟩ := boxed3 BKaa.out (HS.out.at_ (W := w19)); obtain ⟨hab_0, hab_1, hab_2, hfab⟩ := boxed3 BKab.out (HS.out.at_ (W := w19)); obtain ⟨hw0_0, hw0_1, hw0_2, hfw0⟩ := boxed3 BKw0.out (HS.out.at_ (W := w19)); obtain ⟨hg0_0, hg0_1, hg0_2, hfg0⟩ := boxed3 BKg0.out (HS.out.at_ (W := w19)); have Q19 := trivial)
    | ((clear Q19); (with_reducible refine gate_callee (f := 13) rfl ?_); refine goesL_ (some _) rfl rfl Try.func13 (by kernel_rfl) rfl #[.agg #[.string R0_0, .slice AG0_1 R0_1.length cG0_1, .slice AG0_2 R0_2.length cG0_2], .int .i64 1] rfl (by (try simp only [List.map_toArray, List.map_cons, List.map_nil]); first | done | rfl) ?_; (with_reducible refine (laws_FnExactJoinTalas.mark k R0_0 (fun k_ => w8.heap.size ≤ k_ ∧ k_ < w10.heap.size) (.slice AG0_1 R0_1.length cG0_1) R0_1 (.slice AG0_2 R0_2.length cG0_2) R0_2 1 m0 N0_1 N0_2 w _ ?s0 ?r0 ?r1 KR0.out).mono ?_); (case s0 => exact HS.out.at_); (case r0 => exact Kd.R_lower (Kd.R_mono (Kd.R_below HOG0_1.out HS.out.at_) (fun _ h_ => ⟨h_.1, h_.2.2⟩)) (Nat.le_trans M_w1.out (Nat.le_trans M_w2.out (Nat.le_trans M_w3.out (Nat.le_trans M_w4.out (Nat.le_trans M_w5.out (Nat.le_trans M_w6.out (M_w8.out)))))))); (case r1 => exact Kd.R_lower (Kd.R_mono (Kd.R_below HOG0_2.out HS.out.at_) (fun _ h_ => ⟨h_.1, h_.2.2⟩)) (Nat.le_trans M_w1.out (Nat.le_trans M_w2.out (Nat.le_trans M_w3.out (Nat.le_trans M_w4.out (Nat.le_trans M_w5.out (Nat.le_trans M_w6.out (M_w8.out)))))))); rintro e w20 ⟨rfl, hy0_1, hy0_2, hb, hkp⟩; refine ⟨_, rfl, ?_⟩; have HL0_1 := Aside0.mk (Kd.R_reads' hy0_1).1; have HY0_1 := Aside0.mk hy0_1; clear hy0_1; have HL0_2 := Aside0.mk (Kd.R_reads' hy0_2).1; have HY0_2 := Aside0.mk hy0_2; clear hy0_2; have nW0_1 := Aside0.mk (keep_R (Kd.R_below HOW0_1.out HS.out.at_) hkp (.inl (Nat.le_trans M_w6.out (M_w8.out)))); have nW0_2 := Aside0.mk (keep_R (Kd.R_below HOW0_2.out HS.out.at_) hkp (.inl (Nat.le_trans M_w6.out (M_w8.out)))); have nbaa := Aside0.mk (keep_blk (blk_below BKaa.out HS.out.at_) hkp (.inl (Nat.lt_of_lt_of_le Gaa.out.2 (Nat.le_trans M_w2.out (Nat.le_trans M_w3.out (Nat.le_trans M_w4.out (Nat.le_trans M_w5.out (Nat.le_trans M_w6.out (M_w8.out))))))))); have nbab := Aside0.mk (keep_blk (blk_below BKab.out HS.out.at_) hkp (.inl (Nat.lt_of_lt_of_le Gab.out.2 (Nat.le_trans M_w3.out (Nat.le_trans M_w4.out (Nat.le_trans M_w5.out (Nat.le_trans M_w6.out (M_w8.out)))))))); have nbw0 := Aside0.mk (keep_blk (blk_below BKw0.out HS.out.at_) hkp (.inl (Nat.lt_of_lt_of_le Gw0.out.2 (Nat.le_trans M_w6.out (M_w8.out))))); have nbg0 := Aside0.mk (keep_blk (blk_below BKg0.out HS.out.at_) hkp (.inr (Nat.le_trans (Nat.le_refl _) Gg0.out.1))); have M_w20 := Aside0.mk (Nat.le_trans (below_size (Bl.out (w := w19))) hkp.1); clear HS hkp HOW0_1 HOW0_2 BKaa BKab BKw0 BKg0; have HS := Aside0.mk (Since.two hb); clear hb; have HOW0_1 := nW0_1; clear nW0_1; have HOW0_2 := nW0_2; clear nW0_2; have BKaa := nbaa; clear nbaa; have BKab := nbab; clear nbab; have BKw0 := nbw0; clear nbw0; have BKg0 := nbg0; clear nbg0; clear haa_0 haa_1 haa_2 hfaa hab_0 hab_1 hab_2 hfab hw0_0 hw0_1 hw0_2 hfw0 hg0_0 hg0_1 hg0_2 hfg0; obtain ⟨haa_0, haa_1, haa_2, hfaa⟩ := boxed3 BKaa.out (HS.out.at_ (W := w20)); obtain ⟨hab_0, hab_1, hab_2, hfab⟩ := boxed3 BKab.out (HS.out.at_ (W := w20)); obtain ⟨hw0_0, hw0_1, hw0_2, hfw0⟩ := boxed3 BKw0.out (HS.out.at_ (W := w20)); obtain ⟨hg0_0, hg0_1, hg0_2, hfg0⟩ := boxed3 BKg0.out (HS.out.at_ (W := w20)); have Q20 := trivial)
    | ((clear Q20); (with_reducible refine gate_callee (f := 14) rfl ?_); refine goesL_ (some _) rfl rfl Try.func14 (by kernel_rfl) rfl #[.agg #[.string R0_0, .slice AG0_1 N0_1.length cG0_1, .slice AG0_2 N0_2.length cG0_2], .int .i64 1] rfl (by (try simp only [List.map_toArray, List.map_cons, List.map_nil]); first | done | (rw [show N0_1.length = R0_1.length from HL0_1.out.symm, show N0_2.length = R0_2.length from HL0_2.out.symm] <;> rfl) | rfl) ?_; (with_reducible refine (laws_heldTala.calls k R0_0 _ _ N0_1 _ _ N0_2 1 m0 _ ?s0 ?t0 ?s1 ?t1 HR0.out).mono ?_); (case s0 => exact HS.out.C (RC HY0_1.out)); (case t0 => exact (HL0_1.out ▸ RL HY0_1.out)); (case s1 => exact HS.out.C (RC HY0_2.out)); (case t1 => exact (HL0_2.out ▸ RL HY0_2.out)); rintro e w21 ⟨rfl, hb_⟩; refine ⟨_, rfl, ?_⟩; have hb := below_of hb_; clear hb_; have hs_ := Aside0.mk (HS.out.go hb); have M_w21 := Aside0.mk (Bl.size (w := w20) hb); clear HS; have HS := hs_; clear hs_; clear hb; clear haa_0 haa_1 haa_2 hfaa hab_0 hab_1 hab_2 hfab hw0_0 hw0_1 hw0_2 hfw0 hg0_0 hg0_1 hg0_2 hfg0; obtain ⟨haa_0, haa_1, haa_2, hfaa⟩ := boxed3 BKaa.out (HS.out.at_ (W := w21)); obtain ⟨hab_0, hab_1, hab_2, hfab⟩ := boxed3 BKab.out (HS.out.at_ (W := w21)); obtain ⟨hw0_0, hw0_1, hw0_2, hfw0⟩ := boxed3 BKw0.out (HS.out.at_ (W := w21)); obtain ⟨hg0_0, hg0_1, hg0_2, hfg0⟩ := boxed3 BKg0.out (HS.out.at_ (W := w21)); have Q21 := trivial))
  clear Q21
  refine start_ (n := 12) (S := fun w' => w'.cell? ⟨gaa, 0, none⟩ = some (.string a_0) ∧ w'.cell? ⟨gaa, 1, none⟩ = some (.slice Aa_1 a_1.length ca_1) ∧ w'.cell? ⟨gaa, 2, none⟩ = some (.slice Aa_2 a_2.length ca_2) ∧ w'.cell? ⟨gab, 0, none⟩ = some (.string b_0) ∧ w'.cell? ⟨gab, 1, none⟩ = some (.slice Ab_1 b_1.length cb_1) ∧ w'.cell? ⟨gab, 2, none⟩ = some (.slice Ab_2 b_2.length cb_2)) (ds := []) #[false, false, false, false, false, false, false, false, false, false, false, false] (by kernel_rfl) rfl rfl ⟨haa_0, haa_1, haa_2, hab_0, hab_1, hab_2⟩ (fun hHeld => ?_)
  refine take_ (i := 0) (N := some 102) (v := ?_) (a' := ?_) #[true, false, false, false, false, false, false, false, false, false, false, false] rfl rfl (by kernel_rfl) (fun _ _ _ h => h) (Or.inl ⟨by rfl, ?_⟩) hHeld ?_ ?_
  rotate_left
  · rintro w' ⟨s0, s1, s2, s3, s4, s5⟩; go_simp; with_reducible rfl
  rotate_left
  · go_simp; rfl
  refine take_ (i := 2) (N := some 104) (v := ?_) (a' := ?_) #[true, false, true, false, false, false, false, false, false, false, false, false] rfl rfl (by kernel_rfl) (fun _ _ _ h => h) (Or.inl ⟨by rfl, ?_⟩) hHeld ?_ ?_
  rotate_left
  · rintro w' ⟨s0, s1, s2, s3, s4, s5⟩; go_simp; with_reducible rfl
  rotate_left
  · go_simp; rfl
  refine pure_ (i := 4) (N := some 106) (v := ?_) (a' := ?_) #[true, false, true, false, true, false, false, false, false, false, false, false] rfl rfl (by kernel_rfl) (fun _ _ _ h => h) (Or.inl ⟨by rfl, ?_⟩) ?_ ?_
  rotate_left
  · intro w'; go_simp; with_reducible rfl
  rotate_left
  · go_simp; rfl
  refine join_ (σ := Value × Value × Value × Value × Nat) 2 #[true, true, true, true, true, true, true, true, true, true, false, false] (fun s_ => [(103, s_.1), (105, s_.2.1), (107, .tuple #[.agg #[.string R0_0, s_.2.2.1, s_.2.2.2.1], .int .i64 R1]), (101, .tuple #[.agg #[.string R0_0, s_.2.2.1, s_.2.2.2.1], .int .i64 R1]), (108, .agg #[.string R0_0, s_.2.2.1, s_.2.2.2.1]), (109, .int .i64 R1), (17, .pointer (some ⟨s_.2.2.2.2, 0, none⟩))]) (fun s_ w' => (w'.cell? ⟨gaa, 0, none⟩ = some (.string a_0) ∧ w'.cell? ⟨gaa, 1, none⟩ = some (.slice Aa_1 a_1.length ca_1) ∧ w'.cell? ⟨gaa, 2, none⟩ = some (.slice Aa_2 a_2.length ca_2) ∧ w'.cell? ⟨gab, 0, none⟩ = some (.string b_0) ∧ w'.cell? ⟨gab, 1, none⟩ = some (.slice Ab_1 b_1.length cb_1) ∧ w'.cell? ⟨gab, 2, none⟩ = some (.slice Ab_2 b_2.length cb_2)) ∧ Below w21.heap.size w21 w' ∧ Kd.R (Kd.int .i64) 2 w' w21.heap.size (fun k_ => (some k_ ≠ (s_.2.2.2.1 : Value).ownBlock) ∧ k_ ≠ s_.2.2.2.2) (s_.2.2.1) R0_1 ∧ Kd.R (Kd.int .i64) 2 w' w21.heap.size (fun k_ => (some k_ ≠ (s_.2.2.1 : Value).ownBlock) ∧ k_ ≠ s_.2.2.2.2) (s_.2.2.2.1) R0_2 ∧ w'.heap[s_.2.2.2.2]? = some (.cells #[.string (⟨#[]⟩ : ByteArray), .slice none 0 0, .slice none 0 0] 26 (0, 0)) ∧ w21.heap.size ≤ s_.2.2.2.2) ?_ ?_
  rotate_left
  · intro hJ
    refine two_ (i := 1) (j := 9) (Ni := some 103) (Nj := some 17) #[true, true, true, false, true, false, false, false, false, false, false, false] #[true, false, true, false, true, false, false, false, false, true, false, false] rfl rfl rfl rfl (by kernel_rfl) (by decide) (by decide) (fun K hK => ?_) (fun K hK => ?_)
    · refine goes_ Try.func10 (by kernel_rfl) rfl #[.agg #[.string a_0, .slice Aa_1 a_1.length ca_1, .slice Aa_2 a_2.length ca_2]] (by rfl) rfl rfl (by (try simp only [List.map_toArray, List.map_cons, List.map_nil]); first | done | rfl) ?_
      clear hHeld
      (with_reducible refine (laws_toTala.calls k a_0 _ _ a_1 _ _ a_2 a_0 a_1 a_2 _ ?s0 ?t0 ?s1 ?t1 Ta.out).mono ?_)
      (case s0 => exact HS.out.C HRa_1.out)
      (case t0 => exact HCa_1.out)
      (case s1 => exact HS.out.C HRa_2.out)
      (case t1 => exact HCa_2.out)
      rintro e p1 ⟨v0, v1, rfl, ho0, ho1, hb⟩
      refine ⟨_, rfl, ?_⟩
      obtain ⟨AVa_a_1, cVa_a_1, ev⟩ := Kd.R_slice ho0
      subst ev
      have HOVa_a_1 := Aside0.mk ho0
      clear ho0
      obtain ⟨AVa_a_2, cVa_a_2, ev⟩ := Kd.R_slice ho1
      subst ev
      have HOVa_a_2 := Aside0.mk ho1
      clear ho1
      have hs_ := Aside0.mk (HS.out.go hb)
      have M_p1 := Aside0.mk (Bl.size (w := w21) hb)
      clear HS hb haa_0 haa_1 haa_2 hab_0 hab_1 hab_2 hfaa hfab
      have HS := hs_
      clear hs_
      obtain ⟨haa_0, haa_1, haa_2, hfaa⟩ := boxed3 BKaa.out (HS.out.at_ (W := p1))
      obtain ⟨hab_0, hab_1, hab_2, hfab⟩ := boxed3 BKab.out (HS.out.at_ (W := p1))
      refine hK.out _ _ ⟨haa_0, haa_1, haa_2, hab_0, hab_1, hab_2⟩ (fun hHeld => ?_)
      clear hK K
      refine norm_ (a' := ?_) ?_ ?_
      rotate_left
      · show Act.put _ (some 103) _ = _; go_simp; rfl
      refine two_ (i := 3) (j := 9) (Ni := some 105) (Nj := some 17) #[true, true, true, true, true, false, false, false, false, false, false, false] #[true, true, true, false, true, false, false, false, false, true, false, false] rfl rfl rfl rfl (by kernel_rfl) (by decide) (by decide) (fun K hK => ?_) (fun K hK => ?_)
      · refine goes_ Try.func10 (by kernel_rfl) rfl #[.agg #[.string b_0, .slice Ab_1 b_1.length cb_1, .slice Ab_2 b_2.length cb_2]] (by rfl) rfl rfl (by (try simp only [List.map_toArray, List.map_cons, List.map_nil]); first | done | rfl) ?_
        clear hHeld
        (with_reducible refine (laws_toTala.calls k b_0 _ _ b_1 _ _ b_2 b_0 b_1 b_2 _ ?s0 ?t0 ?s1 ?t1 Tb.out).mono ?_)
        (case s0 => exact HS.out.C HRb_1.out)
        (case t0 => exact HCb_1.out)
        (case s1 => exact HS.out.C HRb_2.out)
        (case t1 => exact HCb_2.out)
        rintro e p2 ⟨v0, v1, rfl, ho0, ho1, hb⟩
        refine ⟨_, rfl, ?_⟩
        obtain ⟨AVb_b_1, cVb_b_1, ev⟩ := Kd.R_slice ho0
        subst ev
        have HOVb_b_1 := Aside0.mk ho0
        clear ho0
        obtain ⟨AVb_b_2, cVb_b_2, ev⟩ := Kd.R_slice ho1
        subst ev
        have HOVb_b_2 := Aside0.mk ho1
        clear ho1
        have hs_ := Aside0.mk (HS.out.go hb)
        have M_p2 := Aside0.mk (Bl.size (w := p1) hb)
        clear HS hb haa_0 haa_1 haa_2 hab_0 hab_1 hab_2 hfaa hfab
        have HS := hs_
        clear hs_
        obtain ⟨haa_0, haa_1, haa_2, hfaa⟩ := boxed3 BKaa.out (HS.out.at_ (W := p2))
        obtain ⟨hab_0, hab_1, hab_2, hfab⟩ := boxed3 BKab.out (HS.out.at_ (W := p2))
        refine hK.out _ _ ⟨haa_0, haa_1, haa_2, hab_0, hab_1, hab_2⟩ (fun hHeld => ?_)
        clear hK K
        refine norm_ (a' := ?_) ?_ ?_
        rotate_left
        · show Act.put _ (some 105) _ = _; go_simp; rfl
        refine two_ (i := 5) (j := 9) (Ni := some 107) (Nj := some 17) #[true, true, true, true, true, true, false, false, false, false, false, false] #[true, true, true, true, true, false, false, false, false, true, false, false] rfl rfl rfl rfl (by kernel_rfl) (by decide) (by decide) (fun K hK => ?_) (fun K hK => ?_)
        · refine goes_ Try.func11 (by kernel_rfl) rfl #[.agg #[.string a_0, .slice AVa_a_1 a_1.length cVa_a_1, .slice AVa_a_2 a_2.length cVa_a_2], .agg #[.string b_0, .slice AVb_b_1 b_1.length cVb_b_1, .slice AVb_b_2 b_2.length cVb_b_2], .string n] (by rfl) rfl rfl (by (try simp only [List.map_toArray, List.map_cons, List.map_nil]); first | done | rfl) ?_
          clear hHeld
          (with_reducible refine (impl_JoinTalas.calls k a_0 (fun _ => True) _ _ a_1 (fun _ => True) _ _ a_2 b_0 (fun _ => True) _ _ b_1 (fun _ => True) _ _ b_2 n R0_0 R0_1 R0_2 R1 _ ?s0 ?s1 ?s2 ?s3 I.out).mono ?_)
          (case s0 => exact Kd.V_mono (Kd.V_below (Kd.R_V HOVa_a_1.out) HS.out.at_) (fun _ _ => trivial))
          (case s1 => exact Kd.V_mono (Kd.V_below (Kd.R_V HOVa_a_2.out) HS.out.at_) (fun _ _ => trivial))
          (case s2 => exact Kd.V_mono (Kd.V_below (Kd.R_V HOVb_b_1.out) HS.out.at_) (fun _ _ => trivial))
          (case s3 => exact Kd.V_mono (Kd.V_below (Kd.R_V HOVb_b_2.out) HS.out.at_) (fun _ _ => trivial))
          rintro e p3 ⟨y0, y1, rfl, ho0, ho1, hb⟩
          refine ⟨_, rfl, ?_⟩
          have HOy0 := Aside0.mk ho0
          clear ho0
          have HOy1 := Aside0.mk ho1
          clear ho1
          have hs_ := Aside0.mk (HS.out.go hb)
          have M_p3 := Aside0.mk (Bl.size (w := p2) hb)
          clear HS hb haa_0 haa_1 haa_2 hab_0 hab_1 hab_2 hfaa hfab
          have HS := hs_
          clear hs_
          obtain ⟨haa_0, haa_1, haa_2, hfaa⟩ := boxed3 BKaa.out (HS.out.at_ (W := p3))
          obtain ⟨hab_0, hab_1, hab_2, hfab⟩ := boxed3 BKab.out (HS.out.at_ (W := p3))
          refine hK.out _ _ ⟨haa_0, haa_1, haa_2, hab_0, hab_1, hab_2⟩ (fun hHeld => ?_)
          clear hK K
          refine norm_ (a' := ?_) ?_ ?_
          rotate_left
          · show Act.put _ (some 107) _ = _; go_simp; rfl
          refine pure_ (i := 6) (N := some 101) (v := ?_) (a' := ?_) #[true, true, true, true, true, true, true, false, false, false, false, false] rfl rfl (by kernel_rfl) (fun _ _ _ h => h) (Or.inl ⟨by rfl, ?_⟩) ?_ ?_
          rotate_left
          · intro w'; go_simp; with_reducible rfl
          rotate_left
          · go_simp; rfl
          refine pure_ (i := 7) (N := some 108) (v := ?_) (a' := ?_) #[true, true, true, true, true, true, true, true, false, false, false, false] rfl rfl (by kernel_rfl) (fun _ _ _ h => h) (Or.inl ⟨by rfl, ?_⟩) ?_ ?_
          rotate_left
          · intro w'; go_simp; with_reducible rfl
          rotate_left
          · go_simp; rfl
          refine pure_ (i := 8) (N := some 109) (v := ?_) (a' := ?_) #[true, true, true, true, true, true, true, true, true, false, false, false] rfl rfl (by kernel_rfl) (fun _ _ _ h => h) (Or.inl ⟨by rfl, ?_⟩) ?_ ?_
          rotate_left
          · intro w'; go_simp; with_reducible rfl
          rotate_left
          · go_simp; rfl
          refine one_ (i := 9) (N := some 17) #[true, true, true, true, true, true, true, true, true, true, false, false] rfl rfl (by kernel_rfl) (by decide) (fun K hK => ?_)
          refine box_step ?hg (N := 17) ?hd (cs := #[.string (⟨#[]⟩ : ByteArray), .slice none 0 0, .slice none 0 0]) (t := 26) ?hr ?_; (case hd => rfl); (case hg => rfl); (case hr => first | (go_simp; done) | (go_simp; rfl))
          intro gh0 hg p4 hbox hb
          have BKh0 := Aside0.mk hbox
          have Glo := Aside0.mk (show p3.heap.size ≤ gh0 by rw [hg]; exact below_size (Bl.out (w := p3)))
          have Ghi := Aside0.mk (blk_lt hbox)
          clear hg hbox hHeld
          have hs_ := Aside0.mk (HS.out.go hb)
          have M_p4 := Aside0.mk (Bl.size (w := p3) hb)
          clear HS hb haa_0 haa_1 haa_2 hab_0 hab_1 hab_2 hfaa hfab
          have HS := hs_
          clear hs_
          obtain ⟨haa_0, haa_1, haa_2, hfaa⟩ := boxed3 BKaa.out (HS.out.at_ (W := p4))
          obtain ⟨hab_0, hab_1, hab_2, hfab⟩ := boxed3 BKab.out (HS.out.at_ (W := p4))
          refine hK.out _ _ ⟨haa_0, haa_1, haa_2, hab_0, hab_1, hab_2⟩ (fun hHeld => ?_)
          clear hK K
          refine norm_ (a' := ?_) ?_ ?_
          rotate_left
          · show Act.put _ (some 17) _ = _; go_simp; rfl
          exact norm_ (by first | (simp only [putAll, Act.put, List.setIfInBounds_toArray, List.set_cons_zero, List.set_cons_succ]; done) | (simp only [putAll, Act.put, List.setIfInBounds_toArray, List.set_cons_zero, List.set_cons_succ]; rfl)) (hJ (.agg #[.string a_0, .slice AVa_a_1 a_1.length cVa_a_1, .slice AVa_a_2 a_2.length cVa_a_2], .agg #[.string b_0, .slice AVb_b_1 b_1.length cVb_b_1, .slice AVb_b_2 b_2.length cVb_b_2], y0, y1, gh0) _ ⟨hHeld, (HS.out.at_ (W := p4) (v := w21)), (Kd.R_lower (Kd.R_mono (range_R HOy0.out (HS.out.at_ (W := p4) (v := p3)) p2.heap.size (Nat.le_refl _)) (fun k_ h_ => ⟨h_.2.2, by show k_ ≠ gh0; have h2_ := h_.1; have := Glo.out; have := Ghi.out; have := M_p1.out; have := M_p2.out; have := M_p3.out; have := M_p4.out; clear hHeld; omega⟩)) (by have := M_p1.out; have := M_p2.out; have := M_p3.out; have := M_p4.out; clear hHeld; omega)), (Kd.R_lower (Kd.R_mono (range_R HOy1.out (HS.out.at_ (W := p4) (v := p3)) p2.heap.size (Nat.le_refl _)) (fun k_ h_ => ⟨h_.2.2, by show k_ ≠ gh0; have h2_ := h_.1; have := Glo.out; have := Ghi.out; have := M_p1.out; have := M_p2.out; have := M_p3.out; have := M_p4.out; clear hHeld; omega⟩)) (by have := M_p1.out; have := M_p2.out; have := M_p3.out; have := M_p4.out; clear hHeld; omega)), BKh0.out, (by show w21.heap.size ≤ gh0; have := Glo.out; have := M_p1.out; have := M_p2.out; have := M_p3.out; have := M_p4.out; clear hHeld; omega)⟩)
        · refine box_step ?hg (N := 17) ?hd (cs := #[.string (⟨#[]⟩ : ByteArray), .slice none 0 0, .slice none 0 0]) (t := 26) ?hr ?_; (case hd => rfl); (case hg => rfl); (case hr => first | (go_simp; done) | (go_simp; rfl))
          intro gh0 hg p3 hbox hb
          have BKh0 := Aside0.mk hbox
          have Glo := Aside0.mk (show p2.heap.size ≤ gh0 by rw [hg]; exact below_size (Bl.out (w := p2)))
          have Ghi := Aside0.mk (blk_lt hbox)
          clear hg hbox hHeld
          have hs_ := Aside0.mk (HS.out.go hb)
          have M_p3 := Aside0.mk (Bl.size (w := p2) hb)
          clear HS hb haa_0 haa_1 haa_2 hab_0 hab_1 hab_2 hfaa hfab
          have HS := hs_
          clear hs_
          obtain ⟨haa_0, haa_1, haa_2, hfaa⟩ := boxed3 BKaa.out (HS.out.at_ (W := p3))
          obtain ⟨hab_0, hab_1, hab_2, hfab⟩ := boxed3 BKab.out (HS.out.at_ (W := p3))
          refine hK.out _ _ ⟨haa_0, haa_1, haa_2, hab_0, hab_1, hab_2⟩ (fun hHeld => ?_)
          clear hK K
          refine norm_ (a' := ?_) ?_ ?_
          rotate_left
          · show Act.put _ (some 17) _ = _; go_simp; rfl
          refine one_ (i := 5) (N := some 107) #[true, true, true, true, true, true, false, false, false, true, false, false] rfl rfl (by kernel_rfl) (by decide) (fun K hK => ?_)
          refine goes_ Try.func11 (by kernel_rfl) rfl #[.agg #[.string a_0, .slice AVa_a_1 a_1.length cVa_a_1, .slice AVa_a_2 a_2.length cVa_a_2], .agg #[.string b_0, .slice AVb_b_1 b_1.length cVb_b_1, .slice AVb_b_2 b_2.length cVb_b_2], .string n] (by rfl) rfl rfl (by (try simp only [List.map_toArray, List.map_cons, List.map_nil]); first | done | rfl) ?_
          clear hHeld
          (with_reducible refine (impl_JoinTalas.calls k a_0 (fun _ => True) _ _ a_1 (fun _ => True) _ _ a_2 b_0 (fun _ => True) _ _ b_1 (fun _ => True) _ _ b_2 n R0_0 R0_1 R0_2 R1 _ ?s0 ?s1 ?s2 ?s3 I.out).mono ?_)
          (case s0 => exact Kd.V_mono (Kd.V_below (Kd.R_V HOVa_a_1.out) HS.out.at_) (fun _ _ => trivial))
          (case s1 => exact Kd.V_mono (Kd.V_below (Kd.R_V HOVa_a_2.out) HS.out.at_) (fun _ _ => trivial))
          (case s2 => exact Kd.V_mono (Kd.V_below (Kd.R_V HOVb_b_1.out) HS.out.at_) (fun _ _ => trivial))
          (case s3 => exact Kd.V_mono (Kd.V_below (Kd.R_V HOVb_b_2.out) HS.out.at_) (fun _ _ => trivial))
          rintro e p4 ⟨y0, y1, rfl, ho0, ho1, hb⟩
          refine ⟨_, rfl, ?_⟩
          have HOy0 := Aside0.mk ho0
          clear ho0
          have HOy1 := Aside0.mk ho1
          clear ho1
          have hs_ := Aside0.mk (HS.out.go hb)
          have M_p4 := Aside0.mk (Bl.size (w := p3) hb)
          have bk_ := Aside0.mk (blk_below BKh0.out hb)
          clear BKh0
          have BKh0 := bk_
          clear bk_
          clear HS hb haa_0 haa_1 haa_2 hab_0 hab_1 hab_2 hfaa hfab
          have HS := hs_
          clear hs_
          obtain ⟨haa_0, haa_1, haa_2, hfaa⟩ := boxed3 BKaa.out (HS.out.at_ (W := p4))
          obtain ⟨hab_0, hab_1, hab_2, hfab⟩ := boxed3 BKab.out (HS.out.at_ (W := p4))
          refine hK.out _ _ ⟨haa_0, haa_1, haa_2, hab_0, hab_1, hab_2⟩ (fun hHeld => ?_)
          clear hK K
          refine norm_ (a' := ?_) ?_ ?_
          rotate_left
          · show Act.put _ (some 107) _ = _; go_simp; rfl
          refine pure_ (i := 6) (N := some 101) (v := ?_) (a' := ?_) #[true, true, true, true, true, true, true, false, false, true, false, false] rfl rfl (by kernel_rfl) (fun _ _ _ h => h) (Or.inl ⟨by rfl, ?_⟩) ?_ ?_
          rotate_left
          · intro w'; go_simp; with_reducible rfl
          rotate_left
          · go_simp; rfl
          refine pure_ (i := 7) (N := some 108) (v := ?_) (a' := ?_) #[true, true, true, true, true, true, true, true, false, true, false, false] rfl rfl (by kernel_rfl) (fun _ _ _ h => h) (Or.inl ⟨by rfl, ?_⟩) ?_ ?_
          rotate_left
          · intro w'; go_simp; with_reducible rfl
          rotate_left
          · go_simp; rfl
          refine pure_ (i := 8) (N := some 109) (v := ?_) (a' := ?_) #[true, true, true, true, true, true, true, true, true, true, false, false] rfl rfl (by kernel_rfl) (fun _ _ _ h => h) (Or.inl ⟨by rfl, ?_⟩) ?_ ?_
          rotate_left
          · intro w'; go_simp; with_reducible rfl
          rotate_left
          · go_simp; rfl
          exact norm_ (by first | (simp only [putAll, Act.put, List.setIfInBounds_toArray, List.set_cons_zero, List.set_cons_succ]; done) | (simp only [putAll, Act.put, List.setIfInBounds_toArray, List.set_cons_zero, List.set_cons_succ]; rfl)) (hJ (.agg #[.string a_0, .slice AVa_a_1 a_1.length cVa_a_1, .slice AVa_a_2 a_2.length cVa_a_2], .agg #[.string b_0, .slice AVb_b_1 b_1.length cVb_b_1, .slice AVb_b_2 b_2.length cVb_b_2], y0, y1, gh0) _ ⟨hHeld, (HS.out.at_ (W := p4) (v := w21)), (Kd.R_lower (Kd.R_mono (range_R HOy0.out (HS.out.at_ (W := p4) (v := p4)) p3.heap.size (Nat.le_refl _)) (fun k_ h_ => ⟨h_.2.2, by show k_ ≠ gh0; have h2_ := h_.1; have := Glo.out; have := Ghi.out; have := M_p1.out; have := M_p2.out; have := M_p3.out; have := M_p4.out; clear hHeld; omega⟩)) (by have := M_p1.out; have := M_p2.out; have := M_p3.out; have := M_p4.out; clear hHeld; omega)), (Kd.R_lower (Kd.R_mono (range_R HOy1.out (HS.out.at_ (W := p4) (v := p4)) p3.heap.size (Nat.le_refl _)) (fun k_ h_ => ⟨h_.2.2, by show k_ ≠ gh0; have h2_ := h_.1; have := Glo.out; have := Ghi.out; have := M_p1.out; have := M_p2.out; have := M_p3.out; have := M_p4.out; clear hHeld; omega⟩)) (by have := M_p1.out; have := M_p2.out; have := M_p3.out; have := M_p4.out; clear hHeld; omega)), BKh0.out, (by show w21.heap.size ≤ gh0; have := Glo.out; have := M_p1.out; have := M_p2.out; have := M_p3.out; have := M_p4.out; clear hHeld; omega)⟩)
      · refine box_step ?hg (N := 17) ?hd (cs := #[.string (⟨#[]⟩ : ByteArray), .slice none 0 0, .slice none 0 0]) (t := 26) ?hr ?_; (case hd => rfl); (case hg => rfl); (case hr => first | (go_simp; done) | (go_simp; rfl))
        intro gh0 hg p2 hbox hb
        have BKh0 := Aside0.mk hbox
        have Glo := Aside0.mk (show p1.heap.size ≤ gh0 by rw [hg]; exact below_size (Bl.out (w := p1)))
        have Ghi := Aside0.mk (blk_lt hbox)
        clear hg hbox hHeld
        have hs_ := Aside0.mk (HS.out.go hb)
        have M_p2 := Aside0.mk (Bl.size (w := p1) hb)
        clear HS hb haa_0 haa_1 haa_2 hab_0 hab_1 hab_2 hfaa hfab
        have HS := hs_
        clear hs_
        obtain ⟨haa_0, haa_1, haa_2, hfaa⟩ := boxed3 BKaa.out (HS.out.at_ (W := p2))
        obtain ⟨hab_0, hab_1, hab_2, hfab⟩ := boxed3 BKab.out (HS.out.at_ (W := p2))
        refine hK.out _ _ ⟨haa_0, haa_1, haa_2, hab_0, hab_1, hab_2⟩ (fun hHeld => ?_)
        clear hK K
        refine norm_ (a' := ?_) ?_ ?_
        rotate_left
        · show Act.put _ (some 17) _ = _; go_simp; rfl
        refine one_ (i := 3) (N := some 105) #[true, true, true, true, true, false, false, false, false, true, false, false] rfl rfl (by kernel_rfl) (by decide) (fun K hK => ?_)
        refine goes_ Try.func10 (by kernel_rfl) rfl #[.agg #[.string b_0, .slice Ab_1 b_1.length cb_1, .slice Ab_2 b_2.length cb_2]] (by rfl) rfl rfl (by (try simp only [List.map_toArray, List.map_cons, List.map_nil]); first | done | rfl) ?_
        clear hHeld
        (with_reducible refine (laws_toTala.calls k b_0 _ _ b_1 _ _ b_2 b_0 b_1 b_2 _ ?s0 ?t0 ?s1 ?t1 Tb.out).mono ?_)
        (case s0 => exact HS.out.C HRb_1.out)
        (case t0 => exact HCb_1.out)
        (case s1 => exact HS.out.C HRb_2.out)
        (case t1 => exact HCb_2.out)
        rintro e p3 ⟨v0, v1, rfl, ho0, ho1, hb⟩
        refine ⟨_, rfl, ?_⟩
        obtain ⟨AVb_b_1, cVb_b_1, ev⟩ := Kd.R_slice ho0
        subst ev
        have HOVb_b_1 := Aside0.mk ho0
        clear ho0
        obtain ⟨AVb_b_2, cVb_b_2, ev⟩ := Kd.R_slice ho1
        subst ev
        have HOVb_b_2 := Aside0.mk ho1
        clear ho1
        have hs_ := Aside0.mk (HS.out.go hb)
        have M_p3 := Aside0.mk (Bl.size (w := p2) hb)
        have bk_ := Aside0.mk (blk_below BKh0.out hb)
        clear BKh0
        have BKh0 := bk_
        clear bk_
        clear HS hb haa_0 haa_1 haa_2 hab_0 hab_1 hab_2 hfaa hfab
        have HS := hs_
        clear hs_
        obtain ⟨haa_0, haa_1, haa_2, hfaa⟩ := boxed3 BKaa.out (HS.out.at_ (W := p3))
        obtain ⟨hab_0, hab_1, hab_2, hfab⟩ := boxed3 BKab.out (HS.out.at_ (W := p3))
        refine hK.out _ _ ⟨haa_0, haa_1, haa_2, hab_0, hab_1, hab_2⟩ (fun hHeld => ?_)
        clear hK K
        refine norm_ (a' := ?_) ?_ ?_
        rotate_left
        · show Act.put _ (some 105) _ = _; go_simp; rfl
        refine one_ (i := 5) (N := some 107) #[true, true, true, true, true, true, false, false, false, true, false, false] rfl rfl (by kernel_rfl) (by decide) (fun K hK => ?_)
        refine goes_ Try.func11 (by kernel_rfl) rfl #[.agg #[.string a_0, .slice AVa_a_1 a_1.length cVa_a_1, .slice AVa_a_2 a_2.length cVa_a_2], .agg #[.string b_0, .slice AVb_b_1 b_1.length cVb_b_1, .slice AVb_b_2 b_2.length cVb_b_2], .string n] (by rfl) rfl rfl (by (try simp only [List.map_toArray, List.map_cons, List.map_nil]); first | done | rfl) ?_
        clear hHeld
        (with_reducible refine (impl_JoinTalas.calls k a_0 (fun _ => True) _ _ a_1 (fun _ => True) _ _ a_2 b_0 (fun _ => True) _ _ b_1 (fun _ => True) _ _ b_2 n R0_0 R0_1 R0_2 R1 _ ?s0 ?s1 ?s2 ?s3 I.out).mono ?_)
        (case s0 => exact Kd.V_mono (Kd.V_below (Kd.R_V HOVa_a_1.out) HS.out.at_) (fun _ _ => trivial))
        (case s1 => exact Kd.V_mono (Kd.V_below (Kd.R_V HOVa_a_2.out) HS.out.at_) (fun _ _ => trivial))
        (case s2 => exact Kd.V_mono (Kd.V_below (Kd.R_V HOVb_b_1.out) HS.out.at_) (fun _ _ => trivial))
        (case s3 => exact Kd.V_mono (Kd.V_below (Kd.R_V HOVb_b_2.out) HS.out.at_) (fun _ _ => trivial))
        rintro e p4 ⟨y0, y1, rfl, ho0, ho1, hb⟩
        refine ⟨_, rfl, ?_⟩
        have HOy0 := Aside0.mk ho0
        clear ho0
        have HOy1 := Aside0.mk ho1
        clear ho1
        have hs_ := Aside0.mk (HS.out.go hb)
        have M_p4 := Aside0.mk (Bl.size (w := p3) hb)
        have bk_ := Aside0.mk (blk_below BKh0.out hb)
        clear BKh0
        have BKh0 := bk_
        clear bk_
        clear HS hb haa_0 haa_1 haa_2 hab_0 hab_1 hab_2 hfaa hfab
        have HS := hs_
        clear hs_
        obtain ⟨haa_0, haa_1, haa_2, hfaa⟩ := boxed3 BKaa.out (HS.out.at_ (W := p4))
        obtain ⟨hab_0, hab_1, hab_2, hfab⟩ := boxed3 BKab.out (HS.out.at_ (W := p4))
        refine hK.out _ _ ⟨haa_0, haa_1, haa_2, hab_0, hab_1, hab_2⟩ (fun hHeld => ?_)
        clear hK K
        refine norm_ (a' := ?_) ?_ ?_
        rotate_left
        · show Act.put _ (some 107) _ = _; go_simp; rfl
        refine pure_ (i := 6) (N := some 101) (v := ?_) (a' := ?_) #[true, true, true, true, true, true, true, false, false, true, false, false] rfl rfl (by kernel_rfl) (fun _ _ _ h => h) (Or.inl ⟨by rfl, ?_⟩) ?_ ?_
        rotate_left
        · intro w'; go_simp; with_reducible rfl
        rotate_left
        · go_simp; rfl
        refine pure_ (i := 7) (N := some 108) (v := ?_) (a' := ?_) #[true, true, true, true, true, true, true, true, false, true, false, false] rfl rfl (by kernel_rfl) (fun _ _ _ h => h) (Or.inl ⟨by rfl, ?_⟩) ?_ ?_
        rotate_left
        · intro w'; go_simp; with_reducible rfl
        rotate_left
        · go_simp; rfl
        refine pure_ (i := 8) (N := some 109) (v := ?_) (a' := ?_) #[true, true, true, true, true, true, true, true, true, true, false, false] rfl rfl (by kernel_rfl) (fun _ _ _ h => h) (Or.inl ⟨by rfl, ?_⟩) ?_ ?_
        rotate_left
        · intro w'; go_simp; with_reducible rfl
        rotate_left
        · go_simp; rfl
        exact norm_ (by first | (simp only [putAll, Act.put, List.setIfInBounds_toArray, List.set_cons_zero, List.set_cons_succ]; done) | (simp only [putAll, Act.put, List.setIfInBounds_toArray, List.set_cons_zero, List.set_cons_succ]; rfl)) (hJ (.agg #[.string a_0, .slice AVa_a_1 a_1.length cVa_a_1, .slice AVa_a_2 a_2.length cVa_a_2], .agg #[.string b_0, .slice AVb_b_1 b_1.length cVb_b_1, .slice AVb_b_2 b_2.length cVb_b_2], y0, y1, gh0) _ ⟨hHeld, (HS.out.at_ (W := p4) (v := w21)), (Kd.R_lower (Kd.R_mono (range_R HOy0.out (HS.out.at_ (W := p4) (v := p4)) p3.heap.size (Nat.le_refl _)) (fun k_ h_ => ⟨h_.2.2, by show k_ ≠ gh0; have h2_ := h_.1; have := Glo.out; have := Ghi.out; have := M_p1.out; have := M_p2.out; have := M_p3.out; have := M_p4.out; clear hHeld; omega⟩)) (by have := M_p1.out; have := M_p2.out; have := M_p3.out; have := M_p4.out; clear hHeld; omega)), (Kd.R_lower (Kd.R_mono (range_R HOy1.out (HS.out.at_ (W := p4) (v := p4)) p3.heap.size (Nat.le_refl _)) (fun k_ h_ => ⟨h_.2.2, by show k_ ≠ gh0; have h2_ := h_.1; have := Glo.out; have := Ghi.out; have := M_p1.out; have := M_p2.out; have := M_p3.out; have := M_p4.out; clear hHeld; omega⟩)) (by have := M_p1.out; have := M_p2.out; have := M_p3.out; have := M_p4.out; clear hHeld; omega)), BKh0.out, (by show w21.heap.size ≤ gh0; have := Glo.out; have := M_p1.out; have := M_p2.out; have := M_p3.out; have := M_p4.out; clear hHeld; omega)⟩)
    · refine box_step ?hg (N := 17) ?hd (cs := #[.string (⟨#[]⟩ : ByteArray), .slice none 0 0, .slice none 0 0]) (t := 26) ?hr ?_; (case hd => rfl); (case hg => rfl); (case hr => first | (go_simp; done) | (go_simp; rfl))
      intro gh0 hg p1 hbox hb
      have BKh0 := Aside0.mk hbox
      have Glo := Aside0.mk (show w21.heap.size ≤ gh0 by rw [hg]; exact below_size (Bl.out (w := w21)))
      have Ghi := Aside0.mk (blk_lt hbox)
      clear hg hbox hHeld
      have hs_ := Aside0.mk (HS.out.go hb)
      have M_p1 := Aside0.mk (Bl.size (w := w21) hb)
      clear HS hb haa_0 haa_1 haa_2 hab_0 hab_1 hab_2 hfaa hfab
      have HS := hs_
      clear hs_
      obtain ⟨haa_0, haa_1, haa_2, hfaa⟩ := boxed3 BKaa.out (HS.out.at_ (W := p1))
      obtain ⟨hab_0, hab_1, hab_2, hfab⟩ := boxed3 BKab.out (HS.out.at_ (W := p1))
      refine hK.out _ _ ⟨haa_0, haa_1, haa_2, hab_0, hab_1, hab_2⟩ (fun hHeld => ?_)
      clear hK K
      refine norm_ (a' := ?_) ?_ ?_
      rotate_left
      · show Act.put _ (some 17) _ = _; go_simp; rfl
      refine one_ (i := 1) (N := some 103) #[true, true, true, false, true, false, false, false, false, true, false, false] rfl rfl (by kernel_rfl) (by decide) (fun K hK => ?_)
      refine goes_ Try.func10 (by kernel_rfl) rfl #[.agg #[.string a_0, .slice Aa_1 a_1.length ca_1, .slice Aa_2 a_2.length ca_2]] (by rfl) rfl rfl (by (try simp only [List.map_toArray, List.map_cons, List.map_nil]); first | done | rfl) ?_
      clear hHeld
      (with_reducible refine (laws_toTala.calls k a_0 _ _ a_1 _ _ a_2 a_0 a_1 a_2 _ ?s0 ?t0 ?s1 ?t1 Ta.out).mono ?_)
      (case s0 => exact HS.out.C HRa_1.out)
      (case t0 => exact HCa_1.out)
      (case s1 => exact HS.out.C HRa_2.out)
      (case t1 => exact HCa_2.out)
      rintro e p2 ⟨v0, v1, rfl, ho0, ho1, hb⟩
      refine ⟨_, rfl, ?_⟩
      obtain ⟨AVa_a_1, cVa_a_1, ev⟩ := Kd.R_slice ho0
      subst ev
      have HOVa_a_1 := Aside0.mk ho0
      clear ho0
      obtain ⟨AVa_a_2, cVa_a_2, ev⟩ := Kd.R_slice ho1
      subst ev
      have HOVa_a_2 := Aside0.mk ho1
      clear ho1
      have hs_ := Aside0.mk (HS.out.go hb)
      have M_p2 := Aside0.mk (Bl.size (w := p1) hb)
      have bk_ := Aside0.mk (blk_below BKh0.out hb)
      clear BKh0
      have BKh0 := bk_
      clear bk_
      clear HS hb haa_0 haa_1 haa_2 hab_0 hab_1 hab_2 hfaa hfab
      have HS := hs_
      clear hs_
      obtain ⟨haa_0, haa_1, haa_2, hfaa⟩ := boxed3 BKaa.out (HS.out.at_ (W := p2))
      obtain ⟨hab_0, hab_1, hab_2, hfab⟩ := boxed3 BKab.out (HS.out.at_ (W := p2))
      refine hK.out _ _ ⟨haa_0, haa_1, haa_2, hab_0, hab_1, hab_2⟩ (fun hHeld => ?_)
      clear hK K
      refine norm_ (a' := ?_) ?_ ?_
      rotate_left
      · show Act.put _ (some 103) _ = _; go_simp; rfl
      refine one_ (i := 3) (N := some 105) #[true, true, true, true, true, false, false, false, false, true, false, false] rfl rfl (by kernel_rfl) (by decide) (fun K hK => ?_)
      refine goes_ Try.func10 (by kernel_rfl) rfl #[.agg #[.string b_0, .slice Ab_1 b_1.length cb_1, .slice Ab_2 b_2.length cb_2]] (by rfl) rfl rfl (by (try simp only [List.map_toArray, List.map_cons, List.map_nil]); first | done | rfl) ?_
      clear hHeld
      (with_reducible refine (laws_toTala.calls k b_0 _ _ b_1 _ _ b_2 b_0 b_1 b_2 _ ?s0 ?t0 ?s1 ?t1 Tb.out).mono ?_)
      (case s0 => exact HS.out.C HRb_1.out)
      (case t0 => exact HCb_1.out)
      (case s1 => exact HS.out.C HRb_2.out)
      (case t1 => exact HCb_2.out)
      rintro e p3 ⟨v0, v1, rfl, ho0, ho1, hb⟩
      refine ⟨_, rfl, ?_⟩
      obtain ⟨AVb_b_1, cVb_b_1, ev⟩ := Kd.R_slice ho0
      subst ev
      have HOVb_b_1 := Aside0.mk ho0
      clear ho0
      obtain ⟨AVb_b_2, cVb_b_2, ev⟩ := Kd.R_slice ho1
      subst ev
      have HOVb_b_2 := Aside0.mk ho1
      clear ho1
      have hs_ := Aside0.mk (HS.out.go hb)
      have M_p3 := Aside0.mk (Bl.size (w := p2) hb)
      have bk_ := Aside0.mk (blk_below BKh0.out hb)
      clear BKh0
      have BKh0 := bk_
      clear bk_
      clear HS hb haa_0 haa_1 haa_2 hab_0 hab_1 hab_2 hfaa hfab
      have HS := hs_
      clear hs_
      obtain ⟨haa_0, haa_1, haa_2, hfaa⟩ := boxed3 BKaa.out (HS.out.at_ (W := p3))
      obtain ⟨hab_0, hab_1, hab_2, hfab⟩ := boxed3 BKab.out (HS.out.at_ (W := p3))
      refine hK.out _ _ ⟨haa_0, haa_1, haa_2, hab_0, hab_1, hab_2⟩ (fun hHeld => ?_)
      clear hK K
      refine norm_ (a' := ?_) ?_ ?_
      rotate_left
      · show Act.put _ (some 105) _ = _; go_simp; rfl
      refine one_ (i := 5) (N := some 107) #[true, true, true, true, true, true, false, false, false, true, false, false] rfl rfl (by kernel_rfl) (by decide) (fun K hK => ?_)
      refine goes_ Try.func11 (by kernel_rfl) rfl #[.agg #[.string a_0, .slice AVa_a_1 a_1.length cVa_a_1, .slice AVa_a_2 a_2.length cVa_a_2], .agg #[.string b_0, .slice AVb_b_1 b_1.length cVb_b_1, .slice AVb_b_2 b_2.length cVb_b_2], .string n] (by rfl) rfl rfl (by (try simp only [List.map_toArray, List.map_cons, List.map_nil]); first | done | rfl) ?_
      clear hHeld
      (with_reducible refine (impl_JoinTalas.calls k a_0 (fun _ => True) _ _ a_1 (fun _ => True) _ _ a_2 b_0 (fun _ => True) _ _ b_1 (fun _ => True) _ _ b_2 n R0_0 R0_1 R0_2 R1 _ ?s0 ?s1 ?s2 ?s3 I.out).mono ?_)
      (case s0 => exact Kd.V_mono (Kd.V_below (Kd.R_V HOVa_a_1.out) HS.out.at_) (fun _ _ => trivial))
      (case s1 => exact Kd.V_mono (Kd.V_below (Kd.R_V HOVa_a_2.out) HS.out.at_) (fun _ _ => trivial))
      (case s2 => exact Kd.V_mono (Kd.V_below (Kd.R_V HOVb_b_1.out) HS.out.at_) (fun _ _ => trivial))
      (case s3 => exact Kd.V_mono (Kd.V_below (Kd.R_V HOVb_b_2.out) HS.out.at_) (fun _ _ => trivial))
      rintro e p4 ⟨y0, y1, rfl, ho0, ho1, hb⟩
      refine ⟨_, rfl, ?_⟩
      have HOy0 := Aside0.mk ho0
      clear ho0
      have HOy1 := Aside0.mk ho1
      clear ho1
      have hs_ := Aside0.mk (HS.out.go hb)
      have M_p4 := Aside0.mk (Bl.size (w := p3) hb)
      have bk_ := Aside0.mk (blk_below BKh0.out hb)
      clear BKh0
      have BKh0 := bk_
      clear bk_
      clear HS hb haa_0 haa_1 haa_2 hab_0 hab_1 hab_2 hfaa hfab
      have HS := hs_
      clear hs_
      obtain ⟨haa_0, haa_1, haa_2, hfaa⟩ := boxed3 BKaa.out (HS.out.at_ (W := p4))
      obtain ⟨hab_0, hab_1, hab_2, hfab⟩ := boxed3 BKab.out (HS.out.at_ (W := p4))
      refine hK.out _ _ ⟨haa_0, haa_1, haa_2, hab_0, hab_1, hab_2⟩ (fun hHeld => ?_)
      clear hK K
      refine norm_ (a' := ?_) ?_ ?_
      rotate_left
      · show Act.put _ (some 107) _ = _; go_simp; rfl
      refine pure_ (i := 6) (N := some 101) (v := ?_) (a' := ?_) #[true, true, true, true, true, true, true, false, false, true, false, false] rfl rfl (by kernel_rfl) (fun _ _ _ h => h) (Or.inl ⟨by rfl, ?_⟩) ?_ ?_
      rotate_left
      · intro w'; go_simp; with_reducible rfl
      rotate_left
      · go_simp; rfl
      refine pure_ (i := 7) (N := some 108) (v := ?_) (a' := ?_) #[true, true, true, true, true, true, true, true, false, true, false, false] rfl rfl (by kernel_rfl) (fun _ _ _ h => h) (Or.inl ⟨by rfl, ?_⟩) ?_ ?_
      rotate_left
      · intro w'; go_simp; with_reducible rfl
      rotate_left
      · go_simp; rfl
      refine pure_ (i := 8) (N := some 109) (v := ?_) (a' := ?_) #[true, true, true, true, true, true, true, true, true, true, false, false] rfl rfl (by kernel_rfl) (fun _ _ _ h => h) (Or.inl ⟨by rfl, ?_⟩) ?_ ?_
      rotate_left
      · intro w'; go_simp; with_reducible rfl
      rotate_left
      · go_simp; rfl
      exact norm_ (by first | (simp only [putAll, Act.put, List.setIfInBounds_toArray, List.set_cons_zero, List.set_cons_succ]; done) | (simp only [putAll, Act.put, List.setIfInBounds_toArray, List.set_cons_zero, List.set_cons_succ]; rfl)) (hJ (.agg #[.string a_0, .slice AVa_a_1 a_1.length cVa_a_1, .slice AVa_a_2 a_2.length cVa_a_2], .agg #[.string b_0, .slice AVb_b_1 b_1.length cVb_b_1, .slice AVb_b_2 b_2.length cVb_b_2], y0, y1, gh0) _ ⟨hHeld, (HS.out.at_ (W := p4) (v := w21)), (Kd.R_lower (Kd.R_mono (range_R HOy0.out (HS.out.at_ (W := p4) (v := p4)) p3.heap.size (Nat.le_refl _)) (fun k_ h_ => ⟨h_.2.2, by show k_ ≠ gh0; have h2_ := h_.1; have := Glo.out; have := Ghi.out; have := M_p1.out; have := M_p2.out; have := M_p3.out; have := M_p4.out; clear hHeld; omega⟩)) (by have := M_p1.out; have := M_p2.out; have := M_p3.out; have := M_p4.out; clear hHeld; omega)), (Kd.R_lower (Kd.R_mono (range_R HOy1.out (HS.out.at_ (W := p4) (v := p4)) p3.heap.size (Nat.le_refl _)) (fun k_ h_ => ⟨h_.2.2, by show k_ ≠ gh0; have h2_ := h_.1; have := Glo.out; have := Ghi.out; have := M_p1.out; have := M_p2.out; have := M_p3.out; have := M_p4.out; clear hHeld; omega⟩)) (by have := M_p1.out; have := M_p2.out; have := M_p3.out; have := M_p4.out; clear hHeld; omega)), BKh0.out, (by show w21.heap.size ≤ gh0; have := Glo.out; have := M_p1.out; have := M_p2.out; have := M_p3.out; have := M_p4.out; clear hHeld; omega)⟩)
  rintro ⟨t0, t1, y0, y1, gh0⟩ W_ ⟨hHeld, hb, ho0, ho1, hbk, hg⟩
  (try dsimp only at hb ho0 ho1 hbk hg)
  refine norm_ (a' := ?_) ?_ ?_
  rotate_left
  · simp only [putAll, Act.put, List.setIfInBounds_toArray, List.set_cons_zero, List.set_cons_succ]; rfl
  obtain ⟨AH0_1, cH0_1, ev⟩ := Kd.R_slice ho0
  subst ev
  obtain ⟨AH0_2, cH0_2, ev⟩ := Kd.R_slice ho1
  subst ev
  obtain ⟨x0_, x1_, x2_, xf_⟩ := boxed3 hbk (Below.refl _ _)
  have xf0_ := xf_ 0
  have xf1_ := xf_ 1
  have xf2_ := xf_ 2
  refine one_ (i := 10) (N := none) #[true, true, true, true, true, true, true, true, true, true, true, false] rfl rfl (by kernel_rfl) (by decide) (fun K hK => ?_)
  refine skip_ (w1 := ?_) (by rfl) rfl ?_ ?_
  rotate_left
  · go_simp; rfl
  clear x0_ x1_ x2_ xf_ xf0_ xf1_ xf2_
  have hb2 : Below w21.heap.size w21 (((W_.setCell ⟨gh0, 0, none⟩ (.string R0_0)).setCell ⟨gh0, 1, none⟩ (.slice AH0_1 R0_1.length cH0_1)).setCell ⟨gh0, 2, none⟩ (.slice AH0_2 R0_2.length cH0_2)) := (below_set (below_set (below_set hb hg) hg) hg)
  have nbk := (blk_put (blk_put (blk_put hbk 0 (.string R0_0) rfl) 1 (.slice AH0_1 R0_1.length cH0_1) rfl) 2 (.slice AH0_2 R0_2.length cH0_2) rfl)
  have no0 := (Kd.R_far (p := ⟨gh0, 2, none⟩) (Kd.R_far (p := ⟨gh0, 1, none⟩) (Kd.R_far (p := ⟨gh0, 0, none⟩) ho0 (fun _ h_ => h_.2) (.string R0_0)) (fun _ h_ => h_.2) (.slice AH0_1 R0_1.length cH0_1)) (fun _ h_ => h_.2) (.slice AH0_2 R0_2.length cH0_2))
  have no1 := (Kd.R_far (p := ⟨gh0, 2, none⟩) (Kd.R_far (p := ⟨gh0, 1, none⟩) (Kd.R_far (p := ⟨gh0, 0, none⟩) ho1 (fun _ h_ => h_.2) (.string R0_0)) (fun _ h_ => h_.2) (.slice AH0_1 R0_1.length cH0_1)) (fun _ h_ => h_.2) (.slice AH0_2 R0_2.length cH0_2))
  clear hb hbk ho0 ho1
  generalize (((W_.setCell ⟨gh0, 0, none⟩ (.string R0_0)).setCell ⟨gh0, 1, none⟩ (.slice AH0_1 R0_1.length cH0_1)).setCell ⟨gh0, 2, none⟩ (.slice AH0_2 R0_2.length cH0_2)) = w22 at hb2 nbk no0 no1 ⊢
  have hb := hb2
  clear hb2
  have HOH0_1 := Aside0.mk no0
  clear no0
  have HOH0_2 := Aside0.mk no1
  clear no1
  have BKh0 := Aside0.mk nbk
  have Gh0 := Aside0.mk (⟨hg, blk_lt nbk⟩ : w21.heap.size ≤ gh0 ∧ gh0 < w22.heap.size)
  clear nbk hg
  have hs_ := Aside0.mk (HS.out.go hb)
  have M_w22 := Aside0.mk (Bl.size (w := w21) hb)
  clear HS
  have HS := hs_
  clear hs_
  clear hb
  clear haa_0 haa_1 haa_2 hfaa hab_0 hab_1 hab_2 hfab hw0_0 hw0_1 hw0_2 hfw0 hg0_0 hg0_1 hg0_2 hfg0
  obtain ⟨haa_0, haa_1, haa_2, hfaa⟩ := boxed3 BKaa.out (HS.out.at_ (W := w22))
  obtain ⟨hab_0, hab_1, hab_2, hfab⟩ := boxed3 BKab.out (HS.out.at_ (W := w22))
  obtain ⟨hw0_0, hw0_1, hw0_2, hfw0⟩ := boxed3 BKw0.out (HS.out.at_ (W := w22))
  obtain ⟨hg0_0, hg0_1, hg0_2, hfg0⟩ := boxed3 BKg0.out (HS.out.at_ (W := w22))
  obtain ⟨hh0_0, hh0_1, hh0_2, hfh0⟩ := boxed3 BKh0.out (HS.out.at_ (W := w22))
  refine hK.out _ _ ⟨haa_0, haa_1, haa_2, hab_0, hab_1, hab_2⟩ (fun hHeld => ?_)
  clear hK K
  refine pure_ (i := 11) (N := some 18) (v := ?_) (a' := ?_) #[true, true, true, true, true, true, true, true, true, true, true, true] rfl rfl (by kernel_rfl) (fun _ _ _ h => h) (Or.inl ⟨by rfl, ?_⟩) ?_ ?_
  rotate_left
  · intro w'; go_simp; with_reducible rfl
  rotate_left
  · go_simp; rfl
  refine done_ (by kernel_rfl) ?_
  clear hHeld
  have Q22 := trivial
  go_wp2_with (first
    | ((clear Q22); (with_reducible refine gate_callee (f := 12) rfl ?_); refine goesL_ (some _) rfl rfl Try.func12 (by kernel_rfl) rfl #[.agg #[.string R0_0, .slice AH0_1 R0_1.length cH0_1, .slice AH0_2 R0_2.length cH0_2], .agg #[.string R0_0, .slice AW0_1 R0_1.length cW0_1, .slice AW0_2 R0_2.length cW0_2]] rfl (by (try simp only [List.map_toArray, List.map_cons, List.map_nil]); first | done | rfl) ?_; (with_reducible refine (laws_eqTala.calls k R0_0 _ _ R0_1 _ _ R0_2 R0_0 _ _ R0_1 _ _ R0_2 true _ ?s0 ?t0 ?s1 ?t1 ?s2 ?t2 ?s3 ?t3 ER0.out).mono ?_); (case s0 => exact HS.out.C (RC HOH0_1.out)); (case t0 => exact RL HOH0_1.out); (case s1 => exact HS.out.C (RC HOH0_2.out)); (case t1 => exact RL HOH0_2.out); (case s2 => exact HS.out.C (RC HOW0_1.out)); (case t2 => exact RL HOW0_1.out); (case s3 => exact HS.out.C (RC HOW0_2.out)); (case t3 => exact RL HOW0_2.out); rintro e w23 ⟨rfl, hb_⟩; refine ⟨_, rfl, ?_⟩; have hb := below_of hb_; clear hb_; have hs_ := Aside0.mk (HS.out.go hb); have M_w23 := Aside0.mk (Bl.size (w := w22) hb); clear HS; have HS := hs_; clear hs_; clear hb; clear haa_0 haa_1 haa_2 hfaa hab_0 hab_1 hab_2 hfab hw0_0 hw0_1 hw0_2 hfw0 hg0_0 hg0_1 hg0_2 hfg0 hh0_0 hh0_1 hh0_2 hfh0; obtain ⟨haa_0, haa_1, haa_2, hfaa⟩ := boxed3 BKaa.out (HS.out.at_ (W := w23)); obtain ⟨hab_0, hab_1, hab_2, hfab⟩ := boxed3 BKab.out (HS.out.at_ (W := w23)); obtain ⟨hw0_0, hw0_1, hw0_2, hfw0⟩ := boxed3 BKw0.out (HS.out.at_ (W := w23)); obtain ⟨hg0_0, hg0_1, hg0_2, hfg0⟩ := boxed3 BKg0.out (HS.out.at_ (W := w23)); obtain ⟨hh0_0, hh0_1, hh0_2, hfh0⟩ := boxed3 BKh0.out (HS.out.at_ (W := w23)); have Q23 := trivial)
    | ((clear Q23); (with_reducible refine gate_callee (f := 14) rfl ?_); refine goesL_ (some _) rfl rfl Try.func14 (by kernel_rfl) rfl #[.agg #[.string R0_0, .slice AG0_1 N0_1.length cG0_1, .slice AG0_2 N0_2.length cG0_2], .int .i64 1] rfl (by (try simp only [List.map_toArray, List.map_cons, List.map_nil]); first | done | (rw [show N0_1.length = R0_1.length from HL0_1.out.symm, show N0_2.length = R0_2.length from HL0_2.out.symm] <;> rfl) | rfl) ?_; (with_reducible refine (laws_heldTala.calls k R0_0 _ _ N0_1 _ _ N0_2 1 m0 _ ?s0 ?t0 ?s1 ?t1 HR0.out).mono ?_); (case s0 => exact HS.out.C (RC HY0_1.out)); (case t0 => exact (HL0_1.out ▸ RL HY0_1.out)); (case s1 => exact HS.out.C (RC HY0_2.out)); (case t1 => exact (HL0_2.out ▸ RL HY0_2.out)); rintro e w24 ⟨rfl, hb_⟩; refine ⟨_, rfl, ?_⟩; have hb := below_of hb_; clear hb_; have hs_ := Aside0.mk (HS.out.go hb); have M_w24 := Aside0.mk (Bl.size (w := w23) hb); clear HS; have HS := hs_; clear hs_; clear hb; clear haa_0 haa_1 haa_2 hfaa hab_0 hab_1 hab_2 hfab hw0_0 hw0_1 hw0_2 hfw0 hg0_0 hg0_1 hg0_2 hfg0 hh0_0 hh0_1 hh0_2 hfh0; obtain ⟨haa_0, haa_1, haa_2, hfaa⟩ := boxed3 BKaa.out (HS.out.at_ (W := w24)); obtain ⟨hab_0, hab_1, hab_2, hfab⟩ := boxed3 BKab.out (HS.out.at_ (W := w24)); obtain ⟨hw0_0, hw0_1, hw0_2, hfw0⟩ := boxed3 BKw0.out (HS.out.at_ (W := w24)); obtain ⟨hg0_0, hg0_1, hg0_2, hfg0⟩ := boxed3 BKg0.out (HS.out.at_ (W := w24)); obtain ⟨hh0_0, hh0_1, hh0_2, hfh0⟩ := boxed3 BKh0.out (HS.out.at_ (W := w24)); have Q24 := trivial))
  go_ret
  exact ⟨by first | rfl | (simp; done) | (simp [*]; done), HS.out.at_⟩

end Go.Proofs.Ytgdiabfmjcejdaa.P
end

section
namespace Go.Proofs.Ytgdiabfmjcejdaa.Pure
open Go.RowKit Go.Proofs.Ytgdiabfmjcejdaa.P Go.Proofs.YtgdiabfmjcejdaaW.PrintWords Go.Proofs.YtgdiabfmjcejdaaW.PrintLast Go.Proofs.YtgdiabfmjcejdaaW.PrintMore
set_option linter.unusedVariables false
set_option linter.unusedSimpArgs false

theorem l00Own_eq (l : List Int) (h : l.length < 1000) : spec_l00Own.f l = some l := by
  unfold spec_l00Own.f
  simp
  omega
theorem markTala_ev (s : ByteArray) (x y : List Int) (v : Int) (hx : x.length ≤ 1048576) (hy : y.length ≤ 1048576) (h0 : 0 ≤ v) (h1 : v ≤ 1000000000) : Ev (fun k => laws_markTala.f k s x y v) (v + (x.length : Int) + (y.length : Int), marks x.length v, marks y.length (v + (x.length : Int))) := by
  unfold laws_markTala.f
  exact Ev.bind (markInt64S_ev x v (by omega) (by omega) (by omega)) (Ev.bind (markInt64S_ev y (v + (x.length : Int)) (by omega) (by omega) (by omega)) (Ev.now _))
theorem heldTala_ev (s : ByteArray) (n m : Nat) (hx : n ≤ 1048576) (hy : m ≤ 1048576) : Ev (fun k => laws_heldTala.f k s (marks n 1) (marks m (1 + (n : Int))) 1) (1 + (n : Int) + (m : Int)) := by
  unfold laws_heldTala.f
  exact Ev.bind (heldInt64S_ev n 1 (by omega) (by omega) (by omega)) (Ev.ite_neg (by omega) (Ev.bind (heldInt64S_ev m (1 + (n : Int)) (by omega) (by omega) (by omega)) (Ev.ite_neg (by omega) (Ev.now _))))
theorem bothJoinTalas (s : ByteArray) (x y : List Int) (s' : ByteArray) (x' y' : List Int) (n : ByteArray) : ∃ r0 r1 r2 c, r1.length ≤ 100 ∧ r2.length ≤ 100 ∧ Ev (fun k => spec_JoinTalas.f k s x y s' x' y' n) (r0, r1, r2, c) ∧ Ev (fun k => impl_JoinTalas.f k s x y s' x' y' n) (r0, r1, r2, c) := by
  unfold spec_JoinTalas.f impl_JoinTalas.f
  have no1 : Ev (fun k => spec_JoinTalas.j0 k n true s x y s' x' y') ((⟨#[]⟩ : ByteArray), ([] : List Int), ([] : List Int), 1) := by
    refine Ev.succ ?_
    simp only [spec_JoinTalas.j0]
    exact Ev.ite_pos (by simp) (Ev.now _)
  have no2 : Ev (fun k => impl_JoinTalas.j0 k n true s x y s' x' y') ((⟨#[]⟩ : ByteArray), ([] : List Int), ([] : List Int), 1) := by
    refine Ev.succ ?_
    simp only [impl_JoinTalas.j0]
    exact Ev.ite_pos (by simp) (Ev.now _)
  cases hv : talaB s x y with
  | false => exact ⟨_, _, _, _, by simp, by simp, Ev.bind (spec_l17Ok_ev s x y) (Ev.ite_neg (by rw [hv]; decide) no1), Ev.bind (impl_ValidTala_ev s x y) (Ev.ite_neg (by rw [hv]; decide) no2)⟩
  | true =>
    cases hv' : talaB s' x' y' with
    | false =>
      refine ⟨_, _, _, _, ?_, ?_, Ev.bind (spec_l17Ok_ev s x y) (Ev.ite_pos hv (Ev.bind (spec_l17Ok_ev s' x' y') (Ev.ite_neg (by rw [hv']; decide) no1))), Ev.bind (impl_ValidTala_ev s x y) (Ev.ite_pos hv (Ev.bind (impl_ValidTala_ev s' x' y') (Ev.ite_neg (by rw [hv']; decide) no2)))⟩ <;> simp
    | true =>
      have hA : ∀ r, Ev (fun k => spec_JoinTalas.j0 k n (!nameB n) s x y s' x' y') r → Ev (fun k => (spec_l17Ok.f k s x y).bind fun t128 => (if t128 = true then ((spec_l17Ok.f k s' x' y').bind fun t129 => (if t129 = true then ((spec_l01Name.f k n).bind fun t130 => (spec_JoinTalas.j0 k n (!t130) s x y s' x' y')) else (spec_JoinTalas.j0 k n true s x y s' x' y'))) else (spec_JoinTalas.j0 k n true s x y s' x' y'))) r := fun r h => Ev.bind (spec_l17Ok_ev s x y) (Ev.ite_pos hv (Ev.bind (spec_l17Ok_ev s' x' y') (Ev.ite_pos hv' (Ev.bind (spec_l01Name_ev n) h))))
      have hB : ∀ r, Ev (fun k => impl_JoinTalas.j0 k n (!nameB n) s x y s' x' y') r → Ev (fun k => (impl_ValidTala.f k s x y).bind fun t182 => (if t182 = true then ((impl_ValidTala.f k s' x' y').bind fun t183 => (if t183 = true then ((impl_IsName.f k n).bind fun t184 => (impl_JoinTalas.j0 k n (!t184) s x y s' x' y')) else (impl_JoinTalas.j0 k n true s x y s' x' y'))) else (impl_JoinTalas.j0 k n true s x y s' x' y'))) r := fun r h => Ev.bind (impl_ValidTala_ev s x y) (Ev.ite_pos hv (Ev.bind (impl_ValidTala_ev s' x' y') (Ev.ite_pos hv' (Ev.bind (impl_IsName_ev n) h))))
      cases hn : nameB n with
      | false =>
        rw [hn] at hA hB
        exact ⟨_, _, _, _, by simp, by simp, hA _ no1, hB _ no2⟩
      | true =>
        rw [hn] at hA hB
        obtain ⟨a1, a2, a3, -, -⟩ := talaB_parts hv
        obtain ⟨b1, b2, b3, -, -⟩ := talaB_parts hv'
        obtain ⟨z, hz⟩ : ∃ z, z = (y ++ y').set ((y.length : Int) : Int).toNat 2 := ⟨_, rfl⟩
        have lz : z.length = y.length + y'.length := by rw [hz]; simp
        have hS : ∀ r, Ev (fun k => (spec_l17Ok.f k n (x ++ x') z).bind fun t145 => (if t145 = true then (spec_JoinTalas.j1 k n (x ++ x') z) else (some ((⟨#[]⟩ : ByteArray), ([] : List Int), ([] : List Int), 5)))) r → Ev (fun k => spec_JoinTalas.j0 k n (!true) s x y s' x' y') r := by
          intro r h
          refine Ev.succ ?_
          simp only [spec_JoinTalas.j0]
          refine Ev.ite_neg (by decide) ?_
          refine Ev.bindc (l00Own_eq x (by omega)) (Ev.ite_pos (by omega) (Ev.bindc rfl ?_))
          refine Ev.bindc (l00Own_eq y (by omega)) (Ev.ite_pos (by omega) (Ev.bindc rfl ?_))
          refine Ev.ite_pos (by omega) (Ev.ite_pos (by rw [List.length_append]; omega) (Ev.bindc rfl ?_))
          rw [← hz]
          exact h
        have hI : ∀ r, Ev (fun k => (impl_ValidTala.f k n (x ++ x') z).bind fun t199 => (if t199 = true then (impl_JoinTalas.j1 k n (x ++ x') z) else (some ((⟨#[]⟩ : ByteArray), ([] : List Int), ([] : List Int), 5)))) r → Ev (fun k => impl_JoinTalas.j0 k n (!true) s x y s' x' y') r := by
          intro r h
          refine Ev.succ ?_
          simp only [impl_JoinTalas.j0]
          refine Ev.ite_neg (by decide) ?_
          refine Ev.bind (slices_Concat2_ev x x' (by omega) (by omega)) ?_
          refine Ev.bind (slices_Concat2_ev y y' (by omega) (by omega)) ?_
          refine Ev.ite_pos (by omega) (Ev.ite_pos (by rw [List.length_append]; omega) (Ev.bindc rfl ?_))
          rw [← hz]
          exact h
        cases ht : talaB n (x ++ x') z with
        | false =>
          exact ⟨_, _, _, _, by simp, by simp, hA _ (hS _ (Ev.bind (spec_l17Ok_ev n (x ++ x') z) (Ev.ite_neg (by rw [ht]; decide) (Ev.now _)))), hB _ (hI _ (Ev.bind (impl_ValidTala_ev n (x ++ x') z) (Ev.ite_neg (by rw [ht]; decide) (Ev.now _))))⟩
        | true =>
          have j1 : Ev (fun k => spec_JoinTalas.j1 k n (x ++ x') z) (n, x ++ x', z, 0) := Ev.succ (by simp only [spec_JoinTalas.j1]; exact Ev.now _)
          have j2 : Ev (fun k => impl_JoinTalas.j1 k n (x ++ x') z) (n, x ++ x', z, 0) := Ev.succ (by simp only [impl_JoinTalas.j1]; exact Ev.now _)
          exact ⟨_, _, _, _, by rw [List.length_append]; omega, by omega, hA _ (hS _ (Ev.bind (spec_l17Ok_ev n (x ++ x') z) (Ev.ite_pos ht j1))), hB _ (hI _ (Ev.bind (impl_ValidTala_ev n (x ++ x') z) (Ev.ite_pos ht j2)))⟩
theorem FnExactJoinTalas : laws_FnExactJoinTalas.Pure := by
  intro s x y s' x' y' n hs ⟨hx, _⟩ ⟨hy, _⟩ hs' ⟨hx', _⟩ ⟨hy', _⟩ hn
  by_cases hl : 1048576 < (n.size : Int)
  · exact ⟨0, .inl hl⟩
  obtain ⟨t, ht, hc⟩ := laws_szTala_ge s x y 1048576 (by omega) (by omega) hs hx hy
  rcases hc with hc | ⟨h0, h1, _, lx, ly⟩
  · exact ⟨0, .inr ⟨hl, t, ht, .inl hc⟩⟩
  obtain ⟨t', ht', hc'⟩ := laws_szTala_ge s' x' y' t (by omega) (by omega) hs' hx' hy'
  rcases hc' with hc' | ⟨h2, _, _, lx', ly'⟩
  · exact ⟨0, .inr ⟨hl, t, ht, .inr ⟨by omega, t', ht', .inl hc'⟩⟩⟩
  obtain ⟨r0, r1, r2, c, l1, l2, es, ei⟩ := bothJoinTalas s x y s' x' y' n
  have e1 := laws_toTala_ev s x y lx ly
  have e2 := laws_toTala_ev s' x' y' lx' ly'
  have q1 := laws_eqTala_self s x y lx ly
  have q2 := laws_eqTala_self s' x' y' lx' ly'
  have m1 := markTala_ev s x y 1 lx ly (by omega) (by omega)
  have m2 := markTala_ev s' x' y' (1 + (x.length : Int) + (y.length : Int)) lx' ly' (by omega) (by omega)
  have q3 := laws_eqTala_self r0 r1 r2 (by omega) (by omega)
  have m3 := markTala_ev r0 r1 r2 1 (by omega) (by omega) (by omega) (by omega)
  have m4 := heldTala_ev r0 r1.length r2.length (by omega) (by omega)
  obtain ⟨K, hK⟩ := Ev.and es (Ev.and ei (Ev.and e1 (Ev.and q1 (Ev.and e2 (Ev.and q2 (Ev.and m1 (Ev.and m2 (Ev.and q3 (Ev.and m3 m4)))))))))
  obtain ⟨k1, k2, k3, k4, k5, k6, k7, k8, k9, k10, k11⟩ := hK K (Nat.le_refl _)
  exact ⟨K, .inr ⟨hl, t, ht, .inr ⟨by omega, t', ht', .inr ⟨by omega, r0, r1, r2, c, _, _, _, _, _, _, _, _, _, k1, k2, k3, k4, k5, k6, k7, k8, by omega, k9, k10, k11, by omega⟩⟩⟩⟩

end Go.Proofs.Ytgdiabfmjcejdaa.Pure
end
