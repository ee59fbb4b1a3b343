/- The pure statement of FnExactNextPermutation. No condition. -/
import Derived.Test.YtgdiabfmjcejdaaGNP1
import Derived.Test.YtgdiabfmjcejdaaGNP2
section
namespace Go.Proofs.Ytgdiabfmjcejdaa.P
open Go.RowKit Go.Proofs.YtgdiabfmjcejdaaW.PrintWords Go.Proofs.YtgdiabfmjcejdaaW.PrintLast Go.Proofs.YtgdiabfmjcejdaaW.PrintMore
attribute [local go_sem] max2_int min2_int max_two min_two max_three min_three max_four min_four   -- for this text's walks alone
set_option linter.unusedVariables false
set_option linter.unusedSimpArgs false

/-! ### laws_FnExactNextPermutation: function 5 (given) -/
/-- What the plain side tells: both give the same, and what the laws' helpers say of it. -/
def laws_FnExactNextPermutation.Pure : Prop := ∀ (x : List Int), (x.length ≤ maxLen ∧ ∀ y0 ∈ x, (Lit.int .i64 y0).wf = true) → ∃ k : Nat, 1048576 < (x.length : Int) ∨ (¬ 1048576 < (x.length : Int) ∧ ∃ (R0 : List Int) (R1 : Int) (vx : Int) (Mx : List Int) (m0 : Int) (N0 : List Int), spec_NextPermutation.f k x = some (R0, R1) ∧ impl_NextPermutation.f k x = some (R0, R1) ∧ laws_toInt64S.f k x = some x ∧ laws_eqInt64S.f k x x = some true ∧ laws_markInt64S.f k x 1 = some (vx, Mx) ∧ 0 ≤ vx ∧ laws_eqInt64S.f k R0 R0 = some true ∧ laws_markInt64S.f k R0 1 = some (m0, N0) ∧ laws_heldInt64S.f k N0 1 = some m0 ∧ 0 ≤ m0)
set_option maxHeartbeats 16000000 in
set_option maxRecDepth 100000 in
theorem laws_FnExactNextPermutation.walk (P : laws_FnExactNextPermutation.Pure) (Ax : Option Addr) (cx : Nat) (x : List Int) (w : World) (hrx : Kd.C (Kd.int .i64) w Ax x.length x) (hcx : x.length ≤ cx) (w_x : (x.length ≤ maxLen ∧ ∀ y0 ∈ x, (Lit.int .i64 y0).wf = true)) :
    Calls Try.prog 5 #[.slice Ax x.length cx] w fun e w' => e = .returned (.bool true) ∧ Below w.heap.size w w' := by
  obtain ⟨k, HP⟩ := P x w_x
  clear P w_x
  have HRx := Aside0.mk hrx
  have HCx := Aside0.mk hcx
  clear hrx hcx
  have HS := Aside0.mk (Since.start w)
  rcases HP with h1_ | ⟨h1_, HP⟩
  · have c_x : decide (1048576 < (x.length : Int)) = true := decide_eq_true h1_
    have d_x : decide (1048576 < x.length) = true := decide_eq_true (by omega)
    clear h1_
    have Q0 := trivial
    go_enter Try.func5, Try.ntmps5
    go_wp2
    go_ret
    exact ⟨sv_, HS.out.at_⟩
  have c_x : decide (1048576 < (x.length : Int)) = false := decide_eq_false h1_
  have d_x : decide (1048576 < x.length) = false := decide_eq_false (by omega)
  clear h1_
  obtain ⟨R0, R1, vx, Mx, m0, N0, pP, pI, pTx, pEx, pKx, pk0, pER0, pKR0, pHR0, pm00⟩ := HP
  have P := Aside0.mk pP
  clear pP
  have I := Aside0.mk pI
  clear pI
  have Tx := Aside0.mk pTx
  clear pTx
  have Ex := Aside0.mk pEx
  clear pEx
  have Kx := Aside0.mk pKx
  clear pKx
  have c_k : decide (vx < 0) = false := decide_eq_false (by omega)
  clear pk0
  have ER0 := Aside0.mk pER0
  clear pER0
  have KR0 := Aside0.mk pKR0
  clear pKR0
  have HR0 := Aside0.mk pHR0
  clear pHR0
  have c_m00 : decide (m0 < 0) = false := decide_eq_false (by omega)
  clear pm00
  have Q0 := trivial
  go_enter Try.func5, Try.ntmps5
  go_wp2_with (first
    | ((clear Q0); (with_reducible refine gate_callee (f := 16) rfl ?_); refine goesL_ (some _) rfl rfl Try.func16 (by kernel_rfl) rfl #[.slice Ax x.length cx] rfl aw_ ?_; (with_reducible refine (laws_toInt64S.calls k _ _ x x _ ?s0 ?t0 Tx.out).mono ?_); (case s0 => exact HS.out.C HRx.out); (case t0 => exact HCx.out); rintro e w1 ⟨v0, rfl, ho0, hb⟩; refine ⟨_, rfl, ?_⟩; obtain ⟨ATx, cTx, ev⟩ := Kd.R_slice ho0; subst ev; have HOTx := Aside0.mk (Kd.R_lower ho0 (below_size (Bl.out (w := w)))); clear ho0; have hs_ := Aside0.mk (HS.out.go hb); have M_w1 := Aside0.mk (Bl.size (w := w) hb); clear HS; have HS := hs_; clear hs_; clear hb; have Q1 := trivial)
    | ((clear Q1); (with_reducible refine gate_callee (f := 21) rfl ?_); refine goesL_ (some _) rfl rfl Try.func21 (by kernel_rfl) rfl #[.slice ATx x.length cTx] rfl aw_ ?_; (with_reducible refine (spec_NextPermutation.calls k _ _ x R0 R1 _ ?s0 ?t0 P.out).mono ?_); (case s0 => exact HS.out.C (RC HOTx.out)); (case t0 => exact RL HOTx.out); rintro e w2 ⟨v0, rfl, ho0, hb⟩; refine ⟨_, rfl, ?_⟩; obtain ⟨AW0, cW0, ev⟩ := Kd.R_slice ho0; subst ev; have HOW0 := Aside0.mk (Kd.R_lower ho0 (below_size (Bl.out (w := w1)))); clear ho0; have hs_ := Aside0.mk (HS.out.go hb); have M_w2 := Aside0.mk (Bl.size (w := w1) hb); clear HS; have HS := hs_; clear hs_; clear hb; have Q2 := trivial)
    | ((clear Q2); (with_reducible refine gate_callee (f := 16) rfl ?_); refine goesL_ (some _) rfl rfl Try.func16 (by kernel_rfl) rfl #[.slice Ax x.length cx] rfl aw_ ?_; (with_reducible refine (laws_toInt64S.calls k _ _ x x _ ?s0 ?t0 Tx.out).mono ?_); (case s0 => exact HS.out.C HRx.out); (case t0 => exact HCx.out); rintro e w3 ⟨v0, rfl, ho0, hb⟩; refine ⟨_, rfl, ?_⟩; obtain ⟨AXx, cXx, ev⟩ := Kd.R_slice ho0; subst ev; have HOXx := Aside0.mk (Kd.R_lower ho0 (below_size (Bl.out (w := w2)))); clear ho0; have hs_ := Aside0.mk (HS.out.go hb); have M_w3 := Aside0.mk (Bl.size (w := w2) hb); clear HS; have HS := hs_; clear hs_; clear hb; have Q3 := trivial)
    | ((clear Q3); (with_reducible refine gate_callee (f := 22) rfl ?_); refine goesL_ (some _) rfl rfl Try.func22 (by kernel_rfl) rfl #[.slice AXx x.length cXx] rfl aw_ ?_; (with_reducible refine (impl_NextPermutation.calls k _ _ x R0 R1 _ ?s0 ?t0 I.out).mono ?_); (case s0 => exact HS.out.C (RC HOXx.out)); (case t0 => exact RL HOXx.out); rintro e w4 ⟨v0, rfl, ho0, hb⟩; refine ⟨_, rfl, ?_⟩; obtain ⟨AG0, cG0, ev⟩ := Kd.R_slice ho0; subst ev; have HOG0 := Aside0.mk (Kd.R_lower ho0 (below_size (Bl.out (w := w3)))); clear ho0; have hs_ := Aside0.mk (HS.out.go hb); have M_w4 := Aside0.mk (Bl.size (w := w3) hb); clear HS; have HS := hs_; clear hs_; clear hb; have Q4 := trivial)
    | ((clear Q4); (with_reducible refine gate_callee (f := 18) rfl ?_); refine goesL_ (some _) rfl rfl Try.func18 (by kernel_rfl) rfl #[.slice AG0 R0.length cG0, .slice AW0 R0.length cW0] rfl aw_ ?_; (with_reducible refine (laws_eqInt64S.calls k _ _ R0 _ _ R0 true _ ?s0 ?t0 ?s1 ?t1 ER0.out).mono ?_); (case s0 => exact HS.out.C (RC HOG0.out)); (case t0 => exact RL HOG0.out); (case s1 => exact HS.out.C (RC HOW0.out)); (case t1 => exact RL HOW0.out); rintro e w5 ⟨rfl, hb_⟩; refine ⟨_, rfl, ?_⟩; have hb := below_of hb_; clear hb_; have hs_ := Aside0.mk (HS.out.go hb); have M_w5 := Aside0.mk (Bl.size (w := w4) hb); clear HS; have HS := hs_; clear hs_; clear hb; have Q5 := trivial)
    | ((clear Q5); (with_reducible refine gate_callee (f := 16) rfl ?_); refine goesL_ (some _) rfl rfl Try.func16 (by kernel_rfl) rfl #[.slice Ax x.length cx] rfl aw_ ?_; (with_reducible refine (laws_toInt64S.calls k _ _ x x _ ?s0 ?t0 Tx.out).mono ?_); (case s0 => exact HS.out.C HRx.out); (case t0 => exact HCx.out); rintro e w6 ⟨v0, rfl, ho0, hb⟩; refine ⟨_, rfl, ?_⟩; obtain ⟨AUx, cUx, ev⟩ := Kd.R_slice ho0; subst ev; have HOUx := Aside0.mk (Kd.R_lower ho0 (below_size (Bl.out (w := w5)))); clear ho0; have hs_ := Aside0.mk (HS.out.go hb); have M_w6 := Aside0.mk (Bl.size (w := w5) hb); clear HS; have HS := hs_; clear hs_; clear hb; have Q6 := trivial)
    | ((clear Q6); (with_reducible refine gate_callee (f := 18) rfl ?_); refine goesL_ (some _) rfl rfl Try.func18 (by kernel_rfl) rfl #[.slice AXx x.length cXx, .slice AUx x.length cUx] rfl aw_ ?_; (with_reducible refine (laws_eqInt64S.calls k _ _ x _ _ x true _ ?s0 ?t0 ?s1 ?t1 Ex.out).mono ?_); (case s0 => exact HS.out.C (RC HOXx.out)); (case t0 => exact RL HOXx.out); (case s1 => exact HS.out.C (RC HOUx.out)); (case t1 => exact RL HOUx.out); rintro e w7 ⟨rfl, hb_⟩; refine ⟨_, rfl, ?_⟩; have hb := below_of hb_; clear hb_; have hs_ := Aside0.mk (HS.out.go hb); have M_w7 := Aside0.mk (Bl.size (w := w6) hb); clear HS; have HS := hs_; clear hs_; clear hb; have Q7 := trivial)
    | ((clear Q7); (with_reducible refine gate_callee (f := 19) rfl ?_); refine goesL_ (some _) rfl rfl Try.func19 (by kernel_rfl) rfl #[.slice AXx x.length cXx, .int .i64 1] rfl aw_ ?_; (with_reducible refine (laws_markInt64S.calls k (fun k_ => w2.heap.size ≤ k_ ∧ k_ < w3.heap.size) (.slice AXx x.length cXx) x 1 vx Mx w _ ?s0 ?r0 Kx.out).mono ?_); (case s0 => exact HS.out.at_); (case r0 => exact Kd.R_lower (Kd.R_mono (range_R HOXx.out HS.out.at_ w2.heap.size (Nat.le_refl _)) (fun _ h_ => h_.1)) (Nat.le_trans M_w1.out (M_w2.out))); rintro e w8 ⟨rfl, hy_, hb, hkp⟩; clear hy_; refine ⟨_, rfl, ?_⟩; have nG0 := Aside0.mk (keep_R (range_R HOG0.out HS.out.at_ w3.heap.size (Nat.le_refl _)) hkp (.inr (Nat.le_refl _))); have nW0 := Aside0.mk (keep_R (range_R HOW0.out HS.out.at_ w1.heap.size (Nat.le_refl _)) hkp (.inl (Nat.le_refl _))); have M_w8 := Aside0.mk (Nat.le_trans (below_size (Bl.out (w := w7))) hkp.1); clear HS hkp HOG0 HOW0 ; have HS := Aside0.mk (Since.two hb); clear hb; have HOG0 := nG0; clear nG0; have HOW0 := nW0; clear nW0; have Q8 := trivial)
    | ((clear Q8); go_at_call 18; refine calls_of_args (args' := #[.slice AG0 R0.length cG0, .slice AW0 R0.length cW0]) aw_ ?_; (with_reducible refine (laws_eqInt64S.calls k _ _ R0 _ _ R0 true _ ?s0 ?t0 ?s1 ?t1 ER0.out).mono ?_); (case s0 => exact HS.out.C (RC HOG0.out)); (case t0 => exact RL HOG0.out); (case s1 => exact HS.out.C (RC HOW0.out)); (case t1 => exact RL HOW0.out); rintro e w9 ⟨rfl, hb_⟩; have hb := below_of hb_; clear hb_; have hs_ := Aside0.mk (HS.out.go hb); have M_w9 := Aside0.mk (Bl.size (w := w8) hb); clear HS; have HS := hs_; clear hs_; clear hb; have Q9 := trivial)
    | ((clear Q9); (with_reducible refine gate_callee (f := 19) rfl ?_); refine goesL_ (some _) rfl rfl Try.func19 (by kernel_rfl) rfl #[.slice AG0 R0.length cG0, .int .i64 1] rfl aw_ ?_; (with_reducible refine (laws_markInt64S.calls k (fun k_ => w3.heap.size ≤ k_ ∧ k_ < w4.heap.size) (.slice AG0 R0.length cG0) R0 1 m0 N0 w _ ?s0 ?r0 KR0.out).mono ?_); (case s0 => exact HS.out.at_); (case r0 => exact Kd.R_lower (Kd.R_mono (Kd.R_below HOG0.out HS.out.at_) (fun _ h_ => h_.1)) (Nat.le_trans M_w1.out (Nat.le_trans M_w2.out (M_w3.out)))); rintro e w10 ⟨rfl, hy_, hb, hkp⟩; refine ⟨_, rfl, ?_⟩; have HL0 := Aside0.mk (Kd.R_reads' hy_).1; have HY0 := Aside0.mk hy_; clear hy_; have nW0 := Aside0.mk (keep_R (Kd.R_below HOW0.out HS.out.at_) hkp (.inl (M_w3.out))); have M_w10 := Aside0.mk (Nat.le_trans (below_size (Bl.out (w := w9))) hkp.1); clear HS hkp HOW0 ; have HS := Aside0.mk (Since.two hb); clear hb; have HOW0 := nW0; clear nW0; have Q10 := trivial)
    | ((clear Q10); (with_reducible refine gate_callee (f := 20) rfl ?_); refine goesL_ (some _) rfl rfl Try.func20 (by kernel_rfl) rfl #[.slice AG0 N0.length cG0, .int .i64 1] rfl (by (try simp only [List.map_toArray, List.map_cons, List.map_nil]); first | done | (rw [show N0.length = R0.length from HL0.out.symm] <;> rfl) | rfl) ?_; (with_reducible refine (laws_heldInt64S.calls k _ _ N0 1 m0 _ ?s0 ?t0 HR0.out).mono ?_); (case s0 => exact HS.out.C (RC HY0.out)); (case t0 => exact (HL0.out ▸ RL HY0.out)); rintro e w11 ⟨rfl, hb_⟩; refine ⟨_, rfl, ?_⟩; have hb := below_of hb_; clear hb_; have hs_ := Aside0.mk (HS.out.go hb); have M_w11 := Aside0.mk (Bl.size (w := w10) hb); clear HS; have HS := hs_; clear hs_; clear hb; have Q11 := trivial)
    | ((clear Q11); (with_reducible refine gate_callee (f := 16) rfl ?_); refine goesL_ (some _) rfl rfl Try.func16 (by kernel_rfl) rfl #[.slice Ax x.length cx] rfl aw_ ?_; (with_reducible refine (laws_toInt64S.calls k _ _ x x _ ?s0 ?t0 Tx.out).mono ?_); (case s0 => exact HS.out.C HRx.out); (case t0 => exact HCx.out); rintro e w12 ⟨v0, rfl, ho0, hb⟩; refine ⟨_, rfl, ?_⟩; obtain ⟨AVx, cVx, ev⟩ := Kd.R_slice ho0; subst ev; have HOVx := Aside0.mk (Kd.R_lower ho0 (below_size (Bl.out (w := w11)))); clear ho0; have hs_ := Aside0.mk (HS.out.go hb); have M_w12 := Aside0.mk (Bl.size (w := w11) hb); clear HS; have HS := hs_; clear hs_; clear hb; have Q12 := trivial)
    | ((clear Q12); (with_reducible refine gate_callee (f := 22) rfl ?_); refine goesL_ (some _) rfl rfl Try.func22 (by kernel_rfl) rfl #[.slice AVx x.length cVx] rfl aw_ ?_; (with_reducible refine (impl_NextPermutation.calls k _ _ x R0 R1 _ ?s0 ?t0 I.out).mono ?_); (case s0 => exact HS.out.C (RC HOVx.out)); (case t0 => exact RL HOVx.out); rintro e w13 ⟨v0, rfl, ho0, hb⟩; refine ⟨_, rfl, ?_⟩; obtain ⟨AH0, cH0, ev⟩ := Kd.R_slice ho0; subst ev; have HOH0 := Aside0.mk (Kd.R_lower ho0 (below_size (Bl.out (w := w12)))); clear ho0; have hs_ := Aside0.mk (HS.out.go hb); have M_w13 := Aside0.mk (Bl.size (w := w12) hb); clear HS; have HS := hs_; clear hs_; clear hb; have Q13 := trivial)
    | ((clear Q13); (with_reducible refine gate_callee (f := 18) rfl ?_); refine goesL_ (some _) rfl rfl Try.func18 (by kernel_rfl) rfl #[.slice AH0 R0.length cH0, .slice AW0 R0.length cW0] rfl aw_ ?_; (with_reducible refine (laws_eqInt64S.calls k _ _ R0 _ _ R0 true _ ?s0 ?t0 ?s1 ?t1 ER0.out).mono ?_); (case s0 => exact HS.out.C (RC HOH0.out)); (case t0 => exact RL HOH0.out); (case s1 => exact HS.out.C (RC HOW0.out)); (case t1 => exact RL HOW0.out); rintro e w14 ⟨rfl, hb_⟩; refine ⟨_, rfl, ?_⟩; have hb := below_of hb_; clear hb_; have hs_ := Aside0.mk (HS.out.go hb); have M_w14 := Aside0.mk (Bl.size (w := w13) hb); clear HS; have HS := hs_; clear hs_; clear hb; have Q14 := trivial)
    | ((clear Q14); (with_reducible refine gate_callee (f := 20) rfl ?_); refine goesL_ (some _) rfl rfl Try.func20 (by kernel_rfl) rfl #[.slice AG0 N0.length cG0, .int .i64 1] rfl (by (try simp only [List.map_toArray, List.map_cons, List.map_nil]); first | done | (rw [show N0.length = R0.length from HL0.out.symm] <;> rfl) | rfl) ?_; (with_reducible refine (laws_heldInt64S.calls k _ _ N0 1 m0 _ ?s0 ?t0 HR0.out).mono ?_); (case s0 => exact HS.out.C (RC HY0.out)); (case t0 => exact (HL0.out ▸ RL HY0.out)); rintro e w15 ⟨rfl, hb_⟩; refine ⟨_, rfl, ?_⟩; have hb := below_of hb_; clear hb_; have hs_ := Aside0.mk (HS.out.go hb); have M_w15 := Aside0.mk (Bl.size (w := w14) hb); clear HS; have HS := hs_; clear hs_; clear hb; have Q15 := trivial))
  go_ret
  exact ⟨sv_, HS.out.at_⟩

end Go.Proofs.Ytgdiabfmjcejdaa.P
end

section
namespace Go.Proofs.Ytgdiabfmjcejdaa.Pure
open Go.RowKit Go.Proofs.Ytgdiabfmjcejdaa.P Go.Proofs.YtgdiabfmjcejdaaW.PrintWords Go.Proofs.YtgdiabfmjcejdaaW.PrintLast Go.Proofs.YtgdiabfmjcejdaaW.PrintMore
set_option linter.unusedVariables false
set_option linter.unusedSimpArgs false

theorem sumP_bound (l : List Int) : ∀ d i, d ≤ 8 → 0 ≤ sumP l d i ∧ sumP l d i ≤ 322560 * d := by
  intro d
  induction d with
  | zero => intro i _; simp [sumP]
  | succ d ih =>
    intro i hd
    have h1 := ih (i + 1) (by omega)
    have h2 := lessM_bound l (rd l i) d (i + 1)
    have h3 := fact_bound d (by omega)
    have h4 : 0 ≤ lessM l (rd l i) d (i + 1) * fact d := Int.mul_nonneg h2.1 (by omega)
    have h5 : lessM l (rd l i) d (i + 1) * fact d ≤ 8 * 40320 := Int.mul_le_mul (by omega) h3.2 (by omega) (by omega)
    simp only [sumP]
    omega
theorem bothNext (l : List Int) (hl : l.length ≤ 1048576) : ∃ r c, r.length ≤ 1000 ∧ Ev (fun k => spec_NextPermutation.f k l) (r, c) ∧ Ev (fun k => impl_NextPermutation.f k l) (r, c) := by
  obtain ⟨es, ei⟩ := bothPermutationNumber l hl
  unfold spec_NextPermutation.f impl_NextPermutation.f
  cases v1 : permB l with
  | false =>
    rw [v1, if_neg Bool.false_ne_true] at es ei
    exact ⟨[], 1, by simp, Ev.bind es (Ev.ite_neg (by decide) (Ev.now _)), Ev.bind ei (Ev.ite_neg (by decide) (Ev.now _))⟩
  | true =>
    rw [v1, if_pos rfl] at es ei
    obtain ⟨l1, l8, hdup, hin⟩ := permB_parts v1
    have hb := sumP_bound l l.length 0 l8
    obtain ⟨r, c, lr, fs, fi⟩ := bothNumbered l (sumP l l.length 0 + 1) hl
    have e : wrap64 (sumP l l.length 0 + 1) = sumP l l.length 0 + 1 := w64 (by omega) (by omega)
    refine ⟨r, c, lr, Ev.bind es (Ev.ite_pos rfl ?_), Ev.bind ei (Ev.ite_pos rfl ?_)⟩
    · show Ev (fun k => (spec_NumberedPermutation.f k l (wrap64 (sumP l l.length 0 + 1))).bind _) _
      rw [e]
      exact Ev.bind fs (Ev.now _)
    · show Ev (fun k => (impl_NumberedPermutation.f k l (wrap64 (sumP l l.length 0 + 1))).bind _) _
      rw [e]
      exact Ev.bind fi (Ev.now _)
theorem FnExactNextPermutation : laws_FnExactNextPermutation.Pure := by
  intro l ⟨hl0, _⟩
  by_cases hlong : 1048576 < (l.length : Int)
  · exact ⟨0, .inl hlong⟩
  have hl : l.length ≤ 1048576 := by omega
  obtain ⟨r, c, lr, es, ei⟩ := bothNext l hl
  obtain ⟨K, hK⟩ := Ev.and es (Ev.and ei (Ev.and (toInt64S_ev l (by omega)) (Ev.and (eqInt64S_self l (by omega)) (Ev.and (markInt64S_ev l 1 (by omega) (by omega) (by omega)) (Ev.and (eqInt64S_self r (by omega)) (Ev.and (markInt64S_ev r 1 (by omega) (by omega) (by omega)) (heldInt64S_ev r.length 1 (by omega) (by omega) (by omega))))))))
  obtain ⟨k1, k2, k3, k4, k5, k6, k7, k8⟩ := hK K (Nat.le_refl _)
  exact ⟨K, .inr ⟨hlong, r, c, _, _, _, _, k1, k2, k3, k4, k5, by omega, k6, k7, k8, by omega⟩⟩

end Go.Proofs.Ytgdiabfmjcejdaa.Pure
end
