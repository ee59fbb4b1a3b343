/- The pure statement of FnExactCountTalas. No condition. -/
import Derived.Test.YtckdinepbgilfaaGc1
section
namespace Go.Proofs.Ytckdinepbgilfaa.P
open Go.RowKit Go.Proofs.YtckdinepbgilfaaW.PrintWords Go.Proofs.YtckdinepbgilfaaW.PrintLast Go.Proofs.YtckdinepbgilfaaW.PrintMore
attribute [local go_sem] max2_int min2_int max_two min_two max_three min_three max_four min_four   -- for this text's walks alone
set_option linter.unusedVariables false
set_option linter.unusedSimpArgs false

/-! ### laws_FnExactCountTalas: function 6 -/
def laws_FnExactCountTalas.f (k : Nat) (a0 : Int) (a1 : Int) : Option (Bool) := (spec_CountTalas.f k a0 a1).bind fun bt173 => ((impl_CountTalas.f k a0 a1).bind fun bt175 => (if bt175.1 = bt173.1 then (if bt175.2 = bt173.2 then (some true) else (some false)) else (some false)))
theorem laws_FnExactCountTalas.mono : ∀ a0 a1 k, LeO (laws_FnExactCountTalas.f k a0 a1) (laws_FnExactCountTalas.f (k + 1) a0 a1) := by
  intro a0 a1 k
  unfold laws_FnExactCountTalas.f
  repeat' first
      | (with_reducible exact impl_CountTalas.mono _ _ _)
      | (with_reducible exact spec_CountTalas.mono _ _ _)
      | (with_reducible exact LeO.refl _)
      | (with_reducible exact LeO.none _)
      | (with_reducible refine LeO.ite ?_ ?_)
      | (with_reducible refine LeO.bind ?_ (fun _ => ?_))
      | exact impl_CountTalas.mono _ _ _
      | exact spec_CountTalas.mono _ _ _
      | exact LeO.none _
      | refine LeO.ite ?_ ?_
      | refine LeO.bind ?_ (fun _ => ?_)
set_option maxHeartbeats 8000000 in
set_option maxRecDepth 100000 in
theorem laws_FnExactCountTalas.calls (k : Nat) (a0 : Int) (a1 : Int) (r : Bool) (w : World) (hT : r = true) (h : laws_FnExactCountTalas.f k a0 a1 = some r) :
    Calls Try.prog 6 #[.int .i64 a0, .int .i64 a1] w fun e w' => e = .returned (.bool r) ∧ Below w.heap.size w w' := by
  have HT := Aside0.mk hT
  clear hT
  have HB := Aside0.mk (Below.refl w.heap.size w)
  have H : ((spec_CountTalas.f k a0 a1).bind fun bt173 => ((impl_CountTalas.f k a0 a1).bind fun bt175 => (if bt175.1 = bt173.1 then (if bt175.2 = bt173.2 then (some true) else (some false)) else (some false)))) = some r := h
  clear h
  replace H := Option.bind_eq_some_iff.mp H
  obtain ⟨⟨t173, t174⟩, A30, H⟩ := H
  replace H : ((impl_CountTalas.f k a0 a1).bind fun bt175 => (if bt175.1 = t173 then (if bt175.2 = t174 then (some true) else (some false)) else (some false))) = some r := H
  have A3 := Aside0.mk A30
  clear A30
  replace H := Option.bind_eq_some_iff.mp H
  obtain ⟨⟨t175, t176⟩, A40, H⟩ := H
  replace H : (if t175 = t173 then (if t176 = t174 then (some true) else (some false)) else (some false)) = some r := H
  have A4 := Aside0.mk A40
  clear A40
  by_cases c5 : t175 = t173
  · rw [if_pos c5] at H
    have c5b0 : (t175 == t173) = true := beq_iff_eq.mpr c5
    have c5b1 : (t175 != t173) = false := bne_eq_false_iff_eq.mpr c5
    clear c5
    by_cases c6 : t176 = t174
    · rw [if_pos c6] at H
      have c6b0 : (t176 == t174) = true := beq_iff_eq.mpr c6
      have c6b1 : (t176 != t174) = false := bne_eq_false_iff_eq.mpr c6
      clear c6
      obtain rfl := Option.some.inj H
      go_enter Try.func6, Try.ntmps6
      go_wp2_with (first | ((with_reducible refine gate_callee (f := 21) rfl ?_); refine goesL_ (some 12) rfl rfl Try.func21 (by kernel_rfl) rfl #[.int .i64 a0, .int .i64 a1] rfl (by (try simp only [List.map_toArray, List.map_cons, List.map_nil]); first | done | rfl | (simp only [List.length_drop, List.length_take]; rfl)) ?_; (with_reducible refine (spec_CountTalas.calls k a0 a1 t173 t174 _ A3.out).mono ?_); rintro e w7 ⟨rfl, hb⟩; refine ⟨_, rfl, ?_⟩; have n0_ := Aside0.mk (below_step (by repeat (first | (with_reducible first | exact HB.out | apply below_alloc | apply pw_below_drewN | apply below_drew1) | exact HB.out)) hb); clear HB; have HB := n0_; clear n0_; (try clear hb); (try clear hb2); (try clear hk); (try clear hi)) | ((with_reducible refine gate_callee (f := 22) rfl ?_); refine goesL_ (some 18) rfl rfl Try.func22 (by kernel_rfl) rfl #[.int .i64 a0, .int .i64 a1] rfl (by (try simp only [List.map_toArray, List.map_cons, List.map_nil]); first | done | rfl | (simp only [List.length_drop, List.length_take]; rfl)) ?_; (with_reducible refine (impl_CountTalas.calls k a0 a1 t175 t176 _ A4.out).mono ?_); rintro e w8 ⟨rfl, hb⟩; refine ⟨_, rfl, ?_⟩; have n0_ := Aside0.mk (below_step (by repeat (first | (with_reducible first | exact HB.out | apply below_alloc | apply pw_below_drewN | apply below_drew1) | exact HB.out)) hb); clear HB; have HB := n0_; clear n0_; (try clear hb); (try clear hb2); (try clear hk); (try clear hi)))
      go_ret
      exact ⟨by first | rfl | (simp [errW_none, errW_some] <;> rfl) | (simp [*, errW_none, errW_some] <;> rfl), by repeat (first | (with_reducible first | exact HB.out | apply below_alloc | apply pw_below_drewN | apply below_drew1) | exact HB.out)⟩
    · rw [if_neg c6] at H
      have c6b0 : (t176 == t174) = false := beq_eq_false_iff_ne.mpr c6
      have c6b1 : (t176 != t174) = true := bne_iff_ne.mpr c6
      exact absurd ((Option.some.inj H).trans HT.out) (by decide)
  · rw [if_neg c5] at H
    have c5b0 : (t175 == t173) = false := beq_eq_false_iff_ne.mpr c5
    have c5b1 : (t175 != t173) = true := bne_iff_ne.mpr c5
    exact absurd ((Option.some.inj H).trans HT.out) (by decide)

/-- THE ONE PURE STATEMENT of laws_FnExactCountTalas. -/
def laws_FnExactCountTalas.Pure : Prop := ∀ (a0 : Int) (a1 : Int), (Lit.int .i64 a0).wf = true → (Lit.int .i64 a1).wf = true → ∃ k, laws_FnExactCountTalas.f k a0 a1 = some true
theorem laws_FnExactCountTalas.walk (P : laws_FnExactCountTalas.Pure) (a0 : Int) (a1 : Int) (w : World)  (w0 : (Lit.int .i64 a0).wf = true) (w1 : (Lit.int .i64 a1).wf = true) :
    Calls Try.prog 6 #[.int .i64 a0, .int .i64 a1] w fun e w' => e = .returned (.bool true) ∧ Below w.heap.size w w' := by
  obtain ⟨k, h⟩ := P a0 a1 w0 w1
  refine (laws_FnExactCountTalas.calls k a0 a1 true w  rfl h).mono ?_
  rintro e w' ⟨rfl, hd⟩
  exact ⟨rfl, hd⟩

end Go.Proofs.Ytckdinepbgilfaa.P
end

section
namespace Go.Proofs.Ytckdinepbgilfaa.Pure
open Go.RowKit Go.Proofs.Ytckdinepbgilfaa.P Go.Proofs.YtckdinepbgilfaaW.PrintWords Go.Proofs.YtckdinepbgilfaaW.PrintLast Go.Proofs.YtckdinepbgilfaaW.PrintMore
set_option linter.unusedVariables false
set_option linter.unusedSimpArgs false

def ctP (c : List Int) (M n : Nat) : Nat → Int
  | 0 => 0
  | t + 1 => ctP c M n t + (if t < n ∧ n - t ≤ M then rd c (t : Int) else 0)
def ctQ (c : List Int) (n : Nat) : Nat → Int
  | 0 => 0
  | s + 1 => ctQ c n s + rd c ((n - (s + 1) : Nat) : Int)
theorem ctP_ge (c : List Int) (M n : Nat) : ∀ t, n ≤ t → ctP c M n t = ctP c M n n := by
  intro t
  induction t with
  | zero => intro h; rw [show n = 0 by omega]
  | succ t ih =>
    intro h
    by_cases e : n = t + 1
    · rw [e]
    · simp only [ctP]
      rw [if_neg (by omega), ih (by omega)]
      omega
theorem ctP_zero (c : List Int) (M n : Nat) : ∀ t, t + M ≤ n → ctP c M n t = 0 := by
  intro t
  induction t with
  | zero => intro _; rfl
  | succ t ih =>
    intro h
    simp only [ctP]
    rw [if_neg (by omega), ih (by omega)]
    rfl
theorem ctP_Q (c : List Int) (M n : Nat) : ∀ m, m ≤ n → m ≤ M → ctP c M n n = ctP c M n (n - m) + ctQ c n m := by
  intro m
  induction m with
  | zero => intro _ _; simp [ctQ]
  | succ m ih =>
    intro h1 h2
    rw [ih (by omega) (by omega), show n - m = (n - (m + 1)) + 1 by omega]
    simp only [ctP, ctQ]
    rw [if_pos (by omega)]
    omega
theorem ctP_eq (c : List Int) (M n : Nat) : ctQ c n (min M n) = ctP c M n n := by
  rw [ctP_Q c M n (min M n) (by omega) (by omega)]
  have : ctP c M n (n - min M n) = 0 := by
    by_cases h : M ≤ n
    · exact ctP_zero c M n _ (by omega)
    · rw [show n - min M n = 0 by omega]
      rfl
  omega
theorem ctP_bound (c : List Int) (M n : Nat) (K : Int) (hK : 0 ≤ K) (B : Nat) (hb : ∀ j : Nat, j ≤ B → 0 ≤ rd c (j : Int) ∧ rd c (j : Int) ≤ K) : ∀ t, t ≤ B + 1 → 0 ≤ ctP c M n t ∧ ctP c M n t ≤ K * t := by
  intro t
  induction t with
  | zero => intro _; simp [ctP]
  | succ t ih =>
    intro h
    have h1 := ih (by omega)
    have h2 := hb t (by omega)
    have e : K * ((t + 1 : Nat) : Int) = K * t + K := by rw [Int.natCast_add, Int.mul_add]; simp
    simp only [ctP]
    rw [e]
    split <;> omega
theorem ctQ_bound (c : List Int) (n : Nat) (K : Int) (hK : 0 ≤ K) (B : Nat) (hn : n ≤ B) (hb : ∀ j : Nat, j ≤ B → 0 ≤ rd c (j : Int) ∧ rd c (j : Int) ≤ K) : ∀ s, 0 ≤ ctQ c n s ∧ ctQ c n s ≤ K * s := by
  intro s
  induction s with
  | zero => simp [ctQ]
  | succ s ih =>
    have h2 := hb (n - (s + 1)) (by omega)
    have e : K * ((s + 1 : Nat) : Int) = K * s + K := by rw [Int.natCast_add, Int.mul_add]; simp
    simp only [ctQ]
    rw [e]
    omega
theorem rd_set_self {m : List Int} {i : Nat} {v : Int} (h : i < m.length) : rd (m.set i v) (i : Int) = v := by
  rw [rd_at (by simpa using h)]
  simp
theorem rd_set_other {m : List Int} {i j : Nat} {v : Int} (h : i ≠ j) : rd (m.set i v) (j : Int) = rd m (j : Int) := by
  simp only [rd, Int.toNat_natCast, List.getD_eq_getElem?_getD]
  rw [List.getElem?_set_ne h]
theorem ints_ext {a b : List Int} (hl : a.length = b.length) (h : ∀ j : Nat, j < a.length → rd a (j : Int) = rd b (j : Int)) : a = b := by
  refine List.ext_getElem hl fun j h1 h2 => ?_
  have := h j h1
  rwa [rd_at h1, rd_at h2] at this
def ctN (c : List Int) (M B : Nat) : List Int := (List.range (B + 1)).map fun n => ctP c M n n
theorem ctN_rd (c : List Int) (M B n : Nat) (h : n ≤ B) : rd (ctN c M B) (n : Int) = ctP c M n n := by
  rw [rd_at (by simp [ctN]; omega)]
  simp [ctN]
theorem ctN_len (c : List Int) (M B : Nat) : (ctN c M B).length = B + 1 := by simp [ctN]
theorem ct_impl_l2 (B M : Nat) (c : List Int) (tot rk : Int) (hB : B ≤ 32) (hM : M ≤ 16) (K : Int) (K0 : 0 ≤ K) (K1 : K ≤ 1000000000000) (hb : ∀ j : Nat, j ≤ B → 0 ≤ rd c (j : Int) ∧ rd c (j : Int) ≤ K) (t : Nat) (ht : t ≤ B) (r : Int × Int)
    (hn : ∀ x : List Int, x.length = B + 1 → (∀ n : Nat, n ≤ B → rd x (n : Int) = ctP c M n (t + 1)) → Ev (fun k => impl_CountTalas.l1 k (B : Int) (M : Int) tot x rk c ((B + 1 : Nat) : Int) ((t + 1 : Nat) : Int)) r) :
    ∀ (d s : Nat) (x : List Int), M + 1 - s = d → 1 ≤ s → x.length = B + 1 → (∀ n : Nat, n ≤ B → rd x (n : Int) = ctP c M n t + (if t < n ∧ n - t ≤ M ∧ n - t < s then rd c (t : Int) else 0)) →
      Ev (fun k => impl_CountTalas.l2 k (B : Int) (M : Int) tot x (t : Int) (rd c (t : Int)) (s : Int) rk c ((B + 1 : Nat) : Int) (t : Int)) r := by
  intro d
  induction d with
  | zero =>
    intro s x hd hs hx hi
    refine Ev.succ ?_
    simp only [impl_CountTalas.l2]
    refine Ev.ite_neg (by omega) ?_
    rw [w64 (x := (t : Int) + 1) (by omega) (by omega)]
    refine hn x hx (fun n hnB => ?_)
    rw [hi n hnB]
    simp only [ctP]
    by_cases e : t < n ∧ n - t ≤ M
    · rw [if_pos (by omega), if_pos e]
    · rw [if_neg (by omega), if_neg e]
  | succ d ih =>
    intro s x hd hs hx hi
    refine Ev.succ ?_
    simp only [impl_CountTalas.l2]
    rw [w64 (x := (t : Int) + (s : Int)) (by omega) (by omega), w64 (x := (s : Int) + 1) (by omega) (by omega), w64 (x := (t : Int) + 1) (by omega) (by omega)]
    refine Ev.ite_pos (by omega) ?_
    by_cases hB' : (t : Int) + (s : Int) ≤ (B : Int)
    · refine Ev.ite_pos hB' (Ev.ite_pos (by omega) (Ev.ite_pos (by omega) ?_))
      have hp := ctP_bound c M (t + s) K K0 B hb t (by omega)
      have hc := hb t ht
      have hKt : K * (t : Int) ≤ K * 33 := Int.mul_le_mul_of_nonneg_left (by omega) K0
      have e0 : rd x ((t : Int) + (s : Int)) = ctP c M (t + s) t := by
        have := hi (t + s) (by omega)
        rw [if_neg (by omega)] at this
        rw [show (t : Int) + (s : Int) = ((t + s : Nat) : Int) by omega]
        omega
      rw [e0, w64 (x := ctP c M (t + s) t + rd c (t : Int)) (by omega) (by omega), show ((t : Int) + (s : Int)).toNat = t + s by omega]
      have := ih (s + 1) (x.set (t + s) (ctP c M (t + s) t + rd c (t : Int))) (by omega) (by omega) (by simpa using hx) (fun n hnB => by
        by_cases e : n = t + s
        · subst e
          rw [rd_set_self (by omega), if_pos (by omega)]
        · rw [rd_set_other (by omega), hi n hnB]
          by_cases e2 : t < n ∧ n - t ≤ M ∧ n - t < s
          · rw [if_pos e2, if_pos (by omega)]
          · rw [if_neg e2, if_neg (by omega)])
      simpa using this
    · refine Ev.ite_neg hB' ?_
      refine hn x hx (fun n hnB => ?_)
      rw [hi n hnB]
      simp only [ctP]
      by_cases e : t < n ∧ n - t ≤ M
      · rw [if_pos (by omega), if_pos e]
      · rw [if_neg (by omega), if_neg e]
theorem ct_impl_l1 (B M : Nat) (c : List Int) (tot rk : Int) (hB : B ≤ 32) (hM : M ≤ 16) (K : Int) (K0 : 0 ≤ K) (K1 : K ≤ 1000000000000) (hc : c.length = B + 1) (hb : ∀ j : Nat, j ≤ B → 0 ≤ rd c (j : Int) ∧ rd c (j : Int) ≤ K) (t0 : 0 ≤ tot) (t1 : tot ≤ 1000000000000000) (k0 : 0 ≤ rk) (k1 : rk ≤ 8) (r : Int × Int)
    (hn : Ev (fun k => impl_CountTalas.l0 k (B : Int) (M : Int) (ctN c M B) (tot + ctP c M B B) (rk + 1)) r) :
    ∀ (d t : Nat) (x : List Int), B + 1 - t = d → t ≤ B + 1 → x.length = B + 1 → (∀ n : Nat, n ≤ B → rd x (n : Int) = ctP c M n t) → Ev (fun k => impl_CountTalas.l1 k (B : Int) (M : Int) tot x rk c ((B + 1 : Nat) : Int) (t : Int)) r := by
  intro d
  induction d with
  | zero =>
    intro t x hd ht hx hi
    have hp := ctP_bound c M B K K0 B hb B (by omega)
    have hKB : K * (B : Int) ≤ K * 33 := Int.mul_le_mul_of_nonneg_left (by omega) K0
    have ex : x = ctN c M B := ints_ext (by rw [ctN_len, hx]) (fun j hj => by rw [ctN_rd c M B j (by omega), hi j (by omega), ctP_ge c M j t (by omega)])
    refine Ev.succ ?_
    simp only [impl_CountTalas.l1]
    rw [w64 (x := rk + 1) (by omega) (by omega), ex, ctN_rd c M B B (by omega), w64 (x := tot + ctP c M B B) (by omega) (by omega)]
    exact Ev.ite_neg (by omega) (Ev.ite_pos (by omega) (Ev.ite_pos (by rw [ctN_len]; omega) hn))
  | succ d ih =>
    intro t x hd ht hx hi
    refine Ev.succ ?_
    simp only [impl_CountTalas.l1]
    refine Ev.ite_pos (by omega) (Ev.ite_pos (by omega) (Ev.ite_pos (by omega) ?_))
    have := ct_impl_l2 B M c tot rk hB hM K K0 K1 hb t (by omega) r (fun y hy hi' => ih (t + 1) y (by omega) (by omega) hy hi') M 1 x (by omega) (by omega) hx (fun n hnB => by
      rw [hi n hnB, if_neg (by omega)]
      omega)
    simpa using this
theorem ct_spec_l2 (B M : Nat) (c : List Int) (tot rk : Int) (hB : B ≤ 32) (hM : M ≤ 16) (K : Int) (K0 : 0 ≤ K) (K1 : K ≤ 1000000000000) (hc : c.length = B + 1) (hb : ∀ j : Nat, j ≤ B → 0 ≤ rd c (j : Int) ∧ rd c (j : Int) ≤ K) (n : Nat) (h1 : 1 ≤ n) (hnB : n ≤ B) (r : Int × Int)
    (hn : ∀ x : List Int, x.length = B + 1 → (∀ m : Nat, m ≤ B → rd x (m : Int) = if m < n + 1 then ctP c M m m else 0) → Ev (fun k => spec_CountTalas.l1 k (B : Int) (M : Int) tot c rk x ((n + 1 : Nat) : Int)) r) :
    ∀ (d s : Nat) (x : List Int), min M n - s = d → s ≤ min M n → x.length = B + 1 → (∀ m : Nat, m ≤ B → rd x (m : Int) = if m < n then ctP c M m m else if m = n then ctQ c n s else 0) →
      Ev (fun k => spec_CountTalas.l2 k (B : Int) (M : Int) tot c rk x (n : Int) ((s + 1 : Nat) : Int)) r := by
  intro d
  induction d with
  | zero =>
    intro s x hd hs hx hi
    refine Ev.succ ?_
    simp only [spec_CountTalas.l2]
    refine Ev.bindc (spec_l00Min_eq _ _) (Ev.ite_neg (by omega) ?_)
    rw [w64 (x := (n : Int) + 1) (by omega) (by omega)]
    refine hn x hx (fun m hm => ?_)
    rw [hi m hm]
    by_cases e1 : m < n
    · rw [if_pos e1, if_pos (by omega)]
    · rw [if_neg e1]
      by_cases e2 : m = n
      · rw [if_pos e2, if_pos (by omega), e2, show s = min M n by omega, ctP_eq]
      · rw [if_neg e2, if_neg (by omega)]
  | succ d ih =>
    intro s x hd hs hx hi
    have hq := ctQ_bound c n K K0 B hnB hb s
    have hKs : K * (s : Int) ≤ K * 33 := Int.mul_le_mul_of_nonneg_left (by omega) K0
    have hc2 := hb (n - (s + 1)) (by omega)
    refine Ev.succ ?_
    simp only [spec_CountTalas.l2]
    have en : rd x (n : Int) = ctQ c n s := by
      have := hi n hnB
      rw [if_neg (by omega), if_pos rfl] at this
      exact this
    refine Ev.bindc (spec_l00Min_eq _ _) (Ev.ite_pos (by omega) (Ev.ite_pos (by omega) (Ev.ite_pos (by omega) ?_)))
    rw [w64 (x := (n : Int) - ((s + 1 : Nat) : Int)) (by omega) (by omega), show (n : Int) - ((s + 1 : Nat) : Int) = ((n - (s + 1) : Nat) : Int) by omega, en, w64 (x := ctQ c n s + rd c ((n - (s + 1) : Nat) : Int)) (by omega) (by omega), w64 (x := ((s + 1 : Nat) : Int) + 1) (by omega) (by omega), Int.toNat_natCast]
    refine Ev.ite_pos (by omega) (Ev.ite_pos (by omega) ?_)
    have := ih (s + 1) (x.set n (ctQ c n s + rd c ((n - (s + 1) : Nat) : Int))) (by omega) (by omega) (by simpa using hx) (fun m hm => by
      by_cases e : m = n
      · subst e
        rw [rd_set_self (by omega), if_neg (by omega), if_pos rfl]
        rfl
      · rw [rd_set_other (by omega), hi m hm, if_neg e, if_neg e])
    exact this
theorem ct_spec_l1 (B M : Nat) (c : List Int) (tot rk : Int) (hB : B ≤ 32) (hM : M ≤ 16) (K : Int) (K0 : 0 ≤ K) (K1 : K ≤ 1000000000000) (hc : c.length = B + 1) (hb : ∀ j : Nat, j ≤ B → 0 ≤ rd c (j : Int) ∧ rd c (j : Int) ≤ K) (t0 : 0 ≤ tot) (t1 : tot ≤ 1000000000000000) (k0 : 0 ≤ rk) (k1 : rk ≤ 8) (r : Int × Int)
    (hn : Ev (fun k => spec_CountTalas.l0 k (B : Int) (M : Int) (tot + ctP c M B B) (ctN c M B) (rk + 1)) r) :
    ∀ (d n : Nat) (x : List Int), B + 1 - n = d → 1 ≤ n → n ≤ B + 1 → x.length = B + 1 → (∀ m : Nat, m ≤ B → rd x (m : Int) = if m < n then ctP c M m m else 0) → Ev (fun k => spec_CountTalas.l1 k (B : Int) (M : Int) tot c rk x (n : Int)) r := by
  intro d
  induction d with
  | zero =>
    intro n x hd h1 hn' hx hi
    have hp := ctP_bound c M B K K0 B hb B (by omega)
    have hKB : K * (B : Int) ≤ K * 33 := Int.mul_le_mul_of_nonneg_left (by omega) K0
    have ex : x = ctN c M B := ints_ext (by rw [ctN_len, hx]) (fun j hj => by rw [ctN_rd c M B j (by omega), hi j (by omega), if_pos (by omega)])
    refine Ev.succ ?_
    simp only [spec_CountTalas.l1]
    rw [w64 (x := rk + 1) (by omega) (by omega), ex, ctN_rd c M B B (by omega), w64 (x := tot + ctP c M B B) (by omega) (by omega)]
    exact Ev.ite_neg (by omega) (Ev.ite_pos (by omega) (Ev.ite_pos (by rw [ctN_len]; omega) hn))
  | succ d ih =>
    intro n x hd h1 hn' hx hi
    refine Ev.succ ?_
    simp only [spec_CountTalas.l1]
    refine Ev.ite_pos (by omega) ?_
    have := ct_spec_l2 B M c tot rk hB hM K K0 K1 hc hb n h1 (by omega) r (fun y hy hi' => ih (n + 1) y (by omega) (by omega) (by omega) hy hi') (min M n) 0 x (by omega) (by omega) hx (fun m hm => by
      rw [hi m hm]
      by_cases e : m < n
      · rw [if_pos e, if_pos e]
      · rw [if_neg e, if_neg e]
        by_cases e2 : m = n
        · rw [if_pos e2]
          rfl
        · rw [if_neg e2])
    simpa using this
theorem rd_zeros (n : Nat) (j : Nat) : rd (List.replicate n (0 : Int)) (j : Int) = 0 := by
  simp only [rd, Int.toNat_natCast, List.getD_eq_getElem?_getD, List.getElem?_replicate]
  split <;> rfl
def ctK : Nat → Int
  | 0 => 1406408618241
  | d + 1 => ctK d / 33
theorem ctK_le : ∀ d, 0 ≤ ctK d ∧ ctK d ≤ 1406408618241 := by
  intro d
  induction d with
  | zero => simp [ctK]
  | succ d ih =>
    simp only [ctK]
    omega
theorem ct_l0 (B M : Nat) (hB0 : 1 ≤ B) (hB : B ≤ 32) (hM : M ≤ 16) : ∀ (d : Nat) (c : List Int) (tot K : Int), d ≤ 8 → c.length = B + 1 → 0 ≤ K → K ≤ ctK d → (∀ j : Nat, j ≤ B → 0 ≤ rd c (j : Int) ∧ rd c (j : Int) ≤ K) → 0 ≤ tot → tot + (d : Int) * 100000000000000 ≤ 900000000000000 →
    ∃ r, Ev (fun k => spec_CountTalas.l0 k (B : Int) (M : Int) tot c (8 - (d : Int))) (r, 0) ∧ Ev (fun k => impl_CountTalas.l0 k (B : Int) (M : Int) c tot (8 - (d : Int))) (r, 0) := by
  intro d
  induction d with
  | zero =>
    intro c tot K hd hc K0 K1 hb t0 t1
    refine ⟨tot, Ev.succ ?_, Ev.succ ?_⟩
    · simp only [spec_CountTalas.l0]
      exact Ev.ite_neg (by omega) (Ev.now _)
    · simp only [impl_CountTalas.l0]
      exact Ev.ite_neg (by omega) (Ev.now _)
  | succ d ih =>
    intro c tot K hd hc K0 K1 hb t0 t1
    have hK1 : K * 33 ≤ ctK d := by
      simp only [ctK] at K1
      omega
    have hKd := ctK_le d
    have hbn : ∀ j : Nat, j ≤ B → 0 ≤ rd (ctN c M B) (j : Int) ∧ rd (ctN c M B) (j : Int) ≤ K * 33 := fun j hj => by
      rw [ctN_rd c M B j hj]
      have := ctP_bound c M j K K0 B hb j (by omega)
      have h2 : K * (j : Int) ≤ K * 33 := Int.mul_le_mul_of_nonneg_left (by omega) K0
      omega
    have hBB := hbn B (by omega)
    rw [ctN_rd c M B B (by omega)] at hBB
    obtain ⟨r, r1, r2⟩ := ih (ctN c M B) (tot + ctP c M B B) (K * 33) (by omega) (ctN_len c M B) (by omega) hK1 hbn (by omega) (by omega)
    have ed : 8 - ((d + 1 : Nat) : Int) + 1 = 8 - (d : Int) := by omega
    rw [← ed] at r1 r2
    have hz : (wrap64 ((B : Int) + 1)).toNat = B + 1 := by rw [w64 (by omega) (by omega)]; omega
    refine ⟨r, Ev.succ ?_, Ev.succ ?_⟩
    · simp only [spec_CountTalas.l0]
      rw [hz]
      refine Ev.ite_pos (by omega) (Ev.ite_pos (by rw [w64 (by omega) (by omega)]; omega) (Ev.ite_pos (by omega) ?_))
      have := ct_spec_l1 B M c tot (8 - ((d + 1 : Nat) : Int)) hB hM K K0 (by omega) hc hb t0 (by omega) (by omega) (by omega) (r, 0) r1 B 1 (List.replicate (B + 1) 0) (by omega) (by omega) (by omega) (by simp) (fun m hm => by
        rw [rd_zeros]
        by_cases e : m < 1
        · rw [if_pos e, show m = 0 by omega]
          rfl
        · rw [if_neg e])
      simpa using this
    · simp only [impl_CountTalas.l0]
      rw [hz]
      refine Ev.ite_pos (by omega) (Ev.ite_pos (by rw [w64 (by omega) (by omega)]; omega) (Ev.ite_pos (by omega) ?_))
      rw [hc]
      have := ct_impl_l1 B M c tot (8 - ((d + 1 : Nat) : Int)) hB hM K K0 (by omega) hc hb t0 (by omega) (by omega) (by omega) (r, 0) r2 (B + 1) 0 (List.replicate (B + 1) 0) (by omega) (by omega) (by simp) (fun m hm => by
        rw [rd_zeros]
        rfl)
      simpa using this
theorem bothCountTalas (a b : Int) : ∃ r, Ev (fun k => spec_CountTalas.f k a b) r ∧ Ev (fun k => impl_CountTalas.f k a b) r := by
  have js : Ev (fun k => spec_CountTalas.j0 k a b true) (0, 2) := by
    refine Ev.succ ?_
    simp only [spec_CountTalas.j0]
    exact Ev.ite_pos (by decide) (Ev.now _)
  have ji : Ev (fun k => impl_CountTalas.j0 k a b true) (0, 2) := by
    refine Ev.succ ?_
    simp only [impl_CountTalas.j0]
    exact Ev.ite_pos (by decide) (Ev.now _)
  unfold spec_CountTalas.f impl_CountTalas.f
  cases h1 : (decide (1 ≤ a) && decide (a ≤ 32)) with
  | false => exact ⟨(0, 2), Ev.bindc (spec_l00In_eq _ _ _) (Ev.ite_neg (by rw [h1]; decide) js), Ev.bindc (impl_within_eq _ _ _) (Ev.ite_neg (by rw [h1]; decide) ji)⟩
  | true =>
    cases h2 : (decide (1 ≤ b) && decide (b ≤ 16)) with
    | false => exact ⟨(0, 2), Ev.bindc (spec_l00In_eq _ _ _) (Ev.ite_pos h1 (Ev.bindc (spec_l00In_eq _ _ _) (by rw [h2]; exact js))), Ev.bindc (impl_within_eq _ _ _) (Ev.ite_pos h1 (Ev.bindc (impl_within_eq _ _ _) (by rw [h2]; exact ji)))⟩
    | true =>
      have g1 := h1
      have g2 := h2
      rw [Bool.and_eq_true, decide_eq_true_eq, decide_eq_true_eq] at g1 g2
      obtain ⟨B, rfl⟩ := Int.eq_ofNat_of_zero_le (show 0 ≤ a by omega)
      obtain ⟨M, rfl⟩ := Int.eq_ofNat_of_zero_le (show 0 ≤ b by omega)
      obtain ⟨r, r1, r2⟩ := ct_l0 B M (by omega) (by omega) (by omega) 8 ((List.replicate (B + 1) (0 : Int)).set 0 1) 0 1 (by omega) (by simp) (by omega) (by decide) (fun j hj => by
        by_cases e : j = 0
        · subst e
          rw [rd_set_self (by simp)]
          omega
        · rw [rd_set_other (by omega), rd_zeros]
          omega) (by omega) (by omega)
      have hz : (wrap64 ((B : Int) + 1)).toNat = B + 1 := by rw [w64 (by omega) (by omega)]; omega
      have fs : Ev (fun k => spec_CountTalas.j0 k (B : Int) (M : Int) false) (r, 0) := by
        refine Ev.succ ?_
        simp only [spec_CountTalas.j0]
        rw [hz]
        exact Ev.ite_neg (by decide) (Ev.ite_pos (by rw [w64 (by omega) (by omega)]; omega) (Ev.ite_pos (by omega) (Ev.bindc rfl (Ev.ite_pos (by simp; try omega) (by simpa using r1)))))
      have fi : Ev (fun k => impl_CountTalas.j0 k (B : Int) (M : Int) false) (r, 0) := by
        refine Ev.succ ?_
        simp only [impl_CountTalas.j0]
        rw [hz]
        exact Ev.ite_neg (by decide) (Ev.ite_pos (by rw [w64 (by omega) (by omega)]; omega) (Ev.ite_pos (by omega) (Ev.bindc rfl (Ev.ite_pos (by simp; try omega) (by simpa using r2)))))
      exact ⟨(r, 0), Ev.bindc (spec_l00In_eq _ _ _) (Ev.ite_pos h1 (Ev.bindc (spec_l00In_eq _ _ _) (by rw [h2]; exact fs))), Ev.bindc (impl_within_eq _ _ _) (Ev.ite_pos h1 (Ev.bindc (impl_within_eq _ _ _) (by rw [h2]; exact fi)))⟩
theorem FnExactCountTalas : laws_FnExactCountTalas.Pure := by
  intro a b _ _
  refine Ev.out (r := true) ?_
  unfold laws_FnExactCountTalas.f
  obtain ⟨r, es, ei⟩ := bothCountTalas a b
  exact Ev.bind es (Ev.bind ei (Ev.ite_pos rfl (Ev.ite_pos rfl (Ev.now _))))

end Go.Proofs.Ytckdinepbgilfaa.Pure
end
