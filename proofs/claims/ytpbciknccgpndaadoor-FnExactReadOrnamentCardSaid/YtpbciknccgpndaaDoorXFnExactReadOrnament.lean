/- The pure statement of FnExactReadOrnament: the reference reads of every text of at most 1048576 bytes what the program reads. No condition. -/
import Derived.Test.YtpbciknccgpndaaDoorGRO1
import Derived.Test.YtpbciknccgpndaaDoorGRO2
section
namespace Go.Proofs.YtpbciknccgpndaaDoor.P
open Go.RowKit Go.Proofs.YtpbciknccgpndaaDoorW.PrintWords Go.Proofs.YtpbciknccgpndaaDoorW.PrintLast Go.Proofs.YtpbciknccgpndaaDoorW.PrintMore
attribute [local go_sem] max2_int min2_int max_two min_two max_three min_three max_four min_four   -- for this text's walks alone
set_option linter.unusedVariables false
set_option linter.unusedSimpArgs false

/-! ### laws_FnExactReadOrnament: function 3 (given) -/
/-- What the plain side tells: the reference gives what the program gives. -/
def laws_FnExactReadOrnament.Pure : Prop := ∀ (a0 : ByteArray), a0.size ≤ 1048576 → ∃ k, spec_ReadOrnament.f k a0 = some (impl_ReadOrnament.f a0)
set_option maxHeartbeats 8000000 in
set_option maxRecDepth 100000 in
theorem laws_FnExactReadOrnament.walk (P : laws_FnExactReadOrnament.Pure) (a0 : ByteArray) (w : World) (hl : LaidW w) : Calls Tryd.prog 3 #[.string a0] w fun e w' => e = .returned (.bool true) ∧ Below w.heap.size w w' := by
  have hu := Tryd.underlying23
  by_cases c2 : (a0.size : Int) > 1048576
  · have c2b0 : decide (1048576 < (a0.size : Int)) = true := decide_eq_true c2
    have c2b1 : decide (1048576 < a0.size) = true := decide_eq_true (by omega)
    clear c2
    go_enter Tryd.func3, Tryd.ntmps3
    go_wp2
    go_ret
    exact ⟨rfl, Below.refl _ _⟩
  have c2b0 : decide (1048576 < (a0.size : Int)) = false := decide_eq_false c2
  have c2b1 : decide (1048576 < a0.size) = false := decide_eq_false (by omega)
  have hs : a0.size ≤ 1048576 := by omega
  obtain ⟨k, hk⟩ := P a0 hs
  have hi := fun w hl => impl_ReadOrnament.calls a0 w hl hs
  obtain ⟨⟨r1, r2, r3, r4⟩, hR⟩ : ∃ z, impl_ReadOrnament.f a0 = z := ⟨_, rfl⟩
  rw [hR] at hk hi
  have C1 := Aside0.mk (fun w => spec_ReadOrnament.calls k a0 r1 r2 r3 r4 w hk)
  have C2 := Aside0.mk hi
  have C3 := Aside0.mk (fun w => laws_eqOrnament.calls r1 r2 r3 r1 r2 r3 true w (by unfold laws_eqOrnament.f; rw [if_pos rfl, if_pos rfl, if_pos rfl]))
  have HL := Aside0.mk hl
  have c7b0 : (r4 != r4) = false := by cases r4 <;> rfl
  have c7b1 : (r4 == r4) = true := by cases r4 <;> rfl
  clear hl hi hk hR hs c2
  go_enter Tryd.func3, Tryd.ntmps3
  go_wp2_with (first | ((with_reducible refine gate_callee (f := 4) rfl ?_); refine goesL_ (some _) rfl rfl Tryd.func4 (by kernel_rfl) rfl #[.string a0] rfl aw_ ?_; (refine (C1.out _).mono ?_); rintro e w1 ⟨rfl, hb⟩; refine ⟨_, rfl, ?_⟩; have HB := Aside0.mk hb; clear hb) | ((with_reducible refine gate_dst (N := 3) rfl ?_); refine box_event ?hg (N := 3) ?hd (cs := #[.int .i64 0, .int .i64 0, .int .i64 0]) (t := 23) ?hr ?_; (case hd => rfl); (case hg => rfl); (case hr => first | (go_simp; done) | (go_simp; rfl)); intro g3 hg w2 hbox hb; have n1 := below_step HB.out hb; have n2 := below_size HB.out; rw [← hg] at n2; clear HB; have HB := Aside0.mk n1; have G3 := Aside0.mk n2; have B3 := Aside0.mk hbox; clear n1 n2; clear hg hbox hb) | ((with_reducible refine gate_store (p := 3) (v := .tmp 13) rfl ?_); refine store_all (t := 23) (x := .tmp 13) (u := (.agg #[.int .i64 r1, .int .i64 r2, .int .i64 r3])) (p := 3) (g := g3) ?hg ?ho ?hN [.int .i64 r1, .int .i64 r2, .int .i64 r3] ?ha ?hx ?hu B3.out ?ht rfl ?h1 ?_; (case ho => rfl); (case hg => rfl); (case hN => rfl); (case ha => rfl); (case hx => rfl); (case hu => rfl); (case ht => kernel_rfl); (case h1 => kernel_rfl); intro w3 hw; have n1 := fill_all [.int .i64 r1, .int .i64 r2, .int .i64 r3] B3.out rfl; have n2 := fill_below G3.out [.int .i64 r1, .int .i64 r2, .int .i64 r3] w2 0 HB.out; rw [← hw] at n1 n2; clear B3 HB hw; have B3 := Aside0.mk n1; have HB := Aside0.mk n2; clear n1 n2) | ((with_reducible refine gate_callee (f := 5) rfl ?_); refine goesL_ (some _) rfl rfl Tryd.func5 (by kernel_rfl) rfl #[.string a0] rfl aw_ ?_; (refine (C2.out _ (HL.out.below HB.out)).mono ?_); rintro e w4 ⟨rfl, hb⟩; refine ⟨_, rfl, ?_⟩; have n1 := below_step HB.out hb; have n2 := blk_below B3.out hb; clear HB B3 hb; have HB := Aside0.mk n1; have B3 := Aside0.mk n2; clear n1 n2) | ((with_reducible refine gate_dst (N := 5) rfl ?_); refine box_event ?hg (N := 5) ?hd (cs := #[.int .i64 0, .int .i64 0, .int .i64 0]) (t := 23) ?hr ?_; (case hd => rfl); (case hg => rfl); (case hr => first | (go_simp; done) | (go_simp; rfl)); intro g5 hg w5 hbox hb; have n1 := below_step HB.out hb; have n2 := below_size HB.out; have n3 := blk_below B3.out hb; have n4 := Nat.ne_of_lt (blk_lt B3.out); rw [← hg] at n2 n4; clear HB B3; have HB := Aside0.mk n1; have G5 := Aside0.mk n2; have B3 := Aside0.mk n3; have N5 := Aside0.mk n4; have B5 := Aside0.mk hbox; clear n1 n2 n3 n4; clear hg hbox hb) | ((with_reducible refine gate_store (p := 5) (v := .tmp 18) rfl ?_); refine store_all (t := 23) (x := .tmp 18) (u := (.agg #[.int .i64 r1, .int .i64 r2, .int .i64 r3])) (p := 5) (g := g5) ?hg ?ho ?hN [.int .i64 r1, .int .i64 r2, .int .i64 r3] ?ha ?hx ?hu B5.out ?ht rfl ?h1 ?_; (case ho => rfl); (case hg => rfl); (case hN => rfl); (case ha => rfl); (case hx => rfl); (case hu => rfl); (case ht => kernel_rfl); (case h1 => kernel_rfl); intro w6 hw; have n1 := fill_all [.int .i64 r1, .int .i64 r2, .int .i64 r3] B5.out rfl; have n2 := fill_below G5.out [.int .i64 r1, .int .i64 r2, .int .i64 r3] w5 0 HB.out; have n3 := fill_other N5.out [.int .i64 r1, .int .i64 r2, .int .i64 r3] w5 0 B3.out; rw [← hw] at n1 n2 n3; clear B3 B5 HB hw; have HB := Aside0.mk n2; have x0 := (blk_cell n1 0).trans (show _ = some (.int .i64 r1) from rfl); have x1 := (blk_cell n1 1).trans (show _ = some (.int .i64 r2) from rfl); have x2 := (blk_cell n1 2).trans (show _ = some (.int .i64 r3) from rfl); have y0 := (blk_cell n3 0).trans (show _ = some (.int .i64 r1) from rfl); have y1 := (blk_cell n3 1).trans (show _ = some (.int .i64 r2) from rfl); have y2 := (blk_cell n3 2).trans (show _ = some (.int .i64 r3) from rfl); clear n1 n2 n3) | ((with_reducible refine gate_callee (f := 6) rfl ?_); refine goesL_ (some _) rfl rfl Tryd.func6 (by kernel_rfl) rfl #[.agg #[.int .i64 r1, .int .i64 r2, .int .i64 r3], .agg #[.int .i64 r1, .int .i64 r2, .int .i64 r3]] rfl aw_ ?_; (refine (C3.out _).mono ?_); rintro e w7 ⟨rfl, hb⟩; refine ⟨_, rfl, ?_⟩; have n1 := below_step HB.out (below_of hb); clear HB hb x0 x1 x2 y0 y1 y2; have HB := Aside0.mk n1; clear n1))
  go_ret
  exact ⟨by first | rfl | (simp; done) | (simp [*]; done), HB.out⟩

end Go.Proofs.YtpbciknccgpndaaDoor.P
end

section
namespace Go.Proofs.YtpbciknccgpndaaDoor.Pure
open Go.RowKit Go.Proofs.YtpbciknccgpndaaDoor.P Go.Proofs.YtpbciknccgpndaaDoorW.PrintWords Go.Proofs.YtpbciknccgpndaaDoorW.PrintLast Go.Proofs.YtpbciknccgpndaaDoorW.PrintMore
set_option linter.unusedVariables false
set_option linter.unusedSimpArgs false

open Go.Lib
theorem spec_l10Name_eq (n : Int) : spec_l10Name.f n = some (impl_OrnamentName.f n) := by
  unfold spec_l10Name.f impl_OrnamentName.f
  repeat' split
  all_goals rfl
theorem spec_l10Ok_eq (k d t : Int) : spec_l10Ok.f k d t = some (decide (1 ≤ k ∧ k ≤ 4 ∧ -1200 ≤ d ∧ d ≤ 1200 ∧ 1 ≤ t ∧ t ≤ 16)) := by
  rw [← valid_iff]
  rfl
/-- The number of the kind whose name a text is (nought: none). -/
def kindOf (a : List UInt8) : Int := if a = [103, 108, 105, 100, 101] then 1 else if a = [115, 104, 97, 107, 101] then 2 else if a = [103, 114, 97, 99, 101] then 3 else if a = [115, 119, 101, 108, 108] then 4 else 0
theorem name1 : (impl_OrnamentName.f 1).toList = [103, 108, 105, 100, 101] := by rw [ByteArray.toList_eq]; rfl
theorem name2 : (impl_OrnamentName.f 2).toList = [115, 104, 97, 107, 101] := by rw [ByteArray.toList_eq]; rfl
theorem name3 : (impl_OrnamentName.f 3).toList = [103, 114, 97, 99, 101] := by rw [ByteArray.toList_eq]; rfl
theorem name4 : (impl_OrnamentName.f 4).toList = [115, 119, 101, 108, 108] := by rw [ByteArray.toList_eq]; rfl
theorem least_kind (a : ByteArray) : leastM (impl_ReadOrnament.p a) 4 1 = (kindOf a.toList, decide (kindOf a.toList ≠ 0)) := by
  simp only [leastM_succ, impl_ReadOrnament.p, show (1 : Int) + 1 = 2 from rfl, show (2 : Int) + 1 = 3 from rfl, show (3 : Int) + 1 = 4 from rfl, name1, name2, name3, name4]
  unfold kindOf
  generalize a.toList = l
  by_cases h1 : l = [103, 108, 105, 100, 101]
  · subst h1; rfl
  by_cases h2 : l = [115, 104, 97, 107, 101]
  · subst h2; rfl
  by_cases h3 : l = [103, 114, 97, 99, 101]
  · subst h3; rfl
  by_cases h4 : l = [115, 119, 101, 108, 108]
  · subst h4; rfl
  have g1 : ([103, 108, 105, 100, 101] == l) = false := beq_eq_false_iff_ne.2 (fun e => h1 e.symm)
  have g2 : ([115, 104, 97, 107, 101] == l) = false := beq_eq_false_iff_ne.2 (fun e => h2 e.symm)
  have g3 : ([103, 114, 97, 99, 101] == l) = false := beq_eq_false_iff_ne.2 (fun e => h3 e.symm)
  have g4 : ([115, 119, 101, 108, 108] == l) = false := beq_eq_false_iff_ne.2 (fun e => h4 e.symm)
  rw [if_neg h1, if_neg h2, if_neg h3, if_neg h4, g1, g2, g3, g4]
  rfl
theorem kind_range (l : List UInt8) : kindOf l = 0 ∨ (1 ≤ kindOf l ∧ kindOf l ≤ 4 ∧ (impl_OrnamentName.f (kindOf l)).toList = l) := by
  unfold kindOf
  by_cases h1 : l = [103, 108, 105, 100, 101]
  · rw [if_pos h1]; exact Or.inr ⟨by decide, by decide, name1.trans h1.symm⟩
  rw [if_neg h1]
  by_cases h2 : l = [115, 104, 97, 107, 101]
  · rw [if_pos h2]; exact Or.inr ⟨by decide, by decide, name2.trans h2.symm⟩
  rw [if_neg h2]
  by_cases h3 : l = [103, 114, 97, 99, 101]
  · rw [if_pos h3]; exact Or.inr ⟨by decide, by decide, name3.trans h3.symm⟩
  rw [if_neg h3]
  by_cases h4 : l = [115, 119, 101, 108, 108]
  · rw [if_pos h4]; exact Or.inr ⟨by decide, by decide, name4.trans h4.symm⟩
  rw [if_neg h4]
  exact Or.inl rfl
theorem l10_step (ws : List ByteArray) (hw : ws.length = 3) (n x : Int) (h1 : 1 ≤ n) (h4 : n ≤ 4) (r : Int × Int × Int × Bool) (h : Ev (fun k => spec_l10Read.l0 k ws (n + 1) (if (rdOf ByteArray.empty ws 0).toList = (impl_OrnamentName.f n).toList then n else x) 0 0) r) : Ev (fun k => spec_l10Read.l0 k ws n x 0 0) r := by
  refine Ev.succ ?_
  simp only [spec_l10Read.l0]
  refine Ev.ite_pos h4 ?_
  refine Ev.ite_pos (by omega) ?_
  refine Ev.bindc (spec_l10Name_eq n) ?_
  have e : wrap64 (n + 1) = n + 1 := w64 (by omega) (by omega)
  rw [e]
  by_cases hc : (rdOf ByteArray.empty ws 0).toList = (impl_OrnamentName.f n).toList
  · rw [if_pos hc] at h
    exact Ev.ite_pos hc h
  · rw [if_neg hc] at h
    exact Ev.ite_neg hc h
theorem l10_kind (a b c : ByteArray) (r : Int × Int × Int × Bool) (h : Ev (fun k => spec_l10Read.l0 k [a, b, c] 5 (kindOf a.toList) 0 0) r) : Ev (fun k => spec_l10Read.l0 k [a, b, c] 1 0 0 0) r := by
  refine l10_step _ rfl 1 0 (by decide) (by decide) r ?_
  refine l10_step _ rfl 2 _ (by decide) (by decide) r ?_
  refine l10_step _ rfl 3 _ (by decide) (by decide) r ?_
  refine l10_step _ rfl 4 _ (by decide) (by decide) r ?_
  have e : rdOf ByteArray.empty [a, b, c] 0 = a := rfl
  rw [e, name1, name2, name3, name4]
  have hk : (if a.toList = [115, 119, 101, 108, 108] then (4 : Int) else if a.toList = [103, 114, 97, 99, 101] then 3 else if a.toList = [115, 104, 97, 107, 101] then 2 else if a.toList = [103, 108, 105, 100, 101] then 1 else 0) = kindOf a.toList := by
    unfold kindOf
    generalize a.toList = l
    by_cases h1 : l = [103, 108, 105, 100, 101]
    · subst h1; rfl
    by_cases h2 : l = [115, 104, 97, 107, 101]
    · subst h2; rfl
    by_cases h3 : l = [103, 114, 97, 99, 101]
    · subst h3; rfl
    rw [if_neg h1, if_neg h2, if_neg h3, if_neg h1, if_neg h2, if_neg h3]
  rw [hk]
  exact h
theorem text_data (k d t : Int) : (impl_OrnamentText.t k d t).data.toList = (impl_OrnamentName.f k).data.toList ++ 32 :: (itoa d ++ 32 :: itoa t) := by
  unfold impl_OrnamentText.t
  simp [ByteArray.data_append]
/-- The last test of the program tells just whether the three numbers are an ornament. -/
theorem same_text (s a b c : ByteArray) (hw : wordsB s = [a, b, c]) (hb : (numL b.data.toList).2 = true) (hc : (numL c.data.toList).2 = true) :
    (decide (kindOf a.toList ≠ 0) && ((impl_ReadOrnament.ot (kindOf a.toList) (numL b.data.toList).1 (numL c.data.toList).1).toList == s.toList)) = decide (1 ≤ kindOf a.toList ∧ kindOf a.toList ≤ 4 ∧ -1200 ≤ (numL b.data.toList).1 ∧ (numL b.data.toList).1 ≤ 1200 ∧ 1 ≤ (numL c.data.toList).1 ∧ (numL c.data.toList).1 ≤ 16) := by
  have hj := join_words s
  rw [hw] at hj
  have hj : a.data.toList ++ 32 :: (b.data.toList ++ 32 :: c.data.toList) = s.data.toList := hj
  have eb := itoa_of_num hb
  have ec := itoa_of_num hc
  generalize (numL b.data.toList).1 = d at eb ⊢
  generalize (numL c.data.toList).1 = t at ec ⊢
  unfold impl_ReadOrnament.ot
  rw [valid_iff]
  by_cases hv : 1 ≤ kindOf a.toList ∧ kindOf a.toList ≤ 4 ∧ -1200 ≤ d ∧ d ≤ 1200 ∧ 1 ≤ t ∧ t ≤ 16
  · rw [decide_eq_true hv, if_pos rfl, decide_eq_true (by omega), Bool.true_and, beq_iff_eq]
    rcases kind_range a.toList with h0 | ⟨_, _, hn⟩
    · omega
    · have hn2 : (impl_OrnamentName.f (kindOf a.toList)).data.toList = a.data.toList := by rw [← toList_data, ← toList_data]; exact hn
      rw [toList_data s, toList_data (impl_OrnamentText.t _ _ _), text_data, ← hj, eb, ec, hn2]
  · rw [decide_eq_false hv, if_neg (by simp), Bool.and_eq_false_iff]
    right
    rw [beq_eq_false_iff_ne, ByteArray.toList_eq, ByteArray.toList_eq, ← hj]
    intro e
    have := congrArg List.length e
    simp at this
theorem FnExactReadOrnament : laws_FnExactReadOrnament.Pure := by
  intro a0 hs
  refine Ev.out ?_
  unfold spec_ReadOrnament.f
  have hz : Ev (fun k => spec_l10Read.f k a0) (impl_ReadOrnament.f a0) := by
    unfold spec_l10Read.f
    refine Ev.bind (spec_l01Split_ev a0 hs) ?_
    by_cases h3 : (wordsB a0).length = 3
    · obtain ⟨a, b, c, hw⟩ : ∃ a b c, wordsB a0 = [a, b, c] := by
        match wordsB a0, h3 with
        | [a, b, c], _ => exact ⟨a, b, c, rfl⟩
      have hb : b.size ≤ 1048576 := Nat.le_trans (words_size _ _ a0 b (by show b ∈ wordsB a0; rw [hw]; simp)) hs
      have hc : c.size ≤ 1048576 := Nat.le_trans (words_size _ _ a0 c (by show c ∈ wordsB a0; rw [hw]; simp)) hs
      have hf : impl_ReadOrnament.f a0 = impl_ReadOrnament.g a0 a b c := by unfold impl_ReadOrnament.f; rw [hw]
      rw [hf, hw]
      refine Ev.ite_pos rfl ?_
      refine l10_kind a b c _ ?_
      refine Ev.succ ?_
      simp only [spec_l10Read.l0]
      refine Ev.ite_neg (by decide) ?_
      refine Ev.ite_pos (by simp) ?_
      have eb : rdOf ByteArray.empty [a, b, c] 1 = b := rfl
      have ec : rdOf ByteArray.empty [a, b, c] 2 = c := rfl
      rw [eb, ec]
      refine Ev.bind (spec_l01Number_ev b hb) ?_
      refine Ev.ite_pos (by simp) ?_
      refine Ev.bind (spec_l01Number_ev c hc) ?_
      have hsame := same_text a0 a b c hw
      unfold impl_ReadOrnament.g
      rw [least_kind, impl_ReadDecimal_eq, impl_ReadDecimal_eq]
      simp only
      by_cases h1 : (numL b.data.toList).2 = true
      · refine Ev.ite_pos h1 ?_
        by_cases h2 : (numL c.data.toList).2 = true
        · refine Ev.ite_pos h2 ?_
          have hsame := hsame h1 h2
          refine Ev.bindc (spec_l10Ok_eq _ _ _) ?_
          rw [h1, h2, Bool.and_true, Bool.and_true, hsame]
          by_cases hv : 1 ≤ kindOf a.toList ∧ kindOf a.toList ≤ 4 ∧ -1200 ≤ (numL b.data.toList).1 ∧ (numL b.data.toList).1 ≤ 1200 ∧ 1 ≤ (numL c.data.toList).1 ∧ (numL c.data.toList).1 ≤ 16
          · rw [decide_eq_true hv]
            refine Ev.ite_pos rfl ?_
            exact Ev.now _
          · rw [decide_eq_false hv]
            refine Ev.ite_neg (by decide) ?_
            exact Ev.now _
        · refine Ev.ite_neg h2 ?_
          rw [Bool.eq_false_iff.2 h2]
          simp only [Bool.and_false, Bool.false_and]
          exact Ev.now _
      · refine Ev.ite_neg h1 ?_
        rw [Bool.eq_false_iff.2 h1]
        simp only [Bool.and_false, Bool.false_and]
        exact Ev.now _
    · have hf : impl_ReadOrnament.f a0 = (0, 0, 0, false) := by
        unfold impl_ReadOrnament.f
        match wordsB a0, h3 with
        | [a, b, c], h => exact absurd rfl h
        | [], _ => rfl
        | [_], _ => rfl
        | [_, _], _ => rfl
        | _ :: _ :: _ :: _ :: _, _ => rfl
      rw [hf]
      refine Ev.ite_neg (by omega) ?_
      exact Ev.now _
  exact Ev.bind hz (Ev.now _)

end Go.Proofs.YtpbciknccgpndaaDoor.Pure
end
