/- Texts of this seat, merged: QSpecL08SearchRun, QSpecL08Season, QSpecL08Until, QSpecL08All. -/
import Derived.Test.YtgdiabfmjcejdaaGCP1
import Derived.Test.YtgdiabfmjcejdaaGCP6
import Derived.Test.YtgdiabfmjcejdaaGCP7
section
namespace Go.Proofs.Ytgdiabfmjcejdaa.P
open Go.RowKit Go.Proofs.YtgdiabfmjcejdaaW.PrintWords Go.Proofs.YtgdiabfmjcejdaaW.PrintLast Go.Proofs.YtgdiabfmjcejdaaW.PrintMore
attribute [local go_sem] max2_int min2_int max_two min_two max_three min_three max_four min_four   -- for this text's walks alone
set_option linter.unusedVariables false
set_option linter.unusedSimpArgs false
/-! ### spec_l08Search_run: function 87 (given) -/
mutual
def spec_l08Search_run.f : Nat → List S75 → Int → Int → Int → Int → List Int → Int → Int → Bool → Option (Int × Int × Bool)
  | 0, _, _, _, _, _, _, _, _, _ => none
  | k + 1, L, un, se, bud, m, ps, co, no, fu => if ps.length < 10000 then spec_l08Search_run.l0 k L un se bud 0 m ps (wrap64 (co + 1)) no fu else none
def spec_l08Search_run.l0 : Nat → List S75 → Int → Int → Int → Int → Int → List Int → Int → Int → Bool → Option (Int × Int × Bool)
  | 0, _, _, _, _, _, _, _, _, _, _ => none
  | k + 1, L, un, se, bud, i, m, ps, co, no, fu => if i < (L.length : Int) then (if fu = true then some (co, no, fu) else if 0 ≤ i then ((spec_l00Has.f k ps i).bind fun t => if t = true then spec_l08Search_run.l0 k L un se bud (wrap64 (i + 1)) m ps co no fu else ((spec_l08Fits.f (rd_T75 L i).f0 (rd_T75 L i).f1 (rd_T75 L i).f2 (rd_T75 L i).f3 (rd_T75 L i).f4 (rd_T75 L i).f5 m se).bind fun t2 => if t2 = true then (if un < wrap64 (m + (rd_T75 L i).f4) then spec_l08Search_run.l0 k L un se bud (wrap64 (i + 1)) m ps co no fu else if no = bud then some (co, no, true) else if ps.length < 10000 then ((spec_l08Search_run.f k L un se bud (wrap64 (m + (rd_T75 L i).f4)) (ps ++ [i]) co (wrap64 (no + 1)) fu).bind fun z => spec_l08Search_run.l0 k L un se bud (wrap64 (i + 1)) m ps z.1 z.2.1 z.2.2) else none) else spec_l08Search_run.l0 k L un se bud (wrap64 (i + 1)) m ps co no fu)) else none) else some (co, no, fu)
end
theorem spec_l08Search_run.mono_l : ∀ k, (∀ y0 y1 y2 y3 y4 y5 y6 y7 y8 y9, LeO (spec_l08Search_run.l0 k y0 y1 y2 y3 y4 y5 y6 y7 y8 y9) (spec_l08Search_run.l0 (k + 1) y0 y1 y2 y3 y4 y5 y6 y7 y8 y9)) ∧ (∀ y0 y1 y2 y3 y4 y5 y6 y7 y8, LeO (spec_l08Search_run.f k y0 y1 y2 y3 y4 y5 y6 y7 y8) (spec_l08Search_run.f (k + 1) y0 y1 y2 y3 y4 y5 y6 y7 y8))
 | 0 => ⟨fun _ _ _ _ _ _ _ _ _ _  r h => by simp [spec_l08Search_run.l0] at h, fun _ _ _ _ _ _ _ _ _  r h => by simp [spec_l08Search_run.f] at h⟩
 | k + 1 => by
  obtain ⟨ih0, ih1⟩ := spec_l08Search_run.mono_l k
  refine ⟨?_, ?_⟩
  · intro y0 y1 y2 y3 y4 y5 y6 y7 y8 y9
    unfold spec_l08Search_run.l0
    repeat' first
    | (with_reducible exact ih0 _ _ _ _ _ _ _ _ _ _)
    | (with_reducible exact ih1 _ _ _ _ _ _ _ _ _)
    | (with_reducible exact spec_l00Has.mono _ _ _)
    | (with_reducible exact LeO.refl _)
    | (with_reducible exact LeO.none _)
    | (with_reducible refine LeO.ite ?_ ?_)
    | (with_reducible refine LeO.bind ?_ (fun _ => ?_))
    | exact ih0 _ _ _ _ _ _ _ _ _ _
    | exact ih1 _ _ _ _ _ _ _ _ _
    | exact spec_l00Has.mono _ _ _
    | exact LeO.refl _
    | exact LeO.none _
    | refine LeO.ite ?_ ?_
    | refine LeO.bind ?_ (fun _ => ?_)
  · intro y0 y1 y2 y3 y4 y5 y6 y7 y8
    unfold spec_l08Search_run.f
    repeat' first
    | (with_reducible exact ih0 _ _ _ _ _ _ _ _ _ _)
    | (with_reducible exact ih1 _ _ _ _ _ _ _ _ _)
    | (with_reducible exact spec_l00Has.mono _ _ _)
    | (with_reducible exact LeO.refl _)
    | (with_reducible exact LeO.none _)
    | (with_reducible refine LeO.ite ?_ ?_)
    | (with_reducible refine LeO.bind ?_ (fun _ => ?_))
    | exact ih0 _ _ _ _ _ _ _ _ _ _
    | exact ih1 _ _ _ _ _ _ _ _ _
    | exact spec_l00Has.mono _ _ _
    | exact LeO.refl _
    | exact LeO.none _
    | refine LeO.ite ?_ ?_
    | refine LeO.bind ?_ (fun _ => ?_)
theorem spec_l08Search_run.cells {e : Nat} {w0 W : World} {g t : Nat} {a0 a1 a2 a3 a4 a5 a6 a7 a8 a9 : Value} {vp vb : Value} {ps bs : List Int} (h : Srch e w0 W g t #[a0, a1, a2, a3, a4, a5, a6, a7, a8, a9] vp ps vb bs) : W.cell? ⟨g, 0, none⟩ = some a0 ∧ W.cell? ⟨g, 1, none⟩ = some a1 ∧ W.cell? ⟨g, 2, none⟩ = some a2 ∧ W.cell? ⟨g, 3, none⟩ = some a3 ∧ W.cell? ⟨g, 4, none⟩ = some a4 ∧ W.cell? ⟨g, 5, none⟩ = some a5 ∧ W.cell? ⟨g, 6, none⟩ = some a6 ∧ W.cell? ⟨g, 7, none⟩ = some a7 ∧ W.cell? ⟨g, 8, none⟩ = some a8 ∧ W.cell? ⟨g, 9, none⟩ = some a9 ∧ ∀ j, W.frozen? ⟨g, j, none⟩ = false :=
  ⟨h.cell 0 rfl, h.cell 1 rfl, h.cell 2 rfl, h.cell 3 rfl, h.cell 4 rfl, h.cell 5 rfl, h.cell 6 rfl, h.cell 7 rfl, h.cell 8 rfl, h.cell 9 rfl, fun j => h.froz j⟩
theorem spec_l08Search_run.el {w : World} {ad : Addr} {n : Nat} {L : List S75} {x : S75} (h : Kd.C k75 w (some ad) n L) (i : Int) (h0 : 0 ≤ i) (h1 : i < n) (hx : rd_T75 L i = x) : w.cell? (ad.add (i.toNat * 6)) = some (.string x.f0) ∧ w.cell? ⟨((ad.add (i.toNat * 6))).block, ((ad.add (i.toNat * 6))).off + 1, none⟩ = some (.int .i64 x.f1) ∧ w.cell? ⟨((ad.add (i.toNat * 6))).block, ((ad.add (i.toNat * 6))).off + 2, none⟩ = some (.int .i64 x.f2) ∧ w.cell? ⟨((ad.add (i.toNat * 6))).block, ((ad.add (i.toNat * 6))).off + 3, none⟩ = some (.int .i64 x.f3) ∧ w.cell? ⟨((ad.add (i.toNat * 6))).block, ((ad.add (i.toNat * 6))).off + 4, none⟩ = some (.int .i64 x.f4) ∧ w.cell? ⟨((ad.add (i.toNat * 6))).block, ((ad.add (i.toNat * 6))).off + 5, none⟩ = some (.int .i64 x.f5) := by
  subst hx
  obtain ⟨ad', e_, h⟩ := at_T75 h i h0 h1
  cases e_
  exact h
theorem spec_l08Search_run.own (l : List Int) (h : l.length < 10000) : spec_l00Own.f l = some l := by
  unfold spec_l00Own.f
  simp only [Option.bind_some, List.nil_append, List.length_nil, Nat.zero_add]
  rw [if_pos (by omega)]
theorem spec_l08Search_run.bef_l (l0 l1 : List Int) (h : l0.length < 10000) : ∀ (n i : Nat), l0.length - i = n → ∃ k t, spec_l06Before.l0 k l0 l1 i = some t
  | 0, i, e => ⟨2, _, by simp only [spec_l06Before.l0, spec_l06Before.j1]; rw [if_neg (by omega), if_neg Bool.false_ne_true]⟩
  | n + 1, i, e => by
    have hi : i < l0.length := by omega
    by_cases c : i < l1.length
    · by_cases c2 : rd l0 i = rd l1 i
      · obtain ⟨k, t, ht⟩ := spec_l08Search_run.bef_l l0 l1 h n (i + 1) (by omega)
        refine ⟨k + 2, t, ?_⟩
        simp only [spec_l06Before.l0, spec_l06Before.j1]
        rw [if_pos (by omega), if_pos (decide_eq_true (by omega)), if_pos (by omega), if_pos (by omega), if_pos (by omega), if_pos c2, show wrap64 ((i : Int) + 1) = ((i + 1 : Nat) : Int) by unfold wrap64; omega]
        exact ht
      · refine ⟨2, decide (rd l0 i < rd l1 i), ?_⟩
        simp only [spec_l06Before.l0, spec_l06Before.j1]
        rw [if_pos (by omega), if_pos (decide_eq_true (by omega)), if_pos (by omega), if_pos (by omega), if_pos (by omega), if_neg c2]
    · refine ⟨2, decide ((l0.length : Int) < (l1.length : Int)), ?_⟩
      simp only [spec_l06Before.l0, spec_l06Before.j1]
      rw [if_pos (by omega), if_neg (by simpa using c)]
theorem spec_l08Search_run.bef (l0 l1 : List Int) (h : l0.length < 10000) : ∃ k t, spec_l06Before.f k l0 l1 = some t := spec_l08Search_run.bef_l l0 l1 h _ 0 rfl
set_option maxHeartbeats 16000000 in
set_option maxRecDepth 100000 in
theorem spec_l08Search_run.calls (AL : Option Addr) (cL : Nat) (L : List S75) (un se bud : Int) (w0 : World) (hrL : Kd.C k75 w0 AL L.length L) (hcL : L.length ≤ cL) : ∀ (K k : Nat), k ≤ K → ∀ (g : Nat) (m wt : Int) (vp : Value) (ps : List Int) (vb : Value) (bs : List Int) (mo co no : Int) (fu : Bool) (co' no' : Int) (fu' : Bool) (w : World), Srch 2 w0 w g 74 #[.slice AL L.length cL, .int .i64 un, .int .i64 se, vp, vb, .int .i64 (mo), .int .i64 (co), .int .i64 (no), .int .i64 bud, .bool fu] (vp) (ps) (vb) (bs) → spec_l08Search_run.f k L un se bud m ps co no fu = some (co', no', fu') →
    Calls Try.prog 87 #[.pointer (some ⟨g, 0, none⟩), .int .i64 m, .int .i64 wt] w fun e w' => e = .returned (.tuple #[]) ∧ ∃ vp' vb' bs' mo', Srch 2 w0 w' g 74 #[.slice AL L.length cL, .int .i64 un, .int .i64 se, vp', vb', .int .i64 (mo'), .int .i64 (co'), .int .i64 (no'), .int .i64 bud, .bool fu'] (vp') (ps) (vb') (bs') := by
  intro K
  induction K with
  | zero =>
    intro k hk g m wt vp ps vb bs mo co no fu co' no' fu' w hI h
    obtain rfl : k = 0 := by omega
    exact absurd h (by simp [spec_l08Search_run.f])
  | succ K IH =>
    intro k hk g m wt vp ps vb bs mo co no fu co' no' fu' w hI h
    cases k with
    | zero => exact absurd h (by simp [spec_l08Search_run.f])
    | succ k =>
      have HI := Aside0.mk hI
      have HRL := Aside0.mk hrL
      have HCL := Aside0.mk hcL
      have IH := Aside0.mk IH
      have HK := Aside0.mk hk
      clear hI hk hrL hcL
      have huS := Try.underlying74
      have huI := Try.underlying75
      simp only [spec_l08Search_run.f] at h
      by_cases cm0 : ps.length < 10000
      rotate_left
      · rw [if_neg cm0] at h
        exact absurd h (by simp)
      rw [if_pos cm0] at h
      have E0 := Aside0.mk (spec_l08Search_run.own ps cm0)
      have CM := Aside0.mk cm0
      have H := Aside0.mk h
      clear cm0 h
      obtain ⟨Ap, cp, ep⟩ := Kd.R_slice HI.out.R1
      subst ep
      obtain ⟨Ab, cb, eb⟩ := Kd.R_slice HI.out.R2
      subst eb
      obtain ⟨x0, x1, x2, x3, x4, x5, x6, x7, x8, x9, xf⟩ := spec_l08Search_run.cells HI.out
      go_enter Try.func87, Try.ntmps87
      go_upto_region 1 with (fail)
      obtain ⟨c1, hc1⟩ : ∃ z_ : Int, wrap64 (co + 1) = z_ := ⟨_, rfl⟩
      rw [hc1] at H ⊢
      clear hc1
      have hi_ := HI.out.set 6 (.int .i64 c1) (cs' := #[.slice AL L.length cL, .int .i64 un, .int .i64 se, .slice Ap ps.length cp, .slice Ab bs.length cb, .int .i64 (mo), .int .i64 (c1), .int .i64 (no), .int .i64 bud, .bool fu]) rfl
      obtain ⟨w1, hw_⟩ : ∃ W_, World.setCell w ⟨g, 6, none⟩ (.int .i64 c1) = W_ := ⟨_, rfl⟩
      rw [hw_] at hi_ ⊢
      clear hw_
      clear HI
      clear x0 x1 x2 x3 x4 x5 x6 x7 x8 x9 xf 
      have HI := Aside0.mk hi_
      clear hi_
      obtain ⟨x0, x1, x2, x3, x4, x5, x6, x7, x8, x9, xf⟩ := spec_l08Search_run.cells HI.out
      go_cut [39] (fun v39 wz => ∃ (q_ : Bool), v39 = .bool q_ ∧ Aside0 (Srch 2 w0 wz g 74 #[.slice AL L.length cL, .int .i64 un, .int .i64 se, .slice Ap ps.length cp, .slice Ab bs.length cb, .int .i64 (mo), .int .i64 (c1), .int .i64 (no), .int .i64 bud, .bool fu] (.slice Ap ps.length cp) (ps) (.slice Ab bs.length cb) (bs)))
      case first =>
        clear H
        by_cases cw : mo < wt
        · have cw0 := decide_eq_true cw
          clear cw
          refine start_ (n := 25) (S := fun w' => w'.cell? ⟨g, 5, none⟩ = some (.int .i64 mo) ∧ w'.cell? ⟨g, 3, none⟩ = some (.slice Ap ps.length cp) ∧ w'.cell? ⟨g, 4, none⟩ = some (.slice Ab bs.length cb)) (ds := []) #[false, false, false, false, false, false, false, false, false, false, false, false, false, false, false, false, false, false, false, false, false, false, false, false, false] (by kernel_rfl) rfl rfl ⟨x5, x3, x4⟩ (fun hHeld => ?_)
          have hi_ := HI.out.drew
          obtain ⟨wd1, hw_⟩ : ∃ W_, World.drew w1 = W_ := ⟨_, rfl⟩
          rw [hw_] at hi_ hHeld ⊢
          clear hw_
          clear HI
          clear x0 x1 x2 x3 x4 x5 x6 x7 x8 x9 xf 
          have HI := Aside0.mk hi_
          clear hi_
          obtain ⟨x0, x1, x2, x3, x4, x5, x6, x7, x8, x9, xf⟩ := spec_l08Search_run.cells HI.out
          refine pv_ 0 15 #[true, false, false, false, false, false, false, false, false, false, false, false, false, false, false, false, false, false, false, false, false, false, false, false, false] ?_
          refine pv_ 1 16 #[true, true, false, false, false, false, false, false, false, false, false, false, false, false, false, false, false, false, false, false, false, false, false, false, false] ?_
          refine pv_ 2 17 #[true, true, true, false, false, false, false, false, false, false, false, false, false, false, false, false, false, false, false, false, false, false, false, false, false] ?_
          refine pv_ 3 18 #[true, true, true, true, false, false, false, false, false, false, false, false, false, false, false, false, false, false, false, false, false, false, false, false, false] ?_
          refine tv_ hHeld 4 19 #[true, true, true, true, true, false, false, false, false, false, false, false, false, false, false, false, false, false, false, false, false, false, false, false, false] ?_
          refine pv_ 5 20 #[true, true, true, true, true, true, false, false, false, false, false, false, false, false, false, false, false, false, false, false, false, false, false, false, false] ?_
          refine pv_ 6 21 #[true, true, true, true, true, true, true, false, false, false, false, false, false, false, false, false, false, false, false, false, false, false, false, false, false] ?_
          (try rw [cw0])
          refine uv_ 7 22 #[true, true, true, true, true, true, true, true, false, false, false, false, false, false, false, false, false, false, false, false, false, false, false, false, false] ?_
          refine uv_ 8 23 #[true, true, true, true, true, true, true, true, true, false, false, false, false, false, false, false, false, false, false, false, false, false, false, false, false] ?_
          refine uv_ 9 24 #[true, true, true, true, true, true, true, true, true, true, false, false, false, false, false, false, false, false, false, false, false, false, false, false, false] ?_
          refine uv_ 10 25 #[true, true, true, true, true, true, true, true, true, true, true, false, false, false, false, false, false, false, false, false, false, false, false, false, false] ?_
          refine uv_ 11 26 #[true, true, true, true, true, true, true, true, true, true, true, true, false, false, false, false, false, false, false, false, false, false, false, false, false] ?_
          refine uv_ 12 27 #[true, true, true, true, true, true, true, true, true, true, true, true, true, false, false, false, false, false, false, false, false, false, false, false, false] ?_
          refine uv_ 13 28 #[true, true, true, true, true, true, true, true, true, true, true, true, true, true, false, false, false, false, false, false, false, false, false, false, false] ?_
          refine uv_ 14 29 #[true, true, true, true, true, true, true, true, true, true, true, true, true, true, true, false, false, false, false, false, false, false, false, false, false] ?_
          refine uv_ 15 30 #[true, true, true, true, true, true, true, true, true, true, true, true, true, true, true, true, false, false, false, false, false, false, false, false, false] ?_
          refine uv_ 16 31 #[true, true, true, true, true, true, true, true, true, true, true, true, true, true, true, true, true, false, false, false, false, false, false, false, false] ?_
          refine uv_ 17 32 #[true, true, true, true, true, true, true, true, true, true, true, true, true, true, true, true, true, true, false, false, false, false, false, false, false] ?_
          refine uv_ 18 33 #[true, true, true, true, true, true, true, true, true, true, true, true, true, true, true, true, true, true, true, false, false, false, false, false, false] ?_
          refine uv_ 19 34 #[true, true, true, true, true, true, true, true, true, true, true, true, true, true, true, true, true, true, true, true, false, false, false, false, false] ?_
          refine uv_ 20 35 #[true, true, true, true, true, true, true, true, true, true, true, true, true, true, true, true, true, true, true, true, true, false, false, false, false] ?_
          refine uv_ 21 36 #[true, true, true, true, true, true, true, true, true, true, true, true, true, true, true, true, true, true, true, true, true, true, false, false, false] ?_
          refine uv_ 22 37 #[true, true, true, true, true, true, true, true, true, true, true, true, true, true, true, true, true, true, true, true, true, true, true, false, false] ?_
          refine uv_ 23 38 #[true, true, true, true, true, true, true, true, true, true, true, true, true, true, true, true, true, true, true, true, true, true, true, true, false] ?_
          refine pv_ 24 39 #[true, true, true, true, true, true, true, true, true, true, true, true, true, true, true, true, true, true, true, true, true, true, true, true, true] ?_
          refine done_ (by kernel_rfl) ?_
          clear hHeld
          (try go_wp2)
          go_meet
          case rel => exact ⟨true, rfl, HI⟩
        · have cw0 := decide_eq_false cw
          clear cw
          refine start_ (n := 25) (S := fun w' => w'.cell? ⟨g, 5, none⟩ = some (.int .i64 mo) ∧ w'.cell? ⟨g, 3, none⟩ = some (.slice Ap ps.length cp) ∧ w'.cell? ⟨g, 4, none⟩ = some (.slice Ab bs.length cb)) (ds := []) #[false, false, false, false, false, false, false, false, false, false, false, false, false, false, false, false, false, false, false, false, false, false, false, false, false] (by kernel_rfl) rfl rfl ⟨x5, x3, x4⟩ (fun hHeld => ?_)
          have hi_ := HI.out.drew
          obtain ⟨wd2, hw_⟩ : ∃ W_, World.drew w1 = W_ := ⟨_, rfl⟩
          rw [hw_] at hi_ hHeld ⊢
          clear hw_
          clear HI
          clear x0 x1 x2 x3 x4 x5 x6 x7 x8 x9 xf 
          have HI := Aside0.mk hi_
          clear hi_
          obtain ⟨x0, x1, x2, x3, x4, x5, x6, x7, x8, x9, xf⟩ := spec_l08Search_run.cells HI.out
          refine pv_ 0 15 #[true, false, false, false, false, false, false, false, false, false, false, false, false, false, false, false, false, false, false, false, false, false, false, false, false] ?_
          refine pv_ 1 16 #[true, true, false, false, false, false, false, false, false, false, false, false, false, false, false, false, false, false, false, false, false, false, false, false, false] ?_
          refine pv_ 2 17 #[true, true, true, false, false, false, false, false, false, false, false, false, false, false, false, false, false, false, false, false, false, false, false, false, false] ?_
          refine pv_ 3 18 #[true, true, true, true, false, false, false, false, false, false, false, false, false, false, false, false, false, false, false, false, false, false, false, false, false] ?_
          refine tv_ hHeld 4 19 #[true, true, true, true, true, false, false, false, false, false, false, false, false, false, false, false, false, false, false, false, false, false, false, false, false] ?_
          refine pv_ 5 20 #[true, true, true, true, true, true, false, false, false, false, false, false, false, false, false, false, false, false, false, false, false, false, false, false, false] ?_
          refine pv_ 6 21 #[true, true, true, true, true, true, true, false, false, false, false, false, false, false, false, false, false, false, false, false, false, false, false, false, false] ?_
          (try rw [cw0])
          by_cases cq : wt = mo
          rotate_left
          · have cq0 : (wt == mo) = false := beq_eq_false_iff_ne.mpr cq
            clear cq
            refine pv_ 7 22 #[true, true, true, true, true, true, true, true, false, false, false, false, false, false, false, false, false, false, false, false, false, false, false, false, false] ?_
            refine pv_ 8 23 #[true, true, true, true, true, true, true, true, true, false, false, false, false, false, false, false, false, false, false, false, false, false, false, false, false] ?_
            refine pv_ 9 24 #[true, true, true, true, true, true, true, true, true, true, false, false, false, false, false, false, false, false, false, false, false, false, false, false, false] ?_
            refine pv_ 10 25 #[true, true, true, true, true, true, true, true, true, true, true, false, false, false, false, false, false, false, false, false, false, false, false, false, false] ?_
            refine tv_ hHeld 11 26 #[true, true, true, true, true, true, true, true, true, true, true, true, false, false, false, false, false, false, false, false, false, false, false, false, false] ?_
            refine pv_ 12 27 #[true, true, true, true, true, true, true, true, true, true, true, true, true, false, false, false, false, false, false, false, false, false, false, false, false] ?_
            refine pv_ 13 28 #[true, true, true, true, true, true, true, true, true, true, true, true, true, true, false, false, false, false, false, false, false, false, false, false, false] ?_
            refine uv_ 14 29 #[true, true, true, true, true, true, true, true, true, true, true, true, true, true, true, false, false, false, false, false, false, false, false, false, false] ?_
            refine uv_ 15 30 #[true, true, true, true, true, true, true, true, true, true, true, true, true, true, true, true, false, false, false, false, false, false, false, false, false] ?_
            refine uv_ 16 31 #[true, true, true, true, true, true, true, true, true, true, true, true, true, true, true, true, true, false, false, false, false, false, false, false, false] ?_
            refine uv_ 17 32 #[true, true, true, true, true, true, true, true, true, true, true, true, true, true, true, true, true, true, false, false, false, false, false, false, false] ?_
            refine uv_ 18 33 #[true, true, true, true, true, true, true, true, true, true, true, true, true, true, true, true, true, true, true, false, false, false, false, false, false] ?_
            refine uv_ 19 34 #[true, true, true, true, true, true, true, true, true, true, true, true, true, true, true, true, true, true, true, true, false, false, false, false, false] ?_
            refine uv_ 20 35 #[true, true, true, true, true, true, true, true, true, true, true, true, true, true, true, true, true, true, true, true, true, false, false, false, false] ?_
            refine uv_ 21 36 #[true, true, true, true, true, true, true, true, true, true, true, true, true, true, true, true, true, true, true, true, true, true, false, false, false] ?_
            refine uv_ 22 37 #[true, true, true, true, true, true, true, true, true, true, true, true, true, true, true, true, true, true, true, true, true, true, true, false, false] ?_
            refine pv_ 23 38 #[true, true, true, true, true, true, true, true, true, true, true, true, true, true, true, true, true, true, true, true, true, true, true, true, false] ?_
            refine pv_ 24 39 #[true, true, true, true, true, true, true, true, true, true, true, true, true, true, true, true, true, true, true, true, true, true, true, true, true] ?_
            refine done_ (by kernel_rfl) ?_
            clear hHeld
            (try go_wp2)
            go_meet
            case rel => exact ⟨false, rfl, HI⟩
          have cq0 : (wt == mo) = true := beq_iff_eq.mpr cq
          clear cq
          obtain ⟨kb, tb, hbt⟩ := spec_l08Search_run.bef ps bs CM.out
          have EB := Aside0.mk hbt
          clear hbt
          refine pv_ 7 22 #[true, true, true, true, true, true, true, true, false, false, false, false, false, false, false, false, false, false, false, false, false, false, false, false, false] ?_
          refine pv_ 8 23 #[true, true, true, true, true, true, true, true, true, false, false, false, false, false, false, false, false, false, false, false, false, false, false, false, false] ?_
          refine pv_ 9 24 #[true, true, true, true, true, true, true, true, true, true, false, false, false, false, false, false, false, false, false, false, false, false, false, false, false] ?_
          refine pv_ 10 25 #[true, true, true, true, true, true, true, true, true, true, true, false, false, false, false, false, false, false, false, false, false, false, false, false, false] ?_
          refine tv_ hHeld 11 26 #[true, true, true, true, true, true, true, true, true, true, true, true, false, false, false, false, false, false, false, false, false, false, false, false, false] ?_
          refine pv_ 12 27 #[true, true, true, true, true, true, true, true, true, true, true, true, true, false, false, false, false, false, false, false, false, false, false, false, false] ?_
          refine pv_ 13 28 #[true, true, true, true, true, true, true, true, true, true, true, true, true, true, false, false, false, false, false, false, false, false, false, false, false] ?_
          refine pv_ 14 29 #[true, true, true, true, true, true, true, true, true, true, true, true, true, true, true, false, false, false, false, false, false, false, false, false, false] ?_
          refine pv_ 15 30 #[true, true, true, true, true, true, true, true, true, true, true, true, true, true, true, true, false, false, false, false, false, false, false, false, false] ?_
          refine pv_ 16 31 #[true, true, true, true, true, true, true, true, true, true, true, true, true, true, true, true, true, false, false, false, false, false, false, false, false] ?_
          refine tv_ hHeld 17 32 #[true, true, true, true, true, true, true, true, true, true, true, true, true, true, true, true, true, true, false, false, false, false, false, false, false] ?_
          refine pv_ 18 33 #[true, true, true, true, true, true, true, true, true, true, true, true, true, true, true, true, true, true, true, false, false, false, false, false, false] ?_
          refine pv_ 19 34 #[true, true, true, true, true, true, true, true, true, true, true, true, true, true, true, true, true, true, true, true, false, false, false, false, false] ?_
          refine pv_ 20 35 #[true, true, true, true, true, true, true, true, true, true, true, true, true, true, true, true, true, true, true, true, true, false, false, false, false] ?_
          refine tv_ hHeld 21 36 #[true, true, true, true, true, true, true, true, true, true, true, true, true, true, true, true, true, true, true, true, true, true, false, false, false] ?_
          refine one_ (i := 22) (N := some 37) #[true, true, true, true, true, true, true, true, true, true, true, true, true, true, true, true, true, true, true, true, true, true, true, false, false] rfl rfl (by kernel_rfl) (by decide) (fun K_ hK => ?_)
          refine goes_ Try.func107 (by kernel_rfl) rfl #[.slice Ap ps.length cp, .slice Ab bs.length cb] (by rfl) rfl rfl aw_ ?_
          clear hHeld
          (with_reducible refine (spec_l06Before.calls kb _ _ ps _ _ bs tb _ ?sp ?tp ?sb ?tb EB.out).mono ?_)
          (case sp => exact (Kd.R_reads' HI.out.R1).2.2)
          (case tp => exact (Kd.R_reads' HI.out.R1).2.1)
          (case sb => exact (Kd.R_reads' HI.out.R2).2.2)
          (case tb => exact (Kd.R_reads' HI.out.R2).2.1)
          rintro e w2 ⟨rfl, hb_⟩
          refine ⟨_, rfl, ?_⟩
          have hb := below_of hb_
          clear hb_
          have hi_ := HI.out.below hb
          clear HI
          clear x0 x1 x2 x3 x4 x5 x6 x7 x8 x9 xf 
          have HI := Aside0.mk hi_
          clear hi_
          obtain ⟨x0, x1, x2, x3, x4, x5, x6, x7, x8, x9, xf⟩ := spec_l08Search_run.cells HI.out
          clear hb
          refine hK.out _ _ ⟨x5, x3, x4⟩ (fun hHeld => ?_)
          clear hK K_
          refine norm_ (a' := ?_) ?_ ?_
          rotate_left
          · show Act.put _ (some 37) _ = _; go_simp; rfl
          refine pv_ 23 38 #[true, true, true, true, true, true, true, true, true, true, true, true, true, true, true, true, true, true, true, true, true, true, true, true, false] ?_
          refine pv_ 24 39 #[true, true, true, true, true, true, true, true, true, true, true, true, true, true, true, true, true, true, true, true, true, true, true, true, true] ?_
          refine done_ (by kernel_rfl) ?_
          clear hHeld
          (try go_wp2)
          go_meet
          case rel => exact ⟨tb, rfl, HI⟩
      case rest =>
        clear HI
        clear x0 x1 x2 x3 x4 x5 x6 x7 x8 x9 xf 
        obtain ⟨q_, rfl, HI⟩ := hcut
        obtain ⟨x0, x1, x2, x3, x4, x5, x6, x7, x8, x9, xf⟩ := spec_l08Search_run.cells HI.out
        go_upto_if 39 with (fail)
        go_cut [] (fun wz => ∃ (vb_ : Value) (bs_ : List Int) (mo_ : Int), Aside0 (Srch 2 w0 wz g 74 #[.slice AL L.length cL, .int .i64 un, .int .i64 se, .slice Ap ps.length cp, vb_, .int .i64 (mo_), .int .i64 (c1), .int .i64 (no), .int .i64 bud, .bool fu] (.slice Ap ps.length cp) (ps) (vb_) (bs_)))
        case first =>
          clear H
          cases q_
          · go_wp2
            go_meet
            case rel => exact ⟨_, _, _, HI⟩
          · have Q0 := trivial
            go_wp2_with (first | ((clear Q0); (with_reducible refine gate_callee (f := 37) rfl ?_); refine goesL_ (some _) rfl rfl Try.func37 (by kernel_rfl) rfl #[.slice Ap ps.length cp] rfl aw_ ?_; have hi2_ := HI.out.set 5 (.int .i64 wt) (cs' := #[.slice AL L.length cL, .int .i64 un, .int .i64 se, .slice Ap ps.length cp, .slice Ab bs.length cb, .int .i64 (wt), .int .i64 (c1), .int .i64 (no), .int .i64 bud, .bool fu]) rfl; (with_reducible refine (spec_l00Own.calls _ _ ps ps _ ?sp ?tp E0.out).mono ?_); (case sp => exact (Kd.R_reads' hi2_.R1).2.2); (case tp => exact (Kd.R_reads' hi2_.R1).2.1); rintro e w6 ⟨v6, rfl, ho, hb⟩; refine ⟨_, rfl, ?_⟩; have hi_ := hi2_.best (cs := #[.slice AL L.length cL, .int .i64 un, .int .i64 se, .slice Ap ps.length cp, .slice Ab bs.length cb, .int .i64 (wt), .int .i64 (c1), .int .i64 (no), .int .i64 bud, .bool fu]) hb ho; obtain ⟨An, cn, en_⟩ := Kd.R_slice ho; subst en_; clear HI hi2_ ho hb; clear x0 x1 x2 x3 x4 x5 x6 x7 x8 x9 xf ; have HI := Aside0.mk hi_; clear hi_; obtain ⟨x0, x1, x2, x3, x4, x5, x6, x7, x8, x9, xf⟩ := spec_l08Search_run.cells HI.out; have Q1 := trivial))
            go_meet
            case rel => exact ⟨_, _, _, ⟨HI.out.set 4 _ rfl⟩⟩
        case rest =>
          clear HI
          clear x0 x1 x2 x3 x4 x5 x6 x7 x8 x9 xf 
          obtain ⟨vb_, bs_, mo_, HI⟩ := hcut
          obtain ⟨Ad, cd, ed⟩ := Kd.R_slice HI.out.R2
          subst ed
          obtain ⟨x0, x1, x2, x3, x4, x5, x6, x7, x8, x9, xf⟩ := spec_l08Search_run.cells HI.out
          go_wp2
          go_loopg [6] k (fun kq v6 w' => ∃ (i co_ no_ : Int) (fu_ : Bool) (vp_ vb_ : Value) (bs_ : List Int) (mo_ : Int), v6 = .int .i64 i ∧ Aside0 (spec_l08Search_run.l0 kq L un se bud i m ps co_ no_ fu_ = some (co', no', fu')) ∧ Aside0 (kq ≤ k) ∧ Aside0 (Srch 2 w0 w' g 74 #[.slice AL L.length cL, .int .i64 un, .int .i64 se, vp_, vb_, .int .i64 (mo_), .int .i64 (co_), .int .i64 (no_), .int .i64 bud, .bool fu_] (vp_) (ps) (vb_) (bs_)))
          case atStart => exact ⟨0, _, _, _, _, _, _, _, rfl, H, ⟨Nat.le_refl _⟩, HI⟩
          case round =>
            clear HI H E0
            clear x0 x1 x2 x3 x4 x5 x6 x7 x8 x9 xf 
            obtain ⟨i, co_, no_, fu_, vp_, vb_, bs_, mo_, rfl, HA, HK1, HI⟩ := hrel
            obtain ⟨Aq, cq, eq_⟩ := Kd.R_slice HI.out.R1
            subst eq_
            obtain ⟨Ae, ce, ee_⟩ := Kd.R_slice HI.out.R2
            subst ee_
            obtain ⟨x0, x1, x2, x3, x4, x5, x6, x7, x8, x9, xf⟩ := spec_l08Search_run.cells HI.out
            cases gk with
            | zero => exact absurd HA.out (by simp [spec_l08Search_run.l0])
            | succ k1 =>
              have H1 := HA.out
              clear HA
              simp only [spec_l08Search_run.l0] at H1
              by_cases c9 : i < (L.length : Int)
              rotate_left
              · rw [if_neg c9] at H1
                have c90 := decide_eq_false c9
                obtain ⟨rfl, rfl, rfl⟩ : co_ = co' ∧ no_ = no' ∧ fu_ = fu' := by simpa using H1
                clear H1 c9
                go_wp2
                first | go_end0 | ((try simp only [Exit.inBlock, Exit.then]); refine bodyPost_ret (results_none rfl _ _ _) rfl ?_)
                exact ⟨rfl, _, _, _, _, HI.out⟩
              rw [if_pos c9] at H1
              have c90 := decide_eq_true c9
              cases fu_
              rotate_left
              · rw [if_pos rfl] at H1
                obtain ⟨rfl, rfl, rfl⟩ : co_ = co' ∧ no_ = no' ∧ true = fu' := by simpa using H1
                clear H1 c9
                go_wp2
                first | go_end0 | ((try simp only [Exit.inBlock, Exit.then]); refine bodyPost_ret (results_none rfl _ _ _) rfl ?_)
                exact ⟨rfl, _, _, _, _, HI.out⟩
              rw [if_neg Bool.false_ne_true] at H1
              by_cases c8 : 0 ≤ i
              rotate_left
              · rw [if_neg c8] at H1
                exact absurd H1 (by simp)
              rw [if_pos c8] at H1
              obtain ⟨x, hx⟩ : ∃ x_, rd_T75 L i = x_ := ⟨_, rfl⟩
              rw [hx] at H1
              obtain ⟨ad, ead, -⟩ := at_T75 HRL.out i c8 c9
              cases ead
              have p0 := eq_true c8
              have q0 := eq_true c9
              have PI := Aside0.mk c8
              have QI := Aside0.mk c9
              have HX := Aside0.mk hx
              clear hx c8 c9
              obtain ⟨t, y_, H2⟩ := Option.bind_eq_some_iff.mp H1
              have E1 := Aside0.mk y_
              have H := Aside0.mk H2
              clear y_ H1 H2
              go_wp2
              obtain ⟨e0, e1, e2, e3, e4, e5⟩ := spec_l08Search_run.el (Kd.C_below HRL.out HI.out.bel) i PI.out QI.out HX.out
              refine start_ (n := 29) (S := fun w' => w'.cell? ⟨g, 3, none⟩ = some (.slice Aq ps.length cq) ∧ w'.cell? ⟨g, 2, none⟩ = some (.int .i64 se) ∧ w'.cell? ⟨g, 1, none⟩ = some (.int .i64 un) ∧ w'.cell? (ad.add (i.toNat * 6)) = some (.string x.f0) ∧ w'.cell? ⟨(ad.add (i.toNat * 6)).block, (ad.add (i.toNat * 6)).off + 1, none⟩ = some (.int .i64 x.f1) ∧ w'.cell? ⟨(ad.add (i.toNat * 6)).block, (ad.add (i.toNat * 6)).off + 2, none⟩ = some (.int .i64 x.f2) ∧ w'.cell? ⟨(ad.add (i.toNat * 6)).block, (ad.add (i.toNat * 6)).off + 3, none⟩ = some (.int .i64 x.f3) ∧ w'.cell? ⟨(ad.add (i.toNat * 6)).block, (ad.add (i.toNat * 6)).off + 4, none⟩ = some (.int .i64 x.f4) ∧ w'.cell? ⟨(ad.add (i.toNat * 6)).block, (ad.add (i.toNat * 6)).off + 5, none⟩ = some (.int .i64 x.f5)) (ds := []) #[false, false, false, false, false, false, false, false, false, false, false, false, false, false, false, false, false, false, false, false, false, false, false, false, false, false, false, false, false] (by kernel_rfl) rfl rfl ⟨x3, x2, x1, e0, e1, e2, e3, e4, e5⟩ (fun hHeld => ?_)
              have hi_ := HI.out.drew
              obtain ⟨wd3, hw_⟩ : ∃ W_, World.drew wr = W_ := ⟨_, rfl⟩
              rw [hw_] at hi_ hHeld ⊢
              clear hw_
              clear HI
              clear x0 x1 x2 x3 x4 x5 x6 x7 x8 x9 xf e0 e1 e2 e3 e4 e5
              have HI := Aside0.mk hi_
              clear hi_
              obtain ⟨x0, x1, x2, x3, x4, x5, x6, x7, x8, x9, xf⟩ := spec_l08Search_run.cells HI.out
              obtain ⟨e0, e1, e2, e3, e4, e5⟩ := spec_l08Search_run.el (Kd.C_below HRL.out HI.out.bel) i PI.out QI.out HX.out
              refine pv_ 0 74 #[true, false, false, false, false, false, false, false, false, false, false, false, false, false, false, false, false, false, false, false, false, false, false, false, false, false, false, false, false] ?_
              refine pv_ 1 75 #[true, true, false, false, false, false, false, false, false, false, false, false, false, false, false, false, false, false, false, false, false, false, false, false, false, false, false, false, false] ?_
              refine pv_ 2 76 #[true, true, true, false, false, false, false, false, false, false, false, false, false, false, false, false, false, false, false, false, false, false, false, false, false, false, false, false, false] ?_
              refine tv_ hHeld 3 77 #[true, true, true, true, false, false, false, false, false, false, false, false, false, false, false, false, false, false, false, false, false, false, false, false, false, false, false, false, false] ?_
              refine pv_ 4 78 #[true, true, true, true, true, false, false, false, false, false, false, false, false, false, false, false, false, false, false, false, false, false, false, false, false, false, false, false, false] ?_
              refine one_ (i := 5) (N := some 79) #[true, true, true, true, true, true, false, false, false, false, false, false, false, false, false, false, false, false, false, false, false, false, false, false, false, false, false, false, false] rfl rfl (by kernel_rfl) (by decide) (fun K_ hK => ?_)
              refine goes_ Try.func58 (by kernel_rfl) rfl #[.slice Aq ps.length cq, .int .i64 i] (by rfl) rfl rfl aw_ ?_
              clear hHeld
              (with_reducible refine (spec_l00Has.calls k1 _ _ ps i t _ ?sp ?tp E1.out).mono ?_)
              (case sp => exact (Kd.R_reads' HI.out.R1).2.2)
              (case tp => exact (Kd.R_reads' HI.out.R1).2.1)
              rintro e w2 ⟨rfl, hb_⟩
              refine ⟨_, rfl, ?_⟩
              have hb := below_of hb_
              clear hb_
              have hi_ := HI.out.below hb
              clear HI
              clear x0 x1 x2 x3 x4 x5 x6 x7 x8 x9 xf e0 e1 e2 e3 e4 e5
              have HI := Aside0.mk hi_
              clear hi_
              obtain ⟨x0, x1, x2, x3, x4, x5, x6, x7, x8, x9, xf⟩ := spec_l08Search_run.cells HI.out
              obtain ⟨e0, e1, e2, e3, e4, e5⟩ := spec_l08Search_run.el (Kd.C_below HRL.out HI.out.bel) i PI.out QI.out HX.out
              clear hb
              refine hK.out _ _ ⟨x3, x2, x1, e0, e1, e2, e3, e4, e5⟩ (fun hHeld => ?_)
              clear hK K_
              refine norm_ (a' := ?_) ?_ ?_
              rotate_left
              · show Act.put _ (some 79) _ = _; go_simp; rfl
              refine pv_ 6 80 #[true, true, true, true, true, true, true, false, false, false, false, false, false, false, false, false, false, false, false, false, false, false, false, false, false, false, false, false, false] ?_
              cases t
              rotate_left
              · have H1 := (if_pos rfl).symm.trans H.out
                clear H
                have H := Aside0.mk H1
                clear H1
                refine uv_ 7 81 #[true, true, true, true, true, true, true, true, false, false, false, false, false, false, false, false, false, false, false, false, false, false, false, false, false, false, false, false, false] ?_
                refine uv_ 8 82 #[true, true, true, true, true, true, true, true, true, false, false, false, false, false, false, false, false, false, false, false, false, false, false, false, false, false, false, false, false] ?_
                refine uv_ 9 83 #[true, true, true, true, true, true, true, true, true, true, false, false, false, false, false, false, false, false, false, false, false, false, false, false, false, false, false, false, false] ?_
                refine uv_ 10 84 #[true, true, true, true, true, true, true, true, true, true, true, false, false, false, false, false, false, false, false, false, false, false, false, false, false, false, false, false, false] ?_
                refine uv_ 11 85 #[true, true, true, true, true, true, true, true, true, true, true, true, false, false, false, false, false, false, false, false, false, false, false, false, false, false, false, false, false] ?_
                refine uv_ 12 86 #[true, true, true, true, true, true, true, true, true, true, true, true, true, false, false, false, false, false, false, false, false, false, false, false, false, false, false, false, false] ?_
                refine uv_ 13 87 #[true, true, true, true, true, true, true, true, true, true, true, true, true, true, false, false, false, false, false, false, false, false, false, false, false, false, false, false, false] ?_
                refine uv_ 14 88 #[true, true, true, true, true, true, true, true, true, true, true, true, true, true, true, false, false, false, false, false, false, false, false, false, false, false, false, false, false] ?_
                refine pv_ 15 89 #[true, true, true, true, true, true, true, true, true, true, true, true, true, true, true, true, false, false, false, false, false, false, false, false, false, false, false, false, false] ?_
                refine pv_ 16 90 #[true, true, true, true, true, true, true, true, true, true, true, true, true, true, true, true, true, false, false, false, false, false, false, false, false, false, false, false, false] ?_
                refine uv_ 17 91 #[true, true, true, true, true, true, true, true, true, true, true, true, true, true, true, true, true, true, false, false, false, false, false, false, false, false, false, false, false] ?_
                refine uv_ 18 92 #[true, true, true, true, true, true, true, true, true, true, true, true, true, true, true, true, true, true, true, false, false, false, false, false, false, false, false, false, false] ?_
                refine uv_ 19 93 #[true, true, true, true, true, true, true, true, true, true, true, true, true, true, true, true, true, true, true, true, false, false, false, false, false, false, false, false, false] ?_
                refine uv_ 20 94 #[true, true, true, true, true, true, true, true, true, true, true, true, true, true, true, true, true, true, true, true, true, false, false, false, false, false, false, false, false] ?_
                refine uv_ 21 95 #[true, true, true, true, true, true, true, true, true, true, true, true, true, true, true, true, true, true, true, true, true, true, false, false, false, false, false, false, false] ?_
                refine uv_ 22 96 #[true, true, true, true, true, true, true, true, true, true, true, true, true, true, true, true, true, true, true, true, true, true, true, false, false, false, false, false, false] ?_
                refine uv_ 23 97 #[true, true, true, true, true, true, true, true, true, true, true, true, true, true, true, true, true, true, true, true, true, true, true, true, false, false, false, false, false] ?_
                refine uv_ 24 98 #[true, true, true, true, true, true, true, true, true, true, true, true, true, true, true, true, true, true, true, true, true, true, true, true, true, false, false, false, false] ?_
                refine uv_ 25 99 #[true, true, true, true, true, true, true, true, true, true, true, true, true, true, true, true, true, true, true, true, true, true, true, true, true, true, false, false, false] ?_
                refine uv_ 26 100 #[true, true, true, true, true, true, true, true, true, true, true, true, true, true, true, true, true, true, true, true, true, true, true, true, true, true, true, false, false] ?_
                refine uv_ 27 101 #[true, true, true, true, true, true, true, true, true, true, true, true, true, true, true, true, true, true, true, true, true, true, true, true, true, true, true, true, false] ?_
                refine pv_ 28 102 #[true, true, true, true, true, true, true, true, true, true, true, true, true, true, true, true, true, true, true, true, true, true, true, true, true, true, true, true, true] ?_
                refine done_ (by kernel_rfl) ?_
                clear hHeld
                go_wp2
                go_roundg k1
                case measure => have := HK1.out; omega
                case rel => exact ⟨_, _, _, _, _, _, _, _, rfl, H, ⟨by have := HK1.out; omega⟩, HI⟩
              have H1 := (if_neg Bool.false_ne_true).symm.trans H.out
              clear H
              obtain ⟨t2, y_, H2⟩ := Option.bind_eq_some_iff.mp H1
              have E2 := Aside0.mk y_
              have H := Aside0.mk H2
              clear y_ H1 H2
              refine pv_ 7 81 #[true, true, true, true, true, true, true, true, false, false, false, false, false, false, false, false, false, false, false, false, false, false, false, false, false, false, false, false, false] ?_
              refine pv_ 8 82 #[true, true, true, true, true, true, true, true, true, false, false, false, false, false, false, false, false, false, false, false, false, false, false, false, false, false, false, false, false] ?_
              refine pv_ 9 83 #[true, true, true, true, true, true, true, true, true, true, false, false, false, false, false, false, false, false, false, false, false, false, false, false, false, false, false, false, false] ?_
              refine pv_ 10 84 #[true, true, true, true, true, true, true, true, true, true, true, false, false, false, false, false, false, false, false, false, false, false, false, false, false, false, false, false, false] ?_
              refine pv_ 11 85 #[true, true, true, true, true, true, true, true, true, true, true, true, false, false, false, false, false, false, false, false, false, false, false, false, false, false, false, false, false] ?_
              refine tv_ hHeld 12 86 #[true, true, true, true, true, true, true, true, true, true, true, true, true, false, false, false, false, false, false, false, false, false, false, false, false, false, false, false, false] ?_
              refine one_ (i := 13) (N := some 87) #[true, true, true, true, true, true, true, true, true, true, true, true, true, true, false, false, false, false, false, false, false, false, false, false, false, false, false, false, false] rfl rfl (by kernel_rfl) (by decide) (fun K_ hK => ?_)
              refine goes_ Try.func108 (by kernel_rfl) rfl #[.pointer (some (ad.add (i.toNat * 6))), .int .i64 m, .int .i64 se] (by rfl) rfl rfl aw_ ?_
              clear hHeld
              (with_reducible refine (spec_l08Fits.calls (ad.add (i.toNat * 6)) x.f0 x.f1 x.f2 x.f3 x.f4 x.f5 m se t2 _ ?ef E2.out).mono ?_)
              (case ef => exact ⟨e0, e1, e2, e3, e4, e5⟩)
              rintro e w3 ⟨rfl, hb_⟩
              refine ⟨_, rfl, ?_⟩
              have hb := below_of hb_
              clear hb_
              have hi_ := HI.out.below hb
              clear HI
              clear x0 x1 x2 x3 x4 x5 x6 x7 x8 x9 xf e0 e1 e2 e3 e4 e5
              have HI := Aside0.mk hi_
              clear hi_
              obtain ⟨x0, x1, x2, x3, x4, x5, x6, x7, x8, x9, xf⟩ := spec_l08Search_run.cells HI.out
              obtain ⟨e0, e1, e2, e3, e4, e5⟩ := spec_l08Search_run.el (Kd.C_below HRL.out HI.out.bel) i PI.out QI.out HX.out
              clear hb
              refine hK.out _ _ ⟨x3, x2, x1, e0, e1, e2, e3, e4, e5⟩ (fun hHeld => ?_)
              clear hK K_
              refine norm_ (a' := ?_) ?_ ?_
              rotate_left
              · show Act.put _ (some 87) _ = _; go_simp; rfl
              refine pv_ 14 88 #[true, true, true, true, true, true, true, true, true, true, true, true, true, true, true, false, false, false, false, false, false, false, false, false, false, false, false, false, false] ?_
              refine pv_ 15 89 #[true, true, true, true, true, true, true, true, true, true, true, true, true, true, true, true, false, false, false, false, false, false, false, false, false, false, false, false, false] ?_
              refine pv_ 16 90 #[true, true, true, true, true, true, true, true, true, true, true, true, true, true, true, true, true, false, false, false, false, false, false, false, false, false, false, false, false] ?_
              cases t2
              · have H1 := (if_neg Bool.false_ne_true).symm.trans H.out
                clear H
                have H := Aside0.mk H1
                clear H1
                refine uv_ 17 91 #[true, true, true, true, true, true, true, true, true, true, true, true, true, true, true, true, true, true, false, false, false, false, false, false, false, false, false, false, false] ?_
                refine uv_ 18 92 #[true, true, true, true, true, true, true, true, true, true, true, true, true, true, true, true, true, true, true, false, false, false, false, false, false, false, false, false, false] ?_
                refine uv_ 19 93 #[true, true, true, true, true, true, true, true, true, true, true, true, true, true, true, true, true, true, true, true, false, false, false, false, false, false, false, false, false] ?_
                refine uv_ 20 94 #[true, true, true, true, true, true, true, true, true, true, true, true, true, true, true, true, true, true, true, true, true, false, false, false, false, false, false, false, false] ?_
                refine uv_ 21 95 #[true, true, true, true, true, true, true, true, true, true, true, true, true, true, true, true, true, true, true, true, true, true, false, false, false, false, false, false, false] ?_
                refine uv_ 22 96 #[true, true, true, true, true, true, true, true, true, true, true, true, true, true, true, true, true, true, true, true, true, true, true, false, false, false, false, false, false] ?_
                refine uv_ 23 97 #[true, true, true, true, true, true, true, true, true, true, true, true, true, true, true, true, true, true, true, true, true, true, true, true, false, false, false, false, false] ?_
                refine uv_ 24 98 #[true, true, true, true, true, true, true, true, true, true, true, true, true, true, true, true, true, true, true, true, true, true, true, true, true, false, false, false, false] ?_
                refine uv_ 25 99 #[true, true, true, true, true, true, true, true, true, true, true, true, true, true, true, true, true, true, true, true, true, true, true, true, true, true, false, false, false] ?_
                refine uv_ 26 100 #[true, true, true, true, true, true, true, true, true, true, true, true, true, true, true, true, true, true, true, true, true, true, true, true, true, true, true, false, false] ?_
                refine uv_ 27 101 #[true, true, true, true, true, true, true, true, true, true, true, true, true, true, true, true, true, true, true, true, true, true, true, true, true, true, true, true, false] ?_
                refine pv_ 28 102 #[true, true, true, true, true, true, true, true, true, true, true, true, true, true, true, true, true, true, true, true, true, true, true, true, true, true, true, true, true] ?_
                refine done_ (by kernel_rfl) ?_
                clear hHeld
                go_wp2
                go_roundg k1
                case measure => have := HK1.out; omega
                case rel => exact ⟨_, _, _, _, _, _, _, _, rfl, H, ⟨by have := HK1.out; omega⟩, HI⟩
              have H1 := (if_pos rfl).symm.trans H.out
              clear H
              obtain ⟨mm, hmm⟩ : ∃ z_ : Int, wrap64 (m + x.f4) = z_ := ⟨_, rfl⟩
              rw [hmm] at H1
              have hmw : (IntKind.i64.wrap (m + x.f4)) = mm := (i64_w _).trans hmm
              refine pv_ 17 91 #[true, true, true, true, true, true, true, true, true, true, true, true, true, true, true, true, true, true, false, false, false, false, false, false, false, false, false, false, false] ?_
              refine pv_ 18 92 #[true, true, true, true, true, true, true, true, true, true, true, true, true, true, true, true, true, true, true, false, false, false, false, false, false, false, false, false, false] ?_
              refine pv_ 19 93 #[true, true, true, true, true, true, true, true, true, true, true, true, true, true, true, true, true, true, true, true, false, false, false, false, false, false, false, false, false] ?_
              refine pv_ 20 94 #[true, true, true, true, true, true, true, true, true, true, true, true, true, true, true, true, true, true, true, true, true, false, false, false, false, false, false, false, false] ?_
              refine tv_ hHeld 21 95 #[true, true, true, true, true, true, true, true, true, true, true, true, true, true, true, true, true, true, true, true, true, true, false, false, false, false, false, false, false] ?_
              refine pv_ 22 96 #[true, true, true, true, true, true, true, true, true, true, true, true, true, true, true, true, true, true, true, true, true, true, true, false, false, false, false, false, false] ?_
              refine pv_ 23 97 #[true, true, true, true, true, true, true, true, true, true, true, true, true, true, true, true, true, true, true, true, true, true, true, true, false, false, false, false, false] ?_
              refine pv_ 24 98 #[true, true, true, true, true, true, true, true, true, true, true, true, true, true, true, true, true, true, true, true, true, true, true, true, true, false, false, false, false] ?_
              refine pv_ 25 99 #[true, true, true, true, true, true, true, true, true, true, true, true, true, true, true, true, true, true, true, true, true, true, true, true, true, true, false, false, false] ?_
              refine tv_ hHeld 26 100 #[true, true, true, true, true, true, true, true, true, true, true, true, true, true, true, true, true, true, true, true, true, true, true, true, true, true, true, false, false] ?_
              refine pv_ 27 101 #[true, true, true, true, true, true, true, true, true, true, true, true, true, true, true, true, true, true, true, true, true, true, true, true, true, true, true, true, false] ?_
              refine pv_ 28 102 #[true, true, true, true, true, true, true, true, true, true, true, true, true, true, true, true, true, true, true, true, true, true, true, true, true, true, true, true, true] ?_
              refine done_ (by kernel_rfl) ?_
              clear hHeld
              by_cases cu : un < mm
              · have H := Aside0.mk ((if_pos cu).symm.trans H1)
                have cu0 := decide_eq_true cu
                rw [cu0]
                clear H1 cu
                go_wp2
                go_roundg k1
                case measure => have := HK1.out; omega
                case rel => exact ⟨_, _, _, _, _, _, _, _, rfl, H, ⟨by have := HK1.out; omega⟩, HI⟩
              have H2 := (if_neg cu).symm.trans H1
              have cu0 := decide_eq_false cu
              rw [cu0]
              clear H1 cu
              go_wp2
              refine start_ (n := 9) (S := fun w' => w'.cell? ⟨g, 7, none⟩ = some (.int .i64 no_) ∧ w'.cell? ⟨g, 8, none⟩ = some (.int .i64 bud)) (ds := []) #[false, false, false, false, false, false, false, false, false] (by kernel_rfl) rfl rfl ⟨x7, x8⟩ (fun hHeld => ?_)
              have hi_ := HI.out.drew
              obtain ⟨wd4, hw_⟩ : ∃ W_, World.drew w3 = W_ := ⟨_, rfl⟩
              rw [hw_] at hi_ hHeld ⊢
              clear hw_
              clear HI
              clear x0 x1 x2 x3 x4 x5 x6 x7 x8 x9 xf e0 e1 e2 e3 e4 e5
              have HI := Aside0.mk hi_
              clear hi_
              obtain ⟨x0, x1, x2, x3, x4, x5, x6, x7, x8, x9, xf⟩ := spec_l08Search_run.cells HI.out
              obtain ⟨e0, e1, e2, e3, e4, e5⟩ := spec_l08Search_run.el (Kd.C_below HRL.out HI.out.bel) i PI.out QI.out HX.out
              refine pv_ 0 103 #[true, false, false, false, false, false, false, false, false] ?_
              refine pv_ 1 104 #[true, true, false, false, false, false, false, false, false] ?_
              refine pv_ 2 105 #[true, true, true, false, false, false, false, false, false] ?_
              refine tv_ hHeld 3 106 #[true, true, true, true, false, false, false, false, false] ?_
              refine pv_ 4 107 #[true, true, true, true, true, false, false, false, false] ?_
              refine pv_ 5 108 #[true, true, true, true, true, true, false, false, false] ?_
              refine pv_ 6 109 #[true, true, true, true, true, true, true, false, false] ?_
              refine tv_ hHeld 7 110 #[true, true, true, true, true, true, true, true, false] ?_
              refine pv_ 8 111 #[true, true, true, true, true, true, true, true, true] ?_
              refine done_ (by kernel_rfl) ?_
              clear hHeld
              by_cases cn : no_ = bud
              · have H3 := (if_pos cn).symm.trans H2
                have cn0 : (no_ == bud) = true := beq_iff_eq.mpr cn
                rw [cn0]
                obtain ⟨rfl, rfl, rfl⟩ : co_ = co' ∧ no_ = no' ∧ true = fu' := by simpa using H3
                clear H2 H3 cn
                go_wp2
                first | go_end0 | ((try simp only [Exit.inBlock, Exit.then]); refine bodyPost_ret (results_none rfl _ _ _) rfl ?_)
                exact ⟨rfl, _, _, _, _, HI.out.set 9 _ rfl⟩
              have H3 := (if_neg cn).symm.trans H2
              have cn0 : (no_ == bud) = false := beq_eq_false_iff_ne.mpr cn
              rw [cn0]
              clear H2 cn
              rw [if_pos CM.out] at H3
              obtain ⟨z, y_, H4⟩ := Option.bind_eq_some_iff.mp H3
              obtain ⟨n1, hn1⟩ : ∃ z_ : Int, wrap64 (no_ + 1) = z_ := ⟨_, rfl⟩
              rw [hn1] at y_
              have hnw : (IntKind.i64.wrap (no_ + 1)) = n1 := (i64_w _).trans hn1
              have E3 := Aside0.mk y_
              have H := Aside0.mk H4
              clear y_ H3 H4
              obtain ⟨p1, hp1⟩ : ∃ l_, ps ++ [i] = l_ := ⟨_, rfl⟩
              rw [hp1] at E3
              have HP1 := Aside0.mk hp1
              clear hp1
              obtain ⟨ww, hww⟩ : ∃ z_ : Int, wrap64 (wt + x.f5) = z_ := ⟨_, rfl⟩
              have hwv : (IntKind.i64.wrap (wt + x.f5)) = ww := (i64_w _).trans hww
              have Q0 := trivial
              go_wp2_with (first | ((clear Q0); (with_reducible refine gate_store (t := 2) (p := 121) rfl ?_); refine store_event (t := 2) (p := 121) (v := ?vo_w8) (w1 := World.setCell wd4 ⟨g, 7, none⟩ (.int .i64 n1)) ?hg ?ho ?hn ?hr ?_; (case ho => rfl); (case hg => rfl); (case hn => rfl); (case hr => first | (go_simp; done) | (go_simp; rfl)); intro w8 hw_; have hi_ := HI.out.set 7 (.int .i64 n1) (cs' := #[.slice (some ad) L.length cL, .int .i64 un, .int .i64 se, .slice Aq ps.length cq, .slice Ae bs_.length ce, .int .i64 (mo_), .int .i64 (co_), .int .i64 (n1), .int .i64 bud, .bool false]) rfl; rw [← hw_] at hi_; clear HI hw_; clear x0 x1 x2 x3 x4 x5 x6 x7 x8 x9 xf e0 e1 e2 e3 e4 e5; have HI := Aside0.mk hi_; clear hi_; obtain ⟨x0, x1, x2, x3, x4, x5, x6, x7, x8, x9, xf⟩ := spec_l08Search_run.cells HI.out; obtain ⟨e0, e1, e2, e3, e4, e5⟩ := spec_l08Search_run.el (Kd.C_below HRL.out HI.out.bel) i PI.out QI.out HX.out; have Q1 := trivial) | ((clear Q1); (with_reducible refine gate_builtin (b := .append) (xs := #[.tmp 126, .tmp 128]) rfl ?_); at_builtin; refine Kd.R_append (Kd.int .i64) (w0 := w0) w0.heap.size rfl (.tmp 126) (.tmp 128) 22 2 (.int .i64 0) 8 rfl Try.underlying22 info2 rfl (by decide) (by omega) (.slice Aq ps.length cq) ps i [.int .i64 i] (fun k_ => k_ ≠ g ∧ some k_ ≠ (Value.slice Ae bs_.length ce).ownBlock) (fun _ => False) rfl rfl ?aP (fun _ hk => hk.elim) ?aF ?aO ?aB ?aS ?aL ?_; (case aP => exact rfl); (case aB => exact HI.out.bel); (case aF => exact HI.out.fresh); (case aO => exact HI.out.R1); (case aS => exact HI.out.bel.size); (case aL => have := CM.out; omega); intro v9 w9 ho hb hg hat; rw [HP1.out] at ho; have hi_ := HI.out.app ho hb hg hat; obtain ⟨An, cn, en_⟩ := Kd.R_slice ho; subst en_; clear HI ho hb hg hat; clear x0 x1 x2 x3 x4 x5 x6 x7 x8 x9 xf e0 e1 e2 e3 e4 e5; have HI := Aside0.mk hi_; clear hi_; obtain ⟨x0, x1, x2, x3, x4, x5, x6, x7, x8, x9, xf⟩ := spec_l08Search_run.cells HI.out; obtain ⟨e0, e1, e2, e3, e4, e5⟩ := spec_l08Search_run.el (Kd.C_below HRL.out HI.out.bel) i PI.out QI.out HX.out; have Q2 := trivial) | ((clear Q2); (with_reducible refine gate_store (t := 22) (p := 131) rfl ?_); refine store_event (t := 22) (p := 131) (v := ?vo_w10) (w1 := World.setCell w9 ⟨g, 3, none⟩ (.slice An p1.length cn)) ?hg ?ho ?hn ?hr ?_; (case ho => rfl); (case hg => rfl); (case hn => rfl); (case hr => first | (go_simp; done) | (go_simp; rfl)); intro w10 hw_; have hi_ := HI.out.set 3 (.slice An p1.length cn) (cs' := #[.slice (some ad) L.length cL, .int .i64 un, .int .i64 se, .slice An p1.length cn, .slice Ae bs_.length ce, .int .i64 (mo_), .int .i64 (co_), .int .i64 (n1), .int .i64 bud, .bool false]) rfl; rw [← hw_] at hi_; clear HI hw_; clear x0 x1 x2 x3 x4 x5 x6 x7 x8 x9 xf e0 e1 e2 e3 e4 e5; have HI := Aside0.mk hi_; clear hi_; obtain ⟨x0, x1, x2, x3, x4, x5, x6, x7, x8, x9, xf⟩ := spec_l08Search_run.cells HI.out; obtain ⟨e0, e1, e2, e3, e4, e5⟩ := spec_l08Search_run.el (Kd.C_below HRL.out HI.out.bel) i PI.out QI.out HX.out; have Q3 := trivial))
              clear Q3
              refine start_ (n := 14) (S := fun w' => w'.cell? ⟨(ad.add (i.toNat * 6)).block, (ad.add (i.toNat * 6)).off + 4, none⟩ = some (.int .i64 x.f4) ∧ w'.cell? ⟨(ad.add (i.toNat * 6)).block, (ad.add (i.toNat * 6)).off + 5, none⟩ = some (.int .i64 x.f5)) (ds := []) #[false, false, false, false, false, false, false, false, false, false, false, false, false, false] (by kernel_rfl) rfl rfl ⟨e4, e5⟩ (fun hHeld => ?_)
              have hi_ := HI.out.drew
              obtain ⟨wd5, hw_⟩ : ∃ W_, World.drew w10 = W_ := ⟨_, rfl⟩
              rw [hw_] at hi_ hHeld ⊢
              clear hw_
              clear HI
              clear x0 x1 x2 x3 x4 x5 x6 x7 x8 x9 xf e0 e1 e2 e3 e4 e5
              have HI := Aside0.mk hi_
              clear hi_
              obtain ⟨x0, x1, x2, x3, x4, x5, x6, x7, x8, x9, xf⟩ := spec_l08Search_run.cells HI.out
              obtain ⟨e0, e1, e2, e3, e4, e5⟩ := spec_l08Search_run.el (Kd.C_below HRL.out HI.out.bel) i PI.out QI.out HX.out
              refine pv_ 0 132 #[true, false, false, false, false, false, false, false, false, false, false, false, false, false] ?_
              refine pv_ 1 133 #[true, true, false, false, false, false, false, false, false, false, false, false, false, false] ?_
              refine pv_ 2 134 #[true, true, true, false, false, false, false, false, false, false, false, false, false, false] ?_
              refine pv_ 3 135 #[true, true, true, true, false, false, false, false, false, false, false, false, false, false] ?_
              refine pv_ 4 136 #[true, true, true, true, true, false, false, false, false, false, false, false, false, false] ?_
              refine tv_ hHeld 5 137 #[true, true, true, true, true, true, false, false, false, false, false, false, false, false] ?_
              refine pv_ 6 138 #[true, true, true, true, true, true, true, false, false, false, false, false, false, false] ?_
              refine pv_ 7 139 #[true, true, true, true, true, true, true, true, false, false, false, false, false, false] ?_
              refine pv_ 8 140 #[true, true, true, true, true, true, true, true, true, false, false, false, false, false] ?_
              refine pv_ 9 141 #[true, true, true, true, true, true, true, true, true, true, false, false, false, false] ?_
              refine pv_ 10 142 #[true, true, true, true, true, true, true, true, true, true, true, false, false, false] ?_
              refine tv_ hHeld 11 143 #[true, true, true, true, true, true, true, true, true, true, true, true, false, false] ?_
              refine pv_ 12 144 #[true, true, true, true, true, true, true, true, true, true, true, true, true, false] ?_
              refine one_ (i := 13) (N := some 145) #[true, true, true, true, true, true, true, true, true, true, true, true, true, true] rfl rfl (by kernel_rfl) (by decide) (fun K_ hK => ?_)
              refine goes_ Try.func87 (by kernel_rfl) rfl #[.pointer (some ⟨g, 0, none⟩), .int .i64 mm, .int .i64 ww] (by rfl) rfl rfl aw_ ?_
              clear hHeld
              refine (IH.out k1 (by have := HK1.out; have := HK.out; omega) g _ _ _ _ _ _ _ _ _ _ z.1 z.2.1 z.2.2 _ HI.out E3.out).mono ?_
              rintro e w11 ⟨rfl, vp2, vb2, bs2, mo2, hi_⟩
              refine ⟨_, rfl, ?_⟩
              clear HI
              clear x0 x1 x2 x3 x4 x5 x6 x7 x8 x9 xf e0 e1 e2 e3 e4 e5
              obtain ⟨Ar, cr, er⟩ := Kd.R_slice hi_.R1
              subst er
              have HI := Aside0.mk hi_
              clear hi_
              obtain ⟨x0, x1, x2, x3, x4, x5, x6, x7, x8, x9, xf⟩ := spec_l08Search_run.cells HI.out
              obtain ⟨e0, e1, e2, e3, e4, e5⟩ := spec_l08Search_run.el (Kd.C_below HRL.out HI.out.bel) i PI.out QI.out HX.out
              refine hK.out _ _ ⟨e4, e5⟩ (fun hHeld => ?_)
              clear hK K_
              refine norm_ (a' := ?_) ?_ ?_
              rotate_left
              · show Act.put _ (some 145) _ = _; go_simp; rfl
              refine done_ (by kernel_rfl) ?_
              clear hHeld
              have hlen : (p1.length : Int) = (ps.length : Int) + 1 := by rw [← HP1.out]; simp
              have hb : (ps.length : Int) < 10000 := by have := CM.out; omega
              have hj2 : wrap64 ((p1.length : Int) - 1) = (ps.length : Int) := by rw [hlen]; unfold wrap64; omega
              have hj2w : (IntKind.i64.wrap ((p1.length : Int) - 1)) = (ps.length : Int) := (i64_w _).trans hj2
              have hcap : ps.length + 1 ≤ cr := by have := (Kd.R_reads' HI.out.R1).2.1; omega
              have k0 : (0 ≤ (ps.length : Int)) = True := eq_true (by omega)
              have k1_ : ((ps.length : Int) ≤ (cr : Int)) = True := eq_true (by omega)
              have HLN := Aside0.mk hlen
              clear hlen hb hcap
              go_wp2
              refine start_ (n := 15) (S := fun w' => w'.cell? ⟨g, 3, none⟩ = some (.slice Ar p1.length cr) ∧ w'.frozen? ⟨g, 3, none⟩ = false) (ds := [14]) #[false, false, false, false, false, false, false, false, false, false, false, false, false, false, false] (by kernel_rfl) rfl rfl ⟨x3, xf 3⟩ (fun hHeld => ?_)
              have hi_ := HI.out.drew
              obtain ⟨wd6, hw_⟩ : ∃ W_, World.drew w11 = W_ := ⟨_, rfl⟩
              rw [hw_] at hi_ hHeld ⊢
              clear hw_
              clear HI
              clear x0 x1 x2 x3 x4 x5 x6 x7 x8 x9 xf e0 e1 e2 e3 e4 e5
              have HI := Aside0.mk hi_
              clear hi_
              obtain ⟨x0, x1, x2, x3, x4, x5, x6, x7, x8, x9, xf⟩ := spec_l08Search_run.cells HI.out
              obtain ⟨e0, e1, e2, e3, e4, e5⟩ := spec_l08Search_run.el (Kd.C_below HRL.out HI.out.bel) i PI.out QI.out HX.out
              refine pv_ 0 146 #[true, false, false, false, false, false, false, false, false, false, false, false, false, false, false] ?_
              refine pv_ 1 147 #[true, true, false, false, false, false, false, false, false, false, false, false, false, false, false] ?_
              refine pv_ 2 148 #[true, true, true, false, false, false, false, false, false, false, false, false, false, false, false] ?_
              refine pv_ 3 149 #[true, true, true, true, false, false, false, false, false, false, false, false, false, false, false] ?_
              refine tv_ hHeld 4 150 #[true, true, true, true, true, false, false, false, false, false, false, false, false, false, false] ?_
              refine pv_ 5 151 #[true, true, true, true, true, true, false, false, false, false, false, false, false, false, false] ?_
              refine pv_ 6 152 #[true, true, true, true, true, true, true, false, false, false, false, false, false, false, false] ?_
              refine pv_ 7 153 #[true, true, true, true, true, true, true, true, false, false, false, false, false, false, false] ?_
              refine tv_ hHeld 8 154 #[true, true, true, true, true, true, true, true, true, false, false, false, false, false, false] ?_
              refine pv_ 9 155 #[true, true, true, true, true, true, true, true, true, true, false, false, false, false, false] ?_
              refine pv_ 10 156 #[true, true, true, true, true, true, true, true, true, true, true, false, false, false, false] ?_
              refine pv_ 11 157 #[true, true, true, true, true, true, true, true, true, true, true, true, false, false, false] ?_
              refine pv_ 12 158 #[true, true, true, true, true, true, true, true, true, true, true, true, true, false, false] ?_
              refine pv_ 13 159 #[true, true, true, true, true, true, true, true, true, true, true, true, true, true, false] ?_
              refine last_ (i := 14) (N := none) #[true, true, true, true, true, true, true, true, true, true, true, true, true, true, true] rfl rfl (by kernel_rfl) (by decide) (fun K_ hK => ?_)
              refine store_one (w1 := World.setCell _ ⟨g, 3, none⟩ (.slice Ar ps.length cr)) (by rfl) (by first | (go_simp; done) | (go_simp; rfl)) rfl ?_
              clear hHeld
              have hi_ := (HI.out.take (m := ps.length) (by have := HLN.out; omega)).set 3 (.slice Ar ps.length cr) (cs' := #[.slice (some ad) L.length cL, .int .i64 un, .int .i64 se, .slice Ar ps.length cr, vb2, .int .i64 (mo2), .int .i64 (z.1), .int .i64 (z.2.1), .int .i64 bud, .bool z.2.2]) rfl
              rw [show p1.take ps.length = ps from by rw [← HP1.out]; exact List.take_left' rfl] at hi_
              clear HI
              clear x0 x1 x2 x3 x4 x5 x6 x7 x8 x9 xf e0 e1 e2 e3 e4 e5
              obtain ⟨w12, hw12⟩ : ∃ W_, World.setCell wd6 ⟨g, 3, none⟩ (.slice Ar ps.length cr) = W_ := ⟨_, rfl⟩
              rw [hw12] at hi_ ⊢
              have HI := Aside0.mk hi_
              clear hi_ hw12
              obtain ⟨x0, x1, x2, x3, x4, x5, x6, x7, x8, x9, xf⟩ := spec_l08Search_run.cells HI.out
              obtain ⟨e0, e1, e2, e3, e4, e5⟩ := spec_l08Search_run.el (Kd.C_below HRL.out HI.out.bel) i PI.out QI.out HX.out
              refine hK.out _ _ ?_
              clear hK K_
              refine done_ (by kernel_rfl) ?_
              go_wp2
              go_roundg k1
              case measure => have := HK1.out; omega
              case rel => exact ⟨_, _, _, _, _, _, _, _, rfl, H, ⟨by have := HK1.out; omega⟩, HI⟩
/-! ### spec_l08Season: function 85 -/
def spec_l08Season.f (a0 : Int) : Option (Bool) := (spec_l00In.f a0 0 5).bind fun t327 => (some t327)
set_option maxHeartbeats 8000000 in
set_option maxRecDepth 100000 in
theorem spec_l08Season.calls (a0 : Int) (r : Bool) (w : World) (h : spec_l08Season.f a0 = some r) :
  Calls Try.prog 85 #[.int .i64 a0] w fun e w' => e = .returned (.bool r) ∧ Drawn0 w w' := by
 have H : ((spec_l00In.f a0 0 5).bind fun t327 => (some t327)) = some r := h
 clear h
 replace H := Option.bind_eq_some_iff.mp H
 obtain ⟨t327, A20, H⟩ := H
 replace H : (some t327) = some r := H
 have A2 := Aside0.mk A20
 clear A20
 obtain rfl := Option.some.inj H
 go_enter Try.func85, Try.ntmps85
 go_wp2_with (first | ((with_reducible refine gate_callee (f := 42) rfl ?_); refine goesL_ (some 4) rfl rfl Try.func42 (by kernel_rfl) rfl #[.int .i64 a0, .int .i64 0, .int .i64 5] rfl (by first | rfl | (simp only [List.map_toArray, List.map_cons, List.map_nil]; done) | (simp only [List.map_toArray, List.map_cons, List.map_nil]; rfl)) ?_; (with_reducible refine (spec_l00In.calls a0 0 5 t327 _ A2.out).mono ?_); rintro e w' ⟨rfl, ⟨nd, rfl⟩⟩; refine ⟨_, rfl, ?_⟩))
 go_ret
 exact ⟨by first | rfl | (simp; done) | (simp [*]; done), by repeat (first | exact Drawn0.refl _ | apply Drawn0.step)⟩
/-! ### spec_l08Until: function 86 -/
def spec_l08Until.f (a0 : Int) (a1 : Int) : Option (Bool) := (spec_l00In.f a1 a0 (wrap64 (a0 + 1440))).bind fun t328 => (some t328)
set_option maxHeartbeats 8000000 in
set_option maxRecDepth 100000 in
theorem spec_l08Until.calls (a0 : Int) (a1 : Int) (r : Bool) (w : World) (h : spec_l08Until.f a0 a1 = some r) :
  Calls Try.prog 86 #[.int .i64 a0, .int .i64 a1] w fun e w' => e = .returned (.bool r) ∧ Drawn0 w w' := by
 have H : ((spec_l00In.f a1 a0 (wrap64 (a0 + 1440))).bind fun t328 => (some t328)) = some r := h
 clear h
 replace H := Option.bind_eq_some_iff.mp H
 obtain ⟨t328, A30, H⟩ := H
 replace H : (some t328) = some r := H
 have A3 := Aside0.mk A30
 clear A30
 obtain rfl := Option.some.inj H
 go_enter Try.func86, Try.ntmps86
 go_wp2_with (first | ((with_reducible refine gate_callee (f := 42) rfl ?_); refine goesL_ (some 9) rfl rfl Try.func42 (by kernel_rfl) rfl #[.int .i64 a1, .int .i64 a0, .int .i64 (wrap64 (a0 + 1440))] rfl (by first | rfl | (simp only [List.map_toArray, List.map_cons, List.map_nil]; done) | (simp only [List.map_toArray, List.map_cons, List.map_nil]; rfl)) ?_; (with_reducible refine (spec_l00In.calls a1 a0 (wrap64 (a0 + 1440)) t328 _ A3.out).mono ?_); rintro e w' ⟨rfl, ⟨nd, rfl⟩⟩; refine ⟨_, rfl, ?_⟩))
 go_ret
 exact ⟨by first | rfl | (simp; done) | (simp [*]; done), by repeat (first | exact Drawn0.refl _ | apply Drawn0.step)⟩
/-! ### spec_l08All: function 52 (given) -/
def spec_l08All.f (k : Nat) (L : List S75) (m un se bud : Int) : Option (Int × Int) := (spec_l08Ok.f k L).bind fun t => if t = true then ((spec_l08Minute.f m).bind fun t2 => if t2 = true then ((spec_l08Season.f se).bind fun t3 => if t3 = true then ((spec_l08Until.f m un).bind fun t4 => if t4 = true then ((spec_l00In.f bud 1 20000).bind fun t5 => if t5 = true then ((spec_l08Search_run.f k L un se bud m [] 0 0 false).bind fun z => if z.2.2 = true then some (z.1, 5) else some (z.1, 0)) else some (0, 2)) else some (0, 2)) else some (0, 2)) else some (0, 2)) else some (0, 1)
set_option maxHeartbeats 16000000 in
set_option maxRecDepth 100000 in
theorem spec_l08All.calls (k : Nat) (AL : Option Addr) (cL : Nat) (L : List S75) (m un se bud : Int) (co cd : Int) (w : World) (hrL : Kd.C k75 w AL L.length L) (hcL : L.length ≤ cL) (h : spec_l08All.f k L m un se bud = some (co, cd)) :
    Calls Try.prog 52 #[.slice AL L.length cL, .int .i64 m, .int .i64 un, .int .i64 se, .int .i64 bud] w fun e w' => ∃ (g : Nat), e = .returned (.tuple #[.pointer (some ⟨g, 0, none⟩), .int .i64 cd]) ∧ w'.cell? ⟨g, 6, none⟩ = some (.int .i64 co) ∧ Below w.heap.size w w' := by
  have KRL := Aside0.mk hrL
  have KCL := Aside0.mk hcL
  have HRL := Aside0.mk hrL
  have HCL := Aside0.mk hcL
  clear hrL hcL
  have huS := Try.underlying74
  unfold spec_l08All.f at h
  obtain ⟨t, z_, h⟩ := Option.bind_eq_some_iff.mp h
  have E1 := Aside0.mk z_
  clear z_
  cases t
  · rw [if_neg Bool.false_ne_true] at h
    obtain ⟨rfl, rfl⟩ : 0 = co ∧ 1 = cd := by simpa using h
    clear h
    go_enter Try.func52, Try.ntmps52
    go_wp2_with (first | ((with_reducible refine gate_dst (N := 18) rfl ?_); refine box_event ?hg (N := 18) ?hd (cs := #[.slice AL L.length cL, .int .i64 un, .int .i64 se, .slice none 0 0, .slice none 0 0, .int .i64 (-1), .int .i64 (0), .int .i64 (0), .int .i64 bud, .bool false]) (t := 74) ?hr ?_; (case hd => rfl); (case hg => rfl); (case hr => first | (go_simp; done) | (go_simp; rfl)); intro g hg w1 hbox hb; have HI := Aside0.mk (Srch.new (e := 2) (Below.refl _ w) (Nat.le_of_eq hg.symm) hbox hb); clear hbox hb hg; obtain ⟨x0, x1, x2, x3, x4, x5, x6, x7, x8, x9, xf⟩ := spec_l08Search_run.cells HI.out) | ((with_reducible refine gate_callee (f := 83) rfl ?_); refine goesL_ (some _) rfl rfl Try.func83 (by kernel_rfl) rfl #[.slice AL L.length cL] rfl aw_ ?_; (with_reducible refine (spec_l08Ok.calls k _ _ L false _ ?sL ?tL E1.out).mono ?_); (case sL => exact Kd.C_below HRL.out HI.out.bel); (case tL => exact HCL.out); rintro e w2 ⟨rfl, hb_⟩; refine ⟨_, rfl, ?_⟩; have hb := below_of hb_; clear hb_; have hi_ := HI.out.below hb; clear HI; clear x0 x1 x2 x3 x4 x5 x6 x7 x8 x9 xf; have HI := Aside0.mk hi_; clear hi_; obtain ⟨x0, x1, x2, x3, x4, x5, x6, x7, x8, x9, xf⟩ := spec_l08Search_run.cells HI.out; clear hb))
    go_ret2
    exact ⟨g, rfl, x6, HI.out.bel⟩
  rw [if_pos rfl] at h
  obtain ⟨t2, z_, h⟩ := Option.bind_eq_some_iff.mp h
  have E2 := Aside0.mk z_
  clear z_
  cases t2
  · rw [if_neg Bool.false_ne_true] at h
    obtain ⟨rfl, rfl⟩ : 0 = co ∧ 2 = cd := by simpa using h
    clear h
    go_enter Try.func52, Try.ntmps52
    go_wp2_with (first | ((with_reducible refine gate_dst (N := 18) rfl ?_); refine box_event ?hg (N := 18) ?hd (cs := #[.slice AL L.length cL, .int .i64 un, .int .i64 se, .slice none 0 0, .slice none 0 0, .int .i64 (-1), .int .i64 (0), .int .i64 (0), .int .i64 bud, .bool false]) (t := 74) ?hr ?_; (case hd => rfl); (case hg => rfl); (case hr => first | (go_simp; done) | (go_simp; rfl)); intro g hg w1 hbox hb; have HI := Aside0.mk (Srch.new (e := 2) (Below.refl _ w) (Nat.le_of_eq hg.symm) hbox hb); clear hbox hb hg; obtain ⟨x0, x1, x2, x3, x4, x5, x6, x7, x8, x9, xf⟩ := spec_l08Search_run.cells HI.out) | ((with_reducible refine gate_callee (f := 83) rfl ?_); refine goesL_ (some _) rfl rfl Try.func83 (by kernel_rfl) rfl #[.slice AL L.length cL] rfl aw_ ?_; (with_reducible refine (spec_l08Ok.calls k _ _ L true _ ?sL ?tL E1.out).mono ?_); (case sL => exact Kd.C_below HRL.out HI.out.bel); (case tL => exact HCL.out); rintro e w2 ⟨rfl, hb_⟩; refine ⟨_, rfl, ?_⟩; have hb := below_of hb_; clear hb_; have hi_ := HI.out.below hb; clear HI; clear x0 x1 x2 x3 x4 x5 x6 x7 x8 x9 xf; have HI := Aside0.mk hi_; clear hi_; obtain ⟨x0, x1, x2, x3, x4, x5, x6, x7, x8, x9, xf⟩ := spec_l08Search_run.cells HI.out; clear hb) | ((with_reducible refine gate_callee (f := 84) rfl ?_); refine goesL_ (some _) rfl rfl Try.func84 (by kernel_rfl) rfl #[.int .i64 m] rfl aw_ ?_; (with_reducible refine (spec_l08Minute.calls _ false _ E2.out).mono ?_); rintro e w3 ⟨rfl, hb_⟩; refine ⟨_, rfl, ?_⟩; have hb := below_of hb_; clear hb_; have hi_ := HI.out.below hb; clear HI; clear x0 x1 x2 x3 x4 x5 x6 x7 x8 x9 xf; have HI := Aside0.mk hi_; clear hi_; obtain ⟨x0, x1, x2, x3, x4, x5, x6, x7, x8, x9, xf⟩ := spec_l08Search_run.cells HI.out; clear hb))
    go_ret2
    exact ⟨g, rfl, x6, HI.out.bel⟩
  rw [if_pos rfl] at h
  obtain ⟨t3, z_, h⟩ := Option.bind_eq_some_iff.mp h
  have E3 := Aside0.mk z_
  clear z_
  cases t3
  · rw [if_neg Bool.false_ne_true] at h
    obtain ⟨rfl, rfl⟩ : 0 = co ∧ 2 = cd := by simpa using h
    clear h
    go_enter Try.func52, Try.ntmps52
    go_wp2_with (first | ((with_reducible refine gate_dst (N := 18) rfl ?_); refine box_event ?hg (N := 18) ?hd (cs := #[.slice AL L.length cL, .int .i64 un, .int .i64 se, .slice none 0 0, .slice none 0 0, .int .i64 (-1), .int .i64 (0), .int .i64 (0), .int .i64 bud, .bool false]) (t := 74) ?hr ?_; (case hd => rfl); (case hg => rfl); (case hr => first | (go_simp; done) | (go_simp; rfl)); intro g hg w1 hbox hb; have HI := Aside0.mk (Srch.new (e := 2) (Below.refl _ w) (Nat.le_of_eq hg.symm) hbox hb); clear hbox hb hg; obtain ⟨x0, x1, x2, x3, x4, x5, x6, x7, x8, x9, xf⟩ := spec_l08Search_run.cells HI.out) | ((with_reducible refine gate_callee (f := 83) rfl ?_); refine goesL_ (some _) rfl rfl Try.func83 (by kernel_rfl) rfl #[.slice AL L.length cL] rfl aw_ ?_; (with_reducible refine (spec_l08Ok.calls k _ _ L true _ ?sL ?tL E1.out).mono ?_); (case sL => exact Kd.C_below HRL.out HI.out.bel); (case tL => exact HCL.out); rintro e w2 ⟨rfl, hb_⟩; refine ⟨_, rfl, ?_⟩; have hb := below_of hb_; clear hb_; have hi_ := HI.out.below hb; clear HI; clear x0 x1 x2 x3 x4 x5 x6 x7 x8 x9 xf; have HI := Aside0.mk hi_; clear hi_; obtain ⟨x0, x1, x2, x3, x4, x5, x6, x7, x8, x9, xf⟩ := spec_l08Search_run.cells HI.out; clear hb) | ((with_reducible refine gate_callee (f := 84) rfl ?_); refine goesL_ (some _) rfl rfl Try.func84 (by kernel_rfl) rfl #[.int .i64 m] rfl aw_ ?_; (with_reducible refine (spec_l08Minute.calls _ true _ E2.out).mono ?_); rintro e w3 ⟨rfl, hb_⟩; refine ⟨_, rfl, ?_⟩; have hb := below_of hb_; clear hb_; have hi_ := HI.out.below hb; clear HI; clear x0 x1 x2 x3 x4 x5 x6 x7 x8 x9 xf; have HI := Aside0.mk hi_; clear hi_; obtain ⟨x0, x1, x2, x3, x4, x5, x6, x7, x8, x9, xf⟩ := spec_l08Search_run.cells HI.out; clear hb) | (go_at_call 85; (with_reducible refine (spec_l08Season.calls _ false _ E3.out).mono ?_); rintro e w4 ⟨rfl, hb_⟩; have hb := below_of hb_; clear hb_; have hi_ := HI.out.below hb; clear HI; clear x0 x1 x2 x3 x4 x5 x6 x7 x8 x9 xf; have HI := Aside0.mk hi_; clear hi_; obtain ⟨x0, x1, x2, x3, x4, x5, x6, x7, x8, x9, xf⟩ := spec_l08Search_run.cells HI.out; clear hb))
    go_ret2
    exact ⟨g, rfl, x6, HI.out.bel⟩
  rw [if_pos rfl] at h
  obtain ⟨t4, z_, h⟩ := Option.bind_eq_some_iff.mp h
  have E4 := Aside0.mk z_
  clear z_
  cases t4
  · rw [if_neg Bool.false_ne_true] at h
    obtain ⟨rfl, rfl⟩ : 0 = co ∧ 2 = cd := by simpa using h
    clear h
    go_enter Try.func52, Try.ntmps52
    go_wp2_with (first | ((with_reducible refine gate_dst (N := 18) rfl ?_); refine box_event ?hg (N := 18) ?hd (cs := #[.slice AL L.length cL, .int .i64 un, .int .i64 se, .slice none 0 0, .slice none 0 0, .int .i64 (-1), .int .i64 (0), .int .i64 (0), .int .i64 bud, .bool false]) (t := 74) ?hr ?_; (case hd => rfl); (case hg => rfl); (case hr => first | (go_simp; done) | (go_simp; rfl)); intro g hg w1 hbox hb; have HI := Aside0.mk (Srch.new (e := 2) (Below.refl _ w) (Nat.le_of_eq hg.symm) hbox hb); clear hbox hb hg; obtain ⟨x0, x1, x2, x3, x4, x5, x6, x7, x8, x9, xf⟩ := spec_l08Search_run.cells HI.out) | ((with_reducible refine gate_callee (f := 83) rfl ?_); refine goesL_ (some _) rfl rfl Try.func83 (by kernel_rfl) rfl #[.slice AL L.length cL] rfl aw_ ?_; (with_reducible refine (spec_l08Ok.calls k _ _ L true _ ?sL ?tL E1.out).mono ?_); (case sL => exact Kd.C_below HRL.out HI.out.bel); (case tL => exact HCL.out); rintro e w2 ⟨rfl, hb_⟩; refine ⟨_, rfl, ?_⟩; have hb := below_of hb_; clear hb_; have hi_ := HI.out.below hb; clear HI; clear x0 x1 x2 x3 x4 x5 x6 x7 x8 x9 xf; have HI := Aside0.mk hi_; clear hi_; obtain ⟨x0, x1, x2, x3, x4, x5, x6, x7, x8, x9, xf⟩ := spec_l08Search_run.cells HI.out; clear hb) | ((with_reducible refine gate_callee (f := 84) rfl ?_); refine goesL_ (some _) rfl rfl Try.func84 (by kernel_rfl) rfl #[.int .i64 m] rfl aw_ ?_; (with_reducible refine (spec_l08Minute.calls _ true _ E2.out).mono ?_); rintro e w3 ⟨rfl, hb_⟩; refine ⟨_, rfl, ?_⟩; have hb := below_of hb_; clear hb_; have hi_ := HI.out.below hb; clear HI; clear x0 x1 x2 x3 x4 x5 x6 x7 x8 x9 xf; have HI := Aside0.mk hi_; clear hi_; obtain ⟨x0, x1, x2, x3, x4, x5, x6, x7, x8, x9, xf⟩ := spec_l08Search_run.cells HI.out; clear hb) | (go_at_call 85; (with_reducible refine (spec_l08Season.calls _ true _ E3.out).mono ?_); rintro e w4 ⟨rfl, hb_⟩; have hb := below_of hb_; clear hb_; have hi_ := HI.out.below hb; clear HI; clear x0 x1 x2 x3 x4 x5 x6 x7 x8 x9 xf; have HI := Aside0.mk hi_; clear hi_; obtain ⟨x0, x1, x2, x3, x4, x5, x6, x7, x8, x9, xf⟩ := spec_l08Search_run.cells HI.out; clear hb) | (go_at_call 86; (with_reducible refine (spec_l08Until.calls _ _ false _ E4.out).mono ?_); rintro e w5 ⟨rfl, hb_⟩; have hb := below_of hb_; clear hb_; have hi_ := HI.out.below hb; clear HI; clear x0 x1 x2 x3 x4 x5 x6 x7 x8 x9 xf; have HI := Aside0.mk hi_; clear hi_; obtain ⟨x0, x1, x2, x3, x4, x5, x6, x7, x8, x9, xf⟩ := spec_l08Search_run.cells HI.out; clear hb))
    go_ret2
    exact ⟨g, rfl, x6, HI.out.bel⟩
  rw [if_pos rfl] at h
  obtain ⟨t5, z_, h⟩ := Option.bind_eq_some_iff.mp h
  have E5 := Aside0.mk z_
  clear z_
  cases t5
  · rw [if_neg Bool.false_ne_true] at h
    obtain ⟨rfl, rfl⟩ : 0 = co ∧ 2 = cd := by simpa using h
    clear h
    go_enter Try.func52, Try.ntmps52
    go_wp2_with (first | ((with_reducible refine gate_dst (N := 18) rfl ?_); refine box_event ?hg (N := 18) ?hd (cs := #[.slice AL L.length cL, .int .i64 un, .int .i64 se, .slice none 0 0, .slice none 0 0, .int .i64 (-1), .int .i64 (0), .int .i64 (0), .int .i64 bud, .bool false]) (t := 74) ?hr ?_; (case hd => rfl); (case hg => rfl); (case hr => first | (go_simp; done) | (go_simp; rfl)); intro g hg w1 hbox hb; have HI := Aside0.mk (Srch.new (e := 2) (Below.refl _ w) (Nat.le_of_eq hg.symm) hbox hb); clear hbox hb hg; obtain ⟨x0, x1, x2, x3, x4, x5, x6, x7, x8, x9, xf⟩ := spec_l08Search_run.cells HI.out) | ((with_reducible refine gate_callee (f := 83) rfl ?_); refine goesL_ (some _) rfl rfl Try.func83 (by kernel_rfl) rfl #[.slice AL L.length cL] rfl aw_ ?_; (with_reducible refine (spec_l08Ok.calls k _ _ L true _ ?sL ?tL E1.out).mono ?_); (case sL => exact Kd.C_below HRL.out HI.out.bel); (case tL => exact HCL.out); rintro e w2 ⟨rfl, hb_⟩; refine ⟨_, rfl, ?_⟩; have hb := below_of hb_; clear hb_; have hi_ := HI.out.below hb; clear HI; clear x0 x1 x2 x3 x4 x5 x6 x7 x8 x9 xf; have HI := Aside0.mk hi_; clear hi_; obtain ⟨x0, x1, x2, x3, x4, x5, x6, x7, x8, x9, xf⟩ := spec_l08Search_run.cells HI.out; clear hb) | ((with_reducible refine gate_callee (f := 84) rfl ?_); refine goesL_ (some _) rfl rfl Try.func84 (by kernel_rfl) rfl #[.int .i64 m] rfl aw_ ?_; (with_reducible refine (spec_l08Minute.calls _ true _ E2.out).mono ?_); rintro e w3 ⟨rfl, hb_⟩; refine ⟨_, rfl, ?_⟩; have hb := below_of hb_; clear hb_; have hi_ := HI.out.below hb; clear HI; clear x0 x1 x2 x3 x4 x5 x6 x7 x8 x9 xf; have HI := Aside0.mk hi_; clear hi_; obtain ⟨x0, x1, x2, x3, x4, x5, x6, x7, x8, x9, xf⟩ := spec_l08Search_run.cells HI.out; clear hb) | (go_at_call 85; (with_reducible refine (spec_l08Season.calls _ true _ E3.out).mono ?_); rintro e w4 ⟨rfl, hb_⟩; have hb := below_of hb_; clear hb_; have hi_ := HI.out.below hb; clear HI; clear x0 x1 x2 x3 x4 x5 x6 x7 x8 x9 xf; have HI := Aside0.mk hi_; clear hi_; obtain ⟨x0, x1, x2, x3, x4, x5, x6, x7, x8, x9, xf⟩ := spec_l08Search_run.cells HI.out; clear hb) | (go_at_call 86; (with_reducible refine (spec_l08Until.calls _ _ true _ E4.out).mono ?_); rintro e w5 ⟨rfl, hb_⟩; have hb := below_of hb_; clear hb_; have hi_ := HI.out.below hb; clear HI; clear x0 x1 x2 x3 x4 x5 x6 x7 x8 x9 xf; have HI := Aside0.mk hi_; clear hi_; obtain ⟨x0, x1, x2, x3, x4, x5, x6, x7, x8, x9, xf⟩ := spec_l08Search_run.cells HI.out; clear hb) | (go_at_call 42; (with_reducible refine (spec_l00In.calls _ _ _ false _ E5.out).mono ?_); rintro e w6 ⟨rfl, hb_⟩; have hb := below_of hb_; clear hb_; have hi_ := HI.out.below hb; clear HI; clear x0 x1 x2 x3 x4 x5 x6 x7 x8 x9 xf; have HI := Aside0.mk hi_; clear hi_; obtain ⟨x0, x1, x2, x3, x4, x5, x6, x7, x8, x9, xf⟩ := spec_l08Search_run.cells HI.out; clear hb))
    go_ret2
    exact ⟨g, rfl, x6, HI.out.bel⟩
  rw [if_pos rfl] at h
  obtain ⟨⟨c2, n2, f2⟩, z_, h⟩ := Option.bind_eq_some_iff.mp h
  simp only at h
  have E6 := Aside0.mk z_
  clear z_
  cases f2
  · rw [if_neg Bool.false_ne_true] at h
    obtain ⟨rfl, rfl⟩ : c2 = co ∧ 0 = cd := by simpa using h
    clear h
    go_enter Try.func52, Try.ntmps52
    go_wp2_with (first | ((with_reducible refine gate_dst (N := 18) rfl ?_); refine box_event ?hg (N := 18) ?hd (cs := #[.slice AL L.length cL, .int .i64 un, .int .i64 se, .slice none 0 0, .slice none 0 0, .int .i64 (-1), .int .i64 (0), .int .i64 (0), .int .i64 bud, .bool false]) (t := 74) ?hr ?_; (case hd => rfl); (case hg => rfl); (case hr => first | (go_simp; done) | (go_simp; rfl)); intro g hg w1 hbox hb; have HI := Aside0.mk (Srch.new (e := 2) (Below.refl _ w) (Nat.le_of_eq hg.symm) hbox hb); clear hbox hb hg; obtain ⟨x0, x1, x2, x3, x4, x5, x6, x7, x8, x9, xf⟩ := spec_l08Search_run.cells HI.out) | ((with_reducible refine gate_callee (f := 83) rfl ?_); refine goesL_ (some _) rfl rfl Try.func83 (by kernel_rfl) rfl #[.slice AL L.length cL] rfl aw_ ?_; (with_reducible refine (spec_l08Ok.calls k _ _ L true _ ?sL ?tL E1.out).mono ?_); (case sL => exact Kd.C_below HRL.out HI.out.bel); (case tL => exact HCL.out); rintro e w2 ⟨rfl, hb_⟩; refine ⟨_, rfl, ?_⟩; have hb := below_of hb_; clear hb_; have hi_ := HI.out.below hb; clear HI; clear x0 x1 x2 x3 x4 x5 x6 x7 x8 x9 xf; have HI := Aside0.mk hi_; clear hi_; obtain ⟨x0, x1, x2, x3, x4, x5, x6, x7, x8, x9, xf⟩ := spec_l08Search_run.cells HI.out; clear hb) | ((with_reducible refine gate_callee (f := 84) rfl ?_); refine goesL_ (some _) rfl rfl Try.func84 (by kernel_rfl) rfl #[.int .i64 m] rfl aw_ ?_; (with_reducible refine (spec_l08Minute.calls _ true _ E2.out).mono ?_); rintro e w3 ⟨rfl, hb_⟩; refine ⟨_, rfl, ?_⟩; have hb := below_of hb_; clear hb_; have hi_ := HI.out.below hb; clear HI; clear x0 x1 x2 x3 x4 x5 x6 x7 x8 x9 xf; have HI := Aside0.mk hi_; clear hi_; obtain ⟨x0, x1, x2, x3, x4, x5, x6, x7, x8, x9, xf⟩ := spec_l08Search_run.cells HI.out; clear hb) | (go_at_call 85; (with_reducible refine (spec_l08Season.calls _ true _ E3.out).mono ?_); rintro e w4 ⟨rfl, hb_⟩; have hb := below_of hb_; clear hb_; have hi_ := HI.out.below hb; clear HI; clear x0 x1 x2 x3 x4 x5 x6 x7 x8 x9 xf; have HI := Aside0.mk hi_; clear hi_; obtain ⟨x0, x1, x2, x3, x4, x5, x6, x7, x8, x9, xf⟩ := spec_l08Search_run.cells HI.out; clear hb) | (go_at_call 86; (with_reducible refine (spec_l08Until.calls _ _ true _ E4.out).mono ?_); rintro e w5 ⟨rfl, hb_⟩; have hb := below_of hb_; clear hb_; have hi_ := HI.out.below hb; clear HI; clear x0 x1 x2 x3 x4 x5 x6 x7 x8 x9 xf; have HI := Aside0.mk hi_; clear hi_; obtain ⟨x0, x1, x2, x3, x4, x5, x6, x7, x8, x9, xf⟩ := spec_l08Search_run.cells HI.out; clear hb) | (go_at_call 42; (with_reducible refine (spec_l00In.calls _ _ _ true _ E5.out).mono ?_); rintro e w6 ⟨rfl, hb_⟩; have hb := below_of hb_; clear hb_; have hi_ := HI.out.below hb; clear HI; clear x0 x1 x2 x3 x4 x5 x6 x7 x8 x9 xf; have HI := Aside0.mk hi_; clear hi_; obtain ⟨x0, x1, x2, x3, x4, x5, x6, x7, x8, x9, xf⟩ := spec_l08Search_run.cells HI.out; clear hb) | ((with_reducible refine gate_callee (f := 87) rfl ?_); refine goesL_ (some _) rfl rfl Try.func87 (by kernel_rfl) rfl #[.pointer (some ⟨g, 0, none⟩), .int .i64 m, .int .i64 0] rfl aw_ ?_; refine (spec_l08Search_run.calls AL cL L un se bud w KRL.out KCL.out k k (Nat.le_refl _) g m 0 _ _ _ _ (-1) 0 0 false c2 n2 _ _ HI.out E6.out).mono ?_; rintro e w7 ⟨rfl, vp2, vb2, bs2, mo2, hs_⟩; refine ⟨_, rfl, ?_⟩; have hi_ := hs_; clear HI; clear x0 x1 x2 x3 x4 x5 x6 x7 x8 x9 xf; have HI := Aside0.mk hi_; clear hi_; obtain ⟨x0, x1, x2, x3, x4, x5, x6, x7, x8, x9, xf⟩ := spec_l08Search_run.cells HI.out; clear hs_))
    go_ret2
    exact ⟨g, rfl, x6, HI.out.bel⟩
  · rw [if_pos rfl] at h
    obtain ⟨rfl, rfl⟩ : c2 = co ∧ 5 = cd := by simpa using h
    clear h
    go_enter Try.func52, Try.ntmps52
    go_wp2_with (first | ((with_reducible refine gate_dst (N := 18) rfl ?_); refine box_event ?hg (N := 18) ?hd (cs := #[.slice AL L.length cL, .int .i64 un, .int .i64 se, .slice none 0 0, .slice none 0 0, .int .i64 (-1), .int .i64 (0), .int .i64 (0), .int .i64 bud, .bool false]) (t := 74) ?hr ?_; (case hd => rfl); (case hg => rfl); (case hr => first | (go_simp; done) | (go_simp; rfl)); intro g hg w1 hbox hb; have HI := Aside0.mk (Srch.new (e := 2) (Below.refl _ w) (Nat.le_of_eq hg.symm) hbox hb); clear hbox hb hg; obtain ⟨x0, x1, x2, x3, x4, x5, x6, x7, x8, x9, xf⟩ := spec_l08Search_run.cells HI.out) | ((with_reducible refine gate_callee (f := 83) rfl ?_); refine goesL_ (some _) rfl rfl Try.func83 (by kernel_rfl) rfl #[.slice AL L.length cL] rfl aw_ ?_; (with_reducible refine (spec_l08Ok.calls k _ _ L true _ ?sL ?tL E1.out).mono ?_); (case sL => exact Kd.C_below HRL.out HI.out.bel); (case tL => exact HCL.out); rintro e w2 ⟨rfl, hb_⟩; refine ⟨_, rfl, ?_⟩; have hb := below_of hb_; clear hb_; have hi_ := HI.out.below hb; clear HI; clear x0 x1 x2 x3 x4 x5 x6 x7 x8 x9 xf; have HI := Aside0.mk hi_; clear hi_; obtain ⟨x0, x1, x2, x3, x4, x5, x6, x7, x8, x9, xf⟩ := spec_l08Search_run.cells HI.out; clear hb) | ((with_reducible refine gate_callee (f := 84) rfl ?_); refine goesL_ (some _) rfl rfl Try.func84 (by kernel_rfl) rfl #[.int .i64 m] rfl aw_ ?_; (with_reducible refine (spec_l08Minute.calls _ true _ E2.out).mono ?_); rintro e w3 ⟨rfl, hb_⟩; refine ⟨_, rfl, ?_⟩; have hb := below_of hb_; clear hb_; have hi_ := HI.out.below hb; clear HI; clear x0 x1 x2 x3 x4 x5 x6 x7 x8 x9 xf; have HI := Aside0.mk hi_; clear hi_; obtain ⟨x0, x1, x2, x3, x4, x5, x6, x7, x8, x9, xf⟩ := spec_l08Search_run.cells HI.out; clear hb) | (go_at_call 85; (with_reducible refine (spec_l08Season.calls _ true _ E3.out).mono ?_); rintro e w4 ⟨rfl, hb_⟩; have hb := below_of hb_; clear hb_; have hi_ := HI.out.below hb; clear HI; clear x0 x1 x2 x3 x4 x5 x6 x7 x8 x9 xf; have HI := Aside0.mk hi_; clear hi_; obtain ⟨x0, x1, x2, x3, x4, x5, x6, x7, x8, x9, xf⟩ := spec_l08Search_run.cells HI.out; clear hb) | (go_at_call 86; (with_reducible refine (spec_l08Until.calls _ _ true _ E4.out).mono ?_); rintro e w5 ⟨rfl, hb_⟩; have hb := below_of hb_; clear hb_; have hi_ := HI.out.below hb; clear HI; clear x0 x1 x2 x3 x4 x5 x6 x7 x8 x9 xf; have HI := Aside0.mk hi_; clear hi_; obtain ⟨x0, x1, x2, x3, x4, x5, x6, x7, x8, x9, xf⟩ := spec_l08Search_run.cells HI.out; clear hb) | (go_at_call 42; (with_reducible refine (spec_l00In.calls _ _ _ true _ E5.out).mono ?_); rintro e w6 ⟨rfl, hb_⟩; have hb := below_of hb_; clear hb_; have hi_ := HI.out.below hb; clear HI; clear x0 x1 x2 x3 x4 x5 x6 x7 x8 x9 xf; have HI := Aside0.mk hi_; clear hi_; obtain ⟨x0, x1, x2, x3, x4, x5, x6, x7, x8, x9, xf⟩ := spec_l08Search_run.cells HI.out; clear hb) | ((with_reducible refine gate_callee (f := 87) rfl ?_); refine goesL_ (some _) rfl rfl Try.func87 (by kernel_rfl) rfl #[.pointer (some ⟨g, 0, none⟩), .int .i64 m, .int .i64 0] rfl aw_ ?_; refine (spec_l08Search_run.calls AL cL L un se bud w KRL.out KCL.out k k (Nat.le_refl _) g m 0 _ _ _ _ (-1) 0 0 false c2 n2 _ _ HI.out E6.out).mono ?_; rintro e w7 ⟨rfl, vp2, vb2, bs2, mo2, hs_⟩; refine ⟨_, rfl, ?_⟩; have hi_ := hs_; clear HI; clear x0 x1 x2 x3 x4 x5 x6 x7 x8 x9 xf; have HI := Aside0.mk hi_; clear hi_; obtain ⟨x0, x1, x2, x3, x4, x5, x6, x7, x8, x9, xf⟩ := spec_l08Search_run.cells HI.out; clear hs_))
    go_ret2
    exact ⟨g, rfl, x6, HI.out.bel⟩
end Go.Proofs.Ytgdiabfmjcejdaa.P
end
