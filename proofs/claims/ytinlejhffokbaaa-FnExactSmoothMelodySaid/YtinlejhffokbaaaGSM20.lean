/- Texts of this seat, merged: QSpecL13Grow, LSSteps, LSrchS, LRuns. -/
import Derived.Test.YtinlejhffokbaaaGSM1
import Derived.Test.YtinlejhffokbaaaGSM2
import Derived.Test.YtinlejhffokbaaaGSM5
import Derived.Test.YtinlejhffokbaaaGSM8
import Derived.Test.YtinlejhffokbaaaGSM10
import Derived.Test.YtinlejhffokbaaaGSM15
import Derived.Test.YtinlejhffokbaaaGSM17
import Derived.Test.YtinlejhffokbaaaGSM18
import Derived.Test.YtinlejhffokbaaaGSM19
section
namespace Go.Proofs.Ytinlejhffokbaaa.P
open Go.RowKit Go.Proofs.YtinlejhffokbaaaW.PrintWords Go.Proofs.YtinlejhffokbaaaW.PrintLast Go.Proofs.YtinlejhffokbaaaW.PrintMore
attribute [local go_sem] max2_int min2_int max_two min_two max_three min_three max_four min_four
set_option linter.unusedVariables false
set_option linter.unusedSimpArgs false
set_option maxHeartbeats 16000000
set_option maxRecDepth 100000
def spec_l13Grow.l0 : Nat → Int → List Int → Int → Int → Int → Int → ByteArray → List Int → List Int → Int → Int → List (List Int) → Option (List Int × Int × Bool)
 | 0, _, _, _, _, _, _, _, _, _, _, _, _ => none
 | k + 1, x1, x2, x3, x4, x5, x15, x186000, x186001, x186002, x186003, x186004, x186005 => if x15 < x3 then (if 0 ≤ (wrap64 ((x2.length : Int) - 1)) then (if (wrap64 ((x2.length : Int) - 1)) < (x2.length : Int) then ((spec_l05Next.f k x186000 x186001 x186002 x186003 x186004 x186005 (rd x2 (wrap64 ((x2.length : Int) - 1)))).bind fun t187 => ((spec_l13In.f k t187 x4 x5).bind fun t190 => (if (t190.length : Int) = 0 then (some (([] : List Int), 0, false)) else ((spec_l13Pick.f x1 (t190.length : Int)).bind fun bt193 => (if 0 ≤ bt193.1 then (if bt193.1 < (t190.length : Int) then (if x2.length < 17592186044416 then (spec_l13Grow.l0 k bt193.2 (x2 ++ [rd t190 bt193.1]) x3 x4 x5 (wrap64 (x15 + 1)) x186000 x186001 x186002 x186003 x186004 x186005) else (none)) else (none)) else (none)))))) else (none)) else (none)) else (some (x2, x1, true))
end Go.Proofs.Ytinlejhffokbaaa.P
end

section
namespace Go.Proofs.Ytinlejhffokbaaa.P
open Go.RowKit Go.Proofs.Ytinlejhffokbaaa.P Go.Proofs.YtinlejhffokbaaaW.PrintWords Go.Proofs.YtinlejhffokbaaaW.PrintLast Go.Proofs.YtinlejhffokbaaaW.PrintMore
set_option linter.unusedVariables false
set_option linter.unusedSimpArgs false
theorem spec_l05Next_l0 (s : ByteArray) (u d : List Int) (st wk : Int) (f : List (List Int)) (a : Int) (ha : -1000 ≤ a ∧ a ≤ 1000) (hu : u.length ≤ 1048576) (hd : d.length ≤ 1048576) (hf : f.length ≤ 8) (hp : ∀ j, j < f.length → (rd_L1 f j).length = 2) :
    ∀ (m : Nat) (p : Int) (out : List Int), p = 24 - m → m ≤ 36 → out.length + m ≤ 100 → Ev (fun k => spec_l05Next.l0 k a out p s u d st wk f) (out ++ stepsM u d f a p m) := by
  intro m
  induction m with
  | zero =>
    intro p out e _ _; refine Ev.succ ?_; simp only [spec_l05Next.l0]; refine Ev.ite_neg (by omega) (Ev.cast (Ev.now _) ?_)
    simp [stepsM, segM]
  | succ m ih =>
    intro p out e hm hl; refine Ev.succ ?_; simp only [spec_l05Next.l0]; rw [w64 (x := p + 1) (by omega) (by omega)]; refine Ev.ite_pos (by omega) (Ev.bind (spec_l05Reason_ev s u d st wk f a p ha (by omega) hu hd hf hp) ?_)
    by_cases c : reasonR u d f a p = 0
    · refine Ev.ite_pos c (Ev.ite_pos (by omega) (Ev.cast (ih (p + 1) (out ++ [p]) (by omega) (by omega) (by simp; omega)) ?_))
      simp [stepsM, segM, c]
    · refine Ev.ite_neg c (Ev.cast (ih (p + 1) out (by omega) (by omega) (by omega)) ?_)
      simp [stepsM, segM, c]
theorem spec_l05Next_ev (s : ByteArray) (u d : List Int) (st wk : Int) (f : List (List Int)) (a : Int) (ha : -1000 ≤ a ∧ a ≤ 1000) (hu : u.length ≤ 1048576) (hd : d.length ≤ 1048576) (hf : f.length ≤ 8) (hp : ∀ j, j < f.length → (rd_L1 f j).length = 2) : Ev (fun k => spec_l05Next.f k s u d st wk f a) (stepsM u d f a (-12) 36) := by
  unfold spec_l05Next.f
  simpa using spec_l05Next_l0 s u d st wk f a ha hu hd hf hp 36 (-12) [] (by omega) (by omega) (by simp)
theorem spec_l13In_l0 (l : List Int) (lo hi : Int) (hl : l.length ≤ 1048576) : ∀ (m i : Nat) (out : List Int), l.length - i = m → out.length ≤ i → Ev (fun k => spec_l13In.l0 k l lo hi out i) (out ++ (l.drop i).filter fun q => decide (lo ≤ q) && decide (q ≤ hi)) := by
  intro m
  induction m with
  | zero =>
    intro i out hm _; refine Ev.succ ?_; simp only [spec_l13In.l0]; refine Ev.ite_neg (by omega) (Ev.cast (Ev.now _) ?_); rw [List.drop_of_length_le (by omega)]
    simp
  | succ m ih =>
    intro i out hm ho
    have hi' : i < l.length := by omega
    refine Ev.succ ?_; simp only [spec_l13In.l0]; rw [w64 (x := (i : Int) + 1) (by omega) (by omega), List.drop_eq_getElem_cons hi', ← rd_at hi', List.filter_cons]; refine Ev.ite_pos (by omega) (Ev.ite_pos (by omega) (Ev.bindc (spec_l00In_eq _ _ _) ?_))
    cases c : (decide (lo ≤ rd l i) && decide (rd l i ≤ hi)) with
    | true =>
      refine Ev.ite_pos rfl (Ev.ite_pos (by omega) (Ev.cast (ih (i + 1) (out ++ [rd l i]) (by omega) (by simp; omega)) ?_))
      simp
    | false =>
      refine Ev.ite_neg (by decide) (Ev.cast (ih (i + 1) out (by omega) (by omega)) ?_)
      simp
theorem spec_l13In_ev (l : List Int) (lo hi : Int) (hl : l.length ≤ 1048576) : Ev (fun k => spec_l13In.f k l lo hi) (l.filter fun q => decide (lo ≤ q) && decide (q ≤ hi)) := by
  unfold spec_l13In.f
  simpa using spec_l13In_l0 l lo hi hl l.length 0 [] (by omega) (by simp)
theorem own_list (l : List Int) (h : l.length < 17592186044416) : spec_l00Own.f l = some l := by
  unfold spec_l00Own.f; simp only [Option.bind_some, List.nil_append, List.length_nil, Nat.zero_add]; rw [if_pos h]
def lesM (σ : SrS) : Int := if σ.2.1 = 0 then 0 else leapsT σ.1
theorem spec_goOn_l0 (s : ByteArray) (u d : List Int) (a b : Int) (f : List (List Int)) (lg st en lo hi : Int) (q : List (List Int)) (rp : Int) (fst : Bool) (bud : Int)
    (V : List Int → SrS → Bool × SrS) (ps nx : List Int) (hps : ps.length < 1000) (hnx : nx.length ≤ 100)
    (hV : ∀ t ∈ nx, ∀ σ, SrOk bud σ → endM fst bud σ = false → SrStep fst bud (V (ps ++ [t]) σ) ∧ Ev (fun k => spec_l15Search_goOn.f k s u d a b f lg st en lo hi q rp fst bud (ps ++ [t]) σ.1 (lesM σ) σ.2.1 σ.2.2) ((V (ps ++ [t]) σ).1, (V (ps ++ [t]) σ).2.1, lesM (V (ps ++ [t]) σ).2, (V (ps ++ [t]) σ).2.2.1, (V (ps ++ [t]) σ).2.2.2)) :
    ∀ (n i : Nat) (σ : SrS), nx.length - i = n → SrOk bud σ → endM fst bud σ = false →
      Ev (fun k => spec_l15Search_goOn.l0 k s u d a b f lg st en lo hi q rp fst bud nx i ps σ.1 (lesM σ) σ.2.1 σ.2.2) ((loopM V ps (nx.drop i) σ).1, (loopM V ps (nx.drop i) σ).2.1, lesM (loopM V ps (nx.drop i) σ).2, (loopM V ps (nx.drop i) σ).2.2.1, (loopM V ps (nx.drop i) σ).2.2.2) := by
  intro n
  induction n with
  | zero =>
    intro i σ e _ _; refine Ev.succ ?_; simp only [spec_l15Search_goOn.l0]; rw [List.drop_of_length_le (by omega)]; exact Ev.ite_neg (by omega) (Ev.now _)
  | succ n ih =>
    intro i σ e hok he
    have hi' : i < nx.length := by omega
    refine Ev.succ ?_; simp only [spec_l15Search_goOn.l0]; rw [w64 (x := (i : Int) + 1) (by omega) (by omega), List.drop_eq_getElem_cons hi', rd_at hi']; obtain ⟨hs, hv⟩ := hV nx[i] (List.getElem_mem hi') σ hok he; refine Ev.ite_pos (by omega) (Ev.ite_pos (by omega) (Ev.ite_pos hps (Ev.bind hv ?_)))
    cases cz : (V (ps ++ [nx[i]]) σ).1 with
    | true =>
      rw [loopM, if_pos cz]; exact Ev.ite_pos rfl (Ev.now _)
    | false =>
      rw [loopM, if_neg (by rw [cz]; decide)]; exact Ev.ite_neg (by decide) (ih (i + 1) (V (ps ++ [nx[i]]) σ).2 (by omega) hs.ok (by rw [← hs.ends, cz]))
theorem spec_goOn_ev (s : ByteArray) (u d : List Int) (a b : Int) (f : List (List Int)) (lg st en lo hi : Int) (q : List (List Int)) (rp : Int) (fst : Bool) (bud : Int) (hg : 1 ≤ lg) (hg2 : lg ≤ 16) (hlo : -12 ≤ lo) (hlh : lo ≤ hi) (hhi : hi ≤ 23) (hql : q.length ≤ 1048576) (hq : ∀ y ∈ q, y.length ≤ 64) (hu : u.length ≤ 1048576) (hd : d.length ≤ 1048576) (hf : f.length ≤ 8) (hf2 : ∀ j, j < f.length → (rd_L1 f j).length = 2) (hb : 0 ≤ bud) (hb2 : bud ≤ 20000) :
    ∀ (m : Nat) (ps : List Int) (σ : SrS), (ps.length : Int) + m = lg → 1 ≤ ps.length → pitchesB ps = true → SrOk bud σ → endM fst bud σ = false →
      Ev (fun k => spec_l15Search_goOn.f k s u d a b f lg st en lo hi q rp fst bud ps σ.1 (lesM σ) σ.2.1 σ.2.2) ((visM u d f (satB u d f lg st en lo hi q rp) lo hi fst bud m ps σ).1, (visM u d f (satB u d f lg st en lo hi q rp) lo hi fst bud m ps σ).2.1, lesM (visM u d f (satB u d f lg st en lo hi q rp) lo hi fst bud m ps σ).2, (visM u d f (satB u d f lg st en lo hi q rp) lo hi fst bud m ps σ).2.2.1, (visM u d f (satB u d f lg st en lo hi q rp) lo hi fst bud m ps σ).2.2.2) := by
  intro m
  induction m with
  | zero =>
    intro ps σ hl h1 hp hok he; have k1 := hok.c0; have k2 := hok.c1; have k3 := hok.n1; have hlen := pitchesB_len hp; refine Ev.succ ?_; simp only [spec_l15Search_goOn.f]; rw [w64 (x := σ.2.2 + 1) (by omega) (by omega), w64 (x := σ.2.1 + 1) (by omega) (by omega)]; unfold visM
    by_cases c : bud < σ.2.2 + 1
    · rw [if_pos c]; exact Ev.ite_pos c (Ev.now _)
    · rw [if_neg c]; refine Ev.ite_neg c (Ev.ite_pos (by omega) (Ev.bind (spec_is_ev s u d a b f lg st en lo hi q rp ps hg hp hql hq hu hd hf hf2) ?_))
      by_cases c2 : satB u d f lg st en lo hi q rp ps = true
      · rw [if_pos c2]; refine Ev.ite_pos c2 (Ev.bind (spec_l15Leaps_ev ps hp) ?_)
        have hne : ∀ x : List Int, lesM (x, σ.2.1 + 1, σ.2.2 + 1) = leapsT x := fun x => if_neg (show ¬ σ.2.1 + 1 = 0 by omega)
        unfold leafM
        by_cases c3 : σ.2.1 = 0
        · rw [if_pos (show (σ.1, σ.2.1, σ.2.2 + 1).2.1 = 0 from c3)]; exact Ev.ite_pos (by omega) (Ev.bindc (own_list ps (by omega)) (Ev.cast (Ev.now _) (by rw [hne]; rfl)))
        · rw [if_neg (show ¬ (σ.1, σ.2.1, σ.2.2 + 1).2.1 = 0 from c3)]; have hle : lesM σ = leapsT σ.1 := if_neg c3; rw [hle]; refine Ev.ite_neg (by omega) ?_
          by_cases c4 : leapsT ps < leapsT σ.1
          · rw [if_pos (show leapsT ps < leapsT (σ.1, σ.2.1, σ.2.2 + 1).1 from c4)]; exact Ev.ite_pos c4 (Ev.bindc (own_list ps (by omega)) (Ev.cast (Ev.now _) (by rw [hne]; rfl)))
          · rw [if_neg (show ¬ leapsT ps < leapsT (σ.1, σ.2.1, σ.2.2 + 1).1 from c4)]; exact Ev.ite_neg c4 (Ev.cast (Ev.now _) (by rw [hne]))
      · rw [if_neg c2]; exact Ev.ite_neg c2 (Ev.now _)
  | succ m ih =>
    intro ps σ hl h1 hp hok he; have k1 := hok.c0; have k2 := hok.c1; have k3 := hok.n1; have hlen := pitchesB_len hp; refine Ev.succ ?_; simp only [spec_l15Search_goOn.f]; rw [w64 (x := σ.2.2 + 1) (by omega) (by omega), w64 (x := (ps.length : Int) - 1) (by omega) (by omega)]; unfold visM
    by_cases c : bud < σ.2.2 + 1
    · rw [if_pos c]; exact Ev.ite_pos c (Ev.now _)
    · rw [if_neg c]; have hb1 := lastM_bound hp h1; have hs1 := stepsM_length u d f (lastM ps) (-12) 36; have hs2 := stepsM_length u d f (lastM ps) lo (hi + 1 - lo).toNat; refine Ev.ite_neg c (Ev.ite_neg (by omega) (Ev.ite_pos (by omega) (Ev.bind (spec_l05Next_ev s u d a b f (lastM ps) (by omega) hu hd hf hf2) (Ev.bind (Ev.cast (spec_l13In_ev _ lo hi (by omega)) (stepsM_range u d f (lastM ps) lo hi hlo hlh hhi)) ?_))))
      have hn : SrOk bud (σ.1, σ.2.1, σ.2.2 + 1) ∧ endM fst bud (σ.1, σ.2.1, σ.2.2 + 1) = false := by
        refine ⟨⟨hok.c0, by show σ.2.1 ≤ σ.2.2 + 1; omega, by show σ.2.2 + 1 ≤ bud + 1; omega, hok.bs, hok.ln⟩, ?_⟩; simp only [endM]; rw [decide_eq_false (show ¬ bud < σ.2.2 + 1 from c), (end_false he).2]; rfl
      exact spec_goOn_l0 s u d a b f lg st en lo hi q rp fst bud (visM u d f (satB u d f lg st en lo hi q rp) lo hi fst bud m) ps (stepsM u d f (lastM ps) lo (hi + 1 - lo).toNat) (by omega) (by omega)
        (fun t ht σ' h' he' => by
          have hm := stepsM_mem ht; have hp' := snoc_pitches hp (show ps.length < 64 by omega) (show -12 ≤ t by omega) (show t ≤ 23 by omega)
          have hl' : ((ps ++ [t]).length : Int) + m = lg := by simp; omega
          exact ⟨visM_ok u d f _ lo hi hlo hhi fst bud m _ σ' hp' (by simp; omega) h' he', ih _ σ' hl' (by simp) hp' h' he'⟩)
        _ 0 (σ.1, σ.2.1, σ.2.2 + 1) rfl hn.1 hn.2
theorem bothRuns (s : ByteArray) (u d : List Int) (a b : Int) (f : List (List Int)) (lg st en lo hi : Int) (q : List (List Int)) (rp bud : Int) (fst : Bool) (h0 : Fits s u d f) (hq : q.length ≤ 1048576) (hqr : ∀ j, j < q.length → (rd_L1 q j).length ≤ 1048576) :
    ∃ (b1 : List Int) (le co cd : Int) (b2 : List Int) (fd : Int), Ev (fun k => spec_l15Run.f k s u d a b f lg st en lo hi q rp bud fst) (b1, le, co, cd) ∧ Ev (fun k => impl_askSearchOf.f k s u d a b f lg st en lo hi q rp bud fst) (b2, fd, cd) ∧ (cd = 0 → b2 = b1 ∧ fd = co ∧ b1.length ≤ 64 ∧ (co ≠ 0 → pitchesB b1 = true ∧ le = leapsT b1)) := by
  have a0 := spec_l05Ok_ev s u d a b f h0.1 h0.2.1 h0.2.2.1 h0.2.2.2.1; have b0 := impl_ValidRaga_ev s u d a b f h0.1 h0.2.1 h0.2.2.1 h0.2.2.2.1; have a1 := spec_l15Ok_ev lg st en lo hi q rp hq hqr; have b1 := impl_ValidAsk_ev lg st en lo hi q rp hq; unfold spec_l15Run.f impl_askSearchOf.f
  cases v0 : ragaB s u d a b f with
  | false => exact ⟨[], 0, 0, 1, [], 0, Ev.bind a0 (Ev.ite_neg (by rw [v0]; decide) (Ev.now _)), Ev.bind b0 (Ev.ite_neg (by rw [v0]; decide) (Ev.now _)), fun h => absurd h (by decide)⟩
  | true =>
    obtain ⟨p1, p2, p3, p4⟩ := ragaB_parts v0
    cases v1 : askB lg st en lo hi q rp with
    | false => exact ⟨[], 0, 0, 1, [], 0, Ev.bind a0 (Ev.ite_pos v0 (Ev.bind a1 (Ev.ite_neg (by rw [v1]; decide) (Ev.now _)))), Ev.bind b0 (Ev.ite_pos v0 (Ev.bind b1 (Ev.ite_neg (by rw [v1]; decide) (Ev.now _)))), fun h => absurd h (by decide)⟩
    | true =>
      obtain ⟨q1, q2, q3, q4, q5, q6⟩ := askB_parts v1
      have e2 : impl_budgetValid.f bud = some (decide (1 ≤ bud) && decide (bud ≤ 20000)) := by
        unfold impl_budgetValid.f; rw [impl_within_eq]; rfl
      cases v2 : (decide (1 ≤ bud) && decide (bud ≤ 20000)) with
      | false => exact ⟨[], 0, 0, 2, [], 0, Ev.bind a0 (Ev.ite_pos v0 (Ev.bind a1 (Ev.ite_pos v1 (Ev.bindc (spec_l00In_eq bud 1 20000) (Ev.ite_neg (by rw [v2]; decide) (Ev.now _)))))), Ev.bind b0 (Ev.ite_pos v0 (Ev.bind b1 (Ev.ite_pos v1 (Ev.bindc e2 (Ev.ite_neg (by rw [v2]; decide) (Ev.now _)))))), fun h => absurd h (by decide)⟩
      | true =>
        have v3 : 1 ≤ bud ∧ bud ≤ 20000 := by simpa using v2
        have hp : pitchesB [st] = true := by simp [pitchesB, inP]; omega
        have hok : SrOk bud (([], 0, 0) : SrS) := ⟨by show (0 : Int) ≤ 0; omega, by show (0 : Int) ≤ 0; omega, by show (0 : Int) ≤ bud + 1; omega, .inl rfl, by simp⟩
        have he : endM fst bud (([], 0, 0) : SrS) = false := by simp [endM]; omega
        have hm : (([st] : List Int).length : Int) + (lg - 1).toNat = lg := by simp; omega
        have eS := spec_goOn_ev s u d a b f lg st en lo hi q rp fst bud q1.1 q1.2 q2.1 q2.2.1 q2.2.2 hq q6 h0.2.1 h0.2.2.1 p3 p4 (by omega) v3.2 (lg - 1).toNat [st] ([], 0, 0) hm (by simp) hp hok he; have eI := impl_visit_ev s u d a b f lg st en lo hi q rp fst bud q1.1 q1.2 q2.1 q2.2.1 q2.2.2 q6 h0.2.1 h0.2.2.1 p3 p4 (by omega) v3.2 (lg - 1).toNat [st] ([], 0, 0) hm (by simp) hp hok he; have hr := (visM_ok u d f (satB u d f lg st en lo hi q rp) lo hi q2.1 q2.2.2 fst bud (lg - 1).toNat [st] ([], 0, 0) hp (by simp; omega) hok he).ok; obtain ⟨R, hR⟩ : ∃ R, visM u d f (satB u d f lg st en lo hi q rp) lo hi fst bud (lg - 1).toNat [st] ([], 0, 0) = R := ⟨_, rfl⟩; rw [hR] at eS eI hr; replace eI := Ev.cast eI rfl
        have eI' : Ev (fun k => impl_askSearch_visit.f k s u d a b f lg st en lo hi q rp fst bud [st] [] 0) (bud - R.2.2.2, R.2.1, R.2.2.1) := by
          have := eI; rw [show bud - (([], 0, 0) : SrS).2.2 = bud from Int.sub_zero bud] at this; exact this
        by_cases c : bud < R.2.2.2
        · exact ⟨R.2.1, lesM R.2, R.2.2.1, 5, [], 0, Ev.bind a0 (Ev.ite_pos v0 (Ev.bind a1 (Ev.ite_pos v1 (Ev.bindc (spec_l00In_eq bud 1 20000) (Ev.ite_pos v2 (Ev.bind eS (Ev.ite_pos c (Ev.now _)))))))), Ev.bind b0 (Ev.ite_pos v0 (Ev.bind b1 (Ev.ite_pos v1 (Ev.bindc e2 (Ev.ite_pos v2 (Ev.bind eI' (Ev.ite_pos (show bud - R.2.2.2 < 0 by omega) (Ev.now _)))))))), fun h => absurd h (by decide)⟩
        · exact ⟨R.2.1, lesM R.2, R.2.2.1, 0, R.2.1, R.2.2.1, Ev.bind a0 (Ev.ite_pos v0 (Ev.bind a1 (Ev.ite_pos v1 (Ev.bindc (spec_l00In_eq bud 1 20000) (Ev.ite_pos v2 (Ev.bind eS (Ev.ite_neg c (Ev.now _)))))))), Ev.bind b0 (Ev.ite_pos v0 (Ev.bind b1 (Ev.ite_pos v1 (Ev.bindc e2 (Ev.ite_pos v2 (Ev.bind eI' (Ev.ite_neg (show ¬ bud - R.2.2.2 < 0 by omega) (Ev.now _)))))))), fun _ => ⟨rfl, rfl, hr.ln, fun hc => ⟨hr.bs.resolve_left hc, if_neg hc⟩⟩⟩
end Go.Proofs.Ytinlejhffokbaaa.P
end
