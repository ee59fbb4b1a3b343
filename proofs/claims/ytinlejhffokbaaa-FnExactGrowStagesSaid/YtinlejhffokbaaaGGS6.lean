/- Texts of this seat, merged: QSpecL13Grow, QSpecL13Seed, QSpecL13Wider, QSpecGrowstages, Open, LEv, LCopy, LEvAnd, LInP, LWithin, LIInP, LAbs, LIdx, LHasOne, LName, LIName, LInc, LIn, LRises, LScale, LIScale, LTn, LRaga, LRdL. -/
import Derived.Deep.Slices
import Derived.WideShapes
import Derived.ChangeShapes
import Derived.ChangeMaps5
import Derived.ChangeSame
import Derived.Test.YtinlejhffokbaaaGGS1
import Derived.Test.YtinlejhffokbaaaGGS2
import Derived.Test.YtinlejhffokbaaaGGS3
import Derived.Test.YtinlejhffokbaaaGGS4
import Derived.Test.YtinlejhffokbaaaGGS5
section
namespace Go.Proofs.Ytinlejhffokbaaa.P
open Go.RowKit Go.Proofs.YtinlejhffokbaaaW.PrintWords Go.Proofs.YtinlejhffokbaaaW.PrintLast Go.Proofs.YtinlejhffokbaaaW.PrintMore
attribute [local go_sem] max2_int min2_int max_two min_two max_three min_three max_four min_four   -- for this text's walks alone
set_option linter.unusedVariables false
set_option linter.unusedSimpArgs false
/-! ### spec_l13Grow: function 61 -/
def spec_l13Grow.l0 : Nat → Int → List Int → Int → Int → Int → Int → ByteArray → List Int → List Int → Int → Int → List (List Int) → Option (List Int × Int × Bool)
 | 0, _, _, _, _, _, _, _, _, _, _, _, _ => none
 | k + 1, x1, x2, x3, x4, x5, x15, x186000, x186001, x186002, x186003, x186004, x186005 => if x15 < x3 then (if 0 ≤ (wrap64 ((x2.length : Int) - 1)) then (if (wrap64 ((x2.length : Int) - 1)) < (x2.length : Int) then ((spec_l05Next.f k x186000 x186001 x186002 x186003 x186004 x186005 (rd x2 (wrap64 ((x2.length : Int) - 1)))).bind fun t187 => ((spec_l13In.f k t187 x4 x5).bind fun t190 => (if (t190.length : Int) = 0 then (some (([] : List Int), 0, false)) else ((spec_l13Pick.f x1 (t190.length : Int)).bind fun bt193 => (if 0 ≤ bt193.1 then (if bt193.1 < (t190.length : Int) then (if x2.length < 17592186044416 then (spec_l13Grow.l0 k bt193.2 (x2 ++ [rd t190 bt193.1]) x3 x4 x5 (wrap64 (x15 + 1)) x186000 x186001 x186002 x186003 x186004 x186005) else (none)) else (none)) else (none)))))) else (none)) else (none)) else (some (x2, x1, true))
def spec_l13Grow.f (k : Nat) (a0_0 : ByteArray) (l0_1 : List Int) (l0_2 : List Int) (a0_3 : Int) (a0_4 : Int) (l0_5 : List (List Int)) (a1 : Int) (l2 : List Int) (a3 : Int) (a4 : Int) (a5 : Int) : Option (List Int × Int × Bool) := spec_l13Grow.l0 k a1 l2 a3 a4 a5 0 a0_0 l0_1 l0_2 a0_3 a0_4 l0_5
theorem spec_l13Grow.mono_l : ∀ k, (∀ y0 y1 y2 y3 y4 y5 y6 y7 y8 y9 y10 y11, LeO (spec_l13Grow.l0 k y0 y1 y2 y3 y4 y5 y6 y7 y8 y9 y10 y11) (spec_l13Grow.l0 (k + 1) y0 y1 y2 y3 y4 y5 y6 y7 y8 y9 y10 y11))
 | 0 => fun _ _ _ _ _ _ _ _ _ _ _ _ r h => by simp [spec_l13Grow.l0] at h
 | k + 1 => by
  have ih0 := spec_l13Grow.mono_l k
  ·intro y0 y1 y2 y3 y4 y5 y6 y7 y8 y9 y10 y11
   unfold spec_l13Grow.l0
   repeat' first
   | (with_reducible exact ih0 _ _ _ _ _ _ _ _ _ _ _ _)
   | (with_reducible exact spec_l05Next.mono _ _ _ _ _ _ _ _)
   | (with_reducible exact spec_l13In.mono _ _ _ _)
   | (with_reducible exact LeO.refl _)
   | (with_reducible exact LeO.none _)
   | (with_reducible refine LeO.ite ?_ ?_)
   | (with_reducible refine LeO.bind ?_ (fun _ => ?_))
   | exact ih0 _ _ _ _ _ _ _ _ _ _ _ _
   | exact spec_l05Next.mono _ _ _ _ _ _ _ _
   | exact spec_l13In.mono _ _ _ _
   | exact LeO.none _
   | refine LeO.ite ?_ ?_
   | refine LeO.bind ?_ (fun _ => ?_)
theorem spec_l13Grow.mono : ∀ a0 a1 a2 a3 a4 a5 a6 a7 a8 a9 a10 k, LeO (spec_l13Grow.f k a0 a1 a2 a3 a4 a5 a6 a7 a8 a9 a10) (spec_l13Grow.f (k + 1) a0 a1 a2 a3 a4 a5 a6 a7 a8 a9 a10) := by
 intro a0 a1 a2 a3 a4 a5 a6 a7 a8 a9 a10 k
 have ih0 := spec_l13Grow.mono_l k
 unfold spec_l13Grow.f
 repeat' first
   | (with_reducible exact ih0 _ _ _ _ _ _ _ _ _ _ _ _)
   | (with_reducible exact spec_l05Next.mono _ _ _ _ _ _ _ _)
   | (with_reducible exact spec_l13In.mono _ _ _ _)
   | (with_reducible exact LeO.refl _)
   | (with_reducible exact LeO.none _)
   | (with_reducible refine LeO.ite ?_ ?_)
   | (with_reducible refine LeO.bind ?_ (fun _ => ?_))
   | exact ih0 _ _ _ _ _ _ _ _ _ _ _ _
   | exact spec_l05Next.mono _ _ _ _ _ _ _ _
   | exact spec_l13In.mono _ _ _ _
   | exact LeO.none _
   | refine LeO.ite ?_ ?_
   | refine LeO.bind ?_ (fun _ => ?_)
set_option maxHeartbeats 8000000 in
set_option maxRecDepth 100000 in
theorem spec_l13Grow.calls (k : Nat) (g0 : Nat) (a0_0 : ByteArray) (A0_1 : Option Addr) (c0_1 : Nat) (l0_1 : List Int) (A0_2 : Option Addr) (c0_2 : Nat) (l0_2 : List Int) (a0_3 : Int) (a0_4 : Int) (A0_5 : Option Addr) (c0_5 : Nat) (l0_5 : List (List Int)) (a1 : Int) (P2_ : Nat → Prop) (u9000_ : Value) (l2 : List Int) (a3 : Int) (a4 : Int) (a5 : Int) (r1 : List Int) (r2 : Int) (r3 : Bool) (w0 w : World) (hB : Below w0.heap.size w0 w) (hp0 : w.heap[g0]? = some (.cells #[.string a0_0, .slice A0_1 l0_1.length c0_1, .slice A0_2 l0_2.length c0_2, .int .i64 a0_3, .int .i64 a0_4, .slice A0_5 l0_5.length c0_5] 29 (0, 0))) (hr0_1 : ∀ W_, Kept w W_ (fun k_ => P2_ k_) → Kd.C (Kd.int .i64) W_ A0_1 l0_1.length l0_1) (hc0_1 : l0_1.length ≤ c0_1) (hr0_2 : ∀ W_, Kept w W_ (fun k_ => P2_ k_) → Kd.C (Kd.int .i64) W_ A0_2 l0_2.length l0_2) (hc0_2 : l0_2.length ≤ c0_2) (hr0_5 : ∀ W_, Kept w W_ (fun k_ => P2_ k_) → Kd.C (Kd.slice 2 (Kd.int .i64)) W_ A0_5 l0_5.length l0_5) (hc0_5 : l0_5.length ≤ c0_5) (ho2 : Kd.R (Kd.int .i64) 2 w w0.heap.size P2_ u9000_ l2) (h : spec_l13Grow.f k a0_0 l0_1 l0_2 a0_3 a0_4 l0_5 a1 l2 a3 a4 a5 = some (r1, r2, r3)) :
  Calls Try.prog 61 #[.pointer (some ⟨g0, 0, none⟩), .int .i64 a1, u9000_, .int .i64 a3, .int .i64 a4, .int .i64 a5] w fun e w' => ∃ v0_ : Value, e = .returned (.tuple #[v0_, .int .i64 r2, .bool r3]) ∧ Kd.R (Kd.int .i64) 2 w' w0.heap.size (fun k_ => (P2_ k_ ∨ w.heap.size ≤ k_)) v0_ r1 ∧ Below w0.heap.size w0 w' ∧ Kept w w' (fun k_ => P2_ k_) := by
 have HR0_1 := Aside0.mk hr0_1
 have HC0_1 := Aside0.mk hc0_1
 clear hr0_1 hc0_1
 have HR0_2 := Aside0.mk hr0_2
 have HC0_2 := Aside0.mk hc0_2
 clear hr0_2 hc0_2
 have HR0_5 := Aside0.mk hr0_5
 have HC0_5 := Aside0.mk hc0_5
 clear hr0_5 hc0_5
 have HO2 := Aside0.mk (show Kd.R (Kd.int .i64) 2 w w0.heap.size (fun k_ => (P2_ k_ ∨ w.heap.size ≤ k_)) u9000_ l2 from Kd.R_mono ho2 (fun k_ hk => (.inl hk)))
 have HK := Aside0.mk (Kept.refl w (fun k_ => P2_ k_))
 have HW0 := Aside0.mk hB.size
 have HB := Aside0.mk hB
 clear hB
 have HBX0 := Aside0.mk hp0
 have HBP0 := Aside0.mk hp0
 clear hp0
 have H : (spec_l13Grow.l0 k a1 l2 a3 a4 a5 0 a0_0 l0_1 l0_2 a0_3 a0_4 l0_5) = some (r1, r2, r3) := h
 clear h
 have H' := Aside0.mk H
 clear H
 go_enter Try.func61, Try.ntmps61
 go_wp2
 go_loopg [1, 2, 15] k (fun kq v1 v2 v15 w' => ∃ (x1_1 : Int) (x2_1 : List Int) (x15_1 : Int), v1 = .int .i64 x1_1 ∧ v15 = .int .i64 x15_1 ∧ Aside0 (spec_l13Grow.l0 kq x1_1 x2_1 a3 a4 a5 x15_1 a0_0 l0_1 l0_2 a0_3 a0_4 l0_5 = some (r1, r2, r3)) ∧ Aside0 (kq ≤ k) ∧ Aside0 (Kd.R (Kd.int .i64) 2 w' w0.heap.size (fun k_ => (P2_ k_ ∨ w.heap.size ≤ k_)) v2 x2_1) ∧ Aside0 (w'.heap[g0]? = some (.cells #[.string a0_0, (.slice A0_1 l0_1.length c0_1), (.slice A0_2 l0_2.length c0_2), .int .i64 a0_3, .int .i64 a0_4, (.slice A0_5 l0_5.length c0_5)] 29 (0, 0))) ∧ Aside0 (Kept w w' (fun k_ => P2_ k_)) ∧ Aside0 (Below w0.heap.size w0 w'))
 case atStart => exact ⟨(a1), (l2), (0), sv_, sv_, H', ⟨Nat.le_refl _⟩, ⟨rr_ HO2.out⟩, ⟨by (with_reducible repeat (first | refine blk_drewN ?_ _ | refine blk_drew ?_ | refine blk_alloc ?_ _)); exact HBX0.out⟩, ⟨by repeat (first | (with_reducible first | exact HK.out | apply Kept.alloc | apply Kept.drewN | apply Kept.drew | refine Kept.setCell ?_ (.inr GW185.out) _) | exact HK.out)⟩, ⟨bb_ HB.out⟩⟩
 case round =>
  clear H'
  (try clear p2); (try clear c6)
  obtain ⟨x1_1, x2_1, x15_1, rfl, rfl, HA, HK1, HO_2, HBX0, HK, HB⟩ := hrel
  cases gk with
  | zero => exact absurd HA.out (by simp [spec_l13Grow.l0])
  | succ k1 =>
   have H := HA.out
   clear HA
   simp only [spec_l13Grow.l0] at H
   by_cases c7 : x15_1 < a3
   ·rw [if_pos c7] at H
    have c7b0 : decide (x15_1 < a3) = true := decide_eq_true c7
    clear c7
    obtain ⟨ji8, hji8⟩ : ∃ j_ : Int, (wrap64 ((x2_1.length : Int) - 1)) = j_ := ⟨_, rfl⟩
    replace H : (if 0 ≤ (ji8) then (if (ji8) < (x2_1.length : Int) then ((spec_l05Next.f k1 a0_0 l0_1 l0_2 a0_3 a0_4 l0_5 (rd x2_1 (ji8))).bind fun t187 => ((spec_l13In.f k1 t187 a4 a5).bind fun t190 => (if (t190.length : Int) = 0 then (some (([] : List Int), 0, false)) else ((spec_l13Pick.f x1_1 (t190.length : Int)).bind fun bt193 => (if 0 ≤ bt193.1 then (if bt193.1 < (t190.length : Int) then (if x2_1.length < 17592186044416 then (spec_l13Grow.l0 k1 bt193.2 (x2_1 ++ [rd t190 bt193.1]) a3 a4 a5 (wrap64 (x15_1 + 1)) a0_0 l0_1 l0_2 a0_3 a0_4 l0_5) else (none)) else (none)) else (none)))))) else (none)) else (none)) = some (r1, r2, r3) := by first | (rw [hji8] at H; exact H) | (simp only [hji8] at H ⊢; exact H)
    have hji8w : (IntKind.i64.wrap ((x2_1.length : Int) - 1)) = ji8 := (i64_w _).trans hji8
    by_cases c9 : 0 ≤ (ji8)
    ·rw [if_pos c9] at H
     have c9b0 : decide (0 ≤ (ji8)) = true := decide_eq_true c9
     clear c9
     by_cases c10 : (ji8) < (x2_1.length : Int)
     ·rw [if_pos c10] at H
      have c10b0 : decide ((ji8) < (x2_1.length : Int)) = true := decide_eq_true c10
      clear c10
      replace H := Option.bind_eq_some_iff.mp H
      obtain ⟨t187, A110, H⟩ := H
      replace H : ((spec_l13In.f k1 t187 a4 a5).bind fun t190 => (if (t190.length : Int) = 0 then (some (([] : List Int), 0, false)) else ((spec_l13Pick.f x1_1 (t190.length : Int)).bind fun bt193 => (if 0 ≤ bt193.1 then (if bt193.1 < (t190.length : Int) then (if x2_1.length < 17592186044416 then (spec_l13Grow.l0 k1 bt193.2 (x2_1 ++ [rd t190 bt193.1]) a3 a4 a5 (wrap64 (x15_1 + 1)) a0_0 l0_1 l0_2 a0_3 a0_4 l0_5) else (none)) else (none)) else (none))))) = some (r1, r2, r3) := H
      have A11 := Aside0.mk A110
      clear A110
      replace H := Option.bind_eq_some_iff.mp H
      obtain ⟨t190, A120, H⟩ := H
      replace H : (if (t190.length : Int) = 0 then (some (([] : List Int), 0, false)) else ((spec_l13Pick.f x1_1 (t190.length : Int)).bind fun bt193 => (if 0 ≤ bt193.1 then (if bt193.1 < (t190.length : Int) then (if x2_1.length < 17592186044416 then (spec_l13Grow.l0 k1 bt193.2 (x2_1 ++ [rd t190 bt193.1]) a3 a4 a5 (wrap64 (x15_1 + 1)) a0_0 l0_1 l0_2 a0_3 a0_4 l0_5) else (none)) else (none)) else (none)))) = some (r1, r2, r3) := H
      have A12 := Aside0.mk A120
      clear A120
      by_cases c13 : (t190.length : Int) = 0
      ·rw [if_pos c13] at H
       have c13b0 : ((t190.length : Int) == 0) = true := beq_iff_eq.mpr c13
       have c13b1 : ((t190.length : Int) != 0) = false := bne_eq_false_iff_eq.mpr c13
       clear c13
       simp only [Option.some.injEq, Prod.mk.injEq] at H
       obtain ⟨rfl, rfl, rfl⟩ := H
       obtain ⟨Ao14, co14, eo14⟩ := Kd.R_slice HO_2.out
       subst eo14
       have p186 : 0 ≤ ((ji8) : Int) := da_
       have q186 : (ji8) < (x2_1.length : Int) := da_
       obtain ⟨ad186, e186, hx186_0⟩ := Kd.at_int (Kd.R_reads' HO_2.out).2.2 (ji8) p186 q186
       cases e186
       replace p186 := eq_true p186
       replace q186 := eq_true q186
       go_wp2_with (first | ((with_reducible refine gate_callee (f := 112) rfl ?_); refine goesL_ (some 31) rfl rfl Try.func112 (by kernel_rfl) rfl #[.pointer (some ⟨g0, 0, none⟩), .int .i64 (rd x2_1 (ji8))] rfl (by (try simp only [List.map_toArray, List.map_cons, List.map_nil]); first | done | (simp only [hji8]; rfl) | rfl | (simp only [List.length_drop, List.length_take]; rfl)) ?_; (with_reducible refine (spec_l05Next.calls k1 g0 a0_0 A0_1 c0_1 l0_1 A0_2 c0_2 l0_2 a0_3 a0_4 A0_5 c0_5 l0_5 (rd x2_1 (ji8)) t187 _ ?side1 ?side2 ?side3 ?side4 ?side5 ?side6 ?side7 A11.out).mono ?_); (case side1 => exact bk_ HBX0.out); (case side2 => exact Kd.C_kept_now HR0_1.out (by repeat (first | (with_reducible first | exact HK.out | apply Kept.alloc | apply Kept.drewN | apply Kept.drew | refine Kept.setCell ?_ (.inr GW185.out) _) | exact HK.out))); (case side3 => exact HC0_1.out); (case side4 => exact Kd.C_kept_now HR0_2.out (by repeat (first | (with_reducible first | exact HK.out | apply Kept.alloc | apply Kept.drewN | apply Kept.drew | refine Kept.setCell ?_ (.inr GW185.out) _) | exact HK.out))); (case side5 => exact HC0_2.out); (case side6 => exact Kd.C_kept_now HR0_5.out (by repeat (first | (with_reducible first | exact HK.out | apply Kept.alloc | apply Kept.drewN | apply Kept.drew | refine Kept.setCell ?_ (.inr GW185.out) _) | exact HK.out))); (case side7 => exact HC0_5.out); rintro e w15 ⟨v188, rfl, ho0, hb⟩; refine ⟨_, rfl, ?_⟩; have n0_ := Aside0.mk (Kd.R_elder' (rr_ HO_2.out) (Kd.R_base ho0) hb); have n1_ := Aside0.mk (Kd.R_lower (Kd.R_new' (Kd.R_newM (M := fun k_ => (P2_ k_ ∨ w.heap.size ≤ k_)) ho0 (by first | exact HK.out.1 | exact (show Kept w _ (fun k_ => P2_ k_) from by repeat (first | (with_reducible first | exact HK.out | apply Kept.alloc | apply Kept.drewN | apply Kept.drew | refine Kept.setCell ?_ (.inr GW185.out) _) | exact HK.out)).1) (fun k_ h_ => .inr h_)) (Kd.R_lt (rr_ HO_2.out))) (below_size (bb_ HB.out))); have n2_ := Aside0.mk (blk_below (g := g0) (o := .cells #[.string a0_0, .slice A0_1 l0_1.length c0_1, .slice A0_2 l0_2.length c0_2, .int .i64 a0_3, .int .i64 a0_4, .slice A0_5 l0_5.length c0_5] 29 (0, 0)) (by repeat first | exact HBX0.out | refine blk_drewN ?_ _ | refine blk_drew ?_ | refine blk_alloc ?_ _) hb); have n3_ := Aside0.mk (Kept.below (S := (fun k_ => P2_ k_)) (by repeat (first | (with_reducible first | exact HK.out | apply Kept.alloc | apply Kept.drewN | apply Kept.drew | refine Kept.setCell ?_ (.inr GW185.out) _) | exact HK.out)) hb); have n4_ := Aside0.mk (below_step (bb_ HB.out) hb); clear HO_2; clear HBX0; clear HK; clear HB; have HO_2 := n0_; have HO189 := n1_; have HBX0 := n2_; have HK := n3_; have HB := n4_; clear n0_ n1_ n2_ n3_ n4_; (try clear hb); (try clear hb2); (try clear hk); (try clear hi); (try clear ho0); obtain ⟨Ao16, co16, eo16⟩ := Kd.R_slice HO189.out; subst eo16) | ((with_reducible refine gate_callee (f := 111) rfl ?_); refine goesL_ (some 34) rfl rfl Try.func111 (by kernel_rfl) rfl #[.slice Ao16 t187.length co16, .int .i64 a4, .int .i64 a5] rfl av_ ?_; (with_reducible refine (spec_l13In.calls k1 _ _ t187 a4 a5 t190 _ ?side1 ?side2 A12.out).mono ?_); (case side1 => exact cs_ (Kd.R_reads' HO189.out).2.2); (case side2 => exact (Kd.R_reads' HO189.out).2.1); rintro e w17 ⟨v191, rfl, ho0, hb⟩; refine ⟨_, rfl, ?_⟩; have n0_ := Aside0.mk (Kd.R_elder' (rr_ HO_2.out) (Kd.R_base ho0) hb); have n1_ := Aside0.mk (Kd.R_elder' (rr_ HO189.out) (Kd.R_base ho0) hb); have n2_ := Aside0.mk (Kd.R_lower (Kd.R_new' (Kd.R_new' (Kd.R_newM (M := fun k_ => (P2_ k_ ∨ w.heap.size ≤ k_)) ho0 (by first | exact HK.out.1 | exact (show Kept w _ (fun k_ => P2_ k_) from by repeat (first | (with_reducible first | exact HK.out | apply Kept.alloc | apply Kept.drewN | apply Kept.drew | refine Kept.setCell ?_ (.inr GW185.out) _) | exact HK.out)).1) (fun k_ h_ => .inr h_)) (Kd.R_lt (rr_ HO_2.out))) (Kd.R_lt (rr_ HO189.out))) (below_size (bb_ HB.out))); have n3_ := Aside0.mk (blk_below (g := g0) (o := .cells #[.string a0_0, .slice A0_1 l0_1.length c0_1, .slice A0_2 l0_2.length c0_2, .int .i64 a0_3, .int .i64 a0_4, .slice A0_5 l0_5.length c0_5] 29 (0, 0)) (by repeat first | exact HBX0.out | refine blk_drewN ?_ _ | refine blk_drew ?_ | refine blk_alloc ?_ _) hb); have n4_ := Aside0.mk (Kept.below (S := (fun k_ => P2_ k_)) (by repeat (first | (with_reducible first | exact HK.out | apply Kept.alloc | apply Kept.drewN | apply Kept.drew | refine Kept.setCell ?_ (.inr GW185.out) _) | exact HK.out)) hb); have n5_ := Aside0.mk (below_step (bb_ HB.out) hb); clear HO_2; clear HO189; clear HBX0; clear HK; clear HB; have HO_2 := n0_; have HO189 := n1_; have HO192 := n2_; have HBX0 := n3_; have HK := n4_; have HB := n5_; clear n0_ n1_ n2_ n3_ n4_ n5_; (try clear hb); (try clear hb2); (try clear hk); (try clear hi); (try clear ho0); obtain ⟨Ao18, co18, eo18⟩ := Kd.R_slice HO192.out; subst eo18))
       go_ret3
       exact ⟨_, by first | rfl | (simp [errW_none, errW_some] <;> rfl) | (simp only [← hji8]; first | rfl | (simp [errW_none, errW_some] <;> rfl)) | (simp [*, errW_none, errW_some] <;> rfl), by first | exact Kd.R_nil _ _ _ _ _ | exact Kd.N_nil _ _ _ _ _ | exact Kd.V_nil _ _ _ _ _ | exact Kd.Q_nil _ _ _ _ _ | exact Kd.S_nil _ _ _ _ _, bb_ HB.out, by repeat (first | (with_reducible first | exact HK.out | apply Kept.alloc | apply Kept.drewN | apply Kept.drew | refine Kept.setCell ?_ (.inr GW185.out) _) | exact HK.out)⟩
      ·rw [if_neg c13] at H
       have c13b0 : ((t190.length : Int) == 0) = false := beq_eq_false_iff_ne.mpr c13
       have c13b1 : ((t190.length : Int) != 0) = true := bne_iff_ne.mpr c13
       have c13b2 : ¬ (t190 = []) := fun h_ => c13 (by rw [h_]; rfl)
       replace H := Option.bind_eq_some_iff.mp H
       obtain ⟨⟨t193, t194⟩, A190, H⟩ := H
       replace H : (if 0 ≤ t193 then (if t193 < (t190.length : Int) then (if x2_1.length < 17592186044416 then (spec_l13Grow.l0 k1 t194 (x2_1 ++ [rd t190 t193]) a3 a4 a5 (wrap64 (x15_1 + 1)) a0_0 l0_1 l0_2 a0_3 a0_4 l0_5) else (none)) else (none)) else (none)) = some (r1, r2, r3) := H
       have A19 := Aside0.mk A190
       clear A190
       by_cases c20 : 0 ≤ t193
       ·rw [if_pos c20] at H
        have c20b0 : decide (0 ≤ t193) = true := decide_eq_true c20
        clear c20
        by_cases c21 : t193 < (t190.length : Int)
        ·rw [if_pos c21] at H
         have c21b0 : decide (t193 < (t190.length : Int)) = true := decide_eq_true c21
         clear c21
         by_cases c22 : x2_1.length < 17592186044416
         ·rw [if_pos c22] at H
          have LMc22 := Aside0.mk c22
          clear c22
          obtain ⟨y196, hy196⟩ : ∃ y_ : List Int, y_ = (x2_1 ++ [rd t190 t193]) := ⟨_, rfl⟩
          replace H : (spec_l13Grow.l0 k1 t194 y196 a3 a4 a5 (wrap64 (x15_1 + 1)) a0_0 l0_1 l0_2 a0_3 a0_4 l0_5) = some (r1, r2, r3) := by first | (rw [hy196]; with_reducible exact H) | (have H2_ := (Option.bind_some _ _).symm.trans H; rw [hy196]; with_reducible exact H2_) | (have H2_ := (Option.bind_some _ _).symm.trans H; with_reducible exact H2_) | with_reducible exact H | (rw [hy196]; exact H) | exact H
          have Ny196 := Aside0.mk hy196
          clear hy196
          have H' := Aside0.mk H
          clear H
          obtain ⟨Ao23, co23, eo23⟩ := Kd.R_slice HO_2.out
          subst eo23
          have p186 : 0 ≤ ((ji8) : Int) := da_
          have q186 : (ji8) < (x2_1.length : Int) := da_
          obtain ⟨ad186, e186, hx186_0⟩ := Kd.at_int (Kd.R_reads' HO_2.out).2.2 (ji8) p186 q186
          cases e186
          replace p186 := eq_true p186
          replace q186 := eq_true q186
          go_wp2_with (first | ((with_reducible refine gate_callee (f := 112) rfl ?_); refine goesL_ (some 31) rfl rfl Try.func112 (by kernel_rfl) rfl #[.pointer (some ⟨g0, 0, none⟩), .int .i64 (rd x2_1 (ji8))] rfl (by (try simp only [List.map_toArray, List.map_cons, List.map_nil]); first | done | (simp only [hji8]; rfl) | rfl | (simp only [List.length_drop, List.length_take]; rfl)) ?_; (with_reducible refine (spec_l05Next.calls k1 g0 a0_0 A0_1 c0_1 l0_1 A0_2 c0_2 l0_2 a0_3 a0_4 A0_5 c0_5 l0_5 (rd x2_1 (ji8)) t187 _ ?side1 ?side2 ?side3 ?side4 ?side5 ?side6 ?side7 A11.out).mono ?_); (case side1 => exact bk_ HBX0.out); (case side2 => exact Kd.C_kept_now HR0_1.out (by repeat (first | (with_reducible first | exact HK.out | apply Kept.alloc | apply Kept.drewN | apply Kept.drew | refine Kept.setCell ?_ (.inr GW185.out) _) | exact HK.out))); (case side3 => exact HC0_1.out); (case side4 => exact Kd.C_kept_now HR0_2.out (by repeat (first | (with_reducible first | exact HK.out | apply Kept.alloc | apply Kept.drewN | apply Kept.drew | refine Kept.setCell ?_ (.inr GW185.out) _) | exact HK.out))); (case side5 => exact HC0_2.out); (case side6 => exact Kd.C_kept_now HR0_5.out (by repeat (first | (with_reducible first | exact HK.out | apply Kept.alloc | apply Kept.drewN | apply Kept.drew | refine Kept.setCell ?_ (.inr GW185.out) _) | exact HK.out))); (case side7 => exact HC0_5.out); rintro e w24 ⟨v188, rfl, ho0, hb⟩; refine ⟨_, rfl, ?_⟩; have n0_ := Aside0.mk (Kd.R_elder' (rr_ HO_2.out) (Kd.R_base ho0) hb); have n1_ := Aside0.mk (Kd.R_lower (Kd.R_new' (Kd.R_newM (M := fun k_ => (P2_ k_ ∨ w.heap.size ≤ k_)) ho0 (by first | exact HK.out.1 | exact (show Kept w _ (fun k_ => P2_ k_) from by repeat (first | (with_reducible first | exact HK.out | apply Kept.alloc | apply Kept.drewN | apply Kept.drew | refine Kept.setCell ?_ (.inr GW185.out) _) | exact HK.out)).1) (fun k_ h_ => .inr h_)) (Kd.R_lt (rr_ HO_2.out))) (below_size (bb_ HB.out))); have n2_ := Aside0.mk (blk_below (g := g0) (o := .cells #[.string a0_0, .slice A0_1 l0_1.length c0_1, .slice A0_2 l0_2.length c0_2, .int .i64 a0_3, .int .i64 a0_4, .slice A0_5 l0_5.length c0_5] 29 (0, 0)) (by repeat first | exact HBX0.out | refine blk_drewN ?_ _ | refine blk_drew ?_ | refine blk_alloc ?_ _) hb); have n3_ := Aside0.mk (Kept.below (S := (fun k_ => P2_ k_)) (by repeat (first | (with_reducible first | exact HK.out | apply Kept.alloc | apply Kept.drewN | apply Kept.drew | refine Kept.setCell ?_ (.inr GW185.out) _) | exact HK.out)) hb); have n4_ := Aside0.mk (below_step (bb_ HB.out) hb); clear HO_2; clear HBX0; clear HK; clear HB; have HO_2 := n0_; have HO189 := n1_; have HBX0 := n2_; have HK := n3_; have HB := n4_; clear n0_ n1_ n2_ n3_ n4_; (try clear hb); (try clear hb2); (try clear hk); (try clear hi); (try clear ho0); obtain ⟨Ao25, co25, eo25⟩ := Kd.R_slice HO189.out; subst eo25) | ((with_reducible refine gate_callee (f := 111) rfl ?_); refine goesL_ (some 34) rfl rfl Try.func111 (by kernel_rfl) rfl #[.slice Ao25 t187.length co25, .int .i64 a4, .int .i64 a5] rfl av_ ?_; (with_reducible refine (spec_l13In.calls k1 _ _ t187 a4 a5 t190 _ ?side1 ?side2 A12.out).mono ?_); (case side1 => exact cs_ (Kd.R_reads' HO189.out).2.2); (case side2 => exact (Kd.R_reads' HO189.out).2.1); rintro e w26 ⟨v191, rfl, ho0, hb⟩; refine ⟨_, rfl, ?_⟩; have n0_ := Aside0.mk (Kd.R_elder' (rr_ HO_2.out) (Kd.R_base ho0) hb); have n1_ := Aside0.mk (Kd.R_elder' (rr_ HO189.out) (Kd.R_base ho0) hb); have n2_ := Aside0.mk (Kd.R_lower (Kd.R_new' (Kd.R_new' (Kd.R_newM (M := fun k_ => (P2_ k_ ∨ w.heap.size ≤ k_)) ho0 (by first | exact HK.out.1 | exact (show Kept w _ (fun k_ => P2_ k_) from by repeat (first | (with_reducible first | exact HK.out | apply Kept.alloc | apply Kept.drewN | apply Kept.drew | refine Kept.setCell ?_ (.inr GW185.out) _) | exact HK.out)).1) (fun k_ h_ => .inr h_)) (Kd.R_lt (rr_ HO_2.out))) (Kd.R_lt (rr_ HO189.out))) (below_size (bb_ HB.out))); have n3_ := Aside0.mk (blk_below (g := g0) (o := .cells #[.string a0_0, .slice A0_1 l0_1.length c0_1, .slice A0_2 l0_2.length c0_2, .int .i64 a0_3, .int .i64 a0_4, .slice A0_5 l0_5.length c0_5] 29 (0, 0)) (by repeat first | exact HBX0.out | refine blk_drewN ?_ _ | refine blk_drew ?_ | refine blk_alloc ?_ _) hb); have n4_ := Aside0.mk (Kept.below (S := (fun k_ => P2_ k_)) (by repeat (first | (with_reducible first | exact HK.out | apply Kept.alloc | apply Kept.drewN | apply Kept.drew | refine Kept.setCell ?_ (.inr GW185.out) _) | exact HK.out)) hb); have n5_ := Aside0.mk (below_step (bb_ HB.out) hb); clear HO_2; clear HO189; clear HBX0; clear HK; clear HB; have HO_2 := n0_; have HO189 := n1_; have HO192 := n2_; have HBX0 := n3_; have HK := n4_; have HB := n5_; clear n0_ n1_ n2_ n3_ n4_ n5_; (try clear hb); (try clear hb2); (try clear hk); (try clear hi); (try clear ho0); obtain ⟨Ao27, co27, eo27⟩ := Kd.R_slice HO192.out; subst eo27) | ((with_reducible refine gate_callee (f := 67) rfl ?_); refine goesL_ (some 42) rfl rfl Try.func67 (by kernel_rfl) rfl #[.int .i64 x1_1, .int .i64 (t190.length : Int)] rfl av_ ?_; (with_reducible refine (spec_l13Pick.calls x1_1 (t190.length : Int) t193 t194 _ A19.out).mono ?_); rintro e w' ⟨rfl, ⟨nd, rfl⟩⟩; refine ⟨_, rfl, ?_⟩; have p195 : 0 ≤ (t193 : Int) := da_; have q195 : t193 < (t190.length : Int) := da_; obtain ⟨ad195, e195, hx195_0⟩ := Kd.at_int (Kd.R_reads' HO192.out).2.2 t193 p195 q195; cases e195; replace p195 := eq_true p195; replace q195 := eq_true q195) | ((with_reducible refine gate_builtin (b := .append) (xs := #[.tmp 45, .tmp 50]) rfl ?_); at_builtin; refine Kd.R_append (Kd.int .i64) (w0 := w0) w0.heap.size rfl (.tmp 45) (.tmp 50) 22 2 (.int .i64 0) 8 rfl Try.underlying22 info2 rfl (by decide) (by omega) (.slice (some ad186) x2_1.length co23) x2_1 (rd t190 t193) [.int .i64 (rd t190 t193)] (fun k_ => (P2_ k_ ∨ w.heap.size ≤ k_) ∧ some k_ ≠ (.slice Ao25 t187.length co25 : Value).ownBlock ∧ some k_ ≠ (.slice (some ad195) t190.length co27 : Value).ownBlock) (fun _ => False) rfl rfl ?aP (fun _ hk => hk.elim) ?aF ?aO ?aB ?aS ?aL ?_; (case aP => exact rfl); (case aB => exact (bb_ HB.out)); (case aF => exact (fun k_ hk => ⟨(.inr (Nat.le_trans (by first | exact HK.out.1 | exact (show Kept w _ (fun k_ => P2_ k_) from by repeat (first | (with_reducible first | exact HK.out | apply Kept.alloc | apply Kept.drewN | apply Kept.drew | refine Kept.setCell ?_ (.inr GW185.out) _) | exact HK.out)).1) hk)), Kd.fresh' (Kd.R_lt (rr_ HO189.out)) k_ hk, Kd.fresh' (Kd.R_lt (rr_ HO192.out)) k_ hk⟩)); (case aO => exact (by (with_reducible repeat (first | apply Kd.R_alloc | apply Kd.R_drewN | apply Kd.R_drew)); exact Kd.R_mono HO_2.out (fun _ hk => ⟨hk.1.1, ⟨hk.1.2, hk.2⟩⟩))); (case aS => exact (below_size (bb_ HB.out))); (case aL => have := LMc22.out; omega); intro v197 w28 ho hb hg hat; rw [← Ny196.out] at ho; have n0_ := Aside0.mk (blk_grown (g := g0) (o := .cells #[.string a0_0, .slice A0_1 l0_1.length c0_1, .slice A0_2 l0_2.length c0_2, .int .i64 a0_3, .int .i64 a0_4, .slice A0_5 l0_5.length c0_5] 29 (0, 0)) (by repeat first | exact HBX0.out | refine blk_drewN ?_ _ | refine blk_drew ?_ | refine blk_alloc ?_ _) hg (Kd.R_ne HO_2.out HBX0.out (by decide))); have n1_ := Aside0.mk (Kd.R_after (ok := (fun k_ => (P2_ k_ ∨ w.heap.size ≤ k_) ∧ some k_ ≠ (.slice (some ad195) t190.length co27 : Value).ownBlock)) (by (with_reducible repeat (first | apply Kd.R_alloc | apply Kd.R_drewN | apply Kd.R_drew)); exact Kd.R_mono HO189.out (fun _ hk => ⟨⟨hk.1.1.1, hk.2⟩, hk.1.2⟩)) hg hat); have n2_ := Aside0.mk (Kd.R_after (ok := (fun k_ => (P2_ k_ ∨ w.heap.size ≤ k_) ∧ some k_ ≠ (.slice Ao25 t187.length co25 : Value).ownBlock)) (by (with_reducible repeat (first | apply Kd.R_alloc | apply Kd.R_drewN | apply Kd.R_drew)); exact Kd.R_mono HO192.out (fun _ hk => ⟨⟨hk.1.1.1, hk.2⟩, hk.1.2⟩)) hg hat); have n3_ := Aside0.mk (hb); have n4_ := Aside0.mk (Kept.of_grown (S := (fun k_ => P2_ k_)) hg (by repeat (first | (with_reducible first | exact HK.out | apply Kept.alloc | apply Kept.drewN | apply Kept.drew | refine Kept.setCell ?_ (.inr GW185.out) _) | exact HK.out)) (fun k_ e_ => (HO_2.out.1 k_ e_).1.1)); have n5_ := Aside0.mk (ho); clear HBX0; clear HO189; clear HO192; clear HB; clear HK; clear HO_2; have HBX0 := n0_; have HO189 := n1_; have HO192 := n2_; have HB := n3_; have HK := n4_; have HO198 := n5_; clear n0_ n1_ n2_ n3_ n4_ n5_; clear ho hb hg hat))
          go_roundg k1
          case measure => have := HK1.out; omega
          case rel => exact ⟨(t194), (y196), (wrap64 (x15_1 + 1)), sv_, sv_, H', ⟨by have := HK1.out; omega⟩, ⟨by (with_reducible repeat (first | apply Kd.R_alloc | apply Kd.R_drewN | apply Kd.R_drew)); exact Kd.R_mono HO198.out (fun _ hk => hk.1)⟩, ⟨by (with_reducible repeat (first | refine blk_drewN ?_ _ | refine blk_drew ?_ | refine blk_alloc ?_ _)); exact HBX0.out⟩, ⟨by repeat (first | (with_reducible first | exact HK.out | apply Kept.alloc | apply Kept.drewN | apply Kept.drew | refine Kept.setCell ?_ (.inr GW185.out) _) | exact HK.out)⟩, ⟨bb_ HB.out⟩⟩
         ·rw [if_neg c22] at H
          exact absurd H (by simp)
        ·rw [if_neg c21] at H
         exact absurd H (by simp)
       ·rw [if_neg c20] at H
        exact absurd H (by simp)
     ·rw [if_neg c10] at H
      exact absurd H (by simp)
    ·rw [if_neg c9] at H
     exact absurd H (by simp)
   ·rw [if_neg c7] at H
    have c7b0 : decide (x15_1 < a3) = false := decide_eq_false c7
    clear c7
    simp only [Option.some.injEq, Prod.mk.injEq] at H
    obtain ⟨rfl, rfl, rfl⟩ := H
    go_wp2
    go_ret3
    exact ⟨_, by first | rfl | (simp [errW_none, errW_some] <;> rfl) | (simp [*, errW_none, errW_some] <;> rfl), rr_ HO_2.out, bb_ HB.out, by repeat (first | (with_reducible first | exact HK.out | apply Kept.alloc | apply Kept.drewN | apply Kept.drew | refine Kept.setCell ?_ (.inr GW185.out) _) | exact HK.out)⟩
/-! ### spec_l13Seed: function 85 -/
def spec_l13Seed.f (a0 : Int) : Option (Bool) := (spec_l00In.f a0 0 999999).bind fun t147 => (some t147)
set_option maxHeartbeats 8000000 in
set_option maxRecDepth 100000 in
theorem spec_l13Seed.calls (a0 : Int) (r : Bool) (w : World) (h : spec_l13Seed.f a0 = some r) :
  Calls Try.prog 85 #[.int .i64 a0] w fun e w' => e = .returned (.bool r) ∧ Drawn0 w w' := by
 have H : ((spec_l00In.f a0 0 999999).bind fun t147 => (some t147)) = some r := h
 clear h
 replace H := Option.bind_eq_some_iff.mp H
 obtain ⟨t147, A20, H⟩ := H
 replace H : (some t147) = some r := H
 have A2 := Aside0.mk A20
 clear A20
 obtain rfl := Option.some.inj H
 go_enter Try.func85, Try.ntmps85
 go_wp2_with (first | ((with_reducible refine gate_callee (f := 58) rfl ?_); refine goesL_ (some 4) rfl rfl Try.func58 (by kernel_rfl) rfl #[.int .i64 a0, .int .i64 0, .int .i64 999999] rfl av_ ?_; (with_reducible refine (spec_l00In.calls a0 0 999999 t147 _ A2.out).mono ?_); rintro e w' ⟨rfl, ⟨nd, rfl⟩⟩; refine ⟨_, rfl, ?_⟩))
 go_ret
 exact ⟨sv_, dr_⟩
/-! ### spec_l13Wider: function 87 -/
def spec_l13Wider.K0 : Array Bool := #[n_,n_,n_,n_,n_,n_,n_,n_,n_,n_,n_,n_,n_,n_,n_,n_,n_,n_,n_,n_,n_,n_,n_,n_,n_,n_,n_,n_]
def spec_l13Wider.K1 : Array Bool := #[y_,n_,n_,n_,n_,n_,n_,n_,n_,n_,n_,n_,n_,n_,n_,n_,n_,n_,n_,n_,n_,n_,n_,n_,n_,n_,n_,n_]
def spec_l13Wider.K2 : Array Bool := #[y_,y_,n_,n_,n_,n_,n_,n_,n_,n_,n_,n_,n_,n_,n_,n_,n_,n_,n_,n_,n_,n_,n_,n_,n_,n_,n_,n_]
def spec_l13Wider.K3 : Array Bool := #[y_,y_,y_,n_,n_,n_,n_,n_,n_,n_,n_,n_,n_,n_,n_,n_,n_,n_,n_,n_,n_,n_,n_,n_,n_,n_,n_,n_]
def spec_l13Wider.K4 : Array Bool := #[y_,y_,y_,y_,n_,n_,n_,n_,n_,n_,n_,n_,n_,n_,n_,n_,n_,n_,n_,n_,n_,n_,n_,n_,n_,n_,n_,n_]
def spec_l13Wider.K5 : Array Bool := #[y_,y_,y_,y_,y_,n_,n_,n_,n_,n_,n_,n_,n_,n_,n_,n_,n_,n_,n_,n_,n_,n_,n_,n_,n_,n_,n_,n_]
def spec_l13Wider.K6 : Array Bool := #[y_,y_,y_,y_,y_,y_,n_,n_,n_,n_,n_,n_,n_,n_,n_,n_,n_,n_,n_,n_,n_,n_,n_,n_,n_,n_,n_,n_]
def spec_l13Wider.K7 : Array Bool := #[y_,y_,y_,y_,y_,y_,y_,n_,n_,n_,n_,n_,n_,n_,n_,n_,n_,n_,n_,n_,n_,n_,n_,n_,n_,n_,n_,n_]
def spec_l13Wider.K8 : Array Bool := #[y_,y_,y_,y_,y_,y_,y_,y_,n_,n_,n_,n_,n_,n_,n_,n_,n_,n_,n_,n_,n_,n_,n_,n_,n_,n_,n_,n_]
def spec_l13Wider.K9 : Array Bool := #[y_,y_,y_,y_,y_,y_,y_,y_,y_,n_,n_,n_,n_,n_,n_,n_,n_,n_,n_,n_,n_,n_,n_,n_,n_,n_,n_,n_]
def spec_l13Wider.K10 : Array Bool := #[y_,y_,y_,y_,y_,y_,y_,y_,y_,y_,n_,n_,n_,n_,n_,n_,n_,n_,n_,n_,n_,n_,n_,n_,n_,n_,n_,n_]
def spec_l13Wider.K11 : Array Bool := #[y_,y_,y_,y_,y_,y_,y_,y_,y_,y_,y_,n_,n_,n_,n_,n_,n_,n_,n_,n_,n_,n_,n_,n_,n_,n_,n_,n_]
def spec_l13Wider.K12 : Array Bool := #[y_,y_,y_,y_,y_,y_,y_,y_,y_,y_,y_,y_,n_,n_,n_,n_,n_,n_,n_,n_,n_,n_,n_,n_,n_,n_,n_,n_]
def spec_l13Wider.K13 : Array Bool := #[y_,y_,y_,y_,y_,y_,y_,y_,y_,y_,y_,y_,y_,n_,n_,n_,n_,n_,n_,n_,n_,n_,n_,n_,n_,n_,n_,n_]
def spec_l13Wider.K14 : Array Bool := #[y_,y_,y_,y_,y_,y_,y_,y_,y_,y_,y_,y_,y_,y_,n_,n_,n_,n_,n_,n_,n_,n_,n_,n_,n_,n_,n_,n_]
def spec_l13Wider.K15 : Array Bool := #[y_,y_,y_,y_,y_,y_,y_,y_,y_,y_,y_,y_,y_,y_,y_,n_,n_,n_,n_,n_,n_,n_,n_,n_,n_,n_,n_,n_]
def spec_l13Wider.K16 : Array Bool := #[y_,y_,y_,y_,y_,y_,y_,y_,y_,y_,y_,y_,y_,y_,y_,y_,n_,n_,n_,n_,n_,n_,n_,n_,n_,n_,n_,n_]
def spec_l13Wider.K17 : Array Bool := #[y_,y_,y_,y_,y_,y_,y_,y_,y_,y_,y_,y_,y_,y_,y_,y_,y_,n_,n_,n_,n_,n_,n_,n_,n_,n_,n_,n_]
def spec_l13Wider.K18 : Array Bool := #[y_,y_,y_,y_,y_,y_,y_,y_,y_,y_,y_,y_,y_,y_,y_,y_,y_,y_,n_,n_,n_,n_,n_,n_,n_,n_,n_,n_]
def spec_l13Wider.K19 : Array Bool := #[y_,y_,y_,y_,y_,y_,y_,y_,y_,y_,y_,y_,y_,y_,y_,y_,y_,y_,y_,n_,n_,n_,n_,n_,n_,n_,n_,n_]
def spec_l13Wider.K20 : Array Bool := #[y_,y_,y_,y_,y_,y_,y_,y_,y_,y_,y_,y_,y_,y_,y_,y_,y_,y_,y_,y_,n_,n_,n_,n_,n_,n_,n_,n_]
def spec_l13Wider.K21 : Array Bool := #[y_,y_,y_,y_,y_,y_,y_,y_,y_,y_,y_,y_,y_,y_,y_,y_,y_,y_,y_,y_,y_,n_,n_,n_,n_,n_,n_,n_]
def spec_l13Wider.K22 : Array Bool := #[y_,y_,y_,y_,y_,y_,y_,y_,y_,y_,y_,y_,y_,y_,y_,y_,y_,y_,y_,y_,y_,n_,y_,n_,n_,n_,n_,n_]
def spec_l13Wider.K23 : Array Bool := #[y_,y_,y_,y_,y_,y_,y_,y_,y_,y_,y_,y_,y_,y_,y_,y_,y_,y_,y_,y_,y_,n_,y_,y_,n_,n_,n_,n_]
def spec_l13Wider.K24 : Array Bool := #[y_,y_,y_,y_,y_,y_,y_,y_,y_,y_,y_,y_,y_,y_,y_,y_,y_,y_,y_,y_,y_,y_,y_,y_,n_,n_,n_,n_]
def spec_l13Wider.K25 : Array Bool := #[y_,y_,y_,y_,y_,y_,y_,y_,y_,y_,y_,y_,y_,y_,y_,y_,y_,y_,y_,y_,y_,y_,y_,y_,y_,n_,n_,n_]
def spec_l13Wider.K26 : Array Bool := #[y_,y_,y_,y_,y_,y_,y_,y_,y_,y_,y_,y_,y_,y_,y_,y_,y_,y_,y_,y_,y_,y_,y_,y_,y_,y_,n_,n_]
def spec_l13Wider.K27 : Array Bool := #[y_,y_,y_,y_,y_,y_,y_,y_,y_,y_,y_,y_,y_,y_,y_,y_,y_,y_,y_,y_,y_,y_,y_,y_,y_,y_,y_,n_]
def spec_l13Wider.K28 : Array Bool := #[y_,y_,y_,y_,y_,y_,y_,y_,y_,y_,y_,y_,y_,y_,y_,y_,y_,y_,y_,y_,y_,y_,y_,y_,y_,y_,y_,y_]
def spec_l13Wider.K29 : Array Bool := #[y_,y_,y_,y_,y_,y_,y_,y_,y_,y_,y_,y_,y_,y_,y_,y_,y_,y_,y_,y_,y_,y_,n_,n_,n_,n_,n_,n_]
def spec_l13Wider.K30 : Array Bool := #[y_,y_,y_,y_,y_,y_,y_,y_,y_,y_,y_,y_,y_,y_,y_,y_,y_,y_,y_,y_,y_,y_,y_,n_,n_,n_,n_,n_]
def spec_l13Wider.K31 : Array Bool := #[y_,y_,y_,y_,y_,n_,y_,n_,n_,n_,n_,n_,n_,n_,n_,n_,n_,n_,n_,n_,n_,n_,n_,n_,n_,n_,n_,n_]
def spec_l13Wider.K32 : Array Bool := #[y_,y_,y_,y_,y_,n_,y_,y_,n_,n_,n_,n_,n_,n_,n_,n_,n_,n_,n_,n_,n_,n_,n_,n_,n_,n_,n_,n_]
def spec_l13Wider.K33 : Array Bool := #[y_,y_,y_,y_,y_,n_,y_,y_,y_,n_,n_,n_,n_,n_,n_,n_,n_,n_,n_,n_,n_,n_,n_,n_,n_,n_,n_,n_]
def spec_l13Wider.K34 : Array Bool := #[y_,y_,y_,y_,y_,n_,y_,y_,y_,y_,n_,n_,n_,n_,n_,n_,n_,n_,n_,n_,n_,n_,n_,n_,n_,n_,n_,n_]
def spec_l13Wider.K35 : Array Bool := #[y_,y_,y_,y_,y_,y_,y_,y_,y_,y_,y_,y_,y_,y_,y_,y_,y_,n_,y_,n_,n_,n_,n_,n_,n_,n_,n_,n_]
def spec_l13Wider.K36 : Array Bool := #[y_,y_,y_,y_,y_,y_,y_,y_,y_,y_,y_,y_,y_,y_,y_,y_,y_,n_,y_,y_,n_,n_,n_,n_,n_,n_,n_,n_]
def spec_l13Wider.K37 : Array Bool := #[y_,y_,y_,y_,y_,y_,y_,y_,y_,y_,y_,y_,y_,y_,y_,y_,y_,n_,y_,y_,y_,n_,n_,n_,n_,n_,n_,n_]
def spec_l13Wider.K38 : Array Bool := #[y_,y_,y_,y_,y_,y_,y_,y_,y_,y_,y_,y_,y_,y_,y_,y_,y_,n_,y_,y_,y_,y_,n_,n_,n_,n_,n_,n_]
mutual
def spec_l13Wider.l0 : Nat → List (List Int) → Int → Int → Option (Bool)
 | 0, _, _, _ => none
 | k + 1, x0, x1, x5 => if x5 < (x0.length : Int) then (if 0 ≤ x5 then (if ((rd_L1 x0 x5).length : Int) = 2 then (if 0 < ((rd_L1 x0 x5).length : Int) then ((spec_l03Pitch.f (rd (rd_L1 x0 x5) 0)).bind fun t426 => (if t426 = true then (if 1 < ((rd_L1 x0 x5).length : Int) then ((spec_l03Pitch.f (rd (rd_L1 x0 x5) 1)).bind fun t428 => (if t428 = true then ((spec_l00In.f x1 (rd (rd_L1 x0 x5) 0) (rd (rd_L1 x0 x5) 1)).bind fun t431 => (spec_l13Wider.j1 k x0 x1 x5 (rd_L1 x0 x5) (!t431))) else (spec_l13Wider.j1 k x0 x1 x5 (rd_L1 x0 x5) true))) else (none)) else (spec_l13Wider.j1 k x0 x1 x5 (rd_L1 x0 x5) true))) else (none)) else (spec_l13Wider.j1 k x0 x1 x5 (rd_L1 x0 x5) true)) else (none)) else ((spec_l00In.f (x0.length : Int) 1 8).bind fun t423 => (some t423))
def spec_l13Wider.j1 : Nat → List (List Int) → Int → Int → List Int → Bool → Option (Bool)
 | 0, _, _, _, _, _ => none
 | k + 1, x0, x1, x5, x6, x44 => if x44 = true then (some false) else (if x5 > 0 then (if 0 < (x6.length : Int) then (if 0 ≤ (wrap64 (x5 - 1)) then (if (wrap64 (x5 - 1)) < (x0.length : Int) then (if 0 < ((rd_L1 x0 (wrap64 (x5 - 1))).length : Int) then (if (rd x6 0) > (rd (rd_L1 x0 (wrap64 (x5 - 1))) 0) then (some false) else (if 1 < (x6.length : Int) then (if 1 < ((rd_L1 x0 (wrap64 (x5 - 1))).length : Int) then (if (rd x6 1) < (rd (rd_L1 x0 (wrap64 (x5 - 1))) 1) then (some false) else (spec_l13Wider.l0 k x0 x1 (wrap64 (x5 + 1)))) else (none)) else (none))) else (none)) else (none)) else (none)) else (none)) else (spec_l13Wider.l0 k x0 x1 (wrap64 (x5 + 1))))
end
def spec_l13Wider.f (k : Nat) (l0 : List (List Int)) (a1 : Int) : Option (Bool) := spec_l13Wider.l0 k l0 a1 0
theorem spec_l13Wider.mono_l : ∀ k, (∀ y0 y1 y2, LeO (spec_l13Wider.l0 k y0 y1 y2) (spec_l13Wider.l0 (k + 1) y0 y1 y2)) ∧ (∀ y0 y1 y2 y3 y4, LeO (spec_l13Wider.j1 k y0 y1 y2 y3 y4) (spec_l13Wider.j1 (k + 1) y0 y1 y2 y3 y4))
 | 0 => ⟨fun _ _ _ r h => by simp [spec_l13Wider.l0] at h, fun _ _ _ _ _ r h => by simp [spec_l13Wider.j1] at h⟩
 | k + 1 => by
  obtain ⟨ih0, ih1⟩ := spec_l13Wider.mono_l k
  refine ⟨?_, ?_⟩
  ·intro y0 y1 y2
   unfold spec_l13Wider.l0
   repeat' first
   | (with_reducible exact ih0 _ _ _)
   | (with_reducible exact ih1 _ _ _ _ _)
   | (with_reducible exact LeO.refl _)
   | (with_reducible exact LeO.none _)
   | (with_reducible refine LeO.ite ?_ ?_)
   | (with_reducible refine LeO.bind ?_ (fun _ => ?_))
   | exact ih0 _ _ _
   | exact ih1 _ _ _ _ _
   | exact LeO.none _
   | refine LeO.ite ?_ ?_
   | refine LeO.bind ?_ (fun _ => ?_)
  ·intro y0 y1 y2 y3 y4
   unfold spec_l13Wider.j1
   repeat' first
   | (with_reducible exact ih0 _ _ _)
   | (with_reducible exact ih1 _ _ _ _ _)
   | (with_reducible exact LeO.refl _)
   | (with_reducible exact LeO.none _)
   | (with_reducible refine LeO.ite ?_ ?_)
   | (with_reducible refine LeO.bind ?_ (fun _ => ?_))
   | exact ih0 _ _ _
   | exact ih1 _ _ _ _ _
   | exact LeO.none _
   | refine LeO.ite ?_ ?_
   | refine LeO.bind ?_ (fun _ => ?_)
theorem spec_l13Wider.mono : ∀ a0 a1 k, LeO (spec_l13Wider.f k a0 a1) (spec_l13Wider.f (k + 1) a0 a1) := by
 intro a0 a1 k
 obtain ⟨ih0, ih1⟩ := spec_l13Wider.mono_l k
 unfold spec_l13Wider.f
 repeat' first
   | (with_reducible exact ih0 _ _ _)
   | (with_reducible exact ih1 _ _ _ _ _)
   | (with_reducible exact LeO.refl _)
   | (with_reducible exact LeO.none _)
   | (with_reducible refine LeO.ite ?_ ?_)
   | (with_reducible refine LeO.bind ?_ (fun _ => ?_))
   | exact ih0 _ _ _
   | exact ih1 _ _ _ _ _
   | exact LeO.none _
   | refine LeO.ite ?_ ?_
   | refine LeO.bind ?_ (fun _ => ?_)
def spec_l13Wider.T5 : Bool × List (List Nat × List Nat) := (true, [([], []), ([0], [0]), ([1], [1]), ([2], [2]), ([3], [3]), ([4, 3], [3, 4]), ([5, 3], [3, 5]), ([6, 3, 3], [3, 6]), ([7, 3], [3, 7]), ([3, 8], [3, 8]), ([9, 7], [9]), ([10], [10]), ([11, 10], [10, 11]), ([12, 10], [10, 12]), ([13, 10, 10], [10, 13]), ([14, 10], [10, 14]), ([10, 15], [10, 15]), ([16, 14], [16]), ([17], [17]), ([17], [17]), ([19, 17], [17, 19]), ([20, 17], [17, 20]), ([17], [17]), ([22, 17], [17, 22]), ([23, 17], [17, 23]), ([18, 21, 24, 17, 17], [17, 18, 21, 24]), ([25, 17], [17, 25]), ([17, 26], [17, 26])])
def spec_l13Wider.B5 : List Nat := [0, 1, 3, 7, 15, 31, 63, 127, 255, 511, 1023, 2047, 4095, 8191, 16383, 32767, 65535, 131071, 262143, 262143, 786431, 1835007, 262143, 4456447, 12845055, 33554431, 67108863, 134217727]
theorem spec_l13Wider.tab5 : rtab .any (opsOf Try.f87 5) = spec_l13Wider.T5 := by kernel_rfl
theorem spec_l13Wider.bits5 : waitsOk spec_l13Wider.T5.2 spec_l13Wider.B5 = true := by kernel_rfl
def spec_l13Wider.T7 : Bool × List (List Nat × List Nat) := (true, [([], []), ([0], [0]), ([1], [1]), ([2], [2]), ([3, 2], [2, 3]), ([4, 2], [2, 4]), ([2], [2]), ([2], [2]), ([7, 2], [2, 7]), ([6, 8, 2], [2, 6, 8]), ([9, 2], [2, 9]), ([10, 2], [2, 10]), ([11, 2], [2, 11]), ([5, 12, 2], [2, 5, 12]), ([13, 2, 2], [2, 13]), ([14], [14]), ([15, 14], [14, 15]), ([16, 14], [14, 16]), ([14], [14]), ([14], [14]), ([19, 14], [14, 19]), ([18, 20, 14], [14, 18, 20]), ([21, 14], [14, 21]), ([22, 14], [14, 22]), ([23, 14], [14, 23]), ([17, 24, 14], [14, 17, 24]), ([14, 25, 2], [2, 14, 25]), ([2, 26], [2, 26])])
def spec_l13Wider.B7 : List Nat := [0, 1, 3, 7, 15, 31, 7, 7, 135, 455, 967, 1991, 4039, 8191, 16383, 32767, 65535, 131071, 32767, 32767, 557055, 1867775, 3964927, 8159231, 16547839, 33554431, 67108863, 134217727]
theorem spec_l13Wider.tab7 : rtab .any (opsOf Try.f87 7) = spec_l13Wider.T7 := by kernel_rfl
theorem spec_l13Wider.bits7 : waitsOk spec_l13Wider.T7.2 spec_l13Wider.B7 = true := by kernel_rfl
set_option maxHeartbeats 8000000 in
set_option maxRecDepth 100000 in
theorem spec_l13Wider.calls (k : Nat) (A0 : Option Addr) (c0 : Nat) (l0 : List (List Int)) (a1 : Int) (r : Bool) (w : World) (hr0 : Kd.C (Kd.slice 2 (Kd.int .i64)) w A0 l0.length l0) (hc0 : l0.length ≤ c0) (h : spec_l13Wider.f k l0 a1 = some r) :
  Calls Try.prog 87 #[.slice A0 l0.length c0, .int .i64 a1] w fun e w' => e = .returned (.bool r) ∧ Below w.heap.size w w' := by
 have HR0 := Aside0.mk hr0
 have HC0 := Aside0.mk hc0
 clear hr0 hc0
 have HB := Aside0.mk (Below.refl w.heap.size w)
 have H : (spec_l13Wider.l0 k l0 a1 0) = some r := h
 clear h
 have H' := Aside0.mk H
 clear H
 go_enter Try.func87, Try.ntmps87
 go_wp2
 go_loopg [5] k (fun kq v5 w' => ∃ (x5_1 : Int), v5 = .int .i64 x5_1 ∧ Aside0 (spec_l13Wider.l0 kq l0 a1 x5_1 = some r) ∧ Aside0 (kq ≤ k) ∧ Aside0 (Below w.heap.size w w'))
 case atStart => exact ⟨(0), sv_, H', ⟨Nat.le_refl _⟩, ⟨bb_ HB.out⟩⟩
 case round =>
  clear H'
  try clear p2
  obtain ⟨x5_1, rfl, HA, HK1, HB⟩ := hrel
  cases gk with
  | zero => exact absurd HA.out (by simp [spec_l13Wider.l0])
  | succ k1 =>
   have H := HA.out
   clear HA
   simp only [spec_l13Wider.l0] at H
   by_cases c3 : x5_1 < (l0.length : Int)
   ·rw [if_pos c3] at H
    have c3b0 : decide (x5_1 < (l0.length : Int)) = true := decide_eq_true c3
    clear c3
    by_cases c4 : 0 ≤ x5_1
    ·rw [if_pos c4] at H
     have c4b0 : decide (0 ≤ x5_1) = true := decide_eq_true c4
     clear c4; have HC5 := Aside0.mk H; clear H
     have p424 : 0 ≤ (x5_1 : Int) := da_
     have q424 : x5_1 < (l0.length : Int) := da_
     obtain ⟨ad424, A424_0, c424_0, e424, hx424_0, hl424_0, hi424_0⟩ := at_L1 HR0.out x5_1 p424 q424; cases e424
     replace hx424_0 := (wc_ HB.out hx424_0 :)
     have HR424_0 := Aside0.mk hi424_0; have HC424_0 := Aside0.mk hl424_0; clear hi424_0 hl424_0; replace p424 := eq_true p424; replace q424 := eq_true q424
     go_upto_region 5 with (fail)
     go_cut [44] (fun v44 wc => ∃ (kq : Nat) (x44_4 : Bool), v44 = .bool x44_4 ∧ Aside0 (spec_l13Wider.j1 kq l0 a1 x5_1 (rd_L1 l0 x5_1) x44_4 = some r) ∧ Aside0 (kq ≤ k1) ∧ Aside0 (Below w.heap.size w wc))
     case first =>
      have H := HC5.out; clear HC5
      by_cases c6 : ((rd_L1 l0 x5_1).length : Int) = 2
      ·rw [if_pos c6] at H
       have c6b0 : (((rd_L1 l0 x5_1).length : Int) == 2) = true := beq_iff_eq.mpr c6
       have c6b1 : (((rd_L1 l0 x5_1).length : Int) != 2) = false := bne_eq_false_iff_eq.mpr c6
       clear c6
       (first | rw [c6b0] | (simp only [i64_w, i32_w]; rw [c6b0]) | skip)
       by_cases c7 : 0 < ((rd_L1 l0 x5_1).length : Int)
       ·rw [if_pos c7] at H
        have c7b0 : decide (0 < ((rd_L1 l0 x5_1).length : Int)) = true := decide_eq_true c7
        have c7b1 : decide (0 < (rd_L1 l0 x5_1).length) = true := decide_eq_true (by omega)
        clear c7
        replace H := Option.bind_eq_some_iff.mp H
        obtain ⟨t426, A80, H⟩ := H
        replace H : (if t426 = true then (if 1 < ((rd_L1 l0 x5_1).length : Int) then ((spec_l03Pitch.f (rd (rd_L1 l0 x5_1) 1)).bind fun t428 => (if t428 = true then ((spec_l00In.f a1 (rd (rd_L1 l0 x5_1) 0) (rd (rd_L1 l0 x5_1) 1)).bind fun t431 => (spec_l13Wider.j1 k1 l0 a1 x5_1 (rd_L1 l0 x5_1) (!t431))) else (spec_l13Wider.j1 k1 l0 a1 x5_1 (rd_L1 l0 x5_1) true))) else (none)) else (spec_l13Wider.j1 k1 l0 a1 x5_1 (rd_L1 l0 x5_1) true)) = some r := H
        have A8 := Aside0.mk A80; clear A80
        by_cases c9 : t426 = true
        ·subst c9
         have H1 : (if 1 < ((rd_L1 l0 x5_1).length : Int) then ((spec_l03Pitch.f (rd (rd_L1 l0 x5_1) 1)).bind fun t428 => (if t428 = true then ((spec_l00In.f a1 (rd (rd_L1 l0 x5_1) 0) (rd (rd_L1 l0 x5_1) 1)).bind fun t431 => (spec_l13Wider.j1 k1 l0 a1 x5_1 (rd_L1 l0 x5_1) (!t431))) else (spec_l13Wider.j1 k1 l0 a1 x5_1 (rd_L1 l0 x5_1) true))) else (none)) = some r := by rw [if_pos rfl] at H; exact H
         clear H; have H := H1; clear H1
         by_cases c10 : 1 < ((rd_L1 l0 x5_1).length : Int)
         ·rw [if_pos c10] at H
          have c10b0 : decide (1 < ((rd_L1 l0 x5_1).length : Int)) = true := decide_eq_true c10
          have c10b1 : decide (1 < (rd_L1 l0 x5_1).length) = true := decide_eq_true (by omega)
          clear c10
          replace H := Option.bind_eq_some_iff.mp H
          obtain ⟨t428, A110, H⟩ := H
          replace H : (if t428 = true then ((spec_l00In.f a1 (rd (rd_L1 l0 x5_1) 0) (rd (rd_L1 l0 x5_1) 1)).bind fun t431 => (spec_l13Wider.j1 k1 l0 a1 x5_1 (rd_L1 l0 x5_1) (!t431))) else (spec_l13Wider.j1 k1 l0 a1 x5_1 (rd_L1 l0 x5_1) true)) = some r := H
          have A11 := Aside0.mk A110; clear A110
          by_cases c12 : t428 = true
          ·subst c12
           have H1 : ((spec_l00In.f a1 (rd (rd_L1 l0 x5_1) 0) (rd (rd_L1 l0 x5_1) 1)).bind fun t431 => (spec_l13Wider.j1 k1 l0 a1 x5_1 (rd_L1 l0 x5_1) (!t431))) = some r := by rw [if_pos rfl] at H; exact H
           clear H; have H := H1; clear H1
           replace H := Option.bind_eq_some_iff.mp H
           obtain ⟨t431, A130, H⟩ := H
           replace H : (spec_l13Wider.j1 k1 l0 a1 x5_1 (rd_L1 l0 x5_1) (!t431)) = some r := H
           have A13 := Aside0.mk A130; clear A130
           have H' := Aside0.mk H
           clear H
           try go_wp2
           have n0_ := Aside0.mk (below_drew1 HB.out)
           clear HB; have HB := n0_; clear n0_
           have p425 : 0 ≤ (0 : Int) := (by omega)
           have q425 : 0 < ((rd_L1 l0 x5_1).length : Int) := da_
           obtain ⟨ad425, e425, hx425_0⟩ := Kd.at_int HR424_0.out 0 p425 q425; have hw425_0 := hx425_0; (try rw [show ((0 : Int)).toNat = 0 from rfl] at hw425_0); (try rw [show 0 * 1 = 0 from rfl] at hw425_0); (try rw [Addr.add_zero'] at hw425_0); cases e425
           have qi425 : (0 < (rd_L1 l0 x5_1).length) = True := eq_true (by omega)
           (try rw [show ((0 : Int)).toNat = 0 from rfl] at hx425_0); (try rw [Addr.add_zero'] at hx425_0)
           replace hx425_0 := (wc_ HB.out hx425_0 :)
           replace p425 := eq_true p425; replace q425 := eq_true q425
           have p427 : 0 ≤ (1 : Int) := (by omega)
           have q427 : 1 < ((rd_L1 l0 x5_1).length : Int) := da_
           obtain ⟨ad427, e427, hx427_0⟩ := Kd.at_int HR424_0.out 1 p427 q427; have hw427_0 := hx427_0; (try rw [show ((1 : Int)).toNat = 1 from rfl] at hw427_0); (try rw [show 1 * 1 = 1 from rfl] at hw427_0); (try simp only [Nat.reduceMul, Nat.reduceEqDiff, Go.Addr.add, ↓reduceIte] at hw427_0); obtain rfl : ad425 = ad427 := (by injection e427); (try simp only [show (1 : Int).toNat = 1 from rfl, Nat.reduceMul, Nat.reduceEqDiff, Go.Addr.add, ↓reduceIte] at hx427_0)
           have qi427 : (1 < (rd_L1 l0 x5_1).length) = True := eq_true (by omega)
           (try rw [show ((1 : Int)).toNat = 1 from rfl] at hx427_0)
           replace hx427_0 := (wc_ HB.out hx427_0 :)
           replace p427 := eq_true p427; replace q427 := eq_true q427
           have p429 : 0 ≤ (0 : Int) := (by omega)
           have q429 : 0 < ((rd_L1 l0 x5_1).length : Int) := da_
           obtain ⟨ad429, e429, hx429_0⟩ := Kd.at_int HR424_0.out 0 p429 q429; have hw429_0 := hx429_0; (try rw [show ((0 : Int)).toNat = 0 from rfl] at hw429_0); (try rw [show 0 * 1 = 0 from rfl] at hw429_0); (try rw [Addr.add_zero'] at hw429_0); obtain rfl : ad425 = ad429 := (by injection e429)
           have qi429 : (0 < (rd_L1 l0 x5_1).length) = True := eq_true (by omega)
           (try rw [show ((0 : Int)).toNat = 0 from rfl] at hx429_0); (try rw [Addr.add_zero'] at hx429_0)
           replace hx429_0 := (wc_ HB.out hx429_0 :)
           replace p429 := eq_true p429; replace q429 := eq_true q429
           have p430 : 0 ≤ (1 : Int) := (by omega)
           have q430 : 1 < ((rd_L1 l0 x5_1).length : Int) := da_
           obtain ⟨ad430, e430, hx430_0⟩ := Kd.at_int HR424_0.out 1 p430 q430; have hw430_0 := hx430_0; (try rw [show ((1 : Int)).toNat = 1 from rfl] at hw430_0); (try rw [show 1 * 1 = 1 from rfl] at hw430_0); (try simp only [Nat.reduceMul, Nat.reduceEqDiff, Go.Addr.add, ↓reduceIte] at hw430_0); obtain rfl : ad425 = ad430 := (by injection e430); (try simp only [show (1 : Int).toNat = 1 from rfl, Nat.reduceMul, Nat.reduceEqDiff, Go.Addr.add, ↓reduceIte] at hx430_0)
           have qi430 : (1 < (rd_L1 l0 x5_1).length) = True := eq_true (by omega)
           (try rw [show ((1 : Int)).toNat = 1 from rfl] at hx430_0)
           replace hx430_0 := (wc_ HB.out hx430_0 :)
           replace p430 := eq_true p430; replace q430 := eq_true q430
           refine start_ (n := 28) (S := fun w' => w'.cell? ad425 = some (.int .i64 (rd (rd_L1 l0 x5_1) 0)) ∧ w'.cell? ⟨ad425.block, ad425.off + 1, none⟩ = some (.int .i64 (rd (rd_L1 l0 x5_1) 1)) ∧ w'.cell? ad425 = some (.int .i64 (rd (rd_L1 l0 x5_1) 0)) ∧ w'.cell? ⟨ad425.block, ad425.off + 1, none⟩ = some (.int .i64 (rd (rd_L1 l0 x5_1) 1))) (ds := []) spec_l13Wider.K0 (by kernel_rfl) rfl rfl ⟨(wc_ HB.out hw425_0 :), (wc_ HB.out hw427_0 :), (wc_ HB.out hw429_0 :), (wc_ HB.out hw430_0 :)⟩ (fun hHeld => ?_); refine with_tabW spec_l13Wider.tab5 spec_l13Wider.bits5 (fun HT_ HW_ => ?_)
           generalize wr.drew = w14 at HB hx425_0 hx427_0 hx429_0 hx430_0 hHeld ⊢
           refine pu_ HT_ 0 17 spec_l13Wider.K1 ?_; refine pu_ HT_ 1 18 spec_l13Wider.K2 ?_; refine pu_ HT_ 2 19 spec_l13Wider.K3 ?_; refine pu_ HT_ 3 20 spec_l13Wider.K4 ?_; refine pu_ HT_ 4 21 spec_l13Wider.K5 ?_; refine pu_ HT_ 5 22 spec_l13Wider.K6 ?_; refine tk_ HT_ HW_ hHeld 6 23 spec_l13Wider.K7 ?_
           refine one_ (i := 7) (N := some 24) spec_l13Wider.K8 rfl rfl (one_of HT_.out (by kernel_rfl)) (by decide) (fun K hK => ?_)
           refine goes_ Try.func86 (by kernel_rfl) rfl #[.int .i64 (rd (rd_L1 l0 x5_1) 0)] (by rfl) rfl rfl av_ ?_
           with_reducible refine (spec_l03Pitch.calls (rd (rd_L1 l0 x5_1) 0) true _ A8.out).mono ?_
           rintro e w' ⟨rfl, ⟨nd, rfl⟩⟩
           refine ⟨_, rfl, ?_⟩
           refine hK.out _ _ ⟨(wc_ HB.out hw425_0 :), (wc_ HB.out hw427_0 :), (wc_ HB.out hw429_0 :), (wc_ HB.out hw430_0 :)⟩ (fun hHeld => ?_)
           clear hK K; refine norm_ (a' := ?_) ?_ ?_; rotate_left
           ·show Act.put _ (some 24) _ = _
            go_simp
            rfl
           refine pu_ HT_ 8 25 spec_l13Wider.K9 ?_; refine pu_ HT_ 9 26 spec_l13Wider.K10 ?_; refine pu_ HT_ 10 27 spec_l13Wider.K11 ?_; refine pu_ HT_ 11 28 spec_l13Wider.K12 ?_; refine pu_ HT_ 12 29 spec_l13Wider.K13 ?_; refine tk_ HT_ HW_ hHeld 13 30 spec_l13Wider.K14 ?_
           refine one_ (i := 14) (N := some 31) spec_l13Wider.K15 rfl rfl (one_of HT_.out (by kernel_rfl)) (by decide) (fun K hK => ?_)
           refine goes_ Try.func86 (by kernel_rfl) rfl #[.int .i64 (rd (rd_L1 l0 x5_1) 1)] (by rfl) rfl rfl av_ ?_
           with_reducible refine (spec_l03Pitch.calls (rd (rd_L1 l0 x5_1) 1) true _ A11.out).mono ?_
           rintro e w' ⟨rfl, ⟨nd, rfl⟩⟩
           refine ⟨_, rfl, ?_⟩
           refine hK.out _ _ ⟨(wc_ HB.out hw425_0 :), (wc_ HB.out hw427_0 :), (wc_ HB.out hw429_0 :), (wc_ HB.out hw430_0 :)⟩ (fun hHeld => ?_)
           clear hK K; refine norm_ (a' := ?_) ?_ ?_; rotate_left
           ·show Act.put _ (some 31) _ = _
            go_simp
            rfl
           refine pu_ HT_ 15 32 spec_l13Wider.K16 ?_; refine pu_ HT_ 16 33 spec_l13Wider.K17 ?_; refine pu_ HT_ 17 34 spec_l13Wider.K18 ?_; refine pu_ HT_ 18 35 spec_l13Wider.K19 ?_; refine pu_ HT_ 19 36 spec_l13Wider.K20 ?_; refine pu_ HT_ 20 37 spec_l13Wider.K21 ?_; refine pu_ HT_ 22 39 spec_l13Wider.K22 ?_; refine pu_ HT_ 23 40 spec_l13Wider.K23 ?_; refine tk_ HT_ HW_ hHeld 21 38 spec_l13Wider.K24 ?_; refine tk_ HT_ HW_ hHeld 24 41 spec_l13Wider.K25 ?_
           refine one_ (i := 25) (N := some 42) spec_l13Wider.K26 rfl rfl (one_of HT_.out (by kernel_rfl)) (by decide) (fun K hK => ?_)
           refine goes_ Try.func58 (by kernel_rfl) rfl #[.int .i64 a1, .int .i64 (rd (rd_L1 l0 x5_1) 0), .int .i64 (rd (rd_L1 l0 x5_1) 1)] (by rfl) rfl rfl av_ ?_
           with_reducible refine (spec_l00In.calls a1 (rd (rd_L1 l0 x5_1) 0) (rd (rd_L1 l0 x5_1) 1) t431 _ A13.out).mono ?_
           rintro e w' ⟨rfl, ⟨nd, rfl⟩⟩
           refine ⟨_, rfl, ?_⟩
           refine hK.out _ _ ⟨(wc_ HB.out hw425_0 :), (wc_ HB.out hw427_0 :), (wc_ HB.out hw429_0 :), (wc_ HB.out hw430_0 :)⟩ (fun hHeld => ?_)
           clear hK K; refine norm_ (a' := ?_) ?_ ?_; rotate_left
           ·show Act.put _ (some 42) _ = _
            go_simp
            rfl
           refine pu_ HT_ 26 43 spec_l13Wider.K27 ?_; refine pu_ HT_ 27 44 spec_l13Wider.K28 ?_
           refine done_ (done_of HT_.out (by kernel_rfl)) ?_
           try go_wp2
           go_meet
           case rel => exact ⟨_, (!t431), sv_, H', ⟨by have := HK1.out; first | omega | exact Nat.le_refl _⟩, ⟨bb_ HB.out⟩⟩
          ·replace c12 := Bool.eq_false_iff.mpr c12
           subst c12
           have H1 : (spec_l13Wider.j1 k1 l0 a1 x5_1 (rd_L1 l0 x5_1) true) = some r := by rw [if_neg (show ¬ (false = true) by decide)] at H; exact H
           clear H; have H := H1; clear H1
           have H' := Aside0.mk H
           clear H
           try go_wp2
           have n0_ := Aside0.mk (below_drew1 HB.out)
           clear HB; have HB := n0_; clear n0_
           have p425 : 0 ≤ (0 : Int) := (by omega)
           have q425 : 0 < ((rd_L1 l0 x5_1).length : Int) := da_
           obtain ⟨ad425, e425, hx425_0⟩ := Kd.at_int HR424_0.out 0 p425 q425; have hw425_0 := hx425_0; (try rw [show ((0 : Int)).toNat = 0 from rfl] at hw425_0); (try rw [show 0 * 1 = 0 from rfl] at hw425_0); (try rw [Addr.add_zero'] at hw425_0); cases e425
           have qi425 : (0 < (rd_L1 l0 x5_1).length) = True := eq_true (by omega)
           (try rw [show ((0 : Int)).toNat = 0 from rfl] at hx425_0); (try rw [Addr.add_zero'] at hx425_0)
           replace hx425_0 := (wc_ HB.out hx425_0 :)
           replace p425 := eq_true p425; replace q425 := eq_true q425
           have p427 : 0 ≤ (1 : Int) := (by omega)
           have q427 : 1 < ((rd_L1 l0 x5_1).length : Int) := da_
           obtain ⟨ad427, e427, hx427_0⟩ := Kd.at_int HR424_0.out 1 p427 q427; have hw427_0 := hx427_0; (try rw [show ((1 : Int)).toNat = 1 from rfl] at hw427_0); (try rw [show 1 * 1 = 1 from rfl] at hw427_0); (try simp only [Nat.reduceMul, Nat.reduceEqDiff, Go.Addr.add, ↓reduceIte] at hw427_0); obtain rfl : ad425 = ad427 := (by injection e427); (try simp only [show (1 : Int).toNat = 1 from rfl, Nat.reduceMul, Nat.reduceEqDiff, Go.Addr.add, ↓reduceIte] at hx427_0)
           have qi427 : (1 < (rd_L1 l0 x5_1).length) = True := eq_true (by omega)
           (try rw [show ((1 : Int)).toNat = 1 from rfl] at hx427_0)
           replace hx427_0 := (wc_ HB.out hx427_0 :)
           replace p427 := eq_true p427; replace q427 := eq_true q427
           refine start_ (n := 28) (S := fun w' => w'.cell? ad425 = some (.int .i64 (rd (rd_L1 l0 x5_1) 0)) ∧ w'.cell? ⟨ad425.block, ad425.off + 1, none⟩ = some (.int .i64 (rd (rd_L1 l0 x5_1) 1))) (ds := []) spec_l13Wider.K0 (by kernel_rfl) rfl rfl ⟨(wc_ HB.out hw425_0 :), (wc_ HB.out hw427_0 :)⟩ (fun hHeld => ?_); refine with_tabW spec_l13Wider.tab5 spec_l13Wider.bits5 (fun HT_ HW_ => ?_)
           generalize wr.drew = w15 at HB hx425_0 hx427_0 hHeld ⊢
           refine pu_ HT_ 0 17 spec_l13Wider.K1 ?_; refine pu_ HT_ 1 18 spec_l13Wider.K2 ?_; refine pu_ HT_ 2 19 spec_l13Wider.K3 ?_; refine pu_ HT_ 3 20 spec_l13Wider.K4 ?_; refine pu_ HT_ 4 21 spec_l13Wider.K5 ?_; refine pu_ HT_ 5 22 spec_l13Wider.K6 ?_; refine tk_ HT_ HW_ hHeld 6 23 spec_l13Wider.K7 ?_
           refine one_ (i := 7) (N := some 24) spec_l13Wider.K8 rfl rfl (one_of HT_.out (by kernel_rfl)) (by decide) (fun K hK => ?_)
           refine goes_ Try.func86 (by kernel_rfl) rfl #[.int .i64 (rd (rd_L1 l0 x5_1) 0)] (by rfl) rfl rfl av_ ?_
           with_reducible refine (spec_l03Pitch.calls (rd (rd_L1 l0 x5_1) 0) true _ A8.out).mono ?_
           rintro e w' ⟨rfl, ⟨nd, rfl⟩⟩
           refine ⟨_, rfl, ?_⟩
           refine hK.out _ _ ⟨(wc_ HB.out hw425_0 :), (wc_ HB.out hw427_0 :)⟩ (fun hHeld => ?_)
           clear hK K; refine norm_ (a' := ?_) ?_ ?_; rotate_left
           ·show Act.put _ (some 24) _ = _
            go_simp
            rfl
           refine pu_ HT_ 8 25 spec_l13Wider.K9 ?_; refine pu_ HT_ 9 26 spec_l13Wider.K10 ?_; refine pu_ HT_ 10 27 spec_l13Wider.K11 ?_; refine pu_ HT_ 11 28 spec_l13Wider.K12 ?_; refine pu_ HT_ 12 29 spec_l13Wider.K13 ?_; refine tk_ HT_ HW_ hHeld 13 30 spec_l13Wider.K14 ?_
           refine one_ (i := 14) (N := some 31) spec_l13Wider.K15 rfl rfl (one_of HT_.out (by kernel_rfl)) (by decide) (fun K hK => ?_)
           refine goes_ Try.func86 (by kernel_rfl) rfl #[.int .i64 (rd (rd_L1 l0 x5_1) 1)] (by rfl) rfl rfl av_ ?_
           with_reducible refine (spec_l03Pitch.calls (rd (rd_L1 l0 x5_1) 1) false _ A11.out).mono ?_
           rintro e w' ⟨rfl, ⟨nd, rfl⟩⟩
           refine ⟨_, rfl, ?_⟩
           refine hK.out _ _ ⟨(wc_ HB.out hw425_0 :), (wc_ HB.out hw427_0 :)⟩ (fun hHeld => ?_)
           clear hK K; refine norm_ (a' := ?_) ?_ ?_; rotate_left
           ·show Act.put _ (some 31) _ = _
            go_simp
            rfl
           refine pu_ HT_ 15 32 spec_l13Wider.K16 ?_; refine pu_ HT_ 16 33 spec_l13Wider.K17 ?_; refine pu_ HT_ 17 34 spec_l13Wider.K18 ?_; refine un_ HT_ 18 35 spec_l13Wider.K19 ?_; refine un_ HT_ 19 36 spec_l13Wider.K20 ?_; refine un_ HT_ 20 37 spec_l13Wider.K21 ?_; refine un_ HT_ 21 38 spec_l13Wider.K29 ?_; refine un_ HT_ 22 39 spec_l13Wider.K30 ?_; refine un_ HT_ 23 40 spec_l13Wider.K24 ?_; refine un_ HT_ 24 41 spec_l13Wider.K25 ?_; refine un_ HT_ 25 42 spec_l13Wider.K26 ?_; refine un_ HT_ 26 43 spec_l13Wider.K27 ?_; refine pu_ HT_ 27 44 spec_l13Wider.K28 ?_
           refine done_ (done_of HT_.out (by kernel_rfl)) ?_
           try go_wp2
           go_meet
           case rel => exact ⟨_, (true), sv_, H', ⟨by have := HK1.out; first | omega | exact Nat.le_refl _⟩, ⟨bb_ HB.out⟩⟩
         ·rw [if_neg c10] at H
          exact absurd H (by simp)
        ·replace c9 := Bool.eq_false_iff.mpr c9
         subst c9
         have H1 : (spec_l13Wider.j1 k1 l0 a1 x5_1 (rd_L1 l0 x5_1) true) = some r := by rw [if_neg (show ¬ (false = true) by decide)] at H; exact H
         clear H; have H := H1; clear H1
         have H' := Aside0.mk H
         clear H
         try go_wp2
         have n0_ := Aside0.mk (below_drew1 HB.out)
         clear HB; have HB := n0_; clear n0_
         have p425 : 0 ≤ (0 : Int) := (by omega)
         have q425 : 0 < ((rd_L1 l0 x5_1).length : Int) := da_
         obtain ⟨ad425, e425, hx425_0⟩ := Kd.at_int HR424_0.out 0 p425 q425; have hw425_0 := hx425_0; (try rw [show ((0 : Int)).toNat = 0 from rfl] at hw425_0); (try rw [show 0 * 1 = 0 from rfl] at hw425_0); (try rw [Addr.add_zero'] at hw425_0); cases e425
         have qi425 : (0 < (rd_L1 l0 x5_1).length) = True := eq_true (by omega)
         (try rw [show ((0 : Int)).toNat = 0 from rfl] at hx425_0); (try rw [Addr.add_zero'] at hx425_0)
         replace hx425_0 := (wc_ HB.out hx425_0 :)
         replace p425 := eq_true p425; replace q425 := eq_true q425
         refine start_ (n := 28) (S := fun w' => w'.cell? ad425 = some (.int .i64 (rd (rd_L1 l0 x5_1) 0))) (ds := []) spec_l13Wider.K0 (by kernel_rfl) rfl rfl ((wc_ HB.out hw425_0 :)) (fun hHeld => ?_); refine with_tabW spec_l13Wider.tab5 spec_l13Wider.bits5 (fun HT_ HW_ => ?_)
         generalize wr.drew = w16 at HB hx425_0 hHeld ⊢
         refine pu_ HT_ 0 17 spec_l13Wider.K1 ?_; refine pu_ HT_ 1 18 spec_l13Wider.K2 ?_; refine pu_ HT_ 2 19 spec_l13Wider.K3 ?_; refine pu_ HT_ 3 20 spec_l13Wider.K4 ?_; refine pu_ HT_ 4 21 spec_l13Wider.K5 ?_; refine pu_ HT_ 5 22 spec_l13Wider.K6 ?_
         refine take_ (i := 6) (N := some 23) (v := ?_) (a' := ?_) spec_l13Wider.K7 rfl rfl (take_ofW HT_.out HW_.out (by kernel_rfl)) (fun _ _ _ h => h) (Or.inl ⟨by rfl, ?_⟩) hHeld ?_ ?_
         rotate_left
         ·intro w' s0
          go_simp
          with_reducible rfl
         rotate_left
         ·go_simp
          rfl
         refine one_ (i := 7) (N := some 24) spec_l13Wider.K8 rfl rfl (one_of HT_.out (by kernel_rfl)) (by decide) (fun K hK => ?_)
         refine goes_ Try.func86 (by kernel_rfl) rfl #[.int .i64 (rd (rd_L1 l0 x5_1) 0)] (by rfl) rfl rfl av_ ?_
         with_reducible refine (spec_l03Pitch.calls (rd (rd_L1 l0 x5_1) 0) false _ A8.out).mono ?_
         rintro e w' ⟨rfl, ⟨nd, rfl⟩⟩
         refine ⟨_, rfl, ?_⟩
         refine hK.out _ _ ((wc_ HB.out hw425_0 :)) (fun hHeld => ?_)
         clear hK K; refine norm_ (a' := ?_) ?_ ?_; rotate_left
         ·show Act.put _ (some 24) _ = _
          go_simp
          rfl
         refine pu_ HT_ 8 25 spec_l13Wider.K9 ?_; refine pu_ HT_ 9 26 spec_l13Wider.K10 ?_; refine pu_ HT_ 10 27 spec_l13Wider.K11 ?_; refine un_ HT_ 11 28 spec_l13Wider.K12 ?_; refine un_ HT_ 12 29 spec_l13Wider.K13 ?_; refine un_ HT_ 13 30 spec_l13Wider.K14 ?_; refine un_ HT_ 14 31 spec_l13Wider.K15 ?_; refine un_ HT_ 15 32 spec_l13Wider.K16 ?_; refine pu_ HT_ 16 33 spec_l13Wider.K17 ?_; refine pu_ HT_ 17 34 spec_l13Wider.K18 ?_; refine un_ HT_ 18 35 spec_l13Wider.K19 ?_; refine un_ HT_ 19 36 spec_l13Wider.K20 ?_; refine un_ HT_ 20 37 spec_l13Wider.K21 ?_; refine un_ HT_ 21 38 spec_l13Wider.K29 ?_; refine un_ HT_ 22 39 spec_l13Wider.K30 ?_; refine un_ HT_ 23 40 spec_l13Wider.K24 ?_; refine un_ HT_ 24 41 spec_l13Wider.K25 ?_; refine un_ HT_ 25 42 spec_l13Wider.K26 ?_; refine un_ HT_ 26 43 spec_l13Wider.K27 ?_; refine pu_ HT_ 27 44 spec_l13Wider.K28 ?_
         refine done_ (done_of HT_.out (by kernel_rfl)) ?_
         try go_wp2
         go_meet
         case rel => exact ⟨_, (true), sv_, H', ⟨by have := HK1.out; first | omega | exact Nat.le_refl _⟩, ⟨bb_ HB.out⟩⟩
       ·rw [if_neg c7] at H
        exact absurd H (by simp)
      ·rw [if_neg c6] at H
       have c6b0 : (((rd_L1 l0 x5_1).length : Int) == 2) = false := beq_eq_false_iff_ne.mpr c6
       have c6b1 : (((rd_L1 l0 x5_1).length : Int) != 2) = true := bne_iff_ne.mpr c6
       (first | rw [c6b0] | (simp only [i64_w, i32_w]; rw [c6b0]) | skip)
       have H' := Aside0.mk H
       clear H
       try go_wp2
       have n0_ := Aside0.mk (below_drew1 HB.out)
       clear HB; have HB := n0_; clear n0_
       refine start_ (n := 28) (S := fun w' => True) (ds := []) spec_l13Wider.K0 (by kernel_rfl) rfl rfl trivial (fun hHeld => ?_); refine with_tabW spec_l13Wider.tab5 spec_l13Wider.bits5 (fun HT_ HW_ => ?_)
       generalize wr.drew = w17 at HB hHeld ⊢
       refine pu_ HT_ 0 17 spec_l13Wider.K1 ?_; refine pu_ HT_ 1 18 spec_l13Wider.K2 ?_; refine pu_ HT_ 2 19 spec_l13Wider.K3 ?_; refine pu_ HT_ 3 20 spec_l13Wider.K4 ?_; refine un_ HT_ 4 21 spec_l13Wider.K5 ?_; refine un_ HT_ 5 22 spec_l13Wider.K6 ?_; refine un_ HT_ 6 23 spec_l13Wider.K7 ?_; refine un_ HT_ 7 24 spec_l13Wider.K8 ?_; refine un_ HT_ 8 25 spec_l13Wider.K9 ?_; refine pu_ HT_ 9 26 spec_l13Wider.K10 ?_; refine pu_ HT_ 10 27 spec_l13Wider.K11 ?_; refine un_ HT_ 11 28 spec_l13Wider.K12 ?_; refine un_ HT_ 12 29 spec_l13Wider.K13 ?_; refine un_ HT_ 13 30 spec_l13Wider.K14 ?_; refine un_ HT_ 14 31 spec_l13Wider.K15 ?_; refine un_ HT_ 15 32 spec_l13Wider.K16 ?_; refine pu_ HT_ 16 33 spec_l13Wider.K17 ?_; refine pu_ HT_ 17 34 spec_l13Wider.K18 ?_; refine un_ HT_ 18 35 spec_l13Wider.K19 ?_; refine un_ HT_ 19 36 spec_l13Wider.K20 ?_; refine un_ HT_ 20 37 spec_l13Wider.K21 ?_; refine un_ HT_ 21 38 spec_l13Wider.K29 ?_; refine un_ HT_ 22 39 spec_l13Wider.K30 ?_; refine un_ HT_ 23 40 spec_l13Wider.K24 ?_; refine un_ HT_ 24 41 spec_l13Wider.K25 ?_; refine un_ HT_ 25 42 spec_l13Wider.K26 ?_; refine un_ HT_ 26 43 spec_l13Wider.K27 ?_; refine pu_ HT_ 27 44 spec_l13Wider.K28 ?_
       refine done_ (done_of HT_.out (by kernel_rfl)) ?_
       try go_wp2
       go_meet
       case rel => exact ⟨_, (true), sv_, H', ⟨by have := HK1.out; first | omega | exact Nat.le_refl _⟩, ⟨bb_ HB.out⟩⟩
     case rest =>
      clear HC5; (try clear c1); (try clear p2); (try clear p4); (try clear q4); (try clear hx4); (try clear qi4); (try clear c6); (try clear c6b0); (try clear c6b1); (try clear c7); (try clear c8); (try clear c9); (try clear c10); (try clear hx425_0); (try clear hx427_0); (try clear p425); (try clear p427); (try clear q425); (try clear q427); obtain ⟨kq, x44_4, rfl, HA, HJ4, HB⟩ := hcut
      cases kq with
      | zero => exact absurd HA.out (by simp [spec_l13Wider.j1])
      | succ kj4 =>
       have H := HA.out; clear HA
       simp only [spec_l13Wider.j1] at H
       by_cases c18 : x44_4 = true
       ·subst c18
        have H1 : (some false) = some r := by rw [if_pos rfl] at H; exact H
        clear H; have H := H1; clear H1
        obtain rfl := Option.some.inj H
        go_wp2
        go_ret
        exact ⟨by first | rfl | (simp [errW_none, errW_some] <;> rfl) | (simp [*, errW_none, errW_some] <;> rfl), bb_ HB.out⟩
       ·replace c18 := Bool.eq_false_iff.mpr c18
        subst c18
        have H1 : (if x5_1 > 0 then (if 0 < ((rd_L1 l0 x5_1).length : Int) then (if 0 ≤ (wrap64 (x5_1 - 1)) then (if (wrap64 (x5_1 - 1)) < (l0.length : Int) then (if 0 < ((rd_L1 l0 (wrap64 (x5_1 - 1))).length : Int) then (if (rd (rd_L1 l0 x5_1) 0) > (rd (rd_L1 l0 (wrap64 (x5_1 - 1))) 0) then (some false) else (if 1 < ((rd_L1 l0 x5_1).length : Int) then (if 1 < ((rd_L1 l0 (wrap64 (x5_1 - 1))).length : Int) then (if (rd (rd_L1 l0 x5_1) 1) < (rd (rd_L1 l0 (wrap64 (x5_1 - 1))) 1) then (some false) else (spec_l13Wider.l0 kj4 l0 a1 (wrap64 (x5_1 + 1)))) else (none)) else (none))) else (none)) else (none)) else (none)) else (none)) else (spec_l13Wider.l0 kj4 l0 a1 (wrap64 (x5_1 + 1)))) = some r := by rw [if_neg (show ¬ (false = true) by decide)] at H; exact H
        clear H; have H := H1; clear H1
        by_cases c19 : x5_1 > 0
        ·rw [if_pos c19] at H
         have c19b0 : decide (0 < x5_1) = true := decide_eq_true c19
         clear c19
         by_cases c20 : 0 < ((rd_L1 l0 x5_1).length : Int)
         ·rw [if_pos c20] at H
          have c20b0 : decide (0 < ((rd_L1 l0 x5_1).length : Int)) = true := decide_eq_true c20
          have c20b1 : decide (0 < (rd_L1 l0 x5_1).length) = true := decide_eq_true (by omega)
          clear c20
          obtain ⟨ji21, hji21⟩ : ∃ j_ : Int, (wrap64 (x5_1 - 1)) = j_ := ⟨_, rfl⟩
          replace H : (if 0 ≤ (ji21) then (if (ji21) < (l0.length : Int) then (if 0 < ((rd_L1 l0 (ji21)).length : Int) then (if (rd (rd_L1 l0 x5_1) 0) > (rd (rd_L1 l0 (ji21)) 0) then (some false) else (if 1 < ((rd_L1 l0 x5_1).length : Int) then (if 1 < ((rd_L1 l0 (ji21)).length : Int) then (if (rd (rd_L1 l0 x5_1) 1) < (rd (rd_L1 l0 (ji21)) 1) then (some false) else (spec_l13Wider.l0 kj4 l0 a1 (wrap64 (x5_1 + 1)))) else (none)) else (none))) else (none)) else (none)) else (none)) = some r := by first | (rw [hji21] at H; exact H) | (simp only [hji21] at H ⊢; exact H)
          have hji21w : (IntKind.i64.wrap (x5_1 - 1)) = ji21 := (i64_w _).trans hji21
          by_cases c22 : 0 ≤ (ji21)
          ·rw [if_pos c22] at H
           have c22b0 : decide (0 ≤ (ji21)) = true := decide_eq_true c22
           clear c22
           by_cases c23 : (ji21) < (l0.length : Int)
           ·rw [if_pos c23] at H
            have c23b0 : decide ((ji21) < (l0.length : Int)) = true := decide_eq_true c23
            clear c23
            by_cases c24 : 0 < ((rd_L1 l0 (ji21)).length : Int)
            ·rw [if_pos c24] at H
             have c24b0 : decide (0 < ((rd_L1 l0 (ji21)).length : Int)) = true := decide_eq_true c24
             have c24b1 : decide (0 < (rd_L1 l0 (ji21)).length) = true := decide_eq_true (by omega)
             clear c24
             by_cases c25 : (rd (rd_L1 l0 x5_1) 0) > (rd (rd_L1 l0 (ji21)) 0)
             ·rw [if_pos c25] at H
              have c25b0 : decide ((rd (rd_L1 l0 (ji21)) 0) < (rd (rd_L1 l0 x5_1) 0)) = true := decide_eq_true c25
              clear c25
              obtain rfl := Option.some.inj H
              try go_wp2
              have n0_ := Aside0.mk (below_drew1 HB.out)
              clear HB; have HB := n0_; clear n0_
              have p432 : 0 ≤ (0 : Int) := (by omega)
              have q432 : 0 < ((rd_L1 l0 x5_1).length : Int) := da_
              obtain ⟨ad432, e432, hx432_0⟩ := Kd.at_int HR424_0.out 0 p432 q432; have hw432_0 := hx432_0; (try rw [show ((0 : Int)).toNat = 0 from rfl] at hw432_0); (try rw [show 0 * 1 = 0 from rfl] at hw432_0); (try rw [Addr.add_zero'] at hw432_0); cases e432
              have qi432 : (0 < (rd_L1 l0 x5_1).length) = True := eq_true (by omega)
              (try rw [show ((0 : Int)).toNat = 0 from rfl] at hx432_0); (try rw [Addr.add_zero'] at hx432_0)
              replace hx432_0 := (wc_ HB.out hx432_0 :)
              replace p432 := eq_true p432; replace q432 := eq_true q432
              have p433 : 0 ≤ ((ji21) : Int) := da_
              have q433 : (ji21) < (l0.length : Int) := da_
              obtain ⟨ad433, A433_0, c433_0, e433, hx433_0, hl433_0, hi433_0⟩ := at_L1 HR0.out (ji21) p433 q433; have hw433_0 := hx433_0; obtain rfl : ad424 = ad433 := (by injection e433)
              replace hx433_0 := (wc_ HB.out hx433_0 :)
              have HR433_0 := Aside0.mk hi433_0; have HC433_0 := Aside0.mk hl433_0; clear hi433_0 hl433_0; replace p433 := eq_true p433; replace q433 := eq_true q433
              have p434 : 0 ≤ (0 : Int) := (by omega)
              have q434 : 0 < ((rd_L1 l0 (ji21)).length : Int) := da_
              obtain ⟨ad434, e434, hx434_0⟩ := Kd.at_int HR433_0.out 0 p434 q434; have hw434_0 := hx434_0; (try rw [show ((0 : Int)).toNat = 0 from rfl] at hw434_0); (try rw [show 0 * 1 = 0 from rfl] at hw434_0); (try rw [Addr.add_zero'] at hw434_0); cases e434
              have qi434 : (0 < (rd_L1 l0 (ji21)).length) = True := eq_true (by omega)
              (try rw [show ((0 : Int)).toNat = 0 from rfl] at hx434_0); (try rw [Addr.add_zero'] at hx434_0)
              replace hx434_0 := (wc_ HB.out hx434_0 :)
              replace p434 := eq_true p434; replace q434 := eq_true q434
              refine start_ (n := 28) (S := fun w' => w'.cell? ad432 = some (.int .i64 (rd (rd_L1 l0 x5_1) 0)) ∧ w'.cell? (ad424.add ((ji21)).toNat) = some (.slice (some ad434) (rd_L1 l0 (ji21)).length c433_0) ∧ w'.cell? ad434 = some (.int .i64 (rd (rd_L1 l0 (ji21)) 0))) (ds := []) spec_l13Wider.K0 (by kernel_rfl) rfl rfl ⟨(wc_ HB.out hw432_0 :), (wc_ HB.out hw433_0 :), (wc_ HB.out hw434_0 :)⟩ (fun hHeld => ?_); refine with_tabW spec_l13Wider.tab7 spec_l13Wider.bits7 (fun HT_ HW_ => ?_)
              generalize wc.drew = w26 at HB HR433_0 hx432_0 hx433_0 hx434_0 hHeld ⊢
              refine pu_ HT_ 0 45 spec_l13Wider.K1 ?_; refine pu_ HT_ 1 46 spec_l13Wider.K2 ?_; refine pu_ HT_ 2 47 spec_l13Wider.K3 ?_; refine pu_ HT_ 3 48 spec_l13Wider.K4 ?_; refine pu_ HT_ 4 49 spec_l13Wider.K5 ?_; refine pu_ HT_ 6 51 spec_l13Wider.K31 ?_; refine pu_ HT_ 7 52 spec_l13Wider.K32 ?_; refine pu_ HT_ 8 53 spec_l13Wider.K33 ?_; refine pu_ HT_ 9 54 spec_l13Wider.K34 ?_; refine tk_ HT_ HW_ hHeld 5 50 spec_l13Wider.K10 ?_; refine tk_ HT_ HW_ hHeld 10 55 spec_l13Wider.K11 ?_; refine pu_ HT_ 11 56 spec_l13Wider.K12 ?_; refine tk_ HT_ HW_ hHeld 12 57 spec_l13Wider.K13 ?_; refine pu_ HT_ 13 58 spec_l13Wider.K14 ?_; refine pu_ HT_ 14 59 spec_l13Wider.K15 ?_; refine un_ HT_ 15 60 spec_l13Wider.K16 ?_; refine un_ HT_ 16 61 spec_l13Wider.K17 ?_; refine un_ HT_ 17 62 spec_l13Wider.K18 ?_; refine un_ HT_ 18 63 spec_l13Wider.K19 ?_; refine un_ HT_ 19 64 spec_l13Wider.K20 ?_; refine un_ HT_ 20 65 spec_l13Wider.K21 ?_; refine un_ HT_ 21 66 spec_l13Wider.K29 ?_; refine un_ HT_ 22 67 spec_l13Wider.K30 ?_; refine un_ HT_ 23 68 spec_l13Wider.K24 ?_; refine un_ HT_ 24 69 spec_l13Wider.K25 ?_; refine un_ HT_ 25 70 spec_l13Wider.K26 ?_; refine pu_ HT_ 26 71 spec_l13Wider.K27 ?_; refine pu_ HT_ 27 72 spec_l13Wider.K28 ?_
              refine done_ (done_of HT_.out (by kernel_rfl)) ?_
              try go_wp2
              go_ret
              exact ⟨by first | rfl | (simp [errW_none, errW_some] <;> rfl) | (simp only [← hji21]; first | rfl | (simp [errW_none, errW_some] <;> rfl)) | (simp [*, errW_none, errW_some] <;> rfl), bb_ HB.out⟩
             ·rw [if_neg c25] at H
              have c25b0 : decide ((rd (rd_L1 l0 (ji21)) 0) < (rd (rd_L1 l0 x5_1) 0)) = false := decide_eq_false c25
              clear c25
              by_cases c27 : 1 < ((rd_L1 l0 x5_1).length : Int)
              ·rw [if_pos c27] at H
               have c27b0 : decide (1 < ((rd_L1 l0 x5_1).length : Int)) = true := decide_eq_true c27
               have c27b1 : decide (1 < (rd_L1 l0 x5_1).length) = true := decide_eq_true (by omega)
               clear c27
               by_cases c28 : 1 < ((rd_L1 l0 (ji21)).length : Int)
               ·rw [if_pos c28] at H
                have c28b0 : decide (1 < ((rd_L1 l0 (ji21)).length : Int)) = true := decide_eq_true c28
                have c28b1 : decide (1 < (rd_L1 l0 (ji21)).length) = true := decide_eq_true (by omega)
                clear c28
                by_cases c29 : (rd (rd_L1 l0 x5_1) 1) < (rd (rd_L1 l0 (ji21)) 1)
                ·rw [if_pos c29] at H
                 have c29b0 : decide ((rd (rd_L1 l0 x5_1) 1) < (rd (rd_L1 l0 (ji21)) 1)) = true := decide_eq_true c29
                 clear c29
                 obtain rfl := Option.some.inj H
                 try go_wp2
                 have n0_ := Aside0.mk (below_drew1 HB.out)
                 clear HB; have HB := n0_; clear n0_
                 have p432 : 0 ≤ (0 : Int) := (by omega)
                 have q432 : 0 < ((rd_L1 l0 x5_1).length : Int) := da_
                 obtain ⟨ad432, e432, hx432_0⟩ := Kd.at_int HR424_0.out 0 p432 q432; have hw432_0 := hx432_0; (try rw [show ((0 : Int)).toNat = 0 from rfl] at hw432_0); (try rw [show 0 * 1 = 0 from rfl] at hw432_0); (try rw [Addr.add_zero'] at hw432_0); cases e432
                 have qi432 : (0 < (rd_L1 l0 x5_1).length) = True := eq_true (by omega)
                 (try rw [show ((0 : Int)).toNat = 0 from rfl] at hx432_0); (try rw [Addr.add_zero'] at hx432_0)
                 replace hx432_0 := (wc_ HB.out hx432_0 :)
                 replace p432 := eq_true p432; replace q432 := eq_true q432
                 have p433 : 0 ≤ ((ji21) : Int) := da_
                 have q433 : (ji21) < (l0.length : Int) := da_
                 obtain ⟨ad433, A433_0, c433_0, e433, hx433_0, hl433_0, hi433_0⟩ := at_L1 HR0.out (ji21) p433 q433; have hw433_0 := hx433_0; obtain rfl : ad424 = ad433 := (by injection e433)
                 replace hx433_0 := (wc_ HB.out hx433_0 :)
                 have HR433_0 := Aside0.mk hi433_0; have HC433_0 := Aside0.mk hl433_0; clear hi433_0 hl433_0; replace p433 := eq_true p433; replace q433 := eq_true q433
                 have p434 : 0 ≤ (0 : Int) := (by omega)
                 have q434 : 0 < ((rd_L1 l0 (ji21)).length : Int) := da_
                 obtain ⟨ad434, e434, hx434_0⟩ := Kd.at_int HR433_0.out 0 p434 q434; have hw434_0 := hx434_0; (try rw [show ((0 : Int)).toNat = 0 from rfl] at hw434_0); (try rw [show 0 * 1 = 0 from rfl] at hw434_0); (try rw [Addr.add_zero'] at hw434_0); cases e434
                 have qi434 : (0 < (rd_L1 l0 (ji21)).length) = True := eq_true (by omega)
                 (try rw [show ((0 : Int)).toNat = 0 from rfl] at hx434_0); (try rw [Addr.add_zero'] at hx434_0)
                 replace hx434_0 := (wc_ HB.out hx434_0 :)
                 replace p434 := eq_true p434; replace q434 := eq_true q434
                 have p435 : 0 ≤ (1 : Int) := (by omega)
                 have q435 : 1 < ((rd_L1 l0 x5_1).length : Int) := da_
                 obtain ⟨ad435, e435, hx435_0⟩ := Kd.at_int HR424_0.out 1 p435 q435; have hw435_0 := hx435_0; (try rw [show ((1 : Int)).toNat = 1 from rfl] at hw435_0); (try rw [show 1 * 1 = 1 from rfl] at hw435_0); (try simp only [Nat.reduceMul, Nat.reduceEqDiff, Go.Addr.add, ↓reduceIte] at hw435_0); obtain rfl : ad432 = ad435 := (by injection e435); (try simp only [show (1 : Int).toNat = 1 from rfl, Nat.reduceMul, Nat.reduceEqDiff, Go.Addr.add, ↓reduceIte] at hx435_0)
                 have qi435 : (1 < (rd_L1 l0 x5_1).length) = True := eq_true (by omega)
                 (try rw [show ((1 : Int)).toNat = 1 from rfl] at hx435_0)
                 replace hx435_0 := (wc_ HB.out hx435_0 :)
                 replace p435 := eq_true p435; replace q435 := eq_true q435
                 have p436 : 0 ≤ ((ji21) : Int) := da_
                 have q436 : (ji21) < (l0.length : Int) := da_
                 obtain ⟨ad436, A436_0, c436_0, e436, hx436_0, hl436_0, hi436_0⟩ := at_L1 HR0.out (ji21) p436 q436; have hw436_0 := hx436_0; obtain rfl : ad424 = ad436 := (by injection e436)
                 replace hx436_0 := (wc_ HB.out hx436_0 :)
                 have HR436_0 := Aside0.mk hi436_0; have HC436_0 := Aside0.mk hl436_0; clear hi436_0 hl436_0; replace p436 := eq_true p436; replace q436 := eq_true q436
                 have ea_ := Option.some.inj (hx433_0.symm.trans hx436_0)
                 injection ea_ with ea_ en_ ec_
                 subst ea_; subst ec_; clear en_
                 have p437 : 0 ≤ (1 : Int) := (by omega)
                 have q437 : 1 < ((rd_L1 l0 (ji21)).length : Int) := da_
                 obtain ⟨ad437, e437, hx437_0⟩ := Kd.at_int HR436_0.out 1 p437 q437; have hw437_0 := hx437_0; (try rw [show ((1 : Int)).toNat = 1 from rfl] at hw437_0); (try rw [show 1 * 1 = 1 from rfl] at hw437_0); (try simp only [Nat.reduceMul, Nat.reduceEqDiff, Go.Addr.add, ↓reduceIte] at hw437_0); cases e437; (try simp only [show (1 : Int).toNat = 1 from rfl, Nat.reduceMul, Nat.reduceEqDiff, Go.Addr.add, ↓reduceIte] at hx437_0)
                 have qi437 : (1 < (rd_L1 l0 (ji21)).length) = True := eq_true (by omega)
                 (try rw [show ((1 : Int)).toNat = 1 from rfl] at hx437_0)
                 replace hx437_0 := (wc_ HB.out hx437_0 :)
                 replace p437 := eq_true p437; replace q437 := eq_true q437
                 refine start_ (n := 28) (S := fun w' => w'.cell? ad432 = some (.int .i64 (rd (rd_L1 l0 x5_1) 0)) ∧ w'.cell? (ad424.add ((ji21)).toNat) = some (.slice (some ad434) (rd_L1 l0 (ji21)).length c433_0) ∧ w'.cell? ad434 = some (.int .i64 (rd (rd_L1 l0 (ji21)) 0)) ∧ w'.cell? ⟨ad432.block, ad432.off + 1, none⟩ = some (.int .i64 (rd (rd_L1 l0 x5_1) 1)) ∧ w'.cell? (ad424.add ((ji21)).toNat) = some (.slice (some ad434) (rd_L1 l0 (ji21)).length c433_0) ∧ w'.cell? ⟨ad434.block, ad434.off + 1, none⟩ = some (.int .i64 (rd (rd_L1 l0 (ji21)) 1))) (ds := []) spec_l13Wider.K0 (by kernel_rfl) rfl rfl ⟨(wc_ HB.out hw432_0 :), (wc_ HB.out hw433_0 :), (wc_ HB.out hw434_0 :), (wc_ HB.out hw435_0 :), (wc_ HB.out hw436_0 :), (wc_ HB.out hw437_0 :)⟩ (fun hHeld => ?_); refine with_tabW spec_l13Wider.tab7 spec_l13Wider.bits7 (fun HT_ HW_ => ?_)
                 generalize wc.drew = w30 at HB HR433_0 HR436_0 hx432_0 hx433_0 hx434_0 hx435_0 hx436_0 hx437_0 hHeld ⊢
                 refine pu_ HT_ 0 45 spec_l13Wider.K1 ?_; refine pu_ HT_ 1 46 spec_l13Wider.K2 ?_; refine pu_ HT_ 2 47 spec_l13Wider.K3 ?_; refine pu_ HT_ 3 48 spec_l13Wider.K4 ?_; refine pu_ HT_ 4 49 spec_l13Wider.K5 ?_; refine pu_ HT_ 6 51 spec_l13Wider.K31 ?_; refine pu_ HT_ 7 52 spec_l13Wider.K32 ?_; refine pu_ HT_ 8 53 spec_l13Wider.K33 ?_; refine pu_ HT_ 9 54 spec_l13Wider.K34 ?_; refine tk_ HT_ HW_ hHeld 5 50 spec_l13Wider.K10 ?_; refine tk_ HT_ HW_ hHeld 10 55 spec_l13Wider.K11 ?_; refine pu_ HT_ 11 56 spec_l13Wider.K12 ?_; refine tk_ HT_ HW_ hHeld 12 57 spec_l13Wider.K13 ?_; refine pu_ HT_ 13 58 spec_l13Wider.K14 ?_; refine pu_ HT_ 14 59 spec_l13Wider.K15 ?_; refine pu_ HT_ 15 60 spec_l13Wider.K16 ?_; refine pu_ HT_ 16 61 spec_l13Wider.K17 ?_; refine pu_ HT_ 18 63 spec_l13Wider.K35 ?_; refine pu_ HT_ 19 64 spec_l13Wider.K36 ?_; refine pu_ HT_ 20 65 spec_l13Wider.K37 ?_; refine pu_ HT_ 21 66 spec_l13Wider.K38 ?_; refine tk_ HT_ HW_ hHeld 17 62 spec_l13Wider.K29 ?_; refine tk_ HT_ HW_ hHeld 22 67 spec_l13Wider.K30 ?_; refine pu_ HT_ 23 68 spec_l13Wider.K24 ?_; refine tk_ HT_ HW_ hHeld 24 69 spec_l13Wider.K25 ?_; refine pu_ HT_ 25 70 spec_l13Wider.K26 ?_; refine pu_ HT_ 26 71 spec_l13Wider.K27 ?_; refine pu_ HT_ 27 72 spec_l13Wider.K28 ?_
                 refine done_ (done_of HT_.out (by kernel_rfl)) ?_
                 try go_wp2
                 go_ret
                 exact ⟨by first | rfl | (simp [errW_none, errW_some] <;> rfl) | (simp only [← hji21]; first | rfl | (simp [errW_none, errW_some] <;> rfl)) | (simp [*, errW_none, errW_some] <;> rfl), bb_ HB.out⟩
                ·rw [if_neg c29] at H
                 have c29b0 : decide ((rd (rd_L1 l0 x5_1) 1) < (rd (rd_L1 l0 (ji21)) 1)) = false := decide_eq_false c29
                 clear c29
                 have H' := Aside0.mk H
                 clear H
                 try go_wp2
                 have n0_ := Aside0.mk (below_drew1 HB.out)
                 clear HB; have HB := n0_; clear n0_
                 have p432 : 0 ≤ (0 : Int) := (by omega)
                 have q432 : 0 < ((rd_L1 l0 x5_1).length : Int) := da_
                 obtain ⟨ad432, e432, hx432_0⟩ := Kd.at_int HR424_0.out 0 p432 q432; have hw432_0 := hx432_0; (try rw [show ((0 : Int)).toNat = 0 from rfl] at hw432_0); (try rw [show 0 * 1 = 0 from rfl] at hw432_0); (try rw [Addr.add_zero'] at hw432_0); cases e432
                 have qi432 : (0 < (rd_L1 l0 x5_1).length) = True := eq_true (by omega)
                 (try rw [show ((0 : Int)).toNat = 0 from rfl] at hx432_0); (try rw [Addr.add_zero'] at hx432_0)
                 replace hx432_0 := (wc_ HB.out hx432_0 :)
                 replace p432 := eq_true p432; replace q432 := eq_true q432
                 have p433 : 0 ≤ ((ji21) : Int) := da_
                 have q433 : (ji21) < (l0.length : Int) := da_
                 obtain ⟨ad433, A433_0, c433_0, e433, hx433_0, hl433_0, hi433_0⟩ := at_L1 HR0.out (ji21) p433 q433; have hw433_0 := hx433_0; obtain rfl : ad424 = ad433 := (by injection e433)
                 replace hx433_0 := (wc_ HB.out hx433_0 :)
                 have HR433_0 := Aside0.mk hi433_0; have HC433_0 := Aside0.mk hl433_0; clear hi433_0 hl433_0; replace p433 := eq_true p433; replace q433 := eq_true q433
                 have p434 : 0 ≤ (0 : Int) := (by omega)
                 have q434 : 0 < ((rd_L1 l0 (ji21)).length : Int) := da_
                 obtain ⟨ad434, e434, hx434_0⟩ := Kd.at_int HR433_0.out 0 p434 q434; have hw434_0 := hx434_0; (try rw [show ((0 : Int)).toNat = 0 from rfl] at hw434_0); (try rw [show 0 * 1 = 0 from rfl] at hw434_0); (try rw [Addr.add_zero'] at hw434_0); cases e434
                 have qi434 : (0 < (rd_L1 l0 (ji21)).length) = True := eq_true (by omega)
                 (try rw [show ((0 : Int)).toNat = 0 from rfl] at hx434_0); (try rw [Addr.add_zero'] at hx434_0)
                 replace hx434_0 := (wc_ HB.out hx434_0 :)
                 replace p434 := eq_true p434; replace q434 := eq_true q434
                 have p435 : 0 ≤ (1 : Int) := (by omega)
                 have q435 : 1 < ((rd_L1 l0 x5_1).length : Int) := da_
                 obtain ⟨ad435, e435, hx435_0⟩ := Kd.at_int HR424_0.out 1 p435 q435; have hw435_0 := hx435_0; (try rw [show ((1 : Int)).toNat = 1 from rfl] at hw435_0); (try rw [show 1 * 1 = 1 from rfl] at hw435_0); (try simp only [Nat.reduceMul, Nat.reduceEqDiff, Go.Addr.add, ↓reduceIte] at hw435_0); obtain rfl : ad432 = ad435 := (by injection e435); (try simp only [show (1 : Int).toNat = 1 from rfl, Nat.reduceMul, Nat.reduceEqDiff, Go.Addr.add, ↓reduceIte] at hx435_0)
                 have qi435 : (1 < (rd_L1 l0 x5_1).length) = True := eq_true (by omega)
                 (try rw [show ((1 : Int)).toNat = 1 from rfl] at hx435_0)
                 replace hx435_0 := (wc_ HB.out hx435_0 :)
                 replace p435 := eq_true p435; replace q435 := eq_true q435
                 have p436 : 0 ≤ ((ji21) : Int) := da_
                 have q436 : (ji21) < (l0.length : Int) := da_
                 obtain ⟨ad436, A436_0, c436_0, e436, hx436_0, hl436_0, hi436_0⟩ := at_L1 HR0.out (ji21) p436 q436; have hw436_0 := hx436_0; obtain rfl : ad424 = ad436 := (by injection e436)
                 replace hx436_0 := (wc_ HB.out hx436_0 :)
                 have HR436_0 := Aside0.mk hi436_0; have HC436_0 := Aside0.mk hl436_0; clear hi436_0 hl436_0; replace p436 := eq_true p436; replace q436 := eq_true q436
                 have ea_ := Option.some.inj (hx433_0.symm.trans hx436_0)
                 injection ea_ with ea_ en_ ec_
                 subst ea_; subst ec_; clear en_
                 have p437 : 0 ≤ (1 : Int) := (by omega)
                 have q437 : 1 < ((rd_L1 l0 (ji21)).length : Int) := da_
                 obtain ⟨ad437, e437, hx437_0⟩ := Kd.at_int HR436_0.out 1 p437 q437; have hw437_0 := hx437_0; (try rw [show ((1 : Int)).toNat = 1 from rfl] at hw437_0); (try rw [show 1 * 1 = 1 from rfl] at hw437_0); (try simp only [Nat.reduceMul, Nat.reduceEqDiff, Go.Addr.add, ↓reduceIte] at hw437_0); cases e437; (try simp only [show (1 : Int).toNat = 1 from rfl, Nat.reduceMul, Nat.reduceEqDiff, Go.Addr.add, ↓reduceIte] at hx437_0)
                 have qi437 : (1 < (rd_L1 l0 (ji21)).length) = True := eq_true (by omega)
                 (try rw [show ((1 : Int)).toNat = 1 from rfl] at hx437_0)
                 replace hx437_0 := (wc_ HB.out hx437_0 :)
                 replace p437 := eq_true p437; replace q437 := eq_true q437
                 refine start_ (n := 28) (S := fun w' => w'.cell? ad432 = some (.int .i64 (rd (rd_L1 l0 x5_1) 0)) ∧ w'.cell? (ad424.add ((ji21)).toNat) = some (.slice (some ad434) (rd_L1 l0 (ji21)).length c433_0) ∧ w'.cell? ad434 = some (.int .i64 (rd (rd_L1 l0 (ji21)) 0)) ∧ w'.cell? ⟨ad432.block, ad432.off + 1, none⟩ = some (.int .i64 (rd (rd_L1 l0 x5_1) 1)) ∧ w'.cell? (ad424.add ((ji21)).toNat) = some (.slice (some ad434) (rd_L1 l0 (ji21)).length c433_0) ∧ w'.cell? ⟨ad434.block, ad434.off + 1, none⟩ = some (.int .i64 (rd (rd_L1 l0 (ji21)) 1))) (ds := []) spec_l13Wider.K0 (by kernel_rfl) rfl rfl ⟨(wc_ HB.out hw432_0 :), (wc_ HB.out hw433_0 :), (wc_ HB.out hw434_0 :), (wc_ HB.out hw435_0 :), (wc_ HB.out hw436_0 :), (wc_ HB.out hw437_0 :)⟩ (fun hHeld => ?_); refine with_tabW spec_l13Wider.tab7 spec_l13Wider.bits7 (fun HT_ HW_ => ?_)
                 generalize wc.drew = w31 at HB HR433_0 HR436_0 hx432_0 hx433_0 hx434_0 hx435_0 hx436_0 hx437_0 hHeld ⊢
                 refine pu_ HT_ 0 45 spec_l13Wider.K1 ?_; refine pu_ HT_ 1 46 spec_l13Wider.K2 ?_; refine pu_ HT_ 2 47 spec_l13Wider.K3 ?_; refine pu_ HT_ 3 48 spec_l13Wider.K4 ?_; refine pu_ HT_ 4 49 spec_l13Wider.K5 ?_; refine pu_ HT_ 6 51 spec_l13Wider.K31 ?_; refine pu_ HT_ 7 52 spec_l13Wider.K32 ?_; refine pu_ HT_ 8 53 spec_l13Wider.K33 ?_; refine pu_ HT_ 9 54 spec_l13Wider.K34 ?_; refine tk_ HT_ HW_ hHeld 5 50 spec_l13Wider.K10 ?_; refine tk_ HT_ HW_ hHeld 10 55 spec_l13Wider.K11 ?_; refine pu_ HT_ 11 56 spec_l13Wider.K12 ?_; refine tk_ HT_ HW_ hHeld 12 57 spec_l13Wider.K13 ?_; refine pu_ HT_ 13 58 spec_l13Wider.K14 ?_; refine pu_ HT_ 14 59 spec_l13Wider.K15 ?_; refine pu_ HT_ 15 60 spec_l13Wider.K16 ?_; refine pu_ HT_ 16 61 spec_l13Wider.K17 ?_; refine pu_ HT_ 18 63 spec_l13Wider.K35 ?_; refine pu_ HT_ 19 64 spec_l13Wider.K36 ?_; refine pu_ HT_ 20 65 spec_l13Wider.K37 ?_; refine pu_ HT_ 21 66 spec_l13Wider.K38 ?_; refine tk_ HT_ HW_ hHeld 17 62 spec_l13Wider.K29 ?_; refine tk_ HT_ HW_ hHeld 22 67 spec_l13Wider.K30 ?_; refine pu_ HT_ 23 68 spec_l13Wider.K24 ?_; refine tk_ HT_ HW_ hHeld 24 69 spec_l13Wider.K25 ?_; refine pu_ HT_ 25 70 spec_l13Wider.K26 ?_; refine pu_ HT_ 26 71 spec_l13Wider.K27 ?_; refine pu_ HT_ 27 72 spec_l13Wider.K28 ?_
                 refine done_ (done_of HT_.out (by kernel_rfl)) ?_
                 try go_wp2
                 go_roundg kj4
                 case measure => have := HK1.out; have := HJ4.out; omega
                 case rel => exact ⟨(wrap64 (x5_1 + 1)), sv_, H', ⟨by have := HK1.out; have := HJ4.out; omega⟩, ⟨bb_ HB.out⟩⟩
               ·rw [if_neg c28] at H
                exact absurd H (by simp)
              ·rw [if_neg c27] at H
               exact absurd H (by simp)
            ·rw [if_neg c24] at H
             exact absurd H (by simp)
           ·rw [if_neg c23] at H
            exact absurd H (by simp)
          ·rw [if_neg c22] at H
           exact absurd H (by simp)
         ·rw [if_neg c20] at H
          exact absurd H (by simp)
        ·rw [if_neg c19] at H
         have c19b0 : decide (0 < x5_1) = false := decide_eq_false c19
         clear c19
         have H' := Aside0.mk H
         clear H
         try go_wp2
         have n0_ := Aside0.mk (below_drew1 HB.out)
         clear HB; have HB := n0_; clear n0_
         refine start_ (n := 28) (S := fun w' => True) (ds := []) spec_l13Wider.K0 (by kernel_rfl) rfl rfl trivial (fun hHeld => ?_); refine with_tabW spec_l13Wider.tab7 spec_l13Wider.bits7 (fun HT_ HW_ => ?_)
         generalize wc.drew = w32 at HB hHeld ⊢
         refine pu_ HT_ 0 45 spec_l13Wider.K1 ?_; refine pu_ HT_ 1 46 spec_l13Wider.K2 ?_; refine pu_ HT_ 2 47 spec_l13Wider.K3 ?_; refine un_ HT_ 3 48 spec_l13Wider.K4 ?_; refine un_ HT_ 4 49 spec_l13Wider.K5 ?_; refine un_ HT_ 5 50 spec_l13Wider.K6 ?_; refine un_ HT_ 6 51 spec_l13Wider.K7 ?_; refine un_ HT_ 7 52 spec_l13Wider.K8 ?_; refine un_ HT_ 8 53 spec_l13Wider.K9 ?_; refine un_ HT_ 9 54 spec_l13Wider.K10 ?_; refine un_ HT_ 10 55 spec_l13Wider.K11 ?_; refine un_ HT_ 11 56 spec_l13Wider.K12 ?_; refine un_ HT_ 12 57 spec_l13Wider.K13 ?_; refine un_ HT_ 13 58 spec_l13Wider.K14 ?_; refine un_ HT_ 14 59 spec_l13Wider.K15 ?_; refine un_ HT_ 15 60 spec_l13Wider.K16 ?_; refine un_ HT_ 16 61 spec_l13Wider.K17 ?_; refine un_ HT_ 17 62 spec_l13Wider.K18 ?_; refine un_ HT_ 18 63 spec_l13Wider.K19 ?_; refine un_ HT_ 19 64 spec_l13Wider.K20 ?_; refine un_ HT_ 20 65 spec_l13Wider.K21 ?_; refine un_ HT_ 21 66 spec_l13Wider.K29 ?_; refine un_ HT_ 22 67 spec_l13Wider.K30 ?_; refine un_ HT_ 23 68 spec_l13Wider.K24 ?_; refine un_ HT_ 24 69 spec_l13Wider.K25 ?_; refine un_ HT_ 25 70 spec_l13Wider.K26 ?_; refine un_ HT_ 26 71 spec_l13Wider.K27 ?_; refine pu_ HT_ 27 72 spec_l13Wider.K28 ?_
         refine done_ (done_of HT_.out (by kernel_rfl)) ?_
         try go_wp2
         go_roundg kj4
         case measure => have := HK1.out; have := HJ4.out; omega
         case rel => exact ⟨(wrap64 (x5_1 + 1)), sv_, H', ⟨by have := HK1.out; have := HJ4.out; omega⟩, ⟨bb_ HB.out⟩⟩
    ·rw [if_neg c4] at H
     exact absurd H (by simp)
   ·rw [if_neg c3] at H
    have c3b0 : decide (x5_1 < (l0.length : Int)) = false := decide_eq_false c3
    clear c3
    replace H := Option.bind_eq_some_iff.mp H
    obtain ⟨t423, A330, H⟩ := H
    replace H : (some t423) = some r := H
    have A33 := Aside0.mk A330; clear A330
    obtain rfl := Option.some.inj H
    go_wp2_with (first | ((with_reducible refine gate_callee (f := 58) rfl ?_); refine goesL_ (some 75) rfl rfl Try.func58 (by kernel_rfl) rfl #[.int .i64 (l0.length : Int), .int .i64 1, .int .i64 8] rfl av_ ?_; (with_reducible refine (spec_l00In.calls (l0.length : Int) 1 8 t423 _ A33.out).mono ?_); rintro e w' ⟨rfl, ⟨nd, rfl⟩⟩; refine ⟨_, rfl, ?_⟩))
    go_ret
    exact ⟨by first | rfl | (simp [errW_none, errW_some] <;> rfl) | (simp [*, errW_none, errW_some] <;> rfl), bb_ HB.out⟩
/-! ### spec_GrowStages: function 34 -/
def spec_GrowStages.K0 : Array Bool := #[n_,n_,n_,n_,n_,n_,n_,n_,n_,n_,n_,n_,n_,n_,n_,n_,n_,n_,n_,n_,n_,n_,n_]
def spec_GrowStages.K1 : Array Bool := #[y_,n_,n_,n_,n_,n_,n_,n_,n_,n_,n_,n_,n_,n_,n_,n_,n_,n_,n_,n_,n_,n_,n_]
def spec_GrowStages.K2 : Array Bool := #[y_,y_,n_,n_,n_,n_,n_,n_,n_,n_,n_,n_,n_,n_,n_,n_,n_,n_,n_,n_,n_,n_,n_]
def spec_GrowStages.K3 : Array Bool := #[y_,y_,y_,n_,n_,n_,n_,n_,n_,n_,n_,n_,n_,n_,n_,n_,n_,n_,n_,n_,n_,n_,n_]
def spec_GrowStages.K4 : Array Bool := #[y_,y_,y_,y_,n_,n_,n_,n_,n_,n_,n_,n_,n_,n_,n_,n_,n_,n_,n_,n_,n_,n_,n_]
def spec_GrowStages.K5 : Array Bool := #[y_,y_,y_,y_,y_,n_,n_,n_,n_,n_,n_,n_,n_,n_,n_,n_,n_,n_,n_,n_,n_,n_,n_]
def spec_GrowStages.K6 : Array Bool := #[y_,y_,y_,y_,y_,y_,n_,n_,n_,n_,n_,n_,n_,n_,n_,n_,n_,n_,n_,n_,n_,n_,n_]
def spec_GrowStages.K7 : Array Bool := #[y_,y_,y_,y_,y_,y_,n_,n_,n_,y_,n_,n_,n_,n_,n_,n_,n_,n_,n_,n_,n_,n_,n_]
def spec_GrowStages.K8 : Array Bool := #[y_,y_,y_,y_,y_,y_,n_,n_,n_,y_,y_,n_,n_,n_,n_,n_,n_,n_,n_,n_,n_,n_,n_]
def spec_GrowStages.K9 : Array Bool := #[y_,y_,y_,y_,y_,y_,n_,n_,n_,y_,y_,y_,n_,n_,n_,n_,n_,n_,n_,n_,n_,n_,n_]
def spec_GrowStages.K10 : Array Bool := #[y_,y_,y_,y_,y_,y_,y_,n_,n_,y_,y_,y_,n_,n_,n_,n_,n_,n_,n_,n_,n_,n_,n_]
def spec_GrowStages.K11 : Array Bool := #[y_,y_,y_,y_,y_,y_,y_,y_,n_,y_,y_,y_,n_,n_,n_,n_,n_,n_,n_,n_,n_,n_,n_]
def spec_GrowStages.K12 : Array Bool := #[y_,y_,y_,y_,y_,y_,y_,y_,y_,y_,y_,y_,n_,n_,n_,n_,n_,n_,n_,n_,n_,n_,n_]
def spec_GrowStages.K13 : Array Bool := #[y_,y_,y_,y_,y_,y_,y_,y_,y_,y_,y_,y_,y_,n_,n_,n_,n_,n_,n_,n_,n_,n_,n_]
def spec_GrowStages.K14 : Array Bool := #[y_,y_,y_,y_,y_,y_,y_,y_,y_,y_,y_,y_,y_,y_,n_,n_,n_,n_,n_,n_,n_,n_,n_]
def spec_GrowStages.K15 : Array Bool := #[y_,y_,y_,y_,y_,y_,y_,y_,y_,y_,y_,y_,y_,y_,y_,n_,n_,n_,n_,n_,n_,n_,n_]
def spec_GrowStages.K16 : Array Bool := #[y_,y_,y_,y_,y_,y_,y_,y_,y_,y_,y_,y_,y_,y_,y_,y_,n_,n_,n_,n_,n_,n_,n_]
def spec_GrowStages.K17 : Array Bool := #[y_,y_,y_,y_,y_,y_,y_,y_,y_,y_,y_,y_,y_,y_,y_,y_,y_,n_,n_,n_,n_,n_,n_]
def spec_GrowStages.K18 : Array Bool := #[y_,y_,y_,y_,y_,y_,y_,y_,y_,y_,y_,y_,y_,y_,y_,y_,y_,y_,n_,n_,n_,n_,n_]
def spec_GrowStages.K19 : Array Bool := #[y_,y_,y_,y_,y_,y_,y_,y_,y_,y_,y_,y_,y_,y_,y_,y_,y_,y_,y_,n_,n_,n_,n_]
def spec_GrowStages.K20 : Array Bool := #[y_,y_,y_,y_,y_,y_,y_,y_,y_,y_,y_,y_,y_,y_,y_,y_,y_,y_,y_,y_,n_,n_,n_]
def spec_GrowStages.K21 : Array Bool := #[y_,y_,y_,y_,y_,y_,y_,y_,y_,y_,y_,y_,y_,y_,y_,y_,y_,y_,y_,y_,y_,n_,n_]
def spec_GrowStages.K22 : Array Bool := #[y_,y_,y_,y_,y_,y_,y_,y_,y_,y_,y_,y_,y_,y_,y_,y_,y_,y_,y_,y_,y_,y_,n_]
def spec_GrowStages.K23 : Array Bool := #[y_,y_,y_,y_,y_,y_,y_,y_,y_,y_,y_,y_,y_,y_,y_,y_,y_,y_,y_,y_,y_,y_,y_]
mutual
def spec_GrowStages.j0 : Nat → Int → Int → Int → List (List Int) → Bool → ByteArray → List Int → List Int → Int → Int → List (List Int) → Option (List Int × Int)
 | 0, _, _, _, _, _, _, _, _, _, _, _ => none
 | k + 1, x1, x2, x3, x4, x31, x439000, x439001, x439002, x439003, x439004, x439005 => if x31 = true then (some (([] : List Int), 2)) else ((spec_l13Wider.f k x4 x2).bind fun t443 => (if t443 = true then ((spec_l03Tone.f x2).bind fun t444 => ((spec_l05Tone.f k x439000 x439001 x439002 x439003 x439004 x439005 t444).bind fun t445 => (if t445 = true then (spec_GrowStages.l0 k x1 x3 x4 (([x2] : List Int)) 0 x439000 x439001 x439002 x439003 x439004 x439005) else (some (([] : List Int), 3))))) else (some (([] : List Int), 7))))
def spec_GrowStages.l0 : Nat → Int → Int → List (List Int) → List Int → Int → ByteArray → List Int → List Int → Int → Int → List (List Int) → Option (List Int × Int)
 | 0, _, _, _, _, _, _, _, _, _, _, _ => none
 | k + 1, x1, x3, x4, x12, x13, x439000, x439001, x439002, x439003, x439004, x439005 => if x13 < (x4.length : Int) then (if 0 ≤ x13 then (if 0 < ((rd_L1 x4 x13).length : Int) then (if 1 < ((rd_L1 x4 x13).length : Int) then ((spec_l13Grow.f k x439000 x439001 x439002 x439003 x439004 x439005 x1 x12 x3 (rd (rd_L1 x4 x13) 0) (rd (rd_L1 x4 x13) 1)).bind fun bt453 => (if bt453.2.2 = true then (spec_GrowStages.l0 k bt453.2.1 x3 x4 bt453.1 (wrap64 (x13 + 1)) x439000 x439001 x439002 x439003 x439004 x439005) else (some (([] : List Int), 3)))) else (none)) else (none)) else (none)) else (some (x12, 0))
end
def spec_GrowStages.f (k : Nat) (a0_0 : ByteArray) (l0_1 : List Int) (l0_2 : List Int) (a0_3 : Int) (a0_4 : Int) (l0_5 : List (List Int)) (a1 : Int) (a2 : Int) (a3 : Int) (l4 : List (List Int)) : Option (List Int × Int) := (spec_l05Ok.f k a0_0 l0_1 l0_2 a0_3 a0_4 l0_5).bind fun t439 => (if t439 = true then ((spec_l13Seed.f a1).bind fun t440 => (if t440 = true then ((spec_l03Pitch.f a2).bind fun t441 => (if t441 = true then ((spec_l00In.f a3 1 6).bind fun t442 => (spec_GrowStages.j0 k a1 a2 a3 l4 (!t442) a0_0 l0_1 l0_2 a0_3 a0_4 l0_5)) else (spec_GrowStages.j0 k a1 a2 a3 l4 true a0_0 l0_1 l0_2 a0_3 a0_4 l0_5))) else (spec_GrowStages.j0 k a1 a2 a3 l4 true a0_0 l0_1 l0_2 a0_3 a0_4 l0_5))) else (some (([] : List Int), 1)))
theorem spec_GrowStages.mono_l : ∀ k, (∀ y0 y1 y2 y3 y4 y5 y6 y7 y8 y9 y10, LeO (spec_GrowStages.j0 k y0 y1 y2 y3 y4 y5 y6 y7 y8 y9 y10) (spec_GrowStages.j0 (k + 1) y0 y1 y2 y3 y4 y5 y6 y7 y8 y9 y10)) ∧ (∀ y0 y1 y2 y3 y4 y5 y6 y7 y8 y9 y10, LeO (spec_GrowStages.l0 k y0 y1 y2 y3 y4 y5 y6 y7 y8 y9 y10) (spec_GrowStages.l0 (k + 1) y0 y1 y2 y3 y4 y5 y6 y7 y8 y9 y10))
 | 0 => ⟨fun _ _ _ _ _ _ _ _ _ _ _ r h => by simp [spec_GrowStages.j0] at h, fun _ _ _ _ _ _ _ _ _ _ _ r h => by simp [spec_GrowStages.l0] at h⟩
 | k + 1 => by
  obtain ⟨ih0, ih1⟩ := spec_GrowStages.mono_l k
  refine ⟨?_, ?_⟩
  ·intro y0 y1 y2 y3 y4 y5 y6 y7 y8 y9 y10
   unfold spec_GrowStages.j0
   repeat' first
   | (with_reducible exact ih0 _ _ _ _ _ _ _ _ _ _ _)
   | (with_reducible exact ih1 _ _ _ _ _ _ _ _ _ _ _)
   | (with_reducible exact spec_l05Ok.mono _ _ _ _ _ _ _)
   | (with_reducible exact spec_l05Tone.mono _ _ _ _ _ _ _ _)
   | (with_reducible exact spec_l13Grow.mono _ _ _ _ _ _ _ _ _ _ _ _)
   | (with_reducible exact spec_l13Wider.mono _ _ _)
   | (with_reducible exact LeO.refl _)
   | (with_reducible exact LeO.none _)
   | (with_reducible refine LeO.ite ?_ ?_)
   | (with_reducible refine LeO.bind ?_ (fun _ => ?_))
   | exact ih0 _ _ _ _ _ _ _ _ _ _ _
   | exact ih1 _ _ _ _ _ _ _ _ _ _ _
   | exact spec_l05Ok.mono _ _ _ _ _ _ _
   | exact spec_l05Tone.mono _ _ _ _ _ _ _ _
   | exact spec_l13Grow.mono _ _ _ _ _ _ _ _ _ _ _ _
   | exact spec_l13Wider.mono _ _ _
   | exact LeO.none _
   | refine LeO.ite ?_ ?_
   | refine LeO.bind ?_ (fun _ => ?_)
  ·intro y0 y1 y2 y3 y4 y5 y6 y7 y8 y9 y10
   unfold spec_GrowStages.l0
   repeat' first
   | (with_reducible exact ih0 _ _ _ _ _ _ _ _ _ _ _)
   | (with_reducible exact ih1 _ _ _ _ _ _ _ _ _ _ _)
   | (with_reducible exact spec_l05Ok.mono _ _ _ _ _ _ _)
   | (with_reducible exact spec_l05Tone.mono _ _ _ _ _ _ _ _)
   | (with_reducible exact spec_l13Grow.mono _ _ _ _ _ _ _ _ _ _ _ _)
   | (with_reducible exact spec_l13Wider.mono _ _ _)
   | (with_reducible exact LeO.refl _)
   | (with_reducible exact LeO.none _)
   | (with_reducible refine LeO.ite ?_ ?_)
   | (with_reducible refine LeO.bind ?_ (fun _ => ?_))
   | exact ih0 _ _ _ _ _ _ _ _ _ _ _
   | exact ih1 _ _ _ _ _ _ _ _ _ _ _
   | exact spec_l05Ok.mono _ _ _ _ _ _ _
   | exact spec_l05Tone.mono _ _ _ _ _ _ _ _
   | exact spec_l13Grow.mono _ _ _ _ _ _ _ _ _ _ _ _
   | exact spec_l13Wider.mono _ _ _
   | exact LeO.none _
   | refine LeO.ite ?_ ?_
   | refine LeO.bind ?_ (fun _ => ?_)
theorem spec_GrowStages.mono : ∀ a0 a1 a2 a3 a4 a5 a6 a7 a8 a9 k, LeO (spec_GrowStages.f k a0 a1 a2 a3 a4 a5 a6 a7 a8 a9) (spec_GrowStages.f (k + 1) a0 a1 a2 a3 a4 a5 a6 a7 a8 a9) := by
 intro a0 a1 a2 a3 a4 a5 a6 a7 a8 a9 k
 obtain ⟨ih0, ih1⟩ := spec_GrowStages.mono_l k
 unfold spec_GrowStages.f
 repeat' first
   | (with_reducible exact ih0 _ _ _ _ _ _ _ _ _ _ _)
   | (with_reducible exact ih1 _ _ _ _ _ _ _ _ _ _ _)
   | (with_reducible exact spec_l05Ok.mono _ _ _ _ _ _ _)
   | (with_reducible exact spec_l05Tone.mono _ _ _ _ _ _ _ _)
   | (with_reducible exact spec_l13Grow.mono _ _ _ _ _ _ _ _ _ _ _ _)
   | (with_reducible exact spec_l13Wider.mono _ _ _)
   | (with_reducible exact LeO.refl _)
   | (with_reducible exact LeO.none _)
   | (with_reducible refine LeO.ite ?_ ?_)
   | (with_reducible refine LeO.bind ?_ (fun _ => ?_))
   | exact ih0 _ _ _ _ _ _ _ _ _ _ _
   | exact ih1 _ _ _ _ _ _ _ _ _ _ _
   | exact spec_l05Ok.mono _ _ _ _ _ _ _
   | exact spec_l05Tone.mono _ _ _ _ _ _ _ _
   | exact spec_l13Grow.mono _ _ _ _ _ _ _ _ _ _ _ _
   | exact spec_l13Wider.mono _ _ _
   | exact LeO.none _
   | refine LeO.ite ?_ ?_
   | refine LeO.bind ?_ (fun _ => ?_)
def spec_GrowStages.T13 : Bool × List (List Nat × List Nat) := (true, [([], []), ([], []), ([], []), ([], []), ([], []), ([3, 4], [3, 4]), ([5], [5]), ([6], [6]), ([7], [7]), ([], []), ([], []), ([9, 10], [9, 10]), ([11], [11]), ([12], [12]), ([13], [13]), ([0, 1, 2, 8, 14], [0, 1, 2, 8, 14]), ([15], [15]), ([16], [16]), ([16], [16]), ([16], [16]), ([17, 15, 0, 1, 2, 3, 4, 5, 6, 7, 8, 9, 10, 11, 12, 13, 14, 15, 16, 17], [17]), ([18, 20, 0, 1, 2, 3, 4, 5, 6, 7, 8, 9, 10, 11, 12, 13, 14, 15, 16, 17, 18, 20], [18]), ([19, 21, 0, 1, 2, 3, 4, 5, 6, 7, 8, 9, 10, 11, 12, 13, 14, 15, 16, 17, 18, 19, 20, 21], [19])])
def spec_GrowStages.B13 : List Nat := [0, 0, 0, 0, 0, 24, 56, 120, 248, 0, 0, 1536, 3584, 7680, 15872, 32767, 65535, 131071, 131071, 131071, 262143, 1572863, 4194303]
theorem spec_GrowStages.tab13 : rtab .any (opsOf Try.f34 13) = spec_GrowStages.T13 := by kernel_rfl
theorem spec_GrowStages.bits13 : waitsOk spec_GrowStages.T13.2 spec_GrowStages.B13 = true := by kernel_rfl
set_option maxHeartbeats 8000000 in
set_option maxRecDepth 100000 in
theorem spec_GrowStages.calls (k : Nat) (a0_0 : ByteArray) (A0_1 : Option Addr) (c0_1 : Nat) (l0_1 : List Int) (A0_2 : Option Addr) (c0_2 : Nat) (l0_2 : List Int) (a0_3 : Int) (a0_4 : Int) (A0_5 : Option Addr) (c0_5 : Nat) (l0_5 : List (List Int)) (a1 : Int) (a2 : Int) (a3 : Int) (A4 : Option Addr) (c4 : Nat) (l4 : List (List Int)) (r1 : List Int) (r2 : Int) (w : World) (hr0_1 : Kd.C (Kd.int .i64) w A0_1 l0_1.length l0_1) (hc0_1 : l0_1.length ≤ c0_1) (hr0_2 : Kd.C (Kd.int .i64) w A0_2 l0_2.length l0_2) (hc0_2 : l0_2.length ≤ c0_2) (hr0_5 : Kd.C (Kd.slice 2 (Kd.int .i64)) w A0_5 l0_5.length l0_5) (hc0_5 : l0_5.length ≤ c0_5) (hr4 : Kd.C (Kd.slice 2 (Kd.int .i64)) w A4 l4.length l4) (hc4 : l4.length ≤ c4) (h : spec_GrowStages.f k a0_0 l0_1 l0_2 a0_3 a0_4 l0_5 a1 a2 a3 l4 = some (r1, r2)) :
  Calls Try.prog 34 #[.agg #[.string a0_0, .slice A0_1 l0_1.length c0_1, .slice A0_2 l0_2.length c0_2, .int .i64 a0_3, .int .i64 a0_4, .slice A0_5 l0_5.length c0_5], .int .i64 a1, .int .i64 a2, .int .i64 a3, .slice A4 l4.length c4] w fun e w' => ∃ v0_ : Value, e = .returned (.tuple #[v0_, .int .i64 r2]) ∧ Kd.R (Kd.int .i64) 2 w' w.heap.size (fun _ => True) v0_ r1 ∧ Below w.heap.size w w' := by
 have hu29 := Try.underlying29
 have HR0_1 := Aside0.mk hr0_1
 have HC0_1 := Aside0.mk hc0_1
 clear hr0_1 hc0_1
 have HR0_2 := Aside0.mk hr0_2
 have HC0_2 := Aside0.mk hc0_2
 clear hr0_2 hc0_2
 have HR0_5 := Aside0.mk hr0_5
 have HC0_5 := Aside0.mk hc0_5
 clear hr0_5 hc0_5
 have HR4 := Aside0.mk hr4
 have HC4 := Aside0.mk hc4
 clear hr4 hc4
 have HB := Aside0.mk (Below.refl w.heap.size w)
 have H : ((spec_l05Ok.f k a0_0 l0_1 l0_2 a0_3 a0_4 l0_5).bind fun t439 => (if t439 = true then ((spec_l13Seed.f a1).bind fun t440 => (if t440 = true then ((spec_l03Pitch.f a2).bind fun t441 => (if t441 = true then ((spec_l00In.f a3 1 6).bind fun t442 => (spec_GrowStages.j0 k a1 a2 a3 l4 (!t442) a0_0 l0_1 l0_2 a0_3 a0_4 l0_5)) else (spec_GrowStages.j0 k a1 a2 a3 l4 true a0_0 l0_1 l0_2 a0_3 a0_4 l0_5))) else (spec_GrowStages.j0 k a1 a2 a3 l4 true a0_0 l0_1 l0_2 a0_3 a0_4 l0_5))) else (some (([] : List Int), 1)))) = some (r1, r2) := h
 clear h
 replace H := Option.bind_eq_some_iff.mp H
 obtain ⟨t439, A60, H⟩ := H
 replace H : (if t439 = true then ((spec_l13Seed.f a1).bind fun t440 => (if t440 = true then ((spec_l03Pitch.f a2).bind fun t441 => (if t441 = true then ((spec_l00In.f a3 1 6).bind fun t442 => (spec_GrowStages.j0 k a1 a2 a3 l4 (!t442) a0_0 l0_1 l0_2 a0_3 a0_4 l0_5)) else (spec_GrowStages.j0 k a1 a2 a3 l4 true a0_0 l0_1 l0_2 a0_3 a0_4 l0_5))) else (spec_GrowStages.j0 k a1 a2 a3 l4 true a0_0 l0_1 l0_2 a0_3 a0_4 l0_5))) else (some (([] : List Int), 1))) = some (r1, r2) := H
 have A6 := Aside0.mk A60
 clear A60
 by_cases c7 : t439 = true
 ·subst c7
  have H1 : ((spec_l13Seed.f a1).bind fun t440 => (if t440 = true then ((spec_l03Pitch.f a2).bind fun t441 => (if t441 = true then ((spec_l00In.f a3 1 6).bind fun t442 => (spec_GrowStages.j0 k a1 a2 a3 l4 (!t442) a0_0 l0_1 l0_2 a0_3 a0_4 l0_5)) else (spec_GrowStages.j0 k a1 a2 a3 l4 true a0_0 l0_1 l0_2 a0_3 a0_4 l0_5))) else (spec_GrowStages.j0 k a1 a2 a3 l4 true a0_0 l0_1 l0_2 a0_3 a0_4 l0_5))) = some (r1, r2) := by rw [if_pos rfl] at H; exact H
  clear H
  have H := H1
  clear H1
  have HC8 := Aside0.mk H
  clear H
  go_enter Try.func34, Try.ntmps34
  go_upto_region 3 with (first | ((with_reducible refine gate_dst (N := 5) rfl ?_); refine box_event ?hg (N := 5) ?hd (cs := #[.string a0_0, .slice A0_1 l0_1.length c0_1, .slice A0_2 l0_2.length c0_2, .int .i64 a0_3, .int .i64 a0_4, .slice A0_5 l0_5.length c0_5]) (t := 29) ?hr ?_; (case hd => rfl); (case hg => rfl); (case hr => first | (go_simp; done) | (go_simp; rfl)); intro gb438 hg w9 hbox hb; have n0_ := Aside0.mk (below_step (ba_ HB.out) hb); have n1_ := Aside0.mk (hbox); have n2_ := Aside0.mk ((by rw [hg]; exact (below_size (ba_ HB.out)) : w.heap.size ≤ gb438)); have n3_ := Aside0.mk ((by rw [hg]; exact (below_size (ba_ HB.out)) : w.heap.size ≤ gb438)); clear HB; have HB := n0_; have BK438 := n1_; have GW438 := n2_; have GE438 := n3_; clear n0_ n1_ n2_ n3_; clear hb hbox hg) | ((with_reducible refine gate_callee (f := 84) rfl ?_); refine goesL_ (some 17) rfl rfl Try.func84 (by kernel_rfl) rfl #[.pointer (some ⟨gb438, 0, none⟩)] rfl av_ ?_; (with_reducible refine (spec_l05Ok.calls k gb438 a0_0 A0_1 c0_1 l0_1 A0_2 c0_2 l0_2 a0_3 a0_4 A0_5 c0_5 l0_5 true _ ?side1 ?side2 ?side3 ?side4 ?side5 ?side6 ?side7 A6.out).mono ?_); (case side1 => exact bk_ BK438.out); (case side2 => exact (Kd.C_below HR0_1.out HB.out)); (case side3 => exact HC0_1.out); (case side4 => exact (Kd.C_below HR0_2.out HB.out)); (case side5 => exact HC0_2.out); (case side6 => exact (Kd.C_below HR0_5.out HB.out)); (case side7 => exact HC0_5.out); rintro e w' ⟨rfl, ⟨nd, rfl⟩⟩; refine ⟨_, rfl, ?_⟩))
  (try simp only [Act.put, List.setIfInBounds_toArray, List.set_cons_zero, List.set_cons_succ])
  go_cut [31] (fun v31 wc => ∃ (kq : Nat) (x31_7 : Bool), v31 = .bool x31_7 ∧ Aside0 (spec_GrowStages.j0 kq a1 a2 a3 l4 x31_7 a0_0 l0_1 l0_2 a0_3 a0_4 l0_5 = some (r1, r2)) ∧ Aside0 (kq ≤ k) ∧ Aside0 (wc.heap[gb438]? = some (.cells #[.string a0_0, (.slice A0_1 l0_1.length c0_1), (.slice A0_2 l0_2.length c0_2), .int .i64 a0_3, .int .i64 a0_4, (.slice A0_5 l0_5.length c0_5)] 29 (0, 0))) ∧ Aside0 (Below w.heap.size w wc))
  case first =>
   have H := HC8.out
   clear HC8
   replace H := Option.bind_eq_some_iff.mp H
   obtain ⟨t440, A100, H⟩ := H
   replace H : (if t440 = true then ((spec_l03Pitch.f a2).bind fun t441 => (if t441 = true then ((spec_l00In.f a3 1 6).bind fun t442 => (spec_GrowStages.j0 k a1 a2 a3 l4 (!t442) a0_0 l0_1 l0_2 a0_3 a0_4 l0_5)) else (spec_GrowStages.j0 k a1 a2 a3 l4 true a0_0 l0_1 l0_2 a0_3 a0_4 l0_5))) else (spec_GrowStages.j0 k a1 a2 a3 l4 true a0_0 l0_1 l0_2 a0_3 a0_4 l0_5)) = some (r1, r2) := H
   have A10 := Aside0.mk A100
   clear A100
   by_cases c11 : t440 = true
   ·subst c11
    have H1 : ((spec_l03Pitch.f a2).bind fun t441 => (if t441 = true then ((spec_l00In.f a3 1 6).bind fun t442 => (spec_GrowStages.j0 k a1 a2 a3 l4 (!t442) a0_0 l0_1 l0_2 a0_3 a0_4 l0_5)) else (spec_GrowStages.j0 k a1 a2 a3 l4 true a0_0 l0_1 l0_2 a0_3 a0_4 l0_5))) = some (r1, r2) := by rw [if_pos rfl] at H; exact H
    clear H; have H := H1; clear H1
    replace H := Option.bind_eq_some_iff.mp H
    obtain ⟨t441, A120, H⟩ := H
    replace H : (if t441 = true then ((spec_l00In.f a3 1 6).bind fun t442 => (spec_GrowStages.j0 k a1 a2 a3 l4 (!t442) a0_0 l0_1 l0_2 a0_3 a0_4 l0_5)) else (spec_GrowStages.j0 k a1 a2 a3 l4 true a0_0 l0_1 l0_2 a0_3 a0_4 l0_5)) = some (r1, r2) := H
    have A12 := Aside0.mk A120; clear A120
    by_cases c13 : t441 = true
    ·subst c13
     have H1 : ((spec_l00In.f a3 1 6).bind fun t442 => (spec_GrowStages.j0 k a1 a2 a3 l4 (!t442) a0_0 l0_1 l0_2 a0_3 a0_4 l0_5)) = some (r1, r2) := by rw [if_pos rfl] at H; exact H
     clear H; have H := H1; clear H1
     replace H := Option.bind_eq_some_iff.mp H
     obtain ⟨t442, A140, H⟩ := H
     replace H : (spec_GrowStages.j0 k a1 a2 a3 l4 (!t442) a0_0 l0_1 l0_2 a0_3 a0_4 l0_5) = some (r1, r2) := H
     have A14 := Aside0.mk A140; clear A140
     have H' := Aside0.mk H
     clear H
     go_wp2_with (first | ((with_reducible refine gate_callee (f := 85) rfl ?_); refine goesL_ (some 20) rfl rfl Try.func85 (by kernel_rfl) rfl #[.int .i64 a1] rfl av_ ?_; (with_reducible refine (spec_l13Seed.calls a1 true _ A10.out).mono ?_); rintro e w' ⟨rfl, ⟨nd, rfl⟩⟩; refine ⟨_, rfl, ?_⟩) | (go_at_call 86; (with_reducible refine (spec_l03Pitch.calls a2 true _ A12.out).mono ?_); rintro e w' ⟨rfl, ⟨nd, rfl⟩⟩) | (go_at_call 58; (with_reducible refine (spec_l00In.calls a3 1 6 t442 _ A14.out).mono ?_); rintro e w' ⟨rfl, ⟨nd, rfl⟩⟩))
     go_meet
     case rel => exact ⟨_, (!t442), sv_, H', ⟨by first | omega | exact Nat.le_refl _⟩, ⟨by (with_reducible repeat (first | refine blk_drewN ?_ _ | refine blk_drew ?_ | refine blk_alloc ?_ _)); exact BK438.out⟩, ⟨bg_ HB.out GE438.out⟩⟩
    ·replace c13 := Bool.eq_false_iff.mpr c13
     subst c13
     have H1 : (spec_GrowStages.j0 k a1 a2 a3 l4 true a0_0 l0_1 l0_2 a0_3 a0_4 l0_5) = some (r1, r2) := by rw [if_neg (show ¬ (false = true) by decide)] at H; exact H
     clear H; have H := H1; clear H1
     have H' := Aside0.mk H
     clear H
     go_wp2_with (first | ((with_reducible refine gate_callee (f := 85) rfl ?_); refine goesL_ (some 20) rfl rfl Try.func85 (by kernel_rfl) rfl #[.int .i64 a1] rfl av_ ?_; (with_reducible refine (spec_l13Seed.calls a1 true _ A10.out).mono ?_); rintro e w' ⟨rfl, ⟨nd, rfl⟩⟩; refine ⟨_, rfl, ?_⟩) | (go_at_call 86; (with_reducible refine (spec_l03Pitch.calls a2 false _ A12.out).mono ?_); rintro e w' ⟨rfl, ⟨nd, rfl⟩⟩))
     go_meet
     case rel => exact ⟨_, (true), sv_, H', ⟨by first | omega | exact Nat.le_refl _⟩, ⟨by (with_reducible repeat (first | refine blk_drewN ?_ _ | refine blk_drew ?_ | refine blk_alloc ?_ _)); exact BK438.out⟩, ⟨bg_ HB.out GE438.out⟩⟩
   ·replace c11 := Bool.eq_false_iff.mpr c11
    subst c11
    have H1 : (spec_GrowStages.j0 k a1 a2 a3 l4 true a0_0 l0_1 l0_2 a0_3 a0_4 l0_5) = some (r1, r2) := by rw [if_neg (show ¬ (false = true) by decide)] at H; exact H
    clear H; have H := H1; clear H1
    have H' := Aside0.mk H
    clear H
    go_wp2_with (first | ((with_reducible refine gate_callee (f := 85) rfl ?_); refine goesL_ (some 20) rfl rfl Try.func85 (by kernel_rfl) rfl #[.int .i64 a1] rfl av_ ?_; (with_reducible refine (spec_l13Seed.calls a1 false _ A10.out).mono ?_); rintro e w' ⟨rfl, ⟨nd, rfl⟩⟩; refine ⟨_, rfl, ?_⟩))
    go_meet
    case rel => exact ⟨_, (true), sv_, H', ⟨by first | omega | exact Nat.le_refl _⟩, ⟨by (with_reducible repeat (first | refine blk_drewN ?_ _ | refine blk_drew ?_ | refine blk_alloc ?_ _)); exact BK438.out⟩, ⟨bg_ HB.out GE438.out⟩⟩
  case rest =>
   clear HC8
   (try clear c1); (try clear p2); (try clear c3); (try clear c4); (try clear c7); (try clear c8); (try clear c11); (try clear c13)
   obtain ⟨kq, x31_7, rfl, HA, HJ7, BK438, HB⟩ := hcut
   cases kq with
   | zero => exact absurd HA.out (by simp [spec_GrowStages.j0])
   | succ kj7 =>
    have H := HA.out; clear HA
    simp only [spec_GrowStages.j0] at H
    by_cases c15 : x31_7 = true
    ·subst c15
     have H1 : (some (([] : List Int), 2)) = some (r1, r2) := by rw [if_pos rfl] at H; exact H
     clear H; have H := H1; clear H1
     simp only [Option.some.injEq, Prod.mk.injEq] at H
     obtain ⟨rfl, rfl⟩ := H
     go_wp2
     go_ret2
     exact ⟨_, by first | rfl | (simp [errW_none, errW_some] <;> rfl) | (simp [*, errW_none, errW_some] <;> rfl), by first | exact Kd.R_nil _ _ _ _ _ | exact Kd.N_nil _ _ _ _ _ | exact Kd.V_nil _ _ _ _ _ | exact Kd.Q_nil _ _ _ _ _ | exact Kd.S_nil _ _ _ _ _, bg_ HB.out GE438.out⟩
    ·replace c15 := Bool.eq_false_iff.mpr c15
     subst c15
     have H1 : ((spec_l13Wider.f kj7 l4 a2).bind fun t443 => (if t443 = true then ((spec_l03Tone.f a2).bind fun t444 => ((spec_l05Tone.f kj7 a0_0 l0_1 l0_2 a0_3 a0_4 l0_5 t444).bind fun t445 => (if t445 = true then (spec_GrowStages.l0 kj7 a1 a3 l4 (([a2] : List Int)) 0 a0_0 l0_1 l0_2 a0_3 a0_4 l0_5) else (some (([] : List Int), 3))))) else (some (([] : List Int), 7)))) = some (r1, r2) := by rw [if_neg (show ¬ (false = true) by decide)] at H; exact H
     clear H; have H := H1; clear H1
     replace H := Option.bind_eq_some_iff.mp H
     obtain ⟨t443, A160, H⟩ := H
     replace H : (if t443 = true then ((spec_l03Tone.f a2).bind fun t444 => ((spec_l05Tone.f kj7 a0_0 l0_1 l0_2 a0_3 a0_4 l0_5 t444).bind fun t445 => (if t445 = true then (spec_GrowStages.l0 kj7 a1 a3 l4 (([a2] : List Int)) 0 a0_0 l0_1 l0_2 a0_3 a0_4 l0_5) else (some (([] : List Int), 3))))) else (some (([] : List Int), 7))) = some (r1, r2) := H
     have A16 := Aside0.mk A160; clear A160
     by_cases c17 : t443 = true
     ·subst c17
      have H1 : ((spec_l03Tone.f a2).bind fun t444 => ((spec_l05Tone.f kj7 a0_0 l0_1 l0_2 a0_3 a0_4 l0_5 t444).bind fun t445 => (if t445 = true then (spec_GrowStages.l0 kj7 a1 a3 l4 (([a2] : List Int)) 0 a0_0 l0_1 l0_2 a0_3 a0_4 l0_5) else (some (([] : List Int), 3))))) = some (r1, r2) := by rw [if_pos rfl] at H; exact H
      clear H; have H := H1; clear H1
      replace H := Option.bind_eq_some_iff.mp H
      obtain ⟨t444, A180, H⟩ := H
      replace H : ((spec_l05Tone.f kj7 a0_0 l0_1 l0_2 a0_3 a0_4 l0_5 t444).bind fun t445 => (if t445 = true then (spec_GrowStages.l0 kj7 a1 a3 l4 (([a2] : List Int)) 0 a0_0 l0_1 l0_2 a0_3 a0_4 l0_5) else (some (([] : List Int), 3)))) = some (r1, r2) := H
      have A18 := Aside0.mk A180; clear A180
      replace H := Option.bind_eq_some_iff.mp H
      obtain ⟨t445, A190, H⟩ := H
      replace H : (if t445 = true then (spec_GrowStages.l0 kj7 a1 a3 l4 (([a2] : List Int)) 0 a0_0 l0_1 l0_2 a0_3 a0_4 l0_5) else (some (([] : List Int), 3))) = some (r1, r2) := H
      have A19 := Aside0.mk A190; clear A190
      by_cases c20 : t445 = true
      ·subst c20
       have H1 : (spec_GrowStages.l0 kj7 a1 a3 l4 (([a2] : List Int)) 0 a0_0 l0_1 l0_2 a0_3 a0_4 l0_5) = some (r1, r2) := by rw [if_pos rfl] at H; exact H
       clear H; have H := H1; clear H1
       obtain ⟨y446, hy446⟩ : ∃ y_ : List Int, y_ = (([a2] : List Int)) := ⟨_, rfl⟩
       replace H : (spec_GrowStages.l0 kj7 a1 a3 l4 y446 0 a0_0 l0_1 l0_2 a0_3 a0_4 l0_5) = some (r1, r2) := by first | (rw [hy446]; with_reducible exact H) | (have H2_ := (Option.bind_some _ _).symm.trans H; rw [hy446]; with_reducible exact H2_) | (have H2_ := (Option.bind_some _ _).symm.trans H; with_reducible exact H2_) | with_reducible exact H | (rw [hy446]; exact H) | exact H
       have Ny446 := Aside0.mk hy446; clear hy446
       have H' := Aside0.mk H
       clear H
       go_wp2_with (first | ((with_reducible refine gate_callee (f := 87) rfl ?_); refine goesL_ (some 34) rfl rfl Try.func87 (by kernel_rfl) rfl #[.slice A4 l4.length c4, .int .i64 a2] rfl av_ ?_; (with_reducible refine (spec_l13Wider.calls kj7 _ _ l4 a2 true _ ?side1 ?side2 A16.out).mono ?_); (case side1 => exact (Kd.C_below HR4.out HB.out)); (case side2 => exact HC4.out); rintro e w21 ⟨rfl, hb⟩; refine ⟨_, rfl, ?_⟩; have n0_ := Aside0.mk (blk_below (g := gb438) (o := .cells #[.string a0_0, .slice A0_1 l0_1.length c0_1, .slice A0_2 l0_2.length c0_2, .int .i64 a0_3, .int .i64 a0_4, .slice A0_5 l0_5.length c0_5] 29 (0, 0)) (by repeat first | exact BK438.out | refine blk_drewN ?_ _ | refine blk_drew ?_ | refine blk_alloc ?_ _) hb); have n1_ := Aside0.mk (below_step (bg_ HB.out GE438.out) hb); clear BK438; clear HB; have BK438 := n0_; have HB := n1_; clear n0_ n1_; (try clear hb); (try clear hb2); (try clear hk); (try clear hi)) | ((with_reducible refine gate_callee (f := 60) rfl ?_); refine goesL_ (some 37) rfl rfl Try.func60 (by kernel_rfl) rfl #[.int .i64 a2] rfl av_ ?_; (with_reducible refine (spec_l03Tone.calls a2 t444 _ A18.out).mono ?_); rintro e w' ⟨rfl, ⟨nd, rfl⟩⟩; refine ⟨_, rfl, ?_⟩) | ((with_reducible refine gate_callee (f := 59) rfl ?_); refine goesL_ (some 38) rfl rfl Try.func59 (by kernel_rfl) rfl #[.pointer (some ⟨gb438, 0, none⟩), .int .i64 t444] rfl av_ ?_; (with_reducible refine (spec_l05Tone.calls kj7 gb438 a0_0 A0_1 c0_1 l0_1 A0_2 c0_2 l0_2 a0_3 a0_4 A0_5 c0_5 l0_5 t444 true _ ?side1 ?side2 ?side3 ?side4 ?side5 ?side6 ?side7 A19.out).mono ?_); (case side1 => exact bk_ BK438.out); (case side2 => repeat (first | exact (Kd.C_below HR0_1.out (bg_ HB.out GE438.out)) | (with_reducible refine Kd.C_alloc ?_ _) | (with_reducible refine Kd.C_drewN ?_ _) | (with_reducible refine Kd.C_drew ?_))); (case side3 => exact HC0_1.out); (case side4 => repeat (first | exact (Kd.C_below HR0_2.out (bg_ HB.out GE438.out)) | (with_reducible refine Kd.C_alloc ?_ _) | (with_reducible refine Kd.C_drewN ?_ _) | (with_reducible refine Kd.C_drew ?_))); (case side5 => exact HC0_2.out); (case side6 => repeat (first | exact (Kd.C_below HR0_5.out (bg_ HB.out GE438.out)) | (with_reducible refine Kd.C_alloc ?_ _) | (with_reducible refine Kd.C_drewN ?_ _) | (with_reducible refine Kd.C_drew ?_))); (case side7 => exact HC0_5.out); rintro e w' ⟨rfl, ⟨nd, rfl⟩⟩; refine ⟨_, rfl, ?_⟩) | ((with_reducible refine gate_dst (N := 41) rfl ?_); refine Kd.R_lit (Kd.int .i64) _ 2 ?hg (N := 41) ?hd (xs := ([a2] : List Int)) (inner := [.int .i64 a2]) (ok := fun _ => True) (okp := fun _ => True) ?hr ?hp (fun _ hk => hk) trivial (Below.refl _ _) (Nat.le_refl _) (by simp) ?_; (case hd => rfl); (case hg => rfl); (case hr => first | (go_simp; done) | (go_simp; rfl)); (case hp => exact (Reps.one (show Kd.M (Kd.int .i64) _ _ _ a2 [.int .i64 a2] from rfl) (Reps.none _ _))); intro v447 w22 ho23 hb hg_ hnew_; clear hg_ hnew_; (first | rw [← Ny446.out] at ho23 | (simp only [Int.reduceToNat] at ho23; rw [← Ny446.out] at ho23)); have n0_ := Aside0.mk (Kd.R_lower ho23 (below_size (bg_ HB.out GE438.out))); have n1_ := Aside0.mk (blk_below (g := gb438) (o := .cells #[.string a0_0, .slice A0_1 l0_1.length c0_1, .slice A0_2 l0_2.length c0_2, .int .i64 a0_3, .int .i64 a0_4, .slice A0_5 l0_5.length c0_5] 29 (0, 0)) (by repeat first | exact BK438.out | refine blk_drewN ?_ _ | refine blk_drew ?_ | refine blk_alloc ?_ _) hb); have n2_ := Aside0.mk (below_step (bg_ HB.out GE438.out) hb); clear BK438; clear HB; have HO448 := n0_; have BK438 := n1_; have HB := n2_; clear n0_ n1_ n2_; clear hb ho23))
       go_loopg [1, 12, 13] kj7 (fun kq v1 v12 v13 w' => ∃ (x1_2 : Int) (x12_2 : List Int) (x13_2 : Int), v1 = .int .i64 x1_2 ∧ v13 = .int .i64 x13_2 ∧ Aside0 (spec_GrowStages.l0 kq x1_2 a3 l4 x12_2 x13_2 a0_0 l0_1 l0_2 a0_3 a0_4 l0_5 = some (r1, r2)) ∧ Aside0 (kq ≤ kj7) ∧ Aside0 (Kd.R (Kd.int .i64) 2 w' w.heap.size (fun _ => True) v12 x12_2) ∧ Aside0 (w'.heap[gb438]? = some (.cells #[.string a0_0, (.slice A0_1 l0_1.length c0_1), (.slice A0_2 l0_2.length c0_2), .int .i64 a0_3, .int .i64 a0_4, (.slice A0_5 l0_5.length c0_5)] 29 (0, 0))) ∧ Aside0 (Below w.heap.size w w'))
       case atStart => exact ⟨(a1), (y446), (0), sv_, sv_, H', ⟨Nat.le_refl _⟩, ⟨rr_ HO448.out⟩, ⟨by (with_reducible repeat (first | refine blk_drewN ?_ _ | refine blk_drew ?_ | refine blk_alloc ?_ _)); exact BK438.out⟩, ⟨bg_ HB.out GE438.out⟩⟩
       case round =>
        clear H'
        (try clear c1); (try clear c2); (try clear p2); (try clear c3); (try clear c4); (try clear c5); (try clear c6); (try clear c7); (try clear c8); (try clear c11); (try clear c13); (try clear c15); (try clear c17); (try clear c20); (try clear p2); obtain ⟨x1_2, x12_2, x13_2, rfl, rfl, HA, HK2, HO_12, BK438, HB⟩ := hrel
        cases gk with
        | zero => exact absurd HA.out (by simp [spec_GrowStages.l0])
        | succ k2 =>
         have H := HA.out; clear HA
         simp only [spec_GrowStages.l0] at H
         by_cases c24 : x13_2 < (l4.length : Int)
         ·rw [if_pos c24] at H
          have c24b0 : decide (x13_2 < (l4.length : Int)) = true := decide_eq_true c24
          clear c24
          by_cases c25 : 0 ≤ x13_2
          ·rw [if_pos c25] at H
           have c25b0 : decide (0 ≤ x13_2) = true := decide_eq_true c25
           clear c25
           by_cases c26 : 0 < ((rd_L1 l4 x13_2).length : Int)
           ·rw [if_pos c26] at H
            have c26b0 : decide (0 < ((rd_L1 l4 x13_2).length : Int)) = true := decide_eq_true c26
            have c26b1 : decide (0 < (rd_L1 l4 x13_2).length) = true := decide_eq_true (by omega)
            clear c26
            by_cases c27 : 1 < ((rd_L1 l4 x13_2).length : Int)
            ·rw [if_pos c27] at H
             have c27b0 : decide (1 < ((rd_L1 l4 x13_2).length : Int)) = true := decide_eq_true c27
             have c27b1 : decide (1 < (rd_L1 l4 x13_2).length) = true := decide_eq_true (by omega)
             clear c27
             replace H := Option.bind_eq_some_iff.mp H
             obtain ⟨⟨t453, t456, t457⟩, A280, H⟩ := H
             replace H : (if t457 = true then (spec_GrowStages.l0 k2 t456 a3 l4 t453 (wrap64 (x13_2 + 1)) a0_0 l0_1 l0_2 a0_3 a0_4 l0_5) else (some (([] : List Int), 3))) = some (r1, r2) := H
             have A28 := Aside0.mk A280; clear A280
             by_cases c29 : t457 = true
             ·subst c29
              have H1 : (spec_GrowStages.l0 k2 t456 a3 l4 t453 (wrap64 (x13_2 + 1)) a0_0 l0_1 l0_2 a0_3 a0_4 l0_5) = some (r1, r2) := by rw [if_pos rfl] at H; exact H
              clear H; have H := H1; clear H1
              have H' := Aside0.mk H
              clear H
              try go_wp2
              have n0_ := Aside0.mk (Kd.R_drew HO_12.out)
              have n1_ := Aside0.mk (blk_drew BK438.out)
              have n2_ := Aside0.mk (below_drew1 HB.out)
              clear HO_12; clear BK438; clear HB; have HO_12 := n0_; have BK438 := n1_; have HB := n2_; clear n0_ n1_ n2_
              have p449 : 0 ≤ (x13_2 : Int) := da_
              have q449 : x13_2 < (l4.length : Int) := da_
              obtain ⟨ad449, A449_0, c449_0, e449, hx449_0, hl449_0, hi449_0⟩ := at_L1 HR4.out x13_2 p449 q449; have hw449_0 := hx449_0; cases e449
              replace hx449_0 := (wc_ HB.out hx449_0 :)
              have HR449_0 := Aside0.mk hi449_0; have HC449_0 := Aside0.mk hl449_0; clear hi449_0 hl449_0; replace p449 := eq_true p449; replace q449 := eq_true q449
              have p450 : 0 ≤ (0 : Int) := (by omega)
              have q450 : 0 < ((rd_L1 l4 x13_2).length : Int) := da_
              obtain ⟨ad450, e450, hx450_0⟩ := Kd.at_int HR449_0.out 0 p450 q450; have hw450_0 := hx450_0; (try rw [show ((0 : Int)).toNat = 0 from rfl] at hw450_0); (try rw [show 0 * 1 = 0 from rfl] at hw450_0); (try rw [Addr.add_zero'] at hw450_0); cases e450
              have qi450 : (0 < (rd_L1 l4 x13_2).length) = True := eq_true (by omega)
              (try rw [show ((0 : Int)).toNat = 0 from rfl] at hx450_0); (try rw [Addr.add_zero'] at hx450_0)
              replace hx450_0 := (wc_ HB.out hx450_0 :)
              replace p450 := eq_true p450; replace q450 := eq_true q450
              have p451 : 0 ≤ (x13_2 : Int) := da_
              have q451 : x13_2 < (l4.length : Int) := da_
              obtain ⟨ad451, A451_0, c451_0, e451, hx451_0, hl451_0, hi451_0⟩ := at_L1 HR4.out x13_2 p451 q451; have hw451_0 := hx451_0; obtain rfl : ad449 = ad451 := (by injection e451)
              replace hx451_0 := (wc_ HB.out hx451_0 :)
              have HR451_0 := Aside0.mk hi451_0; have HC451_0 := Aside0.mk hl451_0; clear hi451_0 hl451_0; replace p451 := eq_true p451; replace q451 := eq_true q451
              have ea_ := Option.some.inj (hx449_0.symm.trans hx451_0)
              injection ea_ with ea_ en_ ec_
              subst ea_; subst ec_; clear en_
              have p452 : 0 ≤ (1 : Int) := (by omega)
              have q452 : 1 < ((rd_L1 l4 x13_2).length : Int) := da_
              obtain ⟨ad452, e452, hx452_0⟩ := Kd.at_int HR451_0.out 1 p452 q452; have hw452_0 := hx452_0; (try rw [show ((1 : Int)).toNat = 1 from rfl] at hw452_0); (try rw [show 1 * 1 = 1 from rfl] at hw452_0); (try simp only [Nat.reduceMul, Nat.reduceEqDiff, Go.Addr.add, ↓reduceIte] at hw452_0); cases e452; (try simp only [show (1 : Int).toNat = 1 from rfl, Nat.reduceMul, Nat.reduceEqDiff, Go.Addr.add, ↓reduceIte] at hx452_0)
              have qi452 : (1 < (rd_L1 l4 x13_2).length) = True := eq_true (by omega)
              (try rw [show ((1 : Int)).toNat = 1 from rfl] at hx452_0)
              replace hx452_0 := (wc_ HB.out hx452_0 :)
              replace p452 := eq_true p452; replace q452 := eq_true q452; obtain ⟨Ao31, co31, eo31⟩ := Kd.R_slice HO_12.out
              (first | subst eo31 | (injection eo31 with f1_ f2_ f3_; have f4_ := f1_.symm; have f5_ := f3_.symm; clear f1_ f2_ f3_; subst f4_; subst f5_))
              refine start_ (n := 23) (S := fun w' => w'.cell? (ad449.add (x13_2).toNat) = some (.slice (some ad450) (rd_L1 l4 x13_2).length c449_0) ∧ w'.cell? ad450 = some (.int .i64 (rd (rd_L1 l4 x13_2) 0)) ∧ w'.cell? (ad449.add (x13_2).toNat) = some (.slice (some ad450) (rd_L1 l4 x13_2).length c449_0) ∧ w'.cell? ⟨ad450.block, ad450.off + 1, none⟩ = some (.int .i64 (rd (rd_L1 l4 x13_2) 1))) (ds := []) spec_GrowStages.K0 (by kernel_rfl) rfl rfl ⟨(wc_ HB.out hw449_0 :), (wc_ HB.out hw450_0 :), (wc_ HB.out hw451_0 :), (wc_ HB.out hw452_0 :)⟩ (fun hHeld => ?_); refine with_tabW spec_GrowStages.tab13 spec_GrowStages.bits13 (fun HT_ HW_ => ?_)
              generalize wr.drew = w30 at HO_12 BK438 HB HR449_0 HR451_0 hx449_0 hx450_0 hx451_0 hx452_0 hHeld ⊢
              refine pu_ HT_ 0 49 spec_GrowStages.K1 ?_; refine pu_ HT_ 1 50 spec_GrowStages.K2 ?_; refine pu_ HT_ 2 51 spec_GrowStages.K3 ?_; refine pu_ HT_ 3 52 spec_GrowStages.K4 ?_; refine pu_ HT_ 4 53 spec_GrowStages.K5 ?_; refine pu_ HT_ 5 54 spec_GrowStages.K6 ?_; refine pu_ HT_ 9 58 spec_GrowStages.K7 ?_; refine pu_ HT_ 10 59 spec_GrowStages.K8 ?_; refine pu_ HT_ 11 60 spec_GrowStages.K9 ?_; refine tk_ HT_ HW_ hHeld 6 55 spec_GrowStages.K10 ?_; refine pu_ HT_ 7 56 spec_GrowStages.K11 ?_; refine tk_ HT_ HW_ hHeld 8 57 spec_GrowStages.K12 ?_; refine tk_ HT_ HW_ hHeld 12 61 spec_GrowStages.K13 ?_; refine pu_ HT_ 13 62 spec_GrowStages.K14 ?_; refine tk_ HT_ HW_ hHeld 14 63 spec_GrowStages.K15 ?_
              refine one_ (i := 15) (N := some 64) spec_GrowStages.K16 rfl rfl (one_of HT_.out (by kernel_rfl)) (by decide) (fun K hK => ?_)
              refine goes_ Try.func61 (by kernel_rfl) rfl #[.pointer (some ⟨gb438, 0, none⟩), .int .i64 x1_2, .slice Ao31 x12_2.length co31, .int .i64 a3, .int .i64 (rd (rd_L1 l4 x13_2) 0), .int .i64 (rd (rd_L1 l4 x13_2) 1)] (by rfl) rfl rfl av_ ?_
              with_reducible refine (spec_l13Grow.calls k2 gb438 a0_0 A0_1 c0_1 l0_1 A0_2 c0_2 l0_2 a0_3 a0_4 A0_5 c0_5 l0_5 x1_2 (fun k_ => some k_ = (.slice Ao31 x12_2.length co31 : Value).ownBlock) (.slice Ao31 x12_2.length co31) x12_2 a3 (rd (rd_L1 l4 x13_2) 0) (rd (rd_L1 l4 x13_2) 1) t453 t456 true w _ ?side1 ?side2 ?side3 ?side4 ?side5 ?side6 ?side7 ?side8 ?side9 A28.out).mono ?_
              (case side1 => exact bg_ HB.out GE438.out)
              (case side2 => exact bk_ BK438.out)
              (case side3 => exact Kd.C_kept_came (Kd.heap_int .i64) HR0_1.out (bg_ HB.out GE438.out) (fun k_ hs_ => (fun e_ => Kd.R_base HO_12.out k_ e_.symm) hs_))
              (case side4 => exact HC0_1.out)
              (case side5 => exact Kd.C_kept_came (Kd.heap_int .i64) HR0_2.out (bg_ HB.out GE438.out) (fun k_ hs_ => (fun e_ => Kd.R_base HO_12.out k_ e_.symm) hs_))
              (case side6 => exact HC0_2.out)
              (case side7 => exact Kd.C_kept_came (Kd.heap_slice 2 (Kd.heap_int .i64)) HR0_5.out (bg_ HB.out GE438.out) (fun k_ hs_ => (fun e_ => Kd.R_base HO_12.out k_ e_.symm) hs_))
              (case side8 => exact HC0_5.out)
              (case side9 => exact Kd.R_tight rfl HO_12.out)
              rintro e w32 ⟨v454, rfl, ho0, hb, hkp⟩
              refine ⟨_, rfl, ?_⟩
              have n0_ := Aside0.mk (blk_kept (by repeat first | exact BK438.out | refine blk_drewN ?_ _ | refine blk_drew ?_ | refine blk_alloc ?_ _) hkp (fun hs_ => (fun e_ => (Kd.R_ne HO_12.out BK438.out (by decide)) e_) hs_))
              have n1_ := Aside0.mk (Kd.R_mono (ok' := fun k_ => True) ho0 (fun k_ hk_ => trivial))
              have n2_ := Aside0.mk (hb); clear BK438; clear HB; clear HO_12; have BK438 := n0_; have HO455 := n1_; have HB := n2_; clear n0_ n1_ n2_; (try clear hb); (try clear hkp); (try clear ho0)
              refine hK.out _ _ ⟨(wc_ HB.out hw449_0 :), (wc_ HB.out hw450_0 :), (wc_ HB.out hw451_0 :), (wc_ HB.out hw452_0 :)⟩ (fun hHeld => ?_)
              clear hK K; refine norm_ (a' := ?_) ?_ ?_; rotate_left
              ·show Act.put _ (some 64) _ = _
               go_simp
               rfl
              refine pu_ HT_ 16 48 spec_GrowStages.K17 ?_; refine pu_ HT_ 17 65 spec_GrowStages.K18 ?_; refine pu_ HT_ 18 66 spec_GrowStages.K19 ?_; refine pu_ HT_ 19 67 spec_GrowStages.K20 ?_; refine pu_ HT_ 20 14 spec_GrowStages.K21 ?_; refine pu_ HT_ 21 15 spec_GrowStages.K22 ?_; refine pu_ HT_ 22 16 spec_GrowStages.K23 ?_
              refine done_ (done_of HT_.out (by kernel_rfl)) ?_
              try go_wp2
              go_roundg k2
              case measure => have := HJ7.out; have := HK2.out; omega
              case rel => exact ⟨(t456), (t453), (wrap64 (x13_2 + 1)), sv_, sv_, H', ⟨by have := HJ7.out; have := HK2.out; omega⟩, ⟨rr_ HO455.out⟩, ⟨by (with_reducible repeat (first | refine blk_drewN ?_ _ | refine blk_drew ?_ | refine blk_alloc ?_ _)); exact BK438.out⟩, ⟨bg_ HB.out GE438.out⟩⟩
             ·replace c29 := Bool.eq_false_iff.mpr c29
              subst c29
              have H1 : (some (([] : List Int), 3)) = some (r1, r2) := by rw [if_neg (show ¬ (false = true) by decide)] at H; exact H
              clear H; have H := H1; clear H1
              simp only [Option.some.injEq, Prod.mk.injEq] at H
              obtain ⟨rfl, rfl⟩ := H
              try go_wp2
              have n0_ := Aside0.mk (Kd.R_drew HO_12.out)
              have n1_ := Aside0.mk (blk_drew BK438.out)
              have n2_ := Aside0.mk (below_drew1 HB.out)
              clear HO_12; clear BK438; clear HB; have HO_12 := n0_; have BK438 := n1_; have HB := n2_; clear n0_ n1_ n2_
              have p449 : 0 ≤ (x13_2 : Int) := da_
              have q449 : x13_2 < (l4.length : Int) := da_
              obtain ⟨ad449, A449_0, c449_0, e449, hx449_0, hl449_0, hi449_0⟩ := at_L1 HR4.out x13_2 p449 q449; have hw449_0 := hx449_0; cases e449
              replace hx449_0 := (wc_ HB.out hx449_0 :)
              have HR449_0 := Aside0.mk hi449_0; have HC449_0 := Aside0.mk hl449_0; clear hi449_0 hl449_0; replace p449 := eq_true p449; replace q449 := eq_true q449
              have p450 : 0 ≤ (0 : Int) := (by omega)
              have q450 : 0 < ((rd_L1 l4 x13_2).length : Int) := da_
              obtain ⟨ad450, e450, hx450_0⟩ := Kd.at_int HR449_0.out 0 p450 q450; have hw450_0 := hx450_0; (try rw [show ((0 : Int)).toNat = 0 from rfl] at hw450_0); (try rw [show 0 * 1 = 0 from rfl] at hw450_0); (try rw [Addr.add_zero'] at hw450_0); cases e450
              have qi450 : (0 < (rd_L1 l4 x13_2).length) = True := eq_true (by omega)
              (try rw [show ((0 : Int)).toNat = 0 from rfl] at hx450_0); (try rw [Addr.add_zero'] at hx450_0)
              replace hx450_0 := (wc_ HB.out hx450_0 :)
              replace p450 := eq_true p450; replace q450 := eq_true q450
              have p451 : 0 ≤ (x13_2 : Int) := da_
              have q451 : x13_2 < (l4.length : Int) := da_
              obtain ⟨ad451, A451_0, c451_0, e451, hx451_0, hl451_0, hi451_0⟩ := at_L1 HR4.out x13_2 p451 q451; have hw451_0 := hx451_0; obtain rfl : ad449 = ad451 := (by injection e451)
              replace hx451_0 := (wc_ HB.out hx451_0 :)
              have HR451_0 := Aside0.mk hi451_0; have HC451_0 := Aside0.mk hl451_0; clear hi451_0 hl451_0; replace p451 := eq_true p451; replace q451 := eq_true q451
              have ea_ := Option.some.inj (hx449_0.symm.trans hx451_0)
              injection ea_ with ea_ en_ ec_
              subst ea_; subst ec_; clear en_
              have p452 : 0 ≤ (1 : Int) := (by omega)
              have q452 : 1 < ((rd_L1 l4 x13_2).length : Int) := da_
              obtain ⟨ad452, e452, hx452_0⟩ := Kd.at_int HR451_0.out 1 p452 q452; have hw452_0 := hx452_0; (try rw [show ((1 : Int)).toNat = 1 from rfl] at hw452_0); (try rw [show 1 * 1 = 1 from rfl] at hw452_0); (try simp only [Nat.reduceMul, Nat.reduceEqDiff, Go.Addr.add, ↓reduceIte] at hw452_0); cases e452; (try simp only [show (1 : Int).toNat = 1 from rfl, Nat.reduceMul, Nat.reduceEqDiff, Go.Addr.add, ↓reduceIte] at hx452_0)
              have qi452 : (1 < (rd_L1 l4 x13_2).length) = True := eq_true (by omega)
              (try rw [show ((1 : Int)).toNat = 1 from rfl] at hx452_0)
              replace hx452_0 := (wc_ HB.out hx452_0 :)
              replace p452 := eq_true p452; replace q452 := eq_true q452; obtain ⟨Ao34, co34, eo34⟩ := Kd.R_slice HO_12.out
              (first | subst eo34 | (injection eo34 with f1_ f2_ f3_; have f4_ := f1_.symm; have f5_ := f3_.symm; clear f1_ f2_ f3_; subst f4_; subst f5_))
              refine start_ (n := 23) (S := fun w' => w'.cell? (ad449.add (x13_2).toNat) = some (.slice (some ad450) (rd_L1 l4 x13_2).length c449_0) ∧ w'.cell? ad450 = some (.int .i64 (rd (rd_L1 l4 x13_2) 0)) ∧ w'.cell? (ad449.add (x13_2).toNat) = some (.slice (some ad450) (rd_L1 l4 x13_2).length c449_0) ∧ w'.cell? ⟨ad450.block, ad450.off + 1, none⟩ = some (.int .i64 (rd (rd_L1 l4 x13_2) 1))) (ds := []) spec_GrowStages.K0 (by kernel_rfl) rfl rfl ⟨(wc_ HB.out hw449_0 :), (wc_ HB.out hw450_0 :), (wc_ HB.out hw451_0 :), (wc_ HB.out hw452_0 :)⟩ (fun hHeld => ?_); refine with_tabW spec_GrowStages.tab13 spec_GrowStages.bits13 (fun HT_ HW_ => ?_)
              generalize wr.drew = w33 at HO_12 BK438 HB HR449_0 HR451_0 hx449_0 hx450_0 hx451_0 hx452_0 hHeld ⊢
              refine pu_ HT_ 0 49 spec_GrowStages.K1 ?_; refine pu_ HT_ 1 50 spec_GrowStages.K2 ?_; refine pu_ HT_ 2 51 spec_GrowStages.K3 ?_; refine pu_ HT_ 3 52 spec_GrowStages.K4 ?_; refine pu_ HT_ 4 53 spec_GrowStages.K5 ?_; refine pu_ HT_ 5 54 spec_GrowStages.K6 ?_; refine pu_ HT_ 9 58 spec_GrowStages.K7 ?_; refine pu_ HT_ 10 59 spec_GrowStages.K8 ?_; refine pu_ HT_ 11 60 spec_GrowStages.K9 ?_; refine tk_ HT_ HW_ hHeld 6 55 spec_GrowStages.K10 ?_; refine pu_ HT_ 7 56 spec_GrowStages.K11 ?_; refine tk_ HT_ HW_ hHeld 8 57 spec_GrowStages.K12 ?_; refine tk_ HT_ HW_ hHeld 12 61 spec_GrowStages.K13 ?_; refine pu_ HT_ 13 62 spec_GrowStages.K14 ?_; refine tk_ HT_ HW_ hHeld 14 63 spec_GrowStages.K15 ?_
              refine one_ (i := 15) (N := some 64) spec_GrowStages.K16 rfl rfl (one_of HT_.out (by kernel_rfl)) (by decide) (fun K hK => ?_)
              refine goes_ Try.func61 (by kernel_rfl) rfl #[.pointer (some ⟨gb438, 0, none⟩), .int .i64 x1_2, .slice Ao34 x12_2.length co34, .int .i64 a3, .int .i64 (rd (rd_L1 l4 x13_2) 0), .int .i64 (rd (rd_L1 l4 x13_2) 1)] (by rfl) rfl rfl av_ ?_
              with_reducible refine (spec_l13Grow.calls k2 gb438 a0_0 A0_1 c0_1 l0_1 A0_2 c0_2 l0_2 a0_3 a0_4 A0_5 c0_5 l0_5 x1_2 (fun k_ => some k_ = (.slice Ao34 x12_2.length co34 : Value).ownBlock) (.slice Ao34 x12_2.length co34) x12_2 a3 (rd (rd_L1 l4 x13_2) 0) (rd (rd_L1 l4 x13_2) 1) t453 t456 false w _ ?side1 ?side2 ?side3 ?side4 ?side5 ?side6 ?side7 ?side8 ?side9 A28.out).mono ?_
              (case side1 => exact bg_ HB.out GE438.out)
              (case side2 => exact bk_ BK438.out)
              (case side3 => exact Kd.C_kept_came (Kd.heap_int .i64) HR0_1.out (bg_ HB.out GE438.out) (fun k_ hs_ => (fun e_ => Kd.R_base HO_12.out k_ e_.symm) hs_))
              (case side4 => exact HC0_1.out)
              (case side5 => exact Kd.C_kept_came (Kd.heap_int .i64) HR0_2.out (bg_ HB.out GE438.out) (fun k_ hs_ => (fun e_ => Kd.R_base HO_12.out k_ e_.symm) hs_))
              (case side6 => exact HC0_2.out)
              (case side7 => exact Kd.C_kept_came (Kd.heap_slice 2 (Kd.heap_int .i64)) HR0_5.out (bg_ HB.out GE438.out) (fun k_ hs_ => (fun e_ => Kd.R_base HO_12.out k_ e_.symm) hs_))
              (case side8 => exact HC0_5.out)
              (case side9 => exact Kd.R_tight rfl HO_12.out)
              rintro e w35 ⟨v454, rfl, ho0, hb, hkp⟩
              refine ⟨_, rfl, ?_⟩
              have n0_ := Aside0.mk (blk_kept (by repeat first | exact BK438.out | refine blk_drewN ?_ _ | refine blk_drew ?_ | refine blk_alloc ?_ _) hkp (fun hs_ => (fun e_ => (Kd.R_ne HO_12.out BK438.out (by decide)) e_) hs_))
              have n1_ := Aside0.mk (Kd.R_mono (ok' := fun k_ => True) ho0 (fun k_ hk_ => trivial))
              have n2_ := Aside0.mk (hb); clear BK438; clear HB; clear HO_12; have BK438 := n0_; have HO455 := n1_; have HB := n2_; clear n0_ n1_ n2_; (try clear hb); (try clear hkp); (try clear ho0)
              refine hK.out _ _ ⟨(wc_ HB.out hw449_0 :), (wc_ HB.out hw450_0 :), (wc_ HB.out hw451_0 :), (wc_ HB.out hw452_0 :)⟩ (fun hHeld => ?_)
              clear hK K; refine norm_ (a' := ?_) ?_ ?_; rotate_left
              ·show Act.put _ (some 64) _ = _
               go_simp
               rfl
              refine pu_ HT_ 16 48 spec_GrowStages.K17 ?_; refine pu_ HT_ 17 65 spec_GrowStages.K18 ?_; refine pu_ HT_ 18 66 spec_GrowStages.K19 ?_; refine pu_ HT_ 19 67 spec_GrowStages.K20 ?_; refine pu_ HT_ 20 14 spec_GrowStages.K21 ?_; refine pu_ HT_ 21 15 spec_GrowStages.K22 ?_; refine pu_ HT_ 22 16 spec_GrowStages.K23 ?_
              refine done_ (done_of HT_.out (by kernel_rfl)) ?_
              try go_wp2
              go_ret2
              exact ⟨_, by first | rfl | (simp [errW_none, errW_some] <;> rfl) | (simp [*, errW_none, errW_some] <;> rfl), by first | exact Kd.R_nil _ _ _ _ _ | exact Kd.N_nil _ _ _ _ _ | exact Kd.V_nil _ _ _ _ _ | exact Kd.Q_nil _ _ _ _ _ | exact Kd.S_nil _ _ _ _ _, bg_ HB.out GE438.out⟩
            ·rw [if_neg c27] at H
             exact absurd H (by simp)
           ·rw [if_neg c26] at H
            exact absurd H (by simp)
          ·rw [if_neg c25] at H
           exact absurd H (by simp)
         ·rw [if_neg c24] at H
          have c24b0 : decide (x13_2 < (l4.length : Int)) = false := decide_eq_false c24
          clear c24
          simp only [Option.some.injEq, Prod.mk.injEq] at H
          obtain ⟨rfl, rfl⟩ := H
          go_wp2
          go_ret2
          exact ⟨_, by first | rfl | (simp [errW_none, errW_some] <;> rfl) | (simp [*, errW_none, errW_some] <;> rfl), rr_ HO_12.out, bg_ HB.out GE438.out⟩
      ·replace c20 := Bool.eq_false_iff.mpr c20
       subst c20
       have H1 : (some (([] : List Int), 3)) = some (r1, r2) := by rw [if_neg (show ¬ (false = true) by decide)] at H; exact H
       clear H; have H := H1; clear H1
       simp only [Option.some.injEq, Prod.mk.injEq] at H
       obtain ⟨rfl, rfl⟩ := H
       go_wp2_with (first | ((with_reducible refine gate_callee (f := 87) rfl ?_); refine goesL_ (some 34) rfl rfl Try.func87 (by kernel_rfl) rfl #[.slice A4 l4.length c4, .int .i64 a2] rfl av_ ?_; (with_reducible refine (spec_l13Wider.calls kj7 _ _ l4 a2 true _ ?side1 ?side2 A16.out).mono ?_); (case side1 => exact (Kd.C_below HR4.out HB.out)); (case side2 => exact HC4.out); rintro e w36 ⟨rfl, hb⟩; refine ⟨_, rfl, ?_⟩; have n0_ := Aside0.mk (blk_below (g := gb438) (o := .cells #[.string a0_0, .slice A0_1 l0_1.length c0_1, .slice A0_2 l0_2.length c0_2, .int .i64 a0_3, .int .i64 a0_4, .slice A0_5 l0_5.length c0_5] 29 (0, 0)) (by repeat first | exact BK438.out | refine blk_drewN ?_ _ | refine blk_drew ?_ | refine blk_alloc ?_ _) hb); have n1_ := Aside0.mk (below_step (bg_ HB.out GE438.out) hb); clear BK438; clear HB; have BK438 := n0_; have HB := n1_; clear n0_ n1_; (try clear hb); (try clear hb2); (try clear hk); (try clear hi)) | ((with_reducible refine gate_callee (f := 60) rfl ?_); refine goesL_ (some 37) rfl rfl Try.func60 (by kernel_rfl) rfl #[.int .i64 a2] rfl av_ ?_; (with_reducible refine (spec_l03Tone.calls a2 t444 _ A18.out).mono ?_); rintro e w' ⟨rfl, ⟨nd, rfl⟩⟩; refine ⟨_, rfl, ?_⟩) | ((with_reducible refine gate_callee (f := 59) rfl ?_); refine goesL_ (some 38) rfl rfl Try.func59 (by kernel_rfl) rfl #[.pointer (some ⟨gb438, 0, none⟩), .int .i64 t444] rfl av_ ?_; (with_reducible refine (spec_l05Tone.calls kj7 gb438 a0_0 A0_1 c0_1 l0_1 A0_2 c0_2 l0_2 a0_3 a0_4 A0_5 c0_5 l0_5 t444 false _ ?side1 ?side2 ?side3 ?side4 ?side5 ?side6 ?side7 A19.out).mono ?_); (case side1 => exact bk_ BK438.out); (case side2 => repeat (first | exact (Kd.C_below HR0_1.out (bg_ HB.out GE438.out)) | (with_reducible refine Kd.C_alloc ?_ _) | (with_reducible refine Kd.C_drewN ?_ _) | (with_reducible refine Kd.C_drew ?_))); (case side3 => exact HC0_1.out); (case side4 => repeat (first | exact (Kd.C_below HR0_2.out (bg_ HB.out GE438.out)) | (with_reducible refine Kd.C_alloc ?_ _) | (with_reducible refine Kd.C_drewN ?_ _) | (with_reducible refine Kd.C_drew ?_))); (case side5 => exact HC0_2.out); (case side6 => repeat (first | exact (Kd.C_below HR0_5.out (bg_ HB.out GE438.out)) | (with_reducible refine Kd.C_alloc ?_ _) | (with_reducible refine Kd.C_drewN ?_ _) | (with_reducible refine Kd.C_drew ?_))); (case side7 => exact HC0_5.out); rintro e w' ⟨rfl, ⟨nd, rfl⟩⟩; refine ⟨_, rfl, ?_⟩))
       go_ret2
       exact ⟨_, by first | rfl | (simp [errW_none, errW_some] <;> rfl) | (simp [*, errW_none, errW_some] <;> rfl), by first | exact Kd.R_nil _ _ _ _ _ | exact Kd.N_nil _ _ _ _ _ | exact Kd.V_nil _ _ _ _ _ | exact Kd.Q_nil _ _ _ _ _ | exact Kd.S_nil _ _ _ _ _, bg_ HB.out GE438.out⟩
     ·replace c17 := Bool.eq_false_iff.mpr c17
      subst c17
      have H1 : (some (([] : List Int), 7)) = some (r1, r2) := by rw [if_neg (show ¬ (false = true) by decide)] at H; exact H
      clear H; have H := H1; clear H1
      simp only [Option.some.injEq, Prod.mk.injEq] at H
      obtain ⟨rfl, rfl⟩ := H
      go_wp2_with (first | ((with_reducible refine gate_callee (f := 87) rfl ?_); refine goesL_ (some 34) rfl rfl Try.func87 (by kernel_rfl) rfl #[.slice A4 l4.length c4, .int .i64 a2] rfl av_ ?_; (with_reducible refine (spec_l13Wider.calls kj7 _ _ l4 a2 false _ ?side1 ?side2 A16.out).mono ?_); (case side1 => exact (Kd.C_below HR4.out HB.out)); (case side2 => exact HC4.out); rintro e w37 ⟨rfl, hb⟩; refine ⟨_, rfl, ?_⟩; have n0_ := Aside0.mk (blk_below (g := gb438) (o := .cells #[.string a0_0, .slice A0_1 l0_1.length c0_1, .slice A0_2 l0_2.length c0_2, .int .i64 a0_3, .int .i64 a0_4, .slice A0_5 l0_5.length c0_5] 29 (0, 0)) (by repeat first | exact BK438.out | refine blk_drewN ?_ _ | refine blk_drew ?_ | refine blk_alloc ?_ _) hb); have n1_ := Aside0.mk (below_step (bg_ HB.out GE438.out) hb); clear BK438; clear HB; have BK438 := n0_; have HB := n1_; clear n0_ n1_; (try clear hb); (try clear hb2); (try clear hk); (try clear hi)))
      go_ret2
      exact ⟨_, by first | rfl | (simp [errW_none, errW_some] <;> rfl) | (simp [*, errW_none, errW_some] <;> rfl), by first | exact Kd.R_nil _ _ _ _ _ | exact Kd.N_nil _ _ _ _ _ | exact Kd.V_nil _ _ _ _ _ | exact Kd.Q_nil _ _ _ _ _ | exact Kd.S_nil _ _ _ _ _, bg_ HB.out GE438.out⟩
 ·replace c7 := Bool.eq_false_iff.mpr c7
  subst c7
  have H1 : (some (([] : List Int), 1)) = some (r1, r2) := by rw [if_neg (show ¬ (false = true) by decide)] at H; exact H
  clear H
  have H := H1
  clear H1
  simp only [Option.some.injEq, Prod.mk.injEq] at H
  obtain ⟨rfl, rfl⟩ := H
  go_enter Try.func34, Try.ntmps34
  go_wp2_with (first | ((with_reducible refine gate_dst (N := 5) rfl ?_); refine box_event ?hg (N := 5) ?hd (cs := #[.string a0_0, .slice A0_1 l0_1.length c0_1, .slice A0_2 l0_2.length c0_2, .int .i64 a0_3, .int .i64 a0_4, .slice A0_5 l0_5.length c0_5]) (t := 29) ?hr ?_; (case hd => rfl); (case hg => rfl); (case hr => first | (go_simp; done) | (go_simp; rfl)); intro gb438 hg w38 hbox hb; have n0_ := Aside0.mk (below_step (ba_ HB.out) hb); have n1_ := Aside0.mk (hbox); have n2_ := Aside0.mk ((by rw [hg]; exact (below_size (ba_ HB.out)) : w.heap.size ≤ gb438)); have n3_ := Aside0.mk ((by rw [hg]; exact (below_size (ba_ HB.out)) : w.heap.size ≤ gb438)); clear HB; have HB := n0_; have BK438 := n1_; have GW438 := n2_; have GE438 := n3_; clear n0_ n1_ n2_ n3_; clear hb hbox hg) | ((with_reducible refine gate_callee (f := 84) rfl ?_); refine goesL_ (some 17) rfl rfl Try.func84 (by kernel_rfl) rfl #[.pointer (some ⟨gb438, 0, none⟩)] rfl av_ ?_; (with_reducible refine (spec_l05Ok.calls k gb438 a0_0 A0_1 c0_1 l0_1 A0_2 c0_2 l0_2 a0_3 a0_4 A0_5 c0_5 l0_5 false _ ?side1 ?side2 ?side3 ?side4 ?side5 ?side6 ?side7 A6.out).mono ?_); (case side1 => exact bk_ BK438.out); (case side2 => exact (Kd.C_below HR0_1.out HB.out)); (case side3 => exact HC0_1.out); (case side4 => exact (Kd.C_below HR0_2.out HB.out)); (case side5 => exact HC0_2.out); (case side6 => exact (Kd.C_below HR0_5.out HB.out)); (case side7 => exact HC0_5.out); rintro e w' ⟨rfl, ⟨nd, rfl⟩⟩; refine ⟨_, rfl, ?_⟩))
  go_ret2
  exact ⟨_, by first | rfl | (simp [errW_none, errW_some] <;> rfl) | (simp [*, errW_none, errW_some] <;> rfl), by first | exact Kd.R_nil _ _ _ _ _ | exact Kd.N_nil _ _ _ _ _ | exact Kd.V_nil _ _ _ _ _ | exact Kd.Q_nil _ _ _ _ _ | exact Kd.S_nil _ _ _ _ _, bg_ HB.out GE438.out⟩
end Go.Proofs.Ytinlejhffokbaaa.P
end

section
/- How the arguments of this seat's laws read, as the kinds of the printed words: an argument that the row reads has the cells of its kind, and its numbers, texts and lengths are in bounds. No condition. -/
namespace Go.Proofs.Ytinlejhffokbaaa.P
open Go.RowKit Go.ChangeShapes Go.WideShapes Go.Proofs.YtinlejhffokbaaaW.PrintWords Go.Proofs.YtinlejhffokbaaaW.PrintLast
set_option linter.unusedVariables false

section
variable {H : Type} {enc : TypeId × Value → H} {P : Program} {w : World} {held : Bool}

theorem list_choose {α : Type} (p : Nat → α → Prop) : ∀ n, (∀ i, i < n → ∃ y, p i y) → ∃ ys : List α, ys.length = n ∧ ∀ (i : Nat) (y : α), ys[i]? = some y → p i y := by
  intro n
  induction n with
  | zero => exact fun _ => ⟨[], rfl, fun i y h => by simp at h⟩
  | succ n ih =>
    intro h
    obtain ⟨ys, hl, hp⟩ := ih (fun i hi => h i (by omega))
    obtain ⟨z, hz⟩ := h n (by omega)
    refine ⟨ys ++ [z], by simp [hl], fun i y hy => ?_⟩
    rcases Nat.lt_or_ge i ys.length with hi | hi
    · rw [List.getElem?_append_left hi] at hy
      exact hp i y hy
    · rw [List.getElem?_append_right hi] at hy
      have h0 : i - ys.length = 0 := by
        rcases Nat.eq_zero_or_pos (i - ys.length) with h1 | h1
        · exact h1
        · rw [List.getElem?_eq_none (by simp; omega)] at hy
          cases hy
      rw [h0] at hy
      simp only [List.getElem?_cons_zero, Option.some.injEq] at hy
      subst hy
      have : i = n := by omega
      subst this
      exact hz

theorem len_cons {n : Nat} {cs : List Value} (h : cs.length = n + 1) : ∃ c t, cs = c :: t ∧ t.length = n := by
  cases cs with
  | nil => simp at h
  | cons c t => exact ⟨c, t, rfl, by simpa using h⟩

theorem opn_int {t : TypeId} {k : IntKind} (ht : P.underlying t = some (.int k)) {fuel : Nat} {cs : List Value} {x : DataW H × List MemPlace} (h : DataW.trod enc P w 0 (fun _ => true) held fuel t cs = some x) :
    ∃ y : Int, (Kd.int k).K w y cs ∧ (Lit.int k y).wf = true := by
  obtain ⟨n, hcs, _, hw⟩ := DataW.trod_int ht h
  exact ⟨n, hcs, hw⟩

theorem opn_bool {t : TypeId} (ht : P.underlying t = some .bool) {fuel : Nat} {cs : List Value} {x : DataW H × List MemPlace} (h : DataW.trod enc P w 0 (fun _ => true) held fuel t cs = some x) :
    ∃ y : Bool, Kd.bool.K w y cs ∧ True := by
  obtain ⟨b, hcs, _⟩ := DataW.trod_bool ht h
  exact ⟨b, hcs, trivial⟩

theorem opn_string {t : TypeId} (ht : P.underlying t = some .string) {fuel : Nat} {cs : List Value} {x : DataW H × List MemPlace} (h : DataW.trod enc P w 0 (fun _ => true) held fuel t cs = some x) :
    ∃ y : ByteArray, Kd.string.K w y cs ∧ y.size ≤ maxLen := by
  obtain ⟨s, hcs, _, hs⟩ := DataW.trod_string ht h
  exact ⟨s, hcs, hs⟩

theorem opn_slice {α : Type} (d : Kd α) (ok : α → Prop) {t e : TypeId} (ht : P.underlying t = some (.slice e)) (ce : P.cellsOf e = d.sz)
    (hE : ∀ {fuel : Nat} {cs : List Value} {x : DataW H × List MemPlace}, DataW.trod enc P w 0 (fun _ => true) held fuel e cs = some x → ∃ y : α, d.K w y cs ∧ ok y)
    {fuel : Nat} {cs : List Value} {x : DataW H × List MemPlace} (h : DataW.trod enc P w 0 (fun _ => true) held fuel t cs = some x) :
    ∃ ys : List α, (Kd.slice e d).K w ys cs ∧ ys.length ≤ maxLen ∧ ∀ y ∈ ys, ok y := by
  rcases Go.Deep.open_slice ht h with ⟨rfl, _⟩ | ⟨a, len, cap, m, n, D, Pl, rfl, hb, hl, hm, hmm, rfl, hx⟩
  · exact ⟨[], ⟨none, 0, rfl, Nat.le_refl _, rfl, by simp, fun h => absurd h (Nat.lt_irrefl 0)⟩, Nat.zero_le _, by simp⟩
  · simp only [if_true] at hmm
    subst hmm
    obtain ⟨ys, hyl, hy⟩ := list_choose (fun i (y : α) => (∃ cs', w.cells? 0 (a.add (i * P.cellsOf e)) (P.cellsOf e) = some cs' ∧ d.K w y cs') ∧ ok y) len (fun i hi => by
      obtain ⟨cs', h1, h2⟩ := hx i (by omega)
      obtain ⟨y, hk, ho⟩ := hE h2
      exact ⟨y, ⟨cs', h1, hk⟩, ho⟩)
    subst hyl
    refine ⟨ys, ⟨some a, m, rfl, hl, rfl, Nat.le_trans hl (by unfold maxLen at hm; exact hm), fun _ => ⟨a, rfl, fun j p hp => ?_⟩⟩, Nat.le_trans hl hm, fun y hmem => ?_⟩
    · obtain ⟨⟨cs', h1, hk⟩, _⟩ := hy j p hp
      obtain ⟨_, hlen, hcell⟩ := World.cells?_some h1
      rw [ce] at hlen hcell
      refine ⟨cs', hlen, hk, fun i u hu => ?_⟩
      have hi : i < d.sz := by
        rw [← hlen]
        exact (List.getElem?_eq_some_iff.1 hu).1
      have := hcell i hi
      rw [Go.Deep.add_add] at this
      rw [this, hu]
    · obtain ⟨i, hi⟩ := List.getElem?_of_mem hmem
      exact (hy i y hi).2
end
theorem opn_L22 {H : Type} {enc : TypeId × Value → H} {w : World} {held : Bool} {fuel : Nat} {cs : List Value} {x : DataW H × List MemPlace} (h : DataW.trod enc Try.prog w 0 (fun _ => true) held fuel 22 cs = some x) :
    ∃ y : List Int, (Kd.slice 2 (Kd.int .i64)).K w y cs ∧ y.length ≤ maxLen ∧ ∀ y0 ∈ y, (Lit.int .i64 y0).wf = true :=
  opn_slice (Kd.int .i64) (fun y0 => (Lit.int .i64 y0).wf = true) Try.underlying22 (show Try.prog.cellsOf 2 = _ by kernel_rfl) (fun h => (opn_int Try.underlying2) h) h
theorem opn_L23 {H : Type} {enc : TypeId × Value → H} {w : World} {held : Bool} {fuel : Nat} {cs : List Value} {x : DataW H × List MemPlace} (h : DataW.trod enc Try.prog w 0 (fun _ => true) held fuel 23 cs = some x) :
    ∃ y : List (List Int), (Kd.slice 22 (Kd.slice 2 (Kd.int .i64))).K w y cs ∧ y.length ≤ maxLen ∧ ∀ y0 ∈ y, (y0.length ≤ maxLen ∧ ∀ y1 ∈ y0, (Lit.int .i64 y1).wf = true) :=
  opn_slice (Kd.slice 2 (Kd.int .i64)) (fun y0 => (y0.length ≤ maxLen ∧ ∀ y1 ∈ y0, (Lit.int .i64 y1).wf = true)) Try.underlying23 (show Try.prog.cellsOf 22 = _ by kernel_rfl) (fun h => opn_L22 h) h
theorem opn_S25 {H : Type} {enc : TypeId × Value → H} {w : World} {held : Bool} {fuel : Nat} {cs : List Value} {x : DataW H × List MemPlace} (h : DataW.trod enc Try.prog w 0 (fun _ => true) held fuel 25 cs = some x) :
    ∃ y : S25, k25.K w y cs ∧ y.f0.size ≤ maxLen ∧ (y.f1.length ≤ maxLen ∧ ∀ y0 ∈ y.f1, (Lit.int .i64 y0).wf = true) ∧ (y.f2.length ≤ maxLen ∧ ∀ y0 ∈ y.f2, (Lit.int .i64 y0).wf = true) ∧ (Lit.int .i64 y.f3).wf = true ∧ (Lit.int .i64 y.f4).wf = true ∧ (y.f5.length ≤ maxLen ∧ ∀ y0 ∈ y.f5, (y0.length ≤ maxLen ∧ ∀ y1 ∈ y0, (Lit.int .i64 y1).wf = true)) := by
  obtain ⟨xs, n, _, _, hl, hlen, hf⟩ := DataW.trod_struct Try.underlying25 h
  rw [show Try.prog.cellsOf 25 = 6 from by kernel_rfl] at hl
  obtain ⟨c0, t0, rfl, hl0⟩ := len_cons hl
  obtain ⟨c1, t1, rfl, hl1⟩ := len_cons hl0
  obtain ⟨c2, t2, rfl, hl2⟩ := len_cons hl1
  obtain ⟨c3, t3, rfl, hl3⟩ := len_cons hl2
  obtain ⟨c4, t4, rfl, hl4⟩ := len_cons hl3
  obtain ⟨c5, t5, rfl, hl5⟩ := len_cons hl4
  obtain rfl := List.eq_nil_of_length_eq_zero hl5
  have h0 := hf 0 _ rfl
  rw [List.getElem?_eq_getElem (show 0 < xs.length by rw [hlen]; decide)] at h0
  obtain ⟨y0, k0, w0⟩ := (opn_string Try.underlying9) (show DataW.trod enc Try.prog w 0 (fun _ => true) held n 9 [c0] = some _ from by simpa [show Try.prog.cellsOf 9 = 1 from by kernel_rfl] using h0)
  have h1 := hf 1 _ rfl
  rw [List.getElem?_eq_getElem (show 1 < xs.length by rw [hlen]; decide)] at h1
  obtain ⟨y1, k1, w1⟩ := opn_L22 (show DataW.trod enc Try.prog w 0 (fun _ => true) held n 22 [c1] = some _ from by simpa [show Try.prog.cellsOf 22 = 1 from by kernel_rfl] using h1)
  have h2 := hf 2 _ rfl
  rw [List.getElem?_eq_getElem (show 2 < xs.length by rw [hlen]; decide)] at h2
  obtain ⟨y2, k2, w2⟩ := opn_L22 (show DataW.trod enc Try.prog w 0 (fun _ => true) held n 22 [c2] = some _ from by simpa [show Try.prog.cellsOf 22 = 1 from by kernel_rfl] using h2)
  have h3 := hf 3 _ rfl
  rw [List.getElem?_eq_getElem (show 3 < xs.length by rw [hlen]; decide)] at h3
  obtain ⟨y3, k3, w3⟩ := (opn_int Try.underlying2) (show DataW.trod enc Try.prog w 0 (fun _ => true) held n 2 [c3] = some _ from by simpa [show Try.prog.cellsOf 2 = 1 from by kernel_rfl] using h3)
  have h4 := hf 4 _ rfl
  rw [List.getElem?_eq_getElem (show 4 < xs.length by rw [hlen]; decide)] at h4
  obtain ⟨y4, k4, w4⟩ := (opn_int Try.underlying2) (show DataW.trod enc Try.prog w 0 (fun _ => true) held n 2 [c4] = some _ from by simpa [show Try.prog.cellsOf 2 = 1 from by kernel_rfl] using h4)
  have h5 := hf 5 _ rfl
  rw [List.getElem?_eq_getElem (show 5 < xs.length by rw [hlen]; decide)] at h5
  obtain ⟨y5, k5, w5⟩ := opn_L23 (show DataW.trod enc Try.prog w 0 (fun _ => true) held n 23 [c5] = some _ from by simpa [show Try.prog.cellsOf 23 = 1 from by kernel_rfl] using h5)
  exact ⟨⟨y0, y1, y2, y3, y4, y5⟩, ⟨[c0], [c1, c2, c3, c4, c5], rfl, k0, ⟨[c1], [c2, c3, c4, c5], rfl, k1, ⟨[c2], [c3, c4, c5], rfl, k2, ⟨[c3], [c4, c5], rfl, k3, ⟨[c4], [c5], rfl, k4, k5⟩⟩⟩⟩⟩, w0, w1, w2, w3, w4, w5⟩
end Go.Proofs.Ytinlejhffokbaaa.P
end

section
namespace Go.Proofs.Ytinlejhffokbaaa.P
open Go.RowKit Go.Proofs.Ytinlejhffokbaaa.P Go.Proofs.YtinlejhffokbaaaW.PrintWords Go.Proofs.YtinlejhffokbaaaW.PrintLast Go.Proofs.YtinlejhffokbaaaW.PrintMore
set_option linter.unusedVariables false
set_option linter.unusedSimpArgs false
theorem Ev.succ {α : Type} {g : Nat → Option α} {r : α} (h : Ev (fun k => g (k + 1)) r) : Ev g r := Ev.step (f := fun k => g (k + 1)) (fun _ => rfl) h
theorem Ev.ite_pos {α : Type} {c : Prop} [Decidable c] {f g : Nat → Option α} {r : α} (hc : c) (h : Ev f r) : Ev (fun k => if c then f k else g k) r := Ev.congr (fun _ => if_pos hc) h
theorem Ev.ite_neg {α : Type} {c : Prop} [Decidable c] {f g : Nat → Option α} {r : α} (hc : ¬ c) (h : Ev g r) : Ev (fun k => if c then f k else g k) r := Ev.congr (fun _ => if_neg hc) h
theorem Ev.bindc {α β : Type} {o : Option α} {f : Nat → α → Option β} {a : α} {r : β} (ho : o = some a) (h : Ev (fun k => f k a) r) : Ev (fun k => o.bind (f k)) r := Ev.congr (fun _ => by rw [ho]; rfl) h
theorem Ev.konst {α : Type} {o : Option α} {r : α} (h : o = some r) : Ev (fun _ => o) r := ⟨0, fun _ _ => h⟩
theorem Ev.both {α : Type} {g : Nat → Option α} {r q : α} (h : Ev g r) (h' : Ev g q) : r = q := by
  obtain ⟨a, ha⟩ := h
  obtain ⟨b, hb⟩ := h'
  have h1 := ha (max a b) (Nat.le_max_left _ _)
  have h2 := hb (max a b) (Nat.le_max_right _ _)
  rw [h1] at h2
  exact Option.some.inj h2
theorem Ev.cast {α : Type} {g : Nat → Option α} {r q : α} (h : Ev g r) (e : r = q) : Ev g q := e ▸ h
theorem Ev.out {α : Type} {g : Nat → Option α} {r : α} (h : Ev g r) : ∃ k, g k = some r := h.rounds

/-- A sum, a difference that needs no wrap. -/
theorem w64 {x : Int} (h0 : -9223372036854775808 ≤ x) (h1 : x ≤ 9223372036854775807) : wrap64 x = x := by unfold wrap64; omega
theorem mn_eq (a b : Int) : mn a b = min a b := by unfold mn; split <;> omega
theorem mx_eq (a b : Int) : mx a b = max a b := by unfold mx; split <;> omega
theorem wf64 {x : Int} (h : (Lit.int .i64 x).wf = true) : -9223372036854775808 ≤ x ∧ x ≤ 9223372036854775807 := by
  simp [Lit.wf, IntKind.min, IntKind.max, IntKind.signed, IntKind.bits] at h
  omega
theorem set_at {l : List Int} {i : Nat} {v : Int} {m : List Int} (h : i < l.length) (e : l.take i = m) : (l.set i v).take (i + 1) = m ++ [v] := by
  rw [List.take_succ_eq_append_getElem (by simpa using h)]
  simp [List.take_set_of_le, e]
theorem rd_at {l : List Int} {i : Nat} (h : i < l.length) : rd l (i : Int) = l[i] := by simp [rd, h]

theorem toInt64S_l0 (l : List Int) (hl : l.length ≤ 9223372036854775807) : ∀ (d i : Nat) (m : List Int), l.length - i = d → i ≤ l.length → m.length = l.length → m.take i = l.take i → Ev (fun k => laws_toInt64S.l0 k l m i) l := by
  intro d
  induction d with
  | zero =>
    intro i m hd hi hm ht
    have : i = l.length := by omega
    subst this
    refine Ev.succ ?_
    simp only [laws_toInt64S.l0]
    refine Ev.ite_neg (by omega) ?_
    rw [List.take_of_length_le (by omega), List.take_of_length_le (Nat.le_refl _)] at ht
    rw [ht]
    exact Ev.now _
  | succ d ih =>
    intro i m hd hi hm ht
    refine Ev.succ ?_
    simp only [laws_toInt64S.l0]
    refine Ev.ite_pos (by omega) ?_
    refine Ev.ite_pos (by omega) ?_
    refine Ev.ite_pos (by omega) ?_
    rw [w64 (x := (i : Int) + 1) (by omega) (by omega), rd_at (show i < l.length by omega), Int.toNat_natCast]
    have := ih (i + 1) (m.set i l[i]) (by omega) (by omega) (by simpa using hm) (by
      rw [set_at (by omega) ht, ← List.take_succ_eq_append_getElem (by omega)])
    simpa using this
theorem toInt64S_ev (l : List Int) (h : l.length ≤ 35184372088832) : Ev (fun k => laws_toInt64S.f k l) l := by
  unfold laws_toInt64S.f
  refine Ev.ite_pos (by omega) ?_
  refine Ev.ite_pos (by omega) ?_
  exact toInt64S_l0 l (by omega) l.length 0 _ (by omega) (by omega) (by simp) (by simp)

theorem eqInt64S_l0 (a b : List Int) (hl : a.length ≤ 9223372036854775807) (hab : a.length = b.length) : ∀ (d i : Nat), a.length - i = d → i ≤ a.length → a.take i = b.take i → Ev (fun k => laws_eqInt64S.l0 k a b i) (decide (a = b)) := by
  intro d
  induction d with
  | zero =>
    intro i hd hi ht
    refine Ev.succ ?_
    simp only [laws_eqInt64S.l0]
    refine Ev.ite_neg (by omega) ?_
    rw [List.take_of_length_le (by omega), List.take_of_length_le (by omega)] at ht
    simpa [ht] using Ev.now true
  | succ d ih =>
    intro i hd hi ht
    refine Ev.succ ?_
    simp only [laws_eqInt64S.l0]
    refine Ev.ite_pos (by omega) ?_
    refine Ev.ite_pos (by omega) ?_
    refine Ev.ite_pos (by omega) ?_
    by_cases he : rd a i = rd b i
    · refine Ev.ite_pos he ?_
      rw [w64 (x := (i : Int) + 1) (by omega) (by omega)]
      rw [rd_at (show i < a.length by omega), rd_at (show i < b.length by omega)] at he
      have := ih (i + 1) (by omega) (by omega) (by
        rw [List.take_succ_eq_append_getElem (by omega), List.take_succ_eq_append_getElem (by omega), ht, he])
      simpa using this
    · refine Ev.ite_neg he ?_
      have : ¬ a = b := fun e => he (by rw [e])
      simpa [this] using Ev.now false
theorem eqInt64S_ev (a b : List Int) (hl : a.length ≤ 9223372036854775807) : Ev (fun k => laws_eqInt64S.f k a b) (decide (a = b)) := by
  unfold laws_eqInt64S.f
  by_cases h : a.length = b.length
  · refine Ev.ite_pos (by omega) ?_
    exact eqInt64S_l0 a b hl h a.length 0 (by omega) (by omega) (by simp)
  · refine Ev.ite_neg (by omega) ?_
    have : ¬ a = b := fun e => h (by rw [e])
    simpa [this] using Ev.now false
theorem eqInt64S_self (a : List Int) (hl : a.length ≤ 9223372036854775807) : Ev (fun k => laws_eqInt64S.f k a a) true := by simpa using eqInt64S_ev a a hl

/-- The marks from v on: n of them. -/
def marks : Nat → Int → List Int
  | 0, _ => []
  | n + 1, v => v :: marks n (v + 1)
theorem marks_length : ∀ n v, (marks n v).length = n
  | 0, _ => rfl
  | n + 1, v => by simp [marks, marks_length n]
theorem marks_get : ∀ n v i, i < n → (marks n v)[i]? = some (v + i)
  | 0, _, i, h => by omega
  | n + 1, v, 0, _ => by simp [marks]
  | n + 1, v, i + 1, h => by
    simp only [marks, List.getElem?_cons_succ]
    rw [marks_get n (v + 1) i (by omega)]
    congr 1
    omega
theorem markInt64S_l0 (n : Nat) (v : Int) (hn : n ≤ 4611686018427387904) (h0 : 0 ≤ v) (hv : v ≤ 4611686018427387903) : ∀ (d i : Nat) (l : List Int), n - i = d → i ≤ n → l.length = n → (∀ j, j < i → l[j]? = some (v + j)) →
    Ev (fun k => laws_markInt64S.l0 k l (v + i) i) (v + n, marks n v) := by
  intro d
  induction d with
  | zero =>
    intro i l hd hi hl hj
    have : i = n := by omega
    subst this
    refine Ev.succ ?_
    simp only [laws_markInt64S.l0]
    refine Ev.ite_neg (by omega) ?_
    have : l = marks i v := by
      refine List.ext_getElem? fun j => ?_
      rcases Nat.lt_or_ge j i with h | h
      · rw [hj j h, marks_get i v j h]
      · rw [List.getElem?_eq_none (by omega), List.getElem?_eq_none (by rw [marks_length]; omega)]
    rw [this]
    exact Ev.now _
  | succ d ih =>
    intro i l hd hi hl hj
    refine Ev.succ ?_
    simp only [laws_markInt64S.l0]
    refine Ev.ite_pos (by omega) ?_
    refine Ev.ite_pos (by omega) ?_
    rw [w64 (x := (i : Int) + 1) (by omega) (by omega), w64 (x := v + (i : Int) + 1) (by omega) (by omega), Int.toNat_natCast]
    have := ih (i + 1) (l.set i (v + i)) (by omega) (by omega) (by simpa using hl) (fun j hj' => by
      rcases Nat.lt_or_ge j i with h | h
      · rw [List.getElem?_set_ne (by omega), hj j h]
      · have : j = i := by omega
        subst this
        rw [List.getElem?_set_self (by omega)])
    simpa [Int.add_assoc] using this
theorem markInt64S_ev (l : List Int) (v : Int) (hn : l.length ≤ 4611686018427387904) (h0 : 0 ≤ v) (hv : v ≤ 4611686018427387903) : Ev (fun k => laws_markInt64S.f k l v) (v + l.length, marks l.length v) := by
  unfold laws_markInt64S.f
  have := markInt64S_l0 l.length v hn h0 hv l.length 0 l (by omega) (by omega) rfl (fun j hj => by omega)
  simpa using this
theorem heldInt64S_l0 (n : Nat) (v : Int) (hn : n ≤ 4611686018427387904) (h0 : 0 ≤ v) (hv : v ≤ 4611686018427387903) : ∀ (d i : Nat), n - i = d → i ≤ n →
    Ev (fun k => laws_heldInt64S.l0 k (marks n v) (v + i) i) (v + n) := by
  intro d
  induction d with
  | zero =>
    intro i hd hi
    have : i = n := by omega
    subst this
    refine Ev.succ ?_
    simp only [laws_heldInt64S.l0]
    refine Ev.ite_neg (by rw [marks_length]; omega) ?_
    exact Ev.now _
  | succ d ih =>
    intro i hd hi
    refine Ev.succ ?_
    simp only [laws_heldInt64S.l0]
    refine Ev.ite_pos (by rw [marks_length]; omega) ?_
    refine Ev.ite_pos (by omega) ?_
    refine Ev.ite_pos (by
      have h := marks_get n v i (by omega)
      simp only [rd, Int.toNat_natCast, List.getD_eq_getElem?_getD, h, Option.getD_some]) ?_
    rw [w64 (x := (i : Int) + 1) (by omega) (by omega), w64 (x := v + (i : Int) + 1) (by omega) (by omega)]
    have := ih (i + 1) (by omega) (by omega)
    simpa [Int.add_assoc] using this
theorem heldInt64S_ev (n : Nat) (v : Int) (hn : n ≤ 4611686018427387904) (h0 : 0 ≤ v) (hv : v ≤ 4611686018427387903) : Ev (fun k => laws_heldInt64S.f k (marks n v) v) (v + n) := by
  unfold laws_heldInt64S.f
  have := heldInt64S_l0 n v hn h0 hv n 0 (by omega) (by omega)
  simpa using this
theorem Ev.and {α : Type} {g : Nat → Option α} {r : α} {P : Nat → Prop} (h : Ev g r) (h' : ∃ K, ∀ k, K ≤ k → P k) : ∃ K, ∀ k, K ≤ k → (g k = some r ∧ P k) := by
  obtain ⟨a, ha⟩ := h
  obtain ⟨b, hb⟩ := h'
  exact ⟨max a b, fun k hk => ⟨ha k (Nat.le_trans (Nat.le_max_left _ _) hk), hb k (Nat.le_trans (Nat.le_max_right _ _) hk)⟩⟩
def inP (n : Int) : Bool := decide (-12 ≤ n) && decide (n ≤ 23)
theorem impl_within_eq (n a b : Int) : impl_within.f n a b = some (decide (a ≤ n) && decide (n ≤ b)) := by
  unfold impl_within.f
  by_cases h : n ≥ a
  · have : a ≤ n := h
    simp [this]
  · have : ¬ a ≤ n := h
    simp [this]
theorem impl_pitchOk_eq (n : Int) : impl_pitchOk.f n = some (inP n) := by
  unfold impl_pitchOk.f
  rw [impl_within_eq]
  rfl
theorem impl_abs_eq (a : Int) (h0 : -9223372036854775807 ≤ a) (h1 : a ≤ 9223372036854775807) : impl_abs.f a = some (max a (-a)) := by
  unfold impl_abs.f
  rw [w64 (x := -a) (by omega) (by omega), mx_eq]
def idxM (s : List Int) (t : Int) : Nat → Nat → Int
  | 0, _ => -1
  | d + 1, i => if rd s i = t then (i : Int) else idxM s t d (i + 1)
theorem idxM_bound (s : List Int) (t : Int) : ∀ d i, -1 ≤ idxM s t d i ∧ idxM s t d i ≤ ((i + d : Nat) : Int) := by
  intro d
  induction d with
  | zero => intro i; simp only [idxM]; omega
  | succ d ih =>
    intro i
    have := ih (i + 1)
    simp only [idxM]
    split <;> omega
theorem slices_Index_l0 (s : List Int) (t : Int) (hl : s.length ≤ 1048576) : ∀ (d i : Nat), s.length - i = d → Ev (fun k => slices_Index_int64_int64.l0 k s t (s.length : Int) i) (idxM s t d i) := by
  intro d
  induction d with
  | zero =>
    intro i hd
    refine Ev.succ ?_
    simp only [slices_Index_int64_int64.l0]
    exact Ev.ite_neg (by omega) (Ev.now _)
  | succ d ih =>
    intro i hd
    refine Ev.succ ?_
    simp only [slices_Index_int64_int64.l0]
    rw [w64 (x := (i : Int) + 1) (by omega) (by omega)]
    refine Ev.ite_pos (by omega) (Ev.ite_pos (by omega) (Ev.ite_pos (by omega) ?_))
    simp only [idxM]
    by_cases h : rd s i = t
    · rw [if_pos h]
      exact Ev.ite_pos h.symm (Ev.now _)
    · rw [if_neg h]
      exact Ev.ite_neg (fun e => h e.symm) (by simpa using ih (i + 1) (by omega))
def hasM (l : List Int) (v : Int) : Bool := l.any fun n => decide (n = v)
theorem idxM_has (s : List Int) (t : Int) : ∀ d i, s.length - i = d → decide (idxM s t d i ≥ 0) = hasM (s.drop i) t := by
  intro d
  induction d with
  | zero =>
    intro i hd
    rw [List.drop_of_length_le (by omega)]
    simp [idxM, hasM]
  | succ d ih =>
    intro i hd
    have hi : i < s.length := by omega
    by_cases h : rd s i = t
    · have e : idxM s t (d + 1) i = (i : Int) := by
        simp only [idxM]
        rw [if_pos h]
      rw [e, List.drop_eq_getElem_cons hi, ← rd_at hi, decide_eq_true (show (i : Int) ≥ 0 by omega)]
      simp [hasM, h]
    · have e : idxM s t (d + 1) i = idxM s t d (i + 1) := by
        simp only [idxM]
        rw [if_neg h]
      rw [e, ih (i + 1) (by omega), List.drop_eq_getElem_cons hi, ← rd_at hi]
      simp [hasM, h]
theorem slices_Contains_ev (s : List Int) (t : Int) (hl : s.length ≤ 1048576) : Ev (fun k => slices_Contains_int64_int64.f k s t) (hasM s t) := by
  unfold slices_Contains_int64_int64.f
  refine Ev.bind (a := idxM s t s.length 0) ?_ ?_
  · unfold slices_Index_int64_int64.f
    simpa using slices_Index_l0 s t hl s.length 0 (by omega)
  · refine Ev.cast (Ev.now _) ?_
    simpa using idxM_has s t s.length 0 (by omega)
def smallB (b : Int) : Bool := decide (97 ≤ b) && decide (b ≤ 122)
def digitB (b : Int) : Bool := decide (48 ≤ b) && decide (b ≤ 57)
def nameB (s : ByteArray) : Bool := decide (1 ≤ s.size) && decide (s.size ≤ 10) && smallB (bt s 0) && (List.range' 0 s.size).all fun j => smallB (bt s j) || digitB (bt s j)
theorem toList_nil (s : ByteArray) : s.toList = [] ↔ s.size = 0 := by
  rw [ByteArray.toList_eq, List.eq_nil_iff_length_eq_zero]
  exact Iff.rfl
theorem spec_l01Small_eq (b : Int) : spec_l01Small.f b = some (smallB b) := by
  unfold spec_l01Small.f smallB
  by_cases h : b ≥ 97
  · have : 97 ≤ b := h
    simp [this]
  · have : ¬ 97 ≤ b := h
    simp [this]
theorem spec_l01Digit_eq (b : Int) : spec_l01Digit.f b = some (digitB b) := by
  unfold spec_l01Digit.f digitB
  by_cases h : b ≥ 48
  · have : 48 ≤ b := h
    simp [this]
  · have : ¬ 48 ≤ b := h
    simp [this]
def bytesB (s : ByteArray) (i d : Nat) : Bool := (List.range' i d).all fun j => smallB (bt s j) || digitB (bt s j)
theorem bytesB_succ (s : ByteArray) (i d : Nat) : bytesB s i (d + 1) = ((smallB (bt s i) || digitB (bt s i)) && bytesB s (i + 1) d) := by
  simp [bytesB, List.range'_succ]
theorem spec_l01Name_l0 (s : ByteArray) (hs : s.size ≤ 10) : ∀ (d i : Nat), s.size - i = d → Ev (fun k => spec_l01Name.l0 k s i) (bytesB s i d) := by
  intro d
  induction d with
  | zero =>
    intro i hd
    refine Ev.succ ?_
    simp only [spec_l01Name.l0]
    refine Ev.ite_neg (by omega) ?_
    exact Ev.now _
  | succ d ih =>
    intro i hd
    refine Ev.succ ?_
    simp only [spec_l01Name.l0]
    refine Ev.ite_pos (by omega) ?_
    refine Ev.ite_pos (by omega) ?_
    refine Ev.bindc (spec_l01Small_eq _) ?_
    have ih' : Ev (fun k => spec_l01Name.l0 k s ((i : Int) + 1)) (bytesB s (i + 1) d) := by simpa using ih (i + 1) (by omega)
    rw [w64 (x := (i : Int) + 1) (by omega) (by omega), bytesB_succ]
    cases h : smallB (bt s i) with
    | true =>
      refine Ev.ite_pos rfl ?_
      simpa using ih'
    | false =>
      refine Ev.ite_neg (by decide) ?_
      refine Ev.bindc (spec_l01Digit_eq _) ?_
      cases h' : digitB (bt s i) with
      | true =>
        refine Ev.ite_pos rfl ?_
        simpa using ih'
      | false =>
        refine Ev.ite_neg (by decide) ?_
        simpa using Ev.now false
theorem spec_l01Name_ev (s : ByteArray) : Ev (fun k => spec_l01Name.f k s) (nameB s) := by
  unfold spec_l01Name.f nameB
  have hno : Ev (fun k => spec_l01Name.j0 k s true) false := by
    refine Ev.succ ?_
    simp only [spec_l01Name.j0]
    exact Ev.ite_pos (by simp) (Ev.now _)
  by_cases h0 : s.size = 0
  · refine Ev.ite_pos ((toList_nil s).2 h0) ?_
    exact Ev.cast hno (by simp [h0])
  refine Ev.ite_neg (fun h => h0 ((toList_nil s).1 h)) ?_
  by_cases h1 : s.size ≤ 10
  · refine Ev.ite_neg (by omega) ?_
    refine Ev.ite_pos (by omega) ?_
    refine Ev.bindc (spec_l01Small_eq _) ?_
    cases h : smallB (bt s 0) with
    | true =>
      refine Ev.succ ?_
      simp only [spec_l01Name.j0]
      refine Ev.ite_neg (by simp) ?_
      have := spec_l01Name_l0 s h1 s.size 0 (by omega)
      refine Ev.cast (by simpa using this) ?_
      have h2 : 1 ≤ s.size := by omega
      simp [bytesB, h1, h2]
    | false => exact Ev.cast hno (by simp)
  · refine Ev.ite_pos (by omega) ?_
    exact Ev.cast hno (by simp; omega)
theorem impl_onlyNameBytes_l0 (s : ByteArray) (hs : s.size ≤ 10) : ∀ (d i : Nat), s.size - i = d → Ev (fun k => impl_onlyNameBytes.l0 k s (s.size : Int) i) (bytesB s i d) := by
  intro d
  induction d with
  | zero =>
    intro i hd
    refine Ev.succ ?_
    simp only [impl_onlyNameBytes.l0]
    refine Ev.ite_neg (by omega) ?_
    exact Ev.now _
  | succ d ih =>
    intro i hd
    refine Ev.succ ?_
    simp only [impl_onlyNameBytes.l0]
    refine Ev.ite_pos (by omega) ?_
    refine Ev.ite_pos (by omega) ?_
    refine Ev.ite_pos (by omega) ?_
    have ih' : Ev (fun k => impl_onlyNameBytes.l0 k s (s.size : Int) ((i : Int) + 1)) (bytesB s (i + 1) d) := by simpa using ih (i + 1) (by omega)
    rw [w64 (x := (i : Int) + 1) (by omega) (by omega), bytesB_succ]
    have key : Ev (fun k => if bt s i < 48 then some false else if bt s i > 57 then some false else impl_onlyNameBytes.l0 k s (s.size : Int) ((i : Int) + 1)) (digitB (bt s i) && bytesB s (i + 1) d) := by
      by_cases a : bt s i < 48
      · refine Ev.ite_pos a ?_
        refine Ev.cast (Ev.now false) ?_
        have : ¬ 48 ≤ bt s i := by omega
        simp [digitB, this]
      refine Ev.ite_neg a ?_
      by_cases b : bt s i > 57
      · refine Ev.ite_pos b ?_
        refine Ev.cast (Ev.now false) ?_
        have : ¬ bt s i ≤ 57 := by omega
        simp [digitB, this]
      refine Ev.ite_neg b ?_
      refine Ev.cast ih' ?_
      have h1 : 48 ≤ bt s i := by omega
      have h2 : bt s i ≤ 57 := by omega
      simp [digitB, h1, h2]
    by_cases a : bt s i < 97
    · refine Ev.ite_pos a ?_
      refine Ev.cast key ?_
      have : ¬ 97 ≤ bt s i := by omega
      simp [smallB, this]
    refine Ev.ite_neg a ?_
    by_cases b : bt s i > 122
    · refine Ev.ite_pos b ?_
      refine Ev.cast key ?_
      have : ¬ bt s i ≤ 122 := by omega
      simp [smallB, this]
    refine Ev.ite_neg b ?_
    refine Ev.cast ih' ?_
    have h1 : 97 ≤ bt s i := by omega
    have h2 : bt s i ≤ 122 := by omega
    simp [smallB, h1, h2]
theorem impl_IsName_ev (s : ByteArray) : Ev (fun k => impl_IsName.f k s) (nameB s) := by
  unfold impl_IsName.f nameB
  by_cases h0 : s.size = 0
  · refine Ev.ite_pos (by omega) ?_
    exact Ev.cast (Ev.now false) (by simp [h0])
  refine Ev.ite_neg (by omega) ?_
  by_cases h1 : s.size ≤ 10
  · refine Ev.ite_neg (by omega) ?_
    refine Ev.ite_pos (by omega) ?_
    by_cases a : bt s 0 < 97
    · refine Ev.ite_pos a ?_
      refine Ev.cast (Ev.now false) ?_
      have : ¬ 97 ≤ bt s 0 := by omega
      simp [smallB, this]
    refine Ev.ite_neg a ?_
    by_cases b : bt s 0 > 122
    · refine Ev.ite_pos b ?_
      refine Ev.cast (Ev.now false) ?_
      have : ¬ bt s 0 ≤ 122 := by omega
      simp [smallB, this]
    refine Ev.ite_neg b ?_
    refine Ev.bind (a := bytesB s 0 s.size) ?_ ?_
    · unfold impl_onlyNameBytes.f
      simpa using impl_onlyNameBytes_l0 s h1 s.size 0 (by omega)
    · refine Ev.cast (Ev.now _) ?_
      have h2 : 1 ≤ s.size := by omega
      have h3 : 97 ≤ bt s 0 := by omega
      have h4 : bt s 0 ≤ 122 := by omega
      simp [bytesB, h1, h2, smallB, h3, h4]
  · refine Ev.ite_pos (by omega) ?_
    exact Ev.cast (Ev.now false) (by simp; omega)
def incB (l : List Int) (i d : Nat) : Bool := (List.range' i d).all fun j => decide (rd l ((j : Int) - 1) < rd l j)
theorem impl_increasing_l0 (l : List Int) (hl : l.length ≤ 9223372036854775807) : ∀ (d i : Nat), l.length - i = d → 1 ≤ i → Ev (fun k => impl_increasing.l0 k l i) (incB l i d) := by
  intro d
  induction d with
  | zero =>
    intro i hd hi
    refine Ev.succ ?_
    simp only [impl_increasing.l0]
    refine Ev.ite_neg (by omega) ?_
    exact Ev.now _
  | succ d ih =>
    intro i hd hi
    refine Ev.succ ?_
    simp only [impl_increasing.l0]
    refine Ev.ite_pos (by omega) ?_
    refine Ev.ite_pos (by omega) ?_
    rw [w64 (x := (i : Int) - 1) (by omega) (by omega), w64 (x := (i : Int) + 1) (by omega) (by omega)]
    refine Ev.ite_pos (by omega) ?_
    refine Ev.ite_pos (by omega) ?_
    have hr : incB l i (d + 1) = (decide (rd l ((i : Int) - 1) < rd l i) && incB l (i + 1) d) := by
      simp [incB, List.range'_succ]
    rw [hr]
    by_cases hx : rd l i ≤ rd l ((i : Int) - 1)
    · refine Ev.ite_pos hx ?_
      refine Ev.cast (Ev.now false) ?_
      have : ¬ rd l ((i : Int) - 1) < rd l i := by omega
      simp [this]
    · refine Ev.ite_neg hx ?_
      have := ih (i + 1) (by omega) (by omega)
      refine Ev.cast (by simpa using this) ?_
      have : rd l ((i : Int) - 1) < rd l i := by omega
      simp [this]
theorem spec_l00In_eq (n a b : Int) : spec_l00In.f n a b = some (decide (a ≤ n) && decide (n ≤ b)) := by
  unfold spec_l00In.f
  by_cases h : n ≥ a
  · have : a ≤ n := h
    simp [this]
  · have : ¬ a ≤ n := h
    simp [this]
def rgB (l : List Int) (a b : Int) (i d : Nat) : Bool := (List.range' i d).all fun j => decide (a ≤ rd l j) && decide (rd l j ≤ b) && (decide (j = 0) || decide (rd l ((j : Int) - 1) < rd l j))
theorem spec_l00Rises_l0 (l : List Int) (a b : Int) (hl : l.length ≤ 9223372036854775807) : ∀ (d i : Nat), l.length - i = d → i ≤ l.length → Ev (fun k => spec_l00Rises.l0 k l a b i) (rgB l a b i d) := by
  intro d
  induction d with
  | zero =>
    intro i hd hi
    refine Ev.succ ?_
    simp only [spec_l00Rises.l0]
    refine Ev.ite_neg (by omega) ?_
    exact Ev.now _
  | succ d ih =>
    intro i hd hi
    refine Ev.succ ?_
    simp only [spec_l00Rises.l0]
    refine Ev.ite_pos (by omega) ?_
    refine Ev.ite_pos (by omega) ?_
    refine Ev.bindc (spec_l00In_eq _ _ _) ?_
    have hr : rgB l a b i (d + 1) = ((decide (a ≤ rd l i) && decide (rd l i ≤ b) && (decide (i = 0) || decide (rd l ((i : Int) - 1) < rd l i))) && rgB l a b (i + 1) d) := by
      simp [rgB, List.range'_succ]
    rw [hr]
    have ih' := ih (i + 1) (by omega) (by omega)
    rw [w64 (x := (i : Int) + 1) (by omega) (by omega)]
    have ih2 : Ev (fun k => spec_l00Rises.l0 k l a b ((i : Int) + 1)) (rgB l a b (i + 1) d) := by simpa using ih'
    cases hq : (decide (a ≤ rd l i) && decide (rd l i ≤ b)) with
    | true =>
      refine Ev.ite_pos rfl ?_
      by_cases h0 : i = 0
      · refine Ev.ite_neg (by omega) ?_
        refine Ev.cast ih2 ?_
        simp [h0]
      · refine Ev.ite_pos (by omega) ?_
        rw [w64 (x := (i : Int) - 1) (by omega) (by omega)]
        refine Ev.ite_pos (by omega) ?_
        refine Ev.ite_pos (by omega) ?_
        by_cases hx : rd l ((i : Int) - 1) ≥ rd l i
        · refine Ev.ite_pos hx ?_
          refine Ev.cast (Ev.now false) ?_
          have : ¬ rd l ((i : Int) - 1) < rd l i := by omega
          simp [h0, this]
        · refine Ev.ite_neg hx ?_
          refine Ev.cast ih2 ?_
          have : rd l ((i : Int) - 1) < rd l i := by omega
          simp [this]
    | false =>
      refine Ev.ite_neg (by decide) ?_
      refine Ev.cast (Ev.now false) ?_
      simp
def scaleB (l : List Int) : Bool := decide (5 ≤ l.length) && (rgB l 0 11 0 l.length && (rd l 0 == 0))
theorem inc_at {l : List Int} (h : incB l 1 (l.length - 1) = true) : ∀ (d i : Nat), i + d < l.length → rd l i ≤ rd l ((i + d : Nat) : Int) := by
  have hh : ∀ j : Nat, 1 ≤ j → j < l.length → rd l ((j : Int) - 1) < rd l j := by
    intro j h1 h2
    simp only [incB, List.all_eq_true, List.mem_range'_1, decide_eq_true_eq] at h
    exact h j (by omega)
  intro d
  induction d with
  | zero => intro i _; exact Int.le_refl _
  | succ d ih =>
    intro i hi
    have h1 := ih i (by omega)
    have h2 := hh (i + d + 1) (by omega) (by omega)
    have e : (((i + d + 1 : Nat) : Int) - 1) = ((i + d : Nat) : Int) := by omega
    rw [e] at h2
    have e2 : ((i + (d + 1) : Nat) : Int) = ((i + d + 1 : Nat) : Int) := by omega
    rw [e2]
    omega
theorem scale_key (l : List Int) (h5 : 5 ≤ l.length) (h0 : rd l 0 = 0) : rgB l 0 11 0 l.length = (incB l 1 (l.length - 1) && decide (rd l ((l.length : Int) - 1) < 12)) := by
  rw [Bool.eq_iff_iff]
  constructor
  · intro hh
    simp only [rgB, List.all_eq_true, List.mem_range'_1, Bool.and_eq_true, decide_eq_true_eq, Bool.or_eq_true] at hh
    simp only [Bool.and_eq_true, decide_eq_true_eq, incB, List.all_eq_true, List.mem_range'_1]
    refine ⟨fun j hj => ?_, ?_⟩
    · rcases (hh j (by omega)).2 with h | h
      · omega
      · exact h
    · have := (hh (l.length - 1) (by omega)).1
      have e : ((l.length - 1 : Nat) : Int) = (l.length : Int) - 1 := by omega
      rw [e] at this
      omega
  · intro hh
    rw [Bool.and_eq_true, decide_eq_true_eq] at hh
    have ha := inc_at hh.1
    have hi := hh.1
    simp only [incB, List.all_eq_true, List.mem_range'_1, decide_eq_true_eq] at hi
    simp only [rgB, List.all_eq_true, List.mem_range'_1, Bool.and_eq_true, decide_eq_true_eq, Bool.or_eq_true]
    intro j hj
    have h1 := ha j 0 (by omega)
    have h2 := ha (l.length - 1 - j) j (by omega)
    have e : ((j + (l.length - 1 - j) : Nat) : Int) = (l.length : Int) - 1 := by omega
    rw [e] at h2
    have e0 : ((0 + j : Nat) : Int) = (j : Int) := by omega
    have e1 : ((0 : Nat) : Int) = 0 := rfl
    rw [e0, e1, h0] at h1
    refine ⟨⟨h1, by omega⟩, ?_⟩
    by_cases hz : j = 0
    · exact .inl hz
    · exact .inr (hi j (by omega))
theorem impl_ValidScale_ev (l : List Int) (hl : l.length ≤ 9223372036854775807) : Ev (fun k => impl_ValidScale.f k l) (scaleB l) := by
  unfold impl_ValidScale.f scaleB
  by_cases h : 5 ≤ l.length
  · refine Ev.ite_pos (by omega) (Ev.ite_pos (by omega) ?_)
    by_cases h0 : rd l 0 = 0
    · refine Ev.ite_pos h0 ?_
      refine Ev.bind (a := incB l 1 (l.length - 1)) ?_ ?_
      · unfold impl_increasing.f
        simpa using impl_increasing_l0 l hl (l.length - 1) 1 (by omega) (by omega)
      · rw [scale_key l h h0, w64 (x := (l.length : Int) - 1) (by omega) (by omega)]
        cases g : incB l 1 (l.length - 1) with
        | true =>
          refine Ev.ite_pos rfl (Ev.ite_pos (by omega) (Ev.ite_pos (by omega) ?_))
          refine Ev.cast (Ev.now _) ?_
          simp [h, h0]
        | false =>
          refine Ev.ite_neg (by decide) ?_
          simpa using Ev.now false
    · refine Ev.ite_neg h0 ?_
      refine Ev.cast (Ev.now false) ?_
      simp [h0]
  · refine Ev.ite_neg (by omega) ?_
    simpa [h] using Ev.now false
def tn (a : Int) : Int := Int.tmod (wrap64 ((Int.tmod a 12) + 12)) 12
def toneB (u d : List Int) (t : Int) : Bool := hasM u t || hasM d t
def pairB (p : List Int) : Bool := decide (p.length = 2) && ((decide (0 ≤ rd p 0) && decide (rd p 0 ≤ 11)) && ((decide (0 ≤ rd p 1) && decide (rd p 1 ≤ 11)) && decide (rd p 0 ≠ rd p 1)))
def ltP (p q : List Int) : Bool := decide (rd p 0 < rd q 0) || (decide (rd p 0 = rd q 0) && decide (rd p 1 < rd q 1))
def pairsM (f : List (List Int)) : Nat → Nat → Bool
  | 0, _ => true
  | d + 1, i => (pairB (rd_L1 f i) && (decide (i = 0) || ltP (rd_L1 f ((i : Int) - 1)) (rd_L1 f i))) && pairsM f d (i + 1)
def ragaB (s : ByteArray) (u d : List Int) (st wk : Int) (f : List (List Int)) : Bool :=
  nameB s && (scaleB u && (scaleB d && (toneB u d st && (toneB u d wk && (decide (st ≠ wk) && (pairsM f f.length 0 && decide (f.length ≤ 8)))))))
theorem pairsM_at {f : List (List Int)} : ∀ (d i : Nat), pairsM f d i = true → ∀ j, i ≤ j → j < i + d → pairB (rd_L1 f j) = true := by
  intro d
  induction d with
  | zero => intro i _ j h1 h2; omega
  | succ d ih =>
    intro i h j h1 h2
    simp only [pairsM, Bool.and_eq_true] at h
    by_cases e : j = i
    · subst e
      exact h.1.1
    · exact ih (i + 1) h.2 j (by omega) (by omega)
theorem pairB_len {p : List Int} (h : pairB p = true) : p.length = 2 := by
  simp only [pairB, Bool.and_eq_true, decide_eq_true_eq] at h
  exact h.1
theorem ragaB_parts {s : ByteArray} {u d : List Int} {st wk : Int} {f : List (List Int)} (h : ragaB s u d st wk f = true) : scaleB u = true ∧ scaleB d = true ∧ f.length ≤ 8 ∧ ∀ j, j < f.length → (rd_L1 f j).length = 2 := by
  simp only [ragaB, Bool.and_eq_true, decide_eq_true_eq] at h
  exact ⟨h.2.1, h.2.2.1, h.2.2.2.2.2.2.2, fun j hj => pairB_len (pairsM_at _ _ h.2.2.2.2.2.2.1 j (by omega) (by omega))⟩
def pairQ (a b : Int) (p : List Int) : Bool := decide (rd p 0 = a) && decide (rd p 1 = b)
def reasonR (u d : List Int) (f : List (List Int)) (a b : Int) : Int :=
  if (toneB u d (tn a) && toneB u d (tn b)) = true then (if max (a - b) (b - a) > 12 then 2 else if b > a ∧ hasM u (tn b) = false then 3 else if b < a ∧ hasM d (tn b) = false then 4 else if f.any (pairQ (tn a) (tn b)) = true then 5 else 0) else 1
theorem rdL_at {f : List (List Int)} {i : Nat} (h : i < f.length) : rd_L1 f (i : Int) = f[i] := by simp [rd_L1, h]
end Go.Proofs.Ytinlejhffokbaaa.P
end
