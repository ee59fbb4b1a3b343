/- Texts of this seat, merged: QImplValidraga. -/
import Derived.Test.YtmibjceanfhhlaaGBR1
import Derived.Test.YtmibjceanfhhlaaGBR2
import Derived.Test.YtmibjceanfhhlaaGBR3
section
namespace Go.Proofs.Ytmibjceanfhhlaa.P
open Go.RowKit Go.Proofs.YtmibjceanfhhlaaW.PrintWords Go.Proofs.YtmibjceanfhhlaaW.PrintLast Go.Proofs.YtmibjceanfhhlaaW.PrintMore
attribute [local go_sem] max2_int min2_int max_two min_two max_three min_three max_four min_four   -- for this text's walks alone
set_option linter.unusedVariables false
set_option linter.unusedSimpArgs false
/-! ### impl_ValidRaga: function 33 -/
def impl_ValidRaga.K0 : Array Bool := (bm 41 0)
def impl_ValidRaga.K1 : Array Bool := (bm 41 1)
def impl_ValidRaga.K2 : Array Bool := (bm 41 3)
def impl_ValidRaga.K3 : Array Bool := (bm 41 7)
def impl_ValidRaga.K4 : Array Bool := (bm 41 15)
def impl_ValidRaga.K5 : Array Bool := (bm 41 31)
def impl_ValidRaga.K6 : Array Bool := (bm 41 63)
def impl_ValidRaga.K7 : Array Bool := (bm 41 127)
def impl_ValidRaga.K8 : Array Bool := (bm 41 255)
def impl_ValidRaga.K9 : Array Bool := (bm 41 511)
def impl_ValidRaga.K10 : Array Bool := (bm 41 1023)
def impl_ValidRaga.K11 : Array Bool := (bm 41 2047)
def impl_ValidRaga.K12 : Array Bool := (bm 41 4095)
def impl_ValidRaga.K13 : Array Bool := (bm 41 8191)
def impl_ValidRaga.K14 : Array Bool := (bm 41 16383)
def impl_ValidRaga.K15 : Array Bool := (bm 41 32767)
def impl_ValidRaga.K16 : Array Bool := (bm 41 65535)
def impl_ValidRaga.K17 : Array Bool := (bm 41 131071)
def impl_ValidRaga.K18 : Array Bool := (bm 41 262143)
def impl_ValidRaga.K19 : Array Bool := (bm 41 524287)
def impl_ValidRaga.K20 : Array Bool := (bm 41 1048575)
def impl_ValidRaga.K21 : Array Bool := (bm 41 3145727)
def impl_ValidRaga.K22 : Array Bool := (bm 41 7340031)
def impl_ValidRaga.K23 : Array Bool := (bm 41 8388607)
def impl_ValidRaga.K24 : Array Bool := (bm 41 16777215)
def impl_ValidRaga.K25 : Array Bool := (bm 41 33554431)
def impl_ValidRaga.K26 : Array Bool := (bm 41 67108863)
def impl_ValidRaga.K27 : Array Bool := (bm 41 134217727)
def impl_ValidRaga.K28 : Array Bool := (bm 41 268435455)
def impl_ValidRaga.K29 : Array Bool := (bm 41 536870911)
def impl_ValidRaga.K30 : Array Bool := (bm 41 1073741823)
def impl_ValidRaga.K31 : Array Bool := (bm 41 2147483647)
def impl_ValidRaga.K32 : Array Bool := (bm 41 4294967295)
def impl_ValidRaga.K33 : Array Bool := (bm 41 8589934591)
def impl_ValidRaga.K34 : Array Bool := (bm 41 17179869183)
def impl_ValidRaga.K35 : Array Bool := (bm 41 34359738367)
def impl_ValidRaga.K36 : Array Bool := (bm 41 68719476735)
def impl_ValidRaga.K37 : Array Bool := (bm 41 137438953471)
def impl_ValidRaga.K38 : Array Bool := (bm 41 274877906943)
def impl_ValidRaga.K39 : Array Bool := (bm 41 549755813887)
def impl_ValidRaga.K40 : Array Bool := (bm 41 1099511627775)
def impl_ValidRaga.K41 : Array Bool := (bm 41 2199023255551)
def impl_ValidRaga.K42 : Array Bool := (bm 41 6442450943)
def impl_ValidRaga.K43 : Array Bool := (bm 41 15032385535)
def impl_ValidRaga.K44 : Array Bool := (bm 41 83751862271)
def impl_ValidRaga.K45 : Array Bool := (bm 41 85899345919)
def impl_ValidRaga.K46 : Array Bool := (bm 41 103079215103)
def impl_ValidRaga.K47 : Array Bool := (bm 41 2097151)
def impl_ValidRaga.K48 : Array Bool := (bm 41 4194303)
mutual
def impl_ValidRaga.j0 : Nat → Bool → ByteArray → List Int → List Int → Int → Int → List (List Int) → Option (Bool)
 | 0, _, _, _, _, _, _, _ => none
 | k + 1, x47, x244000, x244001, x244002, x244003, x244004, x244005 => if x47 = true then (some false) else (impl_ValidRaga.l0 k x244005 (x244005.length : Int) 0 x244000 x244001 x244002 x244003 x244004 x244005)
def impl_ValidRaga.l0 : Nat → List (List Int) → Int → Int → ByteArray → List Int → List Int → Int → Int → List (List Int) → Option (Bool)
 | 0, _, _, _, _, _, _, _, _, _ => none
 | k + 1, x49, x50, x51, x244000, x244001, x244002, x244003, x244004, x244005 => if x51 < x50 then (if 0 ≤ x51 then (if x51 < (x49.length : Int) then (if ((rd_L1 x49 x51).length : Int) = 2 then (if 0 < ((rd_L1 x49 x51).length : Int) then ((impl_toneOk.f (rd (rd_L1 x49 x51) 0)).bind fun t251 => (if t251 = true then (if 1 < ((rd_L1 x49 x51).length : Int) then ((impl_toneOk.f (rd (rd_L1 x49 x51) 1)).bind fun t253 => (if t253 = true then (if (rd (rd_L1 x49 x51) 0) = (rd (rd_L1 x49 x51) 1) then (some false) else (if x51 > 0 then (if 0 ≤ (wrap64 (x51 - 1)) then (if (wrap64 (x51 - 1)) < (x244005.length : Int) then ((slices_Compare_int64_int64.f k (rd_L1 x244005 (wrap64 (x51 - 1))) (rd_L1 x49 x51)).bind fun t257 => (if t257 ≥ 0 then (some false) else (impl_ValidRaga.l0 k x49 x50 (wrap64 (x51 + 1)) x244000 x244001 x244002 x244003 x244004 x244005))) else (none)) else (none)) else (impl_ValidRaga.l0 k x49 x50 (wrap64 (x51 + 1)) x244000 x244001 x244002 x244003 x244004 x244005))) else (some false))) else (none)) else (some false))) else (none)) else (some false)) else (none)) else (none)) else (some true)
end
def impl_ValidRaga.f (k : Nat) (a0_0 : ByteArray) (l0_1 : List Int) (l0_2 : List Int) (a0_3 : Int) (a0_4 : Int) (l0_5 : List (List Int)) : Option (Bool) := (impl_IsName.f k a0_0).bind fun t244 => (if t244 = true then ((impl_ValidScale.f k l0_1).bind fun t245 => (if t245 = true then ((impl_ValidScale.f k l0_2).bind fun t246 => (if t246 = true then (if a0_3 = a0_4 then (impl_ValidRaga.j0 k true a0_0 l0_1 l0_2 a0_3 a0_4 l0_5) else ((impl_Raga_hasTone.f k a0_0 l0_1 l0_2 a0_3 a0_4 l0_5 a0_3).bind fun t247 => (if t247 = true then ((impl_Raga_hasTone.f k a0_0 l0_1 l0_2 a0_3 a0_4 l0_5 a0_4).bind fun t248 => (if t248 = true then (impl_ValidRaga.j0 k (decide ((l0_5.length : Int) > 8)) a0_0 l0_1 l0_2 a0_3 a0_4 l0_5) else (impl_ValidRaga.j0 k true a0_0 l0_1 l0_2 a0_3 a0_4 l0_5))) else (impl_ValidRaga.j0 k true a0_0 l0_1 l0_2 a0_3 a0_4 l0_5)))) else (impl_ValidRaga.j0 k true a0_0 l0_1 l0_2 a0_3 a0_4 l0_5))) else (impl_ValidRaga.j0 k true a0_0 l0_1 l0_2 a0_3 a0_4 l0_5))) else (impl_ValidRaga.j0 k true a0_0 l0_1 l0_2 a0_3 a0_4 l0_5))
def impl_ValidRaga.T6 : Bool × List (List Nat × List Nat) := (true, [([], []), ([0], [0]), ([1], [1]), ([2], [2]), ([3], [3]), ([4, 3], [3, 4]), ([5, 3], [3, 5]), ([6, 3, 3], [3, 6]), ([7, 3], [3, 7]), ([3, 8], [3, 8]), ([9, 7], [9]), ([10], [10]), ([11, 10], [10, 11]), ([12, 10], [10, 12]), ([13, 10, 10], [10, 13]), ([14, 10], [10, 14]), ([10, 15], [10, 15]), ([16, 14], [16]), ([17], [17]), ([18, 17], [17, 18]), ([19, 17], [17, 19]), ([17], [17]), ([21, 17], [17, 21]), ([22, 17], [17, 22]), ([20, 23, 17], [17, 20, 23]), ([17, 24], [17, 24]), ([25, 17], [25]), ([26], [26]), ([27, 26], [26, 27]), ([28, 26, 26], [26, 28]), ([29], [29]), ([30, 29], [29, 30]), ([29], [29]), ([32, 29], [29, 32]), ([31, 33, 29], [29, 31, 33]), ([34, 29], [29, 34]), ([29], [29]), ([35, 36, 29, 29], [29, 35, 36]), ([37, 29], [29, 37]), ([29, 38, 26], [26, 29, 38]), ([26, 39], [26, 39])])
def impl_ValidRaga.B6 : List Nat := [0, 1, 3, 7, 15, 31, 63, 127, 255, 511, 1023, 2047, 4095, 8191, 16383, 32767, 65535, 131071, 262143, 524287, 1048575, 262143, 2359295, 6553599, 16777215, 33554431, 67108863, 134217727, 268435455, 536870911, 1073741823, 2147483647, 1073741823, 5368709119, 17179869183, 34359738367, 1073741823, 137438953471, 274877906943, 549755813887, 1099511627775]
theorem impl_ValidRaga.tab6 : rtab .any (opsOf Try.f33 6) = impl_ValidRaga.T6 := by kernel_rfl
theorem impl_ValidRaga.bits6 : waitsOk impl_ValidRaga.T6.2 impl_ValidRaga.B6 = true := by kernel_rfl
set_option maxHeartbeats 8000000 in
set_option maxRecDepth 100000 in
theorem impl_ValidRaga.calls (k : Nat) (a0_0 : ByteArray) (A0_1 : Option Addr) (c0_1 : Nat) (l0_1 : List Int) (A0_2 : Option Addr) (c0_2 : Nat) (l0_2 : List Int) (a0_3 : Int) (a0_4 : Int) (A0_5 : Option Addr) (c0_5 : Nat) (l0_5 : List (List Int)) (r : Bool) (w : World) (hr0_1 : Kd.C (Kd.int .i64) w A0_1 l0_1.length l0_1) (hc0_1 : l0_1.length ≤ c0_1) (hr0_2 : Kd.C (Kd.int .i64) w A0_2 l0_2.length l0_2) (hc0_2 : l0_2.length ≤ c0_2) (hr0_5 : Kd.C (Kd.slice 2 (Kd.int .i64)) w A0_5 l0_5.length l0_5) (hc0_5 : l0_5.length ≤ c0_5) (h : impl_ValidRaga.f k a0_0 l0_1 l0_2 a0_3 a0_4 l0_5 = some r) :
  Calls Try.prog 33 #[.agg #[.string a0_0, .slice A0_1 l0_1.length c0_1, .slice A0_2 l0_2.length c0_2, .int .i64 a0_3, .int .i64 a0_4, .slice A0_5 l0_5.length c0_5]] w fun e w' => e = .returned (.bool r) ∧ Below w.heap.size w w' := by
 have hu42 := Try.underlying42
 have HR0_1 := Aside0.mk hr0_1
 have HC0_1 := Aside0.mk hc0_1
 clear hr0_1 hc0_1
 have HR0_2 := Aside0.mk hr0_2
 have HC0_2 := Aside0.mk hc0_2
 clear hr0_2 hc0_2
 have HR0_5 := Aside0.mk hr0_5
 have HC0_5 := Aside0.mk hc0_5
 clear hr0_5 hc0_5
 have HB := Aside0.mk (Below.refl w.heap.size w)
 have H : ((impl_IsName.f k a0_0).bind fun t244 => (if t244 = true then ((impl_ValidScale.f k l0_1).bind fun t245 => (if t245 = true then ((impl_ValidScale.f k l0_2).bind fun t246 => (if t246 = true then (if a0_3 = a0_4 then (impl_ValidRaga.j0 k true a0_0 l0_1 l0_2 a0_3 a0_4 l0_5) else ((impl_Raga_hasTone.f k a0_0 l0_1 l0_2 a0_3 a0_4 l0_5 a0_3).bind fun t247 => (if t247 = true then ((impl_Raga_hasTone.f k a0_0 l0_1 l0_2 a0_3 a0_4 l0_5 a0_4).bind fun t248 => (if t248 = true then (impl_ValidRaga.j0 k (decide ((l0_5.length : Int) > 8)) a0_0 l0_1 l0_2 a0_3 a0_4 l0_5) else (impl_ValidRaga.j0 k true a0_0 l0_1 l0_2 a0_3 a0_4 l0_5))) else (impl_ValidRaga.j0 k true a0_0 l0_1 l0_2 a0_3 a0_4 l0_5)))) else (impl_ValidRaga.j0 k true a0_0 l0_1 l0_2 a0_3 a0_4 l0_5))) else (impl_ValidRaga.j0 k true a0_0 l0_1 l0_2 a0_3 a0_4 l0_5))) else (impl_ValidRaga.j0 k true a0_0 l0_1 l0_2 a0_3 a0_4 l0_5))) = some r := h
 clear h
 have HC2 := Aside0.mk H
 clear H
 go_enter Try.func33, Try.ntmps33
 go_upto_region 1 with (first | ((with_reducible refine gate_dst (N := 1) rfl ?_); (try (refine gate_guard (by rfl) ?_; dsimp only)); refine box_event ?hg (N := 1) ?hd (cs := #[.string a0_0, .slice A0_1 l0_1.length c0_1, .slice A0_2 l0_2.length c0_2, .int .i64 a0_3, .int .i64 a0_4, .slice A0_5 l0_5.length c0_5]) (t := 42) ?hr ?_; (case hd => rfl); (case hg => rfl); (case hr => first | (go_simp; done) | (go_simp; rfl)); intro gb243 hg w3 hbox hb; have n0_ := Aside0.mk (below_step (bb_ HB.out) hb); have n1_ := Aside0.mk (hbox); have n2_ := Aside0.mk ((by rw [hg]; exact (below_size (bb_ HB.out)) : w.heap.size ≤ gb243)); have n3_ := Aside0.mk ((by rw [hg]; exact (below_size (bb_ HB.out)) : w.heap.size ≤ gb243)); clear HB; have HB := n0_; have BK243 := n1_; have GW243 := n2_; have GE243 := n3_; clear n0_ n1_ n2_ n3_; clear hb hbox hg))
 (try simp only [Act.put, List.setIfInBounds_toArray, List.set_cons_zero, List.set_cons_succ])
 go_cut [47] (fun v47 wc => ∃ (kq : Nat) (x47_1 : Bool), v47 = .bool x47_1 ∧ Aside0 (impl_ValidRaga.j0 kq x47_1 a0_0 l0_1 l0_2 a0_3 a0_4 l0_5 = some r) ∧ Aside0 (kq ≤ k) ∧ Aside0 (wc.heap[gb243]? = some (.cells #[.string a0_0, (.slice A0_1 l0_1.length c0_1), (.slice A0_2 l0_2.length c0_2), .int .i64 a0_3, .int .i64 a0_4, (.slice A0_5 l0_5.length c0_5)] 42 (0, 0))) ∧ Aside0 (Below w.heap.size w wc))
 case first =>
  have H := HC2.out
  clear HC2
  replace H := Option.bind_eq_some_iff.mp H
  obtain ⟨t244, A40, H⟩ := H
  replace H : (if t244 = true then ((impl_ValidScale.f k l0_1).bind fun t245 => (if t245 = true then ((impl_ValidScale.f k l0_2).bind fun t246 => (if t246 = true then (if a0_3 = a0_4 then (impl_ValidRaga.j0 k true a0_0 l0_1 l0_2 a0_3 a0_4 l0_5) else ((impl_Raga_hasTone.f k a0_0 l0_1 l0_2 a0_3 a0_4 l0_5 a0_3).bind fun t247 => (if t247 = true then ((impl_Raga_hasTone.f k a0_0 l0_1 l0_2 a0_3 a0_4 l0_5 a0_4).bind fun t248 => (if t248 = true then (impl_ValidRaga.j0 k (decide ((l0_5.length : Int) > 8)) a0_0 l0_1 l0_2 a0_3 a0_4 l0_5) else (impl_ValidRaga.j0 k true a0_0 l0_1 l0_2 a0_3 a0_4 l0_5))) else (impl_ValidRaga.j0 k true a0_0 l0_1 l0_2 a0_3 a0_4 l0_5)))) else (impl_ValidRaga.j0 k true a0_0 l0_1 l0_2 a0_3 a0_4 l0_5))) else (impl_ValidRaga.j0 k true a0_0 l0_1 l0_2 a0_3 a0_4 l0_5))) else (impl_ValidRaga.j0 k true a0_0 l0_1 l0_2 a0_3 a0_4 l0_5)) = some r := H
  have A4 := Aside0.mk A40
  clear A40
  by_cases c5 : t244 = true
  ·subst c5
   have H1 : ((impl_ValidScale.f k l0_1).bind fun t245 => (if t245 = true then ((impl_ValidScale.f k l0_2).bind fun t246 => (if t246 = true then (if a0_3 = a0_4 then (impl_ValidRaga.j0 k true a0_0 l0_1 l0_2 a0_3 a0_4 l0_5) else ((impl_Raga_hasTone.f k a0_0 l0_1 l0_2 a0_3 a0_4 l0_5 a0_3).bind fun t247 => (if t247 = true then ((impl_Raga_hasTone.f k a0_0 l0_1 l0_2 a0_3 a0_4 l0_5 a0_4).bind fun t248 => (if t248 = true then (impl_ValidRaga.j0 k (decide ((l0_5.length : Int) > 8)) a0_0 l0_1 l0_2 a0_3 a0_4 l0_5) else (impl_ValidRaga.j0 k true a0_0 l0_1 l0_2 a0_3 a0_4 l0_5))) else (impl_ValidRaga.j0 k true a0_0 l0_1 l0_2 a0_3 a0_4 l0_5)))) else (impl_ValidRaga.j0 k true a0_0 l0_1 l0_2 a0_3 a0_4 l0_5))) else (impl_ValidRaga.j0 k true a0_0 l0_1 l0_2 a0_3 a0_4 l0_5))) = some r := by rw [if_pos rfl] at H; exact H
   clear H
   have H := H1
   clear H1
   replace H := Option.bind_eq_some_iff.mp H
   obtain ⟨t245, A60, H⟩ := H
   replace H : (if t245 = true then ((impl_ValidScale.f k l0_2).bind fun t246 => (if t246 = true then (if a0_3 = a0_4 then (impl_ValidRaga.j0 k true a0_0 l0_1 l0_2 a0_3 a0_4 l0_5) else ((impl_Raga_hasTone.f k a0_0 l0_1 l0_2 a0_3 a0_4 l0_5 a0_3).bind fun t247 => (if t247 = true then ((impl_Raga_hasTone.f k a0_0 l0_1 l0_2 a0_3 a0_4 l0_5 a0_4).bind fun t248 => (if t248 = true then (impl_ValidRaga.j0 k (decide ((l0_5.length : Int) > 8)) a0_0 l0_1 l0_2 a0_3 a0_4 l0_5) else (impl_ValidRaga.j0 k true a0_0 l0_1 l0_2 a0_3 a0_4 l0_5))) else (impl_ValidRaga.j0 k true a0_0 l0_1 l0_2 a0_3 a0_4 l0_5)))) else (impl_ValidRaga.j0 k true a0_0 l0_1 l0_2 a0_3 a0_4 l0_5))) else (impl_ValidRaga.j0 k true a0_0 l0_1 l0_2 a0_3 a0_4 l0_5)) = some r := H
   have A6 := Aside0.mk A60
   clear A60
   by_cases c7 : t245 = true
   ·subst c7
    have H1 : ((impl_ValidScale.f k l0_2).bind fun t246 => (if t246 = true then (if a0_3 = a0_4 then (impl_ValidRaga.j0 k true a0_0 l0_1 l0_2 a0_3 a0_4 l0_5) else ((impl_Raga_hasTone.f k a0_0 l0_1 l0_2 a0_3 a0_4 l0_5 a0_3).bind fun t247 => (if t247 = true then ((impl_Raga_hasTone.f k a0_0 l0_1 l0_2 a0_3 a0_4 l0_5 a0_4).bind fun t248 => (if t248 = true then (impl_ValidRaga.j0 k (decide ((l0_5.length : Int) > 8)) a0_0 l0_1 l0_2 a0_3 a0_4 l0_5) else (impl_ValidRaga.j0 k true a0_0 l0_1 l0_2 a0_3 a0_4 l0_5))) else (impl_ValidRaga.j0 k true a0_0 l0_1 l0_2 a0_3 a0_4 l0_5)))) else (impl_ValidRaga.j0 k true a0_0 l0_1 l0_2 a0_3 a0_4 l0_5))) = some r := by rw [if_pos rfl] at H; exact H
    clear H; have H := H1; clear H1
    replace H := Option.bind_eq_some_iff.mp H
    obtain ⟨t246, A80, H⟩ := H
    replace H : (if t246 = true then (if a0_3 = a0_4 then (impl_ValidRaga.j0 k true a0_0 l0_1 l0_2 a0_3 a0_4 l0_5) else ((impl_Raga_hasTone.f k a0_0 l0_1 l0_2 a0_3 a0_4 l0_5 a0_3).bind fun t247 => (if t247 = true then ((impl_Raga_hasTone.f k a0_0 l0_1 l0_2 a0_3 a0_4 l0_5 a0_4).bind fun t248 => (if t248 = true then (impl_ValidRaga.j0 k (decide ((l0_5.length : Int) > 8)) a0_0 l0_1 l0_2 a0_3 a0_4 l0_5) else (impl_ValidRaga.j0 k true a0_0 l0_1 l0_2 a0_3 a0_4 l0_5))) else (impl_ValidRaga.j0 k true a0_0 l0_1 l0_2 a0_3 a0_4 l0_5)))) else (impl_ValidRaga.j0 k true a0_0 l0_1 l0_2 a0_3 a0_4 l0_5)) = some r := H
    have A8 := Aside0.mk A80; clear A80
    by_cases c9 : t246 = true
    ·subst c9
     have H1 : (if a0_3 = a0_4 then (impl_ValidRaga.j0 k true a0_0 l0_1 l0_2 a0_3 a0_4 l0_5) else ((impl_Raga_hasTone.f k a0_0 l0_1 l0_2 a0_3 a0_4 l0_5 a0_3).bind fun t247 => (if t247 = true then ((impl_Raga_hasTone.f k a0_0 l0_1 l0_2 a0_3 a0_4 l0_5 a0_4).bind fun t248 => (if t248 = true then (impl_ValidRaga.j0 k (decide ((l0_5.length : Int) > 8)) a0_0 l0_1 l0_2 a0_3 a0_4 l0_5) else (impl_ValidRaga.j0 k true a0_0 l0_1 l0_2 a0_3 a0_4 l0_5))) else (impl_ValidRaga.j0 k true a0_0 l0_1 l0_2 a0_3 a0_4 l0_5)))) = some r := by rw [if_pos rfl] at H; exact H
     clear H; have H := H1; clear H1
     by_cases c10 : a0_3 = a0_4
     ·rw [if_pos c10] at H
      have c10b0 : (a0_3 == a0_4) = true := beq_iff_eq.mpr c10
      have c10b1 : (a0_3 != a0_4) = false := bne_eq_false_iff_eq.mpr c10
      clear c10
      (first | rw [c10b0] | (simp only [i64_w, i32_w]; rw [c10b0]) | skip)
      have H' := Aside0.mk H
      clear H
      obtain ⟨hcz11_0, hcz11_1, hcz11_2, hcz11_3, hcz11_4, hcz11_5, hfz11_0⟩ := bx6_ (w := w3) BK243.out
      go_wp2_with (first | ((with_reducible refine gate_callee (f := 47) rfl ?_); refine goesL_ (some 7) rfl rfl Try.func47 (by kernel_rfl) rfl #[.string a0_0] rfl av_ ?_; (with_reducible refine (impl_IsName.calls k a0_0 true _ A4.out).mono ?_); rintro e w' ⟨rfl, ⟨nd, rfl⟩⟩; refine ⟨_, rfl, ?_⟩) | (go_at_call 48; (with_reducible refine (impl_ValidScale.calls k _ _ l0_1 true _ ?side1 ?side2 A6.out).mono ?_); (case side1 => repeat (first | exact (Kd.C_below HR0_1.out (bg_ HB.out GE243.out)) | (with_reducible refine Kd.C_alloc ?_ _) | (with_reducible refine Kd.C_drewN ?_ _) | (with_reducible refine Kd.C_drew ?_))); (case side2 => exact HC0_1.out); rintro e w' ⟨rfl, ⟨nd, rfl⟩⟩) | (go_at_call 48; (with_reducible refine (impl_ValidScale.calls k _ _ l0_2 true _ ?side1 ?side2 A8.out).mono ?_); (case side1 => repeat (first | exact (Kd.C_below HR0_2.out (bg_ HB.out GE243.out)) | (with_reducible refine Kd.C_alloc ?_ _) | (with_reducible refine Kd.C_drewN ?_ _) | (with_reducible refine Kd.C_drew ?_))); (case side2 => exact HC0_2.out); rintro e w' ⟨rfl, ⟨nd, rfl⟩⟩))
      go_meet
      case rel => exact ⟨_, (true), sv_, H', ⟨by first | omega | exact Nat.le_refl _⟩, ⟨by (with_reducible repeat (first | refine blk_drewN ?_ _ | refine blk_drew ?_ | refine blk_alloc ?_ _)); exact BK243.out⟩, ⟨bg_ HB.out GE243.out⟩⟩
     ·rw [if_neg c10] at H
      have c10b0 : (a0_3 == a0_4) = false := beq_eq_false_iff_ne.mpr c10
      have c10b1 : (a0_3 != a0_4) = true := bne_iff_ne.mpr c10
      (first | rw [c10b0] | (simp only [i64_w, i32_w]; rw [c10b0]) | skip)
      replace H := Option.bind_eq_some_iff.mp H
      obtain ⟨t247, A120, H⟩ := H
      replace H : (if t247 = true then ((impl_Raga_hasTone.f k a0_0 l0_1 l0_2 a0_3 a0_4 l0_5 a0_4).bind fun t248 => (if t248 = true then (impl_ValidRaga.j0 k (decide ((l0_5.length : Int) > 8)) a0_0 l0_1 l0_2 a0_3 a0_4 l0_5) else (impl_ValidRaga.j0 k true a0_0 l0_1 l0_2 a0_3 a0_4 l0_5))) else (impl_ValidRaga.j0 k true a0_0 l0_1 l0_2 a0_3 a0_4 l0_5)) = some r := H
      have A12 := Aside0.mk A120; clear A120
      by_cases c13 : t247 = true
      ·subst c13
       have H1 : ((impl_Raga_hasTone.f k a0_0 l0_1 l0_2 a0_3 a0_4 l0_5 a0_4).bind fun t248 => (if t248 = true then (impl_ValidRaga.j0 k (decide ((l0_5.length : Int) > 8)) a0_0 l0_1 l0_2 a0_3 a0_4 l0_5) else (impl_ValidRaga.j0 k true a0_0 l0_1 l0_2 a0_3 a0_4 l0_5))) = some r := by rw [if_pos rfl] at H; exact H
       clear H; have H := H1; clear H1
       replace H := Option.bind_eq_some_iff.mp H
       obtain ⟨t248, A140, H⟩ := H
       replace H : (if t248 = true then (impl_ValidRaga.j0 k (decide ((l0_5.length : Int) > 8)) a0_0 l0_1 l0_2 a0_3 a0_4 l0_5) else (impl_ValidRaga.j0 k true a0_0 l0_1 l0_2 a0_3 a0_4 l0_5)) = some r := H
       have A14 := Aside0.mk A140; clear A140
       by_cases c15 : t248 = true
       ·subst c15
        have H1 : (impl_ValidRaga.j0 k (decide ((l0_5.length : Int) > 8)) a0_0 l0_1 l0_2 a0_3 a0_4 l0_5) = some r := by rw [if_pos rfl] at H; exact H
        clear H; have H := H1; clear H1
        have H' := Aside0.mk H
        clear H
        obtain ⟨hcz16_0, hcz16_1, hcz16_2, hcz16_3, hcz16_4, hcz16_5, hfz16_0⟩ := bx6_ (w := w3) BK243.out
        go_wp2_with (first | ((with_reducible refine gate_callee (f := 47) rfl ?_); refine goesL_ (some 7) rfl rfl Try.func47 (by kernel_rfl) rfl #[.string a0_0] rfl av_ ?_; (with_reducible refine (impl_IsName.calls k a0_0 true _ A4.out).mono ?_); rintro e w' ⟨rfl, ⟨nd, rfl⟩⟩; refine ⟨_, rfl, ?_⟩) | (go_at_call 48; (with_reducible refine (impl_ValidScale.calls k _ _ l0_1 true _ ?side1 ?side2 A6.out).mono ?_); (case side1 => repeat (first | exact (Kd.C_below HR0_1.out (bg_ HB.out GE243.out)) | (with_reducible refine Kd.C_alloc ?_ _) | (with_reducible refine Kd.C_drewN ?_ _) | (with_reducible refine Kd.C_drew ?_))); (case side2 => exact HC0_1.out); rintro e w' ⟨rfl, ⟨nd, rfl⟩⟩) | (go_at_call 48; (with_reducible refine (impl_ValidScale.calls k _ _ l0_2 true _ ?side1 ?side2 A8.out).mono ?_); (case side1 => repeat (first | exact (Kd.C_below HR0_2.out (bg_ HB.out GE243.out)) | (with_reducible refine Kd.C_alloc ?_ _) | (with_reducible refine Kd.C_drewN ?_ _) | (with_reducible refine Kd.C_drew ?_))); (case side2 => exact HC0_2.out); rintro e w' ⟨rfl, ⟨nd, rfl⟩⟩) | (go_at_call 37; (with_reducible refine (impl_Raga_hasTone.calls k a0_0 _ _ l0_1 _ _ l0_2 a0_3 a0_4 _ _ l0_5 a0_3 true _ ?side1 ?side2 ?side3 ?side4 ?side5 ?side6 A12.out).mono ?_); (case side1 => repeat (first | exact (Kd.C_below HR0_1.out (bg_ HB.out GE243.out)) | (with_reducible refine Kd.C_alloc ?_ _) | (with_reducible refine Kd.C_drewN ?_ _) | (with_reducible refine Kd.C_drew ?_))); (case side2 => exact HC0_1.out); (case side3 => repeat (first | exact (Kd.C_below HR0_2.out (bg_ HB.out GE243.out)) | (with_reducible refine Kd.C_alloc ?_ _) | (with_reducible refine Kd.C_drewN ?_ _) | (with_reducible refine Kd.C_drew ?_))); (case side4 => exact HC0_2.out); (case side5 => repeat (first | exact (Kd.C_below HR0_5.out (bg_ HB.out GE243.out)) | (with_reducible refine Kd.C_alloc ?_ _) | (with_reducible refine Kd.C_drewN ?_ _) | (with_reducible refine Kd.C_drew ?_))); (case side6 => exact HC0_5.out); rintro e w17 ⟨rfl, hb⟩; have n0_ := Aside0.mk (blk_below (g := gb243) (o := .cells #[.string a0_0, .slice A0_1 l0_1.length c0_1, .slice A0_2 l0_2.length c0_2, .int .i64 a0_3, .int .i64 a0_4, .slice A0_5 l0_5.length c0_5] 42 (0, 0)) (by repeat first | exact BK243.out | refine blk_drewN ?_ _ | refine blk_drew ?_ | refine blk_alloc ?_ _) hb); have n1_ := Aside0.mk (below_step (bg_ HB.out GE243.out) hb); clear BK243; clear HB; have BK243 := n0_; have HB := n1_; clear n0_ n1_; (try clear hb); (try clear hb2); (try clear hk); (try clear hi); obtain ⟨hcz18_0, hcz18_1, hcz18_2, hcz18_3, hcz18_4, hcz18_5, hfz18_0⟩ := bx6_ (w := w17) BK243.out) | (go_at_call 37; (with_reducible refine (impl_Raga_hasTone.calls k a0_0 _ _ l0_1 _ _ l0_2 a0_3 a0_4 _ _ l0_5 a0_4 true _ ?side1 ?side2 ?side3 ?side4 ?side5 ?side6 A14.out).mono ?_); (case side1 => exact (Kd.C_below HR0_1.out HB.out)); (case side2 => exact HC0_1.out); (case side3 => exact (Kd.C_below HR0_2.out HB.out)); (case side4 => exact HC0_2.out); (case side5 => exact (Kd.C_below HR0_5.out HB.out)); (case side6 => exact HC0_5.out); rintro e w19 ⟨rfl, hb⟩; have n0_ := Aside0.mk (blk_below (g := gb243) (o := .cells #[.string a0_0, .slice A0_1 l0_1.length c0_1, .slice A0_2 l0_2.length c0_2, .int .i64 a0_3, .int .i64 a0_4, .slice A0_5 l0_5.length c0_5] 42 (0, 0)) (by repeat first | exact BK243.out | refine blk_drewN ?_ _ | refine blk_drew ?_ | refine blk_alloc ?_ _) hb); have n1_ := Aside0.mk (below_step (bg_ HB.out GE243.out) hb); clear BK243; clear HB; have BK243 := n0_; have HB := n1_; clear n0_ n1_; (try clear hb); (try clear hb2); (try clear hk); (try clear hi); obtain ⟨hcz20_0, hcz20_1, hcz20_2, hcz20_3, hcz20_4, hcz20_5, hfz20_0⟩ := bx6_ (w := w19) BK243.out))
        go_meet
        case rel => exact ⟨_, (decide ((l0_5.length : Int) > 8)), sv_, H', ⟨by first | omega | exact Nat.le_refl _⟩, ⟨by (with_reducible repeat (first | refine blk_drewN ?_ _ | refine blk_drew ?_ | refine blk_alloc ?_ _)); exact BK243.out⟩, ⟨bg_ HB.out GE243.out⟩⟩
       ·replace c15 := Bool.eq_false_iff.mpr c15
        subst c15
        have H1 : (impl_ValidRaga.j0 k true a0_0 l0_1 l0_2 a0_3 a0_4 l0_5) = some r := by rw [if_neg (show ¬ (false = true) by decide)] at H; exact H
        clear H; have H := H1; clear H1
        have H' := Aside0.mk H
        clear H
        obtain ⟨hcz21_0, hcz21_1, hcz21_2, hcz21_3, hcz21_4, hcz21_5, hfz21_0⟩ := bx6_ (w := w3) BK243.out
        go_wp2_with (first | ((with_reducible refine gate_callee (f := 47) rfl ?_); refine goesL_ (some 7) rfl rfl Try.func47 (by kernel_rfl) rfl #[.string a0_0] rfl av_ ?_; (with_reducible refine (impl_IsName.calls k a0_0 true _ A4.out).mono ?_); rintro e w' ⟨rfl, ⟨nd, rfl⟩⟩; refine ⟨_, rfl, ?_⟩) | (go_at_call 48; (with_reducible refine (impl_ValidScale.calls k _ _ l0_1 true _ ?side1 ?side2 A6.out).mono ?_); (case side1 => repeat (first | exact (Kd.C_below HR0_1.out (bg_ HB.out GE243.out)) | (with_reducible refine Kd.C_alloc ?_ _) | (with_reducible refine Kd.C_drewN ?_ _) | (with_reducible refine Kd.C_drew ?_))); (case side2 => exact HC0_1.out); rintro e w' ⟨rfl, ⟨nd, rfl⟩⟩) | (go_at_call 48; (with_reducible refine (impl_ValidScale.calls k _ _ l0_2 true _ ?side1 ?side2 A8.out).mono ?_); (case side1 => repeat (first | exact (Kd.C_below HR0_2.out (bg_ HB.out GE243.out)) | (with_reducible refine Kd.C_alloc ?_ _) | (with_reducible refine Kd.C_drewN ?_ _) | (with_reducible refine Kd.C_drew ?_))); (case side2 => exact HC0_2.out); rintro e w' ⟨rfl, ⟨nd, rfl⟩⟩) | (go_at_call 37; (with_reducible refine (impl_Raga_hasTone.calls k a0_0 _ _ l0_1 _ _ l0_2 a0_3 a0_4 _ _ l0_5 a0_3 true _ ?side1 ?side2 ?side3 ?side4 ?side5 ?side6 A12.out).mono ?_); (case side1 => repeat (first | exact (Kd.C_below HR0_1.out (bg_ HB.out GE243.out)) | (with_reducible refine Kd.C_alloc ?_ _) | (with_reducible refine Kd.C_drewN ?_ _) | (with_reducible refine Kd.C_drew ?_))); (case side2 => exact HC0_1.out); (case side3 => repeat (first | exact (Kd.C_below HR0_2.out (bg_ HB.out GE243.out)) | (with_reducible refine Kd.C_alloc ?_ _) | (with_reducible refine Kd.C_drewN ?_ _) | (with_reducible refine Kd.C_drew ?_))); (case side4 => exact HC0_2.out); (case side5 => repeat (first | exact (Kd.C_below HR0_5.out (bg_ HB.out GE243.out)) | (with_reducible refine Kd.C_alloc ?_ _) | (with_reducible refine Kd.C_drewN ?_ _) | (with_reducible refine Kd.C_drew ?_))); (case side6 => exact HC0_5.out); rintro e w22 ⟨rfl, hb⟩; have n0_ := Aside0.mk (blk_below (g := gb243) (o := .cells #[.string a0_0, .slice A0_1 l0_1.length c0_1, .slice A0_2 l0_2.length c0_2, .int .i64 a0_3, .int .i64 a0_4, .slice A0_5 l0_5.length c0_5] 42 (0, 0)) (by repeat first | exact BK243.out | refine blk_drewN ?_ _ | refine blk_drew ?_ | refine blk_alloc ?_ _) hb); have n1_ := Aside0.mk (below_step (bg_ HB.out GE243.out) hb); clear BK243; clear HB; have BK243 := n0_; have HB := n1_; clear n0_ n1_; (try clear hb); (try clear hb2); (try clear hk); (try clear hi); obtain ⟨hcz23_0, hcz23_1, hcz23_2, hcz23_3, hcz23_4, hcz23_5, hfz23_0⟩ := bx6_ (w := w22) BK243.out) | (go_at_call 37; (with_reducible refine (impl_Raga_hasTone.calls k a0_0 _ _ l0_1 _ _ l0_2 a0_3 a0_4 _ _ l0_5 a0_4 false _ ?side1 ?side2 ?side3 ?side4 ?side5 ?side6 A14.out).mono ?_); (case side1 => exact (Kd.C_below HR0_1.out HB.out)); (case side2 => exact HC0_1.out); (case side3 => exact (Kd.C_below HR0_2.out HB.out)); (case side4 => exact HC0_2.out); (case side5 => exact (Kd.C_below HR0_5.out HB.out)); (case side6 => exact HC0_5.out); rintro e w24 ⟨rfl, hb⟩; have n0_ := Aside0.mk (blk_below (g := gb243) (o := .cells #[.string a0_0, .slice A0_1 l0_1.length c0_1, .slice A0_2 l0_2.length c0_2, .int .i64 a0_3, .int .i64 a0_4, .slice A0_5 l0_5.length c0_5] 42 (0, 0)) (by repeat first | exact BK243.out | refine blk_drewN ?_ _ | refine blk_drew ?_ | refine blk_alloc ?_ _) hb); have n1_ := Aside0.mk (below_step (bg_ HB.out GE243.out) hb); clear BK243; clear HB; have BK243 := n0_; have HB := n1_; clear n0_ n1_; (try clear hb); (try clear hb2); (try clear hk); (try clear hi)))
        go_meet
        case rel => exact ⟨_, (true), sv_, H', ⟨by first | omega | exact Nat.le_refl _⟩, ⟨by (with_reducible repeat (first | refine blk_drewN ?_ _ | refine blk_drew ?_ | refine blk_alloc ?_ _)); exact BK243.out⟩, ⟨bg_ HB.out GE243.out⟩⟩
      ·replace c13 := Bool.eq_false_iff.mpr c13
       subst c13
       have H1 : (impl_ValidRaga.j0 k true a0_0 l0_1 l0_2 a0_3 a0_4 l0_5) = some r := by rw [if_neg (show ¬ (false = true) by decide)] at H; exact H
       clear H; have H := H1; clear H1
       have H' := Aside0.mk H
       clear H
       obtain ⟨hcz25_0, hcz25_1, hcz25_2, hcz25_3, hcz25_4, hcz25_5, hfz25_0⟩ := bx6_ (w := w3) BK243.out
       go_wp2_with (first | ((with_reducible refine gate_callee (f := 47) rfl ?_); refine goesL_ (some 7) rfl rfl Try.func47 (by kernel_rfl) rfl #[.string a0_0] rfl av_ ?_; (with_reducible refine (impl_IsName.calls k a0_0 true _ A4.out).mono ?_); rintro e w' ⟨rfl, ⟨nd, rfl⟩⟩; refine ⟨_, rfl, ?_⟩) | (go_at_call 48; (with_reducible refine (impl_ValidScale.calls k _ _ l0_1 true _ ?side1 ?side2 A6.out).mono ?_); (case side1 => repeat (first | exact (Kd.C_below HR0_1.out (bg_ HB.out GE243.out)) | (with_reducible refine Kd.C_alloc ?_ _) | (with_reducible refine Kd.C_drewN ?_ _) | (with_reducible refine Kd.C_drew ?_))); (case side2 => exact HC0_1.out); rintro e w' ⟨rfl, ⟨nd, rfl⟩⟩) | (go_at_call 48; (with_reducible refine (impl_ValidScale.calls k _ _ l0_2 true _ ?side1 ?side2 A8.out).mono ?_); (case side1 => repeat (first | exact (Kd.C_below HR0_2.out (bg_ HB.out GE243.out)) | (with_reducible refine Kd.C_alloc ?_ _) | (with_reducible refine Kd.C_drewN ?_ _) | (with_reducible refine Kd.C_drew ?_))); (case side2 => exact HC0_2.out); rintro e w' ⟨rfl, ⟨nd, rfl⟩⟩) | (go_at_call 37; (with_reducible refine (impl_Raga_hasTone.calls k a0_0 _ _ l0_1 _ _ l0_2 a0_3 a0_4 _ _ l0_5 a0_3 false _ ?side1 ?side2 ?side3 ?side4 ?side5 ?side6 A12.out).mono ?_); (case side1 => repeat (first | exact (Kd.C_below HR0_1.out (bg_ HB.out GE243.out)) | (with_reducible refine Kd.C_alloc ?_ _) | (with_reducible refine Kd.C_drewN ?_ _) | (with_reducible refine Kd.C_drew ?_))); (case side2 => exact HC0_1.out); (case side3 => repeat (first | exact (Kd.C_below HR0_2.out (bg_ HB.out GE243.out)) | (with_reducible refine Kd.C_alloc ?_ _) | (with_reducible refine Kd.C_drewN ?_ _) | (with_reducible refine Kd.C_drew ?_))); (case side4 => exact HC0_2.out); (case side5 => repeat (first | exact (Kd.C_below HR0_5.out (bg_ HB.out GE243.out)) | (with_reducible refine Kd.C_alloc ?_ _) | (with_reducible refine Kd.C_drewN ?_ _) | (with_reducible refine Kd.C_drew ?_))); (case side6 => exact HC0_5.out); rintro e w26 ⟨rfl, hb⟩; have n0_ := Aside0.mk (blk_below (g := gb243) (o := .cells #[.string a0_0, .slice A0_1 l0_1.length c0_1, .slice A0_2 l0_2.length c0_2, .int .i64 a0_3, .int .i64 a0_4, .slice A0_5 l0_5.length c0_5] 42 (0, 0)) (by repeat first | exact BK243.out | refine blk_drewN ?_ _ | refine blk_drew ?_ | refine blk_alloc ?_ _) hb); have n1_ := Aside0.mk (below_step (bg_ HB.out GE243.out) hb); clear BK243; clear HB; have BK243 := n0_; have HB := n1_; clear n0_ n1_; (try clear hb); (try clear hb2); (try clear hk); (try clear hi)))
       go_meet
       case rel => exact ⟨_, (true), sv_, H', ⟨by first | omega | exact Nat.le_refl _⟩, ⟨by (with_reducible repeat (first | refine blk_drewN ?_ _ | refine blk_drew ?_ | refine blk_alloc ?_ _)); exact BK243.out⟩, ⟨bg_ HB.out GE243.out⟩⟩
    ·replace c9 := Bool.eq_false_iff.mpr c9
     subst c9
     have H1 : (impl_ValidRaga.j0 k true a0_0 l0_1 l0_2 a0_3 a0_4 l0_5) = some r := by rw [if_neg (show ¬ (false = true) by decide)] at H; exact H
     clear H; have H := H1; clear H1
     have H' := Aside0.mk H
     clear H
     obtain ⟨hcz27_0, hcz27_1, hcz27_2, hcz27_3, hcz27_4, hcz27_5, hfz27_0⟩ := bx6_ (w := w3) BK243.out
     go_wp2_with (first | ((with_reducible refine gate_callee (f := 47) rfl ?_); refine goesL_ (some 7) rfl rfl Try.func47 (by kernel_rfl) rfl #[.string a0_0] rfl av_ ?_; (with_reducible refine (impl_IsName.calls k a0_0 true _ A4.out).mono ?_); rintro e w' ⟨rfl, ⟨nd, rfl⟩⟩; refine ⟨_, rfl, ?_⟩) | (go_at_call 48; (with_reducible refine (impl_ValidScale.calls k _ _ l0_1 true _ ?side1 ?side2 A6.out).mono ?_); (case side1 => repeat (first | exact (Kd.C_below HR0_1.out (bg_ HB.out GE243.out)) | (with_reducible refine Kd.C_alloc ?_ _) | (with_reducible refine Kd.C_drewN ?_ _) | (with_reducible refine Kd.C_drew ?_))); (case side2 => exact HC0_1.out); rintro e w' ⟨rfl, ⟨nd, rfl⟩⟩) | (go_at_call 48; (with_reducible refine (impl_ValidScale.calls k _ _ l0_2 false _ ?side1 ?side2 A8.out).mono ?_); (case side1 => repeat (first | exact (Kd.C_below HR0_2.out (bg_ HB.out GE243.out)) | (with_reducible refine Kd.C_alloc ?_ _) | (with_reducible refine Kd.C_drewN ?_ _) | (with_reducible refine Kd.C_drew ?_))); (case side2 => exact HC0_2.out); rintro e w' ⟨rfl, ⟨nd, rfl⟩⟩))
     go_meet
     case rel => exact ⟨_, (true), sv_, H', ⟨by first | omega | exact Nat.le_refl _⟩, ⟨by (with_reducible repeat (first | refine blk_drewN ?_ _ | refine blk_drew ?_ | refine blk_alloc ?_ _)); exact BK243.out⟩, ⟨bg_ HB.out GE243.out⟩⟩
   ·replace c7 := Bool.eq_false_iff.mpr c7
    subst c7
    have H1 : (impl_ValidRaga.j0 k true a0_0 l0_1 l0_2 a0_3 a0_4 l0_5) = some r := by rw [if_neg (show ¬ (false = true) by decide)] at H; exact H
    clear H; have H := H1; clear H1
    have H' := Aside0.mk H
    clear H
    obtain ⟨hcz28_0, hcz28_1, hcz28_2, hcz28_3, hcz28_4, hcz28_5, hfz28_0⟩ := bx6_ (w := w3) BK243.out
    go_wp2_with (first | ((with_reducible refine gate_callee (f := 47) rfl ?_); refine goesL_ (some 7) rfl rfl Try.func47 (by kernel_rfl) rfl #[.string a0_0] rfl av_ ?_; (with_reducible refine (impl_IsName.calls k a0_0 true _ A4.out).mono ?_); rintro e w' ⟨rfl, ⟨nd, rfl⟩⟩; refine ⟨_, rfl, ?_⟩) | (go_at_call 48; (with_reducible refine (impl_ValidScale.calls k _ _ l0_1 false _ ?side1 ?side2 A6.out).mono ?_); (case side1 => repeat (first | exact (Kd.C_below HR0_1.out (bg_ HB.out GE243.out)) | (with_reducible refine Kd.C_alloc ?_ _) | (with_reducible refine Kd.C_drewN ?_ _) | (with_reducible refine Kd.C_drew ?_))); (case side2 => exact HC0_1.out); rintro e w' ⟨rfl, ⟨nd, rfl⟩⟩))
    go_meet
    case rel => exact ⟨_, (true), sv_, H', ⟨by first | omega | exact Nat.le_refl _⟩, ⟨by (with_reducible repeat (first | refine blk_drewN ?_ _ | refine blk_drew ?_ | refine blk_alloc ?_ _)); exact BK243.out⟩, ⟨bg_ HB.out GE243.out⟩⟩
  ·replace c5 := Bool.eq_false_iff.mpr c5
   subst c5
   have H1 : (impl_ValidRaga.j0 k true a0_0 l0_1 l0_2 a0_3 a0_4 l0_5) = some r := by rw [if_neg (show ¬ (false = true) by decide)] at H; exact H
   clear H
   have H := H1
   clear H1
   have H' := Aside0.mk H
   clear H
   obtain ⟨hcz29_0, hcz29_1, hcz29_2, hcz29_3, hcz29_4, hcz29_5, hfz29_0⟩ := bx6_ (w := w3) BK243.out
   go_wp2_with (first | ((with_reducible refine gate_callee (f := 47) rfl ?_); refine goesL_ (some 7) rfl rfl Try.func47 (by kernel_rfl) rfl #[.string a0_0] rfl av_ ?_; (with_reducible refine (impl_IsName.calls k a0_0 false _ A4.out).mono ?_); rintro e w' ⟨rfl, ⟨nd, rfl⟩⟩; refine ⟨_, rfl, ?_⟩))
   go_meet
   case rel => exact ⟨_, (true), sv_, H', ⟨by first | omega | exact Nat.le_refl _⟩, ⟨by (with_reducible repeat (first | refine blk_drewN ?_ _ | refine blk_drew ?_ | refine blk_alloc ?_ _)); exact BK243.out⟩, ⟨bg_ HB.out GE243.out⟩⟩
 case rest =>
  clear HC2
  (try clear c1); (try clear p2); (try clear c3); (try clear c4); (try clear c5); (try clear c7); (try clear c9); (try clear c10); (try clear c10b0); (try clear c10b1); (try clear c13); (try clear c15); (try clear hcz11_0); (try clear hcz11_1); (try clear hcz11_2); (try clear hcz11_3); (try clear hcz11_4); (try clear hcz11_5); (try clear hcz16_0); (try clear hcz16_1); (try clear hcz16_2); (try clear hcz16_3); (try clear hcz16_4); (try clear hcz16_5); (try clear hcz18_0); (try clear hcz18_1); (try clear hcz18_2); (try clear hcz18_3); (try clear hcz18_4); (try clear hcz18_5); (try clear hcz20_0); (try clear hcz20_1); (try clear hcz20_2); (try clear hcz20_3); (try clear hcz20_4); (try clear hcz20_5); (try clear hcz21_0); (try clear hcz21_1); (try clear hcz21_2); (try clear hcz21_3); (try clear hcz21_4); (try clear hcz21_5); (try clear hcz23_0); (try clear hcz23_1); (try clear hcz23_2); (try clear hcz23_3); (try clear hcz23_4); (try clear hcz23_5); (try clear hcz25_0); (try clear hcz25_1); (try clear hcz25_2); (try clear hcz25_3); (try clear hcz25_4); (try clear hcz25_5); (try clear hcz27_0); (try clear hcz27_1); (try clear hcz27_2); (try clear hcz27_3); (try clear hcz27_4); (try clear hcz27_5); (try clear hcz28_0); (try clear hcz28_1); (try clear hcz28_2); (try clear hcz28_3); (try clear hcz28_4); (try clear hcz28_5); (try clear hcz29_0); (try clear hcz29_1); (try clear hcz29_2); (try clear hcz29_3); (try clear hcz29_4); (try clear hcz29_5); (try clear hfz11_0); (try clear hfz16_0); (try clear hfz18_0); (try clear hfz20_0); (try clear hfz21_0); (try clear hfz23_0); (try clear hfz25_0); (try clear hfz27_0); (try clear hfz28_0); (try clear hfz29_0)
  obtain ⟨kq, x47_1, rfl, HA, HJ1, BK243, HB⟩ := hcut
  cases kq with
  | zero => exact absurd HA.out (by simp [impl_ValidRaga.j0])
  | succ kj1 =>
   have H := HA.out
   clear HA
   simp only [impl_ValidRaga.j0] at H
   by_cases c30 : x47_1 = true
   ·subst c30
    have H1 : (some false) = some r := by rw [if_pos rfl] at H; exact H
    clear H; have H := H1; clear H1
    obtain rfl := Option.some.inj H
    go_wp2
    go_ret
    exact ⟨by first | rfl | (simp [errW_none, errW_some] <;> rfl) | (simp [*, errW_none, errW_some] <;> rfl), bg_ HB.out GE243.out⟩
   ·replace c30 := Bool.eq_false_iff.mpr c30
    subst c30
    have H1 : (impl_ValidRaga.l0 kj1 l0_5 (l0_5.length : Int) 0 a0_0 l0_1 l0_2 a0_3 a0_4 l0_5) = some r := by rw [if_neg (show ¬ (false = true) by decide)] at H; exact H
    clear H; have H := H1; clear H1
    have H' := Aside0.mk H
    clear H
    obtain ⟨hcz31_0, hcz31_1, hcz31_2, hcz31_3, hcz31_4, hcz31_5, hfz31_0⟩ := bx6_ (w := wc) BK243.out
    go_wp2
    go_loopg [51] kj1 (fun kq v51 w' => ∃ (x51_2 : Int), v51 = .int .i64 x51_2 ∧ Aside0 (impl_ValidRaga.l0 kq l0_5 (l0_5.length : Int) x51_2 a0_0 l0_1 l0_2 a0_3 a0_4 l0_5 = some r) ∧ Aside0 (kq ≤ kj1) ∧ Aside0 (w'.heap[gb243]? = some (.cells #[.string a0_0, (.slice A0_1 l0_1.length c0_1), (.slice A0_2 l0_2.length c0_2), .int .i64 a0_3, .int .i64 a0_4, (.slice A0_5 l0_5.length c0_5)] 42 (0, 0))) ∧ Aside0 (Below w.heap.size w w'))
    case atStart => exact ⟨(0), sv_, H', ⟨Nat.le_refl _⟩, ⟨by (with_reducible repeat (first | refine blk_drewN ?_ _ | refine blk_drew ?_ | refine blk_alloc ?_ _)); exact BK243.out⟩, ⟨bg_ HB.out GE243.out⟩⟩
    case round =>
     clear H'
     (try clear c1); (try clear p2); (try clear c3); (try clear c4); (try clear c5); (try clear c7); (try clear c9); (try clear c10); (try clear c10b0); (try clear c10b1); (try clear c13); (try clear c15); (try clear c30); (try clear hcz11_0); (try clear hcz11_1); (try clear hcz11_2); (try clear hcz11_3); (try clear hcz11_4); (try clear hcz11_5); (try clear hcz16_0); (try clear hcz16_1); (try clear hcz16_2); (try clear hcz16_3); (try clear hcz16_4); (try clear hcz16_5); (try clear hcz18_0); (try clear hcz18_1); (try clear hcz18_2); (try clear hcz18_3); (try clear hcz18_4); (try clear hcz18_5); (try clear hcz20_0); (try clear hcz20_1); (try clear hcz20_2); (try clear hcz20_3); (try clear hcz20_4); (try clear hcz20_5); (try clear hcz21_0); (try clear hcz21_1); (try clear hcz21_2); (try clear hcz21_3); (try clear hcz21_4); (try clear hcz21_5); (try clear hcz23_0); (try clear hcz23_1); (try clear hcz23_2); (try clear hcz23_3); (try clear hcz23_4); (try clear hcz23_5); (try clear hcz25_0); (try clear hcz25_1); (try clear hcz25_2); (try clear hcz25_3); (try clear hcz25_4); (try clear hcz25_5); (try clear hcz27_0); (try clear hcz27_1); (try clear hcz27_2); (try clear hcz27_3); (try clear hcz27_4); (try clear hcz27_5); (try clear hcz28_0); (try clear hcz28_1); (try clear hcz28_2); (try clear hcz28_3); (try clear hcz28_4); (try clear hcz28_5); (try clear hcz29_0); (try clear hcz29_1); (try clear hcz29_2); (try clear hcz29_3); (try clear hcz29_4); (try clear hcz29_5); (try clear hcz31_0); (try clear hcz31_1); (try clear hcz31_2); (try clear hcz31_3); (try clear hcz31_4); (try clear hcz31_5); (try clear hfz11_0); (try clear hfz16_0); (try clear hfz18_0); (try clear hfz20_0); (try clear hfz21_0); (try clear hfz23_0); (try clear hfz25_0); (try clear hfz27_0); (try clear hfz28_0); (try clear hfz29_0); (try clear hfz31_0); (try clear p2)
     obtain ⟨x51_2, rfl, HA, HK2, BK243, HB⟩ := hrel
     cases gk with
     | zero => exact absurd HA.out (by simp [impl_ValidRaga.l0])
     | succ k2 =>
      have H := HA.out; clear HA
      simp only [impl_ValidRaga.l0] at H
      by_cases c32 : x51_2 < (l0_5.length : Int)
      ·rw [if_pos c32] at H
       have c32b0 : decide (x51_2 < (l0_5.length : Int)) = true := decide_eq_true c32
       clear c32
       by_cases c33 : 0 ≤ x51_2
       ·rw [if_pos c33] at H
        have c33b0 : decide (0 ≤ x51_2) = true := decide_eq_true c33
        clear c33
        by_cases c34 : x51_2 < (l0_5.length : Int)
        ·rw [if_pos c34] at H
         have c34b0 : decide (x51_2 < (l0_5.length : Int)) = true := decide_eq_true c34
         clear c34
         by_cases c35 : ((rd_L1 l0_5 x51_2).length : Int) = 2
         ·rw [if_pos c35] at H
          have c35b0 : (((rd_L1 l0_5 x51_2).length : Int) == 2) = true := beq_iff_eq.mpr c35
          have c35b1 : (((rd_L1 l0_5 x51_2).length : Int) != 2) = false := bne_eq_false_iff_eq.mpr c35
          clear c35
          by_cases c36 : 0 < ((rd_L1 l0_5 x51_2).length : Int)
          ·rw [if_pos c36] at H
           have c36b0 : decide (0 < ((rd_L1 l0_5 x51_2).length : Int)) = true := decide_eq_true c36
           have c36b1 : decide (0 < (rd_L1 l0_5 x51_2).length) = true := decide_eq_true (by omega)
           clear c36
           replace H := Option.bind_eq_some_iff.mp H
           obtain ⟨t251, A370, H⟩ := H
           replace H : (if t251 = true then (if 1 < ((rd_L1 l0_5 x51_2).length : Int) then ((impl_toneOk.f (rd (rd_L1 l0_5 x51_2) 1)).bind fun t253 => (if t253 = true then (if (rd (rd_L1 l0_5 x51_2) 0) = (rd (rd_L1 l0_5 x51_2) 1) then (some false) else (if x51_2 > 0 then (if 0 ≤ (wrap64 (x51_2 - 1)) then (if (wrap64 (x51_2 - 1)) < (l0_5.length : Int) then ((slices_Compare_int64_int64.f k2 (rd_L1 l0_5 (wrap64 (x51_2 - 1))) (rd_L1 l0_5 x51_2)).bind fun t257 => (if t257 ≥ 0 then (some false) else (impl_ValidRaga.l0 k2 l0_5 (l0_5.length : Int) (wrap64 (x51_2 + 1)) a0_0 l0_1 l0_2 a0_3 a0_4 l0_5))) else (none)) else (none)) else (impl_ValidRaga.l0 k2 l0_5 (l0_5.length : Int) (wrap64 (x51_2 + 1)) a0_0 l0_1 l0_2 a0_3 a0_4 l0_5))) else (some false))) else (none)) else (some false)) = some r := H
           have A37 := Aside0.mk A370; clear A370
           by_cases c38 : t251 = true
           ·subst c38
            have H1 : (if 1 < ((rd_L1 l0_5 x51_2).length : Int) then ((impl_toneOk.f (rd (rd_L1 l0_5 x51_2) 1)).bind fun t253 => (if t253 = true then (if (rd (rd_L1 l0_5 x51_2) 0) = (rd (rd_L1 l0_5 x51_2) 1) then (some false) else (if x51_2 > 0 then (if 0 ≤ (wrap64 (x51_2 - 1)) then (if (wrap64 (x51_2 - 1)) < (l0_5.length : Int) then ((slices_Compare_int64_int64.f k2 (rd_L1 l0_5 (wrap64 (x51_2 - 1))) (rd_L1 l0_5 x51_2)).bind fun t257 => (if t257 ≥ 0 then (some false) else (impl_ValidRaga.l0 k2 l0_5 (l0_5.length : Int) (wrap64 (x51_2 + 1)) a0_0 l0_1 l0_2 a0_3 a0_4 l0_5))) else (none)) else (none)) else (impl_ValidRaga.l0 k2 l0_5 (l0_5.length : Int) (wrap64 (x51_2 + 1)) a0_0 l0_1 l0_2 a0_3 a0_4 l0_5))) else (some false))) else (none)) = some r := by rw [if_pos rfl] at H; exact H
            clear H; have H := H1; clear H1
            by_cases c39 : 1 < ((rd_L1 l0_5 x51_2).length : Int)
            ·rw [if_pos c39] at H
             have c39b0 : decide (1 < ((rd_L1 l0_5 x51_2).length : Int)) = true := decide_eq_true c39
             have c39b1 : decide (1 < (rd_L1 l0_5 x51_2).length) = true := decide_eq_true (by omega)
             clear c39
             replace H := Option.bind_eq_some_iff.mp H
             obtain ⟨t253, A400, H⟩ := H
             replace H : (if t253 = true then (if (rd (rd_L1 l0_5 x51_2) 0) = (rd (rd_L1 l0_5 x51_2) 1) then (some false) else (if x51_2 > 0 then (if 0 ≤ (wrap64 (x51_2 - 1)) then (if (wrap64 (x51_2 - 1)) < (l0_5.length : Int) then ((slices_Compare_int64_int64.f k2 (rd_L1 l0_5 (wrap64 (x51_2 - 1))) (rd_L1 l0_5 x51_2)).bind fun t257 => (if t257 ≥ 0 then (some false) else (impl_ValidRaga.l0 k2 l0_5 (l0_5.length : Int) (wrap64 (x51_2 + 1)) a0_0 l0_1 l0_2 a0_3 a0_4 l0_5))) else (none)) else (none)) else (impl_ValidRaga.l0 k2 l0_5 (l0_5.length : Int) (wrap64 (x51_2 + 1)) a0_0 l0_1 l0_2 a0_3 a0_4 l0_5))) else (some false)) = some r := H
             have A40 := Aside0.mk A400; clear A400
             by_cases c41 : t253 = true
             ·subst c41
              have H1 : (if (rd (rd_L1 l0_5 x51_2) 0) = (rd (rd_L1 l0_5 x51_2) 1) then (some false) else (if x51_2 > 0 then (if 0 ≤ (wrap64 (x51_2 - 1)) then (if (wrap64 (x51_2 - 1)) < (l0_5.length : Int) then ((slices_Compare_int64_int64.f k2 (rd_L1 l0_5 (wrap64 (x51_2 - 1))) (rd_L1 l0_5 x51_2)).bind fun t257 => (if t257 ≥ 0 then (some false) else (impl_ValidRaga.l0 k2 l0_5 (l0_5.length : Int) (wrap64 (x51_2 + 1)) a0_0 l0_1 l0_2 a0_3 a0_4 l0_5))) else (none)) else (none)) else (impl_ValidRaga.l0 k2 l0_5 (l0_5.length : Int) (wrap64 (x51_2 + 1)) a0_0 l0_1 l0_2 a0_3 a0_4 l0_5))) = some r := by rw [if_pos rfl] at H; exact H
              clear H; have H := H1; clear H1
              by_cases c42 : (rd (rd_L1 l0_5 x51_2) 0) = (rd (rd_L1 l0_5 x51_2) 1)
              ·rw [if_pos c42] at H
               have c42b0 : ((rd (rd_L1 l0_5 x51_2) 0) == (rd (rd_L1 l0_5 x51_2) 1)) = true := beq_iff_eq.mpr c42
               have c42b1 : ((rd (rd_L1 l0_5 x51_2) 0) != (rd (rd_L1 l0_5 x51_2) 1)) = false := bne_eq_false_iff_eq.mpr c42
               clear c42
               obtain rfl := Option.some.inj H
               have p249 : 0 ≤ (x51_2 : Int) := da_
               have q249 : x51_2 < (l0_5.length : Int) := da_
               obtain ⟨ad249, A249_0, c249_0, e249, hx249_0, hl249_0, hi249_0⟩ := at_L1 HR0_5.out x51_2 p249 q249; cases e249
               replace hx249_0 := (wc_ HB.out hx249_0 :)
               have HR249_0 := Aside0.mk hi249_0; have HC249_0 := Aside0.mk hl249_0; clear hi249_0 hl249_0; replace p249 := eq_true p249; replace q249 := eq_true q249
               try go_wp2
               have n0_ := Aside0.mk (blk_drew BK243.out)
               have n1_ := Aside0.mk (below_drew1 HB.out)
               clear BK243; clear HB; have BK243 := n0_; have HB := n1_; clear n0_ n1_
               have p250 : 0 ≤ (0 : Int) := (by omega)
               have q250 : 0 < ((rd_L1 l0_5 x51_2).length : Int) := da_
               obtain ⟨ad250, e250, hx250_0⟩ := Kd.at_int HR249_0.out 0 p250 q250; have hw250_0 := hx250_0; (try rw [show ((0 : Int)).toNat = 0 from rfl] at hw250_0); (try rw [show 0 * 1 = 0 from rfl] at hw250_0); (try rw [Addr.add_zero'] at hw250_0); cases e250
               have qi250 : (0 < (rd_L1 l0_5 x51_2).length) = True := eq_true (by omega)
               (try rw [show ((0 : Int)).toNat = 0 from rfl] at hx250_0); (try rw [Addr.add_zero'] at hx250_0)
               replace hx250_0 := (wc_ HB.out hx250_0 :)
               replace p250 := eq_true p250; replace q250 := eq_true q250
               have p252 : 0 ≤ (1 : Int) := (by omega)
               have q252 : 1 < ((rd_L1 l0_5 x51_2).length : Int) := da_
               obtain ⟨ad252, e252, hx252_0⟩ := Kd.at_int HR249_0.out 1 p252 q252; have hw252_0 := hx252_0; (try rw [show ((1 : Int)).toNat = 1 from rfl] at hw252_0); (try rw [show 1 * 1 = 1 from rfl] at hw252_0); (try simp only [Nat.reduceMul, Nat.reduceEqDiff, Go.Addr.add, ↓reduceIte] at hw252_0); obtain rfl : ad250 = ad252 := (by injection e252); (try simp only [show (1 : Int).toNat = 1 from rfl, Nat.reduceMul, Nat.reduceEqDiff, Go.Addr.add, ↓reduceIte] at hx252_0)
               have qi252 : (1 < (rd_L1 l0_5 x51_2).length) = True := eq_true (by omega)
               (try rw [show ((1 : Int)).toNat = 1 from rfl] at hx252_0)
               replace hx252_0 := (wc_ HB.out hx252_0 :)
               replace p252 := eq_true p252; replace q252 := eq_true q252
               have p254 : 0 ≤ (0 : Int) := (by omega)
               have q254 : 0 < ((rd_L1 l0_5 x51_2).length : Int) := da_
               obtain ⟨ad254, e254, hx254_0⟩ := Kd.at_int HR249_0.out 0 p254 q254; have hw254_0 := hx254_0; (try rw [show ((0 : Int)).toNat = 0 from rfl] at hw254_0); (try rw [show 0 * 1 = 0 from rfl] at hw254_0); (try rw [Addr.add_zero'] at hw254_0); obtain rfl : ad250 = ad254 := (by injection e254)
               have qi254 : (0 < (rd_L1 l0_5 x51_2).length) = True := eq_true (by omega)
               (try rw [show ((0 : Int)).toNat = 0 from rfl] at hx254_0); (try rw [Addr.add_zero'] at hx254_0)
               replace hx254_0 := (wc_ HB.out hx254_0 :)
               replace p254 := eq_true p254; replace q254 := eq_true q254
               have p255 : 0 ≤ (1 : Int) := (by omega)
               have q255 : 1 < ((rd_L1 l0_5 x51_2).length : Int) := da_
               obtain ⟨ad255, e255, hx255_0⟩ := Kd.at_int HR249_0.out 1 p255 q255; have hw255_0 := hx255_0; (try rw [show ((1 : Int)).toNat = 1 from rfl] at hw255_0); (try rw [show 1 * 1 = 1 from rfl] at hw255_0); (try simp only [Nat.reduceMul, Nat.reduceEqDiff, Go.Addr.add, ↓reduceIte] at hw255_0); obtain rfl : ad250 = ad255 := (by injection e255); (try simp only [show (1 : Int).toNat = 1 from rfl, Nat.reduceMul, Nat.reduceEqDiff, Go.Addr.add, ↓reduceIte] at hx255_0)
               have qi255 : (1 < (rd_L1 l0_5 x51_2).length) = True := eq_true (by omega)
               (try rw [show ((1 : Int)).toNat = 1 from rfl] at hx255_0)
               replace hx255_0 := (wc_ HB.out hx255_0 :)
               replace p255 := eq_true p255; replace q255 := eq_true q255
               refine start_ (n := 41) (S := fun w' => w'.cell? ad250 = some (.int .i64 (rd (rd_L1 l0_5 x51_2) 0)) ∧ w'.cell? ⟨ad250.block, ad250.off + 1, none⟩ = some (.int .i64 (rd (rd_L1 l0_5 x51_2) 1)) ∧ w'.cell? ad250 = some (.int .i64 (rd (rd_L1 l0_5 x51_2) 0)) ∧ w'.cell? ⟨ad250.block, ad250.off + 1, none⟩ = some (.int .i64 (rd (rd_L1 l0_5 x51_2) 1))) (ds := []) impl_ValidRaga.K0 (by kernel_rfl) rfl rfl ⟨(wc_ HB.out hw250_0 :), (wc_ HB.out hw252_0 :), (wc_ HB.out hw254_0 :), (wc_ HB.out hw255_0 :)⟩ (fun hHeld => ?_); refine with_tabW impl_ValidRaga.tab6 impl_ValidRaga.bits6 (fun HT_ HW_ => ?_)
               generalize wr.drew = w43 at BK243 HB hx250_0 hx252_0 hx254_0 hx255_0 hHeld ⊢
               refine pu_ HT_ 0 56 impl_ValidRaga.K1 ?_; refine pu_ HT_ 1 57 impl_ValidRaga.K2 ?_; refine pu_ HT_ 2 58 impl_ValidRaga.K3 ?_; refine pu_ HT_ 3 59 impl_ValidRaga.K4 ?_; refine pu_ HT_ 4 60 impl_ValidRaga.K5 ?_; refine pu_ HT_ 5 61 impl_ValidRaga.K6 ?_; refine tk_ HT_ HW_ hHeld 6 62 impl_ValidRaga.K7 ?_
               refine one_ (i := 7) (N := some 63) impl_ValidRaga.K8 rfl rfl (one_of HT_.out (by kernel_rfl)) (by decide) (fun K hK => ?_)
               refine goes_ Try.func49 (by kernel_rfl) rfl #[.int .i64 (rd (rd_L1 l0_5 x51_2) 0)] (by rfl) rfl rfl av_ ?_
               with_reducible refine (impl_toneOk.calls (rd (rd_L1 l0_5 x51_2) 0) true _ A37.out).mono ?_
               rintro e w' ⟨rfl, ⟨nd, rfl⟩⟩
               refine ⟨_, rfl, ?_⟩
               refine hK.out _ _ ⟨(wc_ HB.out hw250_0 :), (wc_ HB.out hw252_0 :), (wc_ HB.out hw254_0 :), (wc_ HB.out hw255_0 :)⟩ (fun hHeld => ?_)
               clear hK K; refine norm_ (a' := ?_) ?_ ?_; rotate_left
               ·show Act.put _ (some 63) _ = _
                go_simp
                rfl
               refine pu_ HT_ 8 64 impl_ValidRaga.K9 ?_; refine pu_ HT_ 9 65 impl_ValidRaga.K10 ?_; refine pu_ HT_ 10 66 impl_ValidRaga.K11 ?_; refine pu_ HT_ 11 67 impl_ValidRaga.K12 ?_; refine pu_ HT_ 12 68 impl_ValidRaga.K13 ?_; refine tk_ HT_ HW_ hHeld 13 69 impl_ValidRaga.K14 ?_
               refine one_ (i := 14) (N := some 70) impl_ValidRaga.K15 rfl rfl (one_of HT_.out (by kernel_rfl)) (by decide) (fun K hK => ?_)
               refine goes_ Try.func49 (by kernel_rfl) rfl #[.int .i64 (rd (rd_L1 l0_5 x51_2) 1)] (by rfl) rfl rfl av_ ?_
               with_reducible refine (impl_toneOk.calls (rd (rd_L1 l0_5 x51_2) 1) true _ A40.out).mono ?_
               rintro e w' ⟨rfl, ⟨nd, rfl⟩⟩
               refine ⟨_, rfl, ?_⟩
               refine hK.out _ _ ⟨(wc_ HB.out hw250_0 :), (wc_ HB.out hw252_0 :), (wc_ HB.out hw254_0 :), (wc_ HB.out hw255_0 :)⟩ (fun hHeld => ?_)
               clear hK K; refine norm_ (a' := ?_) ?_ ?_; rotate_left
               ·show Act.put _ (some 70) _ = _
                go_simp
                rfl
               refine pu_ HT_ 15 71 impl_ValidRaga.K16 ?_; refine pu_ HT_ 16 72 impl_ValidRaga.K17 ?_; refine pu_ HT_ 17 73 impl_ValidRaga.K18 ?_; refine pu_ HT_ 18 74 impl_ValidRaga.K19 ?_; refine pu_ HT_ 19 75 impl_ValidRaga.K20 ?_; refine pu_ HT_ 21 77 impl_ValidRaga.K21 ?_; refine pu_ HT_ 22 78 impl_ValidRaga.K22 ?_; refine tk_ HT_ HW_ hHeld 20 76 impl_ValidRaga.K23 ?_; refine tk_ HT_ HW_ hHeld 23 79 impl_ValidRaga.K24 ?_; refine pu_ HT_ 24 80 impl_ValidRaga.K25 ?_; refine pu_ HT_ 25 81 impl_ValidRaga.K26 ?_; refine pu_ HT_ 26 82 impl_ValidRaga.K27 ?_; refine un_ HT_ 27 83 impl_ValidRaga.K28 ?_; refine un_ HT_ 28 84 impl_ValidRaga.K29 ?_; refine un_ HT_ 29 85 impl_ValidRaga.K30 ?_; refine un_ HT_ 30 86 impl_ValidRaga.K31 ?_; refine un_ HT_ 31 87 impl_ValidRaga.K32 ?_; refine un_ HT_ 32 88 impl_ValidRaga.K33 ?_; refine un_ HT_ 33 89 impl_ValidRaga.K34 ?_; refine un_ HT_ 34 90 impl_ValidRaga.K35 ?_; refine un_ HT_ 35 91 impl_ValidRaga.K36 ?_; refine un_ HT_ 36 92 impl_ValidRaga.K37 ?_; refine un_ HT_ 37 93 impl_ValidRaga.K38 ?_; refine un_ HT_ 38 94 impl_ValidRaga.K39 ?_; refine un_ HT_ 39 95 impl_ValidRaga.K40 ?_; refine pu_ HT_ 40 96 impl_ValidRaga.K41 ?_
               refine done_ (done_of HT_.out (by kernel_rfl)) ?_
               try go_wp2
               go_ret
               exact ⟨by first | rfl | (simp [errW_none, errW_some] <;> rfl) | (simp [*, errW_none, errW_some] <;> rfl), bg_ HB.out GE243.out⟩
              ·rw [if_neg c42] at H
               have c42b0 : ((rd (rd_L1 l0_5 x51_2) 0) == (rd (rd_L1 l0_5 x51_2) 1)) = false := beq_eq_false_iff_ne.mpr c42
               have c42b1 : ((rd (rd_L1 l0_5 x51_2) 0) != (rd (rd_L1 l0_5 x51_2) 1)) = true := bne_iff_ne.mpr c42
               by_cases c44 : x51_2 > 0
               ·rw [if_pos c44] at H
                have c44b0 : decide (0 < x51_2) = true := decide_eq_true c44
                clear c44
                obtain ⟨ji45, hji45⟩ : ∃ j_ : Int, (wrap64 (x51_2 - 1)) = j_ := ⟨_, rfl⟩
                replace H : (if 0 ≤ (ji45) then (if (ji45) < (l0_5.length : Int) then ((slices_Compare_int64_int64.f k2 (rd_L1 l0_5 (ji45)) (rd_L1 l0_5 x51_2)).bind fun t257 => (if t257 ≥ 0 then (some false) else (impl_ValidRaga.l0 k2 l0_5 (l0_5.length : Int) (wrap64 (x51_2 + 1)) a0_0 l0_1 l0_2 a0_3 a0_4 l0_5))) else (none)) else (none)) = some r := by first | (rw [hji45] at H; exact H) | (simp only [hji45] at H ⊢; exact H)
                (try rw [hji45] at A37); (try rw [hji45] at A40)
                have hji45w : (IntKind.i64.wrap (x51_2 - 1)) = ji45 := (i64_w _).trans hji45
                by_cases c46 : 0 ≤ (ji45)
                ·rw [if_pos c46] at H
                 have c46b0 : decide (0 ≤ (ji45)) = true := decide_eq_true c46
                 clear c46
                 by_cases c47 : (ji45) < (l0_5.length : Int)
                 ·rw [if_pos c47] at H
                  have c47b0 : decide ((ji45) < (l0_5.length : Int)) = true := decide_eq_true c47
                  clear c47
                  replace H := Option.bind_eq_some_iff.mp H
                  obtain ⟨t257, A480, H⟩ := H
                  replace H : (if t257 ≥ 0 then (some false) else (impl_ValidRaga.l0 k2 l0_5 (l0_5.length : Int) (wrap64 (x51_2 + 1)) a0_0 l0_1 l0_2 a0_3 a0_4 l0_5)) = some r := H
                  have A48 := Aside0.mk A480; clear A480
                  by_cases c49 : t257 ≥ 0
                  ·rw [if_pos c49] at H
                   have c49b0 : decide (0 ≤ t257) = true := decide_eq_true c49
                   clear c49
                   obtain rfl := Option.some.inj H
                   have p249 : 0 ≤ (x51_2 : Int) := da_
                   have q249 : x51_2 < (l0_5.length : Int) := da_
                   obtain ⟨ad249, A249_0, c249_0, e249, hx249_0, hl249_0, hi249_0⟩ := at_L1 HR0_5.out x51_2 p249 q249; cases e249
                   replace hx249_0 := (wc_ HB.out hx249_0 :)
                   have HR249_0 := Aside0.mk hi249_0; have HC249_0 := Aside0.mk hl249_0; clear hi249_0 hl249_0; replace p249 := eq_true p249; replace q249 := eq_true q249
                   try go_wp2
                   have n0_ := Aside0.mk (blk_drew BK243.out)
                   have n1_ := Aside0.mk (below_drew1 HB.out)
                   clear BK243; clear HB; have BK243 := n0_; have HB := n1_; clear n0_ n1_
                   have p250 : 0 ≤ (0 : Int) := (by omega)
                   have q250 : 0 < ((rd_L1 l0_5 x51_2).length : Int) := da_
                   obtain ⟨ad250, e250, hx250_0⟩ := Kd.at_int HR249_0.out 0 p250 q250; have hw250_0 := hx250_0; (try rw [show ((0 : Int)).toNat = 0 from rfl] at hw250_0); (try rw [show 0 * 1 = 0 from rfl] at hw250_0); (try rw [Addr.add_zero'] at hw250_0); cases e250
                   have qi250 : (0 < (rd_L1 l0_5 x51_2).length) = True := eq_true (by omega)
                   (try rw [show ((0 : Int)).toNat = 0 from rfl] at hx250_0); (try rw [Addr.add_zero'] at hx250_0)
                   replace hx250_0 := (wc_ HB.out hx250_0 :)
                   replace p250 := eq_true p250; replace q250 := eq_true q250
                   have p252 : 0 ≤ (1 : Int) := (by omega)
                   have q252 : 1 < ((rd_L1 l0_5 x51_2).length : Int) := da_
                   obtain ⟨ad252, e252, hx252_0⟩ := Kd.at_int HR249_0.out 1 p252 q252; have hw252_0 := hx252_0; (try rw [show ((1 : Int)).toNat = 1 from rfl] at hw252_0); (try rw [show 1 * 1 = 1 from rfl] at hw252_0); (try simp only [Nat.reduceMul, Nat.reduceEqDiff, Go.Addr.add, ↓reduceIte] at hw252_0); obtain rfl : ad250 = ad252 := (by injection e252); (try simp only [show (1 : Int).toNat = 1 from rfl, Nat.reduceMul, Nat.reduceEqDiff, Go.Addr.add, ↓reduceIte] at hx252_0)
                   have qi252 : (1 < (rd_L1 l0_5 x51_2).length) = True := eq_true (by omega)
                   (try rw [show ((1 : Int)).toNat = 1 from rfl] at hx252_0)
                   replace hx252_0 := (wc_ HB.out hx252_0 :)
                   replace p252 := eq_true p252; replace q252 := eq_true q252
                   have p254 : 0 ≤ (0 : Int) := (by omega)
                   have q254 : 0 < ((rd_L1 l0_5 x51_2).length : Int) := da_
                   obtain ⟨ad254, e254, hx254_0⟩ := Kd.at_int HR249_0.out 0 p254 q254; have hw254_0 := hx254_0; (try rw [show ((0 : Int)).toNat = 0 from rfl] at hw254_0); (try rw [show 0 * 1 = 0 from rfl] at hw254_0); (try rw [Addr.add_zero'] at hw254_0); obtain rfl : ad250 = ad254 := (by injection e254)
                   have qi254 : (0 < (rd_L1 l0_5 x51_2).length) = True := eq_true (by omega)
                   (try rw [show ((0 : Int)).toNat = 0 from rfl] at hx254_0); (try rw [Addr.add_zero'] at hx254_0)
                   replace hx254_0 := (wc_ HB.out hx254_0 :)
                   replace p254 := eq_true p254; replace q254 := eq_true q254
                   have p255 : 0 ≤ (1 : Int) := (by omega)
                   have q255 : 1 < ((rd_L1 l0_5 x51_2).length : Int) := da_
                   obtain ⟨ad255, e255, hx255_0⟩ := Kd.at_int HR249_0.out 1 p255 q255; have hw255_0 := hx255_0; (try rw [show ((1 : Int)).toNat = 1 from rfl] at hw255_0); (try rw [show 1 * 1 = 1 from rfl] at hw255_0); (try simp only [Nat.reduceMul, Nat.reduceEqDiff, Go.Addr.add, ↓reduceIte] at hw255_0); obtain rfl : ad250 = ad255 := (by injection e255); (try simp only [show (1 : Int).toNat = 1 from rfl, Nat.reduceMul, Nat.reduceEqDiff, Go.Addr.add, ↓reduceIte] at hx255_0)
                   have qi255 : (1 < (rd_L1 l0_5 x51_2).length) = True := eq_true (by omega)
                   (try rw [show ((1 : Int)).toNat = 1 from rfl] at hx255_0)
                   replace hx255_0 := (wc_ HB.out hx255_0 :)
                   replace p255 := eq_true p255; replace q255 := eq_true q255
                   have p256 : 0 ≤ ((ji45) : Int) := da_
                   have q256 : (ji45) < (l0_5.length : Int) := da_
                   obtain ⟨ad256, A256_0, c256_0, e256, hx256_0, hl256_0, hi256_0⟩ := at_L1 HR0_5.out (ji45) p256 q256; have hw256_0 := hx256_0; obtain rfl : ad249 = ad256 := (by injection e256)
                   replace hx256_0 := (wc_ HB.out hx256_0 :)
                   have HR256_0 := Aside0.mk hi256_0; have HC256_0 := Aside0.mk hl256_0; clear hi256_0 hl256_0; replace p256 := eq_true p256; replace q256 := eq_true q256
                   refine start_ (n := 41) (S := fun w' => w'.cell? ⟨gb243, 0, none⟩ = some (.string a0_0) ∧ w'.cell? ⟨gb243, 1, none⟩ = some (.slice A0_1 l0_1.length c0_1) ∧ w'.cell? ⟨gb243, 2, none⟩ = some (.slice A0_2 l0_2.length c0_2) ∧ w'.cell? ⟨gb243, 3, none⟩ = some (.int .i64 a0_3) ∧ w'.cell? ⟨gb243, 4, none⟩ = some (.int .i64 a0_4) ∧ w'.cell? ⟨gb243, 5, none⟩ = some (.slice (some ad249) l0_5.length c0_5) ∧ w'.cell? ad250 = some (.int .i64 (rd (rd_L1 l0_5 x51_2) 0)) ∧ w'.cell? ⟨ad250.block, ad250.off + 1, none⟩ = some (.int .i64 (rd (rd_L1 l0_5 x51_2) 1)) ∧ w'.cell? ad250 = some (.int .i64 (rd (rd_L1 l0_5 x51_2) 0)) ∧ w'.cell? ⟨ad250.block, ad250.off + 1, none⟩ = some (.int .i64 (rd (rd_L1 l0_5 x51_2) 1)) ∧ w'.cell? (ad249.add ((ji45)).toNat) = some (.slice A256_0 (rd_L1 l0_5 (ji45)).length c256_0)) (ds := []) impl_ValidRaga.K0 (by kernel_rfl) rfl rfl ⟨(blk_cell BK243.out 0).trans rfl, (blk_cell BK243.out 1).trans rfl, (blk_cell BK243.out 2).trans rfl, (blk_cell BK243.out 3).trans rfl, (blk_cell BK243.out 4).trans rfl, (blk_cell BK243.out 5).trans rfl, (wc_ HB.out hw250_0 :), (wc_ HB.out hw252_0 :), (wc_ HB.out hw254_0 :), (wc_ HB.out hw255_0 :), (wc_ HB.out hw256_0 :)⟩ (fun hHeld => ?_); refine with_tabW impl_ValidRaga.tab6 impl_ValidRaga.bits6 (fun HT_ HW_ => ?_)
                   generalize wr.drew = w50 at BK243 HB HR256_0 hx250_0 hx252_0 hx254_0 hx255_0 hx256_0 hHeld ⊢
                   refine pu_ HT_ 0 56 impl_ValidRaga.K1 ?_; refine pu_ HT_ 1 57 impl_ValidRaga.K2 ?_; refine pu_ HT_ 2 58 impl_ValidRaga.K3 ?_; refine pu_ HT_ 3 59 impl_ValidRaga.K4 ?_; refine pu_ HT_ 4 60 impl_ValidRaga.K5 ?_; refine pu_ HT_ 5 61 impl_ValidRaga.K6 ?_; refine tk_ HT_ HW_ hHeld 6 62 impl_ValidRaga.K7 ?_
                   refine one_ (i := 7) (N := some 63) impl_ValidRaga.K8 rfl rfl (one_of HT_.out (by kernel_rfl)) (by decide) (fun K hK => ?_)
                   refine goes_ Try.func49 (by kernel_rfl) rfl #[.int .i64 (rd (rd_L1 l0_5 x51_2) 0)] (by rfl) rfl rfl av_ ?_
                   with_reducible refine (impl_toneOk.calls (rd (rd_L1 l0_5 x51_2) 0) true _ A37.out).mono ?_
                   rintro e w' ⟨rfl, ⟨nd, rfl⟩⟩
                   refine ⟨_, rfl, ?_⟩
                   refine hK.out _ _ ⟨(blk_cell BK243.out 0).trans rfl, (blk_cell BK243.out 1).trans rfl, (blk_cell BK243.out 2).trans rfl, (blk_cell BK243.out 3).trans rfl, (blk_cell BK243.out 4).trans rfl, (blk_cell BK243.out 5).trans rfl, (wc_ HB.out hw250_0 :), (wc_ HB.out hw252_0 :), (wc_ HB.out hw254_0 :), (wc_ HB.out hw255_0 :), (wc_ HB.out hw256_0 :)⟩ (fun hHeld => ?_)
                   clear hK K; refine norm_ (a' := ?_) ?_ ?_; rotate_left
                   ·show Act.put _ (some 63) _ = _
                    go_simp
                    rfl
                   refine pu_ HT_ 8 64 impl_ValidRaga.K9 ?_; refine pu_ HT_ 9 65 impl_ValidRaga.K10 ?_; refine pu_ HT_ 10 66 impl_ValidRaga.K11 ?_; refine pu_ HT_ 11 67 impl_ValidRaga.K12 ?_; refine pu_ HT_ 12 68 impl_ValidRaga.K13 ?_; refine tk_ HT_ HW_ hHeld 13 69 impl_ValidRaga.K14 ?_
                   refine one_ (i := 14) (N := some 70) impl_ValidRaga.K15 rfl rfl (one_of HT_.out (by kernel_rfl)) (by decide) (fun K hK => ?_)
                   refine goes_ Try.func49 (by kernel_rfl) rfl #[.int .i64 (rd (rd_L1 l0_5 x51_2) 1)] (by rfl) rfl rfl av_ ?_
                   with_reducible refine (impl_toneOk.calls (rd (rd_L1 l0_5 x51_2) 1) true _ A40.out).mono ?_
                   rintro e w' ⟨rfl, ⟨nd, rfl⟩⟩
                   refine ⟨_, rfl, ?_⟩
                   refine hK.out _ _ ⟨(blk_cell BK243.out 0).trans rfl, (blk_cell BK243.out 1).trans rfl, (blk_cell BK243.out 2).trans rfl, (blk_cell BK243.out 3).trans rfl, (blk_cell BK243.out 4).trans rfl, (blk_cell BK243.out 5).trans rfl, (wc_ HB.out hw250_0 :), (wc_ HB.out hw252_0 :), (wc_ HB.out hw254_0 :), (wc_ HB.out hw255_0 :), (wc_ HB.out hw256_0 :)⟩ (fun hHeld => ?_)
                   clear hK K; refine norm_ (a' := ?_) ?_ ?_; rotate_left
                   ·show Act.put _ (some 70) _ = _
                    go_simp
                    rfl
                   refine pu_ HT_ 15 71 impl_ValidRaga.K16 ?_; refine pu_ HT_ 16 72 impl_ValidRaga.K17 ?_; refine pu_ HT_ 17 73 impl_ValidRaga.K18 ?_; refine pu_ HT_ 18 74 impl_ValidRaga.K19 ?_; refine pu_ HT_ 19 75 impl_ValidRaga.K20 ?_; refine pu_ HT_ 21 77 impl_ValidRaga.K21 ?_; refine pu_ HT_ 22 78 impl_ValidRaga.K22 ?_; refine tk_ HT_ HW_ hHeld 20 76 impl_ValidRaga.K23 ?_; refine tk_ HT_ HW_ hHeld 23 79 impl_ValidRaga.K24 ?_; refine pu_ HT_ 24 80 impl_ValidRaga.K25 ?_; refine pu_ HT_ 25 81 impl_ValidRaga.K26 ?_; refine pu_ HT_ 26 82 impl_ValidRaga.K27 ?_; refine pu_ HT_ 27 83 impl_ValidRaga.K28 ?_; refine pu_ HT_ 28 84 impl_ValidRaga.K29 ?_; refine pu_ HT_ 29 85 impl_ValidRaga.K30 ?_; refine pu_ HT_ 30 86 impl_ValidRaga.K31 ?_; refine pu_ HT_ 32 88 impl_ValidRaga.K42 ?_; refine pu_ HT_ 33 89 impl_ValidRaga.K43 ?_; refine pu_ HT_ 36 92 impl_ValidRaga.K44 ?_; refine tk_ HT_ HW_ hHeld 31 87 impl_ValidRaga.K45 ?_; refine pu_ HT_ 34 90 impl_ValidRaga.K46 ?_; refine tk_ HT_ HW_ hHeld 35 91 impl_ValidRaga.K37 ?_
                   refine one_ (i := 37) (N := some 93) impl_ValidRaga.K38 rfl rfl (one_of HT_.out (by kernel_rfl)) (by decide) (fun K hK => ?_)
                   refine goes_ Try.func50 (by kernel_rfl) rfl #[.slice A256_0 (rd_L1 l0_5 (ji45)).length c256_0, .slice (some ad250) (rd_L1 l0_5 x51_2).length c249_0] (by rfl) rfl rfl (by (try simp only [List.map_toArray, List.map_cons, List.map_nil]); first | done | (simp only [hji45]; rfl) | rfl | (simp only [List.length_drop, List.length_take]; rfl)) ?_
                   with_reducible refine (slices_Compare_int64_int64.calls k2 _ _ (rd_L1 l0_5 (ji45)) _ _ (rd_L1 l0_5 x51_2) t257 _ ?side1 ?side2 ?side3 ?side4 A48.out).mono ?_
                   (case side1 => repeat (first | exact (Kd.C_below HR256_0.out (bg_ HB.out GE243.out)) | (with_reducible refine Kd.C_alloc ?_ _) | (with_reducible refine Kd.C_drewN ?_ _) | (with_reducible refine Kd.C_drew ?_)))
                   (case side2 => exact HC256_0.out)
                   (case side3 => repeat (first | exact (Kd.C_below HR249_0.out (bg_ HB.out GE243.out)) | (with_reducible refine Kd.C_alloc ?_ _) | (with_reducible refine Kd.C_drewN ?_ _) | (with_reducible refine Kd.C_drew ?_)))
                   (case side4 => exact HC249_0.out)
                   rintro e w' ⟨rfl, ⟨nd, rfl⟩⟩
                   refine ⟨_, rfl, ?_⟩
                   refine hK.out _ _ ⟨(blk_cell BK243.out 0).trans rfl, (blk_cell BK243.out 1).trans rfl, (blk_cell BK243.out 2).trans rfl, (blk_cell BK243.out 3).trans rfl, (blk_cell BK243.out 4).trans rfl, (blk_cell BK243.out 5).trans rfl, (wc_ HB.out hw250_0 :), (wc_ HB.out hw252_0 :), (wc_ HB.out hw254_0 :), (wc_ HB.out hw255_0 :), (wc_ HB.out hw256_0 :)⟩ (fun hHeld => ?_)
                   clear hK K; refine norm_ (a' := ?_) ?_ ?_; rotate_left
                   ·show Act.put _ (some 93) _ = _
                    go_simp
                    rfl
                   refine pu_ HT_ 38 94 impl_ValidRaga.K39 ?_; refine pu_ HT_ 39 95 impl_ValidRaga.K40 ?_; refine pu_ HT_ 40 96 impl_ValidRaga.K41 ?_
                   refine done_ (done_of HT_.out (by kernel_rfl)) ?_
                   try go_wp2
                   go_ret
                   exact ⟨by first | rfl | (simp [errW_none, errW_some] <;> rfl) | (simp only [← hji45]; first | rfl | (simp [errW_none, errW_some] <;> rfl)) | (simp [*, errW_none, errW_some] <;> rfl), bg_ HB.out GE243.out⟩
                  ·rw [if_neg c49] at H
                   have c49b0 : decide (0 ≤ t257) = false := decide_eq_false c49
                   clear c49
                   have H' := Aside0.mk H
                   clear H
                   have p249 : 0 ≤ (x51_2 : Int) := da_
                   have q249 : x51_2 < (l0_5.length : Int) := da_
                   obtain ⟨ad249, A249_0, c249_0, e249, hx249_0, hl249_0, hi249_0⟩ := at_L1 HR0_5.out x51_2 p249 q249; cases e249
                   replace hx249_0 := (wc_ HB.out hx249_0 :)
                   have HR249_0 := Aside0.mk hi249_0; have HC249_0 := Aside0.mk hl249_0; clear hi249_0 hl249_0; replace p249 := eq_true p249; replace q249 := eq_true q249
                   try go_wp2
                   have n0_ := Aside0.mk (blk_drew BK243.out)
                   have n1_ := Aside0.mk (below_drew1 HB.out)
                   clear BK243; clear HB; have BK243 := n0_; have HB := n1_; clear n0_ n1_
                   have p250 : 0 ≤ (0 : Int) := (by omega)
                   have q250 : 0 < ((rd_L1 l0_5 x51_2).length : Int) := da_
                   obtain ⟨ad250, e250, hx250_0⟩ := Kd.at_int HR249_0.out 0 p250 q250; have hw250_0 := hx250_0; (try rw [show ((0 : Int)).toNat = 0 from rfl] at hw250_0); (try rw [show 0 * 1 = 0 from rfl] at hw250_0); (try rw [Addr.add_zero'] at hw250_0); cases e250
                   have qi250 : (0 < (rd_L1 l0_5 x51_2).length) = True := eq_true (by omega)
                   (try rw [show ((0 : Int)).toNat = 0 from rfl] at hx250_0); (try rw [Addr.add_zero'] at hx250_0)
                   replace hx250_0 := (wc_ HB.out hx250_0 :)
                   replace p250 := eq_true p250; replace q250 := eq_true q250
                   have p252 : 0 ≤ (1 : Int) := (by omega)
                   have q252 : 1 < ((rd_L1 l0_5 x51_2).length : Int) := da_
                   obtain ⟨ad252, e252, hx252_0⟩ := Kd.at_int HR249_0.out 1 p252 q252; have hw252_0 := hx252_0; (try rw [show ((1 : Int)).toNat = 1 from rfl] at hw252_0); (try rw [show 1 * 1 = 1 from rfl] at hw252_0); (try simp only [Nat.reduceMul, Nat.reduceEqDiff, Go.Addr.add, ↓reduceIte] at hw252_0); obtain rfl : ad250 = ad252 := (by injection e252); (try simp only [show (1 : Int).toNat = 1 from rfl, Nat.reduceMul, Nat.reduceEqDiff, Go.Addr.add, ↓reduceIte] at hx252_0)
                   have qi252 : (1 < (rd_L1 l0_5 x51_2).length) = True := eq_true (by omega)
                   (try rw [show ((1 : Int)).toNat = 1 from rfl] at hx252_0)
                   replace hx252_0 := (wc_ HB.out hx252_0 :)
                   replace p252 := eq_true p252; replace q252 := eq_true q252
                   have p254 : 0 ≤ (0 : Int) := (by omega)
                   have q254 : 0 < ((rd_L1 l0_5 x51_2).length : Int) := da_
                   obtain ⟨ad254, e254, hx254_0⟩ := Kd.at_int HR249_0.out 0 p254 q254; have hw254_0 := hx254_0; (try rw [show ((0 : Int)).toNat = 0 from rfl] at hw254_0); (try rw [show 0 * 1 = 0 from rfl] at hw254_0); (try rw [Addr.add_zero'] at hw254_0); obtain rfl : ad250 = ad254 := (by injection e254)
                   have qi254 : (0 < (rd_L1 l0_5 x51_2).length) = True := eq_true (by omega)
                   (try rw [show ((0 : Int)).toNat = 0 from rfl] at hx254_0); (try rw [Addr.add_zero'] at hx254_0)
                   replace hx254_0 := (wc_ HB.out hx254_0 :)
                   replace p254 := eq_true p254; replace q254 := eq_true q254
                   have p255 : 0 ≤ (1 : Int) := (by omega)
                   have q255 : 1 < ((rd_L1 l0_5 x51_2).length : Int) := da_
                   obtain ⟨ad255, e255, hx255_0⟩ := Kd.at_int HR249_0.out 1 p255 q255; have hw255_0 := hx255_0; (try rw [show ((1 : Int)).toNat = 1 from rfl] at hw255_0); (try rw [show 1 * 1 = 1 from rfl] at hw255_0); (try simp only [Nat.reduceMul, Nat.reduceEqDiff, Go.Addr.add, ↓reduceIte] at hw255_0); obtain rfl : ad250 = ad255 := (by injection e255); (try simp only [show (1 : Int).toNat = 1 from rfl, Nat.reduceMul, Nat.reduceEqDiff, Go.Addr.add, ↓reduceIte] at hx255_0)
                   have qi255 : (1 < (rd_L1 l0_5 x51_2).length) = True := eq_true (by omega)
                   (try rw [show ((1 : Int)).toNat = 1 from rfl] at hx255_0)
                   replace hx255_0 := (wc_ HB.out hx255_0 :)
                   replace p255 := eq_true p255; replace q255 := eq_true q255
                   have p256 : 0 ≤ ((ji45) : Int) := da_
                   have q256 : (ji45) < (l0_5.length : Int) := da_
                   obtain ⟨ad256, A256_0, c256_0, e256, hx256_0, hl256_0, hi256_0⟩ := at_L1 HR0_5.out (ji45) p256 q256; have hw256_0 := hx256_0; obtain rfl : ad249 = ad256 := (by injection e256)
                   replace hx256_0 := (wc_ HB.out hx256_0 :)
                   have HR256_0 := Aside0.mk hi256_0; have HC256_0 := Aside0.mk hl256_0; clear hi256_0 hl256_0; replace p256 := eq_true p256; replace q256 := eq_true q256
                   refine start_ (n := 41) (S := fun w' => w'.cell? ⟨gb243, 0, none⟩ = some (.string a0_0) ∧ w'.cell? ⟨gb243, 1, none⟩ = some (.slice A0_1 l0_1.length c0_1) ∧ w'.cell? ⟨gb243, 2, none⟩ = some (.slice A0_2 l0_2.length c0_2) ∧ w'.cell? ⟨gb243, 3, none⟩ = some (.int .i64 a0_3) ∧ w'.cell? ⟨gb243, 4, none⟩ = some (.int .i64 a0_4) ∧ w'.cell? ⟨gb243, 5, none⟩ = some (.slice (some ad249) l0_5.length c0_5) ∧ w'.cell? ad250 = some (.int .i64 (rd (rd_L1 l0_5 x51_2) 0)) ∧ w'.cell? ⟨ad250.block, ad250.off + 1, none⟩ = some (.int .i64 (rd (rd_L1 l0_5 x51_2) 1)) ∧ w'.cell? ad250 = some (.int .i64 (rd (rd_L1 l0_5 x51_2) 0)) ∧ w'.cell? ⟨ad250.block, ad250.off + 1, none⟩ = some (.int .i64 (rd (rd_L1 l0_5 x51_2) 1)) ∧ w'.cell? (ad249.add ((ji45)).toNat) = some (.slice A256_0 (rd_L1 l0_5 (ji45)).length c256_0)) (ds := []) impl_ValidRaga.K0 (by kernel_rfl) rfl rfl ⟨(blk_cell BK243.out 0).trans rfl, (blk_cell BK243.out 1).trans rfl, (blk_cell BK243.out 2).trans rfl, (blk_cell BK243.out 3).trans rfl, (blk_cell BK243.out 4).trans rfl, (blk_cell BK243.out 5).trans rfl, (wc_ HB.out hw250_0 :), (wc_ HB.out hw252_0 :), (wc_ HB.out hw254_0 :), (wc_ HB.out hw255_0 :), (wc_ HB.out hw256_0 :)⟩ (fun hHeld => ?_); refine with_tabW impl_ValidRaga.tab6 impl_ValidRaga.bits6 (fun HT_ HW_ => ?_)
                   generalize wr.drew = w51 at BK243 HB HR256_0 hx250_0 hx252_0 hx254_0 hx255_0 hx256_0 hHeld ⊢
                   refine pu_ HT_ 0 56 impl_ValidRaga.K1 ?_; refine pu_ HT_ 1 57 impl_ValidRaga.K2 ?_; refine pu_ HT_ 2 58 impl_ValidRaga.K3 ?_; refine pu_ HT_ 3 59 impl_ValidRaga.K4 ?_; refine pu_ HT_ 4 60 impl_ValidRaga.K5 ?_; refine pu_ HT_ 5 61 impl_ValidRaga.K6 ?_; refine tk_ HT_ HW_ hHeld 6 62 impl_ValidRaga.K7 ?_
                   refine one_ (i := 7) (N := some 63) impl_ValidRaga.K8 rfl rfl (one_of HT_.out (by kernel_rfl)) (by decide) (fun K hK => ?_)
                   refine goes_ Try.func49 (by kernel_rfl) rfl #[.int .i64 (rd (rd_L1 l0_5 x51_2) 0)] (by rfl) rfl rfl av_ ?_
                   with_reducible refine (impl_toneOk.calls (rd (rd_L1 l0_5 x51_2) 0) true _ A37.out).mono ?_
                   rintro e w' ⟨rfl, ⟨nd, rfl⟩⟩
                   refine ⟨_, rfl, ?_⟩
                   refine hK.out _ _ ⟨(blk_cell BK243.out 0).trans rfl, (blk_cell BK243.out 1).trans rfl, (blk_cell BK243.out 2).trans rfl, (blk_cell BK243.out 3).trans rfl, (blk_cell BK243.out 4).trans rfl, (blk_cell BK243.out 5).trans rfl, (wc_ HB.out hw250_0 :), (wc_ HB.out hw252_0 :), (wc_ HB.out hw254_0 :), (wc_ HB.out hw255_0 :), (wc_ HB.out hw256_0 :)⟩ (fun hHeld => ?_)
                   clear hK K; refine norm_ (a' := ?_) ?_ ?_; rotate_left
                   ·show Act.put _ (some 63) _ = _
                    go_simp
                    rfl
                   refine pu_ HT_ 8 64 impl_ValidRaga.K9 ?_; refine pu_ HT_ 9 65 impl_ValidRaga.K10 ?_; refine pu_ HT_ 10 66 impl_ValidRaga.K11 ?_; refine pu_ HT_ 11 67 impl_ValidRaga.K12 ?_; refine pu_ HT_ 12 68 impl_ValidRaga.K13 ?_; refine tk_ HT_ HW_ hHeld 13 69 impl_ValidRaga.K14 ?_
                   refine one_ (i := 14) (N := some 70) impl_ValidRaga.K15 rfl rfl (one_of HT_.out (by kernel_rfl)) (by decide) (fun K hK => ?_)
                   refine goes_ Try.func49 (by kernel_rfl) rfl #[.int .i64 (rd (rd_L1 l0_5 x51_2) 1)] (by rfl) rfl rfl av_ ?_
                   with_reducible refine (impl_toneOk.calls (rd (rd_L1 l0_5 x51_2) 1) true _ A40.out).mono ?_
                   rintro e w' ⟨rfl, ⟨nd, rfl⟩⟩
                   refine ⟨_, rfl, ?_⟩
                   refine hK.out _ _ ⟨(blk_cell BK243.out 0).trans rfl, (blk_cell BK243.out 1).trans rfl, (blk_cell BK243.out 2).trans rfl, (blk_cell BK243.out 3).trans rfl, (blk_cell BK243.out 4).trans rfl, (blk_cell BK243.out 5).trans rfl, (wc_ HB.out hw250_0 :), (wc_ HB.out hw252_0 :), (wc_ HB.out hw254_0 :), (wc_ HB.out hw255_0 :), (wc_ HB.out hw256_0 :)⟩ (fun hHeld => ?_)
                   clear hK K; refine norm_ (a' := ?_) ?_ ?_; rotate_left
                   ·show Act.put _ (some 70) _ = _
                    go_simp
                    rfl
                   refine pu_ HT_ 15 71 impl_ValidRaga.K16 ?_; refine pu_ HT_ 16 72 impl_ValidRaga.K17 ?_; refine pu_ HT_ 17 73 impl_ValidRaga.K18 ?_; refine pu_ HT_ 18 74 impl_ValidRaga.K19 ?_; refine pu_ HT_ 19 75 impl_ValidRaga.K20 ?_; refine pu_ HT_ 21 77 impl_ValidRaga.K21 ?_; refine pu_ HT_ 22 78 impl_ValidRaga.K22 ?_; refine tk_ HT_ HW_ hHeld 20 76 impl_ValidRaga.K23 ?_; refine tk_ HT_ HW_ hHeld 23 79 impl_ValidRaga.K24 ?_; refine pu_ HT_ 24 80 impl_ValidRaga.K25 ?_; refine pu_ HT_ 25 81 impl_ValidRaga.K26 ?_; refine pu_ HT_ 26 82 impl_ValidRaga.K27 ?_; refine pu_ HT_ 27 83 impl_ValidRaga.K28 ?_; refine pu_ HT_ 28 84 impl_ValidRaga.K29 ?_; refine pu_ HT_ 29 85 impl_ValidRaga.K30 ?_; refine pu_ HT_ 30 86 impl_ValidRaga.K31 ?_; refine pu_ HT_ 32 88 impl_ValidRaga.K42 ?_; refine pu_ HT_ 33 89 impl_ValidRaga.K43 ?_; refine pu_ HT_ 36 92 impl_ValidRaga.K44 ?_; refine tk_ HT_ HW_ hHeld 31 87 impl_ValidRaga.K45 ?_; refine pu_ HT_ 34 90 impl_ValidRaga.K46 ?_; refine tk_ HT_ HW_ hHeld 35 91 impl_ValidRaga.K37 ?_
                   refine one_ (i := 37) (N := some 93) impl_ValidRaga.K38 rfl rfl (one_of HT_.out (by kernel_rfl)) (by decide) (fun K hK => ?_)
                   refine goes_ Try.func50 (by kernel_rfl) rfl #[.slice A256_0 (rd_L1 l0_5 (ji45)).length c256_0, .slice (some ad250) (rd_L1 l0_5 x51_2).length c249_0] (by rfl) rfl rfl (by (try simp only [List.map_toArray, List.map_cons, List.map_nil]); first | done | (simp only [hji45]; rfl) | rfl | (simp only [List.length_drop, List.length_take]; rfl)) ?_
                   with_reducible refine (slices_Compare_int64_int64.calls k2 _ _ (rd_L1 l0_5 (ji45)) _ _ (rd_L1 l0_5 x51_2) t257 _ ?side1 ?side2 ?side3 ?side4 A48.out).mono ?_
                   (case side1 => repeat (first | exact (Kd.C_below HR256_0.out (bg_ HB.out GE243.out)) | (with_reducible refine Kd.C_alloc ?_ _) | (with_reducible refine Kd.C_drewN ?_ _) | (with_reducible refine Kd.C_drew ?_)))
                   (case side2 => exact HC256_0.out)
                   (case side3 => repeat (first | exact (Kd.C_below HR249_0.out (bg_ HB.out GE243.out)) | (with_reducible refine Kd.C_alloc ?_ _) | (with_reducible refine Kd.C_drewN ?_ _) | (with_reducible refine Kd.C_drew ?_)))
                   (case side4 => exact HC249_0.out)
                   rintro e w' ⟨rfl, ⟨nd, rfl⟩⟩
                   refine ⟨_, rfl, ?_⟩
                   refine hK.out _ _ ⟨(blk_cell BK243.out 0).trans rfl, (blk_cell BK243.out 1).trans rfl, (blk_cell BK243.out 2).trans rfl, (blk_cell BK243.out 3).trans rfl, (blk_cell BK243.out 4).trans rfl, (blk_cell BK243.out 5).trans rfl, (wc_ HB.out hw250_0 :), (wc_ HB.out hw252_0 :), (wc_ HB.out hw254_0 :), (wc_ HB.out hw255_0 :), (wc_ HB.out hw256_0 :)⟩ (fun hHeld => ?_)
                   clear hK K; refine norm_ (a' := ?_) ?_ ?_; rotate_left
                   ·show Act.put _ (some 93) _ = _
                    go_simp
                    rfl
                   refine pu_ HT_ 38 94 impl_ValidRaga.K39 ?_; refine pu_ HT_ 39 95 impl_ValidRaga.K40 ?_; refine pu_ HT_ 40 96 impl_ValidRaga.K41 ?_
                   refine done_ (done_of HT_.out (by kernel_rfl)) ?_
                   try go_wp2
                   go_roundg k2
                   case measure => have := HJ1.out; have := HK2.out; omega
                   case rel => exact ⟨(wrap64 (x51_2 + 1)), sv_, H', ⟨by have := HJ1.out; have := HK2.out; omega⟩, ⟨by (with_reducible repeat (first | refine blk_drewN ?_ _ | refine blk_drew ?_ | refine blk_alloc ?_ _)); exact BK243.out⟩, ⟨bg_ HB.out GE243.out⟩⟩
                 ·rw [if_neg c47] at H
                  exact absurd H (by simp)
                ·rw [if_neg c46] at H
                 exact absurd H (by simp)
               ·rw [if_neg c44] at H
                have c44b0 : decide (0 < x51_2) = false := decide_eq_false c44
                clear c44
                have H' := Aside0.mk H
                clear H
                have p249 : 0 ≤ (x51_2 : Int) := da_
                have q249 : x51_2 < (l0_5.length : Int) := da_
                obtain ⟨ad249, A249_0, c249_0, e249, hx249_0, hl249_0, hi249_0⟩ := at_L1 HR0_5.out x51_2 p249 q249; cases e249
                replace hx249_0 := (wc_ HB.out hx249_0 :)
                have HR249_0 := Aside0.mk hi249_0; have HC249_0 := Aside0.mk hl249_0; clear hi249_0 hl249_0; replace p249 := eq_true p249; replace q249 := eq_true q249
                try go_wp2
                have n0_ := Aside0.mk (blk_drew BK243.out)
                have n1_ := Aside0.mk (below_drew1 HB.out)
                clear BK243; clear HB; have BK243 := n0_; have HB := n1_; clear n0_ n1_
                have p250 : 0 ≤ (0 : Int) := (by omega)
                have q250 : 0 < ((rd_L1 l0_5 x51_2).length : Int) := da_
                obtain ⟨ad250, e250, hx250_0⟩ := Kd.at_int HR249_0.out 0 p250 q250; have hw250_0 := hx250_0; (try rw [show ((0 : Int)).toNat = 0 from rfl] at hw250_0); (try rw [show 0 * 1 = 0 from rfl] at hw250_0); (try rw [Addr.add_zero'] at hw250_0); cases e250
                have qi250 : (0 < (rd_L1 l0_5 x51_2).length) = True := eq_true (by omega)
                (try rw [show ((0 : Int)).toNat = 0 from rfl] at hx250_0); (try rw [Addr.add_zero'] at hx250_0)
                replace hx250_0 := (wc_ HB.out hx250_0 :)
                replace p250 := eq_true p250; replace q250 := eq_true q250
                have p252 : 0 ≤ (1 : Int) := (by omega)
                have q252 : 1 < ((rd_L1 l0_5 x51_2).length : Int) := da_
                obtain ⟨ad252, e252, hx252_0⟩ := Kd.at_int HR249_0.out 1 p252 q252; have hw252_0 := hx252_0; (try rw [show ((1 : Int)).toNat = 1 from rfl] at hw252_0); (try rw [show 1 * 1 = 1 from rfl] at hw252_0); (try simp only [Nat.reduceMul, Nat.reduceEqDiff, Go.Addr.add, ↓reduceIte] at hw252_0); obtain rfl : ad250 = ad252 := (by injection e252); (try simp only [show (1 : Int).toNat = 1 from rfl, Nat.reduceMul, Nat.reduceEqDiff, Go.Addr.add, ↓reduceIte] at hx252_0)
                have qi252 : (1 < (rd_L1 l0_5 x51_2).length) = True := eq_true (by omega)
                (try rw [show ((1 : Int)).toNat = 1 from rfl] at hx252_0)
                replace hx252_0 := (wc_ HB.out hx252_0 :)
                replace p252 := eq_true p252; replace q252 := eq_true q252
                have p254 : 0 ≤ (0 : Int) := (by omega)
                have q254 : 0 < ((rd_L1 l0_5 x51_2).length : Int) := da_
                obtain ⟨ad254, e254, hx254_0⟩ := Kd.at_int HR249_0.out 0 p254 q254; have hw254_0 := hx254_0; (try rw [show ((0 : Int)).toNat = 0 from rfl] at hw254_0); (try rw [show 0 * 1 = 0 from rfl] at hw254_0); (try rw [Addr.add_zero'] at hw254_0); obtain rfl : ad250 = ad254 := (by injection e254)
                have qi254 : (0 < (rd_L1 l0_5 x51_2).length) = True := eq_true (by omega)
                (try rw [show ((0 : Int)).toNat = 0 from rfl] at hx254_0); (try rw [Addr.add_zero'] at hx254_0)
                replace hx254_0 := (wc_ HB.out hx254_0 :)
                replace p254 := eq_true p254; replace q254 := eq_true q254
                have p255 : 0 ≤ (1 : Int) := (by omega)
                have q255 : 1 < ((rd_L1 l0_5 x51_2).length : Int) := da_
                obtain ⟨ad255, e255, hx255_0⟩ := Kd.at_int HR249_0.out 1 p255 q255; have hw255_0 := hx255_0; (try rw [show ((1 : Int)).toNat = 1 from rfl] at hw255_0); (try rw [show 1 * 1 = 1 from rfl] at hw255_0); (try simp only [Nat.reduceMul, Nat.reduceEqDiff, Go.Addr.add, ↓reduceIte] at hw255_0); obtain rfl : ad250 = ad255 := (by injection e255); (try simp only [show (1 : Int).toNat = 1 from rfl, Nat.reduceMul, Nat.reduceEqDiff, Go.Addr.add, ↓reduceIte] at hx255_0)
                have qi255 : (1 < (rd_L1 l0_5 x51_2).length) = True := eq_true (by omega)
                (try rw [show ((1 : Int)).toNat = 1 from rfl] at hx255_0)
                replace hx255_0 := (wc_ HB.out hx255_0 :)
                replace p255 := eq_true p255; replace q255 := eq_true q255
                refine start_ (n := 41) (S := fun w' => w'.cell? ad250 = some (.int .i64 (rd (rd_L1 l0_5 x51_2) 0)) ∧ w'.cell? ⟨ad250.block, ad250.off + 1, none⟩ = some (.int .i64 (rd (rd_L1 l0_5 x51_2) 1)) ∧ w'.cell? ad250 = some (.int .i64 (rd (rd_L1 l0_5 x51_2) 0)) ∧ w'.cell? ⟨ad250.block, ad250.off + 1, none⟩ = some (.int .i64 (rd (rd_L1 l0_5 x51_2) 1))) (ds := []) impl_ValidRaga.K0 (by kernel_rfl) rfl rfl ⟨(wc_ HB.out hw250_0 :), (wc_ HB.out hw252_0 :), (wc_ HB.out hw254_0 :), (wc_ HB.out hw255_0 :)⟩ (fun hHeld => ?_); refine with_tabW impl_ValidRaga.tab6 impl_ValidRaga.bits6 (fun HT_ HW_ => ?_)
                generalize wr.drew = w52 at BK243 HB hx250_0 hx252_0 hx254_0 hx255_0 hHeld ⊢
                refine pu_ HT_ 0 56 impl_ValidRaga.K1 ?_; refine pu_ HT_ 1 57 impl_ValidRaga.K2 ?_; refine pu_ HT_ 2 58 impl_ValidRaga.K3 ?_; refine pu_ HT_ 3 59 impl_ValidRaga.K4 ?_; refine pu_ HT_ 4 60 impl_ValidRaga.K5 ?_; refine pu_ HT_ 5 61 impl_ValidRaga.K6 ?_; refine tk_ HT_ HW_ hHeld 6 62 impl_ValidRaga.K7 ?_
                refine one_ (i := 7) (N := some 63) impl_ValidRaga.K8 rfl rfl (one_of HT_.out (by kernel_rfl)) (by decide) (fun K hK => ?_)
                refine goes_ Try.func49 (by kernel_rfl) rfl #[.int .i64 (rd (rd_L1 l0_5 x51_2) 0)] (by rfl) rfl rfl av_ ?_
                with_reducible refine (impl_toneOk.calls (rd (rd_L1 l0_5 x51_2) 0) true _ A37.out).mono ?_
                rintro e w' ⟨rfl, ⟨nd, rfl⟩⟩
                refine ⟨_, rfl, ?_⟩
                refine hK.out _ _ ⟨(wc_ HB.out hw250_0 :), (wc_ HB.out hw252_0 :), (wc_ HB.out hw254_0 :), (wc_ HB.out hw255_0 :)⟩ (fun hHeld => ?_)
                clear hK K; refine norm_ (a' := ?_) ?_ ?_; rotate_left
                ·show Act.put _ (some 63) _ = _
                 go_simp
                 rfl
                refine pu_ HT_ 8 64 impl_ValidRaga.K9 ?_; refine pu_ HT_ 9 65 impl_ValidRaga.K10 ?_; refine pu_ HT_ 10 66 impl_ValidRaga.K11 ?_; refine pu_ HT_ 11 67 impl_ValidRaga.K12 ?_; refine pu_ HT_ 12 68 impl_ValidRaga.K13 ?_; refine tk_ HT_ HW_ hHeld 13 69 impl_ValidRaga.K14 ?_
                refine one_ (i := 14) (N := some 70) impl_ValidRaga.K15 rfl rfl (one_of HT_.out (by kernel_rfl)) (by decide) (fun K hK => ?_)
                refine goes_ Try.func49 (by kernel_rfl) rfl #[.int .i64 (rd (rd_L1 l0_5 x51_2) 1)] (by rfl) rfl rfl av_ ?_
                with_reducible refine (impl_toneOk.calls (rd (rd_L1 l0_5 x51_2) 1) true _ A40.out).mono ?_
                rintro e w' ⟨rfl, ⟨nd, rfl⟩⟩
                refine ⟨_, rfl, ?_⟩
                refine hK.out _ _ ⟨(wc_ HB.out hw250_0 :), (wc_ HB.out hw252_0 :), (wc_ HB.out hw254_0 :), (wc_ HB.out hw255_0 :)⟩ (fun hHeld => ?_)
                clear hK K; refine norm_ (a' := ?_) ?_ ?_; rotate_left
                ·show Act.put _ (some 70) _ = _
                 go_simp
                 rfl
                refine pu_ HT_ 15 71 impl_ValidRaga.K16 ?_; refine pu_ HT_ 16 72 impl_ValidRaga.K17 ?_; refine pu_ HT_ 17 73 impl_ValidRaga.K18 ?_; refine pu_ HT_ 18 74 impl_ValidRaga.K19 ?_; refine pu_ HT_ 19 75 impl_ValidRaga.K20 ?_; refine pu_ HT_ 21 77 impl_ValidRaga.K21 ?_; refine pu_ HT_ 22 78 impl_ValidRaga.K22 ?_; refine tk_ HT_ HW_ hHeld 20 76 impl_ValidRaga.K23 ?_; refine tk_ HT_ HW_ hHeld 23 79 impl_ValidRaga.K24 ?_; refine pu_ HT_ 24 80 impl_ValidRaga.K25 ?_; refine pu_ HT_ 25 81 impl_ValidRaga.K26 ?_; refine pu_ HT_ 26 82 impl_ValidRaga.K27 ?_; refine pu_ HT_ 27 83 impl_ValidRaga.K28 ?_; refine pu_ HT_ 28 84 impl_ValidRaga.K29 ?_; refine pu_ HT_ 29 85 impl_ValidRaga.K30 ?_; refine un_ HT_ 30 86 impl_ValidRaga.K31 ?_; refine un_ HT_ 31 87 impl_ValidRaga.K32 ?_; refine un_ HT_ 32 88 impl_ValidRaga.K33 ?_; refine un_ HT_ 33 89 impl_ValidRaga.K34 ?_; refine un_ HT_ 34 90 impl_ValidRaga.K35 ?_; refine un_ HT_ 35 91 impl_ValidRaga.K36 ?_; refine un_ HT_ 36 92 impl_ValidRaga.K37 ?_; refine un_ HT_ 37 93 impl_ValidRaga.K38 ?_; refine un_ HT_ 38 94 impl_ValidRaga.K39 ?_; refine pu_ HT_ 39 95 impl_ValidRaga.K40 ?_; refine pu_ HT_ 40 96 impl_ValidRaga.K41 ?_
                refine done_ (done_of HT_.out (by kernel_rfl)) ?_
                try go_wp2
                go_roundg k2
                case measure => have := HJ1.out; have := HK2.out; omega
                case rel => exact ⟨(wrap64 (x51_2 + 1)), sv_, H', ⟨by have := HJ1.out; have := HK2.out; omega⟩, ⟨by (with_reducible repeat (first | refine blk_drewN ?_ _ | refine blk_drew ?_ | refine blk_alloc ?_ _)); exact BK243.out⟩, ⟨bg_ HB.out GE243.out⟩⟩
             ·replace c41 := Bool.eq_false_iff.mpr c41
              subst c41
              have H1 : (some false) = some r := by rw [if_neg (show ¬ (false = true) by decide)] at H; exact H
              clear H; have H := H1; clear H1
              obtain rfl := Option.some.inj H
              have p249 : 0 ≤ (x51_2 : Int) := da_
              have q249 : x51_2 < (l0_5.length : Int) := da_
              obtain ⟨ad249, A249_0, c249_0, e249, hx249_0, hl249_0, hi249_0⟩ := at_L1 HR0_5.out x51_2 p249 q249; cases e249
              replace hx249_0 := (wc_ HB.out hx249_0 :)
              have HR249_0 := Aside0.mk hi249_0; have HC249_0 := Aside0.mk hl249_0; clear hi249_0 hl249_0; replace p249 := eq_true p249; replace q249 := eq_true q249
              try go_wp2
              have n0_ := Aside0.mk (blk_drew BK243.out)
              have n1_ := Aside0.mk (below_drew1 HB.out)
              clear BK243; clear HB; have BK243 := n0_; have HB := n1_; clear n0_ n1_
              have p250 : 0 ≤ (0 : Int) := (by omega)
              have q250 : 0 < ((rd_L1 l0_5 x51_2).length : Int) := da_
              obtain ⟨ad250, e250, hx250_0⟩ := Kd.at_int HR249_0.out 0 p250 q250; have hw250_0 := hx250_0; (try rw [show ((0 : Int)).toNat = 0 from rfl] at hw250_0); (try rw [show 0 * 1 = 0 from rfl] at hw250_0); (try rw [Addr.add_zero'] at hw250_0); cases e250
              have qi250 : (0 < (rd_L1 l0_5 x51_2).length) = True := eq_true (by omega)
              (try rw [show ((0 : Int)).toNat = 0 from rfl] at hx250_0); (try rw [Addr.add_zero'] at hx250_0)
              replace hx250_0 := (wc_ HB.out hx250_0 :)
              replace p250 := eq_true p250; replace q250 := eq_true q250
              have p252 : 0 ≤ (1 : Int) := (by omega)
              have q252 : 1 < ((rd_L1 l0_5 x51_2).length : Int) := da_
              obtain ⟨ad252, e252, hx252_0⟩ := Kd.at_int HR249_0.out 1 p252 q252; have hw252_0 := hx252_0; (try rw [show ((1 : Int)).toNat = 1 from rfl] at hw252_0); (try rw [show 1 * 1 = 1 from rfl] at hw252_0); (try simp only [Nat.reduceMul, Nat.reduceEqDiff, Go.Addr.add, ↓reduceIte] at hw252_0); obtain rfl : ad250 = ad252 := (by injection e252); (try simp only [show (1 : Int).toNat = 1 from rfl, Nat.reduceMul, Nat.reduceEqDiff, Go.Addr.add, ↓reduceIte] at hx252_0)
              have qi252 : (1 < (rd_L1 l0_5 x51_2).length) = True := eq_true (by omega)
              (try rw [show ((1 : Int)).toNat = 1 from rfl] at hx252_0)
              replace hx252_0 := (wc_ HB.out hx252_0 :)
              replace p252 := eq_true p252; replace q252 := eq_true q252
              refine start_ (n := 41) (S := fun w' => w'.cell? ad250 = some (.int .i64 (rd (rd_L1 l0_5 x51_2) 0)) ∧ w'.cell? ⟨ad250.block, ad250.off + 1, none⟩ = some (.int .i64 (rd (rd_L1 l0_5 x51_2) 1))) (ds := []) impl_ValidRaga.K0 (by kernel_rfl) rfl rfl ⟨(wc_ HB.out hw250_0 :), (wc_ HB.out hw252_0 :)⟩ (fun hHeld => ?_); refine with_tabW impl_ValidRaga.tab6 impl_ValidRaga.bits6 (fun HT_ HW_ => ?_)
              generalize wr.drew = w53 at BK243 HB hx250_0 hx252_0 hHeld ⊢
              refine pu_ HT_ 0 56 impl_ValidRaga.K1 ?_; refine pu_ HT_ 1 57 impl_ValidRaga.K2 ?_; refine pu_ HT_ 2 58 impl_ValidRaga.K3 ?_; refine pu_ HT_ 3 59 impl_ValidRaga.K4 ?_; refine pu_ HT_ 4 60 impl_ValidRaga.K5 ?_; refine pu_ HT_ 5 61 impl_ValidRaga.K6 ?_; refine tk_ HT_ HW_ hHeld 6 62 impl_ValidRaga.K7 ?_
              refine one_ (i := 7) (N := some 63) impl_ValidRaga.K8 rfl rfl (one_of HT_.out (by kernel_rfl)) (by decide) (fun K hK => ?_)
              refine goes_ Try.func49 (by kernel_rfl) rfl #[.int .i64 (rd (rd_L1 l0_5 x51_2) 0)] (by rfl) rfl rfl av_ ?_
              with_reducible refine (impl_toneOk.calls (rd (rd_L1 l0_5 x51_2) 0) true _ A37.out).mono ?_
              rintro e w' ⟨rfl, ⟨nd, rfl⟩⟩
              refine ⟨_, rfl, ?_⟩
              refine hK.out _ _ ⟨(wc_ HB.out hw250_0 :), (wc_ HB.out hw252_0 :)⟩ (fun hHeld => ?_)
              clear hK K; refine norm_ (a' := ?_) ?_ ?_; rotate_left
              ·show Act.put _ (some 63) _ = _
               go_simp
               rfl
              refine pu_ HT_ 8 64 impl_ValidRaga.K9 ?_; refine pu_ HT_ 9 65 impl_ValidRaga.K10 ?_; refine pu_ HT_ 10 66 impl_ValidRaga.K11 ?_; refine pu_ HT_ 11 67 impl_ValidRaga.K12 ?_; refine pu_ HT_ 12 68 impl_ValidRaga.K13 ?_; refine tk_ HT_ HW_ hHeld 13 69 impl_ValidRaga.K14 ?_
              refine one_ (i := 14) (N := some 70) impl_ValidRaga.K15 rfl rfl (one_of HT_.out (by kernel_rfl)) (by decide) (fun K hK => ?_)
              refine goes_ Try.func49 (by kernel_rfl) rfl #[.int .i64 (rd (rd_L1 l0_5 x51_2) 1)] (by rfl) rfl rfl av_ ?_
              with_reducible refine (impl_toneOk.calls (rd (rd_L1 l0_5 x51_2) 1) false _ A40.out).mono ?_
              rintro e w' ⟨rfl, ⟨nd, rfl⟩⟩
              refine ⟨_, rfl, ?_⟩
              refine hK.out _ _ ⟨(wc_ HB.out hw250_0 :), (wc_ HB.out hw252_0 :)⟩ (fun hHeld => ?_)
              clear hK K; refine norm_ (a' := ?_) ?_ ?_; rotate_left
              ·show Act.put _ (some 70) _ = _
               go_simp
               rfl
              refine pu_ HT_ 15 71 impl_ValidRaga.K16 ?_; refine pu_ HT_ 16 72 impl_ValidRaga.K17 ?_; refine pu_ HT_ 17 73 impl_ValidRaga.K18 ?_; refine un_ HT_ 18 74 impl_ValidRaga.K19 ?_; refine un_ HT_ 19 75 impl_ValidRaga.K20 ?_; refine un_ HT_ 20 76 impl_ValidRaga.K47 ?_; refine un_ HT_ 21 77 impl_ValidRaga.K48 ?_; refine un_ HT_ 22 78 impl_ValidRaga.K23 ?_; refine un_ HT_ 23 79 impl_ValidRaga.K24 ?_; refine un_ HT_ 24 80 impl_ValidRaga.K25 ?_; refine pu_ HT_ 25 81 impl_ValidRaga.K26 ?_; refine pu_ HT_ 26 82 impl_ValidRaga.K27 ?_; refine un_ HT_ 27 83 impl_ValidRaga.K28 ?_; refine un_ HT_ 28 84 impl_ValidRaga.K29 ?_; refine un_ HT_ 29 85 impl_ValidRaga.K30 ?_; refine un_ HT_ 30 86 impl_ValidRaga.K31 ?_; refine un_ HT_ 31 87 impl_ValidRaga.K32 ?_; refine un_ HT_ 32 88 impl_ValidRaga.K33 ?_; refine un_ HT_ 33 89 impl_ValidRaga.K34 ?_; refine un_ HT_ 34 90 impl_ValidRaga.K35 ?_; refine un_ HT_ 35 91 impl_ValidRaga.K36 ?_; refine un_ HT_ 36 92 impl_ValidRaga.K37 ?_; refine un_ HT_ 37 93 impl_ValidRaga.K38 ?_; refine un_ HT_ 38 94 impl_ValidRaga.K39 ?_; refine un_ HT_ 39 95 impl_ValidRaga.K40 ?_; refine pu_ HT_ 40 96 impl_ValidRaga.K41 ?_
              refine done_ (done_of HT_.out (by kernel_rfl)) ?_
              try go_wp2
              go_ret
              exact ⟨by first | rfl | (simp [errW_none, errW_some] <;> rfl) | (simp [*, errW_none, errW_some] <;> rfl), bg_ HB.out GE243.out⟩
            ·rw [if_neg c39] at H
             exact absurd H (by simp)
           ·replace c38 := Bool.eq_false_iff.mpr c38
            subst c38
            have H1 : (some false) = some r := by rw [if_neg (show ¬ (false = true) by decide)] at H; exact H
            clear H; have H := H1; clear H1
            obtain rfl := Option.some.inj H
            have p249 : 0 ≤ (x51_2 : Int) := da_
            have q249 : x51_2 < (l0_5.length : Int) := da_
            obtain ⟨ad249, A249_0, c249_0, e249, hx249_0, hl249_0, hi249_0⟩ := at_L1 HR0_5.out x51_2 p249 q249; cases e249
            replace hx249_0 := (wc_ HB.out hx249_0 :)
            have HR249_0 := Aside0.mk hi249_0; have HC249_0 := Aside0.mk hl249_0; clear hi249_0 hl249_0; replace p249 := eq_true p249; replace q249 := eq_true q249
            try go_wp2
            have n0_ := Aside0.mk (blk_drew BK243.out)
            have n1_ := Aside0.mk (below_drew1 HB.out)
            clear BK243; clear HB; have BK243 := n0_; have HB := n1_; clear n0_ n1_
            have p250 : 0 ≤ (0 : Int) := (by omega)
            have q250 : 0 < ((rd_L1 l0_5 x51_2).length : Int) := da_
            obtain ⟨ad250, e250, hx250_0⟩ := Kd.at_int HR249_0.out 0 p250 q250; have hw250_0 := hx250_0; (try rw [show ((0 : Int)).toNat = 0 from rfl] at hw250_0); (try rw [show 0 * 1 = 0 from rfl] at hw250_0); (try rw [Addr.add_zero'] at hw250_0); cases e250
            have qi250 : (0 < (rd_L1 l0_5 x51_2).length) = True := eq_true (by omega)
            (try rw [show ((0 : Int)).toNat = 0 from rfl] at hx250_0); (try rw [Addr.add_zero'] at hx250_0)
            replace hx250_0 := (wc_ HB.out hx250_0 :)
            replace p250 := eq_true p250; replace q250 := eq_true q250
            refine start_ (n := 41) (S := fun w' => w'.cell? ad250 = some (.int .i64 (rd (rd_L1 l0_5 x51_2) 0))) (ds := []) impl_ValidRaga.K0 (by kernel_rfl) rfl rfl ((wc_ HB.out hw250_0 :)) (fun hHeld => ?_); refine with_tabW impl_ValidRaga.tab6 impl_ValidRaga.bits6 (fun HT_ HW_ => ?_)
            generalize wr.drew = w54 at BK243 HB hx250_0 hHeld ⊢
            refine pu_ HT_ 0 56 impl_ValidRaga.K1 ?_; refine pu_ HT_ 1 57 impl_ValidRaga.K2 ?_; refine pu_ HT_ 2 58 impl_ValidRaga.K3 ?_; refine pu_ HT_ 3 59 impl_ValidRaga.K4 ?_; refine pu_ HT_ 4 60 impl_ValidRaga.K5 ?_; refine pu_ HT_ 5 61 impl_ValidRaga.K6 ?_
            refine take_ (i := 6) (N := some 62) (v := ?_) (a' := ?_) impl_ValidRaga.K7 rfl rfl (take_ofW HT_.out HW_.out (by kernel_rfl)) (fun _ _ _ h => h) (Or.inl ⟨by rfl, ?_⟩) hHeld ?_ ?_
            rotate_left
            ·intro w' s0
             go_simp
             with_reducible rfl
            rotate_left
            ·go_simp
             rfl
            refine one_ (i := 7) (N := some 63) impl_ValidRaga.K8 rfl rfl (one_of HT_.out (by kernel_rfl)) (by decide) (fun K hK => ?_)
            refine goes_ Try.func49 (by kernel_rfl) rfl #[.int .i64 (rd (rd_L1 l0_5 x51_2) 0)] (by rfl) rfl rfl av_ ?_
            with_reducible refine (impl_toneOk.calls (rd (rd_L1 l0_5 x51_2) 0) false _ A37.out).mono ?_
            rintro e w' ⟨rfl, ⟨nd, rfl⟩⟩
            refine ⟨_, rfl, ?_⟩
            refine hK.out _ _ ((wc_ HB.out hw250_0 :)) (fun hHeld => ?_)
            clear hK K; refine norm_ (a' := ?_) ?_ ?_; rotate_left
            ·show Act.put _ (some 63) _ = _
             go_simp
             rfl
            refine pu_ HT_ 8 64 impl_ValidRaga.K9 ?_; refine pu_ HT_ 9 65 impl_ValidRaga.K10 ?_; refine pu_ HT_ 10 66 impl_ValidRaga.K11 ?_; refine un_ HT_ 11 67 impl_ValidRaga.K12 ?_; refine un_ HT_ 12 68 impl_ValidRaga.K13 ?_; refine un_ HT_ 13 69 impl_ValidRaga.K14 ?_; refine un_ HT_ 14 70 impl_ValidRaga.K15 ?_; refine un_ HT_ 15 71 impl_ValidRaga.K16 ?_; refine pu_ HT_ 16 72 impl_ValidRaga.K17 ?_; refine pu_ HT_ 17 73 impl_ValidRaga.K18 ?_; refine un_ HT_ 18 74 impl_ValidRaga.K19 ?_; refine un_ HT_ 19 75 impl_ValidRaga.K20 ?_; refine un_ HT_ 20 76 impl_ValidRaga.K47 ?_; refine un_ HT_ 21 77 impl_ValidRaga.K48 ?_; refine un_ HT_ 22 78 impl_ValidRaga.K23 ?_; refine un_ HT_ 23 79 impl_ValidRaga.K24 ?_; refine un_ HT_ 24 80 impl_ValidRaga.K25 ?_; refine pu_ HT_ 25 81 impl_ValidRaga.K26 ?_; refine pu_ HT_ 26 82 impl_ValidRaga.K27 ?_; refine un_ HT_ 27 83 impl_ValidRaga.K28 ?_; refine un_ HT_ 28 84 impl_ValidRaga.K29 ?_; refine un_ HT_ 29 85 impl_ValidRaga.K30 ?_; refine un_ HT_ 30 86 impl_ValidRaga.K31 ?_; refine un_ HT_ 31 87 impl_ValidRaga.K32 ?_; refine un_ HT_ 32 88 impl_ValidRaga.K33 ?_; refine un_ HT_ 33 89 impl_ValidRaga.K34 ?_; refine un_ HT_ 34 90 impl_ValidRaga.K35 ?_; refine un_ HT_ 35 91 impl_ValidRaga.K36 ?_; refine un_ HT_ 36 92 impl_ValidRaga.K37 ?_; refine un_ HT_ 37 93 impl_ValidRaga.K38 ?_; refine un_ HT_ 38 94 impl_ValidRaga.K39 ?_; refine un_ HT_ 39 95 impl_ValidRaga.K40 ?_; refine pu_ HT_ 40 96 impl_ValidRaga.K41 ?_
            refine done_ (done_of HT_.out (by kernel_rfl)) ?_
            try go_wp2
            go_ret
            exact ⟨by first | rfl | (simp [errW_none, errW_some] <;> rfl) | (simp [*, errW_none, errW_some] <;> rfl), bg_ HB.out GE243.out⟩
          ·rw [if_neg c36] at H
           exact absurd H (by simp)
         ·rw [if_neg c35] at H
          have c35b0 : (((rd_L1 l0_5 x51_2).length : Int) == 2) = false := beq_eq_false_iff_ne.mpr c35
          have c35b1 : (((rd_L1 l0_5 x51_2).length : Int) != 2) = true := bne_iff_ne.mpr c35
          obtain rfl := Option.some.inj H
          have p249 : 0 ≤ (x51_2 : Int) := da_
          have q249 : x51_2 < (l0_5.length : Int) := da_
          obtain ⟨ad249, A249_0, c249_0, e249, hx249_0, hl249_0, hi249_0⟩ := at_L1 HR0_5.out x51_2 p249 q249; cases e249
          replace hx249_0 := (wc_ HB.out hx249_0 :)
          have HR249_0 := Aside0.mk hi249_0; have HC249_0 := Aside0.mk hl249_0; clear hi249_0 hl249_0; replace p249 := eq_true p249; replace q249 := eq_true q249
          try go_wp2
          have n0_ := Aside0.mk (blk_drew BK243.out)
          have n1_ := Aside0.mk (below_drew1 HB.out)
          clear BK243; clear HB; have BK243 := n0_; have HB := n1_; clear n0_ n1_
          refine start_ (n := 41) (S := fun w' => True) (ds := []) impl_ValidRaga.K0 (by kernel_rfl) rfl rfl trivial (fun hHeld => ?_); refine with_tabW impl_ValidRaga.tab6 impl_ValidRaga.bits6 (fun HT_ HW_ => ?_)
          generalize wr.drew = w55 at BK243 HB hHeld ⊢
          refine pu_ HT_ 0 56 impl_ValidRaga.K1 ?_; refine pu_ HT_ 1 57 impl_ValidRaga.K2 ?_; refine pu_ HT_ 2 58 impl_ValidRaga.K3 ?_; refine pu_ HT_ 3 59 impl_ValidRaga.K4 ?_; refine un_ HT_ 4 60 impl_ValidRaga.K5 ?_; refine un_ HT_ 5 61 impl_ValidRaga.K6 ?_; refine un_ HT_ 6 62 impl_ValidRaga.K7 ?_; refine un_ HT_ 7 63 impl_ValidRaga.K8 ?_; refine un_ HT_ 8 64 impl_ValidRaga.K9 ?_; refine pu_ HT_ 9 65 impl_ValidRaga.K10 ?_; refine pu_ HT_ 10 66 impl_ValidRaga.K11 ?_; refine un_ HT_ 11 67 impl_ValidRaga.K12 ?_; refine un_ HT_ 12 68 impl_ValidRaga.K13 ?_; refine un_ HT_ 13 69 impl_ValidRaga.K14 ?_; refine un_ HT_ 14 70 impl_ValidRaga.K15 ?_; refine un_ HT_ 15 71 impl_ValidRaga.K16 ?_; refine pu_ HT_ 16 72 impl_ValidRaga.K17 ?_; refine pu_ HT_ 17 73 impl_ValidRaga.K18 ?_; refine un_ HT_ 18 74 impl_ValidRaga.K19 ?_; refine un_ HT_ 19 75 impl_ValidRaga.K20 ?_; refine un_ HT_ 20 76 impl_ValidRaga.K47 ?_; refine un_ HT_ 21 77 impl_ValidRaga.K48 ?_; refine un_ HT_ 22 78 impl_ValidRaga.K23 ?_; refine un_ HT_ 23 79 impl_ValidRaga.K24 ?_; refine un_ HT_ 24 80 impl_ValidRaga.K25 ?_; refine pu_ HT_ 25 81 impl_ValidRaga.K26 ?_; refine pu_ HT_ 26 82 impl_ValidRaga.K27 ?_; refine un_ HT_ 27 83 impl_ValidRaga.K28 ?_; refine un_ HT_ 28 84 impl_ValidRaga.K29 ?_; refine un_ HT_ 29 85 impl_ValidRaga.K30 ?_; refine un_ HT_ 30 86 impl_ValidRaga.K31 ?_; refine un_ HT_ 31 87 impl_ValidRaga.K32 ?_; refine un_ HT_ 32 88 impl_ValidRaga.K33 ?_; refine un_ HT_ 33 89 impl_ValidRaga.K34 ?_; refine un_ HT_ 34 90 impl_ValidRaga.K35 ?_; refine un_ HT_ 35 91 impl_ValidRaga.K36 ?_; refine un_ HT_ 36 92 impl_ValidRaga.K37 ?_; refine un_ HT_ 37 93 impl_ValidRaga.K38 ?_; refine un_ HT_ 38 94 impl_ValidRaga.K39 ?_; refine un_ HT_ 39 95 impl_ValidRaga.K40 ?_; refine pu_ HT_ 40 96 impl_ValidRaga.K41 ?_
          refine done_ (done_of HT_.out (by kernel_rfl)) ?_
          try go_wp2
          go_ret
          exact ⟨by first | rfl | (simp [errW_none, errW_some] <;> rfl) | (simp [*, errW_none, errW_some] <;> rfl), bg_ HB.out GE243.out⟩
        ·rw [if_neg c34] at H
         exact absurd H (by simp)
       ·rw [if_neg c33] at H
        exact absurd H (by simp)
      ·rw [if_neg c32] at H
       have c32b0 : decide (x51_2 < (l0_5.length : Int)) = false := decide_eq_false c32
       clear c32
       obtain rfl := Option.some.inj H
       go_wp2
       go_ret
       exact ⟨by first | rfl | (simp [errW_none, errW_some] <;> rfl) | (simp [*, errW_none, errW_some] <;> rfl), bg_ HB.out GE243.out⟩
end Go.Proofs.Ytmibjceanfhhlaa.P
end
