/- Texts of this seat, merged: QSpecL15Run, QSpecFindmelody, Open, LEv, LCopy, LRdL. -/
import Derived.Deep.Slices
import Derived.WideShapes
import Derived.ChangeShapes
import Derived.ChangeMaps5
import Derived.ChangeSame
import Derived.Test.YtinlejhffokbaaaGFM1
import Derived.Test.YtinlejhffokbaaaGFM8
import Derived.Test.YtinlejhffokbaaaGFM13
import Derived.Test.YtinlejhffokbaaaGFM14
import Derived.Test.YtinlejhffokbaaaGFM15
import Derived.Test.YtinlejhffokbaaaGFM16
import Derived.Test.YtinlejhffokbaaaGFM17
import Derived.Test.YtinlejhffokbaaaGFM20
import Derived.Test.YtinlejhffokbaaaGFM21
import Derived.Test.YtinlejhffokbaaaGFM25
section
namespace Go.Proofs.Ytinlejhffokbaaa.P
open Go.RowKit Go.Proofs.YtinlejhffokbaaaW.PrintWords Go.Proofs.YtinlejhffokbaaaW.PrintLast Go.Proofs.YtinlejhffokbaaaW.PrintMore
attribute [local go_sem] max2_int min2_int max_two min_two max_three min_three max_four min_four   -- for this text's walks alone
set_option linter.unusedVariables false
set_option linter.unusedSimpArgs false
set_option maxHeartbeats 16000000
set_option maxRecDepth 100000
def spec_l15Run.f (k : Nat) (s : ByteArray) (u d : List Int) (st wk : Int) (f : List (List Int)) (lg sa en lo hi : Int) (q : List (List Int)) (rp : Int) (bud : Int) (fst : Bool) : Option (List Int × Int × Int × Int) := (spec_l05Ok.f k s u d st wk f).bind fun t => if t = true then ((spec_l15Ok.f k lg sa en lo hi q rp).bind fun t2 => if t2 = true then ((spec_l00In.f bud 1 20000).bind fun t3 => if t3 = true then ((spec_l15Search_goOn.f k s u d st wk f lg sa en lo hi q rp fst bud [sa] [] 0 0 0).bind fun z => if bud < z.2.2.2.2 then some (z.2.1, z.2.2.1, z.2.2.2.1, 5) else some (z.2.1, z.2.2.1, z.2.2.2.1, 0)) else some ([], 0, 0, 2)) else some ([], 0, 0, 1)) else some ([], 0, 0, 1)
theorem spec_l15Run.calls (k : Nat) (s : ByteArray) (A1 : Option Addr) (c1 : Nat) (u : List Int) (A2 : Option Addr) (c2 : Nat) (d : List Int) (st wk : Int) (A5 : Option Addr) (c5 : Nat) (f : List (List Int)) (lg sa en lo hi : Int) (A6 : Option Addr) (c6 : Nat) (q : List (List Int)) (rp : Int) (bud : Int) (fst : Bool) (gr ga : Nat) (bs : List Int) (le co cd : Int) (w : World) (hr1 : Kd.C (Kd.int .i64) w A1 u.length u) (hc1 : u.length ≤ c1) (hr2 : Kd.C (Kd.int .i64) w A2 d.length d) (hc2 : d.length ≤ c2) (hr5 : Kd.C (Kd.slice 2 (Kd.int .i64)) w A5 f.length f) (hc5 : f.length ≤ c5) (hr6 : Kd.C (Kd.slice 2 (Kd.int .i64)) w A6 q.length q) (hc6 : q.length ≤ c6) (hbr : w.heap[gr]? = some (.cells #[.string s, .slice A1 u.length c1, .slice A2 d.length c2, .int .i64 st, .int .i64 wk, .slice A5 f.length c5] 29 (0, 0))) (hba : w.heap[ga]? = some (.cells #[.int .i64 lg, .int .i64 sa, .int .i64 en, .int .i64 lo, .int .i64 hi, .slice A6 q.length c6, .int .i64 rp] 62 (0, 0))) (h : spec_l15Run.f k s u d st wk f lg sa en lo hi q rp bud fst = some (bs, le, co, cd)) :
    Calls Try.prog 98 #[.pointer (some ⟨gr, 0, none⟩), .pointer (some ⟨ga, 0, none⟩), .int .i64 bud, .bool fst] w fun e w' => ∃ (g : Nat) (vb : Value), e = .returned (.tuple #[.pointer (some ⟨g, 0, none⟩), .int .i64 cd]) ∧ w'.cell? ⟨g, 3, none⟩ = some vb ∧ w'.cell? ⟨g, 4, none⟩ = some (.int .i64 le) ∧ w'.cell? ⟨g, 5, none⟩ = some (.int .i64 co) ∧ Kd.R (Kd.int .i64) 2 w' w.heap.size (fun _ => True) vb bs ∧ Below w.heap.size w w' := by
  have KR1 := Aside0.mk hr1; have KR2 := Aside0.mk hr2; have KR5 := Aside0.mk hr5; have KR6 := Aside0.mk hr6; have KC1 := Aside0.mk hc1; have KC2 := Aside0.mk hc2; have KC5 := Aside0.mk hc5; have KC6 := Aside0.mk hc6; have KBR := Aside0.mk hbr; have KBA := Aside0.mk hba; have HR1 := Aside0.mk hr1; have HR2 := Aside0.mk hr2; have HR5 := Aside0.mk hr5; have HR6 := Aside0.mk hr6; have HC1 := Aside0.mk hc1; have HC2 := Aside0.mk hc2; have HC5 := Aside0.mk hc5; have HC6 := Aside0.mk hc6; have HBR := Aside0.mk hbr; have HBA := Aside0.mk hba; clear hr1 hc1 hr2 hc2 hr5 hc5 hr6 hc6 hbr hba; have hul15Search := Try.underlying115; have huRaga := Try.underlying29; have huAsk := Try.underlying62; unfold spec_l15Run.f at h; obtain ⟨t, z1, h⟩ := Option.bind_eq_some_iff.mp h; have E1 := Aside0.mk z1; clear z1
  cases t
  · rw [if_neg Bool.false_ne_true] at h
    obtain ⟨rfl, rfl, rfl, rfl⟩ : [] = bs ∧ 0 = le ∧ 0 = co ∧ 1 = cd := by simpa using h
    clear h; go_enter Try.func98, Try.ntmps98; go_wp2_with (first | ((with_reducible refine gate_dst (N := 16) rfl ?_); refine box_event ?hg (N := 16) ?hd (cs := #[.pointer (some ⟨gr, 0, none⟩), .pointer (some ⟨ga, 0, none⟩), .slice none 0 0, .slice none 0 0, .int .i64 (0), .int .i64 (0), .bool fst, .int .i64 (0), .int .i64 bud]) (t := 115) ?hr ?_; (case hd => rfl); (case hg => rfl); (case hr => first | (go_simp; done) | (go_simp; rfl)); intro g hg w1 hbox hb; have HI := Aside0.mk (Srch.new (e := 2) (Below.refl _ w) (Nat.le_of_eq hg.symm) hbox hb); clear hbox hb hg; obtain ⟨x0, x1, x2, x3, x4, x5, x6, x7, x8, xf⟩ := spec_l15Search_goOn.cells HI.out; obtain ⟨y0, y1, y2, y3, y4, y5, y6, yf⟩ := boxed7 HBA.out HI.out.bel) | ((with_reducible refine gate_callee (f := 84) rfl ?_); refine goesL_ (some _) rfl rfl Try.func84 (by kernel_rfl) rfl #[.pointer (some ⟨gr, 0, none⟩)] rfl aw_ ?_; (with_reducible refine (spec_l05Ok.calls k gr s A1 c1 u A2 c2 d st wk A5 c5 f false _ ?b1 ?s1 ?t1 ?s2 ?t2 ?s5 ?t5 E1.out).mono ?_); (case b1 => exact blk_below HBR.out HI.out.bel); (case s1 => exact Kd.C_below HR1.out HI.out.bel); (case s2 => exact Kd.C_below HR2.out HI.out.bel); (case s5 => exact Kd.C_below HR5.out HI.out.bel); (case t1 => exact HC1.out); (case t2 => exact HC2.out); (case t5 => exact HC5.out); rintro e w2 ⟨rfl, hb_⟩; refine ⟨_, rfl, ?_⟩; have hb := below_of hb_; clear hb_; have hi_ := HI.out.below hb; clear HI; clear x0 x1 x2 x3 x4 x5 x6 x7 x8 xf y0 y1 y2 y3 y4 y5 y6 yf; have HI := Aside0.mk hi_; clear hi_; obtain ⟨x0, x1, x2, x3, x4, x5, x6, x7, x8, xf⟩ := spec_l15Search_goOn.cells HI.out; obtain ⟨y0, y1, y2, y3, y4, y5, y6, yf⟩ := boxed7 HBA.out HI.out.bel; clear hb))
    go_ret2
    exact ⟨g, _, rfl, x3, x4, x5, Kd.R_mono HI.out.R2 (fun _ _ => trivial), HI.out.bel⟩
  rw [if_pos rfl] at h; obtain ⟨t2, z1, h⟩ := Option.bind_eq_some_iff.mp h; have E2 := Aside0.mk z1; clear z1
  cases t2
  · rw [if_neg Bool.false_ne_true] at h
    obtain ⟨rfl, rfl, rfl, rfl⟩ : [] = bs ∧ 0 = le ∧ 0 = co ∧ 1 = cd := by simpa using h
    clear h; go_enter Try.func98, Try.ntmps98; go_wp2_with (first | ((with_reducible refine gate_dst (N := 16) rfl ?_); refine box_event ?hg (N := 16) ?hd (cs := #[.pointer (some ⟨gr, 0, none⟩), .pointer (some ⟨ga, 0, none⟩), .slice none 0 0, .slice none 0 0, .int .i64 (0), .int .i64 (0), .bool fst, .int .i64 (0), .int .i64 bud]) (t := 115) ?hr ?_; (case hd => rfl); (case hg => rfl); (case hr => first | (go_simp; done) | (go_simp; rfl)); intro g hg w1 hbox hb; have HI := Aside0.mk (Srch.new (e := 2) (Below.refl _ w) (Nat.le_of_eq hg.symm) hbox hb); clear hbox hb hg; obtain ⟨x0, x1, x2, x3, x4, x5, x6, x7, x8, xf⟩ := spec_l15Search_goOn.cells HI.out; obtain ⟨y0, y1, y2, y3, y4, y5, y6, yf⟩ := boxed7 HBA.out HI.out.bel) | ((with_reducible refine gate_callee (f := 84) rfl ?_); refine goesL_ (some _) rfl rfl Try.func84 (by kernel_rfl) rfl #[.pointer (some ⟨gr, 0, none⟩)] rfl aw_ ?_; (with_reducible refine (spec_l05Ok.calls k gr s A1 c1 u A2 c2 d st wk A5 c5 f true _ ?b1 ?s1 ?t1 ?s2 ?t2 ?s5 ?t5 E1.out).mono ?_); (case b1 => exact blk_below HBR.out HI.out.bel); (case s1 => exact Kd.C_below HR1.out HI.out.bel); (case s2 => exact Kd.C_below HR2.out HI.out.bel); (case s5 => exact Kd.C_below HR5.out HI.out.bel); (case t1 => exact HC1.out); (case t2 => exact HC2.out); (case t5 => exact HC5.out); rintro e w2 ⟨rfl, hb_⟩; refine ⟨_, rfl, ?_⟩; have hb := below_of hb_; clear hb_; have hi_ := HI.out.below hb; clear HI; clear x0 x1 x2 x3 x4 x5 x6 x7 x8 xf y0 y1 y2 y3 y4 y5 y6 yf; have HI := Aside0.mk hi_; clear hi_; obtain ⟨x0, x1, x2, x3, x4, x5, x6, x7, x8, xf⟩ := spec_l15Search_goOn.cells HI.out; obtain ⟨y0, y1, y2, y3, y4, y5, y6, yf⟩ := boxed7 HBA.out HI.out.bel; clear hb) | (go_at_call 94; (with_reducible refine (spec_l15Ok.calls k ga lg sa en lo hi A6 c6 q rp false _ ?b2 ?s6 ?t6 E2.out).mono ?_); (case b2 => exact blk_below HBA.out HI.out.bel); (case s6 => exact Kd.C_below HR6.out HI.out.bel); (case t6 => exact HC6.out); rintro e w3 ⟨rfl, hb⟩; have hi_ := HI.out.below hb; clear HI; clear x0 x1 x2 x3 x4 x5 x6 x7 x8 xf y0 y1 y2 y3 y4 y5 y6 yf; have HI := Aside0.mk hi_; clear hi_; obtain ⟨x0, x1, x2, x3, x4, x5, x6, x7, x8, xf⟩ := spec_l15Search_goOn.cells HI.out; obtain ⟨y0, y1, y2, y3, y4, y5, y6, yf⟩ := boxed7 HBA.out HI.out.bel; clear hb))
    go_ret2
    exact ⟨g, _, rfl, x3, x4, x5, Kd.R_mono HI.out.R2 (fun _ _ => trivial), HI.out.bel⟩
  rw [if_pos rfl] at h; obtain ⟨t3, z1, h⟩ := Option.bind_eq_some_iff.mp h; have E3 := Aside0.mk z1; clear z1
  cases t3
  · rw [if_neg Bool.false_ne_true] at h
    obtain ⟨rfl, rfl, rfl, rfl⟩ : [] = bs ∧ 0 = le ∧ 0 = co ∧ 2 = cd := by simpa using h
    clear h; go_enter Try.func98, Try.ntmps98; go_wp2_with (first | ((with_reducible refine gate_dst (N := 16) rfl ?_); refine box_event ?hg (N := 16) ?hd (cs := #[.pointer (some ⟨gr, 0, none⟩), .pointer (some ⟨ga, 0, none⟩), .slice none 0 0, .slice none 0 0, .int .i64 (0), .int .i64 (0), .bool fst, .int .i64 (0), .int .i64 bud]) (t := 115) ?hr ?_; (case hd => rfl); (case hg => rfl); (case hr => first | (go_simp; done) | (go_simp; rfl)); intro g hg w1 hbox hb; have HI := Aside0.mk (Srch.new (e := 2) (Below.refl _ w) (Nat.le_of_eq hg.symm) hbox hb); clear hbox hb hg; obtain ⟨x0, x1, x2, x3, x4, x5, x6, x7, x8, xf⟩ := spec_l15Search_goOn.cells HI.out; obtain ⟨y0, y1, y2, y3, y4, y5, y6, yf⟩ := boxed7 HBA.out HI.out.bel) | ((with_reducible refine gate_callee (f := 84) rfl ?_); refine goesL_ (some _) rfl rfl Try.func84 (by kernel_rfl) rfl #[.pointer (some ⟨gr, 0, none⟩)] rfl aw_ ?_; (with_reducible refine (spec_l05Ok.calls k gr s A1 c1 u A2 c2 d st wk A5 c5 f true _ ?b1 ?s1 ?t1 ?s2 ?t2 ?s5 ?t5 E1.out).mono ?_); (case b1 => exact blk_below HBR.out HI.out.bel); (case s1 => exact Kd.C_below HR1.out HI.out.bel); (case s2 => exact Kd.C_below HR2.out HI.out.bel); (case s5 => exact Kd.C_below HR5.out HI.out.bel); (case t1 => exact HC1.out); (case t2 => exact HC2.out); (case t5 => exact HC5.out); rintro e w2 ⟨rfl, hb_⟩; refine ⟨_, rfl, ?_⟩; have hb := below_of hb_; clear hb_; have hi_ := HI.out.below hb; clear HI; clear x0 x1 x2 x3 x4 x5 x6 x7 x8 xf y0 y1 y2 y3 y4 y5 y6 yf; have HI := Aside0.mk hi_; clear hi_; obtain ⟨x0, x1, x2, x3, x4, x5, x6, x7, x8, xf⟩ := spec_l15Search_goOn.cells HI.out; obtain ⟨y0, y1, y2, y3, y4, y5, y6, yf⟩ := boxed7 HBA.out HI.out.bel; clear hb) | (go_at_call 94; (with_reducible refine (spec_l15Ok.calls k ga lg sa en lo hi A6 c6 q rp true _ ?b2 ?s6 ?t6 E2.out).mono ?_); (case b2 => exact blk_below HBA.out HI.out.bel); (case s6 => exact Kd.C_below HR6.out HI.out.bel); (case t6 => exact HC6.out); rintro e w3 ⟨rfl, hb⟩; have hi_ := HI.out.below hb; clear HI; clear x0 x1 x2 x3 x4 x5 x6 x7 x8 xf y0 y1 y2 y3 y4 y5 y6 yf; have HI := Aside0.mk hi_; clear hi_; obtain ⟨x0, x1, x2, x3, x4, x5, x6, x7, x8, xf⟩ := spec_l15Search_goOn.cells HI.out; obtain ⟨y0, y1, y2, y3, y4, y5, y6, yf⟩ := boxed7 HBA.out HI.out.bel; clear hb) | ((with_reducible refine gate_callee (f := 58) rfl ?_); refine goesL_ (some _) rfl rfl Try.func58 (by kernel_rfl) rfl #[.int .i64 bud, .int .i64 1, .int .i64 20000] rfl aw_ ?_; (with_reducible refine (spec_l00In.calls _ _ _ false _ E3.out).mono ?_); rintro e w4 ⟨rfl, hb_⟩; refine ⟨_, rfl, ?_⟩; have hb := below_of hb_; clear hb_; have hi_ := HI.out.below hb; clear HI; clear x0 x1 x2 x3 x4 x5 x6 x7 x8 xf y0 y1 y2 y3 y4 y5 y6 yf; have HI := Aside0.mk hi_; clear hi_; obtain ⟨x0, x1, x2, x3, x4, x5, x6, x7, x8, xf⟩ := spec_l15Search_goOn.cells HI.out; obtain ⟨y0, y1, y2, y3, y4, y5, y6, yf⟩ := boxed7 HBA.out HI.out.bel; clear hb))
    go_ret2
    exact ⟨g, _, rfl, x3, x4, x5, Kd.R_mono HI.out.R2 (fun _ _ => trivial), HI.out.bel⟩
  rw [if_pos rfl] at h; obtain ⟨⟨r, b2, l2, n2, no⟩, z1, h⟩ := Option.bind_eq_some_iff.mp h; simp only at h; have E4 := Aside0.mk z1; clear z1
  by_cases ca : bud < no
  · rw [if_pos ca] at h; have ca0 : decide (no > bud) = true := decide_eq_true ca
    obtain ⟨rfl, rfl, rfl, rfl⟩ : b2 = bs ∧ l2 = le ∧ n2 = co ∧ 5 = cd := by simpa using h
    clear h ca; go_enter Try.func98, Try.ntmps98; go_wp2_with (first | ((with_reducible refine gate_dst (N := 16) rfl ?_); refine box_event ?hg (N := 16) ?hd (cs := #[.pointer (some ⟨gr, 0, none⟩), .pointer (some ⟨ga, 0, none⟩), .slice none 0 0, .slice none 0 0, .int .i64 (0), .int .i64 (0), .bool fst, .int .i64 (0), .int .i64 bud]) (t := 115) ?hr ?_; (case hd => rfl); (case hg => rfl); (case hr => first | (go_simp; done) | (go_simp; rfl)); intro g hg w1 hbox hb; have HI := Aside0.mk (Srch.new (e := 2) (Below.refl _ w) (Nat.le_of_eq hg.symm) hbox hb); clear hbox hb hg; obtain ⟨x0, x1, x2, x3, x4, x5, x6, x7, x8, xf⟩ := spec_l15Search_goOn.cells HI.out; obtain ⟨y0, y1, y2, y3, y4, y5, y6, yf⟩ := boxed7 HBA.out HI.out.bel) | ((with_reducible refine gate_callee (f := 84) rfl ?_); refine goesL_ (some _) rfl rfl Try.func84 (by kernel_rfl) rfl #[.pointer (some ⟨gr, 0, none⟩)] rfl aw_ ?_; (with_reducible refine (spec_l05Ok.calls k gr s A1 c1 u A2 c2 d st wk A5 c5 f true _ ?b1 ?s1 ?t1 ?s2 ?t2 ?s5 ?t5 E1.out).mono ?_); (case b1 => exact blk_below HBR.out HI.out.bel); (case s1 => exact Kd.C_below HR1.out HI.out.bel); (case s2 => exact Kd.C_below HR2.out HI.out.bel); (case s5 => exact Kd.C_below HR5.out HI.out.bel); (case t1 => exact HC1.out); (case t2 => exact HC2.out); (case t5 => exact HC5.out); rintro e w2 ⟨rfl, hb_⟩; refine ⟨_, rfl, ?_⟩; have hb := below_of hb_; clear hb_; have hi_ := HI.out.below hb; clear HI; clear x0 x1 x2 x3 x4 x5 x6 x7 x8 xf y0 y1 y2 y3 y4 y5 y6 yf; have HI := Aside0.mk hi_; clear hi_; obtain ⟨x0, x1, x2, x3, x4, x5, x6, x7, x8, xf⟩ := spec_l15Search_goOn.cells HI.out; obtain ⟨y0, y1, y2, y3, y4, y5, y6, yf⟩ := boxed7 HBA.out HI.out.bel; clear hb) | (go_at_call 94; (with_reducible refine (spec_l15Ok.calls k ga lg sa en lo hi A6 c6 q rp true _ ?b2 ?s6 ?t6 E2.out).mono ?_); (case b2 => exact blk_below HBA.out HI.out.bel); (case s6 => exact Kd.C_below HR6.out HI.out.bel); (case t6 => exact HC6.out); rintro e w3 ⟨rfl, hb⟩; have hi_ := HI.out.below hb; clear HI; clear x0 x1 x2 x3 x4 x5 x6 x7 x8 xf y0 y1 y2 y3 y4 y5 y6 yf; have HI := Aside0.mk hi_; clear hi_; obtain ⟨x0, x1, x2, x3, x4, x5, x6, x7, x8, xf⟩ := spec_l15Search_goOn.cells HI.out; obtain ⟨y0, y1, y2, y3, y4, y5, y6, yf⟩ := boxed7 HBA.out HI.out.bel; clear hb) | ((with_reducible refine gate_callee (f := 58) rfl ?_); refine goesL_ (some _) rfl rfl Try.func58 (by kernel_rfl) rfl #[.int .i64 bud, .int .i64 1, .int .i64 20000] rfl aw_ ?_; (with_reducible refine (spec_l00In.calls _ _ _ true _ E3.out).mono ?_); rintro e w4 ⟨rfl, hb_⟩; refine ⟨_, rfl, ?_⟩; have hb := below_of hb_; clear hb_; have hi_ := HI.out.below hb; clear HI; clear x0 x1 x2 x3 x4 x5 x6 x7 x8 xf y0 y1 y2 y3 y4 y5 y6 yf; have HI := Aside0.mk hi_; clear hi_; obtain ⟨x0, x1, x2, x3, x4, x5, x6, x7, x8, xf⟩ := spec_l15Search_goOn.cells HI.out; obtain ⟨y0, y1, y2, y3, y4, y5, y6, yf⟩ := boxed7 HBA.out HI.out.bel; clear hb) | ((with_reducible refine gate_dst (N := 35) rfl ?_); refine Kd.R_lit (Kd.int .i64) _ 2 ?hg (N := 35) ?hd (xs := ([sa] : List Int)) (inner := [.int .i64 sa]) (ok := fun _ => True) (okp := fun _ => True) ?hr ?hp (fun _ hk => hk) trivial (Below.refl _ _) (Nat.le_refl _) (by simp) ?_; (case hd => rfl); (case hg => rfl); (case hr => first | (go_simp; done) | (go_simp; rfl)); (case hp => exact (Reps.one (show Kd.M (Kd.int .i64) _ _ _ sa [.int .i64 sa] from rfl) (Reps.none _ _))); intro v5 w5 ho hb hg_ hnew_; clear hg_ hnew_; have hn_ := HI.out.list hb ho; clear ho hb; obtain ⟨A5_, c5_, e5_⟩ := Kd.R_slice hn_.R1; subst e5_; have hi_ := hn_; clear HI; clear x0 x1 x2 x3 x4 x5 x6 x7 x8 xf y0 y1 y2 y3 y4 y5 y6 yf; have HI := Aside0.mk hi_; clear hi_; obtain ⟨x0, x1, x2, x3, x4, x5, x6, x7, x8, xf⟩ := spec_l15Search_goOn.cells HI.out; obtain ⟨y0, y1, y2, y3, y4, y5, y6, yf⟩ := boxed7 HBA.out HI.out.bel; clear hn_) | ((with_reducible refine gate_callee (f := 135) rfl ?_); refine goesL_ (some _) rfl rfl Try.func135 (by kernel_rfl) rfl #[.pointer (some ⟨g, 0, none⟩)] rfl aw_ ?_; have hs_ := HI.out.set 2 (.slice A5_ 1 c5_) (cs' := #[.pointer (some ⟨gr, 0, none⟩), .pointer (some ⟨ga, 0, none⟩), .slice A5_ 1 c5_, .slice none 0 0, .int .i64 (0), .int .i64 (0), .bool fst, .int .i64 (0), .int .i64 bud]) rfl; refine (spec_l15Search_goOn.calls s A1 c1 u A2 c2 d st wk A5 c5 f lg sa en lo hi A6 c6 q rp fst bud gr ga w KR1.out KC1.out KR2.out KC2.out KR5.out KC5.out KR6.out KC6.out KBR.out KBA.out k k (Nat.le_refl _) g _ _ _ _ 0 0 0 r _ _ _ no _ hs_ E4.out).mono ?_; clear hs_; rintro e w6 ⟨rfl, vp2, ps2, vb2, hq_, hs_, hk_⟩; refine ⟨_, rfl, ?_⟩; clear hq_ hk_; have hi_ := hs_; clear HI; clear x0 x1 x2 x3 x4 x5 x6 x7 x8 xf y0 y1 y2 y3 y4 y5 y6 yf; have HI := Aside0.mk hi_; clear hi_; obtain ⟨x0, x1, x2, x3, x4, x5, x6, x7, x8, xf⟩ := spec_l15Search_goOn.cells HI.out; obtain ⟨y0, y1, y2, y3, y4, y5, y6, yf⟩ := boxed7 HBA.out HI.out.bel; clear hs_))
    go_ret2
    exact ⟨g, _, rfl, x3, x4, x5, Kd.R_mono HI.out.R2 (fun _ _ => trivial), HI.out.bel⟩
  rw [if_neg ca] at h; have ca0 : decide (no > bud) = false := decide_eq_false ca
  obtain ⟨rfl, rfl, rfl, rfl⟩ : b2 = bs ∧ l2 = le ∧ n2 = co ∧ 0 = cd := by simpa using h
  clear h ca; go_enter Try.func98, Try.ntmps98; go_wp2_with (first | ((with_reducible refine gate_dst (N := 16) rfl ?_); refine box_event ?hg (N := 16) ?hd (cs := #[.pointer (some ⟨gr, 0, none⟩), .pointer (some ⟨ga, 0, none⟩), .slice none 0 0, .slice none 0 0, .int .i64 (0), .int .i64 (0), .bool fst, .int .i64 (0), .int .i64 bud]) (t := 115) ?hr ?_; (case hd => rfl); (case hg => rfl); (case hr => first | (go_simp; done) | (go_simp; rfl)); intro g hg w1 hbox hb; have HI := Aside0.mk (Srch.new (e := 2) (Below.refl _ w) (Nat.le_of_eq hg.symm) hbox hb); clear hbox hb hg; obtain ⟨x0, x1, x2, x3, x4, x5, x6, x7, x8, xf⟩ := spec_l15Search_goOn.cells HI.out; obtain ⟨y0, y1, y2, y3, y4, y5, y6, yf⟩ := boxed7 HBA.out HI.out.bel) | ((with_reducible refine gate_callee (f := 84) rfl ?_); refine goesL_ (some _) rfl rfl Try.func84 (by kernel_rfl) rfl #[.pointer (some ⟨gr, 0, none⟩)] rfl aw_ ?_; (with_reducible refine (spec_l05Ok.calls k gr s A1 c1 u A2 c2 d st wk A5 c5 f true _ ?b1 ?s1 ?t1 ?s2 ?t2 ?s5 ?t5 E1.out).mono ?_); (case b1 => exact blk_below HBR.out HI.out.bel); (case s1 => exact Kd.C_below HR1.out HI.out.bel); (case s2 => exact Kd.C_below HR2.out HI.out.bel); (case s5 => exact Kd.C_below HR5.out HI.out.bel); (case t1 => exact HC1.out); (case t2 => exact HC2.out); (case t5 => exact HC5.out); rintro e w2 ⟨rfl, hb_⟩; refine ⟨_, rfl, ?_⟩; have hb := below_of hb_; clear hb_; have hi_ := HI.out.below hb; clear HI; clear x0 x1 x2 x3 x4 x5 x6 x7 x8 xf y0 y1 y2 y3 y4 y5 y6 yf; have HI := Aside0.mk hi_; clear hi_; obtain ⟨x0, x1, x2, x3, x4, x5, x6, x7, x8, xf⟩ := spec_l15Search_goOn.cells HI.out; obtain ⟨y0, y1, y2, y3, y4, y5, y6, yf⟩ := boxed7 HBA.out HI.out.bel; clear hb) | (go_at_call 94; (with_reducible refine (spec_l15Ok.calls k ga lg sa en lo hi A6 c6 q rp true _ ?b2 ?s6 ?t6 E2.out).mono ?_); (case b2 => exact blk_below HBA.out HI.out.bel); (case s6 => exact Kd.C_below HR6.out HI.out.bel); (case t6 => exact HC6.out); rintro e w3 ⟨rfl, hb⟩; have hi_ := HI.out.below hb; clear HI; clear x0 x1 x2 x3 x4 x5 x6 x7 x8 xf y0 y1 y2 y3 y4 y5 y6 yf; have HI := Aside0.mk hi_; clear hi_; obtain ⟨x0, x1, x2, x3, x4, x5, x6, x7, x8, xf⟩ := spec_l15Search_goOn.cells HI.out; obtain ⟨y0, y1, y2, y3, y4, y5, y6, yf⟩ := boxed7 HBA.out HI.out.bel; clear hb) | ((with_reducible refine gate_callee (f := 58) rfl ?_); refine goesL_ (some _) rfl rfl Try.func58 (by kernel_rfl) rfl #[.int .i64 bud, .int .i64 1, .int .i64 20000] rfl aw_ ?_; (with_reducible refine (spec_l00In.calls _ _ _ true _ E3.out).mono ?_); rintro e w4 ⟨rfl, hb_⟩; refine ⟨_, rfl, ?_⟩; have hb := below_of hb_; clear hb_; have hi_ := HI.out.below hb; clear HI; clear x0 x1 x2 x3 x4 x5 x6 x7 x8 xf y0 y1 y2 y3 y4 y5 y6 yf; have HI := Aside0.mk hi_; clear hi_; obtain ⟨x0, x1, x2, x3, x4, x5, x6, x7, x8, xf⟩ := spec_l15Search_goOn.cells HI.out; obtain ⟨y0, y1, y2, y3, y4, y5, y6, yf⟩ := boxed7 HBA.out HI.out.bel; clear hb) | ((with_reducible refine gate_dst (N := 35) rfl ?_); refine Kd.R_lit (Kd.int .i64) _ 2 ?hg (N := 35) ?hd (xs := ([sa] : List Int)) (inner := [.int .i64 sa]) (ok := fun _ => True) (okp := fun _ => True) ?hr ?hp (fun _ hk => hk) trivial (Below.refl _ _) (Nat.le_refl _) (by simp) ?_; (case hd => rfl); (case hg => rfl); (case hr => first | (go_simp; done) | (go_simp; rfl)); (case hp => exact (Reps.one (show Kd.M (Kd.int .i64) _ _ _ sa [.int .i64 sa] from rfl) (Reps.none _ _))); intro v5 w5 ho hb hg_ hnew_; clear hg_ hnew_; have hn_ := HI.out.list hb ho; clear ho hb; obtain ⟨A5_, c5_, e5_⟩ := Kd.R_slice hn_.R1; subst e5_; have hi_ := hn_; clear HI; clear x0 x1 x2 x3 x4 x5 x6 x7 x8 xf y0 y1 y2 y3 y4 y5 y6 yf; have HI := Aside0.mk hi_; clear hi_; obtain ⟨x0, x1, x2, x3, x4, x5, x6, x7, x8, xf⟩ := spec_l15Search_goOn.cells HI.out; obtain ⟨y0, y1, y2, y3, y4, y5, y6, yf⟩ := boxed7 HBA.out HI.out.bel; clear hn_) | ((with_reducible refine gate_callee (f := 135) rfl ?_); refine goesL_ (some _) rfl rfl Try.func135 (by kernel_rfl) rfl #[.pointer (some ⟨g, 0, none⟩)] rfl aw_ ?_; have hs_ := HI.out.set 2 (.slice A5_ 1 c5_) (cs' := #[.pointer (some ⟨gr, 0, none⟩), .pointer (some ⟨ga, 0, none⟩), .slice A5_ 1 c5_, .slice none 0 0, .int .i64 (0), .int .i64 (0), .bool fst, .int .i64 (0), .int .i64 bud]) rfl; refine (spec_l15Search_goOn.calls s A1 c1 u A2 c2 d st wk A5 c5 f lg sa en lo hi A6 c6 q rp fst bud gr ga w KR1.out KC1.out KR2.out KC2.out KR5.out KC5.out KR6.out KC6.out KBR.out KBA.out k k (Nat.le_refl _) g _ _ _ _ 0 0 0 r _ _ _ no _ hs_ E4.out).mono ?_; clear hs_; rintro e w6 ⟨rfl, vp2, ps2, vb2, hq_, hs_, hk_⟩; refine ⟨_, rfl, ?_⟩; clear hq_ hk_; have hi_ := hs_; clear HI; clear x0 x1 x2 x3 x4 x5 x6 x7 x8 xf y0 y1 y2 y3 y4 y5 y6 yf; have HI := Aside0.mk hi_; clear hi_; obtain ⟨x0, x1, x2, x3, x4, x5, x6, x7, x8, xf⟩ := spec_l15Search_goOn.cells HI.out; obtain ⟨y0, y1, y2, y3, y4, y5, y6, yf⟩ := boxed7 HBA.out HI.out.bel; clear hs_))
  go_ret2
  exact ⟨g, _, rfl, x3, x4, x5, Kd.R_mono HI.out.R2 (fun _ _ => trivial), HI.out.bel⟩
def spec_FindMelody.f (k : Nat) (s : ByteArray) (u d : List Int) (st wk : Int) (f : List (List Int)) (lg sa en lo hi : Int) (q : List (List Int)) (rp : Int) (bud : Int) : Option (List Int × Int) := (spec_l15Run.f k s u d st wk f lg sa en lo hi q rp bud true).bind fun z => if z.2.2.2 = 0 then (if z.2.2.1 = 0 then some ([], 3) else ((spec_l00Own.f z.1).bind fun c => some (c, 0))) else some ([], z.2.2.2)
theorem spec_FindMelody.calls (k : Nat) (s : ByteArray) (A1 : Option Addr) (c1 : Nat) (u : List Int) (A2 : Option Addr) (c2 : Nat) (d : List Int) (st wk : Int) (A5 : Option Addr) (c5 : Nat) (f : List (List Int)) (lg sa en lo hi : Int) (A6 : Option Addr) (c6 : Nat) (q : List (List Int)) (rp : Int) (bud : Int) (r1 : List Int) (r2 : Int) (w : World) (hr1 : Kd.C (Kd.int .i64) w A1 u.length u) (hc1 : u.length ≤ c1) (hr2 : Kd.C (Kd.int .i64) w A2 d.length d) (hc2 : d.length ≤ c2) (hr5 : Kd.C (Kd.slice 2 (Kd.int .i64)) w A5 f.length f) (hc5 : f.length ≤ c5) (hr6 : Kd.C (Kd.slice 2 (Kd.int .i64)) w A6 q.length q) (hc6 : q.length ≤ c6) (h : spec_FindMelody.f k s u d st wk f lg sa en lo hi q rp bud = some (r1, r2)) :
    Calls Try.prog 46 #[.agg #[.string s, .slice A1 u.length c1, .slice A2 d.length c2, .int .i64 st, .int .i64 wk, .slice A5 f.length c5], .agg #[.int .i64 lg, .int .i64 sa, .int .i64 en, .int .i64 lo, .int .i64 hi, .slice A6 q.length c6, .int .i64 rp], .int .i64 bud] w fun e w' => ∃ v0_ : Value, e = .returned (.tuple #[v0_, .int .i64 r2]) ∧ Kd.R (Kd.int .i64) 2 w' w.heap.size (fun _ => True) v0_ r1 ∧ Below w.heap.size w w' := by
  have HR1 := Aside0.mk hr1; have HR2 := Aside0.mk hr2; have HR5 := Aside0.mk hr5; have HR6 := Aside0.mk hr6; have HC1 := Aside0.mk hc1; have HC2 := Aside0.mk hc2; have HC5 := Aside0.mk hc5; have HC6 := Aside0.mk hc6; clear hr1 hc1 hr2 hc2 hr5 hc5 hr6 hc6 ; have hul15Search := Try.underlying115; have huRaga := Try.underlying29; have huAsk := Try.underlying62; unfold spec_FindMelody.f at h; obtain ⟨⟨bs, le, co, cd⟩, z1, h⟩ := Option.bind_eq_some_iff.mp h; have E1 := Aside0.mk z1; clear z1; simp only at h
  by_cases ca : cd = 0
  rotate_left
  · rw [if_neg ca] at h
    obtain ⟨rfl, rfl⟩ : [] = r1 ∧ cd = r2 := by simpa using h
    clear h; go_enter Try.func46, Try.ntmps46; go_wp2_with (first | ((with_reducible refine gate_dst (N := 3) rfl ?_); refine box_event ?hg (N := 3) ?hd (cs := #[.string s, .slice A1 u.length c1, .slice A2 d.length c2, .int .i64 st, .int .i64 wk, .slice A5 f.length c5]) (t := 29) ?hr ?_; (case hd => rfl); (case hg => rfl); (case hr => first | (go_simp; done) | (go_simp; rfl)); intro gr hg w1 hbox hb; have HB := Aside0.mk hb; have HBR := Aside0.mk hbox; clear hbox hb hg) | ((with_reducible refine gate_dst (N := 4) rfl ?_); refine box_event ?hg (N := 4) ?hd (cs := #[.int .i64 lg, .int .i64 sa, .int .i64 en, .int .i64 lo, .int .i64 hi, .slice A6 q.length c6, .int .i64 rp]) (t := 62) ?hr ?_; (case hd => rfl); (case hg => rfl); (case hr => first | (go_simp; done) | (go_simp; rfl)); intro ga hg w2 hbox hb; have hbr_ := blk_below HBR.out hb; have hB_ := below_step HB.out hb; clear HB HBR; have HB := Aside0.mk hB_; have HBR := Aside0.mk hbr_; have HBA := Aside0.mk hbox; clear hbox hb hg hbr_ hB_) | ((with_reducible refine gate_callee (f := 98) rfl ?_); refine goesL_ (some _) rfl rfl Try.func98 (by kernel_rfl) rfl #[.pointer (some ⟨gr, 0, none⟩), .pointer (some ⟨ga, 0, none⟩), .int .i64 bud, .bool true] rfl aw_ ?_; (with_reducible refine (spec_l15Run.calls k s A1 c1 u A2 c2 d st wk A5 c5 f lg sa en lo hi A6 c6 q rp bud true gr ga _ _ _ _ _ ?s1 ?t1 ?s2 ?t2 ?s5 ?t5 ?s6 ?t6 ?b1 ?b2 E1.out).mono ?_); (case s1 => exact Kd.C_below HR1.out HB.out); (case s2 => exact Kd.C_below HR2.out HB.out); (case s5 => exact Kd.C_below HR5.out HB.out); (case s6 => exact Kd.C_below HR6.out HB.out); (case t1 => exact HC1.out); (case t2 => exact HC2.out); (case t5 => exact HC5.out); (case t6 => exact HC6.out); (case b1 => exact HBR.out); (case b2 => exact HBA.out); rintro e w3 ⟨g, vb, rfl, x3, x4, x5, hR_, hb⟩; refine ⟨_, rfl, ?_⟩; have hB_ := below_step HB.out hb; have hR2_ := Kd.R_lower hR_ HB.out.size; clear HB HBR HBA hb hR_; have HB := Aside0.mk hB_; have HR := Aside0.mk hR2_; clear hB_ hR2_; obtain ⟨Ab, cb, eb⟩ := Kd.R_slice HR.out; subst eb))
    go_ret2
    exact ⟨_, rfl, Kd.R_nil _ _ _ _ _, HB.out⟩
  rw [if_pos ca] at h; subst ca
  by_cases cz : co = 0
  · rw [if_pos cz] at h; subst cz
    obtain ⟨rfl, rfl⟩ : [] = r1 ∧ 3 = r2 := by simpa using h
    clear h; go_enter Try.func46, Try.ntmps46; go_wp2_with (first | ((with_reducible refine gate_dst (N := 3) rfl ?_); refine box_event ?hg (N := 3) ?hd (cs := #[.string s, .slice A1 u.length c1, .slice A2 d.length c2, .int .i64 st, .int .i64 wk, .slice A5 f.length c5]) (t := 29) ?hr ?_; (case hd => rfl); (case hg => rfl); (case hr => first | (go_simp; done) | (go_simp; rfl)); intro gr hg w1 hbox hb; have HB := Aside0.mk hb; have HBR := Aside0.mk hbox; clear hbox hb hg) | ((with_reducible refine gate_dst (N := 4) rfl ?_); refine box_event ?hg (N := 4) ?hd (cs := #[.int .i64 lg, .int .i64 sa, .int .i64 en, .int .i64 lo, .int .i64 hi, .slice A6 q.length c6, .int .i64 rp]) (t := 62) ?hr ?_; (case hd => rfl); (case hg => rfl); (case hr => first | (go_simp; done) | (go_simp; rfl)); intro ga hg w2 hbox hb; have hbr_ := blk_below HBR.out hb; have hB_ := below_step HB.out hb; clear HB HBR; have HB := Aside0.mk hB_; have HBR := Aside0.mk hbr_; have HBA := Aside0.mk hbox; clear hbox hb hg hbr_ hB_) | ((with_reducible refine gate_callee (f := 98) rfl ?_); refine goesL_ (some _) rfl rfl Try.func98 (by kernel_rfl) rfl #[.pointer (some ⟨gr, 0, none⟩), .pointer (some ⟨ga, 0, none⟩), .int .i64 bud, .bool true] rfl aw_ ?_; (with_reducible refine (spec_l15Run.calls k s A1 c1 u A2 c2 d st wk A5 c5 f lg sa en lo hi A6 c6 q rp bud true gr ga _ _ _ _ _ ?s1 ?t1 ?s2 ?t2 ?s5 ?t5 ?s6 ?t6 ?b1 ?b2 E1.out).mono ?_); (case s1 => exact Kd.C_below HR1.out HB.out); (case s2 => exact Kd.C_below HR2.out HB.out); (case s5 => exact Kd.C_below HR5.out HB.out); (case s6 => exact Kd.C_below HR6.out HB.out); (case t1 => exact HC1.out); (case t2 => exact HC2.out); (case t5 => exact HC5.out); (case t6 => exact HC6.out); (case b1 => exact HBR.out); (case b2 => exact HBA.out); rintro e w3 ⟨g, vb, rfl, x3, x4, x5, hR_, hb⟩; refine ⟨_, rfl, ?_⟩; have hB_ := below_step HB.out hb; have hR2_ := Kd.R_lower hR_ HB.out.size; clear HB HBR HBA hb hR_; have HB := Aside0.mk hB_; have HR := Aside0.mk hR2_; clear hB_ hR2_; obtain ⟨Ab, cb, eb⟩ := Kd.R_slice HR.out; subst eb))
    go_ret2
    exact ⟨_, rfl, Kd.R_nil _ _ _ _ _, HB.out⟩
  rw [if_neg cz] at h; obtain ⟨c, z1, h⟩ := Option.bind_eq_some_iff.mp h; have E2 := Aside0.mk z1; clear z1
  obtain ⟨rfl, rfl⟩ : c = r1 ∧ 0 = r2 := by simpa using h
  clear h; go_enter Try.func46, Try.ntmps46; go_wp2_with (first | ((with_reducible refine gate_dst (N := 3) rfl ?_); refine box_event ?hg (N := 3) ?hd (cs := #[.string s, .slice A1 u.length c1, .slice A2 d.length c2, .int .i64 st, .int .i64 wk, .slice A5 f.length c5]) (t := 29) ?hr ?_; (case hd => rfl); (case hg => rfl); (case hr => first | (go_simp; done) | (go_simp; rfl)); intro gr hg w1 hbox hb; have HB := Aside0.mk hb; have HBR := Aside0.mk hbox; clear hbox hb hg) | ((with_reducible refine gate_dst (N := 4) rfl ?_); refine box_event ?hg (N := 4) ?hd (cs := #[.int .i64 lg, .int .i64 sa, .int .i64 en, .int .i64 lo, .int .i64 hi, .slice A6 q.length c6, .int .i64 rp]) (t := 62) ?hr ?_; (case hd => rfl); (case hg => rfl); (case hr => first | (go_simp; done) | (go_simp; rfl)); intro ga hg w2 hbox hb; have hbr_ := blk_below HBR.out hb; have hB_ := below_step HB.out hb; clear HB HBR; have HB := Aside0.mk hB_; have HBR := Aside0.mk hbr_; have HBA := Aside0.mk hbox; clear hbox hb hg hbr_ hB_) | ((with_reducible refine gate_callee (f := 98) rfl ?_); refine goesL_ (some _) rfl rfl Try.func98 (by kernel_rfl) rfl #[.pointer (some ⟨gr, 0, none⟩), .pointer (some ⟨ga, 0, none⟩), .int .i64 bud, .bool true] rfl aw_ ?_; (with_reducible refine (spec_l15Run.calls k s A1 c1 u A2 c2 d st wk A5 c5 f lg sa en lo hi A6 c6 q rp bud true gr ga _ _ _ _ _ ?s1 ?t1 ?s2 ?t2 ?s5 ?t5 ?s6 ?t6 ?b1 ?b2 E1.out).mono ?_); (case s1 => exact Kd.C_below HR1.out HB.out); (case s2 => exact Kd.C_below HR2.out HB.out); (case s5 => exact Kd.C_below HR5.out HB.out); (case s6 => exact Kd.C_below HR6.out HB.out); (case t1 => exact HC1.out); (case t2 => exact HC2.out); (case t5 => exact HC5.out); (case t6 => exact HC6.out); (case b1 => exact HBR.out); (case b2 => exact HBA.out); rintro e w3 ⟨g, vb, rfl, x3, x4, x5, hR_, hb⟩; refine ⟨_, rfl, ?_⟩; have hB_ := below_step HB.out hb; have hR2_ := Kd.R_lower hR_ HB.out.size; clear HB HBR HBA hb hR_; have HB := Aside0.mk hB_; have HR := Aside0.mk hR2_; clear hB_ hR2_; obtain ⟨Ab, cb, eb⟩ := Kd.R_slice HR.out; subst eb) | ((with_reducible refine gate_callee (f := 99) rfl ?_); refine goesL_ (some _) rfl rfl Try.func99 (by kernel_rfl) rfl #[.slice Ab bs.length cb] rfl aw_ ?_; (with_reducible refine (spec_l00Own.calls _ _ bs c _ ?sp ?tp E2.out).mono ?_); (case sp => exact (Kd.R_reads' HR.out).2.2); (case tp => exact (Kd.R_reads' HR.out).2.1); rintro e w4 ⟨v0, rfl, hR_, hb⟩; refine ⟨_, rfl, ?_⟩; have hB_ := below_step HB.out hb; have hR2_ := Kd.R_lower hR_ HB.out.size; clear HB HR; have HB := Aside0.mk hB_; have HR := Aside0.mk hR2_; clear hB_ hR2_ hR_ hb))
  go_ret2
  exact ⟨_, rfl, HR.out, HB.out⟩
end Go.Proofs.Ytinlejhffokbaaa.P
end

section
namespace Go.Proofs.Ytinlejhffokbaaa.P
open Go.RowKit Go.ChangeShapes Go.WideShapes Go.Proofs.YtinlejhffokbaaaW.PrintWords Go.Proofs.YtinlejhffokbaaaW.PrintLast
set_option linter.unusedVariables false

section
variable {H : Type} {enc : TypeId × Value → H} {P : Program} {w : World} {held : Bool}

theorem list_choose {α : Type} (p : Nat → α → Prop) : ∀ n, (∀ i, i < n → ∃ y, p i y) → ∃ ys : List α, ys.length = n ∧ ∀ (i : Nat) (y : α), ys[i]? = some y → p i y := by
  intro n
  induction n with
  | zero => exact fun _ => ⟨[], rfl, fun i y h => by simp at h⟩
  | succ n ih =>
    intro h; obtain ⟨ys, hl, hp⟩ := ih (fun i hi => h i (by omega)); obtain ⟨z, hz⟩ := h n (by omega); refine ⟨ys ++ [z], by simp [hl], fun i y hy => ?_⟩
    rcases Nat.lt_or_ge i ys.length with hi | hi
    · rw [List.getElem?_append_left hi] at hy; exact hp i y hy
    · rw [List.getElem?_append_right hi] at hy
      have h0 : i - ys.length = 0 := by
        rcases Nat.eq_zero_or_pos (i - ys.length) with h1 | h1
        · exact h1
        · rw [List.getElem?_eq_none (by simp; omega)] at hy
          cases hy
      rw [h0] at hy; simp only [List.getElem?_cons_zero, Option.some.injEq] at hy; subst hy
      have : i = n := by omega
      subst this; exact hz

theorem len_cons {n : Nat} {cs : List Value} (h : cs.length = n + 1) : ∃ c t, cs = c :: t ∧ t.length = n := by
  cases cs with
  | nil => simp at h
  | cons c t => exact ⟨c, t, rfl, by simpa using h⟩

theorem opn_int {t : TypeId} {k : IntKind} (ht : P.underlying t = some (.int k)) {fuel : Nat} {cs : List Value} {x : DataW H × List MemPlace} (h : DataW.trod enc P w 0 (fun _ => true) held fuel t cs = some x) :
    ∃ y : Int, (Kd.int k).K w y cs ∧ (Lit.int k y).wf = true := by
  obtain ⟨n, hcs, _, hw⟩ := DataW.trod_int ht h; exact ⟨n, hcs, hw⟩

theorem opn_string {t : TypeId} (ht : P.underlying t = some .string) {fuel : Nat} {cs : List Value} {x : DataW H × List MemPlace} (h : DataW.trod enc P w 0 (fun _ => true) held fuel t cs = some x) :
    ∃ y : ByteArray, Kd.string.K w y cs ∧ y.size ≤ maxLen := by
  obtain ⟨s, hcs, _, hs⟩ := DataW.trod_string ht h; exact ⟨s, hcs, hs⟩

theorem opn_slice {α : Type} (d : Kd α) (ok : α → Prop) {t e : TypeId} (ht : P.underlying t = some (.slice e)) (ce : P.cellsOf e = d.sz)
    (hE : ∀ {fuel : Nat} {cs : List Value} {x : DataW H × List MemPlace}, DataW.trod enc P w 0 (fun _ => true) held fuel e cs = some x → ∃ y : α, d.K w y cs ∧ ok y)
    {fuel : Nat} {cs : List Value} {x : DataW H × List MemPlace} (h : DataW.trod enc P w 0 (fun _ => true) held fuel t cs = some x) :
    ∃ ys : List α, (Kd.slice e d).K w ys cs ∧ ys.length ≤ maxLen ∧ ∀ y ∈ ys, ok y := by
  rcases Go.Deep.open_slice ht h with ⟨rfl, _⟩ | ⟨a, len, cap, m, n, D, Pl, rfl, hb, hl, hm, hmm, rfl, hx⟩
  · exact ⟨[], ⟨none, 0, rfl, Nat.le_refl _, rfl, by simp, fun h => absurd h (Nat.lt_irrefl 0)⟩, Nat.zero_le _, by simp⟩
  · simp only [if_true] at hmm; subst hmm
    obtain ⟨ys, hyl, hy⟩ := list_choose (fun i (y : α) => (∃ cs', w.cells? 0 (a.add (i * P.cellsOf e)) (P.cellsOf e) = some cs' ∧ d.K w y cs') ∧ ok y) len (fun i hi => by
      obtain ⟨cs', h1, h2⟩ := hx i (by omega); obtain ⟨y, hk, ho⟩ := hE h2
      exact ⟨y, ⟨cs', h1, hk⟩, ho⟩)
    subst hyl; refine ⟨ys, ⟨some a, m, rfl, hl, rfl, Nat.le_trans hl (by unfold maxLen at hm; exact hm), fun _ => ⟨a, rfl, fun j p hp => ?_⟩⟩, Nat.le_trans hl hm, fun y hmem => ?_⟩
    · obtain ⟨⟨cs', h1, hk⟩, _⟩ := hy j p hp; obtain ⟨_, hlen, hcell⟩ := World.cells?_some h1; rw [ce] at hlen hcell; refine ⟨cs', hlen, hk, fun i u hu => ?_⟩
      have hi : i < d.sz := by
        rw [← hlen]; exact (List.getElem?_eq_some_iff.1 hu).1
      have := hcell i hi; rw [Go.Deep.add_add] at this; rw [this, hu]
    · obtain ⟨i, hi⟩ := List.getElem?_of_mem hmem; exact (hy i y hi).2
end
theorem opn_L22 {H : Type} {enc : TypeId × Value → H} {w : World} {held : Bool} {fuel : Nat} {cs : List Value} {x : DataW H × List MemPlace} (h : DataW.trod enc Try.prog w 0 (fun _ => true) held fuel 22 cs = some x) :
    ∃ y : List Int, (Kd.slice 2 (Kd.int .i64)).K w y cs ∧ y.length ≤ maxLen ∧ ∀ y0 ∈ y, (Lit.int .i64 y0).wf = true :=
  opn_slice (Kd.int .i64) (fun y0 => (Lit.int .i64 y0).wf = true) Try.underlying22 (show Try.prog.cellsOf 2 = _ by kernel_rfl) (fun h => (opn_int Try.underlying2) h) h
theorem opn_L23 {H : Type} {enc : TypeId × Value → H} {w : World} {held : Bool} {fuel : Nat} {cs : List Value} {x : DataW H × List MemPlace} (h : DataW.trod enc Try.prog w 0 (fun _ => true) held fuel 23 cs = some x) :
    ∃ y : List (List Int), (Kd.slice 22 (Kd.slice 2 (Kd.int .i64))).K w y cs ∧ y.length ≤ maxLen ∧ ∀ y0 ∈ y, (y0.length ≤ maxLen ∧ ∀ y1 ∈ y0, (Lit.int .i64 y1).wf = true) :=
  opn_slice (Kd.slice 2 (Kd.int .i64)) (fun y0 => (y0.length ≤ maxLen ∧ ∀ y1 ∈ y0, (Lit.int .i64 y1).wf = true)) Try.underlying23 (show Try.prog.cellsOf 22 = _ by kernel_rfl) (fun h => opn_L22 h) h
theorem opn_S25 {H : Type} {enc : TypeId × Value → H} {w : World} {held : Bool} {fuel : Nat} {cs : List Value} {x : DataW H × List MemPlace} (h : DataW.trod enc Try.prog w 0 (fun _ => true) held fuel 25 cs = some x) :
    ∃ y : S25, k25.K w y cs ∧ y.f0.size ≤ maxLen ∧ (y.f1.length ≤ maxLen ∧ ∀ y0 ∈ y.f1, (Lit.int .i64 y0).wf = true) ∧ (y.f2.length ≤ maxLen ∧ ∀ y0 ∈ y.f2, (Lit.int .i64 y0).wf = true) ∧ (Lit.int .i64 y.f3).wf = true ∧ (Lit.int .i64 y.f4).wf = true ∧ (y.f5.length ≤ maxLen ∧ ∀ y0 ∈ y.f5, (y0.length ≤ maxLen ∧ ∀ y1 ∈ y0, (Lit.int .i64 y1).wf = true)) := by
  obtain ⟨xs, n, _, _, hl, hlen, hf⟩ := DataW.trod_struct Try.underlying25 h; rw [show Try.prog.cellsOf 25 = 6 from by kernel_rfl] at hl; obtain ⟨c0, t0, rfl, hl0⟩ := len_cons hl; obtain ⟨c1, t1, rfl, hl1⟩ := len_cons hl0; obtain ⟨c2, t2, rfl, hl2⟩ := len_cons hl1; obtain ⟨c3, t3, rfl, hl3⟩ := len_cons hl2; obtain ⟨c4, t4, rfl, hl4⟩ := len_cons hl3; obtain ⟨c5, t5, rfl, hl5⟩ := len_cons hl4; obtain rfl := List.eq_nil_of_length_eq_zero hl5; have h0 := hf 0 _ rfl; rw [List.getElem?_eq_getElem (show 0 < xs.length by rw [hlen]; decide)] at h0; obtain ⟨y0, k0, w0⟩ := (opn_string Try.underlying9) (show DataW.trod enc Try.prog w 0 (fun _ => true) held n 9 [c0] = some _ from by simpa [show Try.prog.cellsOf 9 = 1 from by kernel_rfl] using h0); have h1 := hf 1 _ rfl; rw [List.getElem?_eq_getElem (show 1 < xs.length by rw [hlen]; decide)] at h1; obtain ⟨y1, k1, w1⟩ := opn_L22 (show DataW.trod enc Try.prog w 0 (fun _ => true) held n 22 [c1] = some _ from by simpa [show Try.prog.cellsOf 22 = 1 from by kernel_rfl] using h1); have h2 := hf 2 _ rfl; rw [List.getElem?_eq_getElem (show 2 < xs.length by rw [hlen]; decide)] at h2; obtain ⟨y2, k2, w2⟩ := opn_L22 (show DataW.trod enc Try.prog w 0 (fun _ => true) held n 22 [c2] = some _ from by simpa [show Try.prog.cellsOf 22 = 1 from by kernel_rfl] using h2); have h3 := hf 3 _ rfl; rw [List.getElem?_eq_getElem (show 3 < xs.length by rw [hlen]; decide)] at h3; obtain ⟨y3, k3, w3⟩ := (opn_int Try.underlying2) (show DataW.trod enc Try.prog w 0 (fun _ => true) held n 2 [c3] = some _ from by simpa [show Try.prog.cellsOf 2 = 1 from by kernel_rfl] using h3); have h4 := hf 4 _ rfl; rw [List.getElem?_eq_getElem (show 4 < xs.length by rw [hlen]; decide)] at h4; obtain ⟨y4, k4, w4⟩ := (opn_int Try.underlying2) (show DataW.trod enc Try.prog w 0 (fun _ => true) held n 2 [c4] = some _ from by simpa [show Try.prog.cellsOf 2 = 1 from by kernel_rfl] using h4); have h5 := hf 5 _ rfl; rw [List.getElem?_eq_getElem (show 5 < xs.length by rw [hlen]; decide)] at h5; obtain ⟨y5, k5, w5⟩ := opn_L23 (show DataW.trod enc Try.prog w 0 (fun _ => true) held n 23 [c5] = some _ from by simpa [show Try.prog.cellsOf 23 = 1 from by kernel_rfl] using h5); exact ⟨⟨y0, y1, y2, y3, y4, y5⟩, ⟨[c0], [c1, c2, c3, c4, c5], rfl, k0, ⟨[c1], [c2, c3, c4, c5], rfl, k1, ⟨[c2], [c3, c4, c5], rfl, k2, ⟨[c3], [c4, c5], rfl, k3, ⟨[c4], [c5], rfl, k4, k5⟩⟩⟩⟩⟩, w0, w1, w2, w3, w4, w5⟩
theorem opn_S59 {H : Type} {enc : TypeId × Value → H} {w : World} {held : Bool} {fuel : Nat} {cs : List Value} {x : DataW H × List MemPlace} (h : DataW.trod enc Try.prog w 0 (fun _ => true) held fuel 59 cs = some x) :
    ∃ y : S59, k59.K w y cs ∧ (Lit.int .i64 y.f0).wf = true ∧ (Lit.int .i64 y.f1).wf = true ∧ (Lit.int .i64 y.f2).wf = true ∧ (Lit.int .i64 y.f3).wf = true ∧ (Lit.int .i64 y.f4).wf = true ∧ (y.f5.length ≤ maxLen ∧ ∀ y0 ∈ y.f5, (y0.length ≤ maxLen ∧ ∀ y1 ∈ y0, (Lit.int .i64 y1).wf = true)) ∧ (Lit.int .i64 y.f6).wf = true := by
  obtain ⟨xs, n, _, _, hl, hlen, hf⟩ := DataW.trod_struct Try.underlying59 h; rw [show Try.prog.cellsOf 59 = 7 from by kernel_rfl] at hl; obtain ⟨c0, t0, rfl, hl0⟩ := len_cons hl; obtain ⟨c1, t1, rfl, hl1⟩ := len_cons hl0; obtain ⟨c2, t2, rfl, hl2⟩ := len_cons hl1; obtain ⟨c3, t3, rfl, hl3⟩ := len_cons hl2; obtain ⟨c4, t4, rfl, hl4⟩ := len_cons hl3; obtain ⟨c5, t5, rfl, hl5⟩ := len_cons hl4; obtain ⟨c6, t6, rfl, hl6⟩ := len_cons hl5; obtain rfl := List.eq_nil_of_length_eq_zero hl6; have h0 := hf 0 _ rfl; rw [List.getElem?_eq_getElem (show 0 < xs.length by rw [hlen]; decide)] at h0; obtain ⟨y0, k0, w0⟩ := (opn_int Try.underlying2) (show DataW.trod enc Try.prog w 0 (fun _ => true) held n 2 [c0] = some _ from by simpa [show Try.prog.cellsOf 2 = 1 from by kernel_rfl] using h0); have h1 := hf 1 _ rfl; rw [List.getElem?_eq_getElem (show 1 < xs.length by rw [hlen]; decide)] at h1; obtain ⟨y1, k1, w1⟩ := (opn_int Try.underlying2) (show DataW.trod enc Try.prog w 0 (fun _ => true) held n 2 [c1] = some _ from by simpa [show Try.prog.cellsOf 2 = 1 from by kernel_rfl] using h1); have h2 := hf 2 _ rfl; rw [List.getElem?_eq_getElem (show 2 < xs.length by rw [hlen]; decide)] at h2; obtain ⟨y2, k2, w2⟩ := (opn_int Try.underlying2) (show DataW.trod enc Try.prog w 0 (fun _ => true) held n 2 [c2] = some _ from by simpa [show Try.prog.cellsOf 2 = 1 from by kernel_rfl] using h2); have h3 := hf 3 _ rfl; rw [List.getElem?_eq_getElem (show 3 < xs.length by rw [hlen]; decide)] at h3; obtain ⟨y3, k3, w3⟩ := (opn_int Try.underlying2) (show DataW.trod enc Try.prog w 0 (fun _ => true) held n 2 [c3] = some _ from by simpa [show Try.prog.cellsOf 2 = 1 from by kernel_rfl] using h3); have h4 := hf 4 _ rfl; rw [List.getElem?_eq_getElem (show 4 < xs.length by rw [hlen]; decide)] at h4; obtain ⟨y4, k4, w4⟩ := (opn_int Try.underlying2) (show DataW.trod enc Try.prog w 0 (fun _ => true) held n 2 [c4] = some _ from by simpa [show Try.prog.cellsOf 2 = 1 from by kernel_rfl] using h4); have h5 := hf 5 _ rfl; rw [List.getElem?_eq_getElem (show 5 < xs.length by rw [hlen]; decide)] at h5; obtain ⟨y5, k5, w5⟩ := opn_L23 (show DataW.trod enc Try.prog w 0 (fun _ => true) held n 23 [c5] = some _ from by simpa [show Try.prog.cellsOf 23 = 1 from by kernel_rfl] using h5); have h6 := hf 6 _ rfl; rw [List.getElem?_eq_getElem (show 6 < xs.length by rw [hlen]; decide)] at h6; obtain ⟨y6, k6, w6⟩ := (opn_int Try.underlying2) (show DataW.trod enc Try.prog w 0 (fun _ => true) held n 2 [c6] = some _ from by simpa [show Try.prog.cellsOf 2 = 1 from by kernel_rfl] using h6); exact ⟨⟨y0, y1, y2, y3, y4, y5, y6⟩, ⟨[c0], [c1, c2, c3, c4, c5, c6], rfl, k0, ⟨[c1], [c2, c3, c4, c5, c6], rfl, k1, ⟨[c2], [c3, c4, c5, c6], rfl, k2, ⟨[c3], [c4, c5, c6], rfl, k3, ⟨[c4], [c5, c6], rfl, k4, ⟨[c5], [c6], rfl, k5, k6⟩⟩⟩⟩⟩⟩, w0, w1, w2, w3, w4, w5, w6⟩
end Go.Proofs.Ytinlejhffokbaaa.P
end

section
namespace Go.Proofs.Ytinlejhffokbaaa.P
open Go.RowKit Go.Proofs.Ytinlejhffokbaaa.P Go.Proofs.YtinlejhffokbaaaW.PrintWords Go.Proofs.YtinlejhffokbaaaW.PrintLast Go.Proofs.YtinlejhffokbaaaW.PrintMore
set_option linter.unusedVariables false
set_option linter.unusedSimpArgs false
theorem Ev.succ {α : Type} {g : Nat → Option α} {r : α} (h : Ev (fun k => g (k + 1)) r) : Ev g r := Ev.step (f := fun k => g (k + 1)) (fun _ => rfl) h
theorem Ev.ite_pos {α : Type} {c : Prop} [Decidable c] {f g : Nat → Option α} {r : α} (hc : c) (h : Ev f r) : Ev (fun k => if c then f k else g k) r := Ev.congr (fun _ => if_pos hc) h
theorem Ev.ite_neg {α : Type} {c : Prop} [Decidable c] {f g : Nat → Option α} {r : α} (hc : ¬ c) (h : Ev g r) : Ev (fun k => if c then f k else g k) r := Ev.congr (fun _ => if_neg hc) h
theorem Ev.bindc {α β : Type} {o : Option α} {f : Nat → α → Option β} {a : α} {r : β} (ho : o = some a) (h : Ev (fun k => f k a) r) : Ev (fun k => o.bind (f k)) r := Ev.congr (fun _ => by rw [ho]; rfl) h
theorem Ev.both {α : Type} {g : Nat → Option α} {r q : α} (h : Ev g r) (h' : Ev g q) : r = q := by
  obtain ⟨a, ha⟩ := h; obtain ⟨b, hb⟩ := h'; have h1 := ha (max a b) (Nat.le_max_left _ _); have h2 := hb (max a b) (Nat.le_max_right _ _); rw [h1] at h2; exact Option.some.inj h2
theorem Ev.cast {α : Type} {g : Nat → Option α} {r q : α} (h : Ev g r) (e : r = q) : Ev g q := e ▸ h
theorem Ev.out {α : Type} {g : Nat → Option α} {r : α} (h : Ev g r) : ∃ k, g k = some r := h.rounds

theorem w64 {x : Int} (h0 : -9223372036854775808 ≤ x) (h1 : x ≤ 9223372036854775807) : wrap64 x = x := by unfold wrap64; omega
theorem mx_eq (a b : Int) : mx a b = max a b := by unfold mx; split <;> omega
theorem set_at {l : List Int} {i : Nat} {v : Int} {m : List Int} (h : i < l.length) (e : l.take i = m) : (l.set i v).take (i + 1) = m ++ [v] := by
  rw [List.take_succ_eq_append_getElem (by simpa using h)]
  simp [List.take_set_of_le, e]
theorem rd_at {l : List Int} {i : Nat} (h : i < l.length) : rd l (i : Int) = l[i] := by simp [rd, h]

theorem toInt64S_l0 (l : List Int) (hl : l.length ≤ 9223372036854775807) : ∀ (d i : Nat) (m : List Int), l.length - i = d → i ≤ l.length → m.length = l.length → m.take i = l.take i → Ev (fun k => laws_toInt64S.l0 k l m i) l := by
  intro d
  induction d with
  | zero =>
    intro i m hd hi hm ht
    have : i = l.length := by omega
    subst this; refine Ev.succ ?_; simp only [laws_toInt64S.l0]; refine Ev.ite_neg (by omega) ?_; rw [List.take_of_length_le (by omega), List.take_of_length_le (Nat.le_refl _)] at ht; rw [ht]; exact Ev.now _
  | succ d ih =>
    intro i m hd hi hm ht; refine Ev.succ ?_; simp only [laws_toInt64S.l0]; refine Ev.ite_pos (by omega) ?_; refine Ev.ite_pos (by omega) ?_; refine Ev.ite_pos (by omega) ?_; rw [w64 (x := (i : Int) + 1) (by omega) (by omega), rd_at (show i < l.length by omega), Int.toNat_natCast]
    have := ih (i + 1) (m.set i l[i]) (by omega) (by omega) (by simpa using hm) (by
      rw [set_at (by omega) ht, ← List.take_succ_eq_append_getElem (by omega)])
    simpa using this
theorem toInt64S_ev (l : List Int) (h : l.length ≤ 35184372088832) : Ev (fun k => laws_toInt64S.f k l) l := by
  unfold laws_toInt64S.f; refine Ev.ite_pos (by omega) ?_; refine Ev.ite_pos (by omega) ?_; exact toInt64S_l0 l (by omega) l.length 0 _ (by omega) (by omega) (by simp) (by simp)

theorem eqInt64S_l0 (a b : List Int) (hl : a.length ≤ 9223372036854775807) (hab : a.length = b.length) : ∀ (d i : Nat), a.length - i = d → i ≤ a.length → a.take i = b.take i → Ev (fun k => laws_eqInt64S.l0 k a b i) (decide (a = b)) := by
  intro d
  induction d with
  | zero =>
    intro i hd hi ht; refine Ev.succ ?_; simp only [laws_eqInt64S.l0]; refine Ev.ite_neg (by omega) ?_; rw [List.take_of_length_le (by omega), List.take_of_length_le (by omega)] at ht
    simpa [ht] using Ev.now true
  | succ d ih =>
    intro i hd hi ht; refine Ev.succ ?_; simp only [laws_eqInt64S.l0]; refine Ev.ite_pos (by omega) ?_; refine Ev.ite_pos (by omega) ?_; refine Ev.ite_pos (by omega) ?_
    by_cases he : rd a i = rd b i
    · refine Ev.ite_pos he ?_; rw [w64 (x := (i : Int) + 1) (by omega) (by omega)]; rw [rd_at (show i < a.length by omega), rd_at (show i < b.length by omega)] at he
      have := ih (i + 1) (by omega) (by omega) (by
        rw [List.take_succ_eq_append_getElem (by omega), List.take_succ_eq_append_getElem (by omega), ht, he])
      simpa using this
    · refine Ev.ite_neg he ?_
      have : ¬ a = b := fun e => he (by rw [e])
      simpa [this] using Ev.now false
theorem eqInt64S_ev (a b : List Int) (hl : a.length ≤ 9223372036854775807) : Ev (fun k => laws_eqInt64S.f k a b) (decide (a = b)) := by
  unfold laws_eqInt64S.f
  by_cases h : a.length = b.length
  · refine Ev.ite_pos (by omega) ?_; exact eqInt64S_l0 a b hl h a.length 0 (by omega) (by omega) (by simp)
  · refine Ev.ite_neg (by omega) ?_
    have : ¬ a = b := fun e => h (by rw [e])
    simpa [this] using Ev.now false
theorem eqInt64S_self (a : List Int) (hl : a.length ≤ 9223372036854775807) : Ev (fun k => laws_eqInt64S.f k a a) true := by simpa using eqInt64S_ev a a hl

def marks : Nat → Int → List Int
  | 0, _ => []
  | n + 1, v => v :: marks n (v + 1)
theorem marks_length : ∀ n v, (marks n v).length = n
  | 0, _ => rfl
  | n + 1, v => by simp [marks, marks_length n]
theorem marks_get : ∀ n v i, i < n → (marks n v)[i]? = some (v + i)
  | 0, _, i, h => by omega
  | n + 1, v, 0, _ => by simp [marks]
  | n + 1, v, i + 1, h => by
    simp only [marks, List.getElem?_cons_succ]; rw [marks_get n (v + 1) i (by omega)]
    congr 1
    omega
theorem markInt64S_l0 (n : Nat) (v : Int) (hn : n ≤ 4611686018427387904) (h0 : 0 ≤ v) (hv : v ≤ 4611686018427387903) : ∀ (d i : Nat) (l : List Int), n - i = d → i ≤ n → l.length = n → (∀ j, j < i → l[j]? = some (v + j)) →
    Ev (fun k => laws_markInt64S.l0 k l (v + i) i) (v + n, marks n v) := by
  intro d
  induction d with
  | zero =>
    intro i l hd hi hl hj
    have : i = n := by omega
    subst this; refine Ev.succ ?_; simp only [laws_markInt64S.l0]; refine Ev.ite_neg (by omega) ?_
    have : l = marks i v := by
      refine List.ext_getElem? fun j => ?_
      rcases Nat.lt_or_ge j i with h | h
      · rw [hj j h, marks_get i v j h]
      · rw [List.getElem?_eq_none (by omega), List.getElem?_eq_none (by rw [marks_length]; omega)]
    rw [this]; exact Ev.now _
  | succ d ih =>
    intro i l hd hi hl hj; refine Ev.succ ?_; simp only [laws_markInt64S.l0]; refine Ev.ite_pos (by omega) ?_; refine Ev.ite_pos (by omega) ?_; rw [w64 (x := (i : Int) + 1) (by omega) (by omega), w64 (x := v + (i : Int) + 1) (by omega) (by omega), Int.toNat_natCast]
    have := ih (i + 1) (l.set i (v + i)) (by omega) (by omega) (by simpa using hl) (fun j hj' => by
      rcases Nat.lt_or_ge j i with h | h
      · rw [List.getElem?_set_ne (by omega), hj j h]
      · have : j = i := by omega
        subst this
        rw [List.getElem?_set_self (by omega)])
    simpa [Int.add_assoc] using this
theorem markInt64S_ev (l : List Int) (v : Int) (hn : l.length ≤ 4611686018427387904) (h0 : 0 ≤ v) (hv : v ≤ 4611686018427387903) : Ev (fun k => laws_markInt64S.f k l v) (v + l.length, marks l.length v) := by
  unfold laws_markInt64S.f; have := markInt64S_l0 l.length v hn h0 hv l.length 0 l (by omega) (by omega) rfl (fun j hj => by omega)
  simpa using this
theorem heldInt64S_l0 (n : Nat) (v : Int) (hn : n ≤ 4611686018427387904) (h0 : 0 ≤ v) (hv : v ≤ 4611686018427387903) : ∀ (d i : Nat), n - i = d → i ≤ n →
    Ev (fun k => laws_heldInt64S.l0 k (marks n v) (v + i) i) (v + n) := by
  intro d
  induction d with
  | zero =>
    intro i hd hi
    have : i = n := by omega
    subst this; refine Ev.succ ?_; simp only [laws_heldInt64S.l0]; refine Ev.ite_neg (by rw [marks_length]; omega) ?_; exact Ev.now _
  | succ d ih =>
    intro i hd hi; refine Ev.succ ?_; simp only [laws_heldInt64S.l0]; refine Ev.ite_pos (by rw [marks_length]; omega) ?_; refine Ev.ite_pos (by omega) ?_
    refine Ev.ite_pos (by
      have h := marks_get n v i (by omega)
      simp only [rd, Int.toNat_natCast, List.getD_eq_getElem?_getD, h, Option.getD_some]) ?_
    rw [w64 (x := (i : Int) + 1) (by omega) (by omega), w64 (x := v + (i : Int) + 1) (by omega) (by omega)]; have := ih (i + 1) (by omega) (by omega)
    simpa [Int.add_assoc] using this
theorem heldInt64S_ev (n : Nat) (v : Int) (hn : n ≤ 4611686018427387904) (h0 : 0 ≤ v) (hv : v ≤ 4611686018427387903) : Ev (fun k => laws_heldInt64S.f k (marks n v) v) (v + n) := by
  unfold laws_heldInt64S.f; have := heldInt64S_l0 n v hn h0 hv n 0 (by omega) (by omega)
  simpa using this
theorem rdL_at {f : List (List Int)} {i : Nat} (h : i < f.length) : rd_L1 f (i : Int) = f[i] := by simp [rd_L1, h]
end Go.Proofs.Ytinlejhffokbaaa.P
end
