/- Texts of this seat, merged: QPreSearch, QSlicesCloneInt64Int64. -/
import Derived.Test.YtinlejhffokbaaaGCA1
import Derived.Test.YtinlejhffokbaaaGCA2
import Derived.Test.YtinlejhffokbaaaGCA4
section
namespace Go.Proofs.Ytinlejhffokbaaa.P
open Go.RowKit Go.Proofs.YtinlejhffokbaaaW.PrintWords Go.Proofs.YtinlejhffokbaaaW.PrintLast Go.Proofs.YtinlejhffokbaaaW.PrintMore
attribute [local go_sem] max2_int min2_int max_two min_two max_three min_three max_four min_four   -- for this text's walks alone
set_option linter.unusedVariables false
set_option linter.unusedSimpArgs false
set_option maxHeartbeats 16000000
set_option maxRecDepth 100000

def Srch (e : Nat) (w0 W : World) (g t : Nat) (cs : Array Value) (vp : Value) (ps : List Int) (vb : Value) (bs : List Int) : Prop :=
  W.heap[g]? = some (.cells cs t (0, 0)) ∧ w0.heap.size ≤ g ∧ Kd.R (Kd.int .i64) e W w0.heap.size (fun k => k ≠ g ∧ some k ≠ vb.ownBlock) vp ps ∧ Kd.R (Kd.int .i64) e W w0.heap.size (fun k => k ≠ g ∧ some k ≠ vp.ownBlock) vb bs ∧ Below w0.heap.size w0 W
section
variable {e : Nat} {w0 W W1 : World} {g t : Nat} {cs : Array Value} {vp vb : Value} {ps bs : List Int}
theorem Srch.below (h : Srch e w0 W g t cs vp ps vb bs) (hb : Below W.heap.size W W1) : Srch e w0 W1 g t cs vp ps vb bs :=
  ⟨blk_below h.1 hb, h.2.1, Kd.R_below h.2.2.1 hb, Kd.R_below h.2.2.2.1 hb, below_step h.2.2.2.2 hb⟩
theorem Srch.drew (h : Srch e w0 W g t cs vp ps vb bs) : Srch e w0 W.drew g t cs vp ps vb bs := h.below (below_drew1 (Below.refl _ _))
theorem Srch.set (h : Srch e w0 W g t cs vp ps vb bs) (j : Nat) (u : Value) {cs' : Array Value} (hc : cs.setIfInBounds j u = cs') : Srch e w0 (W.setCell ⟨g, j, none⟩ u) g t cs' vp ps vb bs :=
  ⟨blk_put h.1 j u hc, h.2.1, Kd.R_far h.2.2.1 (p := ⟨g, j, none⟩) (fun k hk => hk.1) u, Kd.R_far h.2.2.2.1 (p := ⟨g, j, none⟩) (fun k hk => hk.1) u, below_set h.2.2.2.2 h.2.1⟩
theorem Srch.app (h : Srch e w0 W g t cs vp ps vb bs) {v1 : Value} {qs : List Int} (ho : Kd.R (Kd.int .i64) e W1 w0.heap.size (fun k => k ≠ g ∧ some k ≠ vb.ownBlock) v1 qs) (hb : Below w0.heap.size w0 W1) (hg : W.grownBy W1 vp.ownBlock) (hat : v1.ownBlock = vp.ownBlock ∨ ∃ b, v1.ownBlock = some b ∧ W.heap.size ≤ b) :
    Srch e w0 W1 g t cs v1 qs vb bs := by
  refine ⟨blk_grown h.1 hg (fun e_ => (h.2.2.1.1 g e_.symm).1 rfl), h.2.1, ho, ?_, hb⟩; refine Kd.R_mono (Kd.R_grown (Kd.R_bound h.2.2.2.1) hg (fun k hk => hk.1.2)) (fun k hk => ⟨hk.1.1, fun e_ => ?_⟩)
  rcases hat with ha | ⟨b, ha, hl⟩
  · exact hk.1.2 (e_.trans ha)
  · rw [ha] at e_; cases e_; exact Nat.not_lt.2 hl hk.2.2.1
theorem Srch.take {A : Option Addr} {n c m : Nat} (h : Srch e w0 W g t cs (.slice A n c) ps vb bs) (hm : m ≤ ps.length) : Srch e w0 W g t cs (.slice A m c) (ps.take m) vb bs := by
  have hb : (Value.slice A m c).ownBlock = (Value.slice A n c).ownBlock := by cases A <;> rfl
  exact ⟨h.1, h.2.1, Kd.R_take h.2.2.1 hm, by rw [hb]; exact h.2.2.2.1, h.2.2.2.2⟩
theorem Srch.best (h : Srch e w0 W g t cs vp ps vb bs) (hb : Below W.heap.size W W1) {v1 : Value} {qs : List Int} (ho : Kd.R (Kd.int .i64) e W1 W.heap.size (fun _ => True) v1 qs) : Srch e w0 W1 g t cs vp ps v1 qs := by
  have hgl : g < W.heap.size := blk_lt h.1; have hsz : w0.heap.size ≤ W.heap.size := h.2.2.2.2.size; refine ⟨blk_below h.1 hb, h.2.1, ?_, ?_, below_step h.2.2.2.2 hb⟩
  · refine Kd.R_mono (Kd.R_below (Kd.R_bound h.2.2.1) hb) (fun k hk => ⟨hk.1.1, fun e_ => ?_⟩); have := Kd.R_base ho k e_.symm; exact Nat.not_lt.2 this hk.2.2.1
  · refine Kd.R_lower (Kd.R_mono (Kd.R_bound ho) (fun k hk => ⟨fun e_ => ?_, fun e_ => ?_⟩)) hsz
    · subst e_; exact Nat.not_lt.2 hk.2.1 hgl
    · have := Kd.R_lt h.2.2.1 k e_.symm; exact Nat.not_lt.2 hk.2.1 this
theorem Srch.blk (h : Srch e w0 W g t cs vp ps vb bs) : W.heap[g]? = some (.cells cs t (0, 0)) := h.1
theorem Srch.R1 (h : Srch e w0 W g t cs vp ps vb bs) : Kd.R (Kd.int .i64) e W w0.heap.size (fun k => k ≠ g ∧ some k ≠ vb.ownBlock) vp ps := h.2.2.1
theorem Srch.R2 (h : Srch e w0 W g t cs vp ps vb bs) : Kd.R (Kd.int .i64) e W w0.heap.size (fun k => k ≠ g ∧ some k ≠ vp.ownBlock) vb bs := h.2.2.2.1
theorem Srch.bel (h : Srch e w0 W g t cs vp ps vb bs) : Below w0.heap.size w0 W := h.2.2.2.2
theorem Srch.fresh (h : Srch e w0 W g t cs vp ps vb bs) : ∀ k, W.heap.size ≤ k → k ≠ g ∧ some k ≠ vb.ownBlock := fun k hk =>
  ⟨fun e_ => by subst e_; exact Nat.not_lt.2 hk (blk_lt h.1), fun e_ => Nat.not_lt.2 hk (Kd.R_lt h.2.2.2.1 k e_.symm)⟩
theorem Srch.cell (h : Srch e w0 W g t cs vp ps vb bs) (j : Nat) {u : Value} (hu : cs[j]? = some u) : W.cell? ⟨g, j, none⟩ = some u := (blk_cell h.1 j).trans hu
theorem Srch.froz (h : Srch e w0 W g t cs vp ps vb bs) (j : Nat) : W.frozen? ⟨g, j, none⟩ = false := blk_frozen h.1 j
end
section
variable {P : Program} {md : Region.Mode} {ops : Array Oper} {Q : Exit → Act → World → Prop} {S : World → Prop} {ds : List Nat} {fuel : Nat} {l : Array Bool} {a a' : Act} {w : World} {oi : Oper} {v : Value}
theorem pv_ (i n : Nat) (l' : Array Bool) (h : wpAnyLast P md ops Q S ds fuel l' a' w) (hi : ops[i]? = some oi := by rfl) (hN : oi.dst = some n := by rfl) (hc : anyB md ops l l' i = true := by kernel_rfl)
    (hQ : ∀ c a w, Q (.panic c) (a.put oi.dst v) w → Q (.panic c) a w := by exact fun _ _ _ h => h) (hw : Region.wanted oi (yielded ops a.tmps) = true := by rfl) (hr : ∀ w', (execOp a.eval oi).run P w' = .ok (.value v) w' := by intro w'; go_simp; with_reducible rfl) (ha : a.put (some n) v = a' := by go_simp; rfl) : wpAnyLast P md ops Q S ds (fuel + 1) l a w :=
  pure_ l' hi hN hc hQ (.inl ⟨hw, hr⟩) ha h
theorem uv_ (i n : Nat) (l' : Array Bool) (h : wpAnyLast P md ops Q S ds fuel l' a' w) (hi : ops[i]? = some oi := by rfl) (hN : oi.dst = some n := by rfl) (hc : anyB md ops l l' i = true := by kernel_rfl)
    (hQ : ∀ c a w, Q (.panic c) (a.put oi.dst undef) w → Q (.panic c) a w := by exact fun _ _ _ h => h) (hw : Region.wanted oi (yielded ops a.tmps) = false := by first | rfl | (simp only [*]; rfl)) (ha : a.put (some n) undef = a' := by go_simp; rfl) : wpAnyLast P md ops Q S ds (fuel + 1) l a w :=
  pure_ l' hi hN hc hQ (.inr ⟨hw, rfl⟩) ha h
theorem tv_ (hS : S w) (i n : Nat) (l' : Array Bool) (h : wpAnyLast P md ops Q S ds fuel l' a' w) (hi : ops[i]? = some oi := by rfl) (hN : oi.dst = some n := by rfl) (hc : takeB md ops ds l l' i = true := by kernel_rfl)
    (hQ : ∀ c a w, Q (.panic c) (a.put oi.dst v) w → Q (.panic c) a w := by exact fun _ _ _ h => h) (hw : Region.wanted oi (yielded ops a.tmps) = true := by rfl) (hr : ∀ w', S w' → (execOp a.eval oi).run P w' = .ok (.value v) w' := by intro w' hs; repeat (obtain ⟨_, hs⟩ := hs); go_simp; with_reducible rfl) (ha : a.put (some n) v = a' := by go_simp; rfl) : wpAnyLast P md ops Q S ds (fuel + 1) l a w :=
  take_ l' hi hN hc hQ (.inl ⟨hw, hr⟩) hS ha h
theorem store_one {Kc : Act → World → Prop} {o : Oper} {W w1 : World} (hw : Region.wanted o (yielded ops a.tmps) = true) (hrun : (execOp a.eval o).run P W = .ok .skip w1) (hN : o.dst = none) (h : Kc a w1) : if Region.wanted o (yielded ops a.tmps) = true then Oper.wp P o a W Kc Q else Kc (a.put none undef) W := by
  rw [if_pos hw]; unfold Oper.wp; rw [hrun]
  show Kc (a.put o.dst undef) w1
  rw [hN]; exact h
end
def Sown (w : World) (v v' : Value) : Prop := ∀ k, v'.ownBlock = some k → some k = v.ownBlock ∨ w.heap.size ≤ k
def Skp (w W : World) (g : Nat) (vp vb vp' vb' : Value) : Prop := Kept w W (fun k => k = g ∨ some k = vp.ownBlock ∨ some k = vb.ownBlock) ∧ Sown w vp vp' ∧ Sown w vb vb'
def Srow (e : Nat) (w0 W : World) (g : Nat) (vp vb vn : Value) (nx : List Int) : Prop := Kd.R (Kd.int .i64) e W w0.heap.size (fun k => k ≠ g ∧ some k ≠ vp.ownBlock ∧ some k ≠ vb.ownBlock) vn nx
section
variable {e : Nat} {w0 w W W1 : World} {g t : Nat} {cs : Array Value} {vp vb vp' vb' v1 vn vp2 vb2 : Value} {ps bs qs nx : List Int}
theorem Skp.refl (w : World) (g : Nat) (vp vb : Value) : Skp w w g vp vb vp vb := ⟨Kept.refl _ _, fun k h => .inl h.symm, fun k h => .inl h.symm⟩
theorem Skp.below (h : Skp w W g vp vb vp' vb') (hb : Below W.heap.size W W1) : Skp w W1 g vp vb vp' vb' := ⟨h.1.below hb, h.2⟩
theorem Skp.drew (h : Skp w W g vp vb vp' vb') : Skp w W.drew g vp vb vp' vb' := h.below (below_drew1 (Below.refl _ _))
theorem Skp.set (h : Skp w W g vp vb vp' vb') (j : Nat) (u : Value) : Skp w (W.setCell ⟨g, j, none⟩ u) g vp vb vp' vb' := ⟨h.1.setCell (.inl (.inl rfl)) u, h.2⟩
theorem Skp.app (h : Skp w W g vp vb vp' vb') (hg : W.grownBy W1 vp'.ownBlock) (hat : v1.ownBlock = vp'.ownBlock ∨ ∃ b, v1.ownBlock = some b ∧ W.heap.size ≤ b) : Skp w W1 g vp vb v1 vb' := by
  refine ⟨Kept.of_grown hg h.1 (fun k hk => (h.2.1 k hk).elim (fun e_ => .inl (.inr (.inl e_))) .inr), fun k hk => ?_, h.2.2⟩
  rcases hat with ha | ⟨b, ha, hl⟩
  · exact h.2.1 k (ha ▸ hk)
  · rw [ha] at hk
    cases hk
    exact .inr (Nat.le_trans h.1.1 hl)
theorem Skp.best (h : Skp w W g vp vb vp' vb') (hb : Below W.heap.size W W1) {ok : Nat → Prop} (ho : Kd.R (Kd.int .i64) e W1 W.heap.size ok v1 qs) : Skp w W1 g vp vb vp' v1 :=
  ⟨h.1.below hb, h.2.1, fun k hk => .inr (Nat.le_trans h.1.1 (Kd.R_base ho k hk))⟩
theorem own_cut (A : Option Addr) (n m c : Nat) : (Value.slice A m c).ownBlock = (Value.slice A n c).ownBlock := by cases A <;> rfl
theorem Skp.take {A : Option Addr} {n c : Nat} (m : Nat) (h : Skp w W g vp vb (.slice A n c) vb') : Skp w W g vp vb (.slice A m c) vb' := ⟨h.1, fun k hk => h.2.1 k (own_cut A n m c ▸ hk), h.2.2⟩
theorem Skp.rec_ (h : Skp w W g vp vb vp' vb') (h2 : Skp W W1 g vp' vb' vp2 vb2) : Skp w W1 g vp vb vp2 vb2 := by
  refine ⟨Kept.then_ h.1 h2.1 (fun k hk => ?_), fun k hk => ?_, fun k hk => ?_⟩
  · rcases hk with e_ | e_ | e_
    · exact .inl (.inl e_)
    · exact (h.2.1 k e_.symm).elim (fun z => .inl (.inr (.inl z))) .inr
    · exact (h.2.2 k e_.symm).elim (fun z => .inl (.inr (.inr z))) .inr
  · exact (h2.2.1 k hk).elim (fun e_ => h.2.1 k e_.symm) (fun hl => .inr (Nat.le_trans h.1.1 hl))
  · exact (h2.2.2 k hk).elim (fun e_ => h.2.2 k e_.symm) (fun hl => .inr (Nat.le_trans h.1.1 hl))
theorem Srow.below (h : Srow e w0 W g vp vb vn nx) (hb : Below W.heap.size W W1) : Srow e w0 W1 g vp vb vn nx := Kd.R_below h hb
theorem Srow.set (h : Srow e w0 W g vp vb vn nx) (j : Nat) (u : Value) : Srow e w0 (W.setCell ⟨g, j, none⟩ u) g vp vb vn nx := Kd.R_far h (p := ⟨g, j, none⟩) (fun k hk => hk.1) u
theorem Srow.app (h : Srow e w0 W g vp vb vn nx) (hg : W.grownBy W1 vp.ownBlock) (hat : v1.ownBlock = vp.ownBlock ∨ ∃ b, v1.ownBlock = some b ∧ W.heap.size ≤ b) : Srow e w0 W1 g v1 vb vn nx := by
  refine Kd.R_mono (Kd.R_grown (Kd.R_bound h) hg (fun k hk => hk.1.2.1)) (fun k hk => ⟨hk.1.1, fun e_ => ?_, hk.1.2.2⟩)
  rcases hat with ha | ⟨b, ha, hl⟩
  · exact hk.1.2.1 (e_.trans ha)
  · rw [ha] at e_; cases e_; exact Nat.not_lt.2 hl hk.2.2.1
theorem Srow.take {A : Option Addr} {n c : Nat} (m : Nat) (h : Srow e w0 W g (.slice A n c) vb vn nx) : Srow e w0 W g (.slice A m c) vb vn nx := by
  unfold Srow at h ⊢; rw [own_cut A n m c]; exact h
theorem Srow.rec_ (h : Srow e w0 W g vp vb vn nx) (h2 : Skp W W1 g vp vb vp2 vb2) : Srow e w0 W1 g vp2 vb2 vn nx := by
  refine Kd.R_mono (Kd.R_keptB h h2.1 (fun k hk hs => hs.elim hk.1 (fun hs => hs.elim hk.2.1 hk.2.2))) (fun k hk => ⟨hk.1.1, fun e_ => ?_, fun e_ => ?_⟩)
  · exact (h2.2.1 k e_.symm).elim hk.1.2.1 (fun hl => Nat.not_lt.2 hl hk.2.2)
  · exact (h2.2.2 k e_.symm).elim hk.1.2.2 (fun hl => Nat.not_lt.2 hl hk.2.2)
theorem Srow.new (h : Srch e w0 W g t cs vp ps vb bs) {ok : Nat → Prop} (ho : Kd.R (Kd.int .i64) e W1 W.heap.size ok vn nx) : Srow e w0 W1 g vp vb vn nx := by
  refine Kd.R_lower (Kd.R_mono (Kd.R_bound ho) (fun k hk => ⟨fun e_ => ?_, fun e_ => ?_, fun e_ => ?_⟩)) h.2.2.2.2.size
  · subst e_; exact Nat.not_lt.2 hk.2.1 (blk_lt h.1)
  · exact Nat.not_lt.2 hk.2.1 (Kd.R_lt h.2.2.1 k e_.symm)
  · exact Nat.not_lt.2 hk.2.1 (Kd.R_lt h.2.2.2.1 k e_.symm)
end
theorem Srch.swap {e : Nat} {w0 W : World} {g t : Nat} {cs : Array Value} {vp vb : Value} {ps bs : List Int} (h : Srch e w0 W g t cs vp ps vb bs) : Srch e w0 W g t cs vb bs vp ps := ⟨h.1, h.2.1, h.2.2.2.1, h.2.2.1, h.2.2.2.2⟩
theorem Srch.list {e : Nat} {w0 W W1 : World} {g t : Nat} {cs : Array Value} {vp vb v1 : Value} {ps bs qs : List Int} (h : Srch e w0 W g t cs vp ps vb bs) (hb : Below W.heap.size W W1) (ho : Kd.R (Kd.int .i64) e W1 W.heap.size (fun _ => True) v1 qs) : Srch e w0 W1 g t cs v1 qs vb bs := (h.swap.best hb ho).swap
theorem Srch.new {e : Nat} {w0 W W1 : World} {g t : Nat} {cs : Array Value} (hb0 : Below w0.heap.size w0 W) (hg : W.heap.size ≤ g) (h : W1.heap[g]? = some (.cells cs t (0, 0))) (hb : Below W.heap.size W W1) : Srch e w0 W1 g t cs (.slice none 0 0) [] (.slice none 0 0) [] :=
  ⟨h, Nat.le_trans hb0.size hg, Kd.R_nil _ _ _ _ _, Kd.R_nil _ _ _ _ _, below_step hb0 hb⟩
def fill (g : Nat) : World → Nat → List Value → World
  | w, _, [] => w
  | w, j, v :: vs => fill g (w.setCell ⟨g, j, none⟩ v) (j + 1) vs
def fillA : Array Value → Nat → List Value → Array Value
  | cs, _, [] => cs
  | cs, j, v :: vs => fillA (cs.setIfInBounds j v) (j + 1) vs
section
variable {g t : Nat} {w0 : World}
theorem fill_blk : ∀ (vs : List Value) (w : World) (j : Nat) (cs : Array Value), w.heap[g]? = some (.cells cs t (0, 0)) → (fill g w j vs).heap[g]? = some (.cells (fillA cs j vs) t (0, 0))
  | [], _, _, _, h => h
  | v :: vs, w, j, cs, h => fill_blk vs _ _ _ (blk_put h j v rfl)
theorem fill_below (hg : w0.heap.size ≤ g) : ∀ (vs : List Value) (w : World) (j : Nat), Below w0.heap.size w0 w → Below w0.heap.size w0 (fill g w j vs)
  | [], _, _, h => h
  | _ :: vs, _, _, h => fill_below hg vs _ _ (below_set h hg)
theorem fill_R {α : Type} {d : Kd α} {e base : Nat} {ok : Nat → Prop} {v : Value} {xs : List α} (hok : ∀ k, ok k → k ≠ g) : ∀ (vs : List Value) (w : World) (j : Nat), d.R e w base ok v xs → d.R e (fill g w j vs) base ok v xs
  | [], _, _, h => h
  | u :: vs, _, j, h => fill_R hok vs _ _ (Kd.R_far h (p := ⟨g, j, none⟩) hok u)
end
theorem results_cell_tmp {P : Program} {fn : Func} {p u : Tmp} {ty : TypeId} (h : fn.results = #[.cell p ty, .tmp u]) (tmps : Array Value) (w : World) (g : Nat) (t : TypeId) (cs : Array Value) (fr : Nat × Nat) (d : TypeDesc)
    (hp : tmps.getD p undef = .pointer (some ⟨g, 0, none⟩)) (hg : w.heap[g]? = some (.cells cs t fr))
    (hu : P.underlying ty = some d) (hd : (match d with | .struct _ | .array _ _ => true | _ => false) = true) (hi : (P.info? ty).map (·.size) = some cs.size) :
    (results fn tmps).run P w = .ok (.tuple #[.agg cs, tmps.getD u undef]) w := by
  have hp' : tmps[p]?.getD undef = .pointer (some ⟨g, 0, none⟩) := by simpa using hp
  simp [results, h, hp', asAddr, run_loadVar_row w g t ty cs fr d hg hu hd hi]
theorem fillA_all : ∀ (vs : List Value) (cs : Array Value) (j : Nat), j + vs.length = cs.size → fillA cs j vs = (cs.toList.take j ++ vs).toArray
  | [], cs, j, h => by
    have h : j = cs.size := by simpa using h
    subst h
    show cs = (cs.toList.take cs.size ++ []).toArray
    rw [List.append_nil, List.take_of_length_le (by simp)]
  | v :: vs, cs, j, h => by
    have hj : j < cs.size := by simp at h; omega
    show fillA (cs.setIfInBounds j v) (j + 1) vs = _
    rw [fillA_all vs _ (j + 1) (by simp at h ⊢; omega)]
    congr 1
    have e1 : (cs.setIfInBounds j v).toList = cs.toList.set j v := by simp
    rw [e1, List.take_set, List.take_add_one, List.getElem?_eq_getElem (by simpa using hj)]
    have hl : (cs.toList.take j).length = j := by simp; omega
    simp [List.set_append, hl]
theorem fill_all {g t : Nat} {w : World} {cs : Array Value} (vs : List Value) (h : w.heap[g]? = some (.cells cs t (0, 0))) (hl : vs.length = cs.size) : (fill g w 0 vs).heap[g]? = some (.cells vs.toArray t (0, 0)) := by
  have := fill_blk vs w 0 cs h; rw [fillA_all vs cs 0 (by omega)] at this
  simpa using this
theorem fill_set (g : Nat) : ∀ (vs : List Value) (w : World) (j : Nat), w.setCells g j vs = fill g w j vs
  | [], _, _ => rfl
  | _ :: vs, _, _ => fill_set g vs _ _
theorem store_all {P : Program} {ops : Array Oper} {rest : List Oper} {o : Oper} {a : Act} {Q : Exit → Act → World → Prop} {W : World} (hgd : o.guard = none) {t : TypeId} {p : Tmp} {x : Operand} (ho : o.op = .store t (.tmp p) x) (hN : o.dst = none) {g bt : Nat} {cur : Array Value} {u : Value} (vs : List Value)
    (haddr : a.eval (.tmp p) = .pointer (some ⟨g, 0, none⟩)) (hx : a.eval x = u) (hu : u.cells.toList = vs) (hh : W.heap[g]? = some (.cells cur bt (0, 0))) (ht : (P.info? t).map (·.size) = some vs.length) (hl : vs.length = cur.size) (h1 : vs.all (·.oneCell') = true)
    (h : ∀ w', w' = fill g W 0 vs → wpList P ops Q rest a w') : wpList P ops Q (o :: rest) a W := by
  refine store_event hgd ho hN (w1 := fill g W 0 vs) ?_ h; have hr := run_store_run (P := P) t u vs hh hu ht (by omega) (List.all_eq_true.1 h1) (o := 0); rw [fill_set] at hr; unfold execOp; simp only [ho, haddr, hx, Sem.run_bind, hr, Result.andThen_ok, Sem.run_pure]
theorem Srch.laid {e : Nat} {w0 W W1 : World} {g t : Nat} {cs0 : Array Value} {vs : List Value} {vp : Value} {ps : List Int} {ok : Nat → Prop} (hb0 : Below w0.heap.size w0 W) (ho : Kd.R (Kd.int .i64) e W w0.heap.size ok vp ps) (hg : W.heap.size ≤ g) (hbox : W1.heap[g]? = some (.cells cs0 t (0, 0))) (hb : Below W.heap.size W W1) (hl : vs.length = cs0.size) : Srch e w0 (fill g W1 0 vs) g t vs.toArray vp ps (.slice none 0 0) [] := by
  have hge : w0.heap.size ≤ g := Nat.le_trans hb0.size hg; refine ⟨fill_all _ hbox hl, hge, fill_R (fun k hk => hk.1) _ _ _ (Kd.R_mono (Kd.R_below (Kd.R_bound ho) hb) (fun k hk => ⟨fun e_ => ?_, fun e_ => ?_⟩)), Kd.R_nil _ _ _ _ _, fill_below hge _ _ _ (below_step hb0 hb)⟩
  · subst e_; exact Nat.not_lt.2 hg hk.2.2.1
  · exact nomatch e_
theorem cells18 {w : World} {g t : Nat} {a0 a1 a2 a3 a4 a5 a6 a7 a8 a9 a10 a11 a12 a13 a14 a15 a16 a17 : Value} (h : w.heap[g]? = some (.cells #[a0, a1, a2, a3, a4, a5, a6, a7, a8, a9, a10, a11, a12, a13, a14, a15, a16, a17] t (0, 0))) : w.cell? ⟨g, 0, none⟩ = some a0 ∧ w.cell? ⟨g, 1, none⟩ = some a1 ∧ w.cell? ⟨g, 2, none⟩ = some a2 ∧ w.cell? ⟨g, 3, none⟩ = some a3 ∧ w.cell? ⟨g, 4, none⟩ = some a4 ∧ w.cell? ⟨g, 5, none⟩ = some a5 ∧ w.cell? ⟨g, 6, none⟩ = some a6 ∧ w.cell? ⟨g, 7, none⟩ = some a7 ∧ w.cell? ⟨g, 8, none⟩ = some a8 ∧ w.cell? ⟨g, 9, none⟩ = some a9 ∧ w.cell? ⟨g, 10, none⟩ = some a10 ∧ w.cell? ⟨g, 11, none⟩ = some a11 ∧ w.cell? ⟨g, 12, none⟩ = some a12 ∧ w.cell? ⟨g, 13, none⟩ = some a13 ∧ w.cell? ⟨g, 14, none⟩ = some a14 ∧ w.cell? ⟨g, 15, none⟩ = some a15 ∧ w.cell? ⟨g, 16, none⟩ = some a16 ∧ w.cell? ⟨g, 17, none⟩ = some a17 ∧ ∀ j, w.frozen? ⟨g, j, none⟩ = false :=
  ⟨(blk_cell h 0).trans rfl, (blk_cell h 1).trans rfl, (blk_cell h 2).trans rfl, (blk_cell h 3).trans rfl, (blk_cell h 4).trans rfl, (blk_cell h 5).trans rfl, (blk_cell h 6).trans rfl, (blk_cell h 7).trans rfl, (blk_cell h 8).trans rfl, (blk_cell h 9).trans rfl, (blk_cell h 10).trans rfl, (blk_cell h 11).trans rfl, (blk_cell h 12).trans rfl, (blk_cell h 13).trans rfl, (blk_cell h 14).trans rfl, (blk_cell h 15).trans rfl, (blk_cell h 16).trans rfl, (blk_cell h 17).trans rfl, fun j => blk_frozen h j⟩

end Go.Proofs.Ytinlejhffokbaaa.P
end

section
namespace Go.Proofs.Ytinlejhffokbaaa.P
open Go.RowKit Go.Proofs.YtinlejhffokbaaaW.PrintWords Go.Proofs.YtinlejhffokbaaaW.PrintLast Go.Proofs.YtinlejhffokbaaaW.PrintMore
attribute [local go_sem] max2_int min2_int max_two min_two max_three min_three max_four min_four   -- for this text's walks alone
set_option linter.unusedVariables false
set_option linter.unusedSimpArgs false
def slices_Clone_int64_int64.f (l0 : List Int) : Option (List Int) := (some (([] : List Int) : List Int)).bind fun y495 => (if y495.length + l0.length < 17592186044416 then (some (y495 ++ l0)) else (none))
theorem slices_Clone_int64_int64.calls (A0 : Option Addr) (c0 : Nat) (l0 : List Int) (r : List Int) (w : World) (hr0 : Kd.C (Kd.int .i64) w A0 l0.length l0) (hc0 : l0.length ≤ c0) (h : slices_Clone_int64_int64.f l0 = some r) :
    Calls Try.prog 158 #[.slice A0 l0.length c0] w fun e w' => ∃ v0_ : Value, e = .returned (v0_) ∧ Kd.R (Kd.int .i64) 2 w' w.heap.size (fun _ => True) v0_ r ∧ Below w.heap.size w w' := by
  have hE : ∀ (w : World), (binOp .eql 22 (.slice A0 l0.length c0) (.slice none 0 0)).run Try.prog w = .ok (.bool A0.isNone) w := fun w => run_eql_slice_nil_here w A0 l0.length c0 Try.underlying22
  cases A0 with
  | none =>
    have hl : l0 = [] := by
      rcases Nat.eq_zero_or_pos l0.length with h0 | h0
      · exact List.length_eq_zero_iff.1 h0
      · obtain ⟨ad, e, _⟩ := hr0.2.2 h0; cases e
    subst hl
    have hr : ([] : List Int) = r := by
      have h2 : (if (([] : List Int)).length + (([] : List Int)).length < 17592186044416 then (some (([] : List Int) ++ ([] : List Int))) else (none)) = some r := h
      simpa using h2
    subst hr
    have hE' : ∀ (w : World), (binOp .eql 22 (.slice none 0 c0) (.slice none 0 0)).run Try.prog w = .ok (.bool true) w := fun w => run_eql_slice_nil_here w none 0 c0 Try.underlying22
    clear hE hr0 hc0 h; go_enter Try.func158, Try.ntmps158; go_wp2
    go_ret
    exact ⟨_, rfl, Kd.R_nil _ _ _ _ _, Below.refl _ _⟩
  | some ad0 =>
    have hE' : ∀ (w : World), (binOp .eql 22 (.slice (some ad0) l0.length c0) (.slice none 0 0)).run Try.prog w = .ok (.bool false) w := fun w => run_eql_slice_nil_here w (some ad0) l0.length c0 Try.underlying22
    clear hE; have HR0 := Aside0.mk hr0; have HC0 := Aside0.mk hc0; clear hr0 hc0; have HB := Aside0.mk (Below.refl w.heap.size w); have H : ((some (([] : List Int) : List Int)).bind fun y495 => (if y495.length + l0.length < 17592186044416 then (some (y495 ++ l0)) else (none))) = some r := h; clear h; obtain ⟨y495, hy495⟩ : ∃ y_ : List Int, y_ = (([] : List Int)) := ⟨_, rfl⟩
    replace H : (if y495.length + l0.length < 17592186044416 then (some (y495 ++ l0)) else (none)) = some r := by first | (rw [hy495]; with_reducible exact H) | (have H2_ := (Option.bind_some _ _).symm.trans H; rw [hy495]; with_reducible exact H2_) | (have H2_ := (Option.bind_some _ _).symm.trans H; with_reducible exact H2_) | with_reducible exact H | (rw [hy495]; exact H) | exact H
    have Ny495 := Aside0.mk hy495; clear hy495
    by_cases c2 : y495.length + l0.length < 17592186044416
    · rw [if_pos c2] at H; have LMc2 := Aside0.mk c2; clear c2; obtain ⟨y498, hy498⟩ : ∃ y_ : List Int, y_ = (y495 ++ l0) := ⟨_, rfl⟩
      replace H : (some y498) = some r := by first | (rw [hy498]; with_reducible exact H) | (have H2_ := (Option.bind_some _ _).symm.trans H; rw [hy498]; with_reducible exact H2_) | (have H2_ := (Option.bind_some _ _).symm.trans H; with_reducible exact H2_) | with_reducible exact H | (rw [hy498]; exact H) | exact H
      have Ny498 := Aside0.mk hy498; clear hy498; obtain rfl := Option.some.inj H; go_enter Try.func158, Try.ntmps158; go_wp2_with (first | ((with_reducible refine gate_dst (N := 5) rfl ?_); refine Kd.R_lit (Kd.int .i64) _ 2 ?hg (N := 5) ?hd (xs := ([] : List Int)) (inner := []) (ok := fun _ => True) (okp := fun _ => True) ?hr ?hp (fun _ hk => hk) trivial (Below.refl _ _) (Nat.le_refl _) (by simp) ?_; (case hd => rfl); (case hg => rfl); (case hr => first | (go_simp; done) | (go_simp; rfl)); (case hp => exact (Reps.none _ _)); intro v496 w3 ho4 hb hg_ hnew_; clear hg_ hnew_; (first | rw [← Ny495.out] at ho4 | (simp only [Int.reduceToNat] at ho4; rw [← Ny495.out] at ho4)); have n0_ := Aside0.mk (Kd.R_lower ho4 (below_size (bb_ HB.out))); have n1_ := Aside0.mk (below_step (bb_ HB.out) hb); clear HB; have HO497 := n0_; have HB := n1_; clear n0_ n1_; clear hb ho4) | ((with_reducible refine gate_builtin (b := .append) (xs := #[.tmp 5, .tmp 6]) rfl ?_); at_builtin; refine Kd.R_append_rows (Kd.int .i64) (w0 := w) w.heap.size rfl (.tmp 5) (.tmp 6) 22 2 (.int .i64 0) 8 rfl Try.underlying22 info2 rfl (by decide) (by omega) v496 y495 l0 _ _ _ (fun _ => True) (fun _ => False) rfl rfl ?aO ?aR (fun _ _ h => h) (fun _ h => h.elim) ?aF ?aB ?aS ?aL ?_; (case aR => repeat (first | exact (Kd.C_below HR0.out HB.out) | (with_reducible refine Kd.C_alloc ?_ _) | (with_reducible refine Kd.C_drewN ?_ _) | (with_reducible refine Kd.C_drew ?_))); (case aB => exact (bb_ HB.out)); (case aF => exact (fun _ _ => trivial)); (case aO => exact (rr_ HO497.out)); (case aS => exact (below_size (bb_ HB.out))); (case aL => have := LMc2.out; omega); intro v499 w5 ho hb hg hat; rw [← Ny498.out] at ho; have n0_ := Aside0.mk (hb); have n1_ := Aside0.mk (ho); clear HB; clear HO497; have HB := n0_; have HO500 := n1_; clear n0_ n1_; clear ho hb hg hat))
      go_ret
      exact ⟨_, by first | rfl | (simp [errW_none, errW_some] <;> rfl) | (simp [*, errW_none, errW_some] <;> rfl), rr_ HO500.out, bb_ HB.out⟩
    · rw [if_neg c2] at H; exact absurd H (by simp)
end Go.Proofs.Ytinlejhffokbaaa.P
end
