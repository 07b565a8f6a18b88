/- The reference: the field of a number, of a scan. -/
import Derived.Test.YtfaicipochceeaaGRef4
import Derived.Test.YtfaicipochceeaaGRefC
namespace Go.Proofs.Ytfaicipochceeaa.Giv
open Go.Lib Go.RowKit Go.Proofs.YtfaicipochceeaaW.PrintWords Go.Proofs.YtfaicipochceeaaW.PrintLast Go.Proofs.YtfaicipochceeaaW.PrintMore
set_option linter.unusedVariables false
set_option linter.unusedSimpArgs false
/-- The walk of a get: the scan in g, the command's box cb, the results' block q, the block xb of what is read. -/
structure GS (w0 w W : World) (g cb q xb : Nat) (a d : Cmd) (x : Sc) : Prop where
  rs : RS w0 W g x.1 x.2
  kp : Keep1 w W g
  ck : W.heap[cb]? = some (.cells (cells a) 28 (0, 0))
  qk : W.heap[q]? = some (.cells (cells zCmd) 28 (0, 0))
  xk : W.heap[xb]? = some (.cells (cells d) 28 (0, 0))
  ne : cb ≠ g ∧ q ≠ g ∧ xb ≠ g ∧ cb ≠ xb ∧ q ≠ xb ∧ w.heap.size ≤ q ∧ w.heap.size ≤ xb ∧ w0.heap.size ≤ q ∧ w0.heap.size ≤ xb
theorem GS.k1 {w0 w W W2 : World} {g cb q xb : Nat} {a d : Cmd} {x y : Sc} (h : GS w0 w W g cb q xb a d x) (hr : RS w0 W2 g y.1 y.2) (k : Keep1 W W2 g) : GS w0 w W2 g cb q xb a d y :=
  ⟨hr, h.kp.trans k, blk_k1 h.ck k h.ne.1, blk_k1 h.qk k h.ne.2.1, blk_k1 h.xk k h.ne.2.2.1, h.ne⟩
theorem GS.set {w0 w W : World} {g cb q xb : Nat} {a d d2 : Cmd} {x : Sc} (h : GS w0 w W g cb q xb a d x) (i : Nat) (v : Value) (hd : (cells d).setIfInBounds i v = cells d2) : GS w0 w (W.setCell ⟨xb, i, none⟩ v) g cb q xb a d2 x :=
  ⟨h.rs.setFar h.ne.2.2.1 h.ne.2.2.2.2.2.2.2.2 _ _, h.kp.setNew h.ne.2.2.2.2.2.2.1 _ _, blk_far h.ck (p := ⟨xb, i, none⟩) h.ne.2.2.2.1 _, blk_far h.qk (p := ⟨xb, i, none⟩) h.ne.2.2.2.2.1 _, by rw [← hd]; exact blk_set h.xk i v, h.ne⟩
theorem GS.row {w0 w W : World} {g cb q xb : Nat} {a d : Cmd} {x : Sc} (h : GS w0 w W g cb q xb a d x) (d2 : Cmd) : GS w0 w (W.setRow xb (cells d2)) g cb q xb a d2 x :=
  ⟨h.rs.setRowFar h.ne.2.2.1 h.ne.2.2.2.2.2.2.2.2 _, h.kp.setRowNew h.ne.2.2.2.2.2.2.1 _, (setRow_other W xb cb _ h.ne.2.2.2.1).trans h.ck, (setRow_other W xb q _ h.ne.2.2.2.2.1).trans h.qk, setRow_heap W xb (cells d) (cells d2) 28 (0, 0) h.xk, h.ne⟩
theorem GS.start {w0 w : World} {g : Nat} {a : Cmd} {x : Sc} (h : RS w0 w g x.1 x.2) (w1 w2 w3 : World) (h1 : w.alloc (.cells (cells a) 28) = w1) (h2 : w1.alloc (.cells (cells zCmd) 28) = w2) (h3 : w2.alloc (.cells (cells zCmd) 28) = w3) (cb q xb : Nat) (e1 : w.heap.size = cb) (e2 : w1.heap.size = q) (e3 : w2.heap.size = xb) : GS w0 w w3 g cb q xb a zCmd x := by
  have k1 := below_alloc (Below.refl w.heap.size w) (.cells (cells a) 28)
  have k2 := below_alloc (Below.refl w1.heap.size w1) (.cells (cells zCmd) 28)
  have k3 := below_alloc (Below.refl w2.heap.size w2) (.cells (cells zCmd) 28)
  have n1 := blk_new w (.cells (cells a) 28)
  have n2 := blk_new w1 (.cells (cells zCmd) 28)
  have n3 := blk_new w2 (.cells (cells zCmd) 28)
  rw [h1] at k1 n1
  rw [h2] at k2 n2
  rw [h3] at k3 n3
  have l1 := blk_lt n1
  have l2 := blk_lt n2
  have l0 := h.lt
  have b0 := h.below.size
  subst e1 e2 e3
  exact ⟨((h.belowS k1).belowS k2).belowS k3, Keep1.of_below (below_step (below_step k1 k2) k3) g, blk_below (blk_below n1 k2) k3, blk_below n2 k3, n3, by have := k1.size; have := k2.size; omega⟩
set_option maxHeartbeats 4000000 in
set_option maxRecDepth 100000 in
theorem rget1 (w0 w : World) (g : Nat) (a : Cmd) (x : Sc) (hx : bytesOk x.1) (h : RS w0 w g x.1 x.2) (a2 : Cmd) (y : Sc) (hg : getC a x 1 = (a2, y)) :
    Calls Try.prog 36 #[.pointer (some ⟨g, 0, none⟩), .agg (cells a), .int .i64 1] w fun e w' => e = .returned (.agg (cells a2)) ∧ RS w0 w' g y.1 y.2 ∧ Keep1 w w' g := by
  obtain ⟨⟨t, x1⟩, h1⟩ : ∃ z, scText x 12 = z := ⟨_, rfl⟩
  obtain ⟨rfl, rfl⟩ : ({ a with name := strOfNums t } : Cmd) = a2 ∧ x1 = y := by
    have hg2 : (({ a with name := strOfNums (scText x 12).1 } : Cmd), (scText x 12).2) = (a2, y) := hg
    rw [h1] at hg2; injection hg2 with e1 e2; exact ⟨e1, e2⟩
  clear hg
  obtain ⟨a2, ha2⟩ : ∃ a2, ({ a with name := strOfNums t } : Cmd) = a2 := ⟨_, rfl⟩
  rw [ha2]
  have HKP : Aside0 (keepF a ({ zCmd with name := strOfNums t } : Cmd) 1 = a2) := ⟨ha2⟩
  have H1 := Aside0.mk h1
  clear h1 ha2
  have HX := Aside0.mk hx
  obtain ⟨cb, hcb⟩ : ∃ n, w.heap.size = n := ⟨_, rfl⟩
  obtain ⟨w1, hw1⟩ : ∃ W, w.alloc (.cells (cells a) 28) = W := ⟨_, rfl⟩
  obtain ⟨q, hq⟩ : ∃ n, w1.heap.size = n := ⟨_, rfl⟩
  obtain ⟨w2, hw2⟩ : ∃ W, w1.alloc (.cells (cells zCmd) 28) = W := ⟨_, rfl⟩
  obtain ⟨xb, hxb⟩ : ∃ n, w2.heap.size = n := ⟨_, rfl⟩
  obtain ⟨w3, hw3⟩ : ∃ W, w2.alloc (.cells (cells zCmd) 28) = W := ⟨_, rfl⟩
  have S3 := Aside0.mk (GS.start h w1 w2 w3 hw1 hw2 hw3 cb q xb hcb hq hxb)
  have HW3 := Aside0.mk hw3
  have HXB := Aside0.mk hxb
  have hw2' : w1.alloc (.cells #[.int .i64 0, .string ⟨#[]⟩, .string ⟨#[]⟩, .int .i64 0, .int .i64 0, .int .i64 0, .int .i64 0, .int .i64 0, .int .i64 0, .int .i64 0, .int .u64 0, .int .i64 0, .int .u64 0, .int .i64 0, .int .i64 0, .int .u64 0, .int .i64 0, .int .i64 0, .int .i64 0, .int .i64 0, .int .u64 0, .int .u64 0] 28) = w2 := hw2
  clear hx h hw2 hw3
  go_enter Try.func36, Try.ntmps36
  go_upto_region 2 with (first
    | (refine wpList_store_row rfl 28 (.tmp 7) (.tmp 9) rfl xb (cells zCmd) rfl rfl 28 (cells zCmd) ?hg info28 rfl (cells_one _) ?_; (case hg => rw [← HXB.out]; exact blk_new _ _); (simp only [Act.put]))
    | fail)
  have hrow : ∀ z : Array Value, (w2.alloc (.cells z 28)).setRow xb (cells zCmd) = w3 := fun z => by rw [← HW3.out, ← HXB.out]; exact World.setRow_alloc_new _ _ _ _
  rw [hrow]
  clear hrow hcb hw1 hq hw2' hxb
  go_wp2_with fail
  refine (RSText_at 12 HX.out S3.out.rs t x1 H1.out).mono ?_
  rintro e w4 ⟨rfl, hS, hK⟩
  have S4 := Aside0.mk (S3.out.k1 hS hK)
  clear hS hK S3
  have c1 : w4.cell? ⟨xb, 1, none⟩ = some (.string ⟨#[]⟩) := blk_cell S4.out.xk 1
  have z1 : w4.frozen? ⟨xb, 1, none⟩ = false := blk_frozen S4.out.xk 1
  go_upto_region 22 with fail
  have S5 := Aside0.mk (GS.set (d2 := ({ zCmd with name := strOfNums t } : Cmd)) S4.out 1 (.string (strOfNums t)) rfl)
  obtain ⟨w5, hw5⟩ : ∃ W, (w4).setCell ⟨xb, 1, none⟩ (.string (strOfNums t)) = W := ⟨_, rfl⟩
  rw [hw5] at S5 ⊢
  clear hw5
  clear c1 z1
  obtain ⟨d, hd⟩ : ∃ d : Cmd, ({ zCmd with name := strOfNums t } : Cmd) = d := ⟨_, rfl⟩
  rw [hd] at S5 HKP
  clear hd
  go_wp2_with (first
    | (refine wpList_load_row rfl 28 (.tmp 4) rfl cb rfl 28 (cells a) (0, 0) _ S5.out.ck Try.underlying28 rfl info28 ?_; (simp only [Act.put]))
    | (refine wpList_load_row rfl 28 (.tmp 7) rfl xb rfl 28 (cells (d)) (0, 0) _ S5.out.xk Try.underlying28 rfl info28 ?_; (simp only [Act.put]))
    | fail)
  refine (rkeep_calls a d w5 1 (by decide) (by decide)).mono ?_
  rintro e w9 ⟨rfl, hB9⟩
  rw [HKP.out]
  have S9 := Aside0.mk (And.intro (S5.out.rs.belowS hB9) (And.intro (S5.out.kp.trans (Keep1.of_below hB9 g)) (blk_below S5.out.qk hB9)))
  have HNE := Aside0.mk S5.out.ne
  clear hB9
  go_wp2_with (first
    | (refine wpList_store_row rfl 28 (.tmp 6) (.tmp 67) rfl q (cells a2) rfl rfl 28 (cells zCmd) S9.out.2.2 info28 rfl (cells_one _) ?_; (simp only [Act.put]))
    | fail)
  have hfin := setRow_heap w9 q (cells zCmd) (cells a2) 28 (0, 0) S9.out.2.2
  refine bodyPost_ret (results_cell_row rfl _ _ q 28 (cells a2) (0, 0) _ rfl hfin Try.underlying28 rfl info28) rfl ?_
  exact ⟨rfl, S9.out.1.setRowFar HNE.out.2.1 HNE.out.2.2.2.2.2.2.2.1 _, S9.out.2.1.setRowNew HNE.out.2.2.2.2.2.1 _⟩
set_option maxHeartbeats 4000000 in
set_option maxRecDepth 100000 in
theorem rget2 (w0 w : World) (g : Nat) (a : Cmd) (x : Sc) (hx : bytesOk x.1) (h : RS w0 w g x.1 x.2) (a2 : Cmd) (y : Sc) (hg : getC a x 2 = (a2, y)) :
    Calls Try.prog 36 #[.pointer (some ⟨g, 0, none⟩), .agg (cells a), .int .i64 2] w fun e w' => e = .returned (.agg (cells a2)) ∧ RS w0 w' g y.1 y.2 ∧ Keep1 w w' g := by
  obtain ⟨⟨t, x1⟩, h1⟩ : ∃ z, scText x 40 = z := ⟨_, rfl⟩
  obtain ⟨rfl, rfl⟩ : ({ a with text := strOfNums t } : Cmd) = a2 ∧ x1 = y := by
    have hg2 : (({ a with text := strOfNums (scText x 40).1 } : Cmd), (scText x 40).2) = (a2, y) := hg
    rw [h1] at hg2; injection hg2 with e1 e2; exact ⟨e1, e2⟩
  clear hg
  obtain ⟨a2, ha2⟩ : ∃ a2, ({ a with text := strOfNums t } : Cmd) = a2 := ⟨_, rfl⟩
  rw [ha2]
  have HKP : Aside0 (keepF a ({ zCmd with text := strOfNums t } : Cmd) 2 = a2) := ⟨ha2⟩
  have H1 := Aside0.mk h1
  clear h1 ha2
  have HX := Aside0.mk hx
  obtain ⟨cb, hcb⟩ : ∃ n, w.heap.size = n := ⟨_, rfl⟩
  obtain ⟨w1, hw1⟩ : ∃ W, w.alloc (.cells (cells a) 28) = W := ⟨_, rfl⟩
  obtain ⟨q, hq⟩ : ∃ n, w1.heap.size = n := ⟨_, rfl⟩
  obtain ⟨w2, hw2⟩ : ∃ W, w1.alloc (.cells (cells zCmd) 28) = W := ⟨_, rfl⟩
  obtain ⟨xb, hxb⟩ : ∃ n, w2.heap.size = n := ⟨_, rfl⟩
  obtain ⟨w3, hw3⟩ : ∃ W, w2.alloc (.cells (cells zCmd) 28) = W := ⟨_, rfl⟩
  have S3 := Aside0.mk (GS.start h w1 w2 w3 hw1 hw2 hw3 cb q xb hcb hq hxb)
  have HW3 := Aside0.mk hw3
  have HXB := Aside0.mk hxb
  have hw2' : w1.alloc (.cells #[.int .i64 0, .string ⟨#[]⟩, .string ⟨#[]⟩, .int .i64 0, .int .i64 0, .int .i64 0, .int .i64 0, .int .i64 0, .int .i64 0, .int .i64 0, .int .u64 0, .int .i64 0, .int .u64 0, .int .i64 0, .int .i64 0, .int .u64 0, .int .i64 0, .int .i64 0, .int .i64 0, .int .i64 0, .int .u64 0, .int .u64 0] 28) = w2 := hw2
  clear hx h hw2 hw3
  go_enter Try.func36, Try.ntmps36
  go_upto_region 2 with (first
    | (refine wpList_store_row rfl 28 (.tmp 7) (.tmp 9) rfl xb (cells zCmd) rfl rfl 28 (cells zCmd) ?hg info28 rfl (cells_one _) ?_; (case hg => rw [← HXB.out]; exact blk_new _ _); (simp only [Act.put]))
    | fail)
  have hrow : ∀ z : Array Value, (w2.alloc (.cells z 28)).setRow xb (cells zCmd) = w3 := fun z => by rw [← HW3.out, ← HXB.out]; exact World.setRow_alloc_new _ _ _ _
  rw [hrow]
  clear hrow hcb hw1 hq hw2' hxb
  go_wp2_with fail
  refine (RSText_at 40 HX.out S3.out.rs t x1 H1.out).mono ?_
  rintro e w4 ⟨rfl, hS, hK⟩
  have S4 := Aside0.mk (S3.out.k1 hS hK)
  clear hS hK S3
  have c2 : w4.cell? ⟨xb, 2, none⟩ = some (.string ⟨#[]⟩) := blk_cell S4.out.xk 2
  have z2 : w4.frozen? ⟨xb, 2, none⟩ = false := blk_frozen S4.out.xk 2
  go_upto_region 22 with fail
  have S5 := Aside0.mk (GS.set (d2 := ({ zCmd with text := strOfNums t } : Cmd)) S4.out 2 (.string (strOfNums t)) rfl)
  obtain ⟨w5, hw5⟩ : ∃ W, (w4).setCell ⟨xb, 2, none⟩ (.string (strOfNums t)) = W := ⟨_, rfl⟩
  rw [hw5] at S5 ⊢
  clear hw5
  clear c2 z2
  obtain ⟨d, hd⟩ : ∃ d : Cmd, ({ zCmd with text := strOfNums t } : Cmd) = d := ⟨_, rfl⟩
  rw [hd] at S5 HKP
  clear hd
  go_wp2_with (first
    | (refine wpList_load_row rfl 28 (.tmp 4) rfl cb rfl 28 (cells a) (0, 0) _ S5.out.ck Try.underlying28 rfl info28 ?_; (simp only [Act.put]))
    | (refine wpList_load_row rfl 28 (.tmp 7) rfl xb rfl 28 (cells (d)) (0, 0) _ S5.out.xk Try.underlying28 rfl info28 ?_; (simp only [Act.put]))
    | fail)
  refine (rkeep_calls a d w5 2 (by decide) (by decide)).mono ?_
  rintro e w9 ⟨rfl, hB9⟩
  rw [HKP.out]
  have S9 := Aside0.mk (And.intro (S5.out.rs.belowS hB9) (And.intro (S5.out.kp.trans (Keep1.of_below hB9 g)) (blk_below S5.out.qk hB9)))
  have HNE := Aside0.mk S5.out.ne
  clear hB9
  go_wp2_with (first
    | (refine wpList_store_row rfl 28 (.tmp 6) (.tmp 67) rfl q (cells a2) rfl rfl 28 (cells zCmd) S9.out.2.2 info28 rfl (cells_one _) ?_; (simp only [Act.put]))
    | fail)
  have hfin := setRow_heap w9 q (cells zCmd) (cells a2) 28 (0, 0) S9.out.2.2
  refine bodyPost_ret (results_cell_row rfl _ _ q 28 (cells a2) (0, 0) _ rfl hfin Try.underlying28 rfl info28) rfl ?_
  exact ⟨rfl, S9.out.1.setRowFar HNE.out.2.1 HNE.out.2.2.2.2.2.2.2.1 _, S9.out.2.1.setRowNew HNE.out.2.2.2.2.2.1 _⟩
set_option maxHeartbeats 4000000 in
set_option maxRecDepth 100000 in
theorem rget3 (w0 w : World) (g : Nat) (a : Cmd) (x : Sc) (hx : bytesOk x.1) (h : RS w0 w g x.1 x.2) (a2 : Cmd) (y : Sc) (hg : getC a x 3 = (a2, y)) :
    Calls Try.prog 36 #[.pointer (some ⟨g, 0, none⟩), .agg (cells a), .int .i64 3] w fun e w' => e = .returned (.agg (cells a2)) ∧ RS w0 w' g y.1 y.2 ∧ Keep1 w w' g := by
  obtain ⟨⟨n1, x1⟩, h1⟩ : ∃ z, scNum x 1 = z := ⟨_, rfl⟩
  obtain ⟨⟨n2, x2⟩, h2⟩ : ∃ z, scNum x1 1 = z := ⟨_, rfl⟩
  have o1 := scNum_ok hx h1
  obtain ⟨rfl, rfl⟩ : ({ a with rl := n1, rs := n2 } : Cmd) = a2 ∧ x2 = y := by
    have hg2 : (({ a with rl := (scNum x 1).1, rs := (scNum (scNum x 1).2 1).1 } : Cmd), (scNum (scNum x 1).2 1).2) = (a2, y) := hg
    rw [h1] at hg2
    have hg3 : (({ a with rl := n1, rs := (scNum x1 1).1 } : Cmd), (scNum x1 1).2) = (a2, y) := hg2
    rw [h2] at hg3; injection hg3 with e1 e2; exact ⟨e1, e2⟩
  clear hg
  obtain ⟨a2, ha2⟩ : ∃ a2, ({ a with rl := n1, rs := n2 } : Cmd) = a2 := ⟨_, rfl⟩
  rw [ha2]
  have HKP : Aside0 (keepF a ({ zCmd with rl := (n1 : Int), rs := (n2 : Int) } : Cmd) 3 = a2) := ⟨ha2⟩
  have H1 := Aside0.mk (And.intro h1 (And.intro o1 h2))
  clear h1 h2 o1 ha2
  have HX := Aside0.mk hx
  obtain ⟨cb, hcb⟩ : ∃ n, w.heap.size = n := ⟨_, rfl⟩
  obtain ⟨w1, hw1⟩ : ∃ W, w.alloc (.cells (cells a) 28) = W := ⟨_, rfl⟩
  obtain ⟨q, hq⟩ : ∃ n, w1.heap.size = n := ⟨_, rfl⟩
  obtain ⟨w2, hw2⟩ : ∃ W, w1.alloc (.cells (cells zCmd) 28) = W := ⟨_, rfl⟩
  obtain ⟨xb, hxb⟩ : ∃ n, w2.heap.size = n := ⟨_, rfl⟩
  obtain ⟨w3, hw3⟩ : ∃ W, w2.alloc (.cells (cells zCmd) 28) = W := ⟨_, rfl⟩
  have S3 := Aside0.mk (GS.start h w1 w2 w3 hw1 hw2 hw3 cb q xb hcb hq hxb)
  have HW3 := Aside0.mk hw3
  have HXB := Aside0.mk hxb
  have hw2' : w1.alloc (.cells #[.int .i64 0, .string ⟨#[]⟩, .string ⟨#[]⟩, .int .i64 0, .int .i64 0, .int .i64 0, .int .i64 0, .int .i64 0, .int .i64 0, .int .i64 0, .int .u64 0, .int .i64 0, .int .u64 0, .int .i64 0, .int .i64 0, .int .u64 0, .int .i64 0, .int .i64 0, .int .i64 0, .int .i64 0, .int .u64 0, .int .u64 0] 28) = w2 := hw2
  clear hx h hw2 hw3
  go_enter Try.func36, Try.ntmps36
  go_upto_region 2 with (first
    | (refine wpList_store_row rfl 28 (.tmp 7) (.tmp 9) rfl xb (cells zCmd) rfl rfl 28 (cells zCmd) ?hg info28 rfl (cells_one _) ?_; (case hg => rw [← HXB.out]; exact blk_new _ _); (simp only [Act.put]))
    | fail)
  have hrow : ∀ z : Array Value, (w2.alloc (.cells z 28)).setRow xb (cells zCmd) = w3 := fun z => by rw [← HW3.out, ← HXB.out]; exact World.setRow_alloc_new _ _ _ _
  rw [hrow]
  clear hrow hcb hw1 hq hw2' hxb
  go_wp2_with fail
  refine (ROne_at HX.out S3.out.rs n1 x1 H1.out.1).mono ?_
  rintro e w4 ⟨rfl, hS, hK⟩
  have S4 := Aside0.mk (S3.out.k1 hS hK)
  clear hS hK S3
  have c3 : w4.cell? ⟨xb, 3, none⟩ = some (.int .i64 0) := blk_cell S4.out.xk 3
  have z3 : w4.frozen? ⟨xb, 3, none⟩ = false := blk_frozen S4.out.xk 3
  go_upto_region 11 with fail
  have S5 := Aside0.mk (GS.set (d2 := ({ zCmd with rl := (n1 : Int) } : Cmd)) S4.out 3 (.int .i64 ((n1 : Int))) rfl)
  obtain ⟨w5, hw5⟩ : ∃ W, (w4).setCell ⟨xb, 3, none⟩ (.int .i64 ((n1 : Int))) = W := ⟨_, rfl⟩
  rw [hw5] at S5 ⊢
  clear hw5
  clear c3 z3
  go_wp2_with fail
  refine (ROne_at H1.out.2.1 S5.out.rs n2 x2 H1.out.2.2).mono ?_
  rintro e w6 ⟨rfl, hS, hK⟩
  have S6 := Aside0.mk (S5.out.k1 hS hK)
  clear hS hK S5
  have c4 : w6.cell? ⟨xb, 4, none⟩ = some (.int .i64 0) := blk_cell S6.out.xk 4
  have z4 : w6.frozen? ⟨xb, 4, none⟩ = false := blk_frozen S6.out.xk 4
  go_upto_region 22 with fail
  have S7 := Aside0.mk (GS.set (d2 := ({ zCmd with rl := (n1 : Int), rs := (n2 : Int) } : Cmd)) S6.out 4 (.int .i64 ((n2 : Int))) rfl)
  obtain ⟨w7, hw7⟩ : ∃ W, (w6).setCell ⟨xb, 4, none⟩ (.int .i64 ((n2 : Int))) = W := ⟨_, rfl⟩
  rw [hw7] at S7 ⊢
  clear hw7
  clear c4 z4
  obtain ⟨d, hd⟩ : ∃ d : Cmd, ({ zCmd with rl := (n1 : Int), rs := (n2 : Int) } : Cmd) = d := ⟨_, rfl⟩
  rw [hd] at S7 HKP
  clear hd
  go_wp2_with (first
    | (refine wpList_load_row rfl 28 (.tmp 4) rfl cb rfl 28 (cells a) (0, 0) _ S7.out.ck Try.underlying28 rfl info28 ?_; (simp only [Act.put]))
    | (refine wpList_load_row rfl 28 (.tmp 7) rfl xb rfl 28 (cells (d)) (0, 0) _ S7.out.xk Try.underlying28 rfl info28 ?_; (simp only [Act.put]))
    | fail)
  refine (rkeep_calls a d w7 3 (by decide) (by decide)).mono ?_
  rintro e w9 ⟨rfl, hB9⟩
  rw [HKP.out]
  have S9 := Aside0.mk (And.intro (S7.out.rs.belowS hB9) (And.intro (S7.out.kp.trans (Keep1.of_below hB9 g)) (blk_below S7.out.qk hB9)))
  have HNE := Aside0.mk S7.out.ne
  clear hB9
  go_wp2_with (first
    | (refine wpList_store_row rfl 28 (.tmp 6) (.tmp 67) rfl q (cells a2) rfl rfl 28 (cells zCmd) S9.out.2.2 info28 rfl (cells_one _) ?_; (simp only [Act.put]))
    | fail)
  have hfin := setRow_heap w9 q (cells zCmd) (cells a2) 28 (0, 0) S9.out.2.2
  refine bodyPost_ret (results_cell_row rfl _ _ q 28 (cells a2) (0, 0) _ rfl hfin Try.underlying28 rfl info28) rfl ?_
  exact ⟨rfl, S9.out.1.setRowFar HNE.out.2.1 HNE.out.2.2.2.2.2.2.2.1 _, S9.out.2.1.setRowNew HNE.out.2.2.2.2.2.1 _⟩
set_option maxHeartbeats 4000000 in
set_option maxRecDepth 100000 in
theorem rget9 (w0 w : World) (g : Nat) (a : Cmd) (x : Sc) (hx : bytesOk x.1) (h : RS w0 w g x.1 x.2) (a2 : Cmd) (y : Sc) (hg : getC a x 9 = (a2, y)) :
    Calls Try.prog 36 #[.pointer (some ⟨g, 0, none⟩), .agg (cells a), .int .i64 9] w fun e w' => e = .returned (.agg (cells a2)) ∧ RS w0 w' g y.1 y.2 ∧ Keep1 w w' g := by
  obtain ⟨⟨n1, x1⟩, h1⟩ : ∃ z, scNum x 8 = z := ⟨_, rfl⟩
  obtain ⟨rfl, rfl⟩ : ({ a with am := n1 } : Cmd) = a2 ∧ x1 = y := by
    have hg2 : (({ a with am := (scNum x 8).1 } : Cmd), (scNum x 8).2) = (a2, y) := hg
    rw [h1] at hg2; injection hg2 with e1 e2; exact ⟨e1, e2⟩
  clear hg
  obtain ⟨a2, ha2⟩ : ∃ a2, ({ a with am := n1 } : Cmd) = a2 := ⟨_, rfl⟩
  rw [ha2]
  have HKP : Aside0 (keepF a ({ zCmd with am := (n1 : Int), qt := (n1 : Int), pr := (n1 : Int) } : Cmd) 9 = a2) := ⟨ha2⟩
  have H1 := Aside0.mk h1
  clear h1 ha2
  have HX := Aside0.mk hx
  obtain ⟨cb, hcb⟩ : ∃ n, w.heap.size = n := ⟨_, rfl⟩
  obtain ⟨w1, hw1⟩ : ∃ W, w.alloc (.cells (cells a) 28) = W := ⟨_, rfl⟩
  obtain ⟨q, hq⟩ : ∃ n, w1.heap.size = n := ⟨_, rfl⟩
  obtain ⟨w2, hw2⟩ : ∃ W, w1.alloc (.cells (cells zCmd) 28) = W := ⟨_, rfl⟩
  obtain ⟨xb, hxb⟩ : ∃ n, w2.heap.size = n := ⟨_, rfl⟩
  obtain ⟨w3, hw3⟩ : ∃ W, w2.alloc (.cells (cells zCmd) 28) = W := ⟨_, rfl⟩
  have S3 := Aside0.mk (GS.start h w1 w2 w3 hw1 hw2 hw3 cb q xb hcb hq hxb)
  have HW3 := Aside0.mk hw3
  have HXB := Aside0.mk hxb
  have hw2' : w1.alloc (.cells #[.int .i64 0, .string ⟨#[]⟩, .string ⟨#[]⟩, .int .i64 0, .int .i64 0, .int .i64 0, .int .i64 0, .int .i64 0, .int .i64 0, .int .i64 0, .int .u64 0, .int .i64 0, .int .u64 0, .int .i64 0, .int .i64 0, .int .u64 0, .int .i64 0, .int .i64 0, .int .i64 0, .int .i64 0, .int .u64 0, .int .u64 0] 28) = w2 := hw2
  clear hx h hw2 hw3
  go_enter Try.func36, Try.ntmps36
  go_upto_region 2 with (first
    | (refine wpList_store_row rfl 28 (.tmp 7) (.tmp 9) rfl xb (cells zCmd) rfl rfl 28 (cells zCmd) ?hg info28 rfl (cells_one _) ?_; (case hg => rw [← HXB.out]; exact blk_new _ _); (simp only [Act.put]))
    | fail)
  have hrow : ∀ z : Array Value, (w2.alloc (.cells z 28)).setRow xb (cells zCmd) = w3 := fun z => by rw [← HW3.out, ← HXB.out]; exact World.setRow_alloc_new _ _ _ _
  rw [hrow]
  clear hrow hcb hw1 hq hw2' hxb
  go_wp2_with fail
  refine (RSNum_at 8 8 rfl HX.out S3.out.rs n1 x1 H1.out).mono ?_
  rintro e w4 ⟨rfl, hS, hK⟩
  have S4 := Aside0.mk (S3.out.k1 hS hK)
  clear hS hK S3
  have c10 : w4.cell? ⟨xb, 10, none⟩ = some (.int .u64 0) := blk_cell S4.out.xk 10
  have z10 : w4.frozen? ⟨xb, 10, none⟩ = false := blk_frozen S4.out.xk 10
  have c20 : w4.cell? ⟨xb, 20, none⟩ = some (.int .u64 0) := blk_cell S4.out.xk 20
  have z20 : w4.frozen? ⟨xb, 20, none⟩ = false := blk_frozen S4.out.xk 20
  have c21 : w4.cell? ⟨xb, 21, none⟩ = some (.int .u64 0) := blk_cell S4.out.xk 21
  have z21 : w4.frozen? ⟨xb, 21, none⟩ = false := blk_frozen S4.out.xk 21
  go_upto_region 22 with fail
  have S5 := Aside0.mk (GS.set (d2 := ({ zCmd with am := (n1 : Int), qt := (n1 : Int), pr := (n1 : Int) } : Cmd)) (GS.set (d2 := ({ zCmd with am := (n1 : Int), qt := (n1 : Int) } : Cmd)) (GS.set (d2 := ({ zCmd with am := (n1 : Int) } : Cmd)) S4.out 10 (.int .u64 ((n1 : Int))) rfl) 20 (.int .u64 ((n1 : Int))) rfl) 21 (.int .u64 ((n1 : Int))) rfl)
  obtain ⟨w5, hw5⟩ : ∃ W, (((w4).setCell ⟨xb, 10, none⟩ (.int .u64 ((n1 : Int)))).setCell ⟨xb, 20, none⟩ (.int .u64 ((n1 : Int)))).setCell ⟨xb, 21, none⟩ (.int .u64 ((n1 : Int))) = W := ⟨_, rfl⟩
  rw [hw5] at S5 ⊢
  clear hw5
  clear c10 z10 c20 z20 c21 z21
  obtain ⟨d, hd⟩ : ∃ d : Cmd, ({ zCmd with am := (n1 : Int), qt := (n1 : Int), pr := (n1 : Int) } : Cmd) = d := ⟨_, rfl⟩
  rw [hd] at S5 HKP
  clear hd
  go_wp2_with (first
    | (refine wpList_load_row rfl 28 (.tmp 4) rfl cb rfl 28 (cells a) (0, 0) _ S5.out.ck Try.underlying28 rfl info28 ?_; (simp only [Act.put]))
    | (refine wpList_load_row rfl 28 (.tmp 7) rfl xb rfl 28 (cells (d)) (0, 0) _ S5.out.xk Try.underlying28 rfl info28 ?_; (simp only [Act.put]))
    | fail)
  refine (rkeep_calls a d w5 9 (by decide) (by decide)).mono ?_
  rintro e w9 ⟨rfl, hB9⟩
  rw [HKP.out]
  have S9 := Aside0.mk (And.intro (S5.out.rs.belowS hB9) (And.intro (S5.out.kp.trans (Keep1.of_below hB9 g)) (blk_below S5.out.qk hB9)))
  have HNE := Aside0.mk S5.out.ne
  clear hB9
  go_wp2_with (first
    | (refine wpList_store_row rfl 28 (.tmp 6) (.tmp 67) rfl q (cells a2) rfl rfl 28 (cells zCmd) S9.out.2.2 info28 rfl (cells_one _) ?_; (simp only [Act.put]))
    | fail)
  have hfin := setRow_heap w9 q (cells zCmd) (cells a2) 28 (0, 0) S9.out.2.2
  refine bodyPost_ret (results_cell_row rfl _ _ q 28 (cells a2) (0, 0) _ rfl hfin Try.underlying28 rfl info28) rfl ?_
  exact ⟨rfl, S9.out.1.setRowFar HNE.out.2.1 HNE.out.2.2.2.2.2.2.2.1 _, S9.out.2.1.setRowNew HNE.out.2.2.2.2.2.1 _⟩
set_option maxHeartbeats 4000000 in
set_option maxRecDepth 100000 in
theorem rget15 (w0 w : World) (g : Nat) (a : Cmd) (x : Sc) (hx : bytesOk x.1) (h : RS w0 w g x.1 x.2) (a2 : Cmd) (y : Sc) (hg : getC a x 15 = (a2, y)) :
    Calls Try.prog 36 #[.pointer (some ⟨g, 0, none⟩), .agg (cells a), .int .i64 15] w fun e w' => e = .returned (.agg (cells a2)) ∧ RS w0 w' g y.1 y.2 ∧ Keep1 w w' g := by
  obtain ⟨⟨n1, x1⟩, h1⟩ : ∃ z, scNum x 8 = z := ⟨_, rfl⟩
  obtain ⟨rfl, rfl⟩ : ({ a with qt := n1 } : Cmd) = a2 ∧ x1 = y := by
    have hg2 : (({ a with qt := (scNum x 8).1 } : Cmd), (scNum x 8).2) = (a2, y) := hg
    rw [h1] at hg2; injection hg2 with e1 e2; exact ⟨e1, e2⟩
  clear hg
  obtain ⟨a2, ha2⟩ : ∃ a2, ({ a with qt := n1 } : Cmd) = a2 := ⟨_, rfl⟩
  rw [ha2]
  have HKP : Aside0 (keepF a ({ zCmd with am := (n1 : Int), qt := (n1 : Int), pr := (n1 : Int) } : Cmd) 15 = a2) := ⟨ha2⟩
  have H1 := Aside0.mk h1
  clear h1 ha2
  have HX := Aside0.mk hx
  obtain ⟨cb, hcb⟩ : ∃ n, w.heap.size = n := ⟨_, rfl⟩
  obtain ⟨w1, hw1⟩ : ∃ W, w.alloc (.cells (cells a) 28) = W := ⟨_, rfl⟩
  obtain ⟨q, hq⟩ : ∃ n, w1.heap.size = n := ⟨_, rfl⟩
  obtain ⟨w2, hw2⟩ : ∃ W, w1.alloc (.cells (cells zCmd) 28) = W := ⟨_, rfl⟩
  obtain ⟨xb, hxb⟩ : ∃ n, w2.heap.size = n := ⟨_, rfl⟩
  obtain ⟨w3, hw3⟩ : ∃ W, w2.alloc (.cells (cells zCmd) 28) = W := ⟨_, rfl⟩
  have S3 := Aside0.mk (GS.start h w1 w2 w3 hw1 hw2 hw3 cb q xb hcb hq hxb)
  have HW3 := Aside0.mk hw3
  have HXB := Aside0.mk hxb
  have hw2' : w1.alloc (.cells #[.int .i64 0, .string ⟨#[]⟩, .string ⟨#[]⟩, .int .i64 0, .int .i64 0, .int .i64 0, .int .i64 0, .int .i64 0, .int .i64 0, .int .i64 0, .int .u64 0, .int .i64 0, .int .u64 0, .int .i64 0, .int .i64 0, .int .u64 0, .int .i64 0, .int .i64 0, .int .i64 0, .int .i64 0, .int .u64 0, .int .u64 0] 28) = w2 := hw2
  clear hx h hw2 hw3
  go_enter Try.func36, Try.ntmps36
  go_upto_region 2 with (first
    | (refine wpList_store_row rfl 28 (.tmp 7) (.tmp 9) rfl xb (cells zCmd) rfl rfl 28 (cells zCmd) ?hg info28 rfl (cells_one _) ?_; (case hg => rw [← HXB.out]; exact blk_new _ _); (simp only [Act.put]))
    | fail)
  have hrow : ∀ z : Array Value, (w2.alloc (.cells z 28)).setRow xb (cells zCmd) = w3 := fun z => by rw [← HW3.out, ← HXB.out]; exact World.setRow_alloc_new _ _ _ _
  rw [hrow]
  clear hrow hcb hw1 hq hw2' hxb
  go_wp2_with fail
  refine (RSNum_at 8 8 rfl HX.out S3.out.rs n1 x1 H1.out).mono ?_
  rintro e w4 ⟨rfl, hS, hK⟩
  have S4 := Aside0.mk (S3.out.k1 hS hK)
  clear hS hK S3
  have c10 : w4.cell? ⟨xb, 10, none⟩ = some (.int .u64 0) := blk_cell S4.out.xk 10
  have z10 : w4.frozen? ⟨xb, 10, none⟩ = false := blk_frozen S4.out.xk 10
  have c20 : w4.cell? ⟨xb, 20, none⟩ = some (.int .u64 0) := blk_cell S4.out.xk 20
  have z20 : w4.frozen? ⟨xb, 20, none⟩ = false := blk_frozen S4.out.xk 20
  have c21 : w4.cell? ⟨xb, 21, none⟩ = some (.int .u64 0) := blk_cell S4.out.xk 21
  have z21 : w4.frozen? ⟨xb, 21, none⟩ = false := blk_frozen S4.out.xk 21
  go_upto_region 22 with fail
  have S5 := Aside0.mk (GS.set (d2 := ({ zCmd with am := (n1 : Int), qt := (n1 : Int), pr := (n1 : Int) } : Cmd)) (GS.set (d2 := ({ zCmd with am := (n1 : Int), qt := (n1 : Int) } : Cmd)) (GS.set (d2 := ({ zCmd with am := (n1 : Int) } : Cmd)) S4.out 10 (.int .u64 ((n1 : Int))) rfl) 20 (.int .u64 ((n1 : Int))) rfl) 21 (.int .u64 ((n1 : Int))) rfl)
  obtain ⟨w5, hw5⟩ : ∃ W, (((w4).setCell ⟨xb, 10, none⟩ (.int .u64 ((n1 : Int)))).setCell ⟨xb, 20, none⟩ (.int .u64 ((n1 : Int)))).setCell ⟨xb, 21, none⟩ (.int .u64 ((n1 : Int))) = W := ⟨_, rfl⟩
  rw [hw5] at S5 ⊢
  clear hw5
  clear c10 z10 c20 z20 c21 z21
  obtain ⟨d, hd⟩ : ∃ d : Cmd, ({ zCmd with am := (n1 : Int), qt := (n1 : Int), pr := (n1 : Int) } : Cmd) = d := ⟨_, rfl⟩
  rw [hd] at S5 HKP
  clear hd
  go_wp2_with (first
    | (refine wpList_load_row rfl 28 (.tmp 4) rfl cb rfl 28 (cells a) (0, 0) _ S5.out.ck Try.underlying28 rfl info28 ?_; (simp only [Act.put]))
    | (refine wpList_load_row rfl 28 (.tmp 7) rfl xb rfl 28 (cells (d)) (0, 0) _ S5.out.xk Try.underlying28 rfl info28 ?_; (simp only [Act.put]))
    | fail)
  refine (rkeep_calls a d w5 15 (by decide) (by decide)).mono ?_
  rintro e w9 ⟨rfl, hB9⟩
  rw [HKP.out]
  have S9 := Aside0.mk (And.intro (S5.out.rs.belowS hB9) (And.intro (S5.out.kp.trans (Keep1.of_below hB9 g)) (blk_below S5.out.qk hB9)))
  have HNE := Aside0.mk S5.out.ne
  clear hB9
  go_wp2_with (first
    | (refine wpList_store_row rfl 28 (.tmp 6) (.tmp 67) rfl q (cells a2) rfl rfl 28 (cells zCmd) S9.out.2.2 info28 rfl (cells_one _) ?_; (simp only [Act.put]))
    | fail)
  have hfin := setRow_heap w9 q (cells zCmd) (cells a2) 28 (0, 0) S9.out.2.2
  refine bodyPost_ret (results_cell_row rfl _ _ q 28 (cells a2) (0, 0) _ rfl hfin Try.underlying28 rfl info28) rfl ?_
  exact ⟨rfl, S9.out.1.setRowFar HNE.out.2.1 HNE.out.2.2.2.2.2.2.2.1 _, S9.out.2.1.setRowNew HNE.out.2.2.2.2.2.1 _⟩
set_option maxHeartbeats 4000000 in
set_option maxRecDepth 100000 in
theorem rget16 (w0 w : World) (g : Nat) (a : Cmd) (x : Sc) (hx : bytesOk x.1) (h : RS w0 w g x.1 x.2) (a2 : Cmd) (y : Sc) (hg : getC a x 16 = (a2, y)) :
    Calls Try.prog 36 #[.pointer (some ⟨g, 0, none⟩), .agg (cells a), .int .i64 16] w fun e w' => e = .returned (.agg (cells a2)) ∧ RS w0 w' g y.1 y.2 ∧ Keep1 w w' g := by
  obtain ⟨⟨n1, x1⟩, h1⟩ : ∃ z, scNum x 8 = z := ⟨_, rfl⟩
  obtain ⟨rfl, rfl⟩ : ({ a with pr := n1 } : Cmd) = a2 ∧ x1 = y := by
    have hg2 : (({ a with pr := (scNum x 8).1 } : Cmd), (scNum x 8).2) = (a2, y) := hg
    rw [h1] at hg2; injection hg2 with e1 e2; exact ⟨e1, e2⟩
  clear hg
  obtain ⟨a2, ha2⟩ : ∃ a2, ({ a with pr := n1 } : Cmd) = a2 := ⟨_, rfl⟩
  rw [ha2]
  have HKP : Aside0 (keepF a ({ zCmd with am := (n1 : Int), qt := (n1 : Int), pr := (n1 : Int) } : Cmd) 16 = a2) := ⟨ha2⟩
  have H1 := Aside0.mk h1
  clear h1 ha2
  have HX := Aside0.mk hx
  obtain ⟨cb, hcb⟩ : ∃ n, w.heap.size = n := ⟨_, rfl⟩
  obtain ⟨w1, hw1⟩ : ∃ W, w.alloc (.cells (cells a) 28) = W := ⟨_, rfl⟩
  obtain ⟨q, hq⟩ : ∃ n, w1.heap.size = n := ⟨_, rfl⟩
  obtain ⟨w2, hw2⟩ : ∃ W, w1.alloc (.cells (cells zCmd) 28) = W := ⟨_, rfl⟩
  obtain ⟨xb, hxb⟩ : ∃ n, w2.heap.size = n := ⟨_, rfl⟩
  obtain ⟨w3, hw3⟩ : ∃ W, w2.alloc (.cells (cells zCmd) 28) = W := ⟨_, rfl⟩
  have S3 := Aside0.mk (GS.start h w1 w2 w3 hw1 hw2 hw3 cb q xb hcb hq hxb)
  have HW3 := Aside0.mk hw3
  have HXB := Aside0.mk hxb
  have hw2' : w1.alloc (.cells #[.int .i64 0, .string ⟨#[]⟩, .string ⟨#[]⟩, .int .i64 0, .int .i64 0, .int .i64 0, .int .i64 0, .int .i64 0, .int .i64 0, .int .i64 0, .int .u64 0, .int .i64 0, .int .u64 0, .int .i64 0, .int .i64 0, .int .u64 0, .int .i64 0, .int .i64 0, .int .i64 0, .int .i64 0, .int .u64 0, .int .u64 0] 28) = w2 := hw2
  clear hx h hw2 hw3
  go_enter Try.func36, Try.ntmps36
  go_upto_region 2 with (first
    | (refine wpList_store_row rfl 28 (.tmp 7) (.tmp 9) rfl xb (cells zCmd) rfl rfl 28 (cells zCmd) ?hg info28 rfl (cells_one _) ?_; (case hg => rw [← HXB.out]; exact blk_new _ _); (simp only [Act.put]))
    | fail)
  have hrow : ∀ z : Array Value, (w2.alloc (.cells z 28)).setRow xb (cells zCmd) = w3 := fun z => by rw [← HW3.out, ← HXB.out]; exact World.setRow_alloc_new _ _ _ _
  rw [hrow]
  clear hrow hcb hw1 hq hw2' hxb
  go_wp2_with fail
  refine (RSNum_at 8 8 rfl HX.out S3.out.rs n1 x1 H1.out).mono ?_
  rintro e w4 ⟨rfl, hS, hK⟩
  have S4 := Aside0.mk (S3.out.k1 hS hK)
  clear hS hK S3
  have c10 : w4.cell? ⟨xb, 10, none⟩ = some (.int .u64 0) := blk_cell S4.out.xk 10
  have z10 : w4.frozen? ⟨xb, 10, none⟩ = false := blk_frozen S4.out.xk 10
  have c20 : w4.cell? ⟨xb, 20, none⟩ = some (.int .u64 0) := blk_cell S4.out.xk 20
  have z20 : w4.frozen? ⟨xb, 20, none⟩ = false := blk_frozen S4.out.xk 20
  have c21 : w4.cell? ⟨xb, 21, none⟩ = some (.int .u64 0) := blk_cell S4.out.xk 21
  have z21 : w4.frozen? ⟨xb, 21, none⟩ = false := blk_frozen S4.out.xk 21
  go_upto_region 22 with fail
  have S5 := Aside0.mk (GS.set (d2 := ({ zCmd with am := (n1 : Int), qt := (n1 : Int), pr := (n1 : Int) } : Cmd)) (GS.set (d2 := ({ zCmd with am := (n1 : Int), qt := (n1 : Int) } : Cmd)) (GS.set (d2 := ({ zCmd with am := (n1 : Int) } : Cmd)) S4.out 10 (.int .u64 ((n1 : Int))) rfl) 20 (.int .u64 ((n1 : Int))) rfl) 21 (.int .u64 ((n1 : Int))) rfl)
  obtain ⟨w5, hw5⟩ : ∃ W, (((w4).setCell ⟨xb, 10, none⟩ (.int .u64 ((n1 : Int)))).setCell ⟨xb, 20, none⟩ (.int .u64 ((n1 : Int)))).setCell ⟨xb, 21, none⟩ (.int .u64 ((n1 : Int))) = W := ⟨_, rfl⟩
  rw [hw5] at S5 ⊢
  clear hw5
  clear c10 z10 c20 z20 c21 z21
  obtain ⟨d, hd⟩ : ∃ d : Cmd, ({ zCmd with am := (n1 : Int), qt := (n1 : Int), pr := (n1 : Int) } : Cmd) = d := ⟨_, rfl⟩
  rw [hd] at S5 HKP
  clear hd
  go_wp2_with (first
    | (refine wpList_load_row rfl 28 (.tmp 4) rfl cb rfl 28 (cells a) (0, 0) _ S5.out.ck Try.underlying28 rfl info28 ?_; (simp only [Act.put]))
    | (refine wpList_load_row rfl 28 (.tmp 7) rfl xb rfl 28 (cells (d)) (0, 0) _ S5.out.xk Try.underlying28 rfl info28 ?_; (simp only [Act.put]))
    | fail)
  refine (rkeep_calls a d w5 16 (by decide) (by decide)).mono ?_
  rintro e w9 ⟨rfl, hB9⟩
  rw [HKP.out]
  have S9 := Aside0.mk (And.intro (S5.out.rs.belowS hB9) (And.intro (S5.out.kp.trans (Keep1.of_below hB9 g)) (blk_below S5.out.qk hB9)))
  have HNE := Aside0.mk S5.out.ne
  clear hB9
  go_wp2_with (first
    | (refine wpList_store_row rfl 28 (.tmp 6) (.tmp 67) rfl q (cells a2) rfl rfl 28 (cells zCmd) S9.out.2.2 info28 rfl (cells_one _) ?_; (simp only [Act.put]))
    | fail)
  have hfin := setRow_heap w9 q (cells zCmd) (cells a2) 28 (0, 0) S9.out.2.2
  refine bodyPost_ret (results_cell_row rfl _ _ q 28 (cells a2) (0, 0) _ rfl hfin Try.underlying28 rfl info28) rfl ?_
  exact ⟨rfl, S9.out.1.setRowFar HNE.out.2.1 HNE.out.2.2.2.2.2.2.2.1 _, S9.out.2.1.setRowNew HNE.out.2.2.2.2.2.1 _⟩
set_option maxHeartbeats 4000000 in
set_option maxRecDepth 100000 in
theorem rget10 (w0 w : World) (g : Nat) (a : Cmd) (x : Sc) (hx : bytesOk x.1) (h : RS w0 w g x.1 x.2) (a2 : Cmd) (y : Sc) (hg : getC a x 10 = (a2, y)) :
    Calls Try.prog 36 #[.pointer (some ⟨g, 0, none⟩), .agg (cells a), .int .i64 10] w fun e w' => e = .returned (.agg (cells a2)) ∧ RS w0 w' g y.1 y.2 ∧ Keep1 w w' g := by
  obtain ⟨⟨⟨n1, n2, n3⟩, x1⟩, h1⟩ : ∃ z, sideC x = z := ⟨_, rfl⟩
  obtain ⟨rfl, rfl⟩ : ({ a with gc := n1, ga := n2, gi := n3 } : Cmd) = a2 ∧ x1 = y := by
    have hg2 : (({ a with gc := (sideC x).1.1, ga := (sideC x).1.2.1, gi := (sideC x).1.2.2 } : Cmd), (sideC x).2) = (a2, y) := hg
    rw [h1] at hg2; injection hg2 with e1 e2; exact ⟨e1, e2⟩
  clear hg
  obtain ⟨a2, ha2⟩ : ∃ a2, ({ a with gc := n1, ga := n2, gi := n3 } : Cmd) = a2 := ⟨_, rfl⟩
  rw [ha2]
  have HKP : Aside0 (keepF a ({ zCmd with gc := (n1 : Int), ga := (n2 : Int), gi := n3, wc := (n1 : Int), wa := (n2 : Int), wi := n3 } : Cmd) 10 = a2) := ⟨ha2⟩
  have H1 := Aside0.mk h1
  clear h1 ha2
  have HX := Aside0.mk hx
  obtain ⟨cb, hcb⟩ : ∃ n, w.heap.size = n := ⟨_, rfl⟩
  obtain ⟨w1, hw1⟩ : ∃ W, w.alloc (.cells (cells a) 28) = W := ⟨_, rfl⟩
  obtain ⟨q, hq⟩ : ∃ n, w1.heap.size = n := ⟨_, rfl⟩
  obtain ⟨w2, hw2⟩ : ∃ W, w1.alloc (.cells (cells zCmd) 28) = W := ⟨_, rfl⟩
  obtain ⟨xb, hxb⟩ : ∃ n, w2.heap.size = n := ⟨_, rfl⟩
  obtain ⟨w3, hw3⟩ : ∃ W, w2.alloc (.cells (cells zCmd) 28) = W := ⟨_, rfl⟩
  have S3 := Aside0.mk (GS.start h w1 w2 w3 hw1 hw2 hw3 cb q xb hcb hq hxb)
  have HW3 := Aside0.mk hw3
  have HXB := Aside0.mk hxb
  have hw2' : w1.alloc (.cells #[.int .i64 0, .string ⟨#[]⟩, .string ⟨#[]⟩, .int .i64 0, .int .i64 0, .int .i64 0, .int .i64 0, .int .i64 0, .int .i64 0, .int .i64 0, .int .u64 0, .int .i64 0, .int .u64 0, .int .i64 0, .int .i64 0, .int .u64 0, .int .i64 0, .int .i64 0, .int .i64 0, .int .i64 0, .int .u64 0, .int .u64 0] 28) = w2 := hw2
  clear hx h hw2 hw3
  go_enter Try.func36, Try.ntmps36
  go_upto_region 2 with (first
    | (refine wpList_store_row rfl 28 (.tmp 7) (.tmp 9) rfl xb (cells zCmd) rfl rfl 28 (cells zCmd) ?hg info28 rfl (cells_one _) ?_; (case hg => rw [← HXB.out]; exact blk_new _ _); (simp only [Act.put]))
    | fail)
  have hrow : ∀ z : Array Value, (w2.alloc (.cells z 28)).setRow xb (cells zCmd) = w3 := fun z => by rw [← HW3.out, ← HXB.out]; exact World.setRow_alloc_new _ _ _ _
  rw [hrow]
  clear hrow hcb hw1 hq hw2' hxb
  go_wp2_with fail
  refine (RSide_at HX.out S3.out.rs n1 n2 n3 x1 H1.out).mono ?_
  rintro e w4 ⟨rfl, hS, hK⟩
  have S4 := Aside0.mk (S3.out.k1 hS hK)
  clear hS hK S3
  have c11 : w4.cell? ⟨xb, 11, none⟩ = some (.int .i64 0) := blk_cell S4.out.xk 11
  have z11 : w4.frozen? ⟨xb, 11, none⟩ = false := blk_frozen S4.out.xk 11
  have c12 : w4.cell? ⟨xb, 12, none⟩ = some (.int .u64 0) := blk_cell S4.out.xk 12
  have z12 : w4.frozen? ⟨xb, 12, none⟩ = false := blk_frozen S4.out.xk 12
  have c13 : w4.cell? ⟨xb, 13, none⟩ = some (.int .i64 0) := blk_cell S4.out.xk 13
  have z13 : w4.frozen? ⟨xb, 13, none⟩ = false := blk_frozen S4.out.xk 13
  have c14 : w4.cell? ⟨xb, 14, none⟩ = some (.int .i64 0) := blk_cell S4.out.xk 14
  have z14 : w4.frozen? ⟨xb, 14, none⟩ = false := blk_frozen S4.out.xk 14
  have c15 : w4.cell? ⟨xb, 15, none⟩ = some (.int .u64 0) := blk_cell S4.out.xk 15
  have z15 : w4.frozen? ⟨xb, 15, none⟩ = false := blk_frozen S4.out.xk 15
  have c16 : w4.cell? ⟨xb, 16, none⟩ = some (.int .i64 0) := blk_cell S4.out.xk 16
  have z16 : w4.frozen? ⟨xb, 16, none⟩ = false := blk_frozen S4.out.xk 16
  go_upto_region 22 with fail
  have S5 := Aside0.mk (GS.set (d2 := ({ zCmd with gc := (n1 : Int), ga := (n2 : Int), gi := n3, wc := (n1 : Int), wa := (n2 : Int), wi := n3 } : Cmd)) (GS.set (d2 := ({ zCmd with gc := (n1 : Int), ga := (n2 : Int), gi := n3, wc := (n1 : Int), wa := (n2 : Int) } : Cmd)) (GS.set (d2 := ({ zCmd with gc := (n1 : Int), ga := (n2 : Int), gi := n3, wc := (n1 : Int) } : Cmd)) (GS.set (d2 := ({ zCmd with gc := (n1 : Int), ga := (n2 : Int), gi := n3 } : Cmd)) (GS.set (d2 := ({ zCmd with gc := (n1 : Int), ga := (n2 : Int) } : Cmd)) (GS.set (d2 := ({ zCmd with gc := (n1 : Int) } : Cmd)) S4.out 11 (.int .i64 ((n1 : Int))) rfl) 12 (.int .u64 ((n2 : Int))) rfl) 13 (.int .i64 (n3)) rfl) 14 (.int .i64 ((n1 : Int))) rfl) 15 (.int .u64 ((n2 : Int))) rfl) 16 (.int .i64 (n3)) rfl)
  obtain ⟨w5, hw5⟩ : ∃ W, ((((((w4).setCell ⟨xb, 11, none⟩ (.int .i64 ((n1 : Int)))).setCell ⟨xb, 12, none⟩ (.int .u64 ((n2 : Int)))).setCell ⟨xb, 13, none⟩ (.int .i64 (n3))).setCell ⟨xb, 14, none⟩ (.int .i64 ((n1 : Int)))).setCell ⟨xb, 15, none⟩ (.int .u64 ((n2 : Int)))).setCell ⟨xb, 16, none⟩ (.int .i64 (n3)) = W := ⟨_, rfl⟩
  rw [hw5] at S5 ⊢
  clear hw5
  clear c11 z11 c12 z12 c13 z13 c14 z14 c15 z15 c16 z16
  obtain ⟨d, hd⟩ : ∃ d : Cmd, ({ zCmd with gc := (n1 : Int), ga := (n2 : Int), gi := n3, wc := (n1 : Int), wa := (n2 : Int), wi := n3 } : Cmd) = d := ⟨_, rfl⟩
  rw [hd] at S5 HKP
  clear hd
  go_wp2_with (first
    | (refine wpList_load_row rfl 28 (.tmp 4) rfl cb rfl 28 (cells a) (0, 0) _ S5.out.ck Try.underlying28 rfl info28 ?_; (simp only [Act.put]))
    | (refine wpList_load_row rfl 28 (.tmp 7) rfl xb rfl 28 (cells (d)) (0, 0) _ S5.out.xk Try.underlying28 rfl info28 ?_; (simp only [Act.put]))
    | fail)
  refine (rkeep_calls a d w5 10 (by decide) (by decide)).mono ?_
  rintro e w9 ⟨rfl, hB9⟩
  rw [HKP.out]
  have S9 := Aside0.mk (And.intro (S5.out.rs.belowS hB9) (And.intro (S5.out.kp.trans (Keep1.of_below hB9 g)) (blk_below S5.out.qk hB9)))
  have HNE := Aside0.mk S5.out.ne
  clear hB9
  go_wp2_with (first
    | (refine wpList_store_row rfl 28 (.tmp 6) (.tmp 67) rfl q (cells a2) rfl rfl 28 (cells zCmd) S9.out.2.2 info28 rfl (cells_one _) ?_; (simp only [Act.put]))
    | fail)
  have hfin := setRow_heap w9 q (cells zCmd) (cells a2) 28 (0, 0) S9.out.2.2
  refine bodyPost_ret (results_cell_row rfl _ _ q 28 (cells a2) (0, 0) _ rfl hfin Try.underlying28 rfl info28) rfl ?_
  exact ⟨rfl, S9.out.1.setRowFar HNE.out.2.1 HNE.out.2.2.2.2.2.2.2.1 _, S9.out.2.1.setRowNew HNE.out.2.2.2.2.2.1 _⟩
set_option maxHeartbeats 4000000 in
set_option maxRecDepth 100000 in
theorem rget11 (w0 w : World) (g : Nat) (a : Cmd) (x : Sc) (hx : bytesOk x.1) (h : RS w0 w g x.1 x.2) (a2 : Cmd) (y : Sc) (hg : getC a x 11 = (a2, y)) :
    Calls Try.prog 36 #[.pointer (some ⟨g, 0, none⟩), .agg (cells a), .int .i64 11] w fun e w' => e = .returned (.agg (cells a2)) ∧ RS w0 w' g y.1 y.2 ∧ Keep1 w w' g := by
  obtain ⟨⟨⟨n1, n2, n3⟩, x1⟩, h1⟩ : ∃ z, sideC x = z := ⟨_, rfl⟩
  obtain ⟨rfl, rfl⟩ : ({ a with wc := n1, wa := n2, wi := n3 } : Cmd) = a2 ∧ x1 = y := by
    have hg2 : (({ a with wc := (sideC x).1.1, wa := (sideC x).1.2.1, wi := (sideC x).1.2.2 } : Cmd), (sideC x).2) = (a2, y) := hg
    rw [h1] at hg2; injection hg2 with e1 e2; exact ⟨e1, e2⟩
  clear hg
  obtain ⟨a2, ha2⟩ : ∃ a2, ({ a with wc := n1, wa := n2, wi := n3 } : Cmd) = a2 := ⟨_, rfl⟩
  rw [ha2]
  have HKP : Aside0 (keepF a ({ zCmd with gc := (n1 : Int), ga := (n2 : Int), gi := n3, wc := (n1 : Int), wa := (n2 : Int), wi := n3 } : Cmd) 11 = a2) := ⟨ha2⟩
  have H1 := Aside0.mk h1
  clear h1 ha2
  have HX := Aside0.mk hx
  obtain ⟨cb, hcb⟩ : ∃ n, w.heap.size = n := ⟨_, rfl⟩
  obtain ⟨w1, hw1⟩ : ∃ W, w.alloc (.cells (cells a) 28) = W := ⟨_, rfl⟩
  obtain ⟨q, hq⟩ : ∃ n, w1.heap.size = n := ⟨_, rfl⟩
  obtain ⟨w2, hw2⟩ : ∃ W, w1.alloc (.cells (cells zCmd) 28) = W := ⟨_, rfl⟩
  obtain ⟨xb, hxb⟩ : ∃ n, w2.heap.size = n := ⟨_, rfl⟩
  obtain ⟨w3, hw3⟩ : ∃ W, w2.alloc (.cells (cells zCmd) 28) = W := ⟨_, rfl⟩
  have S3 := Aside0.mk (GS.start h w1 w2 w3 hw1 hw2 hw3 cb q xb hcb hq hxb)
  have HW3 := Aside0.mk hw3
  have HXB := Aside0.mk hxb
  have hw2' : w1.alloc (.cells #[.int .i64 0, .string ⟨#[]⟩, .string ⟨#[]⟩, .int .i64 0, .int .i64 0, .int .i64 0, .int .i64 0, .int .i64 0, .int .i64 0, .int .i64 0, .int .u64 0, .int .i64 0, .int .u64 0, .int .i64 0, .int .i64 0, .int .u64 0, .int .i64 0, .int .i64 0, .int .i64 0, .int .i64 0, .int .u64 0, .int .u64 0] 28) = w2 := hw2
  clear hx h hw2 hw3
  go_enter Try.func36, Try.ntmps36
  go_upto_region 2 with (first
    | (refine wpList_store_row rfl 28 (.tmp 7) (.tmp 9) rfl xb (cells zCmd) rfl rfl 28 (cells zCmd) ?hg info28 rfl (cells_one _) ?_; (case hg => rw [← HXB.out]; exact blk_new _ _); (simp only [Act.put]))
    | fail)
  have hrow : ∀ z : Array Value, (w2.alloc (.cells z 28)).setRow xb (cells zCmd) = w3 := fun z => by rw [← HW3.out, ← HXB.out]; exact World.setRow_alloc_new _ _ _ _
  rw [hrow]
  clear hrow hcb hw1 hq hw2' hxb
  go_wp2_with fail
  refine (RSide_at HX.out S3.out.rs n1 n2 n3 x1 H1.out).mono ?_
  rintro e w4 ⟨rfl, hS, hK⟩
  have S4 := Aside0.mk (S3.out.k1 hS hK)
  clear hS hK S3
  have c11 : w4.cell? ⟨xb, 11, none⟩ = some (.int .i64 0) := blk_cell S4.out.xk 11
  have z11 : w4.frozen? ⟨xb, 11, none⟩ = false := blk_frozen S4.out.xk 11
  have c12 : w4.cell? ⟨xb, 12, none⟩ = some (.int .u64 0) := blk_cell S4.out.xk 12
  have z12 : w4.frozen? ⟨xb, 12, none⟩ = false := blk_frozen S4.out.xk 12
  have c13 : w4.cell? ⟨xb, 13, none⟩ = some (.int .i64 0) := blk_cell S4.out.xk 13
  have z13 : w4.frozen? ⟨xb, 13, none⟩ = false := blk_frozen S4.out.xk 13
  have c14 : w4.cell? ⟨xb, 14, none⟩ = some (.int .i64 0) := blk_cell S4.out.xk 14
  have z14 : w4.frozen? ⟨xb, 14, none⟩ = false := blk_frozen S4.out.xk 14
  have c15 : w4.cell? ⟨xb, 15, none⟩ = some (.int .u64 0) := blk_cell S4.out.xk 15
  have z15 : w4.frozen? ⟨xb, 15, none⟩ = false := blk_frozen S4.out.xk 15
  have c16 : w4.cell? ⟨xb, 16, none⟩ = some (.int .i64 0) := blk_cell S4.out.xk 16
  have z16 : w4.frozen? ⟨xb, 16, none⟩ = false := blk_frozen S4.out.xk 16
  go_upto_region 22 with fail
  have S5 := Aside0.mk (GS.set (d2 := ({ zCmd with gc := (n1 : Int), ga := (n2 : Int), gi := n3, wc := (n1 : Int), wa := (n2 : Int), wi := n3 } : Cmd)) (GS.set (d2 := ({ zCmd with gc := (n1 : Int), ga := (n2 : Int), gi := n3, wc := (n1 : Int), wa := (n2 : Int) } : Cmd)) (GS.set (d2 := ({ zCmd with gc := (n1 : Int), ga := (n2 : Int), gi := n3, wc := (n1 : Int) } : Cmd)) (GS.set (d2 := ({ zCmd with gc := (n1 : Int), ga := (n2 : Int), gi := n3 } : Cmd)) (GS.set (d2 := ({ zCmd with gc := (n1 : Int), ga := (n2 : Int) } : Cmd)) (GS.set (d2 := ({ zCmd with gc := (n1 : Int) } : Cmd)) S4.out 11 (.int .i64 ((n1 : Int))) rfl) 12 (.int .u64 ((n2 : Int))) rfl) 13 (.int .i64 (n3)) rfl) 14 (.int .i64 ((n1 : Int))) rfl) 15 (.int .u64 ((n2 : Int))) rfl) 16 (.int .i64 (n3)) rfl)
  obtain ⟨w5, hw5⟩ : ∃ W, ((((((w4).setCell ⟨xb, 11, none⟩ (.int .i64 ((n1 : Int)))).setCell ⟨xb, 12, none⟩ (.int .u64 ((n2 : Int)))).setCell ⟨xb, 13, none⟩ (.int .i64 (n3))).setCell ⟨xb, 14, none⟩ (.int .i64 ((n1 : Int)))).setCell ⟨xb, 15, none⟩ (.int .u64 ((n2 : Int)))).setCell ⟨xb, 16, none⟩ (.int .i64 (n3)) = W := ⟨_, rfl⟩
  rw [hw5] at S5 ⊢
  clear hw5
  clear c11 z11 c12 z12 c13 z13 c14 z14 c15 z15 c16 z16
  obtain ⟨d, hd⟩ : ∃ d : Cmd, ({ zCmd with gc := (n1 : Int), ga := (n2 : Int), gi := n3, wc := (n1 : Int), wa := (n2 : Int), wi := n3 } : Cmd) = d := ⟨_, rfl⟩
  rw [hd] at S5 HKP
  clear hd
  go_wp2_with (first
    | (refine wpList_load_row rfl 28 (.tmp 4) rfl cb rfl 28 (cells a) (0, 0) _ S5.out.ck Try.underlying28 rfl info28 ?_; (simp only [Act.put]))
    | (refine wpList_load_row rfl 28 (.tmp 7) rfl xb rfl 28 (cells (d)) (0, 0) _ S5.out.xk Try.underlying28 rfl info28 ?_; (simp only [Act.put]))
    | fail)
  refine (rkeep_calls a d w5 11 (by decide) (by decide)).mono ?_
  rintro e w9 ⟨rfl, hB9⟩
  rw [HKP.out]
  have S9 := Aside0.mk (And.intro (S5.out.rs.belowS hB9) (And.intro (S5.out.kp.trans (Keep1.of_below hB9 g)) (blk_below S5.out.qk hB9)))
  have HNE := Aside0.mk S5.out.ne
  clear hB9
  go_wp2_with (first
    | (refine wpList_store_row rfl 28 (.tmp 6) (.tmp 67) rfl q (cells a2) rfl rfl 28 (cells zCmd) S9.out.2.2 info28 rfl (cells_one _) ?_; (simp only [Act.put]))
    | fail)
  have hfin := setRow_heap w9 q (cells zCmd) (cells a2) 28 (0, 0) S9.out.2.2
  refine bodyPost_ret (results_cell_row rfl _ _ q 28 (cells a2) (0, 0) _ rfl hfin Try.underlying28 rfl info28) rfl ?_
  exact ⟨rfl, S9.out.1.setRowFar HNE.out.2.1 HNE.out.2.2.2.2.2.2.2.1 _, S9.out.2.1.setRowNew HNE.out.2.2.2.2.2.1 _⟩
set_option maxHeartbeats 4000000 in
set_option maxRecDepth 100000 in
theorem rget4 (w0 w : World) (g : Nat) (a : Cmd) (x : Sc) (hx : bytesOk x.1) (h : RS w0 w g x.1 x.2) (a2 : Cmd) (y : Sc) (hg : getC a x 4 = (a2, y)) :
    Calls Try.prog 36 #[.pointer (some ⟨g, 0, none⟩), .agg (cells a), .int .i64 4] w fun e w' => e = .returned (.agg (cells a2)) ∧ RS w0 w' g y.1 y.2 ∧ Keep1 w w' g := by
  obtain ⟨⟨n1, x1⟩, h1⟩ : ∃ z, scNum x 1 = z := ⟨_, rfl⟩
  obtain ⟨rfl, rfl⟩ : ({ a with la := n1 } : Cmd) = a2 ∧ x1 = y := by
    have hg2 : (({ a with la := (scNum x 1).1 } : Cmd), (scNum x 1).2) = (a2, y) := hg
    rw [h1] at hg2; injection hg2 with e1 e2; exact ⟨e1, e2⟩
  clear hg
  obtain ⟨a2, ha2⟩ : ∃ a2, ({ a with la := n1 } : Cmd) = a2 := ⟨_, rfl⟩
  rw [ha2]
  have HKP : Aside0 (keepF a ({ zCmd with la := (n1 : Int), wh := (n1 : Int), sl := (n1 : Int), di := (n1 : Int), co := (n1 : Int), si := (n1 : Int), ba := (n1 : Int), qu := (n1 : Int) } : Cmd) 4 = a2) := ⟨ha2⟩
  have H1 := Aside0.mk h1
  clear h1 ha2
  have HX := Aside0.mk hx
  obtain ⟨cb, hcb⟩ : ∃ n, w.heap.size = n := ⟨_, rfl⟩
  obtain ⟨w1, hw1⟩ : ∃ W, w.alloc (.cells (cells a) 28) = W := ⟨_, rfl⟩
  obtain ⟨q, hq⟩ : ∃ n, w1.heap.size = n := ⟨_, rfl⟩
  obtain ⟨w2, hw2⟩ : ∃ W, w1.alloc (.cells (cells zCmd) 28) = W := ⟨_, rfl⟩
  obtain ⟨xb, hxb⟩ : ∃ n, w2.heap.size = n := ⟨_, rfl⟩
  obtain ⟨w3, hw3⟩ : ∃ W, w2.alloc (.cells (cells zCmd) 28) = W := ⟨_, rfl⟩
  have S3 := Aside0.mk (GS.start h w1 w2 w3 hw1 hw2 hw3 cb q xb hcb hq hxb)
  have HW3 := Aside0.mk hw3
  have HXB := Aside0.mk hxb
  have hw2' : w1.alloc (.cells #[.int .i64 0, .string ⟨#[]⟩, .string ⟨#[]⟩, .int .i64 0, .int .i64 0, .int .i64 0, .int .i64 0, .int .i64 0, .int .i64 0, .int .i64 0, .int .u64 0, .int .i64 0, .int .u64 0, .int .i64 0, .int .i64 0, .int .u64 0, .int .i64 0, .int .i64 0, .int .i64 0, .int .i64 0, .int .u64 0, .int .u64 0] 28) = w2 := hw2
  clear hx h hw2 hw3
  go_enter Try.func36, Try.ntmps36
  go_upto_region 2 with (first
    | (refine wpList_store_row rfl 28 (.tmp 7) (.tmp 9) rfl xb (cells zCmd) rfl rfl 28 (cells zCmd) ?hg info28 rfl (cells_one _) ?_; (case hg => rw [← HXB.out]; exact blk_new _ _); (simp only [Act.put]))
    | fail)
  have hrow : ∀ z : Array Value, (w2.alloc (.cells z 28)).setRow xb (cells zCmd) = w3 := fun z => by rw [← HW3.out, ← HXB.out]; exact World.setRow_alloc_new _ _ _ _
  rw [hrow]
  clear hrow hcb hw1 hq hw2' hxb
  go_wp2_with fail
  refine (ROne_at HX.out S3.out.rs n1 x1 H1.out).mono ?_
  rintro e w4 ⟨rfl, hS, hK⟩
  have S4 := Aside0.mk (S3.out.k1 hS hK)
  clear hS hK S3
  go_upto_region 22 with (first
    | (refine wpList_store_row rfl 28 (.tmp 7) (.tmp 21) rfl xb (cells ({ zCmd with la := (n1 : Int), wh := (n1 : Int), sl := (n1 : Int), di := (n1 : Int), co := (n1 : Int), si := (n1 : Int), ba := (n1 : Int), qu := (n1 : Int) } : Cmd)) rfl rfl 28 (cells zCmd) S4.out.xk info28 rfl (cells_one _) ?_; (simp only [Act.put]))
    | fail)
  have S5 := Aside0.mk (S4.out.row ({ zCmd with la := (n1 : Int), wh := (n1 : Int), sl := (n1 : Int), di := (n1 : Int), co := (n1 : Int), si := (n1 : Int), ba := (n1 : Int), qu := (n1 : Int) } : Cmd))
  obtain ⟨w5, hw5⟩ : ∃ W, w4.setRow xb (cells ({ zCmd with la := (n1 : Int), wh := (n1 : Int), sl := (n1 : Int), di := (n1 : Int), co := (n1 : Int), si := (n1 : Int), ba := (n1 : Int), qu := (n1 : Int) } : Cmd)) = W := ⟨_, rfl⟩
  rw [hw5] at S5 ⊢
  clear hw5
  obtain ⟨d, hd⟩ : ∃ d : Cmd, ({ zCmd with la := (n1 : Int), wh := (n1 : Int), sl := (n1 : Int), di := (n1 : Int), co := (n1 : Int), si := (n1 : Int), ba := (n1 : Int), qu := (n1 : Int) } : Cmd) = d := ⟨_, rfl⟩
  rw [hd] at S5 HKP
  clear hd
  go_wp2_with (first
    | (refine wpList_load_row rfl 28 (.tmp 4) rfl cb rfl 28 (cells a) (0, 0) _ S5.out.ck Try.underlying28 rfl info28 ?_; (simp only [Act.put]))
    | (refine wpList_load_row rfl 28 (.tmp 7) rfl xb rfl 28 (cells (d)) (0, 0) _ S5.out.xk Try.underlying28 rfl info28 ?_; (simp only [Act.put]))
    | fail)
  refine (rkeep_calls a d w5 4 (by decide) (by decide)).mono ?_
  rintro e w9 ⟨rfl, hB9⟩
  rw [HKP.out]
  have S9 := Aside0.mk (And.intro (S5.out.rs.belowS hB9) (And.intro (S5.out.kp.trans (Keep1.of_below hB9 g)) (blk_below S5.out.qk hB9)))
  have HNE := Aside0.mk S5.out.ne
  clear hB9
  go_wp2_with (first
    | (refine wpList_store_row rfl 28 (.tmp 6) (.tmp 67) rfl q (cells a2) rfl rfl 28 (cells zCmd) S9.out.2.2 info28 rfl (cells_one _) ?_; (simp only [Act.put]))
    | fail)
  have hfin := setRow_heap w9 q (cells zCmd) (cells a2) 28 (0, 0) S9.out.2.2
  refine bodyPost_ret (results_cell_row rfl _ _ q 28 (cells a2) (0, 0) _ rfl hfin Try.underlying28 rfl info28) rfl ?_
  exact ⟨rfl, S9.out.1.setRowFar HNE.out.2.1 HNE.out.2.2.2.2.2.2.2.1 _, S9.out.2.1.setRowNew HNE.out.2.2.2.2.2.1 _⟩
set_option maxHeartbeats 4000000 in
set_option maxRecDepth 100000 in
theorem rget5 (w0 w : World) (g : Nat) (a : Cmd) (x : Sc) (hx : bytesOk x.1) (h : RS w0 w g x.1 x.2) (a2 : Cmd) (y : Sc) (hg : getC a x 5 = (a2, y)) :
    Calls Try.prog 36 #[.pointer (some ⟨g, 0, none⟩), .agg (cells a), .int .i64 5] w fun e w' => e = .returned (.agg (cells a2)) ∧ RS w0 w' g y.1 y.2 ∧ Keep1 w w' g := by
  obtain ⟨⟨n1, x1⟩, h1⟩ : ∃ z, scNum x 1 = z := ⟨_, rfl⟩
  obtain ⟨rfl, rfl⟩ : ({ a with wh := n1 } : Cmd) = a2 ∧ x1 = y := by
    have hg2 : (({ a with wh := (scNum x 1).1 } : Cmd), (scNum x 1).2) = (a2, y) := hg
    rw [h1] at hg2; injection hg2 with e1 e2; exact ⟨e1, e2⟩
  clear hg
  obtain ⟨a2, ha2⟩ : ∃ a2, ({ a with wh := n1 } : Cmd) = a2 := ⟨_, rfl⟩
  rw [ha2]
  have HKP : Aside0 (keepF a ({ zCmd with la := (n1 : Int), wh := (n1 : Int), sl := (n1 : Int), di := (n1 : Int), co := (n1 : Int), si := (n1 : Int), ba := (n1 : Int), qu := (n1 : Int) } : Cmd) 5 = a2) := ⟨ha2⟩
  have H1 := Aside0.mk h1
  clear h1 ha2
  have HX := Aside0.mk hx
  obtain ⟨cb, hcb⟩ : ∃ n, w.heap.size = n := ⟨_, rfl⟩
  obtain ⟨w1, hw1⟩ : ∃ W, w.alloc (.cells (cells a) 28) = W := ⟨_, rfl⟩
  obtain ⟨q, hq⟩ : ∃ n, w1.heap.size = n := ⟨_, rfl⟩
  obtain ⟨w2, hw2⟩ : ∃ W, w1.alloc (.cells (cells zCmd) 28) = W := ⟨_, rfl⟩
  obtain ⟨xb, hxb⟩ : ∃ n, w2.heap.size = n := ⟨_, rfl⟩
  obtain ⟨w3, hw3⟩ : ∃ W, w2.alloc (.cells (cells zCmd) 28) = W := ⟨_, rfl⟩
  have S3 := Aside0.mk (GS.start h w1 w2 w3 hw1 hw2 hw3 cb q xb hcb hq hxb)
  have HW3 := Aside0.mk hw3
  have HXB := Aside0.mk hxb
  have hw2' : w1.alloc (.cells #[.int .i64 0, .string ⟨#[]⟩, .string ⟨#[]⟩, .int .i64 0, .int .i64 0, .int .i64 0, .int .i64 0, .int .i64 0, .int .i64 0, .int .i64 0, .int .u64 0, .int .i64 0, .int .u64 0, .int .i64 0, .int .i64 0, .int .u64 0, .int .i64 0, .int .i64 0, .int .i64 0, .int .i64 0, .int .u64 0, .int .u64 0] 28) = w2 := hw2
  clear hx h hw2 hw3
  go_enter Try.func36, Try.ntmps36
  go_upto_region 2 with (first
    | (refine wpList_store_row rfl 28 (.tmp 7) (.tmp 9) rfl xb (cells zCmd) rfl rfl 28 (cells zCmd) ?hg info28 rfl (cells_one _) ?_; (case hg => rw [← HXB.out]; exact blk_new _ _); (simp only [Act.put]))
    | fail)
  have hrow : ∀ z : Array Value, (w2.alloc (.cells z 28)).setRow xb (cells zCmd) = w3 := fun z => by rw [← HW3.out, ← HXB.out]; exact World.setRow_alloc_new _ _ _ _
  rw [hrow]
  clear hrow hcb hw1 hq hw2' hxb
  go_wp2_with fail
  refine (ROne_at HX.out S3.out.rs n1 x1 H1.out).mono ?_
  rintro e w4 ⟨rfl, hS, hK⟩
  have S4 := Aside0.mk (S3.out.k1 hS hK)
  clear hS hK S3
  go_upto_region 22 with (first
    | (refine wpList_store_row rfl 28 (.tmp 7) (.tmp 21) rfl xb (cells ({ zCmd with la := (n1 : Int), wh := (n1 : Int), sl := (n1 : Int), di := (n1 : Int), co := (n1 : Int), si := (n1 : Int), ba := (n1 : Int), qu := (n1 : Int) } : Cmd)) rfl rfl 28 (cells zCmd) S4.out.xk info28 rfl (cells_one _) ?_; (simp only [Act.put]))
    | fail)
  have S5 := Aside0.mk (S4.out.row ({ zCmd with la := (n1 : Int), wh := (n1 : Int), sl := (n1 : Int), di := (n1 : Int), co := (n1 : Int), si := (n1 : Int), ba := (n1 : Int), qu := (n1 : Int) } : Cmd))
  obtain ⟨w5, hw5⟩ : ∃ W, w4.setRow xb (cells ({ zCmd with la := (n1 : Int), wh := (n1 : Int), sl := (n1 : Int), di := (n1 : Int), co := (n1 : Int), si := (n1 : Int), ba := (n1 : Int), qu := (n1 : Int) } : Cmd)) = W := ⟨_, rfl⟩
  rw [hw5] at S5 ⊢
  clear hw5
  obtain ⟨d, hd⟩ : ∃ d : Cmd, ({ zCmd with la := (n1 : Int), wh := (n1 : Int), sl := (n1 : Int), di := (n1 : Int), co := (n1 : Int), si := (n1 : Int), ba := (n1 : Int), qu := (n1 : Int) } : Cmd) = d := ⟨_, rfl⟩
  rw [hd] at S5 HKP
  clear hd
  go_wp2_with (first
    | (refine wpList_load_row rfl 28 (.tmp 4) rfl cb rfl 28 (cells a) (0, 0) _ S5.out.ck Try.underlying28 rfl info28 ?_; (simp only [Act.put]))
    | (refine wpList_load_row rfl 28 (.tmp 7) rfl xb rfl 28 (cells (d)) (0, 0) _ S5.out.xk Try.underlying28 rfl info28 ?_; (simp only [Act.put]))
    | fail)
  refine (rkeep_calls a d w5 5 (by decide) (by decide)).mono ?_
  rintro e w9 ⟨rfl, hB9⟩
  rw [HKP.out]
  have S9 := Aside0.mk (And.intro (S5.out.rs.belowS hB9) (And.intro (S5.out.kp.trans (Keep1.of_below hB9 g)) (blk_below S5.out.qk hB9)))
  have HNE := Aside0.mk S5.out.ne
  clear hB9
  go_wp2_with (first
    | (refine wpList_store_row rfl 28 (.tmp 6) (.tmp 67) rfl q (cells a2) rfl rfl 28 (cells zCmd) S9.out.2.2 info28 rfl (cells_one _) ?_; (simp only [Act.put]))
    | fail)
  have hfin := setRow_heap w9 q (cells zCmd) (cells a2) 28 (0, 0) S9.out.2.2
  refine bodyPost_ret (results_cell_row rfl _ _ q 28 (cells a2) (0, 0) _ rfl hfin Try.underlying28 rfl info28) rfl ?_
  exact ⟨rfl, S9.out.1.setRowFar HNE.out.2.1 HNE.out.2.2.2.2.2.2.2.1 _, S9.out.2.1.setRowNew HNE.out.2.2.2.2.2.1 _⟩
set_option maxHeartbeats 4000000 in
set_option maxRecDepth 100000 in
theorem rget6 (w0 w : World) (g : Nat) (a : Cmd) (x : Sc) (hx : bytesOk x.1) (h : RS w0 w g x.1 x.2) (a2 : Cmd) (y : Sc) (hg : getC a x 6 = (a2, y)) :
    Calls Try.prog 36 #[.pointer (some ⟨g, 0, none⟩), .agg (cells a), .int .i64 6] w fun e w' => e = .returned (.agg (cells a2)) ∧ RS w0 w' g y.1 y.2 ∧ Keep1 w w' g := by
  obtain ⟨⟨n1, x1⟩, h1⟩ : ∃ z, scNum x 1 = z := ⟨_, rfl⟩
  obtain ⟨rfl, rfl⟩ : ({ a with sl := n1 } : Cmd) = a2 ∧ x1 = y := by
    have hg2 : (({ a with sl := (scNum x 1).1 } : Cmd), (scNum x 1).2) = (a2, y) := hg
    rw [h1] at hg2; injection hg2 with e1 e2; exact ⟨e1, e2⟩
  clear hg
  obtain ⟨a2, ha2⟩ : ∃ a2, ({ a with sl := n1 } : Cmd) = a2 := ⟨_, rfl⟩
  rw [ha2]
  have HKP : Aside0 (keepF a ({ zCmd with la := (n1 : Int), wh := (n1 : Int), sl := (n1 : Int), di := (n1 : Int), co := (n1 : Int), si := (n1 : Int), ba := (n1 : Int), qu := (n1 : Int) } : Cmd) 6 = a2) := ⟨ha2⟩
  have H1 := Aside0.mk h1
  clear h1 ha2
  have HX := Aside0.mk hx
  obtain ⟨cb, hcb⟩ : ∃ n, w.heap.size = n := ⟨_, rfl⟩
  obtain ⟨w1, hw1⟩ : ∃ W, w.alloc (.cells (cells a) 28) = W := ⟨_, rfl⟩
  obtain ⟨q, hq⟩ : ∃ n, w1.heap.size = n := ⟨_, rfl⟩
  obtain ⟨w2, hw2⟩ : ∃ W, w1.alloc (.cells (cells zCmd) 28) = W := ⟨_, rfl⟩
  obtain ⟨xb, hxb⟩ : ∃ n, w2.heap.size = n := ⟨_, rfl⟩
  obtain ⟨w3, hw3⟩ : ∃ W, w2.alloc (.cells (cells zCmd) 28) = W := ⟨_, rfl⟩
  have S3 := Aside0.mk (GS.start h w1 w2 w3 hw1 hw2 hw3 cb q xb hcb hq hxb)
  have HW3 := Aside0.mk hw3
  have HXB := Aside0.mk hxb
  have hw2' : w1.alloc (.cells #[.int .i64 0, .string ⟨#[]⟩, .string ⟨#[]⟩, .int .i64 0, .int .i64 0, .int .i64 0, .int .i64 0, .int .i64 0, .int .i64 0, .int .i64 0, .int .u64 0, .int .i64 0, .int .u64 0, .int .i64 0, .int .i64 0, .int .u64 0, .int .i64 0, .int .i64 0, .int .i64 0, .int .i64 0, .int .u64 0, .int .u64 0] 28) = w2 := hw2
  clear hx h hw2 hw3
  go_enter Try.func36, Try.ntmps36
  go_upto_region 2 with (first
    | (refine wpList_store_row rfl 28 (.tmp 7) (.tmp 9) rfl xb (cells zCmd) rfl rfl 28 (cells zCmd) ?hg info28 rfl (cells_one _) ?_; (case hg => rw [← HXB.out]; exact blk_new _ _); (simp only [Act.put]))
    | fail)
  have hrow : ∀ z : Array Value, (w2.alloc (.cells z 28)).setRow xb (cells zCmd) = w3 := fun z => by rw [← HW3.out, ← HXB.out]; exact World.setRow_alloc_new _ _ _ _
  rw [hrow]
  clear hrow hcb hw1 hq hw2' hxb
  go_wp2_with fail
  refine (ROne_at HX.out S3.out.rs n1 x1 H1.out).mono ?_
  rintro e w4 ⟨rfl, hS, hK⟩
  have S4 := Aside0.mk (S3.out.k1 hS hK)
  clear hS hK S3
  go_upto_region 22 with (first
    | (refine wpList_store_row rfl 28 (.tmp 7) (.tmp 21) rfl xb (cells ({ zCmd with la := (n1 : Int), wh := (n1 : Int), sl := (n1 : Int), di := (n1 : Int), co := (n1 : Int), si := (n1 : Int), ba := (n1 : Int), qu := (n1 : Int) } : Cmd)) rfl rfl 28 (cells zCmd) S4.out.xk info28 rfl (cells_one _) ?_; (simp only [Act.put]))
    | fail)
  have S5 := Aside0.mk (S4.out.row ({ zCmd with la := (n1 : Int), wh := (n1 : Int), sl := (n1 : Int), di := (n1 : Int), co := (n1 : Int), si := (n1 : Int), ba := (n1 : Int), qu := (n1 : Int) } : Cmd))
  obtain ⟨w5, hw5⟩ : ∃ W, w4.setRow xb (cells ({ zCmd with la := (n1 : Int), wh := (n1 : Int), sl := (n1 : Int), di := (n1 : Int), co := (n1 : Int), si := (n1 : Int), ba := (n1 : Int), qu := (n1 : Int) } : Cmd)) = W := ⟨_, rfl⟩
  rw [hw5] at S5 ⊢
  clear hw5
  obtain ⟨d, hd⟩ : ∃ d : Cmd, ({ zCmd with la := (n1 : Int), wh := (n1 : Int), sl := (n1 : Int), di := (n1 : Int), co := (n1 : Int), si := (n1 : Int), ba := (n1 : Int), qu := (n1 : Int) } : Cmd) = d := ⟨_, rfl⟩
  rw [hd] at S5 HKP
  clear hd
  go_wp2_with (first
    | (refine wpList_load_row rfl 28 (.tmp 4) rfl cb rfl 28 (cells a) (0, 0) _ S5.out.ck Try.underlying28 rfl info28 ?_; (simp only [Act.put]))
    | (refine wpList_load_row rfl 28 (.tmp 7) rfl xb rfl 28 (cells (d)) (0, 0) _ S5.out.xk Try.underlying28 rfl info28 ?_; (simp only [Act.put]))
    | fail)
  refine (rkeep_calls a d w5 6 (by decide) (by decide)).mono ?_
  rintro e w9 ⟨rfl, hB9⟩
  rw [HKP.out]
  have S9 := Aside0.mk (And.intro (S5.out.rs.belowS hB9) (And.intro (S5.out.kp.trans (Keep1.of_below hB9 g)) (blk_below S5.out.qk hB9)))
  have HNE := Aside0.mk S5.out.ne
  clear hB9
  go_wp2_with (first
    | (refine wpList_store_row rfl 28 (.tmp 6) (.tmp 67) rfl q (cells a2) rfl rfl 28 (cells zCmd) S9.out.2.2 info28 rfl (cells_one _) ?_; (simp only [Act.put]))
    | fail)
  have hfin := setRow_heap w9 q (cells zCmd) (cells a2) 28 (0, 0) S9.out.2.2
  refine bodyPost_ret (results_cell_row rfl _ _ q 28 (cells a2) (0, 0) _ rfl hfin Try.underlying28 rfl info28) rfl ?_
  exact ⟨rfl, S9.out.1.setRowFar HNE.out.2.1 HNE.out.2.2.2.2.2.2.2.1 _, S9.out.2.1.setRowNew HNE.out.2.2.2.2.2.1 _⟩
set_option maxHeartbeats 4000000 in
set_option maxRecDepth 100000 in
theorem rget7 (w0 w : World) (g : Nat) (a : Cmd) (x : Sc) (hx : bytesOk x.1) (h : RS w0 w g x.1 x.2) (a2 : Cmd) (y : Sc) (hg : getC a x 7 = (a2, y)) :
    Calls Try.prog 36 #[.pointer (some ⟨g, 0, none⟩), .agg (cells a), .int .i64 7] w fun e w' => e = .returned (.agg (cells a2)) ∧ RS w0 w' g y.1 y.2 ∧ Keep1 w w' g := by
  obtain ⟨⟨n1, x1⟩, h1⟩ : ∃ z, scNum x 1 = z := ⟨_, rfl⟩
  obtain ⟨rfl, rfl⟩ : ({ a with di := n1 } : Cmd) = a2 ∧ x1 = y := by
    have hg2 : (({ a with di := (scNum x 1).1 } : Cmd), (scNum x 1).2) = (a2, y) := hg
    rw [h1] at hg2; injection hg2 with e1 e2; exact ⟨e1, e2⟩
  clear hg
  obtain ⟨a2, ha2⟩ : ∃ a2, ({ a with di := n1 } : Cmd) = a2 := ⟨_, rfl⟩
  rw [ha2]
  have HKP : Aside0 (keepF a ({ zCmd with la := (n1 : Int), wh := (n1 : Int), sl := (n1 : Int), di := (n1 : Int), co := (n1 : Int), si := (n1 : Int), ba := (n1 : Int), qu := (n1 : Int) } : Cmd) 7 = a2) := ⟨ha2⟩
  have H1 := Aside0.mk h1
  clear h1 ha2
  have HX := Aside0.mk hx
  obtain ⟨cb, hcb⟩ : ∃ n, w.heap.size = n := ⟨_, rfl⟩
  obtain ⟨w1, hw1⟩ : ∃ W, w.alloc (.cells (cells a) 28) = W := ⟨_, rfl⟩
  obtain ⟨q, hq⟩ : ∃ n, w1.heap.size = n := ⟨_, rfl⟩
  obtain ⟨w2, hw2⟩ : ∃ W, w1.alloc (.cells (cells zCmd) 28) = W := ⟨_, rfl⟩
  obtain ⟨xb, hxb⟩ : ∃ n, w2.heap.size = n := ⟨_, rfl⟩
  obtain ⟨w3, hw3⟩ : ∃ W, w2.alloc (.cells (cells zCmd) 28) = W := ⟨_, rfl⟩
  have S3 := Aside0.mk (GS.start h w1 w2 w3 hw1 hw2 hw3 cb q xb hcb hq hxb)
  have HW3 := Aside0.mk hw3
  have HXB := Aside0.mk hxb
  have hw2' : w1.alloc (.cells #[.int .i64 0, .string ⟨#[]⟩, .string ⟨#[]⟩, .int .i64 0, .int .i64 0, .int .i64 0, .int .i64 0, .int .i64 0, .int .i64 0, .int .i64 0, .int .u64 0, .int .i64 0, .int .u64 0, .int .i64 0, .int .i64 0, .int .u64 0, .int .i64 0, .int .i64 0, .int .i64 0, .int .i64 0, .int .u64 0, .int .u64 0] 28) = w2 := hw2
  clear hx h hw2 hw3
  go_enter Try.func36, Try.ntmps36
  go_upto_region 2 with (first
    | (refine wpList_store_row rfl 28 (.tmp 7) (.tmp 9) rfl xb (cells zCmd) rfl rfl 28 (cells zCmd) ?hg info28 rfl (cells_one _) ?_; (case hg => rw [← HXB.out]; exact blk_new _ _); (simp only [Act.put]))
    | fail)
  have hrow : ∀ z : Array Value, (w2.alloc (.cells z 28)).setRow xb (cells zCmd) = w3 := fun z => by rw [← HW3.out, ← HXB.out]; exact World.setRow_alloc_new _ _ _ _
  rw [hrow]
  clear hrow hcb hw1 hq hw2' hxb
  go_wp2_with fail
  refine (ROne_at HX.out S3.out.rs n1 x1 H1.out).mono ?_
  rintro e w4 ⟨rfl, hS, hK⟩
  have S4 := Aside0.mk (S3.out.k1 hS hK)
  clear hS hK S3
  go_upto_region 22 with (first
    | (refine wpList_store_row rfl 28 (.tmp 7) (.tmp 21) rfl xb (cells ({ zCmd with la := (n1 : Int), wh := (n1 : Int), sl := (n1 : Int), di := (n1 : Int), co := (n1 : Int), si := (n1 : Int), ba := (n1 : Int), qu := (n1 : Int) } : Cmd)) rfl rfl 28 (cells zCmd) S4.out.xk info28 rfl (cells_one _) ?_; (simp only [Act.put]))
    | fail)
  have S5 := Aside0.mk (S4.out.row ({ zCmd with la := (n1 : Int), wh := (n1 : Int), sl := (n1 : Int), di := (n1 : Int), co := (n1 : Int), si := (n1 : Int), ba := (n1 : Int), qu := (n1 : Int) } : Cmd))
  obtain ⟨w5, hw5⟩ : ∃ W, w4.setRow xb (cells ({ zCmd with la := (n1 : Int), wh := (n1 : Int), sl := (n1 : Int), di := (n1 : Int), co := (n1 : Int), si := (n1 : Int), ba := (n1 : Int), qu := (n1 : Int) } : Cmd)) = W := ⟨_, rfl⟩
  rw [hw5] at S5 ⊢
  clear hw5
  obtain ⟨d, hd⟩ : ∃ d : Cmd, ({ zCmd with la := (n1 : Int), wh := (n1 : Int), sl := (n1 : Int), di := (n1 : Int), co := (n1 : Int), si := (n1 : Int), ba := (n1 : Int), qu := (n1 : Int) } : Cmd) = d := ⟨_, rfl⟩
  rw [hd] at S5 HKP
  clear hd
  go_wp2_with (first
    | (refine wpList_load_row rfl 28 (.tmp 4) rfl cb rfl 28 (cells a) (0, 0) _ S5.out.ck Try.underlying28 rfl info28 ?_; (simp only [Act.put]))
    | (refine wpList_load_row rfl 28 (.tmp 7) rfl xb rfl 28 (cells (d)) (0, 0) _ S5.out.xk Try.underlying28 rfl info28 ?_; (simp only [Act.put]))
    | fail)
  refine (rkeep_calls a d w5 7 (by decide) (by decide)).mono ?_
  rintro e w9 ⟨rfl, hB9⟩
  rw [HKP.out]
  have S9 := Aside0.mk (And.intro (S5.out.rs.belowS hB9) (And.intro (S5.out.kp.trans (Keep1.of_below hB9 g)) (blk_below S5.out.qk hB9)))
  have HNE := Aside0.mk S5.out.ne
  clear hB9
  go_wp2_with (first
    | (refine wpList_store_row rfl 28 (.tmp 6) (.tmp 67) rfl q (cells a2) rfl rfl 28 (cells zCmd) S9.out.2.2 info28 rfl (cells_one _) ?_; (simp only [Act.put]))
    | fail)
  have hfin := setRow_heap w9 q (cells zCmd) (cells a2) 28 (0, 0) S9.out.2.2
  refine bodyPost_ret (results_cell_row rfl _ _ q 28 (cells a2) (0, 0) _ rfl hfin Try.underlying28 rfl info28) rfl ?_
  exact ⟨rfl, S9.out.1.setRowFar HNE.out.2.1 HNE.out.2.2.2.2.2.2.2.1 _, S9.out.2.1.setRowNew HNE.out.2.2.2.2.2.1 _⟩
set_option maxHeartbeats 4000000 in
set_option maxRecDepth 100000 in
theorem rget8 (w0 w : World) (g : Nat) (a : Cmd) (x : Sc) (hx : bytesOk x.1) (h : RS w0 w g x.1 x.2) (a2 : Cmd) (y : Sc) (hg : getC a x 8 = (a2, y)) :
    Calls Try.prog 36 #[.pointer (some ⟨g, 0, none⟩), .agg (cells a), .int .i64 8] w fun e w' => e = .returned (.agg (cells a2)) ∧ RS w0 w' g y.1 y.2 ∧ Keep1 w w' g := by
  obtain ⟨⟨n1, x1⟩, h1⟩ : ∃ z, scNum x 1 = z := ⟨_, rfl⟩
  obtain ⟨rfl, rfl⟩ : ({ a with co := n1 } : Cmd) = a2 ∧ x1 = y := by
    have hg2 : (({ a with co := (scNum x 1).1 } : Cmd), (scNum x 1).2) = (a2, y) := hg
    rw [h1] at hg2; injection hg2 with e1 e2; exact ⟨e1, e2⟩
  clear hg
  obtain ⟨a2, ha2⟩ : ∃ a2, ({ a with co := n1 } : Cmd) = a2 := ⟨_, rfl⟩
  rw [ha2]
  have HKP : Aside0 (keepF a ({ zCmd with la := (n1 : Int), wh := (n1 : Int), sl := (n1 : Int), di := (n1 : Int), co := (n1 : Int), si := (n1 : Int), ba := (n1 : Int), qu := (n1 : Int) } : Cmd) 8 = a2) := ⟨ha2⟩
  have H1 := Aside0.mk h1
  clear h1 ha2
  have HX := Aside0.mk hx
  obtain ⟨cb, hcb⟩ : ∃ n, w.heap.size = n := ⟨_, rfl⟩
  obtain ⟨w1, hw1⟩ : ∃ W, w.alloc (.cells (cells a) 28) = W := ⟨_, rfl⟩
  obtain ⟨q, hq⟩ : ∃ n, w1.heap.size = n := ⟨_, rfl⟩
  obtain ⟨w2, hw2⟩ : ∃ W, w1.alloc (.cells (cells zCmd) 28) = W := ⟨_, rfl⟩
  obtain ⟨xb, hxb⟩ : ∃ n, w2.heap.size = n := ⟨_, rfl⟩
  obtain ⟨w3, hw3⟩ : ∃ W, w2.alloc (.cells (cells zCmd) 28) = W := ⟨_, rfl⟩
  have S3 := Aside0.mk (GS.start h w1 w2 w3 hw1 hw2 hw3 cb q xb hcb hq hxb)
  have HW3 := Aside0.mk hw3
  have HXB := Aside0.mk hxb
  have hw2' : w1.alloc (.cells #[.int .i64 0, .string ⟨#[]⟩, .string ⟨#[]⟩, .int .i64 0, .int .i64 0, .int .i64 0, .int .i64 0, .int .i64 0, .int .i64 0, .int .i64 0, .int .u64 0, .int .i64 0, .int .u64 0, .int .i64 0, .int .i64 0, .int .u64 0, .int .i64 0, .int .i64 0, .int .i64 0, .int .i64 0, .int .u64 0, .int .u64 0] 28) = w2 := hw2
  clear hx h hw2 hw3
  go_enter Try.func36, Try.ntmps36
  go_upto_region 2 with (first
    | (refine wpList_store_row rfl 28 (.tmp 7) (.tmp 9) rfl xb (cells zCmd) rfl rfl 28 (cells zCmd) ?hg info28 rfl (cells_one _) ?_; (case hg => rw [← HXB.out]; exact blk_new _ _); (simp only [Act.put]))
    | fail)
  have hrow : ∀ z : Array Value, (w2.alloc (.cells z 28)).setRow xb (cells zCmd) = w3 := fun z => by rw [← HW3.out, ← HXB.out]; exact World.setRow_alloc_new _ _ _ _
  rw [hrow]
  clear hrow hcb hw1 hq hw2' hxb
  go_wp2_with fail
  refine (ROne_at HX.out S3.out.rs n1 x1 H1.out).mono ?_
  rintro e w4 ⟨rfl, hS, hK⟩
  have S4 := Aside0.mk (S3.out.k1 hS hK)
  clear hS hK S3
  go_upto_region 22 with (first
    | (refine wpList_store_row rfl 28 (.tmp 7) (.tmp 21) rfl xb (cells ({ zCmd with la := (n1 : Int), wh := (n1 : Int), sl := (n1 : Int), di := (n1 : Int), co := (n1 : Int), si := (n1 : Int), ba := (n1 : Int), qu := (n1 : Int) } : Cmd)) rfl rfl 28 (cells zCmd) S4.out.xk info28 rfl (cells_one _) ?_; (simp only [Act.put]))
    | fail)
  have S5 := Aside0.mk (S4.out.row ({ zCmd with la := (n1 : Int), wh := (n1 : Int), sl := (n1 : Int), di := (n1 : Int), co := (n1 : Int), si := (n1 : Int), ba := (n1 : Int), qu := (n1 : Int) } : Cmd))
  obtain ⟨w5, hw5⟩ : ∃ W, w4.setRow xb (cells ({ zCmd with la := (n1 : Int), wh := (n1 : Int), sl := (n1 : Int), di := (n1 : Int), co := (n1 : Int), si := (n1 : Int), ba := (n1 : Int), qu := (n1 : Int) } : Cmd)) = W := ⟨_, rfl⟩
  rw [hw5] at S5 ⊢
  clear hw5
  obtain ⟨d, hd⟩ : ∃ d : Cmd, ({ zCmd with la := (n1 : Int), wh := (n1 : Int), sl := (n1 : Int), di := (n1 : Int), co := (n1 : Int), si := (n1 : Int), ba := (n1 : Int), qu := (n1 : Int) } : Cmd) = d := ⟨_, rfl⟩
  rw [hd] at S5 HKP
  clear hd
  go_wp2_with (first
    | (refine wpList_load_row rfl 28 (.tmp 4) rfl cb rfl 28 (cells a) (0, 0) _ S5.out.ck Try.underlying28 rfl info28 ?_; (simp only [Act.put]))
    | (refine wpList_load_row rfl 28 (.tmp 7) rfl xb rfl 28 (cells (d)) (0, 0) _ S5.out.xk Try.underlying28 rfl info28 ?_; (simp only [Act.put]))
    | fail)
  refine (rkeep_calls a d w5 8 (by decide) (by decide)).mono ?_
  rintro e w9 ⟨rfl, hB9⟩
  rw [HKP.out]
  have S9 := Aside0.mk (And.intro (S5.out.rs.belowS hB9) (And.intro (S5.out.kp.trans (Keep1.of_below hB9 g)) (blk_below S5.out.qk hB9)))
  have HNE := Aside0.mk S5.out.ne
  clear hB9
  go_wp2_with (first
    | (refine wpList_store_row rfl 28 (.tmp 6) (.tmp 67) rfl q (cells a2) rfl rfl 28 (cells zCmd) S9.out.2.2 info28 rfl (cells_one _) ?_; (simp only [Act.put]))
    | fail)
  have hfin := setRow_heap w9 q (cells zCmd) (cells a2) 28 (0, 0) S9.out.2.2
  refine bodyPost_ret (results_cell_row rfl _ _ q 28 (cells a2) (0, 0) _ rfl hfin Try.underlying28 rfl info28) rfl ?_
  exact ⟨rfl, S9.out.1.setRowFar HNE.out.2.1 HNE.out.2.2.2.2.2.2.2.1 _, S9.out.2.1.setRowNew HNE.out.2.2.2.2.2.1 _⟩
set_option maxHeartbeats 4000000 in
set_option maxRecDepth 100000 in
theorem rget12 (w0 w : World) (g : Nat) (a : Cmd) (x : Sc) (hx : bytesOk x.1) (h : RS w0 w g x.1 x.2) (a2 : Cmd) (y : Sc) (hg : getC a x 12 = (a2, y)) :
    Calls Try.prog 36 #[.pointer (some ⟨g, 0, none⟩), .agg (cells a), .int .i64 12] w fun e w' => e = .returned (.agg (cells a2)) ∧ RS w0 w' g y.1 y.2 ∧ Keep1 w w' g := by
  obtain ⟨⟨n1, x1⟩, h1⟩ : ∃ z, scNum x 1 = z := ⟨_, rfl⟩
  obtain ⟨rfl, rfl⟩ : ({ a with si := n1 } : Cmd) = a2 ∧ x1 = y := by
    have hg2 : (({ a with si := (scNum x 1).1 } : Cmd), (scNum x 1).2) = (a2, y) := hg
    rw [h1] at hg2; injection hg2 with e1 e2; exact ⟨e1, e2⟩
  clear hg
  obtain ⟨a2, ha2⟩ : ∃ a2, ({ a with si := n1 } : Cmd) = a2 := ⟨_, rfl⟩
  rw [ha2]
  have HKP : Aside0 (keepF a ({ zCmd with la := (n1 : Int), wh := (n1 : Int), sl := (n1 : Int), di := (n1 : Int), co := (n1 : Int), si := (n1 : Int), ba := (n1 : Int), qu := (n1 : Int) } : Cmd) 12 = a2) := ⟨ha2⟩
  have H1 := Aside0.mk h1
  clear h1 ha2
  have HX := Aside0.mk hx
  obtain ⟨cb, hcb⟩ : ∃ n, w.heap.size = n := ⟨_, rfl⟩
  obtain ⟨w1, hw1⟩ : ∃ W, w.alloc (.cells (cells a) 28) = W := ⟨_, rfl⟩
  obtain ⟨q, hq⟩ : ∃ n, w1.heap.size = n := ⟨_, rfl⟩
  obtain ⟨w2, hw2⟩ : ∃ W, w1.alloc (.cells (cells zCmd) 28) = W := ⟨_, rfl⟩
  obtain ⟨xb, hxb⟩ : ∃ n, w2.heap.size = n := ⟨_, rfl⟩
  obtain ⟨w3, hw3⟩ : ∃ W, w2.alloc (.cells (cells zCmd) 28) = W := ⟨_, rfl⟩
  have S3 := Aside0.mk (GS.start h w1 w2 w3 hw1 hw2 hw3 cb q xb hcb hq hxb)
  have HW3 := Aside0.mk hw3
  have HXB := Aside0.mk hxb
  have hw2' : w1.alloc (.cells #[.int .i64 0, .string ⟨#[]⟩, .string ⟨#[]⟩, .int .i64 0, .int .i64 0, .int .i64 0, .int .i64 0, .int .i64 0, .int .i64 0, .int .i64 0, .int .u64 0, .int .i64 0, .int .u64 0, .int .i64 0, .int .i64 0, .int .u64 0, .int .i64 0, .int .i64 0, .int .i64 0, .int .i64 0, .int .u64 0, .int .u64 0] 28) = w2 := hw2
  clear hx h hw2 hw3
  go_enter Try.func36, Try.ntmps36
  go_upto_region 2 with (first
    | (refine wpList_store_row rfl 28 (.tmp 7) (.tmp 9) rfl xb (cells zCmd) rfl rfl 28 (cells zCmd) ?hg info28 rfl (cells_one _) ?_; (case hg => rw [← HXB.out]; exact blk_new _ _); (simp only [Act.put]))
    | fail)
  have hrow : ∀ z : Array Value, (w2.alloc (.cells z 28)).setRow xb (cells zCmd) = w3 := fun z => by rw [← HW3.out, ← HXB.out]; exact World.setRow_alloc_new _ _ _ _
  rw [hrow]
  clear hrow hcb hw1 hq hw2' hxb
  go_wp2_with fail
  refine (ROne_at HX.out S3.out.rs n1 x1 H1.out).mono ?_
  rintro e w4 ⟨rfl, hS, hK⟩
  have S4 := Aside0.mk (S3.out.k1 hS hK)
  clear hS hK S3
  go_upto_region 22 with (first
    | (refine wpList_store_row rfl 28 (.tmp 7) (.tmp 21) rfl xb (cells ({ zCmd with la := (n1 : Int), wh := (n1 : Int), sl := (n1 : Int), di := (n1 : Int), co := (n1 : Int), si := (n1 : Int), ba := (n1 : Int), qu := (n1 : Int) } : Cmd)) rfl rfl 28 (cells zCmd) S4.out.xk info28 rfl (cells_one _) ?_; (simp only [Act.put]))
    | fail)
  have S5 := Aside0.mk (S4.out.row ({ zCmd with la := (n1 : Int), wh := (n1 : Int), sl := (n1 : Int), di := (n1 : Int), co := (n1 : Int), si := (n1 : Int), ba := (n1 : Int), qu := (n1 : Int) } : Cmd))
  obtain ⟨w5, hw5⟩ : ∃ W, w4.setRow xb (cells ({ zCmd with la := (n1 : Int), wh := (n1 : Int), sl := (n1 : Int), di := (n1 : Int), co := (n1 : Int), si := (n1 : Int), ba := (n1 : Int), qu := (n1 : Int) } : Cmd)) = W := ⟨_, rfl⟩
  rw [hw5] at S5 ⊢
  clear hw5
  obtain ⟨d, hd⟩ : ∃ d : Cmd, ({ zCmd with la := (n1 : Int), wh := (n1 : Int), sl := (n1 : Int), di := (n1 : Int), co := (n1 : Int), si := (n1 : Int), ba := (n1 : Int), qu := (n1 : Int) } : Cmd) = d := ⟨_, rfl⟩
  rw [hd] at S5 HKP
  clear hd
  go_wp2_with (first
    | (refine wpList_load_row rfl 28 (.tmp 4) rfl cb rfl 28 (cells a) (0, 0) _ S5.out.ck Try.underlying28 rfl info28 ?_; (simp only [Act.put]))
    | (refine wpList_load_row rfl 28 (.tmp 7) rfl xb rfl 28 (cells (d)) (0, 0) _ S5.out.xk Try.underlying28 rfl info28 ?_; (simp only [Act.put]))
    | fail)
  refine (rkeep_calls a d w5 12 (by decide) (by decide)).mono ?_
  rintro e w9 ⟨rfl, hB9⟩
  rw [HKP.out]
  have S9 := Aside0.mk (And.intro (S5.out.rs.belowS hB9) (And.intro (S5.out.kp.trans (Keep1.of_below hB9 g)) (blk_below S5.out.qk hB9)))
  have HNE := Aside0.mk S5.out.ne
  clear hB9
  go_wp2_with (first
    | (refine wpList_store_row rfl 28 (.tmp 6) (.tmp 67) rfl q (cells a2) rfl rfl 28 (cells zCmd) S9.out.2.2 info28 rfl (cells_one _) ?_; (simp only [Act.put]))
    | fail)
  have hfin := setRow_heap w9 q (cells zCmd) (cells a2) 28 (0, 0) S9.out.2.2
  refine bodyPost_ret (results_cell_row rfl _ _ q 28 (cells a2) (0, 0) _ rfl hfin Try.underlying28 rfl info28) rfl ?_
  exact ⟨rfl, S9.out.1.setRowFar HNE.out.2.1 HNE.out.2.2.2.2.2.2.2.1 _, S9.out.2.1.setRowNew HNE.out.2.2.2.2.2.1 _⟩
set_option maxHeartbeats 4000000 in
set_option maxRecDepth 100000 in
theorem rget13 (w0 w : World) (g : Nat) (a : Cmd) (x : Sc) (hx : bytesOk x.1) (h : RS w0 w g x.1 x.2) (a2 : Cmd) (y : Sc) (hg : getC a x 13 = (a2, y)) :
    Calls Try.prog 36 #[.pointer (some ⟨g, 0, none⟩), .agg (cells a), .int .i64 13] w fun e w' => e = .returned (.agg (cells a2)) ∧ RS w0 w' g y.1 y.2 ∧ Keep1 w w' g := by
  obtain ⟨⟨n1, x1⟩, h1⟩ : ∃ z, scNum x 1 = z := ⟨_, rfl⟩
  obtain ⟨rfl, rfl⟩ : ({ a with ba := n1 } : Cmd) = a2 ∧ x1 = y := by
    have hg2 : (({ a with ba := (scNum x 1).1 } : Cmd), (scNum x 1).2) = (a2, y) := hg
    rw [h1] at hg2; injection hg2 with e1 e2; exact ⟨e1, e2⟩
  clear hg
  obtain ⟨a2, ha2⟩ : ∃ a2, ({ a with ba := n1 } : Cmd) = a2 := ⟨_, rfl⟩
  rw [ha2]
  have HKP : Aside0 (keepF a ({ zCmd with la := (n1 : Int), wh := (n1 : Int), sl := (n1 : Int), di := (n1 : Int), co := (n1 : Int), si := (n1 : Int), ba := (n1 : Int), qu := (n1 : Int) } : Cmd) 13 = a2) := ⟨ha2⟩
  have H1 := Aside0.mk h1
  clear h1 ha2
  have HX := Aside0.mk hx
  obtain ⟨cb, hcb⟩ : ∃ n, w.heap.size = n := ⟨_, rfl⟩
  obtain ⟨w1, hw1⟩ : ∃ W, w.alloc (.cells (cells a) 28) = W := ⟨_, rfl⟩
  obtain ⟨q, hq⟩ : ∃ n, w1.heap.size = n := ⟨_, rfl⟩
  obtain ⟨w2, hw2⟩ : ∃ W, w1.alloc (.cells (cells zCmd) 28) = W := ⟨_, rfl⟩
  obtain ⟨xb, hxb⟩ : ∃ n, w2.heap.size = n := ⟨_, rfl⟩
  obtain ⟨w3, hw3⟩ : ∃ W, w2.alloc (.cells (cells zCmd) 28) = W := ⟨_, rfl⟩
  have S3 := Aside0.mk (GS.start h w1 w2 w3 hw1 hw2 hw3 cb q xb hcb hq hxb)
  have HW3 := Aside0.mk hw3
  have HXB := Aside0.mk hxb
  have hw2' : w1.alloc (.cells #[.int .i64 0, .string ⟨#[]⟩, .string ⟨#[]⟩, .int .i64 0, .int .i64 0, .int .i64 0, .int .i64 0, .int .i64 0, .int .i64 0, .int .i64 0, .int .u64 0, .int .i64 0, .int .u64 0, .int .i64 0, .int .i64 0, .int .u64 0, .int .i64 0, .int .i64 0, .int .i64 0, .int .i64 0, .int .u64 0, .int .u64 0] 28) = w2 := hw2
  clear hx h hw2 hw3
  go_enter Try.func36, Try.ntmps36
  go_upto_region 2 with (first
    | (refine wpList_store_row rfl 28 (.tmp 7) (.tmp 9) rfl xb (cells zCmd) rfl rfl 28 (cells zCmd) ?hg info28 rfl (cells_one _) ?_; (case hg => rw [← HXB.out]; exact blk_new _ _); (simp only [Act.put]))
    | fail)
  have hrow : ∀ z : Array Value, (w2.alloc (.cells z 28)).setRow xb (cells zCmd) = w3 := fun z => by rw [← HW3.out, ← HXB.out]; exact World.setRow_alloc_new _ _ _ _
  rw [hrow]
  clear hrow hcb hw1 hq hw2' hxb
  go_wp2_with fail
  refine (ROne_at HX.out S3.out.rs n1 x1 H1.out).mono ?_
  rintro e w4 ⟨rfl, hS, hK⟩
  have S4 := Aside0.mk (S3.out.k1 hS hK)
  clear hS hK S3
  go_upto_region 22 with (first
    | (refine wpList_store_row rfl 28 (.tmp 7) (.tmp 21) rfl xb (cells ({ zCmd with la := (n1 : Int), wh := (n1 : Int), sl := (n1 : Int), di := (n1 : Int), co := (n1 : Int), si := (n1 : Int), ba := (n1 : Int), qu := (n1 : Int) } : Cmd)) rfl rfl 28 (cells zCmd) S4.out.xk info28 rfl (cells_one _) ?_; (simp only [Act.put]))
    | fail)
  have S5 := Aside0.mk (S4.out.row ({ zCmd with la := (n1 : Int), wh := (n1 : Int), sl := (n1 : Int), di := (n1 : Int), co := (n1 : Int), si := (n1 : Int), ba := (n1 : Int), qu := (n1 : Int) } : Cmd))
  obtain ⟨w5, hw5⟩ : ∃ W, w4.setRow xb (cells ({ zCmd with la := (n1 : Int), wh := (n1 : Int), sl := (n1 : Int), di := (n1 : Int), co := (n1 : Int), si := (n1 : Int), ba := (n1 : Int), qu := (n1 : Int) } : Cmd)) = W := ⟨_, rfl⟩
  rw [hw5] at S5 ⊢
  clear hw5
  obtain ⟨d, hd⟩ : ∃ d : Cmd, ({ zCmd with la := (n1 : Int), wh := (n1 : Int), sl := (n1 : Int), di := (n1 : Int), co := (n1 : Int), si := (n1 : Int), ba := (n1 : Int), qu := (n1 : Int) } : Cmd) = d := ⟨_, rfl⟩
  rw [hd] at S5 HKP
  clear hd
  go_wp2_with (first
    | (refine wpList_load_row rfl 28 (.tmp 4) rfl cb rfl 28 (cells a) (0, 0) _ S5.out.ck Try.underlying28 rfl info28 ?_; (simp only [Act.put]))
    | (refine wpList_load_row rfl 28 (.tmp 7) rfl xb rfl 28 (cells (d)) (0, 0) _ S5.out.xk Try.underlying28 rfl info28 ?_; (simp only [Act.put]))
    | fail)
  refine (rkeep_calls a d w5 13 (by decide) (by decide)).mono ?_
  rintro e w9 ⟨rfl, hB9⟩
  rw [HKP.out]
  have S9 := Aside0.mk (And.intro (S5.out.rs.belowS hB9) (And.intro (S5.out.kp.trans (Keep1.of_below hB9 g)) (blk_below S5.out.qk hB9)))
  have HNE := Aside0.mk S5.out.ne
  clear hB9
  go_wp2_with (first
    | (refine wpList_store_row rfl 28 (.tmp 6) (.tmp 67) rfl q (cells a2) rfl rfl 28 (cells zCmd) S9.out.2.2 info28 rfl (cells_one _) ?_; (simp only [Act.put]))
    | fail)
  have hfin := setRow_heap w9 q (cells zCmd) (cells a2) 28 (0, 0) S9.out.2.2
  refine bodyPost_ret (results_cell_row rfl _ _ q 28 (cells a2) (0, 0) _ rfl hfin Try.underlying28 rfl info28) rfl ?_
  exact ⟨rfl, S9.out.1.setRowFar HNE.out.2.1 HNE.out.2.2.2.2.2.2.2.1 _, S9.out.2.1.setRowNew HNE.out.2.2.2.2.2.1 _⟩
set_option maxHeartbeats 4000000 in
set_option maxRecDepth 100000 in
theorem rget14 (w0 w : World) (g : Nat) (a : Cmd) (x : Sc) (hx : bytesOk x.1) (h : RS w0 w g x.1 x.2) (a2 : Cmd) (y : Sc) (hg : getC a x 14 = (a2, y)) :
    Calls Try.prog 36 #[.pointer (some ⟨g, 0, none⟩), .agg (cells a), .int .i64 14] w fun e w' => e = .returned (.agg (cells a2)) ∧ RS w0 w' g y.1 y.2 ∧ Keep1 w w' g := by
  obtain ⟨⟨n1, x1⟩, h1⟩ : ∃ z, scNum x 1 = z := ⟨_, rfl⟩
  obtain ⟨rfl, rfl⟩ : ({ a with qu := n1 } : Cmd) = a2 ∧ x1 = y := by
    have hg2 : (({ a with qu := (scNum x 1).1 } : Cmd), (scNum x 1).2) = (a2, y) := hg
    rw [h1] at hg2; injection hg2 with e1 e2; exact ⟨e1, e2⟩
  clear hg
  obtain ⟨a2, ha2⟩ : ∃ a2, ({ a with qu := n1 } : Cmd) = a2 := ⟨_, rfl⟩
  rw [ha2]
  have HKP : Aside0 (keepF a ({ zCmd with la := (n1 : Int), wh := (n1 : Int), sl := (n1 : Int), di := (n1 : Int), co := (n1 : Int), si := (n1 : Int), ba := (n1 : Int), qu := (n1 : Int) } : Cmd) 14 = a2) := ⟨ha2⟩
  have H1 := Aside0.mk h1
  clear h1 ha2
  have HX := Aside0.mk hx
  obtain ⟨cb, hcb⟩ : ∃ n, w.heap.size = n := ⟨_, rfl⟩
  obtain ⟨w1, hw1⟩ : ∃ W, w.alloc (.cells (cells a) 28) = W := ⟨_, rfl⟩
  obtain ⟨q, hq⟩ : ∃ n, w1.heap.size = n := ⟨_, rfl⟩
  obtain ⟨w2, hw2⟩ : ∃ W, w1.alloc (.cells (cells zCmd) 28) = W := ⟨_, rfl⟩
  obtain ⟨xb, hxb⟩ : ∃ n, w2.heap.size = n := ⟨_, rfl⟩
  obtain ⟨w3, hw3⟩ : ∃ W, w2.alloc (.cells (cells zCmd) 28) = W := ⟨_, rfl⟩
  have S3 := Aside0.mk (GS.start h w1 w2 w3 hw1 hw2 hw3 cb q xb hcb hq hxb)
  have HW3 := Aside0.mk hw3
  have HXB := Aside0.mk hxb
  have hw2' : w1.alloc (.cells #[.int .i64 0, .string ⟨#[]⟩, .string ⟨#[]⟩, .int .i64 0, .int .i64 0, .int .i64 0, .int .i64 0, .int .i64 0, .int .i64 0, .int .i64 0, .int .u64 0, .int .i64 0, .int .u64 0, .int .i64 0, .int .i64 0, .int .u64 0, .int .i64 0, .int .i64 0, .int .i64 0, .int .i64 0, .int .u64 0, .int .u64 0] 28) = w2 := hw2
  clear hx h hw2 hw3
  go_enter Try.func36, Try.ntmps36
  go_upto_region 2 with (first
    | (refine wpList_store_row rfl 28 (.tmp 7) (.tmp 9) rfl xb (cells zCmd) rfl rfl 28 (cells zCmd) ?hg info28 rfl (cells_one _) ?_; (case hg => rw [← HXB.out]; exact blk_new _ _); (simp only [Act.put]))
    | fail)
  have hrow : ∀ z : Array Value, (w2.alloc (.cells z 28)).setRow xb (cells zCmd) = w3 := fun z => by rw [← HW3.out, ← HXB.out]; exact World.setRow_alloc_new _ _ _ _
  rw [hrow]
  clear hrow hcb hw1 hq hw2' hxb
  go_wp2_with fail
  refine (ROne_at HX.out S3.out.rs n1 x1 H1.out).mono ?_
  rintro e w4 ⟨rfl, hS, hK⟩
  have S4 := Aside0.mk (S3.out.k1 hS hK)
  clear hS hK S3
  go_upto_region 22 with (first
    | (refine wpList_store_row rfl 28 (.tmp 7) (.tmp 21) rfl xb (cells ({ zCmd with la := (n1 : Int), wh := (n1 : Int), sl := (n1 : Int), di := (n1 : Int), co := (n1 : Int), si := (n1 : Int), ba := (n1 : Int), qu := (n1 : Int) } : Cmd)) rfl rfl 28 (cells zCmd) S4.out.xk info28 rfl (cells_one _) ?_; (simp only [Act.put]))
    | fail)
  have S5 := Aside0.mk (S4.out.row ({ zCmd with la := (n1 : Int), wh := (n1 : Int), sl := (n1 : Int), di := (n1 : Int), co := (n1 : Int), si := (n1 : Int), ba := (n1 : Int), qu := (n1 : Int) } : Cmd))
  obtain ⟨w5, hw5⟩ : ∃ W, w4.setRow xb (cells ({ zCmd with la := (n1 : Int), wh := (n1 : Int), sl := (n1 : Int), di := (n1 : Int), co := (n1 : Int), si := (n1 : Int), ba := (n1 : Int), qu := (n1 : Int) } : Cmd)) = W := ⟨_, rfl⟩
  rw [hw5] at S5 ⊢
  clear hw5
  obtain ⟨d, hd⟩ : ∃ d : Cmd, ({ zCmd with la := (n1 : Int), wh := (n1 : Int), sl := (n1 : Int), di := (n1 : Int), co := (n1 : Int), si := (n1 : Int), ba := (n1 : Int), qu := (n1 : Int) } : Cmd) = d := ⟨_, rfl⟩
  rw [hd] at S5 HKP
  clear hd
  go_wp2_with (first
    | (refine wpList_load_row rfl 28 (.tmp 4) rfl cb rfl 28 (cells a) (0, 0) _ S5.out.ck Try.underlying28 rfl info28 ?_; (simp only [Act.put]))
    | (refine wpList_load_row rfl 28 (.tmp 7) rfl xb rfl 28 (cells (d)) (0, 0) _ S5.out.xk Try.underlying28 rfl info28 ?_; (simp only [Act.put]))
    | fail)
  refine (rkeep_calls a d w5 14 (by decide) (by decide)).mono ?_
  rintro e w9 ⟨rfl, hB9⟩
  rw [HKP.out]
  have S9 := Aside0.mk (And.intro (S5.out.rs.belowS hB9) (And.intro (S5.out.kp.trans (Keep1.of_below hB9 g)) (blk_below S5.out.qk hB9)))
  have HNE := Aside0.mk S5.out.ne
  clear hB9
  go_wp2_with (first
    | (refine wpList_store_row rfl 28 (.tmp 6) (.tmp 67) rfl q (cells a2) rfl rfl 28 (cells zCmd) S9.out.2.2 info28 rfl (cells_one _) ?_; (simp only [Act.put]))
    | fail)
  have hfin := setRow_heap w9 q (cells zCmd) (cells a2) 28 (0, 0) S9.out.2.2
  refine bodyPost_ret (results_cell_row rfl _ _ q 28 (cells a2) (0, 0) _ rfl hfin Try.underlying28 rfl info28) rfl ?_
  exact ⟨rfl, S9.out.1.setRowFar HNE.out.2.1 HNE.out.2.2.2.2.2.2.2.1 _, S9.out.2.1.setRowNew HNE.out.2.2.2.2.2.1 _⟩
theorem rget_calls (f : Nat) (h1 : 1 ≤ f) (h2 : f ≤ 16) (w0 w : World) (g : Nat) (a : Cmd) (x : Sc) (hx : bytesOk x.1) (h : RS w0 w g x.1 x.2) (a2 : Cmd) (y : Sc) (hg : getC a x f = (a2, y)) :
    Calls Try.prog 36 #[.pointer (some ⟨g, 0, none⟩), .agg (cells a), .int .i64 f] w fun e w' => e = .returned (.agg (cells a2)) ∧ RS w0 w' g y.1 y.2 ∧ Keep1 w w' g := by
  have hf : f = 1 ∨ f = 2 ∨ f = 3 ∨ f = 4 ∨ f = 5 ∨ f = 6 ∨ f = 7 ∨ f = 8 ∨ f = 9 ∨ f = 10 ∨ f = 11 ∨ f = 12 ∨ f = 13 ∨ f = 14 ∨ f = 15 ∨ f = 16 := by omega
  rcases hf with rfl | rfl | rfl | rfl | rfl | rfl | rfl | rfl | rfl | rfl | rfl | rfl | rfl | rfl | rfl | rfl
  · exact rget1 w0 w g a x hx h a2 y hg
  · exact rget2 w0 w g a x hx h a2 y hg
  · exact rget3 w0 w g a x hx h a2 y hg
  · exact rget4 w0 w g a x hx h a2 y hg
  · exact rget5 w0 w g a x hx h a2 y hg
  · exact rget6 w0 w g a x hx h a2 y hg
  · exact rget7 w0 w g a x hx h a2 y hg
  · exact rget8 w0 w g a x hx h a2 y hg
  · exact rget9 w0 w g a x hx h a2 y hg
  · exact rget10 w0 w g a x hx h a2 y hg
  · exact rget11 w0 w g a x hx h a2 y hg
  · exact rget12 w0 w g a x hx h a2 y hg
  · exact rget13 w0 w g a x hx h a2 y hg
  · exact rget14 w0 w g a x hx h a2 y hg
  · exact rget15 w0 w g a x hx h a2 y hg
  · exact rget16 w0 w g a x hx h a2 y hg
end Go.Proofs.Ytfaicipochceeaa.Giv
