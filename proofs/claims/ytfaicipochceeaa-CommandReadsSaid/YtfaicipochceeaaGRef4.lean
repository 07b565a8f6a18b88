/- The reference: a command with a field of another one. -/
import Derived.Test.YtfaicipochceeaaGMay
import Derived.Laws.CopyOwn
namespace Go.Proofs.Ytfaicipochceeaa.Giv
open Go.Lib Go.RowKit Go.Proofs.YtfaicipochceeaaW.PrintWords Go.Proofs.YtfaicipochceeaaW.PrintLast Go.Proofs.YtfaicipochceeaaW.PrintMore
set_option linter.unusedVariables false
set_option linter.unusedSimpArgs false
set_option maxHeartbeats 4000000 in
set_option maxRecDepth 100000 in
theorem rkeep1 (a c : Cmd) (w : World) : Calls Try.prog 22 #[.agg (cells a), .agg (cells c), .int .i64 1] w fun e w' => e = .returned (.agg (cells (keepF a c 1))) ∧ Below w.heap.size w w' := by
  obtain ⟨d, hd⟩ : ∃ d, keepF a c 1 = d := ⟨_, rfl⟩
  rw [hd]
  have HD := Aside0.mk hd
  clear hd
  have hA1 := blk_new w (.cells (cells a) 28)
  have hB1 := below_alloc (Below.refl w.heap.size w) (.cells (cells a) 28)
  obtain ⟨p, hp⟩ : ∃ p, w.heap.size = p := ⟨_, rfl⟩
  obtain ⟨w1, hw1⟩ : ∃ w1, w.alloc (.cells (cells a) 28) = w1 := ⟨_, rfl⟩
  rw [hw1] at hA1 hB1
  have hA2 := blk_new w1 (.cells (cells c) 28)
  have hB2 := below_alloc (Below.refl w1.heap.size w1) (.cells (cells c) 28)
  obtain ⟨g, hg⟩ : ∃ g, w1.heap.size = g := ⟨_, rfl⟩
  obtain ⟨w2, hw2⟩ : ∃ w2, w1.alloc (.cells (cells c) 28) = w2 := ⟨_, rfl⟩
  rw [hw2] at hA2 hB2
  have hA3 := blk_new w2 (.cells (cells zCmd) 28)
  have hB3 := below_alloc (Below.refl w2.heap.size w2) (.cells (cells zCmd) 28)
  obtain ⟨q, hq⟩ : ∃ q, w2.heap.size = q := ⟨_, rfl⟩
  obtain ⟨w3, hw3⟩ : ∃ w3, w2.alloc (.cells (cells zCmd) 28) = w3 := ⟨_, rfl⟩
  rw [hw3] at hA3 hB3
  have hw3' : w2.alloc (.cells #[.int .i64 0, .string ⟨#[]⟩, .string ⟨#[]⟩, .int .i64 0, .int .i64 0, .int .i64 0, .int .i64 0, .int .i64 0, .int .i64 0, .int .i64 0, .int .u64 0, .int .i64 0, .int .u64 0, .int .i64 0, .int .i64 0, .int .u64 0, .int .i64 0, .int .i64 0, .int .i64 0, .int .i64 0, .int .u64 0, .int .u64 0] 28) = w3 := hw3
  have hap := blk_below (blk_below hA1 hB2) hB3
  have hag := blk_below hA2 hB3
  have hne : p ≠ q ∧ g ≠ p ∧ q ≠ p ∧ w.heap.size ≤ p ∧ w.heap.size ≤ q := by
    have h1 := blk_lt hA1
    have h2 := blk_lt hA2
    omega
  rw [hp] at hap
  rw [hg] at hag
  rw [hq] at hA3
  have HB := Aside0.mk (below_step (below_step hB1 hB2) hB3)
  have H := Aside0.mk (And.intro hap (And.intro hag (And.intro hA3 hne)))
  have x1 : w3.cell? ⟨g, 1, none⟩ = some (.string c.name) := cell_of hag 1
  have y1 : w3.cell? ⟨p, 1, none⟩ = some (.string a.name) := cell_of hap 1
  have s1 : w3.frozen? ⟨p, 1, none⟩ = false := blk_frozen hap 1
  clear hA1 hB1 hA2 hB2 hA3 hB3 hap hag hne hw3
  go_enter Try.func22, Try.ntmps22
  go_upto_region 34 with fail
  have hP : ((w3).setCell ⟨p, 1, none⟩ (.string c.name)).heap[p]? = some (.cells (cells (keepF a c 1)) 28 (0, 0)) := (blk_set (H.out.1) 1 (.string c.name))
  have hQ : ((w3).setCell ⟨p, 1, none⟩ (.string c.name)).heap[q]? = some (.cells (cells zCmd) 28 (0, 0)) := (blk_far (H.out.2.2.1) (p := ⟨p, 1, none⟩) H.out.2.2.2.2.2.1 (.string c.name))
  have hBW : Below w.heap.size w ((w3).setCell ⟨p, 1, none⟩ (.string c.name)) := ((HB.out).setCell (p := ⟨p, 1, none⟩) H.out.2.2.2.2.2.2.1 (.string c.name))
  obtain ⟨W, hW⟩ : ∃ W, (w3).setCell ⟨p, 1, none⟩ (.string c.name) = W := ⟨_, rfl⟩
  rw [hW] at hP hQ hBW ⊢
  rw [HD.out] at hP
  have HF := Aside0.mk (And.intro hP (And.intro hQ hBW))
  clear hP hQ hBW hW x1 y1 s1
  go_wp2_with (first
    | (refine wpList_load_row rfl 28 (.tmp 3) rfl p rfl 28 (cells d) (0, 0) _ HF.out.1 Try.underlying28 rfl info28 ?_; (simp only [Act.put]))
    | (refine wpList_store_row rfl 28 (.tmp 6) (.tmp 88) rfl q (cells d) rfl rfl 28 (cells zCmd) HF.out.2.1 info28 rfl (cells_one _) ?_; (simp only [Act.put]))
    | fail)
  have hfin := setRow_heap W q (cells zCmd) (cells d) 28 (0, 0) HF.out.2.1
  refine bodyPost_ret (results_cell_row rfl _ _ q 28 (cells d) (0, 0) _ rfl hfin Try.underlying28 rfl info28) rfl ?_
  exact ⟨rfl, below_setRow HF.out.2.2 H.out.2.2.2.2.2.2.2 _⟩
set_option maxHeartbeats 4000000 in
set_option maxRecDepth 100000 in
theorem rkeep2 (a c : Cmd) (w : World) : Calls Try.prog 22 #[.agg (cells a), .agg (cells c), .int .i64 2] w fun e w' => e = .returned (.agg (cells (keepF a c 2))) ∧ Below w.heap.size w w' := by
  obtain ⟨d, hd⟩ : ∃ d, keepF a c 2 = d := ⟨_, rfl⟩
  rw [hd]
  have HD := Aside0.mk hd
  clear hd
  have hA1 := blk_new w (.cells (cells a) 28)
  have hB1 := below_alloc (Below.refl w.heap.size w) (.cells (cells a) 28)
  obtain ⟨p, hp⟩ : ∃ p, w.heap.size = p := ⟨_, rfl⟩
  obtain ⟨w1, hw1⟩ : ∃ w1, w.alloc (.cells (cells a) 28) = w1 := ⟨_, rfl⟩
  rw [hw1] at hA1 hB1
  have hA2 := blk_new w1 (.cells (cells c) 28)
  have hB2 := below_alloc (Below.refl w1.heap.size w1) (.cells (cells c) 28)
  obtain ⟨g, hg⟩ : ∃ g, w1.heap.size = g := ⟨_, rfl⟩
  obtain ⟨w2, hw2⟩ : ∃ w2, w1.alloc (.cells (cells c) 28) = w2 := ⟨_, rfl⟩
  rw [hw2] at hA2 hB2
  have hA3 := blk_new w2 (.cells (cells zCmd) 28)
  have hB3 := below_alloc (Below.refl w2.heap.size w2) (.cells (cells zCmd) 28)
  obtain ⟨q, hq⟩ : ∃ q, w2.heap.size = q := ⟨_, rfl⟩
  obtain ⟨w3, hw3⟩ : ∃ w3, w2.alloc (.cells (cells zCmd) 28) = w3 := ⟨_, rfl⟩
  rw [hw3] at hA3 hB3
  have hw3' : w2.alloc (.cells #[.int .i64 0, .string ⟨#[]⟩, .string ⟨#[]⟩, .int .i64 0, .int .i64 0, .int .i64 0, .int .i64 0, .int .i64 0, .int .i64 0, .int .i64 0, .int .u64 0, .int .i64 0, .int .u64 0, .int .i64 0, .int .i64 0, .int .u64 0, .int .i64 0, .int .i64 0, .int .i64 0, .int .i64 0, .int .u64 0, .int .u64 0] 28) = w3 := hw3
  have hap := blk_below (blk_below hA1 hB2) hB3
  have hag := blk_below hA2 hB3
  have hne : p ≠ q ∧ g ≠ p ∧ q ≠ p ∧ w.heap.size ≤ p ∧ w.heap.size ≤ q := by
    have h1 := blk_lt hA1
    have h2 := blk_lt hA2
    omega
  rw [hp] at hap
  rw [hg] at hag
  rw [hq] at hA3
  have HB := Aside0.mk (below_step (below_step hB1 hB2) hB3)
  have H := Aside0.mk (And.intro hap (And.intro hag (And.intro hA3 hne)))
  have x2 : w3.cell? ⟨g, 2, none⟩ = some (.string c.text) := cell_of hag 2
  have y2 : w3.cell? ⟨p, 2, none⟩ = some (.string a.text) := cell_of hap 2
  have s2 : w3.frozen? ⟨p, 2, none⟩ = false := blk_frozen hap 2
  clear hA1 hB1 hA2 hB2 hA3 hB3 hap hag hne hw3
  go_enter Try.func22, Try.ntmps22
  go_upto_region 34 with fail
  have hP : ((w3).setCell ⟨p, 2, none⟩ (.string c.text)).heap[p]? = some (.cells (cells (keepF a c 2)) 28 (0, 0)) := (blk_set (H.out.1) 2 (.string c.text))
  have hQ : ((w3).setCell ⟨p, 2, none⟩ (.string c.text)).heap[q]? = some (.cells (cells zCmd) 28 (0, 0)) := (blk_far (H.out.2.2.1) (p := ⟨p, 2, none⟩) H.out.2.2.2.2.2.1 (.string c.text))
  have hBW : Below w.heap.size w ((w3).setCell ⟨p, 2, none⟩ (.string c.text)) := ((HB.out).setCell (p := ⟨p, 2, none⟩) H.out.2.2.2.2.2.2.1 (.string c.text))
  obtain ⟨W, hW⟩ : ∃ W, (w3).setCell ⟨p, 2, none⟩ (.string c.text) = W := ⟨_, rfl⟩
  rw [hW] at hP hQ hBW ⊢
  rw [HD.out] at hP
  have HF := Aside0.mk (And.intro hP (And.intro hQ hBW))
  clear hP hQ hBW hW x2 y2 s2
  go_wp2_with (first
    | (refine wpList_load_row rfl 28 (.tmp 3) rfl p rfl 28 (cells d) (0, 0) _ HF.out.1 Try.underlying28 rfl info28 ?_; (simp only [Act.put]))
    | (refine wpList_store_row rfl 28 (.tmp 6) (.tmp 88) rfl q (cells d) rfl rfl 28 (cells zCmd) HF.out.2.1 info28 rfl (cells_one _) ?_; (simp only [Act.put]))
    | fail)
  have hfin := setRow_heap W q (cells zCmd) (cells d) 28 (0, 0) HF.out.2.1
  refine bodyPost_ret (results_cell_row rfl _ _ q 28 (cells d) (0, 0) _ rfl hfin Try.underlying28 rfl info28) rfl ?_
  exact ⟨rfl, below_setRow HF.out.2.2 H.out.2.2.2.2.2.2.2 _⟩
set_option maxHeartbeats 4000000 in
set_option maxRecDepth 100000 in
theorem rkeep3 (a c : Cmd) (w : World) : Calls Try.prog 22 #[.agg (cells a), .agg (cells c), .int .i64 3] w fun e w' => e = .returned (.agg (cells (keepF a c 3))) ∧ Below w.heap.size w w' := by
  obtain ⟨d, hd⟩ : ∃ d, keepF a c 3 = d := ⟨_, rfl⟩
  rw [hd]
  have HD := Aside0.mk hd
  clear hd
  have hA1 := blk_new w (.cells (cells a) 28)
  have hB1 := below_alloc (Below.refl w.heap.size w) (.cells (cells a) 28)
  obtain ⟨p, hp⟩ : ∃ p, w.heap.size = p := ⟨_, rfl⟩
  obtain ⟨w1, hw1⟩ : ∃ w1, w.alloc (.cells (cells a) 28) = w1 := ⟨_, rfl⟩
  rw [hw1] at hA1 hB1
  have hA2 := blk_new w1 (.cells (cells c) 28)
  have hB2 := below_alloc (Below.refl w1.heap.size w1) (.cells (cells c) 28)
  obtain ⟨g, hg⟩ : ∃ g, w1.heap.size = g := ⟨_, rfl⟩
  obtain ⟨w2, hw2⟩ : ∃ w2, w1.alloc (.cells (cells c) 28) = w2 := ⟨_, rfl⟩
  rw [hw2] at hA2 hB2
  have hA3 := blk_new w2 (.cells (cells zCmd) 28)
  have hB3 := below_alloc (Below.refl w2.heap.size w2) (.cells (cells zCmd) 28)
  obtain ⟨q, hq⟩ : ∃ q, w2.heap.size = q := ⟨_, rfl⟩
  obtain ⟨w3, hw3⟩ : ∃ w3, w2.alloc (.cells (cells zCmd) 28) = w3 := ⟨_, rfl⟩
  rw [hw3] at hA3 hB3
  have hw3' : w2.alloc (.cells #[.int .i64 0, .string ⟨#[]⟩, .string ⟨#[]⟩, .int .i64 0, .int .i64 0, .int .i64 0, .int .i64 0, .int .i64 0, .int .i64 0, .int .i64 0, .int .u64 0, .int .i64 0, .int .u64 0, .int .i64 0, .int .i64 0, .int .u64 0, .int .i64 0, .int .i64 0, .int .i64 0, .int .i64 0, .int .u64 0, .int .u64 0] 28) = w3 := hw3
  have hap := blk_below (blk_below hA1 hB2) hB3
  have hag := blk_below hA2 hB3
  have hne : p ≠ q ∧ g ≠ p ∧ q ≠ p ∧ w.heap.size ≤ p ∧ w.heap.size ≤ q := by
    have h1 := blk_lt hA1
    have h2 := blk_lt hA2
    omega
  rw [hp] at hap
  rw [hg] at hag
  rw [hq] at hA3
  have HB := Aside0.mk (below_step (below_step hB1 hB2) hB3)
  have H := Aside0.mk (And.intro hap (And.intro hag (And.intro hA3 hne)))
  have x3 : w3.cell? ⟨g, 3, none⟩ = some (.int .i64 c.rl) := cell_of hag 3
  have y3 : w3.cell? ⟨p, 3, none⟩ = some (.int .i64 a.rl) := cell_of hap 3
  have s3 : w3.frozen? ⟨p, 3, none⟩ = false := blk_frozen hap 3
  have x4 : w3.cell? ⟨g, 4, none⟩ = some (.int .i64 c.rs) := cell_of hag 4
  have y4 : w3.cell? ⟨p, 4, none⟩ = some (.int .i64 a.rs) := cell_of hap 4
  have s4 : w3.frozen? ⟨p, 4, none⟩ = false := blk_frozen hap 4
  clear hA1 hB1 hA2 hB2 hA3 hB3 hap hag hne hw3
  go_enter Try.func22, Try.ntmps22
  go_upto_region 34 with fail
  have hP : (((w3).setCell ⟨p, 3, none⟩ (.int .i64 c.rl)).setCell ⟨p, 4, none⟩ (.int .i64 c.rs)).heap[p]? = some (.cells (cells (keepF a c 3)) 28 (0, 0)) := (blk_set ((blk_set (H.out.1) 3 (.int .i64 c.rl))) 4 (.int .i64 c.rs))
  have hQ : (((w3).setCell ⟨p, 3, none⟩ (.int .i64 c.rl)).setCell ⟨p, 4, none⟩ (.int .i64 c.rs)).heap[q]? = some (.cells (cells zCmd) 28 (0, 0)) := (blk_far ((blk_far (H.out.2.2.1) (p := ⟨p, 3, none⟩) H.out.2.2.2.2.2.1 (.int .i64 c.rl))) (p := ⟨p, 4, none⟩) H.out.2.2.2.2.2.1 (.int .i64 c.rs))
  have hBW : Below w.heap.size w (((w3).setCell ⟨p, 3, none⟩ (.int .i64 c.rl)).setCell ⟨p, 4, none⟩ (.int .i64 c.rs)) := ((((HB.out).setCell (p := ⟨p, 3, none⟩) H.out.2.2.2.2.2.2.1 (.int .i64 c.rl))).setCell (p := ⟨p, 4, none⟩) H.out.2.2.2.2.2.2.1 (.int .i64 c.rs))
  obtain ⟨W, hW⟩ : ∃ W, ((w3).setCell ⟨p, 3, none⟩ (.int .i64 c.rl)).setCell ⟨p, 4, none⟩ (.int .i64 c.rs) = W := ⟨_, rfl⟩
  rw [hW] at hP hQ hBW ⊢
  rw [HD.out] at hP
  have HF := Aside0.mk (And.intro hP (And.intro hQ hBW))
  clear hP hQ hBW hW x3 y3 s3 x4 y4 s4
  go_wp2_with (first
    | (refine wpList_load_row rfl 28 (.tmp 3) rfl p rfl 28 (cells d) (0, 0) _ HF.out.1 Try.underlying28 rfl info28 ?_; (simp only [Act.put]))
    | (refine wpList_store_row rfl 28 (.tmp 6) (.tmp 88) rfl q (cells d) rfl rfl 28 (cells zCmd) HF.out.2.1 info28 rfl (cells_one _) ?_; (simp only [Act.put]))
    | fail)
  have hfin := setRow_heap W q (cells zCmd) (cells d) 28 (0, 0) HF.out.2.1
  refine bodyPost_ret (results_cell_row rfl _ _ q 28 (cells d) (0, 0) _ rfl hfin Try.underlying28 rfl info28) rfl ?_
  exact ⟨rfl, below_setRow HF.out.2.2 H.out.2.2.2.2.2.2.2 _⟩
set_option maxHeartbeats 4000000 in
set_option maxRecDepth 100000 in
theorem rkeep4 (a c : Cmd) (w : World) : Calls Try.prog 22 #[.agg (cells a), .agg (cells c), .int .i64 4] w fun e w' => e = .returned (.agg (cells (keepF a c 4))) ∧ Below w.heap.size w w' := by
  obtain ⟨d, hd⟩ : ∃ d, keepF a c 4 = d := ⟨_, rfl⟩
  rw [hd]
  have HD := Aside0.mk hd
  clear hd
  have hA1 := blk_new w (.cells (cells a) 28)
  have hB1 := below_alloc (Below.refl w.heap.size w) (.cells (cells a) 28)
  obtain ⟨p, hp⟩ : ∃ p, w.heap.size = p := ⟨_, rfl⟩
  obtain ⟨w1, hw1⟩ : ∃ w1, w.alloc (.cells (cells a) 28) = w1 := ⟨_, rfl⟩
  rw [hw1] at hA1 hB1
  have hA2 := blk_new w1 (.cells (cells c) 28)
  have hB2 := below_alloc (Below.refl w1.heap.size w1) (.cells (cells c) 28)
  obtain ⟨g, hg⟩ : ∃ g, w1.heap.size = g := ⟨_, rfl⟩
  obtain ⟨w2, hw2⟩ : ∃ w2, w1.alloc (.cells (cells c) 28) = w2 := ⟨_, rfl⟩
  rw [hw2] at hA2 hB2
  have hA3 := blk_new w2 (.cells (cells zCmd) 28)
  have hB3 := below_alloc (Below.refl w2.heap.size w2) (.cells (cells zCmd) 28)
  obtain ⟨q, hq⟩ : ∃ q, w2.heap.size = q := ⟨_, rfl⟩
  obtain ⟨w3, hw3⟩ : ∃ w3, w2.alloc (.cells (cells zCmd) 28) = w3 := ⟨_, rfl⟩
  rw [hw3] at hA3 hB3
  have hw3' : w2.alloc (.cells #[.int .i64 0, .string ⟨#[]⟩, .string ⟨#[]⟩, .int .i64 0, .int .i64 0, .int .i64 0, .int .i64 0, .int .i64 0, .int .i64 0, .int .i64 0, .int .u64 0, .int .i64 0, .int .u64 0, .int .i64 0, .int .i64 0, .int .u64 0, .int .i64 0, .int .i64 0, .int .i64 0, .int .i64 0, .int .u64 0, .int .u64 0] 28) = w3 := hw3
  have hap := blk_below (blk_below hA1 hB2) hB3
  have hag := blk_below hA2 hB3
  have hne : p ≠ q ∧ g ≠ p ∧ q ≠ p ∧ w.heap.size ≤ p ∧ w.heap.size ≤ q := by
    have h1 := blk_lt hA1
    have h2 := blk_lt hA2
    omega
  rw [hp] at hap
  rw [hg] at hag
  rw [hq] at hA3
  have HB := Aside0.mk (below_step (below_step hB1 hB2) hB3)
  have H := Aside0.mk (And.intro hap (And.intro hag (And.intro hA3 hne)))
  have x5 : w3.cell? ⟨g, 5, none⟩ = some (.int .i64 c.la) := cell_of hag 5
  have y5 : w3.cell? ⟨p, 5, none⟩ = some (.int .i64 a.la) := cell_of hap 5
  have s5 : w3.frozen? ⟨p, 5, none⟩ = false := blk_frozen hap 5
  clear hA1 hB1 hA2 hB2 hA3 hB3 hap hag hne hw3
  go_enter Try.func22, Try.ntmps22
  go_upto_region 34 with fail
  have hP : ((w3).setCell ⟨p, 5, none⟩ (.int .i64 c.la)).heap[p]? = some (.cells (cells (keepF a c 4)) 28 (0, 0)) := (blk_set (H.out.1) 5 (.int .i64 c.la))
  have hQ : ((w3).setCell ⟨p, 5, none⟩ (.int .i64 c.la)).heap[q]? = some (.cells (cells zCmd) 28 (0, 0)) := (blk_far (H.out.2.2.1) (p := ⟨p, 5, none⟩) H.out.2.2.2.2.2.1 (.int .i64 c.la))
  have hBW : Below w.heap.size w ((w3).setCell ⟨p, 5, none⟩ (.int .i64 c.la)) := ((HB.out).setCell (p := ⟨p, 5, none⟩) H.out.2.2.2.2.2.2.1 (.int .i64 c.la))
  obtain ⟨W, hW⟩ : ∃ W, (w3).setCell ⟨p, 5, none⟩ (.int .i64 c.la) = W := ⟨_, rfl⟩
  rw [hW] at hP hQ hBW ⊢
  rw [HD.out] at hP
  have HF := Aside0.mk (And.intro hP (And.intro hQ hBW))
  clear hP hQ hBW hW x5 y5 s5
  go_wp2_with (first
    | (refine wpList_load_row rfl 28 (.tmp 3) rfl p rfl 28 (cells d) (0, 0) _ HF.out.1 Try.underlying28 rfl info28 ?_; (simp only [Act.put]))
    | (refine wpList_store_row rfl 28 (.tmp 6) (.tmp 88) rfl q (cells d) rfl rfl 28 (cells zCmd) HF.out.2.1 info28 rfl (cells_one _) ?_; (simp only [Act.put]))
    | fail)
  have hfin := setRow_heap W q (cells zCmd) (cells d) 28 (0, 0) HF.out.2.1
  refine bodyPost_ret (results_cell_row rfl _ _ q 28 (cells d) (0, 0) _ rfl hfin Try.underlying28 rfl info28) rfl ?_
  exact ⟨rfl, below_setRow HF.out.2.2 H.out.2.2.2.2.2.2.2 _⟩
set_option maxHeartbeats 4000000 in
set_option maxRecDepth 100000 in
theorem rkeep5 (a c : Cmd) (w : World) : Calls Try.prog 22 #[.agg (cells a), .agg (cells c), .int .i64 5] w fun e w' => e = .returned (.agg (cells (keepF a c 5))) ∧ Below w.heap.size w w' := by
  obtain ⟨d, hd⟩ : ∃ d, keepF a c 5 = d := ⟨_, rfl⟩
  rw [hd]
  have HD := Aside0.mk hd
  clear hd
  have hA1 := blk_new w (.cells (cells a) 28)
  have hB1 := below_alloc (Below.refl w.heap.size w) (.cells (cells a) 28)
  obtain ⟨p, hp⟩ : ∃ p, w.heap.size = p := ⟨_, rfl⟩
  obtain ⟨w1, hw1⟩ : ∃ w1, w.alloc (.cells (cells a) 28) = w1 := ⟨_, rfl⟩
  rw [hw1] at hA1 hB1
  have hA2 := blk_new w1 (.cells (cells c) 28)
  have hB2 := below_alloc (Below.refl w1.heap.size w1) (.cells (cells c) 28)
  obtain ⟨g, hg⟩ : ∃ g, w1.heap.size = g := ⟨_, rfl⟩
  obtain ⟨w2, hw2⟩ : ∃ w2, w1.alloc (.cells (cells c) 28) = w2 := ⟨_, rfl⟩
  rw [hw2] at hA2 hB2
  have hA3 := blk_new w2 (.cells (cells zCmd) 28)
  have hB3 := below_alloc (Below.refl w2.heap.size w2) (.cells (cells zCmd) 28)
  obtain ⟨q, hq⟩ : ∃ q, w2.heap.size = q := ⟨_, rfl⟩
  obtain ⟨w3, hw3⟩ : ∃ w3, w2.alloc (.cells (cells zCmd) 28) = w3 := ⟨_, rfl⟩
  rw [hw3] at hA3 hB3
  have hw3' : w2.alloc (.cells #[.int .i64 0, .string ⟨#[]⟩, .string ⟨#[]⟩, .int .i64 0, .int .i64 0, .int .i64 0, .int .i64 0, .int .i64 0, .int .i64 0, .int .i64 0, .int .u64 0, .int .i64 0, .int .u64 0, .int .i64 0, .int .i64 0, .int .u64 0, .int .i64 0, .int .i64 0, .int .i64 0, .int .i64 0, .int .u64 0, .int .u64 0] 28) = w3 := hw3
  have hap := blk_below (blk_below hA1 hB2) hB3
  have hag := blk_below hA2 hB3
  have hne : p ≠ q ∧ g ≠ p ∧ q ≠ p ∧ w.heap.size ≤ p ∧ w.heap.size ≤ q := by
    have h1 := blk_lt hA1
    have h2 := blk_lt hA2
    omega
  rw [hp] at hap
  rw [hg] at hag
  rw [hq] at hA3
  have HB := Aside0.mk (below_step (below_step hB1 hB2) hB3)
  have H := Aside0.mk (And.intro hap (And.intro hag (And.intro hA3 hne)))
  have x6 : w3.cell? ⟨g, 6, none⟩ = some (.int .i64 c.wh) := cell_of hag 6
  have y6 : w3.cell? ⟨p, 6, none⟩ = some (.int .i64 a.wh) := cell_of hap 6
  have s6 : w3.frozen? ⟨p, 6, none⟩ = false := blk_frozen hap 6
  clear hA1 hB1 hA2 hB2 hA3 hB3 hap hag hne hw3
  go_enter Try.func22, Try.ntmps22
  go_upto_region 34 with fail
  have hP : ((w3).setCell ⟨p, 6, none⟩ (.int .i64 c.wh)).heap[p]? = some (.cells (cells (keepF a c 5)) 28 (0, 0)) := (blk_set (H.out.1) 6 (.int .i64 c.wh))
  have hQ : ((w3).setCell ⟨p, 6, none⟩ (.int .i64 c.wh)).heap[q]? = some (.cells (cells zCmd) 28 (0, 0)) := (blk_far (H.out.2.2.1) (p := ⟨p, 6, none⟩) H.out.2.2.2.2.2.1 (.int .i64 c.wh))
  have hBW : Below w.heap.size w ((w3).setCell ⟨p, 6, none⟩ (.int .i64 c.wh)) := ((HB.out).setCell (p := ⟨p, 6, none⟩) H.out.2.2.2.2.2.2.1 (.int .i64 c.wh))
  obtain ⟨W, hW⟩ : ∃ W, (w3).setCell ⟨p, 6, none⟩ (.int .i64 c.wh) = W := ⟨_, rfl⟩
  rw [hW] at hP hQ hBW ⊢
  rw [HD.out] at hP
  have HF := Aside0.mk (And.intro hP (And.intro hQ hBW))
  clear hP hQ hBW hW x6 y6 s6
  go_wp2_with (first
    | (refine wpList_load_row rfl 28 (.tmp 3) rfl p rfl 28 (cells d) (0, 0) _ HF.out.1 Try.underlying28 rfl info28 ?_; (simp only [Act.put]))
    | (refine wpList_store_row rfl 28 (.tmp 6) (.tmp 88) rfl q (cells d) rfl rfl 28 (cells zCmd) HF.out.2.1 info28 rfl (cells_one _) ?_; (simp only [Act.put]))
    | fail)
  have hfin := setRow_heap W q (cells zCmd) (cells d) 28 (0, 0) HF.out.2.1
  refine bodyPost_ret (results_cell_row rfl _ _ q 28 (cells d) (0, 0) _ rfl hfin Try.underlying28 rfl info28) rfl ?_
  exact ⟨rfl, below_setRow HF.out.2.2 H.out.2.2.2.2.2.2.2 _⟩
set_option maxHeartbeats 4000000 in
set_option maxRecDepth 100000 in
theorem rkeep6 (a c : Cmd) (w : World) : Calls Try.prog 22 #[.agg (cells a), .agg (cells c), .int .i64 6] w fun e w' => e = .returned (.agg (cells (keepF a c 6))) ∧ Below w.heap.size w w' := by
  obtain ⟨d, hd⟩ : ∃ d, keepF a c 6 = d := ⟨_, rfl⟩
  rw [hd]
  have HD := Aside0.mk hd
  clear hd
  have hA1 := blk_new w (.cells (cells a) 28)
  have hB1 := below_alloc (Below.refl w.heap.size w) (.cells (cells a) 28)
  obtain ⟨p, hp⟩ : ∃ p, w.heap.size = p := ⟨_, rfl⟩
  obtain ⟨w1, hw1⟩ : ∃ w1, w.alloc (.cells (cells a) 28) = w1 := ⟨_, rfl⟩
  rw [hw1] at hA1 hB1
  have hA2 := blk_new w1 (.cells (cells c) 28)
  have hB2 := below_alloc (Below.refl w1.heap.size w1) (.cells (cells c) 28)
  obtain ⟨g, hg⟩ : ∃ g, w1.heap.size = g := ⟨_, rfl⟩
  obtain ⟨w2, hw2⟩ : ∃ w2, w1.alloc (.cells (cells c) 28) = w2 := ⟨_, rfl⟩
  rw [hw2] at hA2 hB2
  have hA3 := blk_new w2 (.cells (cells zCmd) 28)
  have hB3 := below_alloc (Below.refl w2.heap.size w2) (.cells (cells zCmd) 28)
  obtain ⟨q, hq⟩ : ∃ q, w2.heap.size = q := ⟨_, rfl⟩
  obtain ⟨w3, hw3⟩ : ∃ w3, w2.alloc (.cells (cells zCmd) 28) = w3 := ⟨_, rfl⟩
  rw [hw3] at hA3 hB3
  have hw3' : w2.alloc (.cells #[.int .i64 0, .string ⟨#[]⟩, .string ⟨#[]⟩, .int .i64 0, .int .i64 0, .int .i64 0, .int .i64 0, .int .i64 0, .int .i64 0, .int .i64 0, .int .u64 0, .int .i64 0, .int .u64 0, .int .i64 0, .int .i64 0, .int .u64 0, .int .i64 0, .int .i64 0, .int .i64 0, .int .i64 0, .int .u64 0, .int .u64 0] 28) = w3 := hw3
  have hap := blk_below (blk_below hA1 hB2) hB3
  have hag := blk_below hA2 hB3
  have hne : p ≠ q ∧ g ≠ p ∧ q ≠ p ∧ w.heap.size ≤ p ∧ w.heap.size ≤ q := by
    have h1 := blk_lt hA1
    have h2 := blk_lt hA2
    omega
  rw [hp] at hap
  rw [hg] at hag
  rw [hq] at hA3
  have HB := Aside0.mk (below_step (below_step hB1 hB2) hB3)
  have H := Aside0.mk (And.intro hap (And.intro hag (And.intro hA3 hne)))
  have x7 : w3.cell? ⟨g, 7, none⟩ = some (.int .i64 c.sl) := cell_of hag 7
  have y7 : w3.cell? ⟨p, 7, none⟩ = some (.int .i64 a.sl) := cell_of hap 7
  have s7 : w3.frozen? ⟨p, 7, none⟩ = false := blk_frozen hap 7
  clear hA1 hB1 hA2 hB2 hA3 hB3 hap hag hne hw3
  go_enter Try.func22, Try.ntmps22
  go_upto_region 34 with fail
  have hP : ((w3).setCell ⟨p, 7, none⟩ (.int .i64 c.sl)).heap[p]? = some (.cells (cells (keepF a c 6)) 28 (0, 0)) := (blk_set (H.out.1) 7 (.int .i64 c.sl))
  have hQ : ((w3).setCell ⟨p, 7, none⟩ (.int .i64 c.sl)).heap[q]? = some (.cells (cells zCmd) 28 (0, 0)) := (blk_far (H.out.2.2.1) (p := ⟨p, 7, none⟩) H.out.2.2.2.2.2.1 (.int .i64 c.sl))
  have hBW : Below w.heap.size w ((w3).setCell ⟨p, 7, none⟩ (.int .i64 c.sl)) := ((HB.out).setCell (p := ⟨p, 7, none⟩) H.out.2.2.2.2.2.2.1 (.int .i64 c.sl))
  obtain ⟨W, hW⟩ : ∃ W, (w3).setCell ⟨p, 7, none⟩ (.int .i64 c.sl) = W := ⟨_, rfl⟩
  rw [hW] at hP hQ hBW ⊢
  rw [HD.out] at hP
  have HF := Aside0.mk (And.intro hP (And.intro hQ hBW))
  clear hP hQ hBW hW x7 y7 s7
  go_wp2_with (first
    | (refine wpList_load_row rfl 28 (.tmp 3) rfl p rfl 28 (cells d) (0, 0) _ HF.out.1 Try.underlying28 rfl info28 ?_; (simp only [Act.put]))
    | (refine wpList_store_row rfl 28 (.tmp 6) (.tmp 88) rfl q (cells d) rfl rfl 28 (cells zCmd) HF.out.2.1 info28 rfl (cells_one _) ?_; (simp only [Act.put]))
    | fail)
  have hfin := setRow_heap W q (cells zCmd) (cells d) 28 (0, 0) HF.out.2.1
  refine bodyPost_ret (results_cell_row rfl _ _ q 28 (cells d) (0, 0) _ rfl hfin Try.underlying28 rfl info28) rfl ?_
  exact ⟨rfl, below_setRow HF.out.2.2 H.out.2.2.2.2.2.2.2 _⟩
set_option maxHeartbeats 4000000 in
set_option maxRecDepth 100000 in
theorem rkeep7 (a c : Cmd) (w : World) : Calls Try.prog 22 #[.agg (cells a), .agg (cells c), .int .i64 7] w fun e w' => e = .returned (.agg (cells (keepF a c 7))) ∧ Below w.heap.size w w' := by
  obtain ⟨d, hd⟩ : ∃ d, keepF a c 7 = d := ⟨_, rfl⟩
  rw [hd]
  have HD := Aside0.mk hd
  clear hd
  have hA1 := blk_new w (.cells (cells a) 28)
  have hB1 := below_alloc (Below.refl w.heap.size w) (.cells (cells a) 28)
  obtain ⟨p, hp⟩ : ∃ p, w.heap.size = p := ⟨_, rfl⟩
  obtain ⟨w1, hw1⟩ : ∃ w1, w.alloc (.cells (cells a) 28) = w1 := ⟨_, rfl⟩
  rw [hw1] at hA1 hB1
  have hA2 := blk_new w1 (.cells (cells c) 28)
  have hB2 := below_alloc (Below.refl w1.heap.size w1) (.cells (cells c) 28)
  obtain ⟨g, hg⟩ : ∃ g, w1.heap.size = g := ⟨_, rfl⟩
  obtain ⟨w2, hw2⟩ : ∃ w2, w1.alloc (.cells (cells c) 28) = w2 := ⟨_, rfl⟩
  rw [hw2] at hA2 hB2
  have hA3 := blk_new w2 (.cells (cells zCmd) 28)
  have hB3 := below_alloc (Below.refl w2.heap.size w2) (.cells (cells zCmd) 28)
  obtain ⟨q, hq⟩ : ∃ q, w2.heap.size = q := ⟨_, rfl⟩
  obtain ⟨w3, hw3⟩ : ∃ w3, w2.alloc (.cells (cells zCmd) 28) = w3 := ⟨_, rfl⟩
  rw [hw3] at hA3 hB3
  have hw3' : w2.alloc (.cells #[.int .i64 0, .string ⟨#[]⟩, .string ⟨#[]⟩, .int .i64 0, .int .i64 0, .int .i64 0, .int .i64 0, .int .i64 0, .int .i64 0, .int .i64 0, .int .u64 0, .int .i64 0, .int .u64 0, .int .i64 0, .int .i64 0, .int .u64 0, .int .i64 0, .int .i64 0, .int .i64 0, .int .i64 0, .int .u64 0, .int .u64 0] 28) = w3 := hw3
  have hap := blk_below (blk_below hA1 hB2) hB3
  have hag := blk_below hA2 hB3
  have hne : p ≠ q ∧ g ≠ p ∧ q ≠ p ∧ w.heap.size ≤ p ∧ w.heap.size ≤ q := by
    have h1 := blk_lt hA1
    have h2 := blk_lt hA2
    omega
  rw [hp] at hap
  rw [hg] at hag
  rw [hq] at hA3
  have HB := Aside0.mk (below_step (below_step hB1 hB2) hB3)
  have H := Aside0.mk (And.intro hap (And.intro hag (And.intro hA3 hne)))
  have x8 : w3.cell? ⟨g, 8, none⟩ = some (.int .i64 c.di) := cell_of hag 8
  have y8 : w3.cell? ⟨p, 8, none⟩ = some (.int .i64 a.di) := cell_of hap 8
  have s8 : w3.frozen? ⟨p, 8, none⟩ = false := blk_frozen hap 8
  clear hA1 hB1 hA2 hB2 hA3 hB3 hap hag hne hw3
  go_enter Try.func22, Try.ntmps22
  go_upto_region 34 with fail
  have hP : ((w3).setCell ⟨p, 8, none⟩ (.int .i64 c.di)).heap[p]? = some (.cells (cells (keepF a c 7)) 28 (0, 0)) := (blk_set (H.out.1) 8 (.int .i64 c.di))
  have hQ : ((w3).setCell ⟨p, 8, none⟩ (.int .i64 c.di)).heap[q]? = some (.cells (cells zCmd) 28 (0, 0)) := (blk_far (H.out.2.2.1) (p := ⟨p, 8, none⟩) H.out.2.2.2.2.2.1 (.int .i64 c.di))
  have hBW : Below w.heap.size w ((w3).setCell ⟨p, 8, none⟩ (.int .i64 c.di)) := ((HB.out).setCell (p := ⟨p, 8, none⟩) H.out.2.2.2.2.2.2.1 (.int .i64 c.di))
  obtain ⟨W, hW⟩ : ∃ W, (w3).setCell ⟨p, 8, none⟩ (.int .i64 c.di) = W := ⟨_, rfl⟩
  rw [hW] at hP hQ hBW ⊢
  rw [HD.out] at hP
  have HF := Aside0.mk (And.intro hP (And.intro hQ hBW))
  clear hP hQ hBW hW x8 y8 s8
  go_wp2_with (first
    | (refine wpList_load_row rfl 28 (.tmp 3) rfl p rfl 28 (cells d) (0, 0) _ HF.out.1 Try.underlying28 rfl info28 ?_; (simp only [Act.put]))
    | (refine wpList_store_row rfl 28 (.tmp 6) (.tmp 88) rfl q (cells d) rfl rfl 28 (cells zCmd) HF.out.2.1 info28 rfl (cells_one _) ?_; (simp only [Act.put]))
    | fail)
  have hfin := setRow_heap W q (cells zCmd) (cells d) 28 (0, 0) HF.out.2.1
  refine bodyPost_ret (results_cell_row rfl _ _ q 28 (cells d) (0, 0) _ rfl hfin Try.underlying28 rfl info28) rfl ?_
  exact ⟨rfl, below_setRow HF.out.2.2 H.out.2.2.2.2.2.2.2 _⟩
set_option maxHeartbeats 4000000 in
set_option maxRecDepth 100000 in
theorem rkeep8 (a c : Cmd) (w : World) : Calls Try.prog 22 #[.agg (cells a), .agg (cells c), .int .i64 8] w fun e w' => e = .returned (.agg (cells (keepF a c 8))) ∧ Below w.heap.size w w' := by
  obtain ⟨d, hd⟩ : ∃ d, keepF a c 8 = d := ⟨_, rfl⟩
  rw [hd]
  have HD := Aside0.mk hd
  clear hd
  have hA1 := blk_new w (.cells (cells a) 28)
  have hB1 := below_alloc (Below.refl w.heap.size w) (.cells (cells a) 28)
  obtain ⟨p, hp⟩ : ∃ p, w.heap.size = p := ⟨_, rfl⟩
  obtain ⟨w1, hw1⟩ : ∃ w1, w.alloc (.cells (cells a) 28) = w1 := ⟨_, rfl⟩
  rw [hw1] at hA1 hB1
  have hA2 := blk_new w1 (.cells (cells c) 28)
  have hB2 := below_alloc (Below.refl w1.heap.size w1) (.cells (cells c) 28)
  obtain ⟨g, hg⟩ : ∃ g, w1.heap.size = g := ⟨_, rfl⟩
  obtain ⟨w2, hw2⟩ : ∃ w2, w1.alloc (.cells (cells c) 28) = w2 := ⟨_, rfl⟩
  rw [hw2] at hA2 hB2
  have hA3 := blk_new w2 (.cells (cells zCmd) 28)
  have hB3 := below_alloc (Below.refl w2.heap.size w2) (.cells (cells zCmd) 28)
  obtain ⟨q, hq⟩ : ∃ q, w2.heap.size = q := ⟨_, rfl⟩
  obtain ⟨w3, hw3⟩ : ∃ w3, w2.alloc (.cells (cells zCmd) 28) = w3 := ⟨_, rfl⟩
  rw [hw3] at hA3 hB3
  have hw3' : w2.alloc (.cells #[.int .i64 0, .string ⟨#[]⟩, .string ⟨#[]⟩, .int .i64 0, .int .i64 0, .int .i64 0, .int .i64 0, .int .i64 0, .int .i64 0, .int .i64 0, .int .u64 0, .int .i64 0, .int .u64 0, .int .i64 0, .int .i64 0, .int .u64 0, .int .i64 0, .int .i64 0, .int .i64 0, .int .i64 0, .int .u64 0, .int .u64 0] 28) = w3 := hw3
  have hap := blk_below (blk_below hA1 hB2) hB3
  have hag := blk_below hA2 hB3
  have hne : p ≠ q ∧ g ≠ p ∧ q ≠ p ∧ w.heap.size ≤ p ∧ w.heap.size ≤ q := by
    have h1 := blk_lt hA1
    have h2 := blk_lt hA2
    omega
  rw [hp] at hap
  rw [hg] at hag
  rw [hq] at hA3
  have HB := Aside0.mk (below_step (below_step hB1 hB2) hB3)
  have H := Aside0.mk (And.intro hap (And.intro hag (And.intro hA3 hne)))
  have x9 : w3.cell? ⟨g, 9, none⟩ = some (.int .i64 c.co) := cell_of hag 9
  have y9 : w3.cell? ⟨p, 9, none⟩ = some (.int .i64 a.co) := cell_of hap 9
  have s9 : w3.frozen? ⟨p, 9, none⟩ = false := blk_frozen hap 9
  clear hA1 hB1 hA2 hB2 hA3 hB3 hap hag hne hw3
  go_enter Try.func22, Try.ntmps22
  go_upto_region 34 with fail
  have hP : ((w3).setCell ⟨p, 9, none⟩ (.int .i64 c.co)).heap[p]? = some (.cells (cells (keepF a c 8)) 28 (0, 0)) := (blk_set (H.out.1) 9 (.int .i64 c.co))
  have hQ : ((w3).setCell ⟨p, 9, none⟩ (.int .i64 c.co)).heap[q]? = some (.cells (cells zCmd) 28 (0, 0)) := (blk_far (H.out.2.2.1) (p := ⟨p, 9, none⟩) H.out.2.2.2.2.2.1 (.int .i64 c.co))
  have hBW : Below w.heap.size w ((w3).setCell ⟨p, 9, none⟩ (.int .i64 c.co)) := ((HB.out).setCell (p := ⟨p, 9, none⟩) H.out.2.2.2.2.2.2.1 (.int .i64 c.co))
  obtain ⟨W, hW⟩ : ∃ W, (w3).setCell ⟨p, 9, none⟩ (.int .i64 c.co) = W := ⟨_, rfl⟩
  rw [hW] at hP hQ hBW ⊢
  rw [HD.out] at hP
  have HF := Aside0.mk (And.intro hP (And.intro hQ hBW))
  clear hP hQ hBW hW x9 y9 s9
  go_wp2_with (first
    | (refine wpList_load_row rfl 28 (.tmp 3) rfl p rfl 28 (cells d) (0, 0) _ HF.out.1 Try.underlying28 rfl info28 ?_; (simp only [Act.put]))
    | (refine wpList_store_row rfl 28 (.tmp 6) (.tmp 88) rfl q (cells d) rfl rfl 28 (cells zCmd) HF.out.2.1 info28 rfl (cells_one _) ?_; (simp only [Act.put]))
    | fail)
  have hfin := setRow_heap W q (cells zCmd) (cells d) 28 (0, 0) HF.out.2.1
  refine bodyPost_ret (results_cell_row rfl _ _ q 28 (cells d) (0, 0) _ rfl hfin Try.underlying28 rfl info28) rfl ?_
  exact ⟨rfl, below_setRow HF.out.2.2 H.out.2.2.2.2.2.2.2 _⟩
set_option maxHeartbeats 4000000 in
set_option maxRecDepth 100000 in
theorem rkeep9 (a c : Cmd) (w : World) : Calls Try.prog 22 #[.agg (cells a), .agg (cells c), .int .i64 9] w fun e w' => e = .returned (.agg (cells (keepF a c 9))) ∧ Below w.heap.size w w' := by
  obtain ⟨d, hd⟩ : ∃ d, keepF a c 9 = d := ⟨_, rfl⟩
  rw [hd]
  have HD := Aside0.mk hd
  clear hd
  have hA1 := blk_new w (.cells (cells a) 28)
  have hB1 := below_alloc (Below.refl w.heap.size w) (.cells (cells a) 28)
  obtain ⟨p, hp⟩ : ∃ p, w.heap.size = p := ⟨_, rfl⟩
  obtain ⟨w1, hw1⟩ : ∃ w1, w.alloc (.cells (cells a) 28) = w1 := ⟨_, rfl⟩
  rw [hw1] at hA1 hB1
  have hA2 := blk_new w1 (.cells (cells c) 28)
  have hB2 := below_alloc (Below.refl w1.heap.size w1) (.cells (cells c) 28)
  obtain ⟨g, hg⟩ : ∃ g, w1.heap.size = g := ⟨_, rfl⟩
  obtain ⟨w2, hw2⟩ : ∃ w2, w1.alloc (.cells (cells c) 28) = w2 := ⟨_, rfl⟩
  rw [hw2] at hA2 hB2
  have hA3 := blk_new w2 (.cells (cells zCmd) 28)
  have hB3 := below_alloc (Below.refl w2.heap.size w2) (.cells (cells zCmd) 28)
  obtain ⟨q, hq⟩ : ∃ q, w2.heap.size = q := ⟨_, rfl⟩
  obtain ⟨w3, hw3⟩ : ∃ w3, w2.alloc (.cells (cells zCmd) 28) = w3 := ⟨_, rfl⟩
  rw [hw3] at hA3 hB3
  have hw3' : w2.alloc (.cells #[.int .i64 0, .string ⟨#[]⟩, .string ⟨#[]⟩, .int .i64 0, .int .i64 0, .int .i64 0, .int .i64 0, .int .i64 0, .int .i64 0, .int .i64 0, .int .u64 0, .int .i64 0, .int .u64 0, .int .i64 0, .int .i64 0, .int .u64 0, .int .i64 0, .int .i64 0, .int .i64 0, .int .i64 0, .int .u64 0, .int .u64 0] 28) = w3 := hw3
  have hap := blk_below (blk_below hA1 hB2) hB3
  have hag := blk_below hA2 hB3
  have hne : p ≠ q ∧ g ≠ p ∧ q ≠ p ∧ w.heap.size ≤ p ∧ w.heap.size ≤ q := by
    have h1 := blk_lt hA1
    have h2 := blk_lt hA2
    omega
  rw [hp] at hap
  rw [hg] at hag
  rw [hq] at hA3
  have HB := Aside0.mk (below_step (below_step hB1 hB2) hB3)
  have H := Aside0.mk (And.intro hap (And.intro hag (And.intro hA3 hne)))
  have x10 : w3.cell? ⟨g, 10, none⟩ = some (.int .u64 c.am) := cell_of hag 10
  have y10 : w3.cell? ⟨p, 10, none⟩ = some (.int .u64 a.am) := cell_of hap 10
  have s10 : w3.frozen? ⟨p, 10, none⟩ = false := blk_frozen hap 10
  clear hA1 hB1 hA2 hB2 hA3 hB3 hap hag hne hw3
  go_enter Try.func22, Try.ntmps22
  go_upto_region 34 with fail
  have hP : ((w3).setCell ⟨p, 10, none⟩ (.int .u64 c.am)).heap[p]? = some (.cells (cells (keepF a c 9)) 28 (0, 0)) := (blk_set (H.out.1) 10 (.int .u64 c.am))
  have hQ : ((w3).setCell ⟨p, 10, none⟩ (.int .u64 c.am)).heap[q]? = some (.cells (cells zCmd) 28 (0, 0)) := (blk_far (H.out.2.2.1) (p := ⟨p, 10, none⟩) H.out.2.2.2.2.2.1 (.int .u64 c.am))
  have hBW : Below w.heap.size w ((w3).setCell ⟨p, 10, none⟩ (.int .u64 c.am)) := ((HB.out).setCell (p := ⟨p, 10, none⟩) H.out.2.2.2.2.2.2.1 (.int .u64 c.am))
  obtain ⟨W, hW⟩ : ∃ W, (w3).setCell ⟨p, 10, none⟩ (.int .u64 c.am) = W := ⟨_, rfl⟩
  rw [hW] at hP hQ hBW ⊢
  rw [HD.out] at hP
  have HF := Aside0.mk (And.intro hP (And.intro hQ hBW))
  clear hP hQ hBW hW x10 y10 s10
  go_wp2_with (first
    | (refine wpList_load_row rfl 28 (.tmp 3) rfl p rfl 28 (cells d) (0, 0) _ HF.out.1 Try.underlying28 rfl info28 ?_; (simp only [Act.put]))
    | (refine wpList_store_row rfl 28 (.tmp 6) (.tmp 88) rfl q (cells d) rfl rfl 28 (cells zCmd) HF.out.2.1 info28 rfl (cells_one _) ?_; (simp only [Act.put]))
    | fail)
  have hfin := setRow_heap W q (cells zCmd) (cells d) 28 (0, 0) HF.out.2.1
  refine bodyPost_ret (results_cell_row rfl _ _ q 28 (cells d) (0, 0) _ rfl hfin Try.underlying28 rfl info28) rfl ?_
  exact ⟨rfl, below_setRow HF.out.2.2 H.out.2.2.2.2.2.2.2 _⟩
set_option maxHeartbeats 4000000 in
set_option maxRecDepth 100000 in
theorem rkeep10 (a c : Cmd) (w : World) : Calls Try.prog 22 #[.agg (cells a), .agg (cells c), .int .i64 10] w fun e w' => e = .returned (.agg (cells (keepF a c 10))) ∧ Below w.heap.size w w' := by
  obtain ⟨d, hd⟩ : ∃ d, keepF a c 10 = d := ⟨_, rfl⟩
  rw [hd]
  have HD := Aside0.mk hd
  clear hd
  have hA1 := blk_new w (.cells (cells a) 28)
  have hB1 := below_alloc (Below.refl w.heap.size w) (.cells (cells a) 28)
  obtain ⟨p, hp⟩ : ∃ p, w.heap.size = p := ⟨_, rfl⟩
  obtain ⟨w1, hw1⟩ : ∃ w1, w.alloc (.cells (cells a) 28) = w1 := ⟨_, rfl⟩
  rw [hw1] at hA1 hB1
  have hA2 := blk_new w1 (.cells (cells c) 28)
  have hB2 := below_alloc (Below.refl w1.heap.size w1) (.cells (cells c) 28)
  obtain ⟨g, hg⟩ : ∃ g, w1.heap.size = g := ⟨_, rfl⟩
  obtain ⟨w2, hw2⟩ : ∃ w2, w1.alloc (.cells (cells c) 28) = w2 := ⟨_, rfl⟩
  rw [hw2] at hA2 hB2
  have hA3 := blk_new w2 (.cells (cells zCmd) 28)
  have hB3 := below_alloc (Below.refl w2.heap.size w2) (.cells (cells zCmd) 28)
  obtain ⟨q, hq⟩ : ∃ q, w2.heap.size = q := ⟨_, rfl⟩
  obtain ⟨w3, hw3⟩ : ∃ w3, w2.alloc (.cells (cells zCmd) 28) = w3 := ⟨_, rfl⟩
  rw [hw3] at hA3 hB3
  have hw3' : w2.alloc (.cells #[.int .i64 0, .string ⟨#[]⟩, .string ⟨#[]⟩, .int .i64 0, .int .i64 0, .int .i64 0, .int .i64 0, .int .i64 0, .int .i64 0, .int .i64 0, .int .u64 0, .int .i64 0, .int .u64 0, .int .i64 0, .int .i64 0, .int .u64 0, .int .i64 0, .int .i64 0, .int .i64 0, .int .i64 0, .int .u64 0, .int .u64 0] 28) = w3 := hw3
  have hap := blk_below (blk_below hA1 hB2) hB3
  have hag := blk_below hA2 hB3
  have hne : p ≠ q ∧ g ≠ p ∧ q ≠ p ∧ w.heap.size ≤ p ∧ w.heap.size ≤ q := by
    have h1 := blk_lt hA1
    have h2 := blk_lt hA2
    omega
  rw [hp] at hap
  rw [hg] at hag
  rw [hq] at hA3
  have HB := Aside0.mk (below_step (below_step hB1 hB2) hB3)
  have H := Aside0.mk (And.intro hap (And.intro hag (And.intro hA3 hne)))
  have x11 : w3.cell? ⟨g, 11, none⟩ = some (.int .i64 c.gc) := cell_of hag 11
  have y11 : w3.cell? ⟨p, 11, none⟩ = some (.int .i64 a.gc) := cell_of hap 11
  have s11 : w3.frozen? ⟨p, 11, none⟩ = false := blk_frozen hap 11
  have x12 : w3.cell? ⟨g, 12, none⟩ = some (.int .u64 c.ga) := cell_of hag 12
  have y12 : w3.cell? ⟨p, 12, none⟩ = some (.int .u64 a.ga) := cell_of hap 12
  have s12 : w3.frozen? ⟨p, 12, none⟩ = false := blk_frozen hap 12
  have x13 : w3.cell? ⟨g, 13, none⟩ = some (.int .i64 c.gi) := cell_of hag 13
  have y13 : w3.cell? ⟨p, 13, none⟩ = some (.int .i64 a.gi) := cell_of hap 13
  have s13 : w3.frozen? ⟨p, 13, none⟩ = false := blk_frozen hap 13
  clear hA1 hB1 hA2 hB2 hA3 hB3 hap hag hne hw3
  go_enter Try.func22, Try.ntmps22
  go_upto_region 34 with fail
  have hP : ((((w3).setCell ⟨p, 11, none⟩ (.int .i64 c.gc)).setCell ⟨p, 12, none⟩ (.int .u64 c.ga)).setCell ⟨p, 13, none⟩ (.int .i64 c.gi)).heap[p]? = some (.cells (cells (keepF a c 10)) 28 (0, 0)) := (blk_set ((blk_set ((blk_set (H.out.1) 11 (.int .i64 c.gc))) 12 (.int .u64 c.ga))) 13 (.int .i64 c.gi))
  have hQ : ((((w3).setCell ⟨p, 11, none⟩ (.int .i64 c.gc)).setCell ⟨p, 12, none⟩ (.int .u64 c.ga)).setCell ⟨p, 13, none⟩ (.int .i64 c.gi)).heap[q]? = some (.cells (cells zCmd) 28 (0, 0)) := (blk_far ((blk_far ((blk_far (H.out.2.2.1) (p := ⟨p, 11, none⟩) H.out.2.2.2.2.2.1 (.int .i64 c.gc))) (p := ⟨p, 12, none⟩) H.out.2.2.2.2.2.1 (.int .u64 c.ga))) (p := ⟨p, 13, none⟩) H.out.2.2.2.2.2.1 (.int .i64 c.gi))
  have hBW : Below w.heap.size w ((((w3).setCell ⟨p, 11, none⟩ (.int .i64 c.gc)).setCell ⟨p, 12, none⟩ (.int .u64 c.ga)).setCell ⟨p, 13, none⟩ (.int .i64 c.gi)) := ((((((HB.out).setCell (p := ⟨p, 11, none⟩) H.out.2.2.2.2.2.2.1 (.int .i64 c.gc))).setCell (p := ⟨p, 12, none⟩) H.out.2.2.2.2.2.2.1 (.int .u64 c.ga))).setCell (p := ⟨p, 13, none⟩) H.out.2.2.2.2.2.2.1 (.int .i64 c.gi))
  obtain ⟨W, hW⟩ : ∃ W, (((w3).setCell ⟨p, 11, none⟩ (.int .i64 c.gc)).setCell ⟨p, 12, none⟩ (.int .u64 c.ga)).setCell ⟨p, 13, none⟩ (.int .i64 c.gi) = W := ⟨_, rfl⟩
  rw [hW] at hP hQ hBW ⊢
  rw [HD.out] at hP
  have HF := Aside0.mk (And.intro hP (And.intro hQ hBW))
  clear hP hQ hBW hW x11 y11 s11 x12 y12 s12 x13 y13 s13
  go_wp2_with (first
    | (refine wpList_load_row rfl 28 (.tmp 3) rfl p rfl 28 (cells d) (0, 0) _ HF.out.1 Try.underlying28 rfl info28 ?_; (simp only [Act.put]))
    | (refine wpList_store_row rfl 28 (.tmp 6) (.tmp 88) rfl q (cells d) rfl rfl 28 (cells zCmd) HF.out.2.1 info28 rfl (cells_one _) ?_; (simp only [Act.put]))
    | fail)
  have hfin := setRow_heap W q (cells zCmd) (cells d) 28 (0, 0) HF.out.2.1
  refine bodyPost_ret (results_cell_row rfl _ _ q 28 (cells d) (0, 0) _ rfl hfin Try.underlying28 rfl info28) rfl ?_
  exact ⟨rfl, below_setRow HF.out.2.2 H.out.2.2.2.2.2.2.2 _⟩
set_option maxHeartbeats 4000000 in
set_option maxRecDepth 100000 in
theorem rkeep11 (a c : Cmd) (w : World) : Calls Try.prog 22 #[.agg (cells a), .agg (cells c), .int .i64 11] w fun e w' => e = .returned (.agg (cells (keepF a c 11))) ∧ Below w.heap.size w w' := by
  obtain ⟨d, hd⟩ : ∃ d, keepF a c 11 = d := ⟨_, rfl⟩
  rw [hd]
  have HD := Aside0.mk hd
  clear hd
  have hA1 := blk_new w (.cells (cells a) 28)
  have hB1 := below_alloc (Below.refl w.heap.size w) (.cells (cells a) 28)
  obtain ⟨p, hp⟩ : ∃ p, w.heap.size = p := ⟨_, rfl⟩
  obtain ⟨w1, hw1⟩ : ∃ w1, w.alloc (.cells (cells a) 28) = w1 := ⟨_, rfl⟩
  rw [hw1] at hA1 hB1
  have hA2 := blk_new w1 (.cells (cells c) 28)
  have hB2 := below_alloc (Below.refl w1.heap.size w1) (.cells (cells c) 28)
  obtain ⟨g, hg⟩ : ∃ g, w1.heap.size = g := ⟨_, rfl⟩
  obtain ⟨w2, hw2⟩ : ∃ w2, w1.alloc (.cells (cells c) 28) = w2 := ⟨_, rfl⟩
  rw [hw2] at hA2 hB2
  have hA3 := blk_new w2 (.cells (cells zCmd) 28)
  have hB3 := below_alloc (Below.refl w2.heap.size w2) (.cells (cells zCmd) 28)
  obtain ⟨q, hq⟩ : ∃ q, w2.heap.size = q := ⟨_, rfl⟩
  obtain ⟨w3, hw3⟩ : ∃ w3, w2.alloc (.cells (cells zCmd) 28) = w3 := ⟨_, rfl⟩
  rw [hw3] at hA3 hB3
  have hw3' : w2.alloc (.cells #[.int .i64 0, .string ⟨#[]⟩, .string ⟨#[]⟩, .int .i64 0, .int .i64 0, .int .i64 0, .int .i64 0, .int .i64 0, .int .i64 0, .int .i64 0, .int .u64 0, .int .i64 0, .int .u64 0, .int .i64 0, .int .i64 0, .int .u64 0, .int .i64 0, .int .i64 0, .int .i64 0, .int .i64 0, .int .u64 0, .int .u64 0] 28) = w3 := hw3
  have hap := blk_below (blk_below hA1 hB2) hB3
  have hag := blk_below hA2 hB3
  have hne : p ≠ q ∧ g ≠ p ∧ q ≠ p ∧ w.heap.size ≤ p ∧ w.heap.size ≤ q := by
    have h1 := blk_lt hA1
    have h2 := blk_lt hA2
    omega
  rw [hp] at hap
  rw [hg] at hag
  rw [hq] at hA3
  have HB := Aside0.mk (below_step (below_step hB1 hB2) hB3)
  have H := Aside0.mk (And.intro hap (And.intro hag (And.intro hA3 hne)))
  have x14 : w3.cell? ⟨g, 14, none⟩ = some (.int .i64 c.wc) := cell_of hag 14
  have y14 : w3.cell? ⟨p, 14, none⟩ = some (.int .i64 a.wc) := cell_of hap 14
  have s14 : w3.frozen? ⟨p, 14, none⟩ = false := blk_frozen hap 14
  have x15 : w3.cell? ⟨g, 15, none⟩ = some (.int .u64 c.wa) := cell_of hag 15
  have y15 : w3.cell? ⟨p, 15, none⟩ = some (.int .u64 a.wa) := cell_of hap 15
  have s15 : w3.frozen? ⟨p, 15, none⟩ = false := blk_frozen hap 15
  have x16 : w3.cell? ⟨g, 16, none⟩ = some (.int .i64 c.wi) := cell_of hag 16
  have y16 : w3.cell? ⟨p, 16, none⟩ = some (.int .i64 a.wi) := cell_of hap 16
  have s16 : w3.frozen? ⟨p, 16, none⟩ = false := blk_frozen hap 16
  clear hA1 hB1 hA2 hB2 hA3 hB3 hap hag hne hw3
  go_enter Try.func22, Try.ntmps22
  go_upto_region 34 with fail
  have hP : ((((w3).setCell ⟨p, 14, none⟩ (.int .i64 c.wc)).setCell ⟨p, 15, none⟩ (.int .u64 c.wa)).setCell ⟨p, 16, none⟩ (.int .i64 c.wi)).heap[p]? = some (.cells (cells (keepF a c 11)) 28 (0, 0)) := (blk_set ((blk_set ((blk_set (H.out.1) 14 (.int .i64 c.wc))) 15 (.int .u64 c.wa))) 16 (.int .i64 c.wi))
  have hQ : ((((w3).setCell ⟨p, 14, none⟩ (.int .i64 c.wc)).setCell ⟨p, 15, none⟩ (.int .u64 c.wa)).setCell ⟨p, 16, none⟩ (.int .i64 c.wi)).heap[q]? = some (.cells (cells zCmd) 28 (0, 0)) := (blk_far ((blk_far ((blk_far (H.out.2.2.1) (p := ⟨p, 14, none⟩) H.out.2.2.2.2.2.1 (.int .i64 c.wc))) (p := ⟨p, 15, none⟩) H.out.2.2.2.2.2.1 (.int .u64 c.wa))) (p := ⟨p, 16, none⟩) H.out.2.2.2.2.2.1 (.int .i64 c.wi))
  have hBW : Below w.heap.size w ((((w3).setCell ⟨p, 14, none⟩ (.int .i64 c.wc)).setCell ⟨p, 15, none⟩ (.int .u64 c.wa)).setCell ⟨p, 16, none⟩ (.int .i64 c.wi)) := ((((((HB.out).setCell (p := ⟨p, 14, none⟩) H.out.2.2.2.2.2.2.1 (.int .i64 c.wc))).setCell (p := ⟨p, 15, none⟩) H.out.2.2.2.2.2.2.1 (.int .u64 c.wa))).setCell (p := ⟨p, 16, none⟩) H.out.2.2.2.2.2.2.1 (.int .i64 c.wi))
  obtain ⟨W, hW⟩ : ∃ W, (((w3).setCell ⟨p, 14, none⟩ (.int .i64 c.wc)).setCell ⟨p, 15, none⟩ (.int .u64 c.wa)).setCell ⟨p, 16, none⟩ (.int .i64 c.wi) = W := ⟨_, rfl⟩
  rw [hW] at hP hQ hBW ⊢
  rw [HD.out] at hP
  have HF := Aside0.mk (And.intro hP (And.intro hQ hBW))
  clear hP hQ hBW hW x14 y14 s14 x15 y15 s15 x16 y16 s16
  go_wp2_with (first
    | (refine wpList_load_row rfl 28 (.tmp 3) rfl p rfl 28 (cells d) (0, 0) _ HF.out.1 Try.underlying28 rfl info28 ?_; (simp only [Act.put]))
    | (refine wpList_store_row rfl 28 (.tmp 6) (.tmp 88) rfl q (cells d) rfl rfl 28 (cells zCmd) HF.out.2.1 info28 rfl (cells_one _) ?_; (simp only [Act.put]))
    | fail)
  have hfin := setRow_heap W q (cells zCmd) (cells d) 28 (0, 0) HF.out.2.1
  refine bodyPost_ret (results_cell_row rfl _ _ q 28 (cells d) (0, 0) _ rfl hfin Try.underlying28 rfl info28) rfl ?_
  exact ⟨rfl, below_setRow HF.out.2.2 H.out.2.2.2.2.2.2.2 _⟩
set_option maxHeartbeats 4000000 in
set_option maxRecDepth 100000 in
theorem rkeep12 (a c : Cmd) (w : World) : Calls Try.prog 22 #[.agg (cells a), .agg (cells c), .int .i64 12] w fun e w' => e = .returned (.agg (cells (keepF a c 12))) ∧ Below w.heap.size w w' := by
  obtain ⟨d, hd⟩ : ∃ d, keepF a c 12 = d := ⟨_, rfl⟩
  rw [hd]
  have HD := Aside0.mk hd
  clear hd
  have hA1 := blk_new w (.cells (cells a) 28)
  have hB1 := below_alloc (Below.refl w.heap.size w) (.cells (cells a) 28)
  obtain ⟨p, hp⟩ : ∃ p, w.heap.size = p := ⟨_, rfl⟩
  obtain ⟨w1, hw1⟩ : ∃ w1, w.alloc (.cells (cells a) 28) = w1 := ⟨_, rfl⟩
  rw [hw1] at hA1 hB1
  have hA2 := blk_new w1 (.cells (cells c) 28)
  have hB2 := below_alloc (Below.refl w1.heap.size w1) (.cells (cells c) 28)
  obtain ⟨g, hg⟩ : ∃ g, w1.heap.size = g := ⟨_, rfl⟩
  obtain ⟨w2, hw2⟩ : ∃ w2, w1.alloc (.cells (cells c) 28) = w2 := ⟨_, rfl⟩
  rw [hw2] at hA2 hB2
  have hA3 := blk_new w2 (.cells (cells zCmd) 28)
  have hB3 := below_alloc (Below.refl w2.heap.size w2) (.cells (cells zCmd) 28)
  obtain ⟨q, hq⟩ : ∃ q, w2.heap.size = q := ⟨_, rfl⟩
  obtain ⟨w3, hw3⟩ : ∃ w3, w2.alloc (.cells (cells zCmd) 28) = w3 := ⟨_, rfl⟩
  rw [hw3] at hA3 hB3
  have hw3' : w2.alloc (.cells #[.int .i64 0, .string ⟨#[]⟩, .string ⟨#[]⟩, .int .i64 0, .int .i64 0, .int .i64 0, .int .i64 0, .int .i64 0, .int .i64 0, .int .i64 0, .int .u64 0, .int .i64 0, .int .u64 0, .int .i64 0, .int .i64 0, .int .u64 0, .int .i64 0, .int .i64 0, .int .i64 0, .int .i64 0, .int .u64 0, .int .u64 0] 28) = w3 := hw3
  have hap := blk_below (blk_below hA1 hB2) hB3
  have hag := blk_below hA2 hB3
  have hne : p ≠ q ∧ g ≠ p ∧ q ≠ p ∧ w.heap.size ≤ p ∧ w.heap.size ≤ q := by
    have h1 := blk_lt hA1
    have h2 := blk_lt hA2
    omega
  rw [hp] at hap
  rw [hg] at hag
  rw [hq] at hA3
  have HB := Aside0.mk (below_step (below_step hB1 hB2) hB3)
  have H := Aside0.mk (And.intro hap (And.intro hag (And.intro hA3 hne)))
  have x17 : w3.cell? ⟨g, 17, none⟩ = some (.int .i64 c.si) := cell_of hag 17
  have y17 : w3.cell? ⟨p, 17, none⟩ = some (.int .i64 a.si) := cell_of hap 17
  have s17 : w3.frozen? ⟨p, 17, none⟩ = false := blk_frozen hap 17
  clear hA1 hB1 hA2 hB2 hA3 hB3 hap hag hne hw3
  go_enter Try.func22, Try.ntmps22
  go_upto_region 34 with fail
  have hP : ((w3).setCell ⟨p, 17, none⟩ (.int .i64 c.si)).heap[p]? = some (.cells (cells (keepF a c 12)) 28 (0, 0)) := (blk_set (H.out.1) 17 (.int .i64 c.si))
  have hQ : ((w3).setCell ⟨p, 17, none⟩ (.int .i64 c.si)).heap[q]? = some (.cells (cells zCmd) 28 (0, 0)) := (blk_far (H.out.2.2.1) (p := ⟨p, 17, none⟩) H.out.2.2.2.2.2.1 (.int .i64 c.si))
  have hBW : Below w.heap.size w ((w3).setCell ⟨p, 17, none⟩ (.int .i64 c.si)) := ((HB.out).setCell (p := ⟨p, 17, none⟩) H.out.2.2.2.2.2.2.1 (.int .i64 c.si))
  obtain ⟨W, hW⟩ : ∃ W, (w3).setCell ⟨p, 17, none⟩ (.int .i64 c.si) = W := ⟨_, rfl⟩
  rw [hW] at hP hQ hBW ⊢
  rw [HD.out] at hP
  have HF := Aside0.mk (And.intro hP (And.intro hQ hBW))
  clear hP hQ hBW hW x17 y17 s17
  go_wp2_with (first
    | (refine wpList_load_row rfl 28 (.tmp 3) rfl p rfl 28 (cells d) (0, 0) _ HF.out.1 Try.underlying28 rfl info28 ?_; (simp only [Act.put]))
    | (refine wpList_store_row rfl 28 (.tmp 6) (.tmp 88) rfl q (cells d) rfl rfl 28 (cells zCmd) HF.out.2.1 info28 rfl (cells_one _) ?_; (simp only [Act.put]))
    | fail)
  have hfin := setRow_heap W q (cells zCmd) (cells d) 28 (0, 0) HF.out.2.1
  refine bodyPost_ret (results_cell_row rfl _ _ q 28 (cells d) (0, 0) _ rfl hfin Try.underlying28 rfl info28) rfl ?_
  exact ⟨rfl, below_setRow HF.out.2.2 H.out.2.2.2.2.2.2.2 _⟩
set_option maxHeartbeats 4000000 in
set_option maxRecDepth 100000 in
theorem rkeep13 (a c : Cmd) (w : World) : Calls Try.prog 22 #[.agg (cells a), .agg (cells c), .int .i64 13] w fun e w' => e = .returned (.agg (cells (keepF a c 13))) ∧ Below w.heap.size w w' := by
  obtain ⟨d, hd⟩ : ∃ d, keepF a c 13 = d := ⟨_, rfl⟩
  rw [hd]
  have HD := Aside0.mk hd
  clear hd
  have hA1 := blk_new w (.cells (cells a) 28)
  have hB1 := below_alloc (Below.refl w.heap.size w) (.cells (cells a) 28)
  obtain ⟨p, hp⟩ : ∃ p, w.heap.size = p := ⟨_, rfl⟩
  obtain ⟨w1, hw1⟩ : ∃ w1, w.alloc (.cells (cells a) 28) = w1 := ⟨_, rfl⟩
  rw [hw1] at hA1 hB1
  have hA2 := blk_new w1 (.cells (cells c) 28)
  have hB2 := below_alloc (Below.refl w1.heap.size w1) (.cells (cells c) 28)
  obtain ⟨g, hg⟩ : ∃ g, w1.heap.size = g := ⟨_, rfl⟩
  obtain ⟨w2, hw2⟩ : ∃ w2, w1.alloc (.cells (cells c) 28) = w2 := ⟨_, rfl⟩
  rw [hw2] at hA2 hB2
  have hA3 := blk_new w2 (.cells (cells zCmd) 28)
  have hB3 := below_alloc (Below.refl w2.heap.size w2) (.cells (cells zCmd) 28)
  obtain ⟨q, hq⟩ : ∃ q, w2.heap.size = q := ⟨_, rfl⟩
  obtain ⟨w3, hw3⟩ : ∃ w3, w2.alloc (.cells (cells zCmd) 28) = w3 := ⟨_, rfl⟩
  rw [hw3] at hA3 hB3
  have hw3' : w2.alloc (.cells #[.int .i64 0, .string ⟨#[]⟩, .string ⟨#[]⟩, .int .i64 0, .int .i64 0, .int .i64 0, .int .i64 0, .int .i64 0, .int .i64 0, .int .i64 0, .int .u64 0, .int .i64 0, .int .u64 0, .int .i64 0, .int .i64 0, .int .u64 0, .int .i64 0, .int .i64 0, .int .i64 0, .int .i64 0, .int .u64 0, .int .u64 0] 28) = w3 := hw3
  have hap := blk_below (blk_below hA1 hB2) hB3
  have hag := blk_below hA2 hB3
  have hne : p ≠ q ∧ g ≠ p ∧ q ≠ p ∧ w.heap.size ≤ p ∧ w.heap.size ≤ q := by
    have h1 := blk_lt hA1
    have h2 := blk_lt hA2
    omega
  rw [hp] at hap
  rw [hg] at hag
  rw [hq] at hA3
  have HB := Aside0.mk (below_step (below_step hB1 hB2) hB3)
  have H := Aside0.mk (And.intro hap (And.intro hag (And.intro hA3 hne)))
  have x18 : w3.cell? ⟨g, 18, none⟩ = some (.int .i64 c.ba) := cell_of hag 18
  have y18 : w3.cell? ⟨p, 18, none⟩ = some (.int .i64 a.ba) := cell_of hap 18
  have s18 : w3.frozen? ⟨p, 18, none⟩ = false := blk_frozen hap 18
  clear hA1 hB1 hA2 hB2 hA3 hB3 hap hag hne hw3
  go_enter Try.func22, Try.ntmps22
  go_upto_region 34 with fail
  have hP : ((w3).setCell ⟨p, 18, none⟩ (.int .i64 c.ba)).heap[p]? = some (.cells (cells (keepF a c 13)) 28 (0, 0)) := (blk_set (H.out.1) 18 (.int .i64 c.ba))
  have hQ : ((w3).setCell ⟨p, 18, none⟩ (.int .i64 c.ba)).heap[q]? = some (.cells (cells zCmd) 28 (0, 0)) := (blk_far (H.out.2.2.1) (p := ⟨p, 18, none⟩) H.out.2.2.2.2.2.1 (.int .i64 c.ba))
  have hBW : Below w.heap.size w ((w3).setCell ⟨p, 18, none⟩ (.int .i64 c.ba)) := ((HB.out).setCell (p := ⟨p, 18, none⟩) H.out.2.2.2.2.2.2.1 (.int .i64 c.ba))
  obtain ⟨W, hW⟩ : ∃ W, (w3).setCell ⟨p, 18, none⟩ (.int .i64 c.ba) = W := ⟨_, rfl⟩
  rw [hW] at hP hQ hBW ⊢
  rw [HD.out] at hP
  have HF := Aside0.mk (And.intro hP (And.intro hQ hBW))
  clear hP hQ hBW hW x18 y18 s18
  go_wp2_with (first
    | (refine wpList_load_row rfl 28 (.tmp 3) rfl p rfl 28 (cells d) (0, 0) _ HF.out.1 Try.underlying28 rfl info28 ?_; (simp only [Act.put]))
    | (refine wpList_store_row rfl 28 (.tmp 6) (.tmp 88) rfl q (cells d) rfl rfl 28 (cells zCmd) HF.out.2.1 info28 rfl (cells_one _) ?_; (simp only [Act.put]))
    | fail)
  have hfin := setRow_heap W q (cells zCmd) (cells d) 28 (0, 0) HF.out.2.1
  refine bodyPost_ret (results_cell_row rfl _ _ q 28 (cells d) (0, 0) _ rfl hfin Try.underlying28 rfl info28) rfl ?_
  exact ⟨rfl, below_setRow HF.out.2.2 H.out.2.2.2.2.2.2.2 _⟩
set_option maxHeartbeats 4000000 in
set_option maxRecDepth 100000 in
theorem rkeep14 (a c : Cmd) (w : World) : Calls Try.prog 22 #[.agg (cells a), .agg (cells c), .int .i64 14] w fun e w' => e = .returned (.agg (cells (keepF a c 14))) ∧ Below w.heap.size w w' := by
  obtain ⟨d, hd⟩ : ∃ d, keepF a c 14 = d := ⟨_, rfl⟩
  rw [hd]
  have HD := Aside0.mk hd
  clear hd
  have hA1 := blk_new w (.cells (cells a) 28)
  have hB1 := below_alloc (Below.refl w.heap.size w) (.cells (cells a) 28)
  obtain ⟨p, hp⟩ : ∃ p, w.heap.size = p := ⟨_, rfl⟩
  obtain ⟨w1, hw1⟩ : ∃ w1, w.alloc (.cells (cells a) 28) = w1 := ⟨_, rfl⟩
  rw [hw1] at hA1 hB1
  have hA2 := blk_new w1 (.cells (cells c) 28)
  have hB2 := below_alloc (Below.refl w1.heap.size w1) (.cells (cells c) 28)
  obtain ⟨g, hg⟩ : ∃ g, w1.heap.size = g := ⟨_, rfl⟩
  obtain ⟨w2, hw2⟩ : ∃ w2, w1.alloc (.cells (cells c) 28) = w2 := ⟨_, rfl⟩
  rw [hw2] at hA2 hB2
  have hA3 := blk_new w2 (.cells (cells zCmd) 28)
  have hB3 := below_alloc (Below.refl w2.heap.size w2) (.cells (cells zCmd) 28)
  obtain ⟨q, hq⟩ : ∃ q, w2.heap.size = q := ⟨_, rfl⟩
  obtain ⟨w3, hw3⟩ : ∃ w3, w2.alloc (.cells (cells zCmd) 28) = w3 := ⟨_, rfl⟩
  rw [hw3] at hA3 hB3
  have hw3' : w2.alloc (.cells #[.int .i64 0, .string ⟨#[]⟩, .string ⟨#[]⟩, .int .i64 0, .int .i64 0, .int .i64 0, .int .i64 0, .int .i64 0, .int .i64 0, .int .i64 0, .int .u64 0, .int .i64 0, .int .u64 0, .int .i64 0, .int .i64 0, .int .u64 0, .int .i64 0, .int .i64 0, .int .i64 0, .int .i64 0, .int .u64 0, .int .u64 0] 28) = w3 := hw3
  have hap := blk_below (blk_below hA1 hB2) hB3
  have hag := blk_below hA2 hB3
  have hne : p ≠ q ∧ g ≠ p ∧ q ≠ p ∧ w.heap.size ≤ p ∧ w.heap.size ≤ q := by
    have h1 := blk_lt hA1
    have h2 := blk_lt hA2
    omega
  rw [hp] at hap
  rw [hg] at hag
  rw [hq] at hA3
  have HB := Aside0.mk (below_step (below_step hB1 hB2) hB3)
  have H := Aside0.mk (And.intro hap (And.intro hag (And.intro hA3 hne)))
  have x19 : w3.cell? ⟨g, 19, none⟩ = some (.int .i64 c.qu) := cell_of hag 19
  have y19 : w3.cell? ⟨p, 19, none⟩ = some (.int .i64 a.qu) := cell_of hap 19
  have s19 : w3.frozen? ⟨p, 19, none⟩ = false := blk_frozen hap 19
  clear hA1 hB1 hA2 hB2 hA3 hB3 hap hag hne hw3
  go_enter Try.func22, Try.ntmps22
  go_upto_region 34 with fail
  have hP : ((w3).setCell ⟨p, 19, none⟩ (.int .i64 c.qu)).heap[p]? = some (.cells (cells (keepF a c 14)) 28 (0, 0)) := (blk_set (H.out.1) 19 (.int .i64 c.qu))
  have hQ : ((w3).setCell ⟨p, 19, none⟩ (.int .i64 c.qu)).heap[q]? = some (.cells (cells zCmd) 28 (0, 0)) := (blk_far (H.out.2.2.1) (p := ⟨p, 19, none⟩) H.out.2.2.2.2.2.1 (.int .i64 c.qu))
  have hBW : Below w.heap.size w ((w3).setCell ⟨p, 19, none⟩ (.int .i64 c.qu)) := ((HB.out).setCell (p := ⟨p, 19, none⟩) H.out.2.2.2.2.2.2.1 (.int .i64 c.qu))
  obtain ⟨W, hW⟩ : ∃ W, (w3).setCell ⟨p, 19, none⟩ (.int .i64 c.qu) = W := ⟨_, rfl⟩
  rw [hW] at hP hQ hBW ⊢
  rw [HD.out] at hP
  have HF := Aside0.mk (And.intro hP (And.intro hQ hBW))
  clear hP hQ hBW hW x19 y19 s19
  go_wp2_with (first
    | (refine wpList_load_row rfl 28 (.tmp 3) rfl p rfl 28 (cells d) (0, 0) _ HF.out.1 Try.underlying28 rfl info28 ?_; (simp only [Act.put]))
    | (refine wpList_store_row rfl 28 (.tmp 6) (.tmp 88) rfl q (cells d) rfl rfl 28 (cells zCmd) HF.out.2.1 info28 rfl (cells_one _) ?_; (simp only [Act.put]))
    | fail)
  have hfin := setRow_heap W q (cells zCmd) (cells d) 28 (0, 0) HF.out.2.1
  refine bodyPost_ret (results_cell_row rfl _ _ q 28 (cells d) (0, 0) _ rfl hfin Try.underlying28 rfl info28) rfl ?_
  exact ⟨rfl, below_setRow HF.out.2.2 H.out.2.2.2.2.2.2.2 _⟩
set_option maxHeartbeats 4000000 in
set_option maxRecDepth 100000 in
theorem rkeep15 (a c : Cmd) (w : World) : Calls Try.prog 22 #[.agg (cells a), .agg (cells c), .int .i64 15] w fun e w' => e = .returned (.agg (cells (keepF a c 15))) ∧ Below w.heap.size w w' := by
  obtain ⟨d, hd⟩ : ∃ d, keepF a c 15 = d := ⟨_, rfl⟩
  rw [hd]
  have HD := Aside0.mk hd
  clear hd
  have hA1 := blk_new w (.cells (cells a) 28)
  have hB1 := below_alloc (Below.refl w.heap.size w) (.cells (cells a) 28)
  obtain ⟨p, hp⟩ : ∃ p, w.heap.size = p := ⟨_, rfl⟩
  obtain ⟨w1, hw1⟩ : ∃ w1, w.alloc (.cells (cells a) 28) = w1 := ⟨_, rfl⟩
  rw [hw1] at hA1 hB1
  have hA2 := blk_new w1 (.cells (cells c) 28)
  have hB2 := below_alloc (Below.refl w1.heap.size w1) (.cells (cells c) 28)
  obtain ⟨g, hg⟩ : ∃ g, w1.heap.size = g := ⟨_, rfl⟩
  obtain ⟨w2, hw2⟩ : ∃ w2, w1.alloc (.cells (cells c) 28) = w2 := ⟨_, rfl⟩
  rw [hw2] at hA2 hB2
  have hA3 := blk_new w2 (.cells (cells zCmd) 28)
  have hB3 := below_alloc (Below.refl w2.heap.size w2) (.cells (cells zCmd) 28)
  obtain ⟨q, hq⟩ : ∃ q, w2.heap.size = q := ⟨_, rfl⟩
  obtain ⟨w3, hw3⟩ : ∃ w3, w2.alloc (.cells (cells zCmd) 28) = w3 := ⟨_, rfl⟩
  rw [hw3] at hA3 hB3
  have hw3' : w2.alloc (.cells #[.int .i64 0, .string ⟨#[]⟩, .string ⟨#[]⟩, .int .i64 0, .int .i64 0, .int .i64 0, .int .i64 0, .int .i64 0, .int .i64 0, .int .i64 0, .int .u64 0, .int .i64 0, .int .u64 0, .int .i64 0, .int .i64 0, .int .u64 0, .int .i64 0, .int .i64 0, .int .i64 0, .int .i64 0, .int .u64 0, .int .u64 0] 28) = w3 := hw3
  have hap := blk_below (blk_below hA1 hB2) hB3
  have hag := blk_below hA2 hB3
  have hne : p ≠ q ∧ g ≠ p ∧ q ≠ p ∧ w.heap.size ≤ p ∧ w.heap.size ≤ q := by
    have h1 := blk_lt hA1
    have h2 := blk_lt hA2
    omega
  rw [hp] at hap
  rw [hg] at hag
  rw [hq] at hA3
  have HB := Aside0.mk (below_step (below_step hB1 hB2) hB3)
  have H := Aside0.mk (And.intro hap (And.intro hag (And.intro hA3 hne)))
  have x20 : w3.cell? ⟨g, 20, none⟩ = some (.int .u64 c.qt) := cell_of hag 20
  have y20 : w3.cell? ⟨p, 20, none⟩ = some (.int .u64 a.qt) := cell_of hap 20
  have s20 : w3.frozen? ⟨p, 20, none⟩ = false := blk_frozen hap 20
  clear hA1 hB1 hA2 hB2 hA3 hB3 hap hag hne hw3
  go_enter Try.func22, Try.ntmps22
  go_upto_region 34 with fail
  have hP : ((w3).setCell ⟨p, 20, none⟩ (.int .u64 c.qt)).heap[p]? = some (.cells (cells (keepF a c 15)) 28 (0, 0)) := (blk_set (H.out.1) 20 (.int .u64 c.qt))
  have hQ : ((w3).setCell ⟨p, 20, none⟩ (.int .u64 c.qt)).heap[q]? = some (.cells (cells zCmd) 28 (0, 0)) := (blk_far (H.out.2.2.1) (p := ⟨p, 20, none⟩) H.out.2.2.2.2.2.1 (.int .u64 c.qt))
  have hBW : Below w.heap.size w ((w3).setCell ⟨p, 20, none⟩ (.int .u64 c.qt)) := ((HB.out).setCell (p := ⟨p, 20, none⟩) H.out.2.2.2.2.2.2.1 (.int .u64 c.qt))
  obtain ⟨W, hW⟩ : ∃ W, (w3).setCell ⟨p, 20, none⟩ (.int .u64 c.qt) = W := ⟨_, rfl⟩
  rw [hW] at hP hQ hBW ⊢
  rw [HD.out] at hP
  have HF := Aside0.mk (And.intro hP (And.intro hQ hBW))
  clear hP hQ hBW hW x20 y20 s20
  go_wp2_with (first
    | (refine wpList_load_row rfl 28 (.tmp 3) rfl p rfl 28 (cells d) (0, 0) _ HF.out.1 Try.underlying28 rfl info28 ?_; (simp only [Act.put]))
    | (refine wpList_store_row rfl 28 (.tmp 6) (.tmp 88) rfl q (cells d) rfl rfl 28 (cells zCmd) HF.out.2.1 info28 rfl (cells_one _) ?_; (simp only [Act.put]))
    | fail)
  have hfin := setRow_heap W q (cells zCmd) (cells d) 28 (0, 0) HF.out.2.1
  refine bodyPost_ret (results_cell_row rfl _ _ q 28 (cells d) (0, 0) _ rfl hfin Try.underlying28 rfl info28) rfl ?_
  exact ⟨rfl, below_setRow HF.out.2.2 H.out.2.2.2.2.2.2.2 _⟩
set_option maxHeartbeats 4000000 in
set_option maxRecDepth 100000 in
theorem rkeep16 (a c : Cmd) (w : World) : Calls Try.prog 22 #[.agg (cells a), .agg (cells c), .int .i64 16] w fun e w' => e = .returned (.agg (cells (keepF a c 16))) ∧ Below w.heap.size w w' := by
  obtain ⟨d, hd⟩ : ∃ d, keepF a c 16 = d := ⟨_, rfl⟩
  rw [hd]
  have HD := Aside0.mk hd
  clear hd
  have hA1 := blk_new w (.cells (cells a) 28)
  have hB1 := below_alloc (Below.refl w.heap.size w) (.cells (cells a) 28)
  obtain ⟨p, hp⟩ : ∃ p, w.heap.size = p := ⟨_, rfl⟩
  obtain ⟨w1, hw1⟩ : ∃ w1, w.alloc (.cells (cells a) 28) = w1 := ⟨_, rfl⟩
  rw [hw1] at hA1 hB1
  have hA2 := blk_new w1 (.cells (cells c) 28)
  have hB2 := below_alloc (Below.refl w1.heap.size w1) (.cells (cells c) 28)
  obtain ⟨g, hg⟩ : ∃ g, w1.heap.size = g := ⟨_, rfl⟩
  obtain ⟨w2, hw2⟩ : ∃ w2, w1.alloc (.cells (cells c) 28) = w2 := ⟨_, rfl⟩
  rw [hw2] at hA2 hB2
  have hA3 := blk_new w2 (.cells (cells zCmd) 28)
  have hB3 := below_alloc (Below.refl w2.heap.size w2) (.cells (cells zCmd) 28)
  obtain ⟨q, hq⟩ : ∃ q, w2.heap.size = q := ⟨_, rfl⟩
  obtain ⟨w3, hw3⟩ : ∃ w3, w2.alloc (.cells (cells zCmd) 28) = w3 := ⟨_, rfl⟩
  rw [hw3] at hA3 hB3
  have hw3' : w2.alloc (.cells #[.int .i64 0, .string ⟨#[]⟩, .string ⟨#[]⟩, .int .i64 0, .int .i64 0, .int .i64 0, .int .i64 0, .int .i64 0, .int .i64 0, .int .i64 0, .int .u64 0, .int .i64 0, .int .u64 0, .int .i64 0, .int .i64 0, .int .u64 0, .int .i64 0, .int .i64 0, .int .i64 0, .int .i64 0, .int .u64 0, .int .u64 0] 28) = w3 := hw3
  have hap := blk_below (blk_below hA1 hB2) hB3
  have hag := blk_below hA2 hB3
  have hne : p ≠ q ∧ g ≠ p ∧ q ≠ p ∧ w.heap.size ≤ p ∧ w.heap.size ≤ q := by
    have h1 := blk_lt hA1
    have h2 := blk_lt hA2
    omega
  rw [hp] at hap
  rw [hg] at hag
  rw [hq] at hA3
  have HB := Aside0.mk (below_step (below_step hB1 hB2) hB3)
  have H := Aside0.mk (And.intro hap (And.intro hag (And.intro hA3 hne)))
  have x21 : w3.cell? ⟨g, 21, none⟩ = some (.int .u64 c.pr) := cell_of hag 21
  have y21 : w3.cell? ⟨p, 21, none⟩ = some (.int .u64 a.pr) := cell_of hap 21
  have s21 : w3.frozen? ⟨p, 21, none⟩ = false := blk_frozen hap 21
  clear hA1 hB1 hA2 hB2 hA3 hB3 hap hag hne hw3
  go_enter Try.func22, Try.ntmps22
  go_upto_region 34 with fail
  have hP : ((w3).setCell ⟨p, 21, none⟩ (.int .u64 c.pr)).heap[p]? = some (.cells (cells (keepF a c 16)) 28 (0, 0)) := (blk_set (H.out.1) 21 (.int .u64 c.pr))
  have hQ : ((w3).setCell ⟨p, 21, none⟩ (.int .u64 c.pr)).heap[q]? = some (.cells (cells zCmd) 28 (0, 0)) := (blk_far (H.out.2.2.1) (p := ⟨p, 21, none⟩) H.out.2.2.2.2.2.1 (.int .u64 c.pr))
  have hBW : Below w.heap.size w ((w3).setCell ⟨p, 21, none⟩ (.int .u64 c.pr)) := ((HB.out).setCell (p := ⟨p, 21, none⟩) H.out.2.2.2.2.2.2.1 (.int .u64 c.pr))
  obtain ⟨W, hW⟩ : ∃ W, (w3).setCell ⟨p, 21, none⟩ (.int .u64 c.pr) = W := ⟨_, rfl⟩
  rw [hW] at hP hQ hBW ⊢
  rw [HD.out] at hP
  have HF := Aside0.mk (And.intro hP (And.intro hQ hBW))
  clear hP hQ hBW hW x21 y21 s21
  go_wp2_with (first
    | (refine wpList_load_row rfl 28 (.tmp 3) rfl p rfl 28 (cells d) (0, 0) _ HF.out.1 Try.underlying28 rfl info28 ?_; (simp only [Act.put]))
    | (refine wpList_store_row rfl 28 (.tmp 6) (.tmp 88) rfl q (cells d) rfl rfl 28 (cells zCmd) HF.out.2.1 info28 rfl (cells_one _) ?_; (simp only [Act.put]))
    | fail)
  have hfin := setRow_heap W q (cells zCmd) (cells d) 28 (0, 0) HF.out.2.1
  refine bodyPost_ret (results_cell_row rfl _ _ q 28 (cells d) (0, 0) _ rfl hfin Try.underlying28 rfl info28) rfl ?_
  exact ⟨rfl, below_setRow HF.out.2.2 H.out.2.2.2.2.2.2.2 _⟩
theorem rkeep_calls (a c : Cmd) (w : World) (f : Nat) (h1 : 1 ≤ f) (h2 : f ≤ 16) : Calls Try.prog 22 #[.agg (cells a), .agg (cells c), .int .i64 f] w fun e w' => e = .returned (.agg (cells (keepF a c f))) ∧ Below w.heap.size w w' := by
  have hf : f = 1 ∨ f = 2 ∨ f = 3 ∨ f = 4 ∨ f = 5 ∨ f = 6 ∨ f = 7 ∨ f = 8 ∨ f = 9 ∨ f = 10 ∨ f = 11 ∨ f = 12 ∨ f = 13 ∨ f = 14 ∨ f = 15 ∨ f = 16 := by omega
  rcases hf with rfl | rfl | rfl | rfl | rfl | rfl | rfl | rfl | rfl | rfl | rfl | rfl | rfl | rfl | rfl | rfl
  · exact rkeep1 a c w
  · exact rkeep2 a c w
  · exact rkeep3 a c w
  · exact rkeep4 a c w
  · exact rkeep5 a c w
  · exact rkeep6 a c w
  · exact rkeep7 a c w
  · exact rkeep8 a c w
  · exact rkeep9 a c w
  · exact rkeep10 a c w
  · exact rkeep11 a c w
  · exact rkeep12 a c w
  · exact rkeep13 a c w
  · exact rkeep14 a c w
  · exact rkeep15 a c w
  · exact rkeep16 a c w
end Go.Proofs.Ytfaicipochceeaa.Giv
