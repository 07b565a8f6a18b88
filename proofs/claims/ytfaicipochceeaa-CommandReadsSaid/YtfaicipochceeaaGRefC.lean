/- The reference's scan: a side of a trade. -/
import Derived.Test.YtfaicipochceeaaGRefB
namespace Go.Proofs.Ytfaicipochceeaa.Giv
open Go.Lib Go.RowKit Go.Proofs.YtfaicipochceeaaW.PrintWords Go.Proofs.YtfaicipochceeaaW.PrintLast Go.Proofs.YtfaicipochceeaaW.PrintMore
set_option linter.unusedVariables false
set_option linter.unusedSimpArgs false
theorem Keep1.setNew {w W : World} {g b : Nat} (h : Keep1 w W g) (hb : w.heap.size ≤ b) (i : Nat) (u : Value) : Keep1 w (W.setCell ⟨b, i, none⟩ u) g :=
  ⟨⟨by simpa [World.setCell] using h.keep.1, fun k hk hg hr => (Below.heap_setCell W ⟨b, i, none⟩ u k (by show k ≠ b; omega)).trans (h.keep.2 k hk hg hr)⟩, h.os, h.tape, h.output⟩
theorem Keep1.setRowNew {w W : World} {g b : Nat} (h : Keep1 w W g) (hb : w.heap.size ≤ b) (cs : Array Value) : Keep1 w (W.setRow b cs) g :=
  ⟨⟨by simpa [World.setRow] using h.keep.1, fun k hk hg hr => (setRow_other W b k cs (by omega)).trans (h.keep.2 k hk hg hr)⟩, h.os, h.tape, h.output⟩
theorem RS.setFar {w0 w : World} {g b : Nat} {l : List Int} {f : Int} (h : RS w0 w g l f) (hne : b ≠ g) (hlo : w0.heap.size ≤ b) (i : Nat) (u : Value) : RS w0 (w.setCell ⟨b, i, none⟩ u) g l f := by
  obtain ⟨hb, hl, A, bb, c, p, hblk, hr⟩ := h
  exact ⟨hb.setCell (p := ⟨b, i, none⟩) hlo u, hl, A, bb, c, p, blk_far hblk (p := ⟨b, i, none⟩) (fun e => hne e.symm) u, hr⟩
theorem RS.setRowFar {w0 w : World} {g b : Nat} {l : List Int} {f : Int} (h : RS w0 w g l f) (hne : b ≠ g) (hlo : w0.heap.size ≤ b) (cs : Array Value) : RS w0 (w.setRow b cs) g l f := by
  obtain ⟨hb, hl, A, bb, c, p, hblk, hr⟩ := h
  exact ⟨below_setRow hb hlo cs, hl, A, bb, c, p, (setRow_other w b g cs (fun e => hne e.symm)).trans hblk, hr⟩
def sideC (x : Sc) : (Nat × Nat × Int) × Sc :=
  let y := scNum x 1; let z := scNum y.2 8; let u := scNum z.2 1
  ((y.1, z.1, itemI u.1), u.2)
abbrev pcells (co am it : Int) : Array Value := #[.int .i64 co, .int .u64 am, .int .i64 it]
theorem info26 : (Try.prog.info? 26).map (·.size) = some 3 := by kernel_rfl
/-- The walk of a side: the scan in g, the results' block q, the part's block b. -/
structure SS (w0 w W : World) (g q b : Nat) (co am it : Int) (x : Sc) : Prop where
  rs : RS w0 W g x.1 x.2
  kp : Keep1 w W g
  qk : W.heap[q]? = some (.cells (pcells 0 0 0) 26 (0, 0))
  bk : W.heap[b]? = some (.cells (pcells co am it) 26 (0, 0))
  ne : q ≠ g ∧ b ≠ g ∧ q ≠ b ∧ w.heap.size ≤ q ∧ w.heap.size ≤ b ∧ w0.heap.size ≤ q ∧ w0.heap.size ≤ b
theorem SS.k1 {w0 w W W2 : World} {g q b : Nat} {co am it : Int} {x y : Sc} (h : SS w0 w W g q b co am it x) (hr : RS w0 W2 g y.1 y.2) (k : Keep1 W W2 g) : SS w0 w W2 g q b co am it y :=
  ⟨hr, h.kp.trans k, blk_k1 h.qk k h.ne.1, blk_k1 h.bk k h.ne.2.1, h.ne⟩
theorem SS.set1 {w0 w W : World} {g q b : Nat} {co am it : Int} {x : Sc} (h : SS w0 w W g q b co am it x) (v : Int) : SS w0 w (W.setCell ⟨b, 1, none⟩ (.int .u64 v)) g q b co v it x :=
  ⟨h.rs.setFar h.ne.2.1 h.ne.2.2.2.2.2.2 _ _, h.kp.setNew h.ne.2.2.2.2.1 _ _, blk_far h.qk (p := ⟨b, 1, none⟩) h.ne.2.2.1 _, blk_set h.bk 1 _, h.ne⟩
theorem SS.set2 {w0 w W : World} {g q b : Nat} {co am it : Int} {x : Sc} (h : SS w0 w W g q b co am it x) (v : Int) : SS w0 w (W.setCell ⟨b, 2, none⟩ (.int .i64 v)) g q b co am v x :=
  ⟨h.rs.setFar h.ne.2.1 h.ne.2.2.2.2.2.2 _ _, h.kp.setNew h.ne.2.2.2.2.1 _ _, blk_far h.qk (p := ⟨b, 2, none⟩) h.ne.2.2.1 _, blk_set h.bk 2 _, h.ne⟩
set_option maxHeartbeats 4000000 in
set_option maxRecDepth 100000 in
theorem RSide_at {w0 w : World} {g : Nat} {x : Sc} (hb : bytesOk x.1) (h : RS w0 w g x.1 x.2) (co am : Nat) (it : Int) (y : Sc) (hy : sideC x = ((co, am, it), y)) :
    Calls Try.prog 57 #[.pointer (some ⟨g, 0, none⟩)] w fun e w' => e = .returned (.agg #[.int .i64 co, .int .u64 am, .int .i64 it]) ∧ RS w0 w' g y.1 y.2 ∧ Keep1 w w' g := by
  obtain ⟨⟨n1, x1⟩, h1⟩ : ∃ z, scNum x 1 = z := ⟨_, rfl⟩
  obtain ⟨⟨n2, x2⟩, h2⟩ : ∃ z, scNum x1 8 = z := ⟨_, rfl⟩
  obtain ⟨⟨n3, x3⟩, h3⟩ : ∃ z, scNum x2 1 = z := ⟨_, rfl⟩
  have o1 := scNum_ok hb h1
  have o2 := scNum_ok o1 h2
  have lt3 := scNum_lt1 o2 h3
  unfold sideC at hy
  simp only [h1, h2, h3, Prod.mk.injEq] at hy
  obtain ⟨⟨rfl, rfl, hit⟩, rfl⟩ := hy
  have H := Aside0.mk (And.intro hb (And.intro h (And.intro h1 (And.intro o1 (And.intro h2 (And.intro o2 (And.intro h3 hit)))))))
  have hn3 : (n3 : Int) ≤ 255 := by omega
  -- the results' block
  have hA := blk_new w (.cells (pcells 0 0 0) 26)
  have hBA := below_alloc (Below.refl w.heap.size w) (.cells (pcells 0 0 0) 26)
  obtain ⟨q, hq⟩ : ∃ q, w.heap.size = q := ⟨_, rfl⟩
  obtain ⟨w1, hw1⟩ : ∃ w1, w.alloc (.cells (pcells 0 0 0) 26) = w1 := ⟨_, rfl⟩
  rw [hw1] at hA hBA
  rw [hq] at hA
  have hw1' : w.alloc (.cells #[.int .i64 0, .int .u64 0, .int .i64 0] 26) = w1 := hw1
  have HA := Aside0.mk (And.intro hA (And.intro (h.belowS hBA) (And.intro (Keep1.of_below hBA g) (And.intro hq (And.intro h.lt (And.intro h.below.size hBA.size))))))
  clear hb h h1 h2 h3 o1 o2 lt3 hit hA hBA hw1
  go_enter Try.func57, Try.ntmps57
  go_wp2_with fail
  refine (ROne_at H.out.1 HA.out.2.1 n1 x1 H.out.2.2.1).mono ?_
  rintro e w2 ⟨rfl, hS2, hK2⟩
  obtain ⟨b, hbk⟩ : ∃ b, w2.heap.size = b := ⟨_, rfl⟩
  have HBK := Aside0.mk hbk
  have HK2 := Aside0.mk (And.intro hS2 (And.intro hK2 (blk_k1 HA.out.1 hK2 (by have := HA.out; omega))))
  clear hS2 hK2
  go_upto_region 2 with (first
    | (refine wpList_store_row rfl 26 (.tmp 3) (.tmp 6) rfl b (pcells n1 0 0) rfl rfl 26 (pcells 0 0 0) ?hg info26 rfl (by simp [Value.oneCell']) ?_; (case hg => rw [← HBK.out]; exact blk_new _ _); (simp only [Act.put]))
    | fail)
  have hrow : ∀ z : Array Value, (w2.alloc (.cells z 26)).setRow b (pcells n1 0 0) = w2.alloc (.cells (pcells n1 0 0) 26) := fun z => by rw [← HBK.out]; exact World.setRow_alloc_new _ _ _ _
  rw [hrow]
  have hb3 := blk_new w2 (.cells (pcells n1 0 0) 26)
  have hB3 := below_alloc (Below.refl w2.heap.size w2) (.cells (pcells n1 0 0) 26)
  obtain ⟨w3, hw3⟩ : ∃ w3, w2.alloc (.cells (pcells n1 0 0) 26) = w3 := ⟨_, rfl⟩
  rw [hw3, HBK.out] at hb3
  rw [hw3] at hB3 ⊢
  have S3 : Aside0 (SS w0 w w3 g q b n1 0 0 x1) := ⟨⟨HK2.out.1.belowS hB3, (HA.out.2.2.1.trans HK2.out.2.1).trans (Keep1.of_below hB3 g), blk_below HK2.out.2.2 hB3, hb3, by
    have h1 := HA.out
    have h2 := HK2.out.1.lt
    have h3 := blk_lt HK2.out.2.2
    have h4 := HBK.out
    omega⟩⟩
  clear hrow hb3 hB3 hw3 hbk
  go_wp2_with fail
  refine (RSNum_at 8 8 rfl H.out.2.2.2.1 S3.out.rs n2 x2 H.out.2.2.2.2.1).mono ?_
  rintro e w4 ⟨rfl, hS4, hK4⟩
  have S4 := Aside0.mk (S3.out.k1 hS4 hK4)
  have c1 : w4.cell? ⟨b, 1, none⟩ = some (.int .u64 0) := blk_cell S4.out.bk 1
  have z1 : w4.frozen? ⟨b, 1, none⟩ = false := blk_frozen S4.out.bk 1
  clear hS4 hK4 S3
  go_upto_region 3 with fail
  have S5 := Aside0.mk (S4.out.set1 n2)
  obtain ⟨w5, hw5⟩ : ∃ w5, w4.setCell ⟨b, 1, none⟩ (.int .u64 n2) = w5 := ⟨_, rfl⟩
  rw [hw5] at S5 ⊢
  clear hw5 c1 z1 S4
  go_wp2_with fail
  refine (ROne_at H.out.2.2.2.2.2.1 S5.out.rs n3 x3 H.out.2.2.2.2.2.2.1).mono ?_
  rintro e w6 ⟨rfl, hS6, hK6⟩
  have S6 := Aside0.mk (S5.out.k1 hS6 hK6)
  have c1 : w6.cell? ⟨b, 2, none⟩ = some (.int .i64 0) := blk_cell S6.out.bk 2
  have z1 : w6.frozen? ⟨b, 2, none⟩ = false := blk_frozen S6.out.bk 2
  clear hS6 hK6 S5
  go_upto_region 4 with fail
  have S7 := Aside0.mk (S6.out.set2 n3)
  obtain ⟨w7, hw7⟩ : ∃ w7, w6.setCell ⟨b, 2, none⟩ (.int .i64 n3) = w7 := ⟨_, rfl⟩
  rw [hw7] at S7 ⊢
  clear hw7 c1 z1 S6
  have c1 : w7.cell? ⟨b, 2, none⟩ = some (.int .i64 n3) := blk_cell S7.out.bk 2
  by_cases h255 : n3 = 255
  · subst h255
    have z1 : w7.frozen? ⟨b, 2, none⟩ = false := blk_frozen S7.out.bk 2
    obtain rfl : it = -1 := by rw [← H.out.2.2.2.2.2.2.2]; rfl
    go_upto_region 6 with fail
    have S8 := Aside0.mk (S7.out.set2 (-1))
    obtain ⟨w8, hw8⟩ : ∃ w8, w7.setCell ⟨b, 2, none⟩ (.int .i64 (-1)) = w8 := ⟨_, rfl⟩
    rw [hw8] at S8 ⊢
    clear hw8 c1 z1 S7
    go_wp2_with (first
      | (refine wpList_load_row rfl 26 (.tmp 3) rfl b rfl 26 (pcells n1 n2 (-1)) (0, 0) _ S8.out.bk Try.underlying26 rfl info26 ?_; (simp only [Act.put]))
      | (refine wpList_store_row rfl 26 (.tmp 2) (.tmp 17) rfl q (pcells n1 n2 (-1)) rfl rfl 26 (pcells 0 0 0) S8.out.qk info26 rfl (by simp [Value.oneCell']) ?_; (simp only [Act.put]))
      | fail)
    have hfin := setRow_heap w8 q (pcells 0 0 0) (pcells n1 n2 (-1)) 26 (0, 0) S8.out.qk
    refine bodyPost_ret (results_cell_row rfl _ _ q 26 (pcells n1 n2 (-1)) (0, 0) _ rfl hfin Try.underlying26 rfl info26) rfl ?_
    exact ⟨rfl, S8.out.rs.setRowFar S8.out.ne.1 S8.out.ne.2.2.2.2.2.1 _, S8.out.kp.setRowNew S8.out.ne.2.2.2.1 _⟩
  · have h2 : ((n3 : Int) == 255) = false := by simp; omega
    obtain rfl : it = n3 := by rw [← H.out.2.2.2.2.2.2.2]; exact if_neg h255
    clear h255
    go_wp2_with (first
      | (refine wpList_load_row rfl 26 (.tmp 3) rfl b rfl 26 (pcells n1 n2 n3) (0, 0) _ S7.out.bk Try.underlying26 rfl info26 ?_; (simp only [Act.put]))
      | (refine wpList_store_row rfl 26 (.tmp 2) (.tmp 17) rfl q (pcells n1 n2 n3) rfl rfl 26 (pcells 0 0 0) S7.out.qk info26 rfl (by simp [Value.oneCell']) ?_; (simp only [Act.put]))
      | fail)
    have hfin := setRow_heap w7 q (pcells 0 0 0) (pcells n1 n2 n3) 26 (0, 0) S7.out.qk
    refine bodyPost_ret (results_cell_row rfl _ _ q 26 (pcells n1 n2 n3) (0, 0) _ rfl hfin Try.underlying26 rfl info26) rfl ?_
    exact ⟨rfl, S7.out.rs.setRowFar S7.out.ne.1 S7.out.ne.2.2.2.2.2.1 _, S7.out.kp.setRowNew S7.out.ne.2.2.2.1 _⟩
end Go.Proofs.Ytfaicipochceeaa.Giv
