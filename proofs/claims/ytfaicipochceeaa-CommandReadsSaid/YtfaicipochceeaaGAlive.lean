/- What comes of fixed calls of the package command. -/
import Derived.Test.YtfaicipochceeaaGRead
import Derived.Test.YtfaicipochceeaaGOp
namespace Go.Proofs.Ytfaicipochceeaa.Giv
open Go.Lib Go.RowKit Go.Proofs.YtfaicipochceeaaW.PrintWords Go.Proofs.YtfaicipochceeaaW.PrintLast Go.Proofs.YtfaicipochceeaaW.PrintMore
set_option linter.unusedVariables false
set_option linter.unusedSimpArgs false
def cA : Cmd := { zCmd with op := 5, di := 2 }
def cO : Cmd := { zCmd with op := 32, wh := 1, ga := 5, gi := -1, wi := 3 }
def cM : Cmd := { zCmd with op := 5, sl := 1 }
def bO : List Int := bytesC cO
theorem f1 : bytesC cA = [5, 2] := by kernel_rfl
theorem f2 : readC [5, 2] = (cA, 0) := by kernel_rfl
theorem f3 : readC [43] = (zCmd, 17) := by kernel_rfl
theorem f4 : readC [5, 2, 0] = (zCmd, 13) := by kernel_rfl
theorem f5 : readC bO = (cO, 0) := by kernel_rfl
theorem f6 : bO.length = 22 := by kernel_rfl
theorem f6b : bytesOk bO := by unfold bytesOk; decide +kernel
theorem f7 : nameO 5 = ⟨#[103, 111]⟩ := by kernel_rfl
theorem f8 : opO ⟨#[101, 110, 116, 114, 121]⟩ = 42 := by kernel_rfl
theorem f9 : opO ⟨#[]⟩ = 0 := by kernel_rfl
theorem f10 : mayC cM = false := by kernel_rfl
theorem f11 : nameO 43 = ⟨#[]⟩ := by kernel_rfl
theorem eqSelf (c : Cmd) (w : World) : (Go.binOp .eql 28 (.agg (cells c)) (.agg (cells c))).run Try.prog w = .ok (.bool true) w := by
  rw [eq28, (eqC_iff c c).2 rfl]
theorem u64z {c : Cmd} (h : (c.am = 0 ∨ c.am = 5) ∧ (c.ga = 0 ∨ c.ga = 5) ∧ (c.wa = 0 ∨ c.wa = 5) ∧ (c.qt = 0 ∨ c.qt = 5) ∧ (c.pr = 0 ∨ c.pr = 5)) : U64C c := by
  unfold U64C
  omega
/-- A variable made of a whole row. -/
theorem var28 (W : World) (q : Nat) (hq : W.heap.size = q) (z c : Cmd) : (W.alloc (.cells (cells z) 28)).setRow q (cells c) = W.alloc (.cells (cells c) 28) := by
  rw [← hq]; exact World.setRow_alloc_new _ _ _ _

set_option maxHeartbeats 8000000 in
set_option maxRecDepth 100000 in
theorem alive_calls (w : World) : Calls Try.prog 6 #[] w fun e w' => e = .returned (.bool true) ∧ Below w.heap.size w w' := by
  go_enter Try.func6, Try.ntmps6
  obtain ⟨q1, hq1⟩ : ∃ q1, w.heap.size = q1 := ⟨_, rfl⟩
  have Zq1 := Aside0.mk hq1
  go_upto_region 2 with (first
    | (refine wpList_store_row rfl 28 (.tmp 1) (.tmp 12) rfl q1 (cells cA) rfl rfl 28 (cells zCmd) ?hg info28 rfl (cells_one _) ?_; (case hg => rw [← Zq1.out]; exact blk_new _ _); (simp only [Act.put]))
    | fail)
  rw [show ∀ z : Array Value, (w.alloc (.cells z 28)).setRow q1 (cells cA) = w.alloc (.cells (cells cA) 28) from fun z => by rw [← Zq1.out]; exact World.setRow_alloc_new _ _ _ _]
  clear hq1
  have hn := blk_new w (.cells (cells cA) 28)
  have hb := below_alloc (Below.refl w.heap.size w) (.cells (cells cA) 28)
  obtain ⟨v1, hw⟩ : ∃ v, w.alloc (.cells (cells cA) 28) = v := ⟨_, rfl⟩
  rw [hw, Zq1.out] at hn
  rw [hw] at hb ⊢
  have Bv1 := Aside0.mk (below_step (Below.refl w.heap.size w) hb)
  have Fq1 := Aside0.mk hn
  clear hn hb hw
  go_wp2_with (first
    | (refine wpList_load_row rfl 28 (.tmp 1) rfl q1 rfl 28 (cells cA) (0, 0) _ Fq1.out Try.underlying28 rfl info28 ?_; (simp only [Act.put]))
    | fail)
  refine (Bytes_calls cA v1 (u64z (by decide)) [5, 2] f1).mono ?_
  rintro e v2 ⟨A2, c2, rfl, hR, hb⟩
  have Bv2 := Aside0.mk (below_step Bv1.out hb)
  have Fq1' := Aside0.mk (blk_below Fq1.out hb)
  clear Fq1; have Fq1 := Fq1'; clear Fq1'
  have R2 := Aside0.mk (Kd.R_reads' hR)
  clear hR hb
  go_wp2_with fail
  refine (Read_calls A2 c2 [5, 2] v2 R2.out.2.2 R2.out.2.1 (by unfold bytesOk; decide) cA 0 f2).mono ?_
  rintro e v3 ⟨rfl, hb⟩
  have Bv3 := Aside0.mk (below_step Bv2.out hb)
  have Fq1' := Aside0.mk (blk_below Fq1.out hb)
  clear Fq1; have Fq1 := Fq1'; clear Fq1'
  have R3 := Aside0.mk (Kd.C_below R2.out.2.2 hb)
  clear hb R2
  obtain ⟨q3, hq3⟩ : ∃ q3, v3.heap.size = q3 := ⟨_, rfl⟩
  have Zq3 := Aside0.mk hq3
  go_upto_region 4 with (first
    | (refine wpList_store_row rfl 28 (.tmp 3) (.tmp 18) rfl q3 (cells cA) rfl rfl 28 (cells zCmd) ?hg info28 rfl (cells_one _) ?_; (case hg => rw [← Zq3.out]; exact blk_new _ _); (simp only [Act.put]))
    | fail)
  rw [show ∀ z : Array Value, (v3.alloc (.cells z 28)).setRow q3 (cells cA) = v3.alloc (.cells (cells cA) 28) from fun z => by rw [← Zq3.out]; exact World.setRow_alloc_new _ _ _ _]
  clear hq3
  have hn := blk_new v3 (.cells (cells cA) 28)
  have hb := below_alloc (Below.refl v3.heap.size v3) (.cells (cells cA) 28)
  obtain ⟨v4, hw⟩ : ∃ v, v3.alloc (.cells (cells cA) 28) = v := ⟨_, rfl⟩
  rw [hw, Zq3.out] at hn
  rw [hw] at hb ⊢
  have Bv4 := Aside0.mk (below_step Bv3.out hb)
  have Fq1' := Aside0.mk (blk_below Fq1.out hb)
  clear Fq1; have Fq1 := Fq1'; clear Fq1'
  have R4 := Aside0.mk (Kd.C_below R3.out hb)
  clear R3
  have Fq3 := Aside0.mk hn
  clear hn hb hw
  have hC := C_new (W := v4) (e := 5) (fr := (0, 0)) (arr := #[.int .u8 43]) [43] rfl (by decide)
  have hb := below_alloc (Below.refl v4.heap.size v4) (.cells #[.int .u8 43] 5)
  have HC := Aside0.mk hC
  have HB := Aside0.mk hb
  clear hC hb
  go_wp2_with fail
  refine (Read_calls _ 1 [43] _ HC.out (Nat.le_refl _) (by unfold bytesOk; decide) zCmd 17 f3).mono ?_
  rintro e v5 ⟨rfl, hb2⟩
  have hb := below_step HB.out hb2
  have Bv5 := Aside0.mk (below_step Bv4.out hb)
  have Fq1' := Aside0.mk (blk_below Fq1.out hb)
  have Fq3' := Aside0.mk (blk_below Fq3.out hb)
  clear Fq1; have Fq1 := Fq1'; clear Fq1'
  clear Fq3; have Fq3 := Fq3'; clear Fq3'
  have R5 := Aside0.mk (Kd.C_below R4.out hb)
  clear hb hb2 HB HC R4
  obtain ⟨q5, hq5⟩ : ∃ q5, v5.heap.size = q5 := ⟨_, rfl⟩
  have Zq5 := Aside0.mk hq5
  go_upto_region 5 with (first
    | (refine wpList_store_row rfl 28 (.tmp 5) (.tmp 23) rfl q5 (cells zCmd) rfl rfl 28 (cells zCmd) ?hg info28 rfl (cells_one _) ?_; (case hg => rw [← Zq5.out]; exact blk_new _ _); (simp only [Act.put]))
    | fail)
  rw [show ∀ z : Array Value, (v5.alloc (.cells z 28)).setRow q5 (cells zCmd) = v5.alloc (.cells (cells zCmd) 28) from fun z => by rw [← Zq5.out]; exact World.setRow_alloc_new _ _ _ _]
  clear hq5
  have hn := blk_new v5 (.cells (cells zCmd) 28)
  have hb := below_alloc (Below.refl v5.heap.size v5) (.cells (cells zCmd) 28)
  obtain ⟨v6, hw⟩ : ∃ v, v5.alloc (.cells (cells zCmd) 28) = v := ⟨_, rfl⟩
  rw [hw, Zq5.out] at hn
  rw [hw] at hb ⊢
  have Bv6 := Aside0.mk (below_step Bv5.out hb)
  have Fq1' := Aside0.mk (blk_below Fq1.out hb)
  have Fq3' := Aside0.mk (blk_below Fq3.out hb)
  clear Fq1; have Fq1 := Fq1'; clear Fq1'
  clear Fq3; have Fq3 := Fq3'; clear Fq3'
  have R6 := Aside0.mk (Kd.C_below R5.out hb)
  clear R5 hn hb hw
  have hC := C_new (W := v6) (e := 5) (fr := (0, 0)) (arr := #[.int .u8 5, .int .u8 2, .int .u8 0]) [5, 2, 0] rfl (by decide)
  have hb := below_alloc (Below.refl v6.heap.size v6) (.cells #[.int .u8 5, .int .u8 2, .int .u8 0] 5)
  have HC := Aside0.mk hC
  have HB := Aside0.mk hb
  clear hC hb
  go_wp2_with fail
  refine (Read_calls _ 3 [5, 2, 0] _ HC.out (Nat.le_refl _) (by unfold bytesOk; decide) zCmd 13 f4).mono ?_
  rintro e v7 ⟨rfl, hb2⟩
  have hb := below_step HB.out hb2
  have Bv7 := Aside0.mk (below_step Bv6.out hb)
  have Fq1' := Aside0.mk (blk_below Fq1.out hb)
  have Fq3' := Aside0.mk (blk_below Fq3.out hb)
  clear Fq1; have Fq1 := Fq1'; clear Fq1'
  clear Fq3; have Fq3 := Fq3'; clear Fq3'
  have R7 := Aside0.mk (Kd.C_below R6.out hb)
  clear hb hb2 HB HC R6
  obtain ⟨q7, hq7⟩ : ∃ q7, v7.heap.size = q7 := ⟨_, rfl⟩
  have Zq7 := Aside0.mk hq7
  go_upto_region 6 with (first
    | (refine wpList_store_row rfl 28 (.tmp 7) (.tmp 28) rfl q7 (cells zCmd) rfl rfl 28 (cells zCmd) ?hg info28 rfl (cells_one _) ?_; (case hg => rw [← Zq7.out]; exact blk_new _ _); (simp only [Act.put]))
    | fail)
  rw [show ∀ z : Array Value, (v7.alloc (.cells z 28)).setRow q7 (cells zCmd) = v7.alloc (.cells (cells zCmd) 28) from fun z => by rw [← Zq7.out]; exact World.setRow_alloc_new _ _ _ _]
  clear hq7
  have hn := blk_new v7 (.cells (cells zCmd) 28)
  have hb := below_alloc (Below.refl v7.heap.size v7) (.cells (cells zCmd) 28)
  obtain ⟨v8, hw⟩ : ∃ v, v7.alloc (.cells (cells zCmd) 28) = v := ⟨_, rfl⟩
  rw [hw, Zq7.out] at hn
  rw [hw] at hb ⊢
  have Bv8 := Aside0.mk (below_step Bv7.out hb)
  have Fq1' := Aside0.mk (blk_below Fq1.out hb)
  have Fq3' := Aside0.mk (blk_below Fq3.out hb)
  clear Fq1; have Fq1 := Fq1'; clear Fq1'
  clear Fq3; have Fq3 := Fq3'; clear Fq3'
  have R8 := Aside0.mk (Kd.C_below R7.out hb)
  clear R7 hn hb hw
  obtain ⟨q9, hq9⟩ : ∃ q9, v8.heap.size = q9 := ⟨_, rfl⟩
  have Zq9 := Aside0.mk hq9
  go_upto_region 7 with (first
    | (refine wpList_store_row rfl 28 (.tmp 9) (.tmp 32) rfl q9 (cells cO) rfl rfl 28 (cells zCmd) ?hg info28 rfl (cells_one _) ?_; (case hg => rw [← Zq9.out]; exact blk_new _ _); (simp only [Act.put]))
    | fail)
  rw [show ∀ z : Array Value, (v8.alloc (.cells z 28)).setRow q9 (cells cO) = v8.alloc (.cells (cells cO) 28) from fun z => by rw [← Zq9.out]; exact World.setRow_alloc_new _ _ _ _]
  clear hq9
  have hn := blk_new v8 (.cells (cells cO) 28)
  have hb := below_alloc (Below.refl v8.heap.size v8) (.cells (cells cO) 28)
  obtain ⟨v9, hw⟩ : ∃ v, v8.alloc (.cells (cells cO) 28) = v := ⟨_, rfl⟩
  rw [hw, Zq9.out] at hn
  rw [hw] at hb ⊢
  have Bv9 := Aside0.mk (below_step Bv8.out hb)
  have Fq1' := Aside0.mk (blk_below Fq1.out hb)
  have Fq3' := Aside0.mk (blk_below Fq3.out hb)
  clear Fq1; have Fq1 := Fq1'; clear Fq1'
  clear Fq3; have Fq3 := Fq3'; clear Fq3'
  have R9 := Aside0.mk (Kd.C_below R8.out hb)
  clear R8
  have Fq9 := Aside0.mk hn
  clear hn hb hw
  obtain ⟨bo, hbo⟩ : ∃ b, bO = b := ⟨_, rfl⟩
  have HBO : Aside0 (bytesC cO = bo ∧ readC bo = (cO, 0) ∧ bytesOk bo) := ⟨hbo, by rw [← hbo]; exact f5, by rw [← hbo]; exact f6b⟩
  clear hbo
  go_wp2_with (first
    | (refine wpList_load_row rfl 28 (.tmp 9) rfl q9 rfl 28 (cells cO) (0, 0) _ Fq9.out Try.underlying28 rfl info28 ?_; (simp only [Act.put]))
    | fail)
  refine (Bytes_calls cO v9 (u64z (by decide)) bo HBO.out.1).mono ?_
  rintro e v10 ⟨A10, c10, rfl, hR, hb⟩
  have Bv10 := Aside0.mk (below_step Bv9.out hb)
  have Fq1' := Aside0.mk (blk_below Fq1.out hb)
  have Fq3' := Aside0.mk (blk_below Fq3.out hb)
  have Fq9' := Aside0.mk (blk_below Fq9.out hb)
  clear Fq1; have Fq1 := Fq1'; clear Fq1'
  clear Fq3; have Fq3 := Fq3'; clear Fq3'
  clear Fq9; have Fq9 := Fq9'; clear Fq9'
  have RO := Aside0.mk (Kd.R_reads' hR)
  have R10 := Aside0.mk (Kd.C_below R9.out hb)
  clear hR hb R9
  go_wp2_with fail
  refine (Read_calls A10 c10 bo v10 RO.out.2.2 RO.out.2.1 HBO.out.2.2 cO 0 HBO.out.2.1).mono ?_
  rintro e v11 ⟨rfl, hb⟩
  have Bv11 := Aside0.mk (below_step Bv10.out hb)
  have Fq1' := Aside0.mk (blk_below Fq1.out hb)
  have Fq3' := Aside0.mk (blk_below Fq3.out hb)
  have Fq9' := Aside0.mk (blk_below Fq9.out hb)
  clear Fq1; have Fq1 := Fq1'; clear Fq1'
  clear Fq3; have Fq3 := Fq3'; clear Fq3'
  clear Fq9; have Fq9 := Fq9'; clear Fq9'
  have R11 := Aside0.mk (Kd.C_below R10.out hb)
  clear hb R10 RO
  obtain ⟨q10, hq10⟩ : ∃ q10, v11.heap.size = q10 := ⟨_, rfl⟩
  have Zq10 := Aside0.mk hq10
  go_upto_region 8 with (first
    | (refine wpList_store_row rfl 28 (.tmp 10) (.tmp 37) rfl q10 (cells cO) rfl rfl 28 (cells zCmd) ?hg info28 rfl (cells_one _) ?_; (case hg => rw [← Zq10.out]; exact blk_new _ _); (simp only [Act.put]))
    | fail)
  rw [show ∀ z : Array Value, (v11.alloc (.cells z 28)).setRow q10 (cells cO) = v11.alloc (.cells (cells cO) 28) from fun z => by rw [← Zq10.out]; exact World.setRow_alloc_new _ _ _ _]
  clear hq10
  have hn := blk_new v11 (.cells (cells cO) 28)
  have hb := below_alloc (Below.refl v11.heap.size v11) (.cells (cells cO) 28)
  obtain ⟨v12, hw⟩ : ∃ v, v11.alloc (.cells (cells cO) 28) = v := ⟨_, rfl⟩
  rw [hw, Zq10.out] at hn
  rw [hw] at hb ⊢
  have Bv12 := Aside0.mk (below_step Bv11.out hb)
  have Fq1' := Aside0.mk (blk_below Fq1.out hb)
  have Fq3' := Aside0.mk (blk_below Fq3.out hb)
  have Fq9' := Aside0.mk (blk_below Fq9.out hb)
  clear Fq1; have Fq1 := Fq1'; clear Fq1'
  clear Fq3; have Fq3 := Fq3'; clear Fq3'
  clear Fq9; have Fq9 := Fq9'; clear Fq9'
  have R12 := Aside0.mk (Kd.C_below R11.out hb)
  clear R11
  have Fq10 := Aside0.mk hn
  clear hn hb hw
  have hs := Kd.C_string (P := Try.prog) (A := A2) (n := 2) (c := c2) Try.underlying31 Try.underlying5 Try.underlying9 R12.out
  rw [show strOfNums [5, 2] = (ByteArray.mk #[5, 2]) from by kernel_rfl] at hs
  have heqA := eqSelf cA
  have heqO := eqSelf cO
  go_wp2_with (first
    | (refine wpList_load_rowG rfl 28 (.tmp 3) rfl q3 rfl 28 (cells cA) (0, 0) _ Fq3.out Try.underlying28 rfl info28 ?_; (simp only [Act.put]))
    | (refine wpList_load_rowG rfl 28 (.tmp 1) rfl q1 rfl 28 (cells cA) (0, 0) _ Fq1.out Try.underlying28 rfl info28 ?_; (simp only [Act.put]))
    | (refine wpList_load_rowG rfl 28 (.tmp 10) rfl q10 rfl 28 (cells cO) (0, 0) _ Fq10.out Try.underlying28 rfl info28 ?_; (simp only [Act.put]))
    | (refine wpList_load_rowG rfl 28 (.tmp 9) rfl q9 rfl 28 (cells cO) (0, 0) _ Fq9.out Try.underlying28 rfl info28 ?_; (simp only [Act.put]))
    | fail)
  refine (Name_calls 5 v12).mono ?_
  rintro e v13 ⟨rfl, hb⟩
  rw [f7]
  have Bv13 := Aside0.mk (below_step Bv12.out hb)
  clear hb hs heqA heqO Fq1 Fq3 Fq9 Fq10
  go_wp2_with fail
  refine (Op_calls _ v13).mono ?_
  rintro e v14 ⟨rfl, hb⟩
  rw [f8]
  have Bv14 := Aside0.mk (below_step Bv13.out hb)
  clear hb
  go_wp2_with fail
  refine (Op_calls _ v14).mono ?_
  rintro e v15 ⟨rfl, hb⟩
  rw [f9]
  have Bv15 := Aside0.mk (below_step Bv14.out hb)
  clear hb
  go_wp2_with fail
  refine (show Calls Try.prog 7 #[.agg (cells cM)] v15 _ from (May_calls cM v15 false f10).mono ?_)
  rintro e v16 ⟨rfl, hb⟩
  have Bv16 := Aside0.mk (below_step Bv15.out hb)
  clear hb
  go_wp2_with fail
  refine (Name_calls 43 v16).mono ?_
  rintro e v17 ⟨rfl, hb⟩
  rw [f11]
  have Bv17 := Aside0.mk (below_step Bv16.out hb)
  clear hb
  go_wp2_with fail
  go_ret
  exact ⟨rfl, Bv17.out⟩
end Go.Proofs.Ytfaicipochceeaa.Giv
