/- The law CommandReads: what its text comes to. -/
import Derived.Test.YtfaicipochceeaaGRefE
import Derived.Test.YtfaicipochceeaaGAlive
import Derived.Deep.RegionWith
namespace Go.Proofs.Ytfaicipochceeaa.Giv
open Go.Lib Go.RowKit Go.Proofs.YtfaicipochceeaaW.PrintWords Go.Proofs.YtfaicipochceeaaW.PrintLast Go.Proofs.YtfaicipochceeaaW.PrintMore
set_option linter.unusedVariables false
set_option linter.unusedSimpArgs false
set_option maxHeartbeats 8000000 in
set_option maxRecDepth 100000 in
theorem commandReads_law (A0 : Option Addr) (c0 : Nat) (b : List Int) (w : World) (hC : Kd.C (Kd.int .u8) w A0 b.length b) (hc : b.length ≤ c0) (hb : bytesOk b) :
    Calls Try.prog 4 #[.slice A0 b.length c0] w fun e w' => e = .returned (.bool true) ∧ Below w.heap.size w w' := by
  obtain ⟨⟨c, er⟩, hrd⟩ : ∃ s, readC b = s := ⟨_, rfl⟩
  have H := Aside0.mk (And.intro hC (And.intro hc (And.intro hb hrd)))
  have heq := fun W => eqSelf c W
  clear hC hc hb hrd
  go_enter Try.func4, Try.ntmps4
  go_wp2_with fail
  refine (Read_calls A0 c0 b w H.out.1 H.out.2.1 H.out.2.2.1 c er H.out.2.2.2).mono ?_
  rintro e v1 ⟨rfl, hB⟩
  have B1 := Aside0.mk hB
  clear hB
  obtain ⟨q, hq⟩ : ∃ q, v1.heap.size = q := ⟨_, rfl⟩
  have Zq := Aside0.mk hq
  go_upto_region 2 with (first
    | (refine wpList_store_row rfl 28 (.tmp 3) (.tmp 10) rfl q (cells c) rfl rfl 28 (cells zCmd) ?hg info28 rfl (cells_one _) ?_; (case hg => rw [← Zq.out]; exact blk_new _ _); (simp only [Act.put]))
    | fail)
  rw [show ∀ z : Array Value, (v1.alloc (.cells z 28)).setRow q (cells c) = v1.alloc (.cells (cells c) 28) from fun z => by rw [← Zq.out]; exact World.setRow_alloc_new _ _ _ _]
  clear hq
  have hn := blk_new v1 (.cells (cells c) 28)
  have hB := below_alloc (Below.refl v1.heap.size v1) (.cells (cells c) 28)
  obtain ⟨v2, hw⟩ : ∃ v, v1.alloc (.cells (cells c) 28) = v := ⟨_, rfl⟩
  rw [hw, Zq.out] at hn
  rw [hw] at hB ⊢
  have B2 := Aside0.mk (below_step B1.out hB)
  have F2 := Aside0.mk hn
  clear hB hn hw
  go_wp2_with fail
  refine (RRead_calls A0 c0 b v2 (Kd.C_below H.out.1 B2.out) H.out.2.1 H.out.2.2.1 c er H.out.2.2.2).mono ?_
  rintro e v3 ⟨rfl, hB⟩
  have B3 := Aside0.mk (below_step B2.out hB)
  have F3 := Aside0.mk (blk_below F2.out hB)
  clear hB F2
  obtain ⟨r, hr⟩ : ∃ r, v3.heap.size = r := ⟨_, rfl⟩
  have Zr := Aside0.mk hr
  go_upto_region 3 with (first
    | (refine wpList_store_row rfl 28 (.tmp 5) (.tmp 15) rfl r (cells c) rfl rfl 28 (cells zCmd) ?hg info28 rfl (cells_one _) ?_; (case hg => rw [← Zr.out]; exact blk_new _ _); (simp only [Act.put]))
    | fail)
  rw [show ∀ z : Array Value, (v3.alloc (.cells z 28)).setRow r (cells c) = v3.alloc (.cells (cells c) 28) from fun z => by rw [← Zr.out]; exact World.setRow_alloc_new _ _ _ _]
  clear hr
  have hn := blk_new v3 (.cells (cells c) 28)
  have hB := below_alloc (Below.refl v3.heap.size v3) (.cells (cells c) 28)
  obtain ⟨v4, hw⟩ : ∃ v, v3.alloc (.cells (cells c) 28) = v := ⟨_, rfl⟩
  rw [hw, Zr.out] at hn
  rw [hw] at hB ⊢
  have B4 := Aside0.mk (below_step B3.out hB)
  have F4 := Aside0.mk (And.intro (blk_below F3.out hB) hn)
  clear hB hn hw F3
  go_wp2_with fail
  refine (alive_calls v4).mono ?_
  rintro e v5 ⟨rfl, hB⟩
  have B5 := Aside0.mk (below_step B4.out hB)
  have F5 := Aside0.mk (And.intro (blk_below F4.out.1 hB) (blk_below F4.out.2 hB))
  clear hB F4
  go_wp2_with (first
    | (refine wpList_load_rowG rfl 28 (.tmp 3) rfl q rfl 28 (cells c) (0, 0) _ F5.out.1 Try.underlying28 rfl info28 ?_; (simp only [Act.put]))
    | (refine wpList_load_rowG rfl 28 (.tmp 5) rfl r rfl 28 (cells c) (0, 0) _ F5.out.2 Try.underlying28 rfl info28 ?_; (simp only [Act.put]))
    | fail)
  go_ret
  exact ⟨rfl, B5.out⟩
end Go.Proofs.Ytfaicipochceeaa.Giv
