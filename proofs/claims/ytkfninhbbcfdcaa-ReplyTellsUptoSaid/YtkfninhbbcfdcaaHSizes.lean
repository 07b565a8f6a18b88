/- The law ReplySizes: what its text comes to. -/
import Derived.Test.YtkfninhbbcfdcaaGAlive27
namespace Go.Proofs.Ytkfninhbbcfdcaa.Giv
open Go.RowKit Go.Proofs.YtkfninhbbcfdcaaW.PrintWords Go.Proofs.YtkfninhbbcfdcaaW.PrintLast Go.Proofs.YtkfninhbbcfdcaaW.PrintMore Go.Proofs.Ytkfninhbbcfdcaa.PReplyTells
set_option linter.unusedVariables false
set_option linter.unusedSimpArgs false

abbrev xCells (x : S49) (A : Option Addr) (n c : Nat) : Array Value := #[.int .i64 x.f0, .int .i64 x.f1, .int .i64 x.f2, .slice A n c]
theorem msg_mid {x : S49} (h : mayX x = true) : (((msgB x).take ((msgB x).length - 2)).drop 1) = msgL x ∧ rd (msgB x) 0 = ((msgB x).length : Int) - 3 ∧ (msgB x).length = x.f3.length + 6 := by
  have hl := mayX_len h
  have hm : msgB x = frameB (msgL x) := by unfold msgB; rw [if_pos h]
  have h255 : (msgL x).length ≤ 255 := by rw [msgL_len]; omega
  have hc := frameB_cons h255
  have hfl : (frameB (msgL x)).length = x.f3.length + 6 := by rw [frameB_length, msgL_len]
  have hz : (beB 2 (shortN (beB 1 (msgL x).length ++ msgL x))).length = 2 := beB_length _ _
  rw [hm]
  refine ⟨?_, ?_, hfl⟩
  · rw [hfl, hc, show x.f3.length + 6 - 2 = (x.f3.length + 3) + 1 by omega, List.take_succ_cons, List.drop_succ_cons, List.drop_zero, ← msgL_len, List.take_left]
  · rw [hfl, hc]
    simp [rd, msgL_len]
    omega

set_option maxHeartbeats 8000000 in
set_option maxRecDepth 100000 in
theorem replySizes_law (x : S49) (A : Option Addr) (c : Nat) (w : World) (hC : Kd.C (Kd.int .u8) w A x.f3.length x.f3) (hc : x.f3.length ≤ c) (hb : bytesOk x.f3) :
    Calls Try.prog 12 #[.agg (xCells x A x.f3.length c)] w fun e w' => e = .returned (.bool true) ∧ Below w.heap.size w w' := by
  obtain ⟨n, hn⟩ : ∃ n, x.f3.length = n := ⟨_, rfl⟩
  have H0 := Aside0.mk (And.intro hC (And.intro hc (And.intro hb hn)))
  have hlen : (n : Int) ≤ 9223372036854775807 := by have := hC.2.1; omega
  rw [hn]
  clear hC hc hb hn
  obtain ⟨m, hm⟩ : ∃ m, msgB x = m := ⟨_, rfl⟩
  obtain ⟨bm, hbm⟩ : ∃ bm, mayX x = bm := ⟨_, rfl⟩
  have HM := Aside0.mk (And.intro hm hbm)
  clear hm hbm
  obtain ⟨r, hr⟩ : ∃ r, w.heap.size = r := ⟨_, rfl⟩
  have HR := Aside0.mk hr
  have HA := Aside0.mk (And.intro (below_alloc (Below.refl w.heap.size w) (.cells (xCells x A n c) 49)) (blk_new w (.cells (xCells x A n c) 49)))
  go_enter Try.func12, Try.ntmps12
  go_wp2_with fail
  clear hr
  obtain ⟨w1, hw1⟩ : ∃ w1, w.alloc (.cells (xCells x A n c) 49) = w1 := ⟨_, rfl⟩
  rw [hw1] at HA ⊢
  have hx1 := HA.out.2
  rw [HR.out] at hx1
  have HX1 := Aside0.mk hx1
  have HB1 := Aside0.mk HA.out.1
  clear hw1 hx1 HA
  refine (RWrap_at x A n c _ (Kd.C_below H0.out.1 HB1.out) H0.out.2.2.2.symm (by have := H0.out; omega) H0.out.2.2.1 m HM.out.1).mono ?_
  rintro e w2 ⟨B1, d1, rfl, hR, hB⟩
  have HB2 := Aside0.mk (below_step HB1.out hB)
  have HX2 := Aside0.mk (blk_below HX1.out hB)
  have HM2 := Aside0.mk (Kd.R_reads' hR).2
  clear hR hB HB1 HX1
  have x0 : w2.cell? ⟨r, 0, none⟩ = some (.int .i64 x.f0) := blk_cell HX2.out 0
  have x1 : w2.cell? ⟨r, 1, none⟩ = some (.int .i64 x.f1) := blk_cell HX2.out 1
  have x2 : w2.cell? ⟨r, 2, none⟩ = some (.int .i64 x.f2) := blk_cell HX2.out 2
  have x3 : w2.cell? ⟨r, 3, none⟩ = some (.slice A n c) := blk_cell HX2.out 3
  go_wp2_with fail
  refine (May_calls x A n c _ (Kd.C_below H0.out.1 HB2.out) H0.out.2.2.2.symm (by have := H0.out; omega) bm HM.out.2).mono ?_
  rintro e w3 ⟨rfl, hB⟩
  have HB3 := Aside0.mk (below_step HB2.out hB)
  have HX3 := Aside0.mk (blk_below HX2.out hB)
  have HM3 := Aside0.mk (And.intro HM2.out.1 (Kd.C_below HM2.out.2 hB))
  clear hB HB2 HX2 HM2 x0 x1 x2 x3
  have x0 : w3.cell? ⟨r, 0, none⟩ = some (.int .i64 x.f0) := blk_cell HX3.out 0
  have x1 : w3.cell? ⟨r, 1, none⟩ = some (.int .i64 x.f1) := blk_cell HX3.out 1
  have x2 : w3.cell? ⟨r, 2, none⟩ = some (.int .i64 x.f2) := blk_cell HX3.out 2
  have x3 : w3.cell? ⟨r, 3, none⟩ = some (.slice A n c) := blk_cell HX3.out 3
  cases bm with
  | false =>
    obtain rfl : m = [] := by rw [← HM.out.1]; unfold msgB; rw [if_neg (by rw [HM.out.2]; decide)]
    go_wp2_with fail
    refine (alive27_calls _).mono ?_
    rintro e w4 ⟨rfl, hB⟩
    have HB4 := Aside0.mk (below_step HB3.out hB)
    clear hB
    go_wp2_with fail
    go_ret
    exact ⟨rfl, HB4.out⟩
  | true =>
    obtain ⟨q1, q2, q3⟩ := msg_mid HM.out.2
    rw [HM.out.1] at q1 q2 q3
    rw [H0.out.2.2.2] at q3
    have hml : (m.length : Int) = (n : Int) + 6 := by omega
    have hl247 : (n : Int) ≤ 247 := by have := mayX_len HM.out.2; rw [H0.out.2.2.2] at this; omega
    have hmid := Kd.C_mid (lo := 1) (hi := m.length - 2) HM3.out.2 (by omega) (by omega) HM3.out.1
    rw [if_neg (by have := HM3.out.1; omega), q1] at hmid
    obtain ⟨ad, rfl, b0⟩ := Kd.at_int HM3.out.2 0 (by omega) (by omega)
    rw [q2] at b0
    replace hmid : Kd.C (Kd.int .u8) w3 (some ⟨ad.block, ad.off + 1, none⟩) (msgL x).length (msgL x) := hmid
    have hcd : m.length ≤ d1 := HM3.out.1
    have HQ := Aside0.mk (And.intro hmid (And.intro q2 q3))
    have b0' : w3.cell? ad = some (.int .u8 ((m.length : Int) - 3)) := by simpa [Addr.add] using b0
    have HB0 := Aside0.mk b0'
    clear hmid q1 q2 q3 b0 b0'
    go_wp2_with fail
    refine (Read_at _ (n + 3) (d1 - 1) _ (msgL x) (by have := HQ.out.1; rw [msgL_len, H0.out.2.2.2] at this; exact this) (by rw [msgL_len, H0.out.2.2.2]) (by have := HQ.out.2.2; omega) (msgL_ok HM.out.2 H0.out.2.2.1) (by rw [msgL_len, H0.out.2.2.2]; omega) x 0 (rdM_msgL HM.out.2)).mono ?_
    rintro e w4 ⟨B4, d4, rfl, hR, hB⟩
    rw [H0.out.2.2.2] at hR ⊢
    have HY := Aside0.mk (Kd.R_reads' hR).2
    have HB4 := Aside0.mk (below_step HB3.out hB)
    have HX4 := Aside0.mk (blk_below HX3.out hB)
    have HC4 := Aside0.mk (pw_cell_below hB HB0.out)
    clear hR hB HB3 HX3 x0 x1 x2 x3 HB0
    obtain ⟨r4, hr4⟩ : ∃ r, w4.heap.size = r := ⟨_, rfl⟩
    have HR4 := Aside0.mk hr4
    have HA4 := Aside0.mk (And.intro (below_alloc (Below.refl w4.heap.size w4) (.cells (xCells x B4 n d4) 49)) (blk_new w4 (.cells (xCells x B4 n d4) 49)))
    go_wp2_with fail
    clear hr4
    obtain ⟨w5, hw5⟩ : ∃ w5, w4.alloc (.cells (xCells x B4 n d4) 49) = w5 := ⟨_, rfl⟩
    rw [hw5] at HA4 ⊢
    refine (alive27_calls _).mono ?_
    rintro e w6 ⟨rfl, hB⟩
    have hB' := below_step HA4.out.1 hB
    have hy6 := blk_below HA4.out.2 hB
    rw [HR4.out] at hy6
    have hx6 := blk_below HX4.out hB'
    have HB6 := Aside0.mk (below_step HB4.out hB')
    have b0 := pw_cell_below hB' HC4.out
    have HY6 := Aside0.mk (And.intro HY.out.1 (Kd.C_below HY.out.2 hB'))
    rw [show (m.length : Int) - 3 = (n : Int) + 3 by omega] at b0
    have x0 : w6.cell? ⟨r, 0, none⟩ = some (.int .i64 x.f0) := blk_cell hx6 0
    have x1 : w6.cell? ⟨r, 1, none⟩ = some (.int .i64 x.f1) := blk_cell hx6 1
    have x2 : w6.cell? ⟨r, 2, none⟩ = some (.int .i64 x.f2) := blk_cell hx6 2
    have x3 : w6.cell? ⟨r, 3, none⟩ = some (.slice A n c) := blk_cell hx6 3
    have y0 : w6.cell? ⟨r4, 0, none⟩ = some (.int .i64 x.f0) := blk_cell hy6 0
    have y1 : w6.cell? ⟨r4, 1, none⟩ = some (.int .i64 x.f1) := blk_cell hy6 1
    have y2 : w6.cell? ⟨r4, 2, none⟩ = some (.int .i64 x.f2) := blk_cell hy6 2
    have y3 : w6.cell? ⟨r4, 3, none⟩ = some (.slice B4 n d4) := blk_cell hy6 3
    clear hB hB' hw5 hx6 hy6 HX4 HA4 HC4
    go_wp2_with fail
    refine (Same_at x A n c _ B4 n d4 (Kd.C_below H0.out.1 HB6.out) H0.out.2.2.2.symm (by have := H0.out; omega) HY6.out.2 H0.out.2.2.2.symm (by have := HY6.out.1; have := H0.out.2.2.2; omega)).mono ?_
    rintro e w7 ⟨rfl, hB⟩
    have HB7 := Aside0.mk (below_step HB6.out hB)
    clear hB
    go_wp2_with fail
    go_ret
    exact ⟨rfl, HB7.out⟩
end Go.Proofs.Ytkfninhbbcfdcaa.Giv
