/- The law CoinBack: what its text comes to. -/
import Derived.Test.YtcfibadhikohfaaHPurse
import Derived.LoopN
import Derived.BigQuiet
import Derived.Deep.RegionHeld3
namespace Go.Proofs.Ytcfibadhikohfaa.Giv
open Go.RowKit Go.Proofs.YtcfibadhikohfaaW.PrintWords Go.Proofs.YtcfibadhikohfaaW.PrintMore
set_option linter.unusedVariables false
set_option linter.unusedSimpArgs false

set_option maxHeartbeats 8000000 in
set_option maxRecDepth 100000 in
theorem back_ok0 (p0 p1 p2 p3 n v : Nat) (b0 : p0 < 18446744073709551616) (b1 : p1 < 18446744073709551616) (b2 : p2 < 18446744073709551616) (b3 : p3 < 18446744073709551616) (bn : n < 18446744073709551616) (hv : p0 + n = v) (hm : v ≤ most) (w : World) :
    Calls Try.prog 9 #[.agg #[.int .u64 p0, .int .u64 p1, .int .u64 p2, .int .u64 p3], .int .i64 0, .int .u64 n] w fun e w' => e = .returned (.bool true) ∧ Below w.heap.size w w' := by
  have bv : v < 18446744073709551616 := by unfold most at hm; omega
  have hq : chg plusN p0 p1 p2 p3 0 n = (v, p1, p2, p3, 0) := by
    have : plusN p0 n = (v, 0) := by unfold plusN; rw [hv, if_pos hm]
    simp [chg, this]
  have hr : chg minusN v p1 p2 p3 0 n = (p0, p1, p2, p3, 0) := by
    have : minusN v n = (p0, 0) := by unfold minusN; rw [if_neg (by omega)]; congr 1; omega
    simp [chg, this]
  have H1 := Lib.hid (fun w => give_calls b0 b1 b2 b3 bn hq w)
  have H3 := Lib.hid (fun w => take_calls bv b1 b2 b3 bn hr w)
  have hi1 : (n : Int) ≤ (v : Int) := by omega
  have hi2 : (p0 : Int) ≤ (v : Int) := by omega
  have hi3 : (v : Int) ≤ 4611686018427387904 := by unfold most at hm; omega
  clear b0 b1 b2 b3 bn bv hq hr hv hm
  have heq := eq4
  go_enter Try.func9, Try.ntmps9
  go_wp2_with fail
  refine (H1.out _).mono ?_
  rintro e w1 ⟨rfl, hb1⟩
  have hk := blk_at1 hb1
  obtain ⟨⟨hc0, hc1, hc2, hc3⟩, _⟩ := cells4 hk
  have HK1 := Aside0.mk hk
  have hl1 := blk_lt hk
  have HB1 := Aside0.mk (below_step (below_alloc (Below.refl w.heap.size w) _) hb1)
  clear hk hb1
  go_wp2_with fail
  refine (H3.out _).mono ?_
  rintro e w2 ⟨rfl, hb2⟩
  clear hc0 hc1 hc2 hc3
  have hk := blk_below (blk_alloc HK1.out _) hb2
  have hm := blk_at1 hb2
  obtain ⟨⟨hc0, hc1, hc2, hc3⟩, _⟩ := cells4 hk
  obtain ⟨⟨hm0, hm1, hm2, hm3⟩, _⟩ := cells4 hm
  have HK2 := Aside0.mk hk
  have HM2 := Aside0.mk hm
  have hl2 := blk_lt hk
  have hl3 := blk_lt hm
  have HB2 := Aside0.mk (below_step (below_alloc HB1.out _) hb2)
  clear hk hm hb2 HK1 HB1 hl1
  go_wp2_with fail
  refine wp_loop_rounds 5 ?_
  rw [rounds_succ]
  go_wp2_with fail
  go_quiet (fail)
  go_wp2_with fail
  rw [rounds_succ]
  go_wp2_with fail
  go_quiet (fail)
  go_wp2_with fail
  rw [rounds_succ]
  go_wp2_with fail
  go_quiet (fail)
  go_wp2_with fail
  rw [rounds_succ]
  go_wp2_with fail
  go_quiet (fail)
  go_wp2_with fail
  rw [rounds_succ]
  go_wp2_with fail
  generalize hW : World.drewN _ _ = W0
  have hk := blk_alloc HK2.out (.cells #[.int .u64 p0, .int .u64 p1, .int .u64 p2, .int .u64 p3] 40)
  have hm := blk_alloc HM2.out (.cells #[.int .u64 p0, .int .u64 p1, .int .u64 p2, .int .u64 p3] 40)
  have ho := blk_new w2 (.cells #[.int .u64 p0, .int .u64 p1, .int .u64 p2, .int .u64 p3] 40)
  have HB3 := below_alloc HB2.out (.cells #[.int .u64 p0, .int .u64 p1, .int .u64 p2, .int .u64 p3] 40)
  have hk' : W0.heap[w.heap.size]? = some (.cells #[.int .u64 p0, .int .u64 p1, .int .u64 p2, .int .u64 p3] 40 (0, 0)) := by rw [← hW]; exact hk
  have hm' : W0.heap[w1.heap.size]? = some (.cells #[.int .u64 v, .int .u64 p1, .int .u64 p2, .int .u64 p3] 40 (0, 0)) := by rw [← hW]; exact hm
  have ho' : W0.heap[w2.heap.size]? = some (.cells #[.int .u64 p0, .int .u64 p1, .int .u64 p2, .int .u64 p3] 40 (0, 0)) := by rw [← hW]; exact ho
  have HB4 := Aside0.mk (show Below w.heap.size w W0 by rw [← hW]; exact pw_below_drewN HB3 _)
  have HC := Aside0.mk (And.intro hk' (And.intro hm' ho'))
  clear hk' hm' ho' hk hm ho HB3 hW HK2 HM2 hc0 hc1 hc2 hc3 hm0 hm1 hm2 hm3 HB2
  have cA := fun (W' : World) (h_ : Below W0.heap.size W0 W') => (cells4 (blk_below HC.out.1 h_)).1
  have cB := fun (W' : World) (h_ : Below W0.heap.size W0 W') => (cells4 (blk_below HC.out.2.1 h_)).1
  have cC := fun (W' : World) (h_ : Below W0.heap.size W0 W') => (cells4 (blk_below HC.out.2.2 h_)).1
  go_region_held3 (fun w' => Below W0.heap.size W0 w') (first | assumption | exact Below.refl _ _ | exact below_step (by assumption) (by assumption) | exact below_drew (by assumption) | exact below_drew (Below.refl _ _))
    (first | (go_at_call 24; refine (alive13 _).mono ?_; rintro e w' ⟨rfl, hd⟩))
  rename_i hHeld
  have HH := Aside0.mk hHeld
  clear hHeld cA cB cC
  go_wp2
  go_ret
  exact ⟨by simp, below_step HB4.out HH.out⟩

set_option maxHeartbeats 8000000 in
set_option maxRecDepth 100000 in
theorem back_ok1 (p0 p1 p2 p3 n v : Nat) (b0 : p0 < 18446744073709551616) (b1 : p1 < 18446744073709551616) (b2 : p2 < 18446744073709551616) (b3 : p3 < 18446744073709551616) (bn : n < 18446744073709551616) (hv : p1 + n = v) (hm : v ≤ most) (w : World) :
    Calls Try.prog 9 #[.agg #[.int .u64 p0, .int .u64 p1, .int .u64 p2, .int .u64 p3], .int .i64 1, .int .u64 n] w fun e w' => e = .returned (.bool true) ∧ Below w.heap.size w w' := by
  have bv : v < 18446744073709551616 := by unfold most at hm; omega
  have hq : chg plusN p0 p1 p2 p3 1 n = (p0, v, p2, p3, 0) := by
    have : plusN p1 n = (v, 0) := by unfold plusN; rw [hv, if_pos hm]
    simp [chg, this]
  have hr : chg minusN p0 v p2 p3 1 n = (p0, p1, p2, p3, 0) := by
    have : minusN v n = (p1, 0) := by unfold minusN; rw [if_neg (by omega)]; congr 1; omega
    simp [chg, this]
  have H1 := Lib.hid (fun w => give_calls b0 b1 b2 b3 bn hq w)
  have H3 := Lib.hid (fun w => take_calls b0 bv b2 b3 bn hr w)
  have hi1 : (n : Int) ≤ (v : Int) := by omega
  have hi2 : (p1 : Int) ≤ (v : Int) := by omega
  have hi3 : (v : Int) ≤ 4611686018427387904 := by unfold most at hm; omega
  clear b0 b1 b2 b3 bn bv hq hr hv hm
  have heq := eq4
  go_enter Try.func9, Try.ntmps9
  go_wp2_with fail
  refine (H1.out _).mono ?_
  rintro e w1 ⟨rfl, hb1⟩
  have hk := blk_at1 hb1
  obtain ⟨⟨hc0, hc1, hc2, hc3⟩, _⟩ := cells4 hk
  have HK1 := Aside0.mk hk
  have hl1 := blk_lt hk
  have HB1 := Aside0.mk (below_step (below_alloc (Below.refl w.heap.size w) _) hb1)
  clear hk hb1
  go_wp2_with fail
  refine (H3.out _).mono ?_
  rintro e w2 ⟨rfl, hb2⟩
  clear hc0 hc1 hc2 hc3
  have hk := blk_below (blk_alloc HK1.out _) hb2
  have hm := blk_at1 hb2
  obtain ⟨⟨hc0, hc1, hc2, hc3⟩, _⟩ := cells4 hk
  obtain ⟨⟨hm0, hm1, hm2, hm3⟩, _⟩ := cells4 hm
  have HK2 := Aside0.mk hk
  have HM2 := Aside0.mk hm
  have hl2 := blk_lt hk
  have hl3 := blk_lt hm
  have HB2 := Aside0.mk (below_step (below_alloc HB1.out _) hb2)
  clear hk hm hb2 HK1 HB1 hl1
  go_wp2_with fail
  refine wp_loop_rounds 5 ?_
  rw [rounds_succ]
  go_wp2_with fail
  go_quiet (fail)
  go_wp2_with fail
  rw [rounds_succ]
  go_wp2_with fail
  go_quiet (fail)
  go_wp2_with fail
  rw [rounds_succ]
  go_wp2_with fail
  go_quiet (fail)
  go_wp2_with fail
  rw [rounds_succ]
  go_wp2_with fail
  go_quiet (fail)
  go_wp2_with fail
  rw [rounds_succ]
  go_wp2_with fail
  generalize hW : World.drewN _ _ = W0
  have hk := blk_alloc HK2.out (.cells #[.int .u64 p0, .int .u64 p1, .int .u64 p2, .int .u64 p3] 40)
  have hm := blk_alloc HM2.out (.cells #[.int .u64 p0, .int .u64 p1, .int .u64 p2, .int .u64 p3] 40)
  have ho := blk_new w2 (.cells #[.int .u64 p0, .int .u64 p1, .int .u64 p2, .int .u64 p3] 40)
  have HB3 := below_alloc HB2.out (.cells #[.int .u64 p0, .int .u64 p1, .int .u64 p2, .int .u64 p3] 40)
  have hk' : W0.heap[w.heap.size]? = some (.cells #[.int .u64 p0, .int .u64 p1, .int .u64 p2, .int .u64 p3] 40 (0, 0)) := by rw [← hW]; exact hk
  have hm' : W0.heap[w1.heap.size]? = some (.cells #[.int .u64 p0, .int .u64 v, .int .u64 p2, .int .u64 p3] 40 (0, 0)) := by rw [← hW]; exact hm
  have ho' : W0.heap[w2.heap.size]? = some (.cells #[.int .u64 p0, .int .u64 p1, .int .u64 p2, .int .u64 p3] 40 (0, 0)) := by rw [← hW]; exact ho
  have HB4 := Aside0.mk (show Below w.heap.size w W0 by rw [← hW]; exact pw_below_drewN HB3 _)
  have HC := Aside0.mk (And.intro hk' (And.intro hm' ho'))
  clear hk' hm' ho' hk hm ho HB3 hW HK2 HM2 hc0 hc1 hc2 hc3 hm0 hm1 hm2 hm3 HB2
  have cA := fun (W' : World) (h_ : Below W0.heap.size W0 W') => (cells4 (blk_below HC.out.1 h_)).1
  have cB := fun (W' : World) (h_ : Below W0.heap.size W0 W') => (cells4 (blk_below HC.out.2.1 h_)).1
  have cC := fun (W' : World) (h_ : Below W0.heap.size W0 W') => (cells4 (blk_below HC.out.2.2 h_)).1
  go_region_held3 (fun w' => Below W0.heap.size W0 w') (first | assumption | exact Below.refl _ _ | exact below_step (by assumption) (by assumption) | exact below_drew (by assumption) | exact below_drew (Below.refl _ _))
    (first | (go_at_call 24; refine (alive13 _).mono ?_; rintro e w' ⟨rfl, hd⟩))
  rename_i hHeld
  have HH := Aside0.mk hHeld
  clear hHeld cA cB cC
  go_wp2
  go_ret
  exact ⟨by simp, below_step HB4.out HH.out⟩

set_option maxHeartbeats 8000000 in
set_option maxRecDepth 100000 in
theorem back_ok2 (p0 p1 p2 p3 n v : Nat) (b0 : p0 < 18446744073709551616) (b1 : p1 < 18446744073709551616) (b2 : p2 < 18446744073709551616) (b3 : p3 < 18446744073709551616) (bn : n < 18446744073709551616) (hv : p2 + n = v) (hm : v ≤ most) (w : World) :
    Calls Try.prog 9 #[.agg #[.int .u64 p0, .int .u64 p1, .int .u64 p2, .int .u64 p3], .int .i64 2, .int .u64 n] w fun e w' => e = .returned (.bool true) ∧ Below w.heap.size w w' := by
  have bv : v < 18446744073709551616 := by unfold most at hm; omega
  have hq : chg plusN p0 p1 p2 p3 2 n = (p0, p1, v, p3, 0) := by
    have : plusN p2 n = (v, 0) := by unfold plusN; rw [hv, if_pos hm]
    simp [chg, this]
  have hr : chg minusN p0 p1 v p3 2 n = (p0, p1, p2, p3, 0) := by
    have : minusN v n = (p2, 0) := by unfold minusN; rw [if_neg (by omega)]; congr 1; omega
    simp [chg, this]
  have H1 := Lib.hid (fun w => give_calls b0 b1 b2 b3 bn hq w)
  have H3 := Lib.hid (fun w => take_calls b0 b1 bv b3 bn hr w)
  have hi1 : (n : Int) ≤ (v : Int) := by omega
  have hi2 : (p2 : Int) ≤ (v : Int) := by omega
  have hi3 : (v : Int) ≤ 4611686018427387904 := by unfold most at hm; omega
  clear b0 b1 b2 b3 bn bv hq hr hv hm
  have heq := eq4
  go_enter Try.func9, Try.ntmps9
  go_wp2_with fail
  refine (H1.out _).mono ?_
  rintro e w1 ⟨rfl, hb1⟩
  have hk := blk_at1 hb1
  obtain ⟨⟨hc0, hc1, hc2, hc3⟩, _⟩ := cells4 hk
  have HK1 := Aside0.mk hk
  have hl1 := blk_lt hk
  have HB1 := Aside0.mk (below_step (below_alloc (Below.refl w.heap.size w) _) hb1)
  clear hk hb1
  go_wp2_with fail
  refine (H3.out _).mono ?_
  rintro e w2 ⟨rfl, hb2⟩
  clear hc0 hc1 hc2 hc3
  have hk := blk_below (blk_alloc HK1.out _) hb2
  have hm := blk_at1 hb2
  obtain ⟨⟨hc0, hc1, hc2, hc3⟩, _⟩ := cells4 hk
  obtain ⟨⟨hm0, hm1, hm2, hm3⟩, _⟩ := cells4 hm
  have HK2 := Aside0.mk hk
  have HM2 := Aside0.mk hm
  have hl2 := blk_lt hk
  have hl3 := blk_lt hm
  have HB2 := Aside0.mk (below_step (below_alloc HB1.out _) hb2)
  clear hk hm hb2 HK1 HB1 hl1
  go_wp2_with fail
  refine wp_loop_rounds 5 ?_
  rw [rounds_succ]
  go_wp2_with fail
  go_quiet (fail)
  go_wp2_with fail
  rw [rounds_succ]
  go_wp2_with fail
  go_quiet (fail)
  go_wp2_with fail
  rw [rounds_succ]
  go_wp2_with fail
  go_quiet (fail)
  go_wp2_with fail
  rw [rounds_succ]
  go_wp2_with fail
  go_quiet (fail)
  go_wp2_with fail
  rw [rounds_succ]
  go_wp2_with fail
  generalize hW : World.drewN _ _ = W0
  have hk := blk_alloc HK2.out (.cells #[.int .u64 p0, .int .u64 p1, .int .u64 p2, .int .u64 p3] 40)
  have hm := blk_alloc HM2.out (.cells #[.int .u64 p0, .int .u64 p1, .int .u64 p2, .int .u64 p3] 40)
  have ho := blk_new w2 (.cells #[.int .u64 p0, .int .u64 p1, .int .u64 p2, .int .u64 p3] 40)
  have HB3 := below_alloc HB2.out (.cells #[.int .u64 p0, .int .u64 p1, .int .u64 p2, .int .u64 p3] 40)
  have hk' : W0.heap[w.heap.size]? = some (.cells #[.int .u64 p0, .int .u64 p1, .int .u64 p2, .int .u64 p3] 40 (0, 0)) := by rw [← hW]; exact hk
  have hm' : W0.heap[w1.heap.size]? = some (.cells #[.int .u64 p0, .int .u64 p1, .int .u64 v, .int .u64 p3] 40 (0, 0)) := by rw [← hW]; exact hm
  have ho' : W0.heap[w2.heap.size]? = some (.cells #[.int .u64 p0, .int .u64 p1, .int .u64 p2, .int .u64 p3] 40 (0, 0)) := by rw [← hW]; exact ho
  have HB4 := Aside0.mk (show Below w.heap.size w W0 by rw [← hW]; exact pw_below_drewN HB3 _)
  have HC := Aside0.mk (And.intro hk' (And.intro hm' ho'))
  clear hk' hm' ho' hk hm ho HB3 hW HK2 HM2 hc0 hc1 hc2 hc3 hm0 hm1 hm2 hm3 HB2
  have cA := fun (W' : World) (h_ : Below W0.heap.size W0 W') => (cells4 (blk_below HC.out.1 h_)).1
  have cB := fun (W' : World) (h_ : Below W0.heap.size W0 W') => (cells4 (blk_below HC.out.2.1 h_)).1
  have cC := fun (W' : World) (h_ : Below W0.heap.size W0 W') => (cells4 (blk_below HC.out.2.2 h_)).1
  go_region_held3 (fun w' => Below W0.heap.size W0 w') (first | assumption | exact Below.refl _ _ | exact below_step (by assumption) (by assumption) | exact below_drew (by assumption) | exact below_drew (Below.refl _ _))
    (first | (go_at_call 24; refine (alive13 _).mono ?_; rintro e w' ⟨rfl, hd⟩))
  rename_i hHeld
  have HH := Aside0.mk hHeld
  clear hHeld cA cB cC
  go_wp2
  go_ret
  exact ⟨by simp, below_step HB4.out HH.out⟩

set_option maxHeartbeats 8000000 in
set_option maxRecDepth 100000 in
theorem back_ok3 (p0 p1 p2 p3 n v : Nat) (b0 : p0 < 18446744073709551616) (b1 : p1 < 18446744073709551616) (b2 : p2 < 18446744073709551616) (b3 : p3 < 18446744073709551616) (bn : n < 18446744073709551616) (hv : p3 + n = v) (hm : v ≤ most) (w : World) :
    Calls Try.prog 9 #[.agg #[.int .u64 p0, .int .u64 p1, .int .u64 p2, .int .u64 p3], .int .i64 3, .int .u64 n] w fun e w' => e = .returned (.bool true) ∧ Below w.heap.size w w' := by
  have bv : v < 18446744073709551616 := by unfold most at hm; omega
  have hq : chg plusN p0 p1 p2 p3 3 n = (p0, p1, p2, v, 0) := by
    have : plusN p3 n = (v, 0) := by unfold plusN; rw [hv, if_pos hm]
    simp [chg, this]
  have hr : chg minusN p0 p1 p2 v 3 n = (p0, p1, p2, p3, 0) := by
    have : minusN v n = (p3, 0) := by unfold minusN; rw [if_neg (by omega)]; congr 1; omega
    simp [chg, this]
  have H1 := Lib.hid (fun w => give_calls b0 b1 b2 b3 bn hq w)
  have H3 := Lib.hid (fun w => take_calls b0 b1 b2 bv bn hr w)
  have hi1 : (n : Int) ≤ (v : Int) := by omega
  have hi2 : (p3 : Int) ≤ (v : Int) := by omega
  have hi3 : (v : Int) ≤ 4611686018427387904 := by unfold most at hm; omega
  clear b0 b1 b2 b3 bn bv hq hr hv hm
  have heq := eq4
  go_enter Try.func9, Try.ntmps9
  go_wp2_with fail
  refine (H1.out _).mono ?_
  rintro e w1 ⟨rfl, hb1⟩
  have hk := blk_at1 hb1
  obtain ⟨⟨hc0, hc1, hc2, hc3⟩, _⟩ := cells4 hk
  have HK1 := Aside0.mk hk
  have hl1 := blk_lt hk
  have HB1 := Aside0.mk (below_step (below_alloc (Below.refl w.heap.size w) _) hb1)
  clear hk hb1
  go_wp2_with fail
  refine (H3.out _).mono ?_
  rintro e w2 ⟨rfl, hb2⟩
  clear hc0 hc1 hc2 hc3
  have hk := blk_below (blk_alloc HK1.out _) hb2
  have hm := blk_at1 hb2
  obtain ⟨⟨hc0, hc1, hc2, hc3⟩, _⟩ := cells4 hk
  obtain ⟨⟨hm0, hm1, hm2, hm3⟩, _⟩ := cells4 hm
  have HK2 := Aside0.mk hk
  have HM2 := Aside0.mk hm
  have hl2 := blk_lt hk
  have hl3 := blk_lt hm
  have HB2 := Aside0.mk (below_step (below_alloc HB1.out _) hb2)
  clear hk hm hb2 HK1 HB1 hl1
  go_wp2_with fail
  refine wp_loop_rounds 5 ?_
  rw [rounds_succ]
  go_wp2_with fail
  go_quiet (fail)
  go_wp2_with fail
  rw [rounds_succ]
  go_wp2_with fail
  go_quiet (fail)
  go_wp2_with fail
  rw [rounds_succ]
  go_wp2_with fail
  go_quiet (fail)
  go_wp2_with fail
  rw [rounds_succ]
  go_wp2_with fail
  go_quiet (fail)
  go_wp2_with fail
  rw [rounds_succ]
  go_wp2_with fail
  generalize hW : World.drewN _ _ = W0
  have hk := blk_alloc HK2.out (.cells #[.int .u64 p0, .int .u64 p1, .int .u64 p2, .int .u64 p3] 40)
  have hm := blk_alloc HM2.out (.cells #[.int .u64 p0, .int .u64 p1, .int .u64 p2, .int .u64 p3] 40)
  have ho := blk_new w2 (.cells #[.int .u64 p0, .int .u64 p1, .int .u64 p2, .int .u64 p3] 40)
  have HB3 := below_alloc HB2.out (.cells #[.int .u64 p0, .int .u64 p1, .int .u64 p2, .int .u64 p3] 40)
  have hk' : W0.heap[w.heap.size]? = some (.cells #[.int .u64 p0, .int .u64 p1, .int .u64 p2, .int .u64 p3] 40 (0, 0)) := by rw [← hW]; exact hk
  have hm' : W0.heap[w1.heap.size]? = some (.cells #[.int .u64 p0, .int .u64 p1, .int .u64 p2, .int .u64 v] 40 (0, 0)) := by rw [← hW]; exact hm
  have ho' : W0.heap[w2.heap.size]? = some (.cells #[.int .u64 p0, .int .u64 p1, .int .u64 p2, .int .u64 p3] 40 (0, 0)) := by rw [← hW]; exact ho
  have HB4 := Aside0.mk (show Below w.heap.size w W0 by rw [← hW]; exact pw_below_drewN HB3 _)
  have HC := Aside0.mk (And.intro hk' (And.intro hm' ho'))
  clear hk' hm' ho' hk hm ho HB3 hW HK2 HM2 hc0 hc1 hc2 hc3 hm0 hm1 hm2 hm3 HB2
  have cA := fun (W' : World) (h_ : Below W0.heap.size W0 W') => (cells4 (blk_below HC.out.1 h_)).1
  have cB := fun (W' : World) (h_ : Below W0.heap.size W0 W') => (cells4 (blk_below HC.out.2.1 h_)).1
  have cC := fun (W' : World) (h_ : Below W0.heap.size W0 W') => (cells4 (blk_below HC.out.2.2 h_)).1
  go_region_held3 (fun w' => Below W0.heap.size W0 w') (first | assumption | exact Below.refl _ _ | exact below_step (by assumption) (by assumption) | exact below_drew (by assumption) | exact below_drew (Below.refl _ _))
    (first | (go_at_call 24; refine (alive13 _).mono ?_; rintro e w' ⟨rfl, hd⟩))
  rename_i hHeld
  have HH := Aside0.mk hHeld
  clear hHeld cA cB cC
  go_wp2
  go_ret
  exact ⟨by simp, below_step HB4.out HH.out⟩
set_option maxHeartbeats 4000000 in
set_option maxRecDepth 100000 in
theorem back_out (p0 p1 p2 p3 n : Nat) (c : Int) (b0 : p0 < 18446744073709551616) (b1 : p1 < 18446744073709551616) (b2 : p2 < 18446744073709551616) (b3 : p3 < 18446744073709551616) (bn : n < 18446744073709551616) (hc : ¬ (0 ≤ c ∧ c < 4)) (w : World) :
    Calls Try.prog 9 #[.agg #[.int .u64 p0, .int .u64 p1, .int .u64 p2, .int .u64 p3], .int .i64 c, .int .u64 n] w fun e w' => e = .returned (.bool true) ∧ Below w.heap.size w w' := by
  have hq : chg plusN p0 p1 p2 p3 c n = (0, 0, 0, 0, 1) := chg_out hc rfl
  by_cases h0 : c < 0
  · clear hc
    have H1 := Lib.hid (fun w => give_calls b0 b1 b2 b3 bn hq w)
    clear b0 b1 b2 b3 bn hq
    have heq := eq4
    have hz : ∀ w : World, (zeroValue 40).run Try.prog w = .ok (.agg #[.int .u64 0, .int .u64 0, .int .u64 0, .int .u64 0]) w := fun w => by kernel_rfl
    go_enter Try.func9, Try.ntmps9
    go_wp2_with fail
    refine (H1.out _).mono ?_
    rintro e w1 ⟨rfl, hb1⟩
    have hk := blk_at1 hb1
    obtain ⟨⟨hc0, hc1, hc2, hc3⟩, _⟩ := cells4 hk
    have HK1 := Aside0.mk hk
    have hl1 := blk_lt hk
    have HB1 := Aside0.mk (below_step (below_alloc (Below.refl w.heap.size w) _) hb1)
    clear hk hb1
    go_wp2_with fail
    refine (alive13 _).mono ?_
    rintro e w2 ⟨rfl, hb2⟩
    clear hc0 hc1 hc2 hc3
    have hk := blk_below (blk_alloc HK1.out _) hb2
    have hm := blk_at1 hb2
    obtain ⟨⟨hc0, hc1, hc2, hc3⟩, _⟩ := cells4 hk
    obtain ⟨⟨hm0, hm1, hm2, hm3⟩, _⟩ := cells4 hm
    have hl2 := blk_lt hk
    have hl3 := blk_lt hm
    have HB2 := Aside0.mk (below_step (below_alloc HB1.out _) hb2)
    clear hk hm hb2 HK1 HB1 hl1
    go_wp2_with fail
    go_ret
    exact ⟨by first | rfl | simp, HB2.out⟩
  · have h3 : 3 < c := by omega
    clear hc
    have H1 := Lib.hid (fun w => give_calls b0 b1 b2 b3 bn hq w)
    clear b0 b1 b2 b3 bn hq
    have heq := eq4
    have hz : ∀ w : World, (zeroValue 40).run Try.prog w = .ok (.agg #[.int .u64 0, .int .u64 0, .int .u64 0, .int .u64 0]) w := fun w => by kernel_rfl
    go_enter Try.func9, Try.ntmps9
    go_wp2_with fail
    refine (H1.out _).mono ?_
    rintro e w1 ⟨rfl, hb1⟩
    have hk := blk_at1 hb1
    obtain ⟨⟨hc0, hc1, hc2, hc3⟩, _⟩ := cells4 hk
    have HK1 := Aside0.mk hk
    have hl1 := blk_lt hk
    have HB1 := Aside0.mk (below_step (below_alloc (Below.refl w.heap.size w) _) hb1)
    clear hk hb1
    go_wp2_with fail
    refine (alive13 _).mono ?_
    rintro e w2 ⟨rfl, hb2⟩
    clear hc0 hc1 hc2 hc3
    have hk := blk_below (blk_alloc HK1.out _) hb2
    have hm := blk_at1 hb2
    obtain ⟨⟨hc0, hc1, hc2, hc3⟩, _⟩ := cells4 hk
    obtain ⟨⟨hm0, hm1, hm2, hm3⟩, _⟩ := cells4 hm
    have hl2 := blk_lt hk
    have hl3 := blk_lt hm
    have HB2 := Aside0.mk (below_step (below_alloc HB1.out _) hb2)
    clear hk hm hb2 HK1 HB1 hl1
    go_wp2_with fail
    go_ret
    exact ⟨by first | rfl | simp, HB2.out⟩
set_option maxHeartbeats 4000000 in
set_option maxRecDepth 100000 in
theorem back_no0 (p0 p1 p2 p3 n : Nat) (b0 : p0 < 18446744073709551616) (b1 : p1 < 18446744073709551616) (b2 : p2 < 18446744073709551616) (b3 : p3 < 18446744073709551616) (bn : n < 18446744073709551616) (hm : most < p0 + n) (w : World) :
    Calls Try.prog 9 #[.agg #[.int .u64 p0, .int .u64 p1, .int .u64 p2, .int .u64 p3], .int .i64 0, .int .u64 n] w fun e w' => e = .returned (.bool true) ∧ Below w.heap.size w w' := by
  have hq : chg plusN p0 p1 p2 p3 0 n = (0, 0, 0, 0, 7) := by
    have : plusN p0 n = (0, 7) := by unfold plusN; rw [if_neg (by omega)]
    simp [chg, this]
  by_cases h0 : (4611686018427387904 : Int) < (p0 : Int)
  · clear hm
    have H1 := Lib.hid (fun w => give_calls b0 b1 b2 b3 bn hq w)
    clear b0 b1 b2 b3 bn hq
    have heq := eq4
    have hz : ∀ w : World, (zeroValue 40).run Try.prog w = .ok (.agg #[.int .u64 0, .int .u64 0, .int .u64 0, .int .u64 0]) w := fun w => by kernel_rfl
    go_enter Try.func9, Try.ntmps9
    go_wp2_with fail
    refine (H1.out _).mono ?_
    rintro e w1 ⟨rfl, hb1⟩
    have hk := blk_at1 hb1
    obtain ⟨⟨hc0, hc1, hc2, hc3⟩, _⟩ := cells4 hk
    have HK1 := Aside0.mk hk
    have hl1 := blk_lt hk
    have HB1 := Aside0.mk (below_step (below_alloc (Below.refl w.heap.size w) _) hb1)
    clear hk hb1
    go_wp2_with fail
    refine (alive13 _).mono ?_
    rintro e w2 ⟨rfl, hb2⟩
    clear hc0 hc1 hc2 hc3
    have hk := blk_below (blk_alloc HK1.out _) hb2
    have hm := blk_at1 hb2
    obtain ⟨⟨hc0, hc1, hc2, hc3⟩, _⟩ := cells4 hk
    obtain ⟨⟨hm0, hm1, hm2, hm3⟩, _⟩ := cells4 hm
    have hl2 := blk_lt hk
    have hl3 := blk_lt hm
    have HB2 := Aside0.mk (below_step (below_alloc HB1.out _) hb2)
    clear hk hm hb2 HK1 HB1 hl1
    go_wp2_with fail
    go_ret
    exact ⟨by first | rfl | simp, HB2.out⟩
  · have hw : IntKind.u64.wrap (4611686018427387904 - (p0 : Int)) = 4611686018427387904 - (p0 : Int) := by rw [IntKind.wrap_u64]; omega
    have hlt : 4611686018427387904 - (p0 : Int) < (n : Int) := by unfold most at hm; omega
    clear hm
    have H1 := Lib.hid (fun w => give_calls b0 b1 b2 b3 bn hq w)
    clear b0 b1 b2 b3 bn hq
    have heq := eq4
    have hz : ∀ w : World, (zeroValue 40).run Try.prog w = .ok (.agg #[.int .u64 0, .int .u64 0, .int .u64 0, .int .u64 0]) w := fun w => by kernel_rfl
    go_enter Try.func9, Try.ntmps9
    go_wp2_with fail
    refine (H1.out _).mono ?_
    rintro e w1 ⟨rfl, hb1⟩
    have hk := blk_at1 hb1
    obtain ⟨⟨hc0, hc1, hc2, hc3⟩, _⟩ := cells4 hk
    have HK1 := Aside0.mk hk
    have hl1 := blk_lt hk
    have HB1 := Aside0.mk (below_step (below_alloc (Below.refl w.heap.size w) _) hb1)
    clear hk hb1
    go_wp2_with fail
    refine (alive13 _).mono ?_
    rintro e w2 ⟨rfl, hb2⟩
    clear hc0 hc1 hc2 hc3
    have hk := blk_below (blk_alloc HK1.out _) hb2
    have hm := blk_at1 hb2
    obtain ⟨⟨hc0, hc1, hc2, hc3⟩, _⟩ := cells4 hk
    obtain ⟨⟨hm0, hm1, hm2, hm3⟩, _⟩ := cells4 hm
    have hl2 := blk_lt hk
    have hl3 := blk_lt hm
    have HB2 := Aside0.mk (below_step (below_alloc HB1.out _) hb2)
    clear hk hm hb2 HK1 HB1 hl1
    go_wp2_with fail
    go_ret
    exact ⟨by first | rfl | simp, HB2.out⟩
set_option maxHeartbeats 4000000 in
set_option maxRecDepth 100000 in
theorem back_no1 (p0 p1 p2 p3 n : Nat) (b0 : p0 < 18446744073709551616) (b1 : p1 < 18446744073709551616) (b2 : p2 < 18446744073709551616) (b3 : p3 < 18446744073709551616) (bn : n < 18446744073709551616) (hm : most < p1 + n) (w : World) :
    Calls Try.prog 9 #[.agg #[.int .u64 p0, .int .u64 p1, .int .u64 p2, .int .u64 p3], .int .i64 1, .int .u64 n] w fun e w' => e = .returned (.bool true) ∧ Below w.heap.size w w' := by
  have hq : chg plusN p0 p1 p2 p3 1 n = (0, 0, 0, 0, 7) := by
    have : plusN p1 n = (0, 7) := by unfold plusN; rw [if_neg (by omega)]
    simp [chg, this]
  by_cases h0 : (4611686018427387904 : Int) < (p1 : Int)
  · clear hm
    have H1 := Lib.hid (fun w => give_calls b0 b1 b2 b3 bn hq w)
    clear b0 b1 b2 b3 bn hq
    have heq := eq4
    have hz : ∀ w : World, (zeroValue 40).run Try.prog w = .ok (.agg #[.int .u64 0, .int .u64 0, .int .u64 0, .int .u64 0]) w := fun w => by kernel_rfl
    go_enter Try.func9, Try.ntmps9
    go_wp2_with fail
    refine (H1.out _).mono ?_
    rintro e w1 ⟨rfl, hb1⟩
    have hk := blk_at1 hb1
    obtain ⟨⟨hc0, hc1, hc2, hc3⟩, _⟩ := cells4 hk
    have HK1 := Aside0.mk hk
    have hl1 := blk_lt hk
    have HB1 := Aside0.mk (below_step (below_alloc (Below.refl w.heap.size w) _) hb1)
    clear hk hb1
    go_wp2_with fail
    refine (alive13 _).mono ?_
    rintro e w2 ⟨rfl, hb2⟩
    clear hc0 hc1 hc2 hc3
    have hk := blk_below (blk_alloc HK1.out _) hb2
    have hm := blk_at1 hb2
    obtain ⟨⟨hc0, hc1, hc2, hc3⟩, _⟩ := cells4 hk
    obtain ⟨⟨hm0, hm1, hm2, hm3⟩, _⟩ := cells4 hm
    have hl2 := blk_lt hk
    have hl3 := blk_lt hm
    have HB2 := Aside0.mk (below_step (below_alloc HB1.out _) hb2)
    clear hk hm hb2 HK1 HB1 hl1
    go_wp2_with fail
    go_ret
    exact ⟨by first | rfl | simp, HB2.out⟩
  · have hw : IntKind.u64.wrap (4611686018427387904 - (p1 : Int)) = 4611686018427387904 - (p1 : Int) := by rw [IntKind.wrap_u64]; omega
    have hlt : 4611686018427387904 - (p1 : Int) < (n : Int) := by unfold most at hm; omega
    clear hm
    have H1 := Lib.hid (fun w => give_calls b0 b1 b2 b3 bn hq w)
    clear b0 b1 b2 b3 bn hq
    have heq := eq4
    have hz : ∀ w : World, (zeroValue 40).run Try.prog w = .ok (.agg #[.int .u64 0, .int .u64 0, .int .u64 0, .int .u64 0]) w := fun w => by kernel_rfl
    go_enter Try.func9, Try.ntmps9
    go_wp2_with fail
    refine (H1.out _).mono ?_
    rintro e w1 ⟨rfl, hb1⟩
    have hk := blk_at1 hb1
    obtain ⟨⟨hc0, hc1, hc2, hc3⟩, _⟩ := cells4 hk
    have HK1 := Aside0.mk hk
    have hl1 := blk_lt hk
    have HB1 := Aside0.mk (below_step (below_alloc (Below.refl w.heap.size w) _) hb1)
    clear hk hb1
    go_wp2_with fail
    refine (alive13 _).mono ?_
    rintro e w2 ⟨rfl, hb2⟩
    clear hc0 hc1 hc2 hc3
    have hk := blk_below (blk_alloc HK1.out _) hb2
    have hm := blk_at1 hb2
    obtain ⟨⟨hc0, hc1, hc2, hc3⟩, _⟩ := cells4 hk
    obtain ⟨⟨hm0, hm1, hm2, hm3⟩, _⟩ := cells4 hm
    have hl2 := blk_lt hk
    have hl3 := blk_lt hm
    have HB2 := Aside0.mk (below_step (below_alloc HB1.out _) hb2)
    clear hk hm hb2 HK1 HB1 hl1
    go_wp2_with fail
    go_ret
    exact ⟨by first | rfl | simp, HB2.out⟩
set_option maxHeartbeats 4000000 in
set_option maxRecDepth 100000 in
theorem back_no2 (p0 p1 p2 p3 n : Nat) (b0 : p0 < 18446744073709551616) (b1 : p1 < 18446744073709551616) (b2 : p2 < 18446744073709551616) (b3 : p3 < 18446744073709551616) (bn : n < 18446744073709551616) (hm : most < p2 + n) (w : World) :
    Calls Try.prog 9 #[.agg #[.int .u64 p0, .int .u64 p1, .int .u64 p2, .int .u64 p3], .int .i64 2, .int .u64 n] w fun e w' => e = .returned (.bool true) ∧ Below w.heap.size w w' := by
  have hq : chg plusN p0 p1 p2 p3 2 n = (0, 0, 0, 0, 7) := by
    have : plusN p2 n = (0, 7) := by unfold plusN; rw [if_neg (by omega)]
    simp [chg, this]
  by_cases h0 : (4611686018427387904 : Int) < (p2 : Int)
  · clear hm
    have H1 := Lib.hid (fun w => give_calls b0 b1 b2 b3 bn hq w)
    clear b0 b1 b2 b3 bn hq
    have heq := eq4
    have hz : ∀ w : World, (zeroValue 40).run Try.prog w = .ok (.agg #[.int .u64 0, .int .u64 0, .int .u64 0, .int .u64 0]) w := fun w => by kernel_rfl
    go_enter Try.func9, Try.ntmps9
    go_wp2_with fail
    refine (H1.out _).mono ?_
    rintro e w1 ⟨rfl, hb1⟩
    have hk := blk_at1 hb1
    obtain ⟨⟨hc0, hc1, hc2, hc3⟩, _⟩ := cells4 hk
    have HK1 := Aside0.mk hk
    have hl1 := blk_lt hk
    have HB1 := Aside0.mk (below_step (below_alloc (Below.refl w.heap.size w) _) hb1)
    clear hk hb1
    go_wp2_with fail
    refine (alive13 _).mono ?_
    rintro e w2 ⟨rfl, hb2⟩
    clear hc0 hc1 hc2 hc3
    have hk := blk_below (blk_alloc HK1.out _) hb2
    have hm := blk_at1 hb2
    obtain ⟨⟨hc0, hc1, hc2, hc3⟩, _⟩ := cells4 hk
    obtain ⟨⟨hm0, hm1, hm2, hm3⟩, _⟩ := cells4 hm
    have hl2 := blk_lt hk
    have hl3 := blk_lt hm
    have HB2 := Aside0.mk (below_step (below_alloc HB1.out _) hb2)
    clear hk hm hb2 HK1 HB1 hl1
    go_wp2_with fail
    go_ret
    exact ⟨by first | rfl | simp, HB2.out⟩
  · have hw : IntKind.u64.wrap (4611686018427387904 - (p2 : Int)) = 4611686018427387904 - (p2 : Int) := by rw [IntKind.wrap_u64]; omega
    have hlt : 4611686018427387904 - (p2 : Int) < (n : Int) := by unfold most at hm; omega
    clear hm
    have H1 := Lib.hid (fun w => give_calls b0 b1 b2 b3 bn hq w)
    clear b0 b1 b2 b3 bn hq
    have heq := eq4
    have hz : ∀ w : World, (zeroValue 40).run Try.prog w = .ok (.agg #[.int .u64 0, .int .u64 0, .int .u64 0, .int .u64 0]) w := fun w => by kernel_rfl
    go_enter Try.func9, Try.ntmps9
    go_wp2_with fail
    refine (H1.out _).mono ?_
    rintro e w1 ⟨rfl, hb1⟩
    have hk := blk_at1 hb1
    obtain ⟨⟨hc0, hc1, hc2, hc3⟩, _⟩ := cells4 hk
    have HK1 := Aside0.mk hk
    have hl1 := blk_lt hk
    have HB1 := Aside0.mk (below_step (below_alloc (Below.refl w.heap.size w) _) hb1)
    clear hk hb1
    go_wp2_with fail
    refine (alive13 _).mono ?_
    rintro e w2 ⟨rfl, hb2⟩
    clear hc0 hc1 hc2 hc3
    have hk := blk_below (blk_alloc HK1.out _) hb2
    have hm := blk_at1 hb2
    obtain ⟨⟨hc0, hc1, hc2, hc3⟩, _⟩ := cells4 hk
    obtain ⟨⟨hm0, hm1, hm2, hm3⟩, _⟩ := cells4 hm
    have hl2 := blk_lt hk
    have hl3 := blk_lt hm
    have HB2 := Aside0.mk (below_step (below_alloc HB1.out _) hb2)
    clear hk hm hb2 HK1 HB1 hl1
    go_wp2_with fail
    go_ret
    exact ⟨by first | rfl | simp, HB2.out⟩
set_option maxHeartbeats 4000000 in
set_option maxRecDepth 100000 in
theorem back_no3 (p0 p1 p2 p3 n : Nat) (b0 : p0 < 18446744073709551616) (b1 : p1 < 18446744073709551616) (b2 : p2 < 18446744073709551616) (b3 : p3 < 18446744073709551616) (bn : n < 18446744073709551616) (hm : most < p3 + n) (w : World) :
    Calls Try.prog 9 #[.agg #[.int .u64 p0, .int .u64 p1, .int .u64 p2, .int .u64 p3], .int .i64 3, .int .u64 n] w fun e w' => e = .returned (.bool true) ∧ Below w.heap.size w w' := by
  have hq : chg plusN p0 p1 p2 p3 3 n = (0, 0, 0, 0, 7) := by
    have : plusN p3 n = (0, 7) := by unfold plusN; rw [if_neg (by omega)]
    simp [chg, this]
  by_cases h0 : (4611686018427387904 : Int) < (p3 : Int)
  · clear hm
    have H1 := Lib.hid (fun w => give_calls b0 b1 b2 b3 bn hq w)
    clear b0 b1 b2 b3 bn hq
    have heq := eq4
    have hz : ∀ w : World, (zeroValue 40).run Try.prog w = .ok (.agg #[.int .u64 0, .int .u64 0, .int .u64 0, .int .u64 0]) w := fun w => by kernel_rfl
    go_enter Try.func9, Try.ntmps9
    go_wp2_with fail
    refine (H1.out _).mono ?_
    rintro e w1 ⟨rfl, hb1⟩
    have hk := blk_at1 hb1
    obtain ⟨⟨hc0, hc1, hc2, hc3⟩, _⟩ := cells4 hk
    have HK1 := Aside0.mk hk
    have hl1 := blk_lt hk
    have HB1 := Aside0.mk (below_step (below_alloc (Below.refl w.heap.size w) _) hb1)
    clear hk hb1
    go_wp2_with fail
    refine (alive13 _).mono ?_
    rintro e w2 ⟨rfl, hb2⟩
    clear hc0 hc1 hc2 hc3
    have hk := blk_below (blk_alloc HK1.out _) hb2
    have hm := blk_at1 hb2
    obtain ⟨⟨hc0, hc1, hc2, hc3⟩, _⟩ := cells4 hk
    obtain ⟨⟨hm0, hm1, hm2, hm3⟩, _⟩ := cells4 hm
    have hl2 := blk_lt hk
    have hl3 := blk_lt hm
    have HB2 := Aside0.mk (below_step (below_alloc HB1.out _) hb2)
    clear hk hm hb2 HK1 HB1 hl1
    go_wp2_with fail
    go_ret
    exact ⟨by first | rfl | simp, HB2.out⟩
  · have hw : IntKind.u64.wrap (4611686018427387904 - (p3 : Int)) = 4611686018427387904 - (p3 : Int) := by rw [IntKind.wrap_u64]; omega
    have hlt : 4611686018427387904 - (p3 : Int) < (n : Int) := by unfold most at hm; omega
    clear hm
    have H1 := Lib.hid (fun w => give_calls b0 b1 b2 b3 bn hq w)
    clear b0 b1 b2 b3 bn hq
    have heq := eq4
    have hz : ∀ w : World, (zeroValue 40).run Try.prog w = .ok (.agg #[.int .u64 0, .int .u64 0, .int .u64 0, .int .u64 0]) w := fun w => by kernel_rfl
    go_enter Try.func9, Try.ntmps9
    go_wp2_with fail
    refine (H1.out _).mono ?_
    rintro e w1 ⟨rfl, hb1⟩
    have hk := blk_at1 hb1
    obtain ⟨⟨hc0, hc1, hc2, hc3⟩, _⟩ := cells4 hk
    have HK1 := Aside0.mk hk
    have hl1 := blk_lt hk
    have HB1 := Aside0.mk (below_step (below_alloc (Below.refl w.heap.size w) _) hb1)
    clear hk hb1
    go_wp2_with fail
    refine (alive13 _).mono ?_
    rintro e w2 ⟨rfl, hb2⟩
    clear hc0 hc1 hc2 hc3
    have hk := blk_below (blk_alloc HK1.out _) hb2
    have hm := blk_at1 hb2
    obtain ⟨⟨hc0, hc1, hc2, hc3⟩, _⟩ := cells4 hk
    obtain ⟨⟨hm0, hm1, hm2, hm3⟩, _⟩ := cells4 hm
    have hl2 := blk_lt hk
    have hl3 := blk_lt hm
    have HB2 := Aside0.mk (below_step (below_alloc HB1.out _) hb2)
    clear hk hm hb2 HK1 HB1 hl1
    go_wp2_with fail
    go_ret
    exact ⟨by first | rfl | simp, HB2.out⟩

theorem coinBack (x0 x1 x2 x3 n c : Int) (u0 : (Lit.int .u64 x0).wf = true) (u1 : (Lit.int .u64 x1).wf = true) (u2 : (Lit.int .u64 x2).wf = true) (u3 : (Lit.int .u64 x3).wf = true) (un : (Lit.int .u64 n).wf = true) (w : World) :
    Calls Try.prog 9 #[.agg #[.int .u64 x0, .int .u64 x1, .int .u64 x2, .int .u64 x3], .int .i64 c, .int .u64 n] w fun e w' => e = .returned (.bool true) ∧ Below w.heap.size w w' := by
  obtain ⟨p0, rfl, b0⟩ := u64_of u0
  obtain ⟨p1, rfl, b1⟩ := u64_of u1
  obtain ⟨p2, rfl, b2⟩ := u64_of u2
  obtain ⟨p3, rfl, b3⟩ := u64_of u3
  obtain ⟨n, rfl, bn⟩ := u64_of un
  by_cases hc : 0 ≤ c ∧ c < 4
  · have h4 : c = 0 ∨ c = 1 ∨ c = 2 ∨ c = 3 := by omega
    rcases h4 with rfl | rfl | rfl | rfl
    · by_cases h : p0 + n ≤ most
      · exact back_ok0 p0 p1 p2 p3 n _ b0 b1 b2 b3 bn rfl h w
      · exact back_no0 p0 p1 p2 p3 n b0 b1 b2 b3 bn (by omega) w
    · by_cases h : p1 + n ≤ most
      · exact back_ok1 p0 p1 p2 p3 n _ b0 b1 b2 b3 bn rfl h w
      · exact back_no1 p0 p1 p2 p3 n b0 b1 b2 b3 bn (by omega) w
    · by_cases h : p2 + n ≤ most
      · exact back_ok2 p0 p1 p2 p3 n _ b0 b1 b2 b3 bn rfl h w
      · exact back_no2 p0 p1 p2 p3 n b0 b1 b2 b3 bn (by omega) w
    · by_cases h : p3 + n ≤ most
      · exact back_ok3 p0 p1 p2 p3 n _ b0 b1 b2 b3 bn rfl h w
      · exact back_no3 p0 p1 p2 p3 n b0 b1 b2 b3 bn (by omega) w
  · exact back_out p0 p1 p2 p3 n c b0 b1 b2 b3 bn hc w
end Go.Proofs.Ytcfibadhikohfaa.Giv
