/- The laws of coins: what their texts come to. -/
import Derived.Test.YtcfibadhikohfaaGPurse
import Derived.ChangeKeysEq
namespace Go.Proofs.Ytcfibadhikohfaa.Giv
open Go.RowKit Go.Proofs.YtcfibadhikohfaaW.PrintWords Go.Proofs.YtcfibadhikohfaaW.PrintMore
set_option linter.unusedVariables false
set_option linter.unusedSimpArgs false

theorem info32 : ∃ i, Try.prog.info? 32 = some i := ⟨_, rfl⟩
theorem cells32 : Try.prog.cellsOf 32 = 1 := by kernel_rfl
set_option maxRecDepth 100000 in
theorem eq4 (a0 a1 a2 a3 b0 b1 b2 b3 : Int) (w : World) : (Op.equalIn 10000 40 (.agg #[.int .u64 a0, .int .u64 a1, .int .u64 a2, .int .u64 a3]) (.agg #[.int .u64 b0, .int .u64 b1, .int .u64 b2, .int .u64 b3])).run Try.prog w =
    .ok (a0 == b0 && (a1 == b1 && (a2 == b2 && a3 == b3))) w := by
  obtain ⟨i, hi⟩ := info32
  rw [show (10000 : Nat) = 9999 + 1 from rfl, run_equalIn_array w 9999 _ _ Try.underlying40 hi, cells32]
  simp [Op.eqItems, List.range, List.range.loop, go_sem, Try.underlying32]
  by_cases h0 : a0 = b0 <;> by_cases h1 : a1 = b1 <;> by_cases h2 : a2 = b2 <;> by_cases h3 : a3 = b3 <;> simp [h0, h1, h2, h3]
theorem C_blk {k : IntKind} {W : World} {g : Nat} {arr : Array Value} {e : TypeId} {fr : Nat × Nat} (xs : List Int) (h : W.heap[g]? = some (.cells arr e fr)) (ha : arr.toList = xs.map (Value.int k)) (hl : xs.length ≤ 9223372036854775807) :
    Kd.C (Kd.int k) W (some ⟨g, 0, none⟩) xs.length xs := by
  refine Kd.C_of_reads (enc := Value.int k) (d := (0 : Int)) (h1 := fun _ => rfl) ⟨rfl, hl, fun _ => ⟨_, rfl, fun j hj => ?_⟩⟩
  rw [show Addr.add ⟨g, 0, none⟩ j = ⟨g, j, none⟩ by simp only [Addr.add, Nat.zero_add]; split <;> simp_all, cell_of_row W g j arr e fr h, ← Array.getElem?_toList, ha, List.getElem?_map, List.getElem?_eq_getElem hj]
  simp [List.getD_eq_getElem?_getD, List.getElem?_eq_getElem hj]
theorem C_blk_new {k : IntKind} {W : World} {arr : Array Value} {e : TypeId} {fr : Nat × Nat} (xs : List Int) (ha : arr.toList = xs.map (Value.int k)) (hl : xs.length ≤ 9223372036854775807) :
    Kd.C (Kd.int k) (W.alloc (.cells arr e fr)) (some ⟨W.heap.size, 0, none⟩) xs.length xs := C_blk xs (blk_new _ _) ha hl

theorem t1 (w : World) : Calls Try.prog 20 #[.int .u64 2147483648, .int .u64 2147483648] w fun e w' => e = .returned (.tuple #[.int .u64 4611686018427387904, .int .i64 0]) ∧ w = w' := by
  have h := times_calls 2147483648 2147483648 (by decide) (by decide) w
  rw [show timesN 2147483648 2147483648 = (4611686018427387904, 0) from by decide] at h
  exact h
theorem t2 (w : World) : Calls Try.prog 20 #[.int .u64 2147483648, .int .u64 2147483649] w fun e w' => e = .returned (.tuple #[.int .u64 0, .int .i64 7]) ∧ w = w' := by
  have h := times_calls 2147483648 2147483649 (by decide) (by decide) w
  rw [show timesN 2147483648 2147483649 = (0, 7) from by decide] at h
  exact h
theorem t3 (w : World) : Calls Try.prog 16 #[.int .u64 4611686018427387904, .int .u64 1] w fun e w' => e = .returned (.tuple #[.int .u64 0, .int .i64 7]) ∧ w = w' := by
  have h := plus_calls 4611686018427387904 1 w
  rw [show plusN 4611686018427387904 1 = (0, 7) from by decide] at h
  exact h
theorem t4 (w : World) : Calls Try.prog 18 #[.int .u64 1, .int .u64 2] w fun e w' => e = .returned (.tuple #[.int .u64 0, .int .i64 6]) ∧ w = w' := by
  have h := minus_calls 1 2 (by decide) (by decide) w
  rw [show minusN 1 2 = (0, 6) from by decide] at h
  exact h
theorem t5 (w : World) : Calls Try.prog 26 #[.agg #[.int .u64 1, .int .u64 2, .int .u64 0, .int .u64 0], .int .i64 1, .int .u64 5] w fun e w' => e = .returned (.tuple #[.agg #[.int .u64 1, .int .u64 7, .int .u64 0, .int .u64 0], .int .i64 0]) ∧ Below w.heap.size w w' :=
  give_calls (p0 := 1) (p1 := 2) (p2 := 0) (p3 := 0) (n := 5) (c := 1) (q0 := 1) (q1 := 7) (q2 := 0) (q3 := 0) (er := 0) (by decide) (by decide) (by decide) (by decide) (by decide) (by decide) w
theorem t6 (w : World) : Calls Try.prog 28 #[.agg #[.int .u64 1, .int .u64 7, .int .u64 0, .int .u64 0], .int .i64 2, .int .u64 1] w fun e w' => e = .returned (.tuple #[.agg #[.int .u64 0, .int .u64 0, .int .u64 0, .int .u64 0], .int .i64 6]) ∧ Below w.heap.size w w' :=
  take_calls (p0 := 1) (p1 := 7) (p2 := 0) (p3 := 0) (n := 1) (c := 2) (q0 := 0) (q1 := 0) (q2 := 0) (q3 := 0) (er := 6) (by decide) (by decide) (by decide) (by decide) (by decide) (by decide) w
theorem t7 (W : World) (g : Nat) (hg : g = W.heap.size) : Calls Try.prog 22 #[.slice (some ⟨g, 0, none⟩) 3 3] (W.alloc (.cells #[.int .u64 1, .int .u64 2, .int .u64 3] 32)) fun e w' => e = .returned (.tuple #[.int .u64 6, .int .i64 0]) ∧ Drawn0 (W.alloc (.cells #[.int .u64 1, .int .u64 2, .int .u64 3] 32)) w' := by
  subst hg
  have h := sum_calls (some ⟨W.heap.size, 0, none⟩) 3 [1, 2, 3] (W.alloc (.cells #[.int .u64 1, .int .u64 2, .int .u64 3] 32)) (C_blk_new _ rfl (by decide)) (by unfold wide; decide)
  rw [show sumN 0 [1, 2, 3] = (6, 0) from by decide] at h
  exact h
theorem t8 (w : World) : Calls Try.prog 25 #[.int .i64 3] w fun e w' => e = .returned (.bool true) ∧ w = w' := right_calls 3 w
theorem t9 (w : World) : Calls Try.prog 25 #[.int .i64 4] w fun e w' => e = .returned (.bool false) ∧ w = w' := right_calls 4 w

set_option maxHeartbeats 2000000 in
set_option maxRecDepth 100000 in
theorem alive13 (w : World) : Calls Try.prog 24 #[] w fun e w' => e = .returned (.bool true) ∧ Below w.heap.size w w' := by
  have heq := eq4
  go_enter Try.func24, Try.ntmps24
  go_wp2_with fail
  refine (t1 _).mono ?_
  rintro e w1 ⟨rfl, rfl⟩
  go_wp2_with fail
  refine (t2 _).mono ?_
  rintro e w1 ⟨rfl, rfl⟩
  go_wp2_with fail
  refine (t3 _).mono ?_
  rintro e w1 ⟨rfl, rfl⟩
  go_wp2_with fail
  refine (t4 _).mono ?_
  rintro e w1 ⟨rfl, rfl⟩
  go_wp2_with fail
  refine (t5 _).mono ?_
  rintro e w1 ⟨rfl, hb1⟩
  go_wp2_with fail
  refine (t6 _).mono ?_
  rintro e w2 ⟨rfl, hb2⟩
  go_wp2_with fail
  refine (t7 _ _ (by simp)).mono ?_
  rintro e w3 ⟨rfl, hd⟩
  have hk := blk_below (blk_alloc (blk_alloc (blk_below (blk_new w1 _) hb2) _) _) hd.below
  obtain ⟨⟨hc0, hc1, hc2, hc3⟩, _⟩ := cells4 hk
  have HB := Aside0.mk (below_step (below_alloc (below_alloc (below_step (below_alloc hb1 _) hb2) _) _) hd.below)
  clear hk hb1 hb2 hd
  go_wp2_with fail
  refine (t8 _).mono ?_
  rintro e w4 ⟨rfl, rfl⟩
  go_wp2_with fail
  refine (t9 _).mono ?_
  rintro e w4 ⟨rfl, rfl⟩
  go_wp2_with fail
  go_ret
  exact ⟨rfl, HB.out⟩

set_option maxHeartbeats 2000000 in
set_option maxRecDepth 100000 in
theorem tells_law (a b : Nat) (ha : a < 18446744073709551616) (hb : b < 18446744073709551616) (A : Option Addr) (c : Nat) (l : List Int) (n : Int) (w : World) (hr : Kd.C (Kd.int .u64) w A l.length l) (hwide : wide l) :
    Calls Try.prog 7 #[.int .u64 a, .int .u64 b, .slice A l.length c, .int .i64 n] w fun e w' => e = .returned (.bool true) ∧ Below w.heap.size w w' := by
  have H1 := Lib.hid (fun w => plus_calls a b w)
  have H2 := Lib.hid (fun w => refPlus_calls a b ha hb w)
  have H3 := Lib.hid (fun w => minus_calls a b ha hb w)
  have H4 := Lib.hid (fun w => refMinus_calls a b ha hb w)
  have H5 := Lib.hid (fun w => times_calls a b ha hb w)
  have H6 := Lib.hid (fun w => refTimes_calls a b ha hb w)
  have HS := Lib.hid hwide
  have HR := Aside0.mk hr
  clear ha hb hwide hr
  obtain ⟨x, e, hx⟩ : ∃ x e, plusN a b = (x, e) := ⟨_, _, rfl⟩
  obtain ⟨y, f, hy⟩ : ∃ x e, minusN a b = (x, e) := ⟨_, _, rfl⟩
  obtain ⟨z, g, hz⟩ : ∃ x e, timesN a b = (x, e) := ⟨_, _, rfl⟩
  obtain ⟨s, h, hs⟩ : ∃ x e, sumN 0 l = (x, e) := ⟨_, _, rfl⟩
  rw [hx] at H1 H2
  rw [hy] at H3 H4
  rw [hz] at H5 H6
  have HSS := Lib.hid hs
  clear hx hy hz hs
  unfold pairV at H1 H2 H3 H4 H5 H6
  go_enter Try.func7, Try.ntmps7
  go_wp2_with fail
  refine (H1.out _).mono ?_
  rintro e1 w1 ⟨rfl, rfl⟩
  go_wp2_with fail
  refine (H2.out _).mono ?_
  rintro e1 w1 ⟨rfl, rfl⟩
  go_wp2_with fail
  refine (H3.out _).mono ?_
  rintro e1 w1 ⟨rfl, rfl⟩
  go_wp2_with fail
  refine (H4.out _).mono ?_
  rintro e1 w1 ⟨rfl, rfl⟩
  go_wp2_with fail
  refine (H5.out _).mono ?_
  rintro e1 w1 ⟨rfl, rfl⟩
  go_wp2_with fail
  refine (H6.out _).mono ?_
  rintro e1 w1 ⟨rfl, rfl⟩
  go_wp2_with fail
  refine (sum_calls A c l _ HR.out HS.out).mono ?_
  rintro e1 w1 ⟨rfl, hd1⟩
  rw [HSS.out]
  unfold pairV
  have HR1 := Aside0.mk (Kd.C_below HR.out hd1.below)
  have HB1 := Aside0.mk hd1.below
  clear hd1
  go_wp2_with fail
  refine (refSum_calls A c l _ HR1.out HS.out).mono ?_
  rintro e1 w2 ⟨rfl, hd2⟩
  rw [HSS.out]
  unfold pairV
  have HB2 := Aside0.mk (below_step HB1.out hd2.below)
  clear hd2
  go_wp2_with fail
  refine (alive13 _).mono ?_
  rintro e1 w3 ⟨rfl, hb3⟩
  have HB3 := Aside0.mk (below_step HB2.out hb3)
  clear hb3
  go_wp2_with fail
  refine (right_calls _ _).mono ?_
  rintro e1 w4 ⟨rfl, rfl⟩
  go_wp2_with fail
  all_goals go_ret
  all_goals exact ⟨rfl, HB3.out⟩
theorem u64_of {a : Int} (h : (Lit.int .u64 a).wf = true) : ∃ n : Nat, a = n ∧ n < 18446744073709551616 := by
  simp only [Lit.wf, Bool.and_eq_true, decide_eq_true_eq] at h
  have e1 : IntKind.u64.min = 0 := rfl
  have e2 : IntKind.u64.max = 18446744073709551615 := rfl
  exact ⟨a.toNat, by omega, by omega⟩
theorem wide_of {l : List Int} (h : ∀ x ∈ l, (Lit.int .u64 x).wf = true) : wide l := fun x hx => by
  obtain ⟨n, rfl, hn⟩ := u64_of (h x hx)
  omega
theorem coinTells (a b : Int) (wa : (Lit.int .u64 a).wf = true) (wb : (Lit.int .u64 b).wf = true) (A : Option Addr) (c : Nat) (l : List Int) (n : Int) (w : World) (hr : Kd.C (Kd.int .u64) w A l.length l) (hw : ∀ x ∈ l, (Lit.int .u64 x).wf = true) :
    Calls Try.prog 7 #[.int .u64 a, .int .u64 b, .slice A l.length c, .int .i64 n] w fun e w' => e = .returned (.bool true) ∧ Below w.heap.size w w' := by
  obtain ⟨a, rfl, ha⟩ := u64_of wa
  obtain ⟨b, rfl, hb⟩ := u64_of wb
  exact tells_law a b ha hb A c l n w hr (wide_of hw)
end Go.Proofs.Ytcfibadhikohfaa.Giv
