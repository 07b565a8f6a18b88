/- What the functions on purses come to. -/
import Derived.Test.YtcfibadhikohfaaGCoin
namespace Go.Proofs.Ytcfibadhikohfaa.Giv
open Go.RowKit Go.Proofs.YtcfibadhikohfaaW.PrintWords Go.Proofs.YtcfibadhikohfaaW.PrintMore
set_option linter.unusedVariables false
set_option linter.unusedSimpArgs false

theorem right_calls (c : Int) (w : World) : Calls Try.prog 25 #[.int .i64 c] w fun e w' => e = .returned (.bool (decide (0 ≤ c ∧ c < 4))) ∧ w = w' := by
  by_cases h0 : 0 ≤ c
  · by_cases h1 : c < 4
    · go_enter Try.func25, Try.ntmps25
      go_wp2_with fail
      go_ret
      exact ⟨by simp [h0, h1], rfl⟩
    · go_enter Try.func25, Try.ntmps25
      go_wp2_with fail
      go_ret
      exact ⟨by simp; omega, rfl⟩
  · go_enter Try.func25, Try.ntmps25
    go_wp2_with fail
    go_ret
    exact ⟨by simp; omega, rfl⟩

def pv (p0 p1 p2 p3 : Nat) : Value := .agg #[.int .u64 p0, .int .u64 p1, .int .u64 p2, .int .u64 p3]

/-- What a purse has behind a change of a coin by f; and the error. -/
def chg (f : Nat → Nat → Nat × Int) (p0 p1 p2 p3 : Nat) (c : Int) (n : Nat) : Nat × Nat × Nat × Nat × Int :=
  if c = 0 then (if (f p0 n).2 = 0 then ((f p0 n).1, p1, p2, p3, 0) else (0, 0, 0, 0, (f p0 n).2))
  else if c = 1 then (if (f p1 n).2 = 0 then (p0, (f p1 n).1, p2, p3, 0) else (0, 0, 0, 0, (f p1 n).2))
  else if c = 2 then (if (f p2 n).2 = 0 then (p0, p1, (f p2 n).1, p3, 0) else (0, 0, 0, 0, (f p2 n).2))
  else if c = 3 then (if (f p3 n).2 = 0 then (p0, p1, p2, (f p3 n).1, 0) else (0, 0, 0, 0, (f p3 n).2))
  else (0, 0, 0, 0, 1)
theorem chg_out {f : Nat → Nat → Nat × Int} {p0 p1 p2 p3 : Nat} {c : Int} {n : Nat} {q : Nat × Nat × Nat × Nat × Int} (h : ¬ (0 ≤ c ∧ c < 4)) (hq : chg f p0 p1 p2 p3 c n = q) : q = (0, 0, 0, 0, 1) := by
  unfold chg at hq
  rw [if_neg (by omega), if_neg (by omega), if_neg (by omega), if_neg (by omega)] at hq
  exact hq.symm
theorem chg_ok0 {f : Nat → Nat → Nat × Int} {p0 p1 p2 p3 n v : Nat} {q : Nat × Nat × Nat × Nat × Int} (h : f p0 n = (v, 0)) (hq : chg f p0 p1 p2 p3 0 n = q) : q = (v, p1, p2, p3, 0) := by
  rw [← hq]; simp [chg, h]
theorem chg_no0 {f : Nat → Nat → Nat × Int} {p0 p1 p2 p3 n v : Nat} {e : Int} {q : Nat × Nat × Nat × Nat × Int} (h : f p0 n = (v, e)) (he : e ≠ 0) (hq : chg f p0 p1 p2 p3 0 n = q) : q = (0, 0, 0, 0, e) := by
  rw [← hq]; simp [chg, h, he]
theorem chg_ok1 {f : Nat → Nat → Nat × Int} {p0 p1 p2 p3 n v : Nat} {q : Nat × Nat × Nat × Nat × Int} (h : f p1 n = (v, 0)) (hq : chg f p0 p1 p2 p3 1 n = q) : q = (p0, v, p2, p3, 0) := by
  rw [← hq]; simp [chg, h]
theorem chg_no1 {f : Nat → Nat → Nat × Int} {p0 p1 p2 p3 n v : Nat} {e : Int} {q : Nat × Nat × Nat × Nat × Int} (h : f p1 n = (v, e)) (he : e ≠ 0) (hq : chg f p0 p1 p2 p3 1 n = q) : q = (0, 0, 0, 0, e) := by
  rw [← hq]; simp [chg, h, he]
theorem chg_ok2 {f : Nat → Nat → Nat × Int} {p0 p1 p2 p3 n v : Nat} {q : Nat × Nat × Nat × Nat × Int} (h : f p2 n = (v, 0)) (hq : chg f p0 p1 p2 p3 2 n = q) : q = (p0, p1, v, p3, 0) := by
  rw [← hq]; simp [chg, h]
theorem chg_no2 {f : Nat → Nat → Nat × Int} {p0 p1 p2 p3 n v : Nat} {e : Int} {q : Nat × Nat × Nat × Nat × Int} (h : f p2 n = (v, e)) (he : e ≠ 0) (hq : chg f p0 p1 p2 p3 2 n = q) : q = (0, 0, 0, 0, e) := by
  rw [← hq]; simp [chg, h, he]
theorem chg_ok3 {f : Nat → Nat → Nat × Int} {p0 p1 p2 p3 n v : Nat} {q : Nat × Nat × Nat × Nat × Int} (h : f p3 n = (v, 0)) (hq : chg f p0 p1 p2 p3 3 n = q) : q = (p0, p1, p2, v, 0) := by
  rw [← hq]; simp [chg, h]
theorem chg_no3 {f : Nat → Nat → Nat × Int} {p0 p1 p2 p3 n v : Nat} {e : Int} {q : Nat × Nat × Nat × Nat × Int} (h : f p3 n = (v, e)) (he : e ≠ 0) (hq : chg f p0 p1 p2 p3 3 n = q) : q = (0, 0, 0, 0, e) := by
  rw [← hq]; simp [chg, h, he]
set_option maxHeartbeats 2000000 in
theorem changePlus_ok0 (p0 p1 p2 p3 n v : Nat) (er : Int) (b0 : p0 < 18446744073709551616) (b1 : p1 < 18446744073709551616) (b2 : p2 < 18446744073709551616) (b3 : p3 < 18446744073709551616) (bn : n < 18446744073709551616) (hf : plusN p0 n = (v, er)) (he : er = 0) (w : World) :
    Calls Try.prog 34 #[.agg #[.int .u64 p0, .int .u64 p1, .int .u64 p2, .int .u64 p3], .int .i64 0, .int .u64 n, .func (.func 16) #[] #[]] w fun e w' => e = .returned (.tuple #[.agg #[.int .u64 v, .int .u64 p1, .int .u64 p2, .int .u64 p3], .int .i64 0]) ∧ Below w.heap.size w w' := by
  subst he
  have HC := Lib.hid (fun w => plus_calls p0 n w)
  clear b0 b1 b2 b3 bn
  have HF := Lib.hid hf
  clear hf
  go_enter Try.func34, Try.ntmps34
  go_wp2_with fail
  refine (right_calls _ _).mono ?_
  rintro e w' ⟨rfl, rfl⟩
  go_wp2_with fail
  refine (HC.out _).mono ?_
  rintro e w' ⟨rfl, rfl⟩
  rw [HF.out]
  unfold pairV
  go_wp2
  exact bodyPost_ret (v := .tuple #[.agg #[.int .u64 v, .int .u64 p1, .int .u64 p2, .int .u64 p3], .int .i64 0]) (by simp [results, Try.results34, go_sem]) rfl ⟨rfl, by repeat (first | exact Below.refl _ _ | apply below_alloc | apply below_set)⟩
set_option maxHeartbeats 2000000 in
theorem changePlus_no0 (p0 p1 p2 p3 n v : Nat) (er : Int) (b0 : p0 < 18446744073709551616) (b1 : p1 < 18446744073709551616) (b2 : p2 < 18446744073709551616) (b3 : p3 < 18446744073709551616) (bn : n < 18446744073709551616) (hf : plusN p0 n = (v, er)) (he : (er != 0) = true) (w : World) :
    Calls Try.prog 34 #[.agg #[.int .u64 p0, .int .u64 p1, .int .u64 p2, .int .u64 p3], .int .i64 0, .int .u64 n, .func (.func 16) #[] #[]] w fun e w' => e = .returned (.tuple #[.agg #[.int .u64 0, .int .u64 0, .int .u64 0, .int .u64 0], .int .i64 er]) ∧ Below w.heap.size w w' := by
  have HC := Lib.hid (fun w => plus_calls p0 n w)
  clear b0 b1 b2 b3 bn
  have HF := Lib.hid hf
  clear hf
  go_enter Try.func34, Try.ntmps34
  go_wp2_with fail
  refine (right_calls _ _).mono ?_
  rintro e w' ⟨rfl, rfl⟩
  go_wp2_with fail
  refine (HC.out _).mono ?_
  rintro e w' ⟨rfl, rfl⟩
  rw [HF.out]
  unfold pairV
  go_wp2
  exact bodyPost_ret (v := .tuple #[.agg #[.int .u64 0, .int .u64 0, .int .u64 0, .int .u64 0], .int .i64 er]) (by simp [results, Try.results34, go_sem]) rfl ⟨rfl, by repeat (first | exact Below.refl _ _ | apply below_alloc | apply below_set)⟩
set_option maxHeartbeats 2000000 in
theorem changePlus_ok1 (p0 p1 p2 p3 n v : Nat) (er : Int) (b0 : p0 < 18446744073709551616) (b1 : p1 < 18446744073709551616) (b2 : p2 < 18446744073709551616) (b3 : p3 < 18446744073709551616) (bn : n < 18446744073709551616) (hf : plusN p1 n = (v, er)) (he : er = 0) (w : World) :
    Calls Try.prog 34 #[.agg #[.int .u64 p0, .int .u64 p1, .int .u64 p2, .int .u64 p3], .int .i64 1, .int .u64 n, .func (.func 16) #[] #[]] w fun e w' => e = .returned (.tuple #[.agg #[.int .u64 p0, .int .u64 v, .int .u64 p2, .int .u64 p3], .int .i64 0]) ∧ Below w.heap.size w w' := by
  subst he
  have HC := Lib.hid (fun w => plus_calls p1 n w)
  clear b0 b1 b2 b3 bn
  have HF := Lib.hid hf
  clear hf
  go_enter Try.func34, Try.ntmps34
  go_wp2_with fail
  refine (right_calls _ _).mono ?_
  rintro e w' ⟨rfl, rfl⟩
  go_wp2_with fail
  refine (HC.out _).mono ?_
  rintro e w' ⟨rfl, rfl⟩
  rw [HF.out]
  unfold pairV
  go_wp2
  exact bodyPost_ret (v := .tuple #[.agg #[.int .u64 p0, .int .u64 v, .int .u64 p2, .int .u64 p3], .int .i64 0]) (by simp [results, Try.results34, go_sem]) rfl ⟨rfl, by repeat (first | exact Below.refl _ _ | apply below_alloc | apply below_set)⟩
set_option maxHeartbeats 2000000 in
theorem changePlus_no1 (p0 p1 p2 p3 n v : Nat) (er : Int) (b0 : p0 < 18446744073709551616) (b1 : p1 < 18446744073709551616) (b2 : p2 < 18446744073709551616) (b3 : p3 < 18446744073709551616) (bn : n < 18446744073709551616) (hf : plusN p1 n = (v, er)) (he : (er != 0) = true) (w : World) :
    Calls Try.prog 34 #[.agg #[.int .u64 p0, .int .u64 p1, .int .u64 p2, .int .u64 p3], .int .i64 1, .int .u64 n, .func (.func 16) #[] #[]] w fun e w' => e = .returned (.tuple #[.agg #[.int .u64 0, .int .u64 0, .int .u64 0, .int .u64 0], .int .i64 er]) ∧ Below w.heap.size w w' := by
  have HC := Lib.hid (fun w => plus_calls p1 n w)
  clear b0 b1 b2 b3 bn
  have HF := Lib.hid hf
  clear hf
  go_enter Try.func34, Try.ntmps34
  go_wp2_with fail
  refine (right_calls _ _).mono ?_
  rintro e w' ⟨rfl, rfl⟩
  go_wp2_with fail
  refine (HC.out _).mono ?_
  rintro e w' ⟨rfl, rfl⟩
  rw [HF.out]
  unfold pairV
  go_wp2
  exact bodyPost_ret (v := .tuple #[.agg #[.int .u64 0, .int .u64 0, .int .u64 0, .int .u64 0], .int .i64 er]) (by simp [results, Try.results34, go_sem]) rfl ⟨rfl, by repeat (first | exact Below.refl _ _ | apply below_alloc | apply below_set)⟩
set_option maxHeartbeats 2000000 in
theorem changePlus_ok2 (p0 p1 p2 p3 n v : Nat) (er : Int) (b0 : p0 < 18446744073709551616) (b1 : p1 < 18446744073709551616) (b2 : p2 < 18446744073709551616) (b3 : p3 < 18446744073709551616) (bn : n < 18446744073709551616) (hf : plusN p2 n = (v, er)) (he : er = 0) (w : World) :
    Calls Try.prog 34 #[.agg #[.int .u64 p0, .int .u64 p1, .int .u64 p2, .int .u64 p3], .int .i64 2, .int .u64 n, .func (.func 16) #[] #[]] w fun e w' => e = .returned (.tuple #[.agg #[.int .u64 p0, .int .u64 p1, .int .u64 v, .int .u64 p3], .int .i64 0]) ∧ Below w.heap.size w w' := by
  subst he
  have HC := Lib.hid (fun w => plus_calls p2 n w)
  clear b0 b1 b2 b3 bn
  have HF := Lib.hid hf
  clear hf
  go_enter Try.func34, Try.ntmps34
  go_wp2_with fail
  refine (right_calls _ _).mono ?_
  rintro e w' ⟨rfl, rfl⟩
  go_wp2_with fail
  refine (HC.out _).mono ?_
  rintro e w' ⟨rfl, rfl⟩
  rw [HF.out]
  unfold pairV
  go_wp2
  exact bodyPost_ret (v := .tuple #[.agg #[.int .u64 p0, .int .u64 p1, .int .u64 v, .int .u64 p3], .int .i64 0]) (by simp [results, Try.results34, go_sem]) rfl ⟨rfl, by repeat (first | exact Below.refl _ _ | apply below_alloc | apply below_set)⟩
set_option maxHeartbeats 2000000 in
theorem changePlus_no2 (p0 p1 p2 p3 n v : Nat) (er : Int) (b0 : p0 < 18446744073709551616) (b1 : p1 < 18446744073709551616) (b2 : p2 < 18446744073709551616) (b3 : p3 < 18446744073709551616) (bn : n < 18446744073709551616) (hf : plusN p2 n = (v, er)) (he : (er != 0) = true) (w : World) :
    Calls Try.prog 34 #[.agg #[.int .u64 p0, .int .u64 p1, .int .u64 p2, .int .u64 p3], .int .i64 2, .int .u64 n, .func (.func 16) #[] #[]] w fun e w' => e = .returned (.tuple #[.agg #[.int .u64 0, .int .u64 0, .int .u64 0, .int .u64 0], .int .i64 er]) ∧ Below w.heap.size w w' := by
  have HC := Lib.hid (fun w => plus_calls p2 n w)
  clear b0 b1 b2 b3 bn
  have HF := Lib.hid hf
  clear hf
  go_enter Try.func34, Try.ntmps34
  go_wp2_with fail
  refine (right_calls _ _).mono ?_
  rintro e w' ⟨rfl, rfl⟩
  go_wp2_with fail
  refine (HC.out _).mono ?_
  rintro e w' ⟨rfl, rfl⟩
  rw [HF.out]
  unfold pairV
  go_wp2
  exact bodyPost_ret (v := .tuple #[.agg #[.int .u64 0, .int .u64 0, .int .u64 0, .int .u64 0], .int .i64 er]) (by simp [results, Try.results34, go_sem]) rfl ⟨rfl, by repeat (first | exact Below.refl _ _ | apply below_alloc | apply below_set)⟩
set_option maxHeartbeats 2000000 in
theorem changePlus_ok3 (p0 p1 p2 p3 n v : Nat) (er : Int) (b0 : p0 < 18446744073709551616) (b1 : p1 < 18446744073709551616) (b2 : p2 < 18446744073709551616) (b3 : p3 < 18446744073709551616) (bn : n < 18446744073709551616) (hf : plusN p3 n = (v, er)) (he : er = 0) (w : World) :
    Calls Try.prog 34 #[.agg #[.int .u64 p0, .int .u64 p1, .int .u64 p2, .int .u64 p3], .int .i64 3, .int .u64 n, .func (.func 16) #[] #[]] w fun e w' => e = .returned (.tuple #[.agg #[.int .u64 p0, .int .u64 p1, .int .u64 p2, .int .u64 v], .int .i64 0]) ∧ Below w.heap.size w w' := by
  subst he
  have HC := Lib.hid (fun w => plus_calls p3 n w)
  clear b0 b1 b2 b3 bn
  have HF := Lib.hid hf
  clear hf
  go_enter Try.func34, Try.ntmps34
  go_wp2_with fail
  refine (right_calls _ _).mono ?_
  rintro e w' ⟨rfl, rfl⟩
  go_wp2_with fail
  refine (HC.out _).mono ?_
  rintro e w' ⟨rfl, rfl⟩
  rw [HF.out]
  unfold pairV
  go_wp2
  exact bodyPost_ret (v := .tuple #[.agg #[.int .u64 p0, .int .u64 p1, .int .u64 p2, .int .u64 v], .int .i64 0]) (by simp [results, Try.results34, go_sem]) rfl ⟨rfl, by repeat (first | exact Below.refl _ _ | apply below_alloc | apply below_set)⟩
set_option maxHeartbeats 2000000 in
theorem changePlus_no3 (p0 p1 p2 p3 n v : Nat) (er : Int) (b0 : p0 < 18446744073709551616) (b1 : p1 < 18446744073709551616) (b2 : p2 < 18446744073709551616) (b3 : p3 < 18446744073709551616) (bn : n < 18446744073709551616) (hf : plusN p3 n = (v, er)) (he : (er != 0) = true) (w : World) :
    Calls Try.prog 34 #[.agg #[.int .u64 p0, .int .u64 p1, .int .u64 p2, .int .u64 p3], .int .i64 3, .int .u64 n, .func (.func 16) #[] #[]] w fun e w' => e = .returned (.tuple #[.agg #[.int .u64 0, .int .u64 0, .int .u64 0, .int .u64 0], .int .i64 er]) ∧ Below w.heap.size w w' := by
  have HC := Lib.hid (fun w => plus_calls p3 n w)
  clear b0 b1 b2 b3 bn
  have HF := Lib.hid hf
  clear hf
  go_enter Try.func34, Try.ntmps34
  go_wp2_with fail
  refine (right_calls _ _).mono ?_
  rintro e w' ⟨rfl, rfl⟩
  go_wp2_with fail
  refine (HC.out _).mono ?_
  rintro e w' ⟨rfl, rfl⟩
  rw [HF.out]
  unfold pairV
  go_wp2
  exact bodyPost_ret (v := .tuple #[.agg #[.int .u64 0, .int .u64 0, .int .u64 0, .int .u64 0], .int .i64 er]) (by simp [results, Try.results34, go_sem]) rfl ⟨rfl, by repeat (first | exact Below.refl _ _ | apply below_alloc | apply below_set)⟩
set_option maxHeartbeats 2000000 in
theorem changePlus_out (p0 p1 p2 p3 n : Nat) (c : Int) (hc : ¬ (0 ≤ c ∧ c < 4)) (w : World) :
    Calls Try.prog 34 #[.agg #[.int .u64 p0, .int .u64 p1, .int .u64 p2, .int .u64 p3], .int .i64 c, .int .u64 n, .func (.func 16) #[] #[]] w fun e w' => e = .returned (.tuple #[.agg #[.int .u64 0, .int .u64 0, .int .u64 0, .int .u64 0], .int .i64 1]) ∧ Below w.heap.size w w' := by
  have hd : decide (0 ≤ c ∧ c < 4) = false := decide_eq_false hc
  clear hc
  go_enter Try.func34, Try.ntmps34
  go_wp2_with fail
  refine (right_calls _ _).mono ?_
  rintro e w' ⟨rfl, rfl⟩
  rw [hd]
  go_wp2
  exact bodyPost_ret (v := .tuple #[.agg #[.int .u64 0, .int .u64 0, .int .u64 0, .int .u64 0], .int .i64 1]) (by simp [results, Try.results34, go_sem]) rfl ⟨rfl, by repeat (first | exact Below.refl _ _ | apply below_alloc)⟩
theorem changePlus_calls {p0 p1 p2 p3 n : Nat} {c : Int} {q0 q1 q2 q3 : Nat} {er : Int} (b0 : p0 < 18446744073709551616) (b1 : p1 < 18446744073709551616) (b2 : p2 < 18446744073709551616) (b3 : p3 < 18446744073709551616) (bn : n < 18446744073709551616) (h : chg plusN p0 p1 p2 p3 c n = (q0, q1, q2, q3, er)) (w : World) :
    Calls Try.prog 34 #[.agg #[.int .u64 p0, .int .u64 p1, .int .u64 p2, .int .u64 p3], .int .i64 c, .int .u64 n, .func (.func 16) #[] #[]] w fun e w' => e = .returned (.tuple #[.agg #[.int .u64 q0, .int .u64 q1, .int .u64 q2, .int .u64 q3], .int .i64 er]) ∧ Below w.heap.size w w' := by
  by_cases hc : 0 ≤ c ∧ c < 4
  · have h4 : c = 0 ∨ c = 1 ∨ c = 2 ∨ c = 3 := by omega
    clear hc
    rcases h4 with rfl | rfl | rfl | rfl
    · obtain ⟨v, e, hv⟩ : ∃ v e, plusN p0 n = (v, e) := ⟨_, _, rfl⟩
      by_cases he : e = 0
      · subst he
        have hq := chg_ok0 hv h
        simp only [Prod.mk.injEq] at hq
        obtain ⟨rfl, rfl, rfl, rfl, rfl⟩ := hq
        exact changePlus_ok0 _ _ _ _ _ _ 0 b0 b1 b2 b3 bn hv rfl w
      · have hq := chg_no0 hv he h
        simp only [Prod.mk.injEq] at hq
        obtain ⟨rfl, rfl, rfl, rfl, rfl⟩ := hq
        exact changePlus_no0 _ _ _ _ _ _ _ b0 b1 b2 b3 bn hv (by simpa using he) w
    · obtain ⟨v, e, hv⟩ : ∃ v e, plusN p1 n = (v, e) := ⟨_, _, rfl⟩
      by_cases he : e = 0
      · subst he
        have hq := chg_ok1 hv h
        simp only [Prod.mk.injEq] at hq
        obtain ⟨rfl, rfl, rfl, rfl, rfl⟩ := hq
        exact changePlus_ok1 _ _ _ _ _ _ 0 b0 b1 b2 b3 bn hv rfl w
      · have hq := chg_no1 hv he h
        simp only [Prod.mk.injEq] at hq
        obtain ⟨rfl, rfl, rfl, rfl, rfl⟩ := hq
        exact changePlus_no1 _ _ _ _ _ _ _ b0 b1 b2 b3 bn hv (by simpa using he) w
    · obtain ⟨v, e, hv⟩ : ∃ v e, plusN p2 n = (v, e) := ⟨_, _, rfl⟩
      by_cases he : e = 0
      · subst he
        have hq := chg_ok2 hv h
        simp only [Prod.mk.injEq] at hq
        obtain ⟨rfl, rfl, rfl, rfl, rfl⟩ := hq
        exact changePlus_ok2 _ _ _ _ _ _ 0 b0 b1 b2 b3 bn hv rfl w
      · have hq := chg_no2 hv he h
        simp only [Prod.mk.injEq] at hq
        obtain ⟨rfl, rfl, rfl, rfl, rfl⟩ := hq
        exact changePlus_no2 _ _ _ _ _ _ _ b0 b1 b2 b3 bn hv (by simpa using he) w
    · obtain ⟨v, e, hv⟩ : ∃ v e, plusN p3 n = (v, e) := ⟨_, _, rfl⟩
      by_cases he : e = 0
      · subst he
        have hq := chg_ok3 hv h
        simp only [Prod.mk.injEq] at hq
        obtain ⟨rfl, rfl, rfl, rfl, rfl⟩ := hq
        exact changePlus_ok3 _ _ _ _ _ _ 0 b0 b1 b2 b3 bn hv rfl w
      · have hq := chg_no3 hv he h
        simp only [Prod.mk.injEq] at hq
        obtain ⟨rfl, rfl, rfl, rfl, rfl⟩ := hq
        exact changePlus_no3 _ _ _ _ _ _ _ b0 b1 b2 b3 bn hv (by simpa using he) w
  · have hq := chg_out hc h
    simp only [Prod.mk.injEq] at hq
    obtain ⟨rfl, rfl, rfl, rfl, rfl⟩ := hq
    exact changePlus_out _ _ _ _ _ _ hc w
set_option maxHeartbeats 2000000 in
theorem changeMinus_ok0 (p0 p1 p2 p3 n v : Nat) (er : Int) (b0 : p0 < 18446744073709551616) (b1 : p1 < 18446744073709551616) (b2 : p2 < 18446744073709551616) (b3 : p3 < 18446744073709551616) (bn : n < 18446744073709551616) (hf : minusN p0 n = (v, er)) (he : er = 0) (w : World) :
    Calls Try.prog 34 #[.agg #[.int .u64 p0, .int .u64 p1, .int .u64 p2, .int .u64 p3], .int .i64 0, .int .u64 n, .func (.func 18) #[] #[]] w fun e w' => e = .returned (.tuple #[.agg #[.int .u64 v, .int .u64 p1, .int .u64 p2, .int .u64 p3], .int .i64 0]) ∧ Below w.heap.size w w' := by
  subst he
  have HC := Lib.hid (fun w => minus_calls p0 n (by assumption) bn w)
  clear b0 b1 b2 b3 bn
  have HF := Lib.hid hf
  clear hf
  go_enter Try.func34, Try.ntmps34
  go_wp2_with fail
  refine (right_calls _ _).mono ?_
  rintro e w' ⟨rfl, rfl⟩
  go_wp2_with fail
  refine (HC.out _).mono ?_
  rintro e w' ⟨rfl, rfl⟩
  rw [HF.out]
  unfold pairV
  go_wp2
  exact bodyPost_ret (v := .tuple #[.agg #[.int .u64 v, .int .u64 p1, .int .u64 p2, .int .u64 p3], .int .i64 0]) (by simp [results, Try.results34, go_sem]) rfl ⟨rfl, by repeat (first | exact Below.refl _ _ | apply below_alloc | apply below_set)⟩
set_option maxHeartbeats 2000000 in
theorem changeMinus_no0 (p0 p1 p2 p3 n v : Nat) (er : Int) (b0 : p0 < 18446744073709551616) (b1 : p1 < 18446744073709551616) (b2 : p2 < 18446744073709551616) (b3 : p3 < 18446744073709551616) (bn : n < 18446744073709551616) (hf : minusN p0 n = (v, er)) (he : (er != 0) = true) (w : World) :
    Calls Try.prog 34 #[.agg #[.int .u64 p0, .int .u64 p1, .int .u64 p2, .int .u64 p3], .int .i64 0, .int .u64 n, .func (.func 18) #[] #[]] w fun e w' => e = .returned (.tuple #[.agg #[.int .u64 0, .int .u64 0, .int .u64 0, .int .u64 0], .int .i64 er]) ∧ Below w.heap.size w w' := by
  have HC := Lib.hid (fun w => minus_calls p0 n (by assumption) bn w)
  clear b0 b1 b2 b3 bn
  have HF := Lib.hid hf
  clear hf
  go_enter Try.func34, Try.ntmps34
  go_wp2_with fail
  refine (right_calls _ _).mono ?_
  rintro e w' ⟨rfl, rfl⟩
  go_wp2_with fail
  refine (HC.out _).mono ?_
  rintro e w' ⟨rfl, rfl⟩
  rw [HF.out]
  unfold pairV
  go_wp2
  exact bodyPost_ret (v := .tuple #[.agg #[.int .u64 0, .int .u64 0, .int .u64 0, .int .u64 0], .int .i64 er]) (by simp [results, Try.results34, go_sem]) rfl ⟨rfl, by repeat (first | exact Below.refl _ _ | apply below_alloc | apply below_set)⟩
set_option maxHeartbeats 2000000 in
theorem changeMinus_ok1 (p0 p1 p2 p3 n v : Nat) (er : Int) (b0 : p0 < 18446744073709551616) (b1 : p1 < 18446744073709551616) (b2 : p2 < 18446744073709551616) (b3 : p3 < 18446744073709551616) (bn : n < 18446744073709551616) (hf : minusN p1 n = (v, er)) (he : er = 0) (w : World) :
    Calls Try.prog 34 #[.agg #[.int .u64 p0, .int .u64 p1, .int .u64 p2, .int .u64 p3], .int .i64 1, .int .u64 n, .func (.func 18) #[] #[]] w fun e w' => e = .returned (.tuple #[.agg #[.int .u64 p0, .int .u64 v, .int .u64 p2, .int .u64 p3], .int .i64 0]) ∧ Below w.heap.size w w' := by
  subst he
  have HC := Lib.hid (fun w => minus_calls p1 n (by assumption) bn w)
  clear b0 b1 b2 b3 bn
  have HF := Lib.hid hf
  clear hf
  go_enter Try.func34, Try.ntmps34
  go_wp2_with fail
  refine (right_calls _ _).mono ?_
  rintro e w' ⟨rfl, rfl⟩
  go_wp2_with fail
  refine (HC.out _).mono ?_
  rintro e w' ⟨rfl, rfl⟩
  rw [HF.out]
  unfold pairV
  go_wp2
  exact bodyPost_ret (v := .tuple #[.agg #[.int .u64 p0, .int .u64 v, .int .u64 p2, .int .u64 p3], .int .i64 0]) (by simp [results, Try.results34, go_sem]) rfl ⟨rfl, by repeat (first | exact Below.refl _ _ | apply below_alloc | apply below_set)⟩
set_option maxHeartbeats 2000000 in
theorem changeMinus_no1 (p0 p1 p2 p3 n v : Nat) (er : Int) (b0 : p0 < 18446744073709551616) (b1 : p1 < 18446744073709551616) (b2 : p2 < 18446744073709551616) (b3 : p3 < 18446744073709551616) (bn : n < 18446744073709551616) (hf : minusN p1 n = (v, er)) (he : (er != 0) = true) (w : World) :
    Calls Try.prog 34 #[.agg #[.int .u64 p0, .int .u64 p1, .int .u64 p2, .int .u64 p3], .int .i64 1, .int .u64 n, .func (.func 18) #[] #[]] w fun e w' => e = .returned (.tuple #[.agg #[.int .u64 0, .int .u64 0, .int .u64 0, .int .u64 0], .int .i64 er]) ∧ Below w.heap.size w w' := by
  have HC := Lib.hid (fun w => minus_calls p1 n (by assumption) bn w)
  clear b0 b1 b2 b3 bn
  have HF := Lib.hid hf
  clear hf
  go_enter Try.func34, Try.ntmps34
  go_wp2_with fail
  refine (right_calls _ _).mono ?_
  rintro e w' ⟨rfl, rfl⟩
  go_wp2_with fail
  refine (HC.out _).mono ?_
  rintro e w' ⟨rfl, rfl⟩
  rw [HF.out]
  unfold pairV
  go_wp2
  exact bodyPost_ret (v := .tuple #[.agg #[.int .u64 0, .int .u64 0, .int .u64 0, .int .u64 0], .int .i64 er]) (by simp [results, Try.results34, go_sem]) rfl ⟨rfl, by repeat (first | exact Below.refl _ _ | apply below_alloc | apply below_set)⟩
set_option maxHeartbeats 2000000 in
theorem changeMinus_ok2 (p0 p1 p2 p3 n v : Nat) (er : Int) (b0 : p0 < 18446744073709551616) (b1 : p1 < 18446744073709551616) (b2 : p2 < 18446744073709551616) (b3 : p3 < 18446744073709551616) (bn : n < 18446744073709551616) (hf : minusN p2 n = (v, er)) (he : er = 0) (w : World) :
    Calls Try.prog 34 #[.agg #[.int .u64 p0, .int .u64 p1, .int .u64 p2, .int .u64 p3], .int .i64 2, .int .u64 n, .func (.func 18) #[] #[]] w fun e w' => e = .returned (.tuple #[.agg #[.int .u64 p0, .int .u64 p1, .int .u64 v, .int .u64 p3], .int .i64 0]) ∧ Below w.heap.size w w' := by
  subst he
  have HC := Lib.hid (fun w => minus_calls p2 n (by assumption) bn w)
  clear b0 b1 b2 b3 bn
  have HF := Lib.hid hf
  clear hf
  go_enter Try.func34, Try.ntmps34
  go_wp2_with fail
  refine (right_calls _ _).mono ?_
  rintro e w' ⟨rfl, rfl⟩
  go_wp2_with fail
  refine (HC.out _).mono ?_
  rintro e w' ⟨rfl, rfl⟩
  rw [HF.out]
  unfold pairV
  go_wp2
  exact bodyPost_ret (v := .tuple #[.agg #[.int .u64 p0, .int .u64 p1, .int .u64 v, .int .u64 p3], .int .i64 0]) (by simp [results, Try.results34, go_sem]) rfl ⟨rfl, by repeat (first | exact Below.refl _ _ | apply below_alloc | apply below_set)⟩
set_option maxHeartbeats 2000000 in
theorem changeMinus_no2 (p0 p1 p2 p3 n v : Nat) (er : Int) (b0 : p0 < 18446744073709551616) (b1 : p1 < 18446744073709551616) (b2 : p2 < 18446744073709551616) (b3 : p3 < 18446744073709551616) (bn : n < 18446744073709551616) (hf : minusN p2 n = (v, er)) (he : (er != 0) = true) (w : World) :
    Calls Try.prog 34 #[.agg #[.int .u64 p0, .int .u64 p1, .int .u64 p2, .int .u64 p3], .int .i64 2, .int .u64 n, .func (.func 18) #[] #[]] w fun e w' => e = .returned (.tuple #[.agg #[.int .u64 0, .int .u64 0, .int .u64 0, .int .u64 0], .int .i64 er]) ∧ Below w.heap.size w w' := by
  have HC := Lib.hid (fun w => minus_calls p2 n (by assumption) bn w)
  clear b0 b1 b2 b3 bn
  have HF := Lib.hid hf
  clear hf
  go_enter Try.func34, Try.ntmps34
  go_wp2_with fail
  refine (right_calls _ _).mono ?_
  rintro e w' ⟨rfl, rfl⟩
  go_wp2_with fail
  refine (HC.out _).mono ?_
  rintro e w' ⟨rfl, rfl⟩
  rw [HF.out]
  unfold pairV
  go_wp2
  exact bodyPost_ret (v := .tuple #[.agg #[.int .u64 0, .int .u64 0, .int .u64 0, .int .u64 0], .int .i64 er]) (by simp [results, Try.results34, go_sem]) rfl ⟨rfl, by repeat (first | exact Below.refl _ _ | apply below_alloc | apply below_set)⟩
set_option maxHeartbeats 2000000 in
theorem changeMinus_ok3 (p0 p1 p2 p3 n v : Nat) (er : Int) (b0 : p0 < 18446744073709551616) (b1 : p1 < 18446744073709551616) (b2 : p2 < 18446744073709551616) (b3 : p3 < 18446744073709551616) (bn : n < 18446744073709551616) (hf : minusN p3 n = (v, er)) (he : er = 0) (w : World) :
    Calls Try.prog 34 #[.agg #[.int .u64 p0, .int .u64 p1, .int .u64 p2, .int .u64 p3], .int .i64 3, .int .u64 n, .func (.func 18) #[] #[]] w fun e w' => e = .returned (.tuple #[.agg #[.int .u64 p0, .int .u64 p1, .int .u64 p2, .int .u64 v], .int .i64 0]) ∧ Below w.heap.size w w' := by
  subst he
  have HC := Lib.hid (fun w => minus_calls p3 n (by assumption) bn w)
  clear b0 b1 b2 b3 bn
  have HF := Lib.hid hf
  clear hf
  go_enter Try.func34, Try.ntmps34
  go_wp2_with fail
  refine (right_calls _ _).mono ?_
  rintro e w' ⟨rfl, rfl⟩
  go_wp2_with fail
  refine (HC.out _).mono ?_
  rintro e w' ⟨rfl, rfl⟩
  rw [HF.out]
  unfold pairV
  go_wp2
  exact bodyPost_ret (v := .tuple #[.agg #[.int .u64 p0, .int .u64 p1, .int .u64 p2, .int .u64 v], .int .i64 0]) (by simp [results, Try.results34, go_sem]) rfl ⟨rfl, by repeat (first | exact Below.refl _ _ | apply below_alloc | apply below_set)⟩
set_option maxHeartbeats 2000000 in
theorem changeMinus_no3 (p0 p1 p2 p3 n v : Nat) (er : Int) (b0 : p0 < 18446744073709551616) (b1 : p1 < 18446744073709551616) (b2 : p2 < 18446744073709551616) (b3 : p3 < 18446744073709551616) (bn : n < 18446744073709551616) (hf : minusN p3 n = (v, er)) (he : (er != 0) = true) (w : World) :
    Calls Try.prog 34 #[.agg #[.int .u64 p0, .int .u64 p1, .int .u64 p2, .int .u64 p3], .int .i64 3, .int .u64 n, .func (.func 18) #[] #[]] w fun e w' => e = .returned (.tuple #[.agg #[.int .u64 0, .int .u64 0, .int .u64 0, .int .u64 0], .int .i64 er]) ∧ Below w.heap.size w w' := by
  have HC := Lib.hid (fun w => minus_calls p3 n (by assumption) bn w)
  clear b0 b1 b2 b3 bn
  have HF := Lib.hid hf
  clear hf
  go_enter Try.func34, Try.ntmps34
  go_wp2_with fail
  refine (right_calls _ _).mono ?_
  rintro e w' ⟨rfl, rfl⟩
  go_wp2_with fail
  refine (HC.out _).mono ?_
  rintro e w' ⟨rfl, rfl⟩
  rw [HF.out]
  unfold pairV
  go_wp2
  exact bodyPost_ret (v := .tuple #[.agg #[.int .u64 0, .int .u64 0, .int .u64 0, .int .u64 0], .int .i64 er]) (by simp [results, Try.results34, go_sem]) rfl ⟨rfl, by repeat (first | exact Below.refl _ _ | apply below_alloc | apply below_set)⟩
set_option maxHeartbeats 2000000 in
theorem changeMinus_out (p0 p1 p2 p3 n : Nat) (c : Int) (hc : ¬ (0 ≤ c ∧ c < 4)) (w : World) :
    Calls Try.prog 34 #[.agg #[.int .u64 p0, .int .u64 p1, .int .u64 p2, .int .u64 p3], .int .i64 c, .int .u64 n, .func (.func 18) #[] #[]] w fun e w' => e = .returned (.tuple #[.agg #[.int .u64 0, .int .u64 0, .int .u64 0, .int .u64 0], .int .i64 1]) ∧ Below w.heap.size w w' := by
  have hd : decide (0 ≤ c ∧ c < 4) = false := decide_eq_false hc
  clear hc
  go_enter Try.func34, Try.ntmps34
  go_wp2_with fail
  refine (right_calls _ _).mono ?_
  rintro e w' ⟨rfl, rfl⟩
  rw [hd]
  go_wp2
  exact bodyPost_ret (v := .tuple #[.agg #[.int .u64 0, .int .u64 0, .int .u64 0, .int .u64 0], .int .i64 1]) (by simp [results, Try.results34, go_sem]) rfl ⟨rfl, by repeat (first | exact Below.refl _ _ | apply below_alloc)⟩
theorem changeMinus_calls {p0 p1 p2 p3 n : Nat} {c : Int} {q0 q1 q2 q3 : Nat} {er : Int} (b0 : p0 < 18446744073709551616) (b1 : p1 < 18446744073709551616) (b2 : p2 < 18446744073709551616) (b3 : p3 < 18446744073709551616) (bn : n < 18446744073709551616) (h : chg minusN p0 p1 p2 p3 c n = (q0, q1, q2, q3, er)) (w : World) :
    Calls Try.prog 34 #[.agg #[.int .u64 p0, .int .u64 p1, .int .u64 p2, .int .u64 p3], .int .i64 c, .int .u64 n, .func (.func 18) #[] #[]] w fun e w' => e = .returned (.tuple #[.agg #[.int .u64 q0, .int .u64 q1, .int .u64 q2, .int .u64 q3], .int .i64 er]) ∧ Below w.heap.size w w' := by
  by_cases hc : 0 ≤ c ∧ c < 4
  · have h4 : c = 0 ∨ c = 1 ∨ c = 2 ∨ c = 3 := by omega
    clear hc
    rcases h4 with rfl | rfl | rfl | rfl
    · obtain ⟨v, e, hv⟩ : ∃ v e, minusN p0 n = (v, e) := ⟨_, _, rfl⟩
      by_cases he : e = 0
      · subst he
        have hq := chg_ok0 hv h
        simp only [Prod.mk.injEq] at hq
        obtain ⟨rfl, rfl, rfl, rfl, rfl⟩ := hq
        exact changeMinus_ok0 _ _ _ _ _ _ 0 b0 b1 b2 b3 bn hv rfl w
      · have hq := chg_no0 hv he h
        simp only [Prod.mk.injEq] at hq
        obtain ⟨rfl, rfl, rfl, rfl, rfl⟩ := hq
        exact changeMinus_no0 _ _ _ _ _ _ _ b0 b1 b2 b3 bn hv (by simpa using he) w
    · obtain ⟨v, e, hv⟩ : ∃ v e, minusN p1 n = (v, e) := ⟨_, _, rfl⟩
      by_cases he : e = 0
      · subst he
        have hq := chg_ok1 hv h
        simp only [Prod.mk.injEq] at hq
        obtain ⟨rfl, rfl, rfl, rfl, rfl⟩ := hq
        exact changeMinus_ok1 _ _ _ _ _ _ 0 b0 b1 b2 b3 bn hv rfl w
      · have hq := chg_no1 hv he h
        simp only [Prod.mk.injEq] at hq
        obtain ⟨rfl, rfl, rfl, rfl, rfl⟩ := hq
        exact changeMinus_no1 _ _ _ _ _ _ _ b0 b1 b2 b3 bn hv (by simpa using he) w
    · obtain ⟨v, e, hv⟩ : ∃ v e, minusN p2 n = (v, e) := ⟨_, _, rfl⟩
      by_cases he : e = 0
      · subst he
        have hq := chg_ok2 hv h
        simp only [Prod.mk.injEq] at hq
        obtain ⟨rfl, rfl, rfl, rfl, rfl⟩ := hq
        exact changeMinus_ok2 _ _ _ _ _ _ 0 b0 b1 b2 b3 bn hv rfl w
      · have hq := chg_no2 hv he h
        simp only [Prod.mk.injEq] at hq
        obtain ⟨rfl, rfl, rfl, rfl, rfl⟩ := hq
        exact changeMinus_no2 _ _ _ _ _ _ _ b0 b1 b2 b3 bn hv (by simpa using he) w
    · obtain ⟨v, e, hv⟩ : ∃ v e, minusN p3 n = (v, e) := ⟨_, _, rfl⟩
      by_cases he : e = 0
      · subst he
        have hq := chg_ok3 hv h
        simp only [Prod.mk.injEq] at hq
        obtain ⟨rfl, rfl, rfl, rfl, rfl⟩ := hq
        exact changeMinus_ok3 _ _ _ _ _ _ 0 b0 b1 b2 b3 bn hv rfl w
      · have hq := chg_no3 hv he h
        simp only [Prod.mk.injEq] at hq
        obtain ⟨rfl, rfl, rfl, rfl, rfl⟩ := hq
        exact changeMinus_no3 _ _ _ _ _ _ _ b0 b1 b2 b3 bn hv (by simpa using he) w
  · have hq := chg_out hc h
    simp only [Prod.mk.injEq] at hq
    obtain ⟨rfl, rfl, rfl, rfl, rfl⟩ := hq
    exact changeMinus_out _ _ _ _ _ _ hc w
set_option maxHeartbeats 2000000 in
theorem refGive_ok0 (p0 p1 p2 p3 n v : Nat) (er : Int) (b0 : p0 < 18446744073709551616) (b1 : p1 < 18446744073709551616) (b2 : p2 < 18446744073709551616) (b3 : p3 < 18446744073709551616) (bn : n < 18446744073709551616) (hf : plusN p0 n = (v, er)) (he : er = 0) (w : World) :
    Calls Try.prog 27 #[.agg #[.int .u64 p0, .int .u64 p1, .int .u64 p2, .int .u64 p3], .int .i64 0, .int .u64 n] w fun e w' => e = .returned (.tuple #[.agg #[.int .u64 v, .int .u64 p1, .int .u64 p2, .int .u64 p3], .int .i64 0]) ∧ Below w.heap.size w w' := by
  subst he
  have HC := Lib.hid (fun w => refPlus_calls p0 n (by assumption) bn w)
  clear b0 b1 b2 b3 bn
  have HF := Lib.hid hf
  clear hf
  go_enter Try.func27, Try.ntmps27
  go_wp2_with fail
  refine (HC.out _).mono ?_
  rintro e w' ⟨rfl, rfl⟩
  rw [HF.out]
  unfold pairV
  go_wp2
  exact bodyPost_ret (v := .tuple #[.agg #[.int .u64 v, .int .u64 p1, .int .u64 p2, .int .u64 p3], .int .i64 0]) (by simp [results, Try.results27, go_sem]) rfl ⟨rfl, by repeat (first | exact Below.refl _ _ | apply below_alloc | apply below_set)⟩
set_option maxHeartbeats 2000000 in
theorem refGive_no0 (p0 p1 p2 p3 n v : Nat) (er : Int) (b0 : p0 < 18446744073709551616) (b1 : p1 < 18446744073709551616) (b2 : p2 < 18446744073709551616) (b3 : p3 < 18446744073709551616) (bn : n < 18446744073709551616) (hf : plusN p0 n = (v, er)) (he : (er != 0) = true) (w : World) :
    Calls Try.prog 27 #[.agg #[.int .u64 p0, .int .u64 p1, .int .u64 p2, .int .u64 p3], .int .i64 0, .int .u64 n] w fun e w' => e = .returned (.tuple #[.agg #[.int .u64 0, .int .u64 0, .int .u64 0, .int .u64 0], .int .i64 er]) ∧ Below w.heap.size w w' := by
  have HC := Lib.hid (fun w => refPlus_calls p0 n (by assumption) bn w)
  clear b0 b1 b2 b3 bn
  have HF := Lib.hid hf
  clear hf
  go_enter Try.func27, Try.ntmps27
  go_wp2_with fail
  refine (HC.out _).mono ?_
  rintro e w' ⟨rfl, rfl⟩
  rw [HF.out]
  unfold pairV
  go_wp2
  exact bodyPost_ret (v := .tuple #[.agg #[.int .u64 0, .int .u64 0, .int .u64 0, .int .u64 0], .int .i64 er]) (by simp [results, Try.results27, go_sem]) rfl ⟨rfl, by repeat (first | exact Below.refl _ _ | apply below_alloc | apply below_set)⟩
set_option maxHeartbeats 2000000 in
theorem refGive_ok1 (p0 p1 p2 p3 n v : Nat) (er : Int) (b0 : p0 < 18446744073709551616) (b1 : p1 < 18446744073709551616) (b2 : p2 < 18446744073709551616) (b3 : p3 < 18446744073709551616) (bn : n < 18446744073709551616) (hf : plusN p1 n = (v, er)) (he : er = 0) (w : World) :
    Calls Try.prog 27 #[.agg #[.int .u64 p0, .int .u64 p1, .int .u64 p2, .int .u64 p3], .int .i64 1, .int .u64 n] w fun e w' => e = .returned (.tuple #[.agg #[.int .u64 p0, .int .u64 v, .int .u64 p2, .int .u64 p3], .int .i64 0]) ∧ Below w.heap.size w w' := by
  subst he
  have HC := Lib.hid (fun w => refPlus_calls p1 n (by assumption) bn w)
  clear b0 b1 b2 b3 bn
  have HF := Lib.hid hf
  clear hf
  go_enter Try.func27, Try.ntmps27
  go_wp2_with fail
  refine (HC.out _).mono ?_
  rintro e w' ⟨rfl, rfl⟩
  rw [HF.out]
  unfold pairV
  go_wp2
  exact bodyPost_ret (v := .tuple #[.agg #[.int .u64 p0, .int .u64 v, .int .u64 p2, .int .u64 p3], .int .i64 0]) (by simp [results, Try.results27, go_sem]) rfl ⟨rfl, by repeat (first | exact Below.refl _ _ | apply below_alloc | apply below_set)⟩
set_option maxHeartbeats 2000000 in
theorem refGive_no1 (p0 p1 p2 p3 n v : Nat) (er : Int) (b0 : p0 < 18446744073709551616) (b1 : p1 < 18446744073709551616) (b2 : p2 < 18446744073709551616) (b3 : p3 < 18446744073709551616) (bn : n < 18446744073709551616) (hf : plusN p1 n = (v, er)) (he : (er != 0) = true) (w : World) :
    Calls Try.prog 27 #[.agg #[.int .u64 p0, .int .u64 p1, .int .u64 p2, .int .u64 p3], .int .i64 1, .int .u64 n] w fun e w' => e = .returned (.tuple #[.agg #[.int .u64 0, .int .u64 0, .int .u64 0, .int .u64 0], .int .i64 er]) ∧ Below w.heap.size w w' := by
  have HC := Lib.hid (fun w => refPlus_calls p1 n (by assumption) bn w)
  clear b0 b1 b2 b3 bn
  have HF := Lib.hid hf
  clear hf
  go_enter Try.func27, Try.ntmps27
  go_wp2_with fail
  refine (HC.out _).mono ?_
  rintro e w' ⟨rfl, rfl⟩
  rw [HF.out]
  unfold pairV
  go_wp2
  exact bodyPost_ret (v := .tuple #[.agg #[.int .u64 0, .int .u64 0, .int .u64 0, .int .u64 0], .int .i64 er]) (by simp [results, Try.results27, go_sem]) rfl ⟨rfl, by repeat (first | exact Below.refl _ _ | apply below_alloc | apply below_set)⟩
set_option maxHeartbeats 2000000 in
theorem refGive_ok2 (p0 p1 p2 p3 n v : Nat) (er : Int) (b0 : p0 < 18446744073709551616) (b1 : p1 < 18446744073709551616) (b2 : p2 < 18446744073709551616) (b3 : p3 < 18446744073709551616) (bn : n < 18446744073709551616) (hf : plusN p2 n = (v, er)) (he : er = 0) (w : World) :
    Calls Try.prog 27 #[.agg #[.int .u64 p0, .int .u64 p1, .int .u64 p2, .int .u64 p3], .int .i64 2, .int .u64 n] w fun e w' => e = .returned (.tuple #[.agg #[.int .u64 p0, .int .u64 p1, .int .u64 v, .int .u64 p3], .int .i64 0]) ∧ Below w.heap.size w w' := by
  subst he
  have HC := Lib.hid (fun w => refPlus_calls p2 n (by assumption) bn w)
  clear b0 b1 b2 b3 bn
  have HF := Lib.hid hf
  clear hf
  go_enter Try.func27, Try.ntmps27
  go_wp2_with fail
  refine (HC.out _).mono ?_
  rintro e w' ⟨rfl, rfl⟩
  rw [HF.out]
  unfold pairV
  go_wp2
  exact bodyPost_ret (v := .tuple #[.agg #[.int .u64 p0, .int .u64 p1, .int .u64 v, .int .u64 p3], .int .i64 0]) (by simp [results, Try.results27, go_sem]) rfl ⟨rfl, by repeat (first | exact Below.refl _ _ | apply below_alloc | apply below_set)⟩
set_option maxHeartbeats 2000000 in
theorem refGive_no2 (p0 p1 p2 p3 n v : Nat) (er : Int) (b0 : p0 < 18446744073709551616) (b1 : p1 < 18446744073709551616) (b2 : p2 < 18446744073709551616) (b3 : p3 < 18446744073709551616) (bn : n < 18446744073709551616) (hf : plusN p2 n = (v, er)) (he : (er != 0) = true) (w : World) :
    Calls Try.prog 27 #[.agg #[.int .u64 p0, .int .u64 p1, .int .u64 p2, .int .u64 p3], .int .i64 2, .int .u64 n] w fun e w' => e = .returned (.tuple #[.agg #[.int .u64 0, .int .u64 0, .int .u64 0, .int .u64 0], .int .i64 er]) ∧ Below w.heap.size w w' := by
  have HC := Lib.hid (fun w => refPlus_calls p2 n (by assumption) bn w)
  clear b0 b1 b2 b3 bn
  have HF := Lib.hid hf
  clear hf
  go_enter Try.func27, Try.ntmps27
  go_wp2_with fail
  refine (HC.out _).mono ?_
  rintro e w' ⟨rfl, rfl⟩
  rw [HF.out]
  unfold pairV
  go_wp2
  exact bodyPost_ret (v := .tuple #[.agg #[.int .u64 0, .int .u64 0, .int .u64 0, .int .u64 0], .int .i64 er]) (by simp [results, Try.results27, go_sem]) rfl ⟨rfl, by repeat (first | exact Below.refl _ _ | apply below_alloc | apply below_set)⟩
set_option maxHeartbeats 2000000 in
theorem refGive_ok3 (p0 p1 p2 p3 n v : Nat) (er : Int) (b0 : p0 < 18446744073709551616) (b1 : p1 < 18446744073709551616) (b2 : p2 < 18446744073709551616) (b3 : p3 < 18446744073709551616) (bn : n < 18446744073709551616) (hf : plusN p3 n = (v, er)) (he : er = 0) (w : World) :
    Calls Try.prog 27 #[.agg #[.int .u64 p0, .int .u64 p1, .int .u64 p2, .int .u64 p3], .int .i64 3, .int .u64 n] w fun e w' => e = .returned (.tuple #[.agg #[.int .u64 p0, .int .u64 p1, .int .u64 p2, .int .u64 v], .int .i64 0]) ∧ Below w.heap.size w w' := by
  subst he
  have HC := Lib.hid (fun w => refPlus_calls p3 n (by assumption) bn w)
  clear b0 b1 b2 b3 bn
  have HF := Lib.hid hf
  clear hf
  go_enter Try.func27, Try.ntmps27
  go_wp2_with fail
  refine (HC.out _).mono ?_
  rintro e w' ⟨rfl, rfl⟩
  rw [HF.out]
  unfold pairV
  go_wp2
  exact bodyPost_ret (v := .tuple #[.agg #[.int .u64 p0, .int .u64 p1, .int .u64 p2, .int .u64 v], .int .i64 0]) (by simp [results, Try.results27, go_sem]) rfl ⟨rfl, by repeat (first | exact Below.refl _ _ | apply below_alloc | apply below_set)⟩
set_option maxHeartbeats 2000000 in
theorem refGive_no3 (p0 p1 p2 p3 n v : Nat) (er : Int) (b0 : p0 < 18446744073709551616) (b1 : p1 < 18446744073709551616) (b2 : p2 < 18446744073709551616) (b3 : p3 < 18446744073709551616) (bn : n < 18446744073709551616) (hf : plusN p3 n = (v, er)) (he : (er != 0) = true) (w : World) :
    Calls Try.prog 27 #[.agg #[.int .u64 p0, .int .u64 p1, .int .u64 p2, .int .u64 p3], .int .i64 3, .int .u64 n] w fun e w' => e = .returned (.tuple #[.agg #[.int .u64 0, .int .u64 0, .int .u64 0, .int .u64 0], .int .i64 er]) ∧ Below w.heap.size w w' := by
  have HC := Lib.hid (fun w => refPlus_calls p3 n (by assumption) bn w)
  clear b0 b1 b2 b3 bn
  have HF := Lib.hid hf
  clear hf
  go_enter Try.func27, Try.ntmps27
  go_wp2_with fail
  refine (HC.out _).mono ?_
  rintro e w' ⟨rfl, rfl⟩
  rw [HF.out]
  unfold pairV
  go_wp2
  exact bodyPost_ret (v := .tuple #[.agg #[.int .u64 0, .int .u64 0, .int .u64 0, .int .u64 0], .int .i64 er]) (by simp [results, Try.results27, go_sem]) rfl ⟨rfl, by repeat (first | exact Below.refl _ _ | apply below_alloc | apply below_set)⟩
set_option maxHeartbeats 2000000 in
theorem refGive_out (p0 p1 p2 p3 n : Nat) (c : Int) (hc : ¬ (0 ≤ c ∧ c < 4)) (w : World) :
    Calls Try.prog 27 #[.agg #[.int .u64 p0, .int .u64 p1, .int .u64 p2, .int .u64 p3], .int .i64 c, .int .u64 n] w fun e w' => e = .returned (.tuple #[.agg #[.int .u64 0, .int .u64 0, .int .u64 0, .int .u64 0], .int .i64 1]) ∧ Below w.heap.size w w' := by
  by_cases h0 : c < 0
  all_goals
    by_cases h3 : 3 < c
    all_goals first | (exfalso; omega) | skip
  all_goals
    clear hc
    go_enter Try.func27, Try.ntmps27
    go_wp2
    exact bodyPost_ret (v := .tuple #[.agg #[.int .u64 0, .int .u64 0, .int .u64 0, .int .u64 0], .int .i64 1]) (by simp [results, Try.results27, go_sem]) rfl ⟨rfl, by repeat (first | exact Below.refl _ _ | apply below_alloc)⟩
theorem refGive_calls {p0 p1 p2 p3 n : Nat} {c : Int} {q0 q1 q2 q3 : Nat} {er : Int} (b0 : p0 < 18446744073709551616) (b1 : p1 < 18446744073709551616) (b2 : p2 < 18446744073709551616) (b3 : p3 < 18446744073709551616) (bn : n < 18446744073709551616) (h : chg plusN p0 p1 p2 p3 c n = (q0, q1, q2, q3, er)) (w : World) :
    Calls Try.prog 27 #[.agg #[.int .u64 p0, .int .u64 p1, .int .u64 p2, .int .u64 p3], .int .i64 c, .int .u64 n] w fun e w' => e = .returned (.tuple #[.agg #[.int .u64 q0, .int .u64 q1, .int .u64 q2, .int .u64 q3], .int .i64 er]) ∧ Below w.heap.size w w' := by
  by_cases hc : 0 ≤ c ∧ c < 4
  · have h4 : c = 0 ∨ c = 1 ∨ c = 2 ∨ c = 3 := by omega
    clear hc
    rcases h4 with rfl | rfl | rfl | rfl
    · obtain ⟨v, e, hv⟩ : ∃ v e, plusN p0 n = (v, e) := ⟨_, _, rfl⟩
      by_cases he : e = 0
      · subst he
        have hq := chg_ok0 hv h
        simp only [Prod.mk.injEq] at hq
        obtain ⟨rfl, rfl, rfl, rfl, rfl⟩ := hq
        exact refGive_ok0 _ _ _ _ _ _ 0 b0 b1 b2 b3 bn hv rfl w
      · have hq := chg_no0 hv he h
        simp only [Prod.mk.injEq] at hq
        obtain ⟨rfl, rfl, rfl, rfl, rfl⟩ := hq
        exact refGive_no0 _ _ _ _ _ _ _ b0 b1 b2 b3 bn hv (by simpa using he) w
    · obtain ⟨v, e, hv⟩ : ∃ v e, plusN p1 n = (v, e) := ⟨_, _, rfl⟩
      by_cases he : e = 0
      · subst he
        have hq := chg_ok1 hv h
        simp only [Prod.mk.injEq] at hq
        obtain ⟨rfl, rfl, rfl, rfl, rfl⟩ := hq
        exact refGive_ok1 _ _ _ _ _ _ 0 b0 b1 b2 b3 bn hv rfl w
      · have hq := chg_no1 hv he h
        simp only [Prod.mk.injEq] at hq
        obtain ⟨rfl, rfl, rfl, rfl, rfl⟩ := hq
        exact refGive_no1 _ _ _ _ _ _ _ b0 b1 b2 b3 bn hv (by simpa using he) w
    · obtain ⟨v, e, hv⟩ : ∃ v e, plusN p2 n = (v, e) := ⟨_, _, rfl⟩
      by_cases he : e = 0
      · subst he
        have hq := chg_ok2 hv h
        simp only [Prod.mk.injEq] at hq
        obtain ⟨rfl, rfl, rfl, rfl, rfl⟩ := hq
        exact refGive_ok2 _ _ _ _ _ _ 0 b0 b1 b2 b3 bn hv rfl w
      · have hq := chg_no2 hv he h
        simp only [Prod.mk.injEq] at hq
        obtain ⟨rfl, rfl, rfl, rfl, rfl⟩ := hq
        exact refGive_no2 _ _ _ _ _ _ _ b0 b1 b2 b3 bn hv (by simpa using he) w
    · obtain ⟨v, e, hv⟩ : ∃ v e, plusN p3 n = (v, e) := ⟨_, _, rfl⟩
      by_cases he : e = 0
      · subst he
        have hq := chg_ok3 hv h
        simp only [Prod.mk.injEq] at hq
        obtain ⟨rfl, rfl, rfl, rfl, rfl⟩ := hq
        exact refGive_ok3 _ _ _ _ _ _ 0 b0 b1 b2 b3 bn hv rfl w
      · have hq := chg_no3 hv he h
        simp only [Prod.mk.injEq] at hq
        obtain ⟨rfl, rfl, rfl, rfl, rfl⟩ := hq
        exact refGive_no3 _ _ _ _ _ _ _ b0 b1 b2 b3 bn hv (by simpa using he) w
  · have hq := chg_out hc h
    simp only [Prod.mk.injEq] at hq
    obtain ⟨rfl, rfl, rfl, rfl, rfl⟩ := hq
    exact refGive_out _ _ _ _ _ _ hc w
set_option maxHeartbeats 2000000 in
theorem refTake_ok0 (p0 p1 p2 p3 n v : Nat) (er : Int) (b0 : p0 < 18446744073709551616) (b1 : p1 < 18446744073709551616) (b2 : p2 < 18446744073709551616) (b3 : p3 < 18446744073709551616) (bn : n < 18446744073709551616) (hf : minusN p0 n = (v, er)) (he : er = 0) (w : World) :
    Calls Try.prog 29 #[.agg #[.int .u64 p0, .int .u64 p1, .int .u64 p2, .int .u64 p3], .int .i64 0, .int .u64 n] w fun e w' => e = .returned (.tuple #[.agg #[.int .u64 v, .int .u64 p1, .int .u64 p2, .int .u64 p3], .int .i64 0]) ∧ Below w.heap.size w w' := by
  subst he
  have HC := Lib.hid (fun w => refMinus_calls p0 n (by assumption) bn w)
  clear b0 b1 b2 b3 bn
  have HF := Lib.hid hf
  clear hf
  go_enter Try.func29, Try.ntmps29
  go_wp2_with fail
  refine (HC.out _).mono ?_
  rintro e w' ⟨rfl, rfl⟩
  rw [HF.out]
  unfold pairV
  go_wp2
  exact bodyPost_ret (v := .tuple #[.agg #[.int .u64 v, .int .u64 p1, .int .u64 p2, .int .u64 p3], .int .i64 0]) (by simp [results, Try.results29, go_sem]) rfl ⟨rfl, by repeat (first | exact Below.refl _ _ | apply below_alloc | apply below_set)⟩
set_option maxHeartbeats 2000000 in
theorem refTake_no0 (p0 p1 p2 p3 n v : Nat) (er : Int) (b0 : p0 < 18446744073709551616) (b1 : p1 < 18446744073709551616) (b2 : p2 < 18446744073709551616) (b3 : p3 < 18446744073709551616) (bn : n < 18446744073709551616) (hf : minusN p0 n = (v, er)) (he : (er != 0) = true) (w : World) :
    Calls Try.prog 29 #[.agg #[.int .u64 p0, .int .u64 p1, .int .u64 p2, .int .u64 p3], .int .i64 0, .int .u64 n] w fun e w' => e = .returned (.tuple #[.agg #[.int .u64 0, .int .u64 0, .int .u64 0, .int .u64 0], .int .i64 er]) ∧ Below w.heap.size w w' := by
  have HC := Lib.hid (fun w => refMinus_calls p0 n (by assumption) bn w)
  clear b0 b1 b2 b3 bn
  have HF := Lib.hid hf
  clear hf
  go_enter Try.func29, Try.ntmps29
  go_wp2_with fail
  refine (HC.out _).mono ?_
  rintro e w' ⟨rfl, rfl⟩
  rw [HF.out]
  unfold pairV
  go_wp2
  exact bodyPost_ret (v := .tuple #[.agg #[.int .u64 0, .int .u64 0, .int .u64 0, .int .u64 0], .int .i64 er]) (by simp [results, Try.results29, go_sem]) rfl ⟨rfl, by repeat (first | exact Below.refl _ _ | apply below_alloc | apply below_set)⟩
set_option maxHeartbeats 2000000 in
theorem refTake_ok1 (p0 p1 p2 p3 n v : Nat) (er : Int) (b0 : p0 < 18446744073709551616) (b1 : p1 < 18446744073709551616) (b2 : p2 < 18446744073709551616) (b3 : p3 < 18446744073709551616) (bn : n < 18446744073709551616) (hf : minusN p1 n = (v, er)) (he : er = 0) (w : World) :
    Calls Try.prog 29 #[.agg #[.int .u64 p0, .int .u64 p1, .int .u64 p2, .int .u64 p3], .int .i64 1, .int .u64 n] w fun e w' => e = .returned (.tuple #[.agg #[.int .u64 p0, .int .u64 v, .int .u64 p2, .int .u64 p3], .int .i64 0]) ∧ Below w.heap.size w w' := by
  subst he
  have HC := Lib.hid (fun w => refMinus_calls p1 n (by assumption) bn w)
  clear b0 b1 b2 b3 bn
  have HF := Lib.hid hf
  clear hf
  go_enter Try.func29, Try.ntmps29
  go_wp2_with fail
  refine (HC.out _).mono ?_
  rintro e w' ⟨rfl, rfl⟩
  rw [HF.out]
  unfold pairV
  go_wp2
  exact bodyPost_ret (v := .tuple #[.agg #[.int .u64 p0, .int .u64 v, .int .u64 p2, .int .u64 p3], .int .i64 0]) (by simp [results, Try.results29, go_sem]) rfl ⟨rfl, by repeat (first | exact Below.refl _ _ | apply below_alloc | apply below_set)⟩
set_option maxHeartbeats 2000000 in
theorem refTake_no1 (p0 p1 p2 p3 n v : Nat) (er : Int) (b0 : p0 < 18446744073709551616) (b1 : p1 < 18446744073709551616) (b2 : p2 < 18446744073709551616) (b3 : p3 < 18446744073709551616) (bn : n < 18446744073709551616) (hf : minusN p1 n = (v, er)) (he : (er != 0) = true) (w : World) :
    Calls Try.prog 29 #[.agg #[.int .u64 p0, .int .u64 p1, .int .u64 p2, .int .u64 p3], .int .i64 1, .int .u64 n] w fun e w' => e = .returned (.tuple #[.agg #[.int .u64 0, .int .u64 0, .int .u64 0, .int .u64 0], .int .i64 er]) ∧ Below w.heap.size w w' := by
  have HC := Lib.hid (fun w => refMinus_calls p1 n (by assumption) bn w)
  clear b0 b1 b2 b3 bn
  have HF := Lib.hid hf
  clear hf
  go_enter Try.func29, Try.ntmps29
  go_wp2_with fail
  refine (HC.out _).mono ?_
  rintro e w' ⟨rfl, rfl⟩
  rw [HF.out]
  unfold pairV
  go_wp2
  exact bodyPost_ret (v := .tuple #[.agg #[.int .u64 0, .int .u64 0, .int .u64 0, .int .u64 0], .int .i64 er]) (by simp [results, Try.results29, go_sem]) rfl ⟨rfl, by repeat (first | exact Below.refl _ _ | apply below_alloc | apply below_set)⟩
set_option maxHeartbeats 2000000 in
theorem refTake_ok2 (p0 p1 p2 p3 n v : Nat) (er : Int) (b0 : p0 < 18446744073709551616) (b1 : p1 < 18446744073709551616) (b2 : p2 < 18446744073709551616) (b3 : p3 < 18446744073709551616) (bn : n < 18446744073709551616) (hf : minusN p2 n = (v, er)) (he : er = 0) (w : World) :
    Calls Try.prog 29 #[.agg #[.int .u64 p0, .int .u64 p1, .int .u64 p2, .int .u64 p3], .int .i64 2, .int .u64 n] w fun e w' => e = .returned (.tuple #[.agg #[.int .u64 p0, .int .u64 p1, .int .u64 v, .int .u64 p3], .int .i64 0]) ∧ Below w.heap.size w w' := by
  subst he
  have HC := Lib.hid (fun w => refMinus_calls p2 n (by assumption) bn w)
  clear b0 b1 b2 b3 bn
  have HF := Lib.hid hf
  clear hf
  go_enter Try.func29, Try.ntmps29
  go_wp2_with fail
  refine (HC.out _).mono ?_
  rintro e w' ⟨rfl, rfl⟩
  rw [HF.out]
  unfold pairV
  go_wp2
  exact bodyPost_ret (v := .tuple #[.agg #[.int .u64 p0, .int .u64 p1, .int .u64 v, .int .u64 p3], .int .i64 0]) (by simp [results, Try.results29, go_sem]) rfl ⟨rfl, by repeat (first | exact Below.refl _ _ | apply below_alloc | apply below_set)⟩
set_option maxHeartbeats 2000000 in
theorem refTake_no2 (p0 p1 p2 p3 n v : Nat) (er : Int) (b0 : p0 < 18446744073709551616) (b1 : p1 < 18446744073709551616) (b2 : p2 < 18446744073709551616) (b3 : p3 < 18446744073709551616) (bn : n < 18446744073709551616) (hf : minusN p2 n = (v, er)) (he : (er != 0) = true) (w : World) :
    Calls Try.prog 29 #[.agg #[.int .u64 p0, .int .u64 p1, .int .u64 p2, .int .u64 p3], .int .i64 2, .int .u64 n] w fun e w' => e = .returned (.tuple #[.agg #[.int .u64 0, .int .u64 0, .int .u64 0, .int .u64 0], .int .i64 er]) ∧ Below w.heap.size w w' := by
  have HC := Lib.hid (fun w => refMinus_calls p2 n (by assumption) bn w)
  clear b0 b1 b2 b3 bn
  have HF := Lib.hid hf
  clear hf
  go_enter Try.func29, Try.ntmps29
  go_wp2_with fail
  refine (HC.out _).mono ?_
  rintro e w' ⟨rfl, rfl⟩
  rw [HF.out]
  unfold pairV
  go_wp2
  exact bodyPost_ret (v := .tuple #[.agg #[.int .u64 0, .int .u64 0, .int .u64 0, .int .u64 0], .int .i64 er]) (by simp [results, Try.results29, go_sem]) rfl ⟨rfl, by repeat (first | exact Below.refl _ _ | apply below_alloc | apply below_set)⟩
set_option maxHeartbeats 2000000 in
theorem refTake_ok3 (p0 p1 p2 p3 n v : Nat) (er : Int) (b0 : p0 < 18446744073709551616) (b1 : p1 < 18446744073709551616) (b2 : p2 < 18446744073709551616) (b3 : p3 < 18446744073709551616) (bn : n < 18446744073709551616) (hf : minusN p3 n = (v, er)) (he : er = 0) (w : World) :
    Calls Try.prog 29 #[.agg #[.int .u64 p0, .int .u64 p1, .int .u64 p2, .int .u64 p3], .int .i64 3, .int .u64 n] w fun e w' => e = .returned (.tuple #[.agg #[.int .u64 p0, .int .u64 p1, .int .u64 p2, .int .u64 v], .int .i64 0]) ∧ Below w.heap.size w w' := by
  subst he
  have HC := Lib.hid (fun w => refMinus_calls p3 n (by assumption) bn w)
  clear b0 b1 b2 b3 bn
  have HF := Lib.hid hf
  clear hf
  go_enter Try.func29, Try.ntmps29
  go_wp2_with fail
  refine (HC.out _).mono ?_
  rintro e w' ⟨rfl, rfl⟩
  rw [HF.out]
  unfold pairV
  go_wp2
  exact bodyPost_ret (v := .tuple #[.agg #[.int .u64 p0, .int .u64 p1, .int .u64 p2, .int .u64 v], .int .i64 0]) (by simp [results, Try.results29, go_sem]) rfl ⟨rfl, by repeat (first | exact Below.refl _ _ | apply below_alloc | apply below_set)⟩
set_option maxHeartbeats 2000000 in
theorem refTake_no3 (p0 p1 p2 p3 n v : Nat) (er : Int) (b0 : p0 < 18446744073709551616) (b1 : p1 < 18446744073709551616) (b2 : p2 < 18446744073709551616) (b3 : p3 < 18446744073709551616) (bn : n < 18446744073709551616) (hf : minusN p3 n = (v, er)) (he : (er != 0) = true) (w : World) :
    Calls Try.prog 29 #[.agg #[.int .u64 p0, .int .u64 p1, .int .u64 p2, .int .u64 p3], .int .i64 3, .int .u64 n] w fun e w' => e = .returned (.tuple #[.agg #[.int .u64 0, .int .u64 0, .int .u64 0, .int .u64 0], .int .i64 er]) ∧ Below w.heap.size w w' := by
  have HC := Lib.hid (fun w => refMinus_calls p3 n (by assumption) bn w)
  clear b0 b1 b2 b3 bn
  have HF := Lib.hid hf
  clear hf
  go_enter Try.func29, Try.ntmps29
  go_wp2_with fail
  refine (HC.out _).mono ?_
  rintro e w' ⟨rfl, rfl⟩
  rw [HF.out]
  unfold pairV
  go_wp2
  exact bodyPost_ret (v := .tuple #[.agg #[.int .u64 0, .int .u64 0, .int .u64 0, .int .u64 0], .int .i64 er]) (by simp [results, Try.results29, go_sem]) rfl ⟨rfl, by repeat (first | exact Below.refl _ _ | apply below_alloc | apply below_set)⟩
set_option maxHeartbeats 2000000 in
theorem refTake_out (p0 p1 p2 p3 n : Nat) (c : Int) (hc : ¬ (0 ≤ c ∧ c < 4)) (w : World) :
    Calls Try.prog 29 #[.agg #[.int .u64 p0, .int .u64 p1, .int .u64 p2, .int .u64 p3], .int .i64 c, .int .u64 n] w fun e w' => e = .returned (.tuple #[.agg #[.int .u64 0, .int .u64 0, .int .u64 0, .int .u64 0], .int .i64 1]) ∧ Below w.heap.size w w' := by
  by_cases h0 : c < 0
  all_goals
    by_cases h3 : 3 < c
    all_goals first | (exfalso; omega) | skip
  all_goals
    clear hc
    go_enter Try.func29, Try.ntmps29
    go_wp2
    exact bodyPost_ret (v := .tuple #[.agg #[.int .u64 0, .int .u64 0, .int .u64 0, .int .u64 0], .int .i64 1]) (by simp [results, Try.results29, go_sem]) rfl ⟨rfl, by repeat (first | exact Below.refl _ _ | apply below_alloc)⟩
theorem refTake_calls {p0 p1 p2 p3 n : Nat} {c : Int} {q0 q1 q2 q3 : Nat} {er : Int} (b0 : p0 < 18446744073709551616) (b1 : p1 < 18446744073709551616) (b2 : p2 < 18446744073709551616) (b3 : p3 < 18446744073709551616) (bn : n < 18446744073709551616) (h : chg minusN p0 p1 p2 p3 c n = (q0, q1, q2, q3, er)) (w : World) :
    Calls Try.prog 29 #[.agg #[.int .u64 p0, .int .u64 p1, .int .u64 p2, .int .u64 p3], .int .i64 c, .int .u64 n] w fun e w' => e = .returned (.tuple #[.agg #[.int .u64 q0, .int .u64 q1, .int .u64 q2, .int .u64 q3], .int .i64 er]) ∧ Below w.heap.size w w' := by
  by_cases hc : 0 ≤ c ∧ c < 4
  · have h4 : c = 0 ∨ c = 1 ∨ c = 2 ∨ c = 3 := by omega
    clear hc
    rcases h4 with rfl | rfl | rfl | rfl
    · obtain ⟨v, e, hv⟩ : ∃ v e, minusN p0 n = (v, e) := ⟨_, _, rfl⟩
      by_cases he : e = 0
      · subst he
        have hq := chg_ok0 hv h
        simp only [Prod.mk.injEq] at hq
        obtain ⟨rfl, rfl, rfl, rfl, rfl⟩ := hq
        exact refTake_ok0 _ _ _ _ _ _ 0 b0 b1 b2 b3 bn hv rfl w
      · have hq := chg_no0 hv he h
        simp only [Prod.mk.injEq] at hq
        obtain ⟨rfl, rfl, rfl, rfl, rfl⟩ := hq
        exact refTake_no0 _ _ _ _ _ _ _ b0 b1 b2 b3 bn hv (by simpa using he) w
    · obtain ⟨v, e, hv⟩ : ∃ v e, minusN p1 n = (v, e) := ⟨_, _, rfl⟩
      by_cases he : e = 0
      · subst he
        have hq := chg_ok1 hv h
        simp only [Prod.mk.injEq] at hq
        obtain ⟨rfl, rfl, rfl, rfl, rfl⟩ := hq
        exact refTake_ok1 _ _ _ _ _ _ 0 b0 b1 b2 b3 bn hv rfl w
      · have hq := chg_no1 hv he h
        simp only [Prod.mk.injEq] at hq
        obtain ⟨rfl, rfl, rfl, rfl, rfl⟩ := hq
        exact refTake_no1 _ _ _ _ _ _ _ b0 b1 b2 b3 bn hv (by simpa using he) w
    · obtain ⟨v, e, hv⟩ : ∃ v e, minusN p2 n = (v, e) := ⟨_, _, rfl⟩
      by_cases he : e = 0
      · subst he
        have hq := chg_ok2 hv h
        simp only [Prod.mk.injEq] at hq
        obtain ⟨rfl, rfl, rfl, rfl, rfl⟩ := hq
        exact refTake_ok2 _ _ _ _ _ _ 0 b0 b1 b2 b3 bn hv rfl w
      · have hq := chg_no2 hv he h
        simp only [Prod.mk.injEq] at hq
        obtain ⟨rfl, rfl, rfl, rfl, rfl⟩ := hq
        exact refTake_no2 _ _ _ _ _ _ _ b0 b1 b2 b3 bn hv (by simpa using he) w
    · obtain ⟨v, e, hv⟩ : ∃ v e, minusN p3 n = (v, e) := ⟨_, _, rfl⟩
      by_cases he : e = 0
      · subst he
        have hq := chg_ok3 hv h
        simp only [Prod.mk.injEq] at hq
        obtain ⟨rfl, rfl, rfl, rfl, rfl⟩ := hq
        exact refTake_ok3 _ _ _ _ _ _ 0 b0 b1 b2 b3 bn hv rfl w
      · have hq := chg_no3 hv he h
        simp only [Prod.mk.injEq] at hq
        obtain ⟨rfl, rfl, rfl, rfl, rfl⟩ := hq
        exact refTake_no3 _ _ _ _ _ _ _ b0 b1 b2 b3 bn hv (by simpa using he) w
  · have hq := chg_out hc h
    simp only [Prod.mk.injEq] at hq
    obtain ⟨rfl, rfl, rfl, rfl, rfl⟩ := hq
    exact refTake_out _ _ _ _ _ _ hc w
theorem fill4 {w : World} {g : Nat} {a b c d x0 x1 x2 x3 : Value} {t : TypeId} (h : w.heap[g]? = some (.cells #[a, b, c, d] t (0, 0))) :
    ((((w.setCell ⟨g, 0, none⟩ x0).setCell ⟨g, 1, none⟩ x1).setCell ⟨g, 2, none⟩ x2).setCell ⟨g, 3, none⟩ x3).heap[g]? = some (.cells #[x0, x1, x2, x3] t (0, 0)) := by
  have := blk_set (blk_set (blk_set (blk_set h 0 x0) 1 x1) 2 x2) 3 x3
  simpa using this
theorem cells4 {w : World} {g : Nat} {a b c d : Value} {t : TypeId} (h : w.heap[g]? = some (.cells #[a, b, c, d] t (0, 0))) :
    (w.cell? ⟨g, 0, none⟩ = some a ∧ w.cell? ⟨g, 1, none⟩ = some b ∧ w.cell? ⟨g, 2, none⟩ = some c ∧ w.cell? ⟨g, 3, none⟩ = some d) ∧
    (w.frozen? ⟨g, 0, none⟩ = false ∧ w.frozen? ⟨g, 1, none⟩ = false ∧ w.frozen? ⟨g, 2, none⟩ = false ∧ w.frozen? ⟨g, 3, none⟩ = false) :=
  ⟨⟨(blk_cell h 0).trans rfl, (blk_cell h 1).trans rfl, (blk_cell h 2).trans rfl, (blk_cell h 3).trans rfl⟩, blk_frozen h 0, blk_frozen h 1, blk_frozen h 2, blk_frozen h 3⟩
theorem blk_second {w w1 : World} {a b : Obj} (hb : Below ((w.alloc a).alloc b).heap.size ((w.alloc a).alloc b) w1) : w1.heap[w.heap.size + 1]? = some b := by
  have h1 := blk_new (w.alloc a) b
  rw [World.size_alloc] at h1
  exact blk_below h1 hb
theorem size_second {w w1 : World} {a b : Obj} (hb : Below ((w.alloc a).alloc b).heap.size ((w.alloc a).alloc b) w1) : w.heap.size + 1 < w1.heap.size := by
  have := hb.size
  rw [World.size_alloc, World.size_alloc] at this
  omega
set_option maxHeartbeats 2000000 in
theorem give_calls {p0 p1 p2 p3 n : Nat} {c : Int} {q0 q1 q2 q3 : Nat} {er : Int} (b0 : p0 < 18446744073709551616) (b1 : p1 < 18446744073709551616) (b2 : p2 < 18446744073709551616) (b3 : p3 < 18446744073709551616) (bn : n < 18446744073709551616) (h : chg plusN p0 p1 p2 p3 c n = (q0, q1, q2, q3, er)) (w : World) :
    Calls Try.prog 26 #[.agg #[.int .u64 p0, .int .u64 p1, .int .u64 p2, .int .u64 p3], .int .i64 c, .int .u64 n] w fun e w' => e = .returned (.tuple #[.agg #[.int .u64 q0, .int .u64 q1, .int .u64 q2, .int .u64 q3], .int .i64 er]) ∧ Below w.heap.size w w' := by
  have HC := Lib.hid (fun w => changePlus_calls b0 b1 b2 b3 bn h w)
  clear b0 b1 b2 b3 bn h
  go_enter Try.func26, Try.ntmps26
  go_wp2_with fail
  refine (HC.out _).mono ?_
  rintro e w1 ⟨rfl, hb⟩
  have hblk := blk_second hb
  have hs := size_second hb
  have HB := Aside0.mk (below_step (below_alloc (below_alloc (Below.refl w.heap.size w) _) _) hb)
  clear hb
  obtain ⟨⟨hc0, hc1, hc2, hc3⟩, hf0, hf1, hf2, hf3⟩ := cells4 hblk
  have HK := Aside0.mk hblk
  clear hblk
  go_wp2
  have hk := fill4 (x0 := .int .u64 q0) (x1 := .int .u64 q1) (x2 := .int .u64 q2) (x3 := .int .u64 q3) HK.out
  obtain ⟨⟨hd0, hd1, hd2, hd3⟩, _⟩ := cells4 hk
  exact bodyPost_ret (v := .tuple #[.agg #[.int .u64 q0, .int .u64 q1, .int .u64 q2, .int .u64 q3], .int .i64 er]) (by simp [results, Try.results26, go_sem, hd0, hd1, hd2, hd3]) rfl ⟨rfl, (((HB.out.setCell (by simp) _).setCell (by simp) _).setCell (by simp) _).setCell (by simp) _⟩
set_option maxHeartbeats 2000000 in
theorem take_calls {p0 p1 p2 p3 n : Nat} {c : Int} {q0 q1 q2 q3 : Nat} {er : Int} (b0 : p0 < 18446744073709551616) (b1 : p1 < 18446744073709551616) (b2 : p2 < 18446744073709551616) (b3 : p3 < 18446744073709551616) (bn : n < 18446744073709551616) (h : chg minusN p0 p1 p2 p3 c n = (q0, q1, q2, q3, er)) (w : World) :
    Calls Try.prog 28 #[.agg #[.int .u64 p0, .int .u64 p1, .int .u64 p2, .int .u64 p3], .int .i64 c, .int .u64 n] w fun e w' => e = .returned (.tuple #[.agg #[.int .u64 q0, .int .u64 q1, .int .u64 q2, .int .u64 q3], .int .i64 er]) ∧ Below w.heap.size w w' := by
  have HC := Lib.hid (fun w => changeMinus_calls b0 b1 b2 b3 bn h w)
  clear b0 b1 b2 b3 bn h
  go_enter Try.func28, Try.ntmps28
  go_wp2_with fail
  refine (HC.out _).mono ?_
  rintro e w1 ⟨rfl, hb⟩
  have hblk := blk_second hb
  have hs := size_second hb
  have HB := Aside0.mk (below_step (below_alloc (below_alloc (Below.refl w.heap.size w) _) _) hb)
  clear hb
  obtain ⟨⟨hc0, hc1, hc2, hc3⟩, hf0, hf1, hf2, hf3⟩ := cells4 hblk
  have HK := Aside0.mk hblk
  clear hblk
  go_wp2
  have hk := fill4 (x0 := .int .u64 q0) (x1 := .int .u64 q1) (x2 := .int .u64 q2) (x3 := .int .u64 q3) HK.out
  obtain ⟨⟨hd0, hd1, hd2, hd3⟩, _⟩ := cells4 hk
  exact bodyPost_ret (v := .tuple #[.agg #[.int .u64 q0, .int .u64 q1, .int .u64 q2, .int .u64 q3], .int .i64 er]) (by simp [results, Try.results28, go_sem, hd0, hd1, hd2, hd3]) rfl ⟨rfl, (((HB.out.setCell (by simp) _).setCell (by simp) _).setCell (by simp) _).setCell (by simp) _⟩
end Go.Proofs.Ytcfibadhikohfaa.Giv
