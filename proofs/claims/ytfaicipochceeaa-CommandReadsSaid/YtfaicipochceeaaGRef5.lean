/- The reference: small functions (num, part, byte1). -/
import Derived.Test.YtfaicipochceeaaGRef4
import Derived.Test.YtfaicipochceeaaGRef3
namespace Go.Proofs.Ytfaicipochceeaa.Giv
open Go.Lib Go.RowKit Go.Proofs.YtfaicipochceeaaW.PrintWords Go.Proofs.YtfaicipochceeaaW.PrintLast Go.Proofs.YtfaicipochceeaaW.PrintMore
set_option linter.unusedVariables false
set_option linter.unusedSimpArgs false
theorem rnum_calls (n : Int) (w : World) : Calls Try.prog 23 #[.int .i64 n] w fun e w' => e = .returned (.bool (isB n 0)) ∧ w = w' := by
  by_cases h : 0 ≤ n
  · have hd : isB n 0 = decide (n < 128) := by
      unfold isB; simp [h]; omega
    rw [hd]
    clear hd
    go_enter Try.func23, Try.ntmps23
    go_wp2_with fail
    go_ret
    exact ⟨rfl, rfl⟩
  · have hd : isB n 0 = false := by unfold isB; simp [h]
    rw [hd]
    have h2 : decide (0 ≤ n) = false := by simpa using h
    clear hd h
    go_enter Try.func23, Try.ntmps23
    go_wp2_with fail
    go_ret
    exact ⟨rfl, rfl⟩
theorem rpart_calls (co am it : Int) (w : World) : Calls Try.prog 24 #[.agg #[.int .i64 co, .int .u64 am, .int .i64 it]] w fun e w' => e = .returned (.bool (isB co 0 && isB it (-1))) ∧ Below w.heap.size w w' := by
  have hA := blk_new w (.cells #[.int .i64 co, .int .u64 am, .int .i64 it] 26)
  have hBA := below_alloc (Below.refl w.heap.size w) (.cells #[.int .i64 co, .int .u64 am, .int .i64 it] 26)
  obtain ⟨r, hr⟩ : ∃ r, w.heap.size = r := ⟨_, rfl⟩
  obtain ⟨w1, hw1⟩ : ∃ w1, w.alloc (.cells #[.int .i64 co, .int .u64 am, .int .i64 it] 26) = w1 := ⟨_, rfl⟩
  rw [hw1] at hA hBA
  rw [hr] at hA
  have y0 : w1.cell? ⟨r, 0, none⟩ = some (.int .i64 co) := blk_cell hA 0
  have y2 : w1.cell? ⟨r, 2, none⟩ = some (.int .i64 it) := blk_cell hA 2
  have HB := Aside0.mk hBA
  clear hA hBA
  obtain ⟨b, hb⟩ : ∃ b, isB co 0 = b := ⟨_, rfl⟩
  rw [hb]
  have Hb := Aside0.mk hb
  clear hb
  cases b with
  | false =>
    rw [Bool.false_and]
    go_enter Try.func24, Try.ntmps24
    go_wp2_with fail
    refine (rnum_calls co w1).mono ?_
    rintro e w' ⟨rfl, rfl⟩
    rw [Hb.out]
    go_wp2_with fail
    go_ret
    exact ⟨rfl, HB.out⟩
  | true =>
    rw [Bool.true_and]
    by_cases h : -1 ≤ it
    · have hd : isB it (-1) = decide (it < 128) := by
        unfold isB; simp [h]; omega
      rw [hd]
      clear hd
      go_enter Try.func24, Try.ntmps24
      go_wp2_with fail
      refine (rnum_calls co w1).mono ?_
      rintro e w' ⟨rfl, rfl⟩
      rw [Hb.out]
      go_wp2_with fail
      go_ret
      exact ⟨rfl, HB.out⟩
    · have hd : isB it (-1) = false := by unfold isB; simp [h]
      rw [hd]
      have h2 : decide (-1 ≤ it) = false := by simpa using h
      clear hd h
      go_enter Try.func24, Try.ntmps24
      go_wp2_with fail
      refine (rnum_calls co w1).mono ?_
      rintro e w' ⟨rfl, rfl⟩
      rw [Hb.out]
      go_wp2_with fail
      go_ret
      exact ⟨rfl, HB.out⟩
def byteN (n : Int) : Int := if n < 0 then 255 else n % 256
theorem byte1_calls (n : Int) (w : World) : Calls Try.prog 46 #[.int .i64 n] w fun e w' => e = .returned (.int .u8 (byteN n)) ∧ w = w' := by
  by_cases h : n < 0
  · rw [show byteN n = 255 from if_pos h]
    go_enter Try.func46, Try.ntmps46
    go_wp2_with fail
    go_ret
    exact ⟨rfl, rfl⟩
  · rw [show byteN n = n % 256 from if_neg h]
    go_enter Try.func46, Try.ntmps46
    go_wp2_with fail
    go_ret
    exact ⟨rfl, rfl⟩
end Go.Proofs.Ytfaicipochceeaa.Giv
