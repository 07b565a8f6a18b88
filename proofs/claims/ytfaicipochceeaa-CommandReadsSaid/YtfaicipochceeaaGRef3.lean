/- The reference: the fields of an operation. -/
import Derived.Test.YtfaicipochceeaaGForms
namespace Go.Proofs.Ytfaicipochceeaa.Giv
open Go.Lib Go.RowKit Go.Proofs.YtfaicipochceeaaW.PrintWords Go.Proofs.YtfaicipochceeaaW.PrintLast Go.Proofs.YtfaicipochceeaaW.PrintMore
set_option linter.unusedVariables false
set_option linter.unusedSimpArgs false
def fldA (n : Nat) : Array Value := ((fldL n).map (fun f : Nat => Value.int .i64 (f : Int))).toArray
/-- What Fields hands on: a row of numbers, or none. -/
def FldsP (w : World) (n : Nat) (e : Ending) (w' : World) : Prop :=
  ∃ A, e = .returned (.slice A (fldL n).length (fldL n).length) ∧ (fldL n = [] ∨ ∃ b, A = some ⟨b, 0, none⟩ ∧ w.heap.size ≤ b ∧ w'.heap[b]? = some (.cells (fldA n) 3 (0, 0))) ∧ Below w.heap.size w w'
theorem fldA_at {W : World} {b n : Nat} (h : W.heap[b]? = some (.cells (fldA n) 3 (0, 0))) (j : Nat) (hj : j < (fldL n).length) : W.cell? ⟨b, j, none⟩ = some (.int .i64 ((fldL n)[j] : Nat)) := by
  rw [blk_cell h]
  unfold fldA
  simp [hj]
set_option maxRecDepth 100000 in
theorem rF0 (w : World) : Calls Try.prog 21 #[.int .i64 0] w (FldsP w 0) := by
  go_enter Try.func21, Try.ntmps21
  go_wp2_with fail
  go_ret
  first
    | exact ⟨some ⟨w.heap.size, 0, none⟩, rfl, .inr ⟨_, rfl, Nat.le_refl _, blk_new _ _⟩, below_alloc (Below.refl _ _) _⟩
    | exact ⟨none, rfl, .inl rfl, Below.refl _ _⟩
set_option maxRecDepth 100000 in
theorem rF1 (w : World) : Calls Try.prog 21 #[.int .i64 1] w (FldsP w 1) := by
  go_enter Try.func21, Try.ntmps21
  go_wp2_with fail
  go_ret
  first
    | exact ⟨some ⟨w.heap.size, 0, none⟩, rfl, .inr ⟨_, rfl, Nat.le_refl _, blk_new _ _⟩, below_alloc (Below.refl _ _) _⟩
    | exact ⟨none, rfl, .inl rfl, Below.refl _ _⟩
set_option maxRecDepth 100000 in
theorem rF2 (w : World) : Calls Try.prog 21 #[.int .i64 2] w (FldsP w 2) := by
  go_enter Try.func21, Try.ntmps21
  go_wp2_with fail
  go_ret
  first
    | exact ⟨some ⟨w.heap.size, 0, none⟩, rfl, .inr ⟨_, rfl, Nat.le_refl _, blk_new _ _⟩, below_alloc (Below.refl _ _) _⟩
    | exact ⟨none, rfl, .inl rfl, Below.refl _ _⟩
set_option maxRecDepth 100000 in
theorem rF3 (w : World) : Calls Try.prog 21 #[.int .i64 3] w (FldsP w 3) := by
  go_enter Try.func21, Try.ntmps21
  go_wp2_with fail
  go_ret
  first
    | exact ⟨some ⟨w.heap.size, 0, none⟩, rfl, .inr ⟨_, rfl, Nat.le_refl _, blk_new _ _⟩, below_alloc (Below.refl _ _) _⟩
    | exact ⟨none, rfl, .inl rfl, Below.refl _ _⟩
set_option maxRecDepth 100000 in
theorem rF4 (w : World) : Calls Try.prog 21 #[.int .i64 4] w (FldsP w 4) := by
  go_enter Try.func21, Try.ntmps21
  go_wp2_with fail
  go_ret
  first
    | exact ⟨some ⟨w.heap.size, 0, none⟩, rfl, .inr ⟨_, rfl, Nat.le_refl _, blk_new _ _⟩, below_alloc (Below.refl _ _) _⟩
    | exact ⟨none, rfl, .inl rfl, Below.refl _ _⟩
set_option maxRecDepth 100000 in
theorem rF5 (w : World) : Calls Try.prog 21 #[.int .i64 5] w (FldsP w 5) := by
  go_enter Try.func21, Try.ntmps21
  go_wp2_with fail
  go_ret
  first
    | exact ⟨some ⟨w.heap.size, 0, none⟩, rfl, .inr ⟨_, rfl, Nat.le_refl _, blk_new _ _⟩, below_alloc (Below.refl _ _) _⟩
    | exact ⟨none, rfl, .inl rfl, Below.refl _ _⟩
set_option maxRecDepth 100000 in
theorem rF6 (w : World) : Calls Try.prog 21 #[.int .i64 6] w (FldsP w 6) := by
  go_enter Try.func21, Try.ntmps21
  go_wp2_with fail
  go_ret
  first
    | exact ⟨some ⟨w.heap.size, 0, none⟩, rfl, .inr ⟨_, rfl, Nat.le_refl _, blk_new _ _⟩, below_alloc (Below.refl _ _) _⟩
    | exact ⟨none, rfl, .inl rfl, Below.refl _ _⟩
set_option maxRecDepth 100000 in
theorem rF7 (w : World) : Calls Try.prog 21 #[.int .i64 7] w (FldsP w 7) := by
  go_enter Try.func21, Try.ntmps21
  go_wp2_with fail
  go_ret
  first
    | exact ⟨some ⟨w.heap.size, 0, none⟩, rfl, .inr ⟨_, rfl, Nat.le_refl _, blk_new _ _⟩, below_alloc (Below.refl _ _) _⟩
    | exact ⟨none, rfl, .inl rfl, Below.refl _ _⟩
set_option maxRecDepth 100000 in
theorem rF8 (w : World) : Calls Try.prog 21 #[.int .i64 8] w (FldsP w 8) := by
  go_enter Try.func21, Try.ntmps21
  go_wp2_with fail
  go_ret
  first
    | exact ⟨some ⟨w.heap.size, 0, none⟩, rfl, .inr ⟨_, rfl, Nat.le_refl _, blk_new _ _⟩, below_alloc (Below.refl _ _) _⟩
    | exact ⟨none, rfl, .inl rfl, Below.refl _ _⟩
set_option maxRecDepth 100000 in
theorem rF9 (w : World) : Calls Try.prog 21 #[.int .i64 9] w (FldsP w 9) := by
  go_enter Try.func21, Try.ntmps21
  go_wp2_with fail
  go_ret
  first
    | exact ⟨some ⟨w.heap.size, 0, none⟩, rfl, .inr ⟨_, rfl, Nat.le_refl _, blk_new _ _⟩, below_alloc (Below.refl _ _) _⟩
    | exact ⟨none, rfl, .inl rfl, Below.refl _ _⟩
set_option maxRecDepth 100000 in
theorem rF10 (w : World) : Calls Try.prog 21 #[.int .i64 10] w (FldsP w 10) := by
  go_enter Try.func21, Try.ntmps21
  go_wp2_with fail
  go_ret
  first
    | exact ⟨some ⟨w.heap.size, 0, none⟩, rfl, .inr ⟨_, rfl, Nat.le_refl _, blk_new _ _⟩, below_alloc (Below.refl _ _) _⟩
    | exact ⟨none, rfl, .inl rfl, Below.refl _ _⟩
set_option maxRecDepth 100000 in
theorem rF11 (w : World) : Calls Try.prog 21 #[.int .i64 11] w (FldsP w 11) := by
  go_enter Try.func21, Try.ntmps21
  go_wp2_with fail
  go_ret
  first
    | exact ⟨some ⟨w.heap.size, 0, none⟩, rfl, .inr ⟨_, rfl, Nat.le_refl _, blk_new _ _⟩, below_alloc (Below.refl _ _) _⟩
    | exact ⟨none, rfl, .inl rfl, Below.refl _ _⟩
set_option maxRecDepth 100000 in
theorem rF12 (w : World) : Calls Try.prog 21 #[.int .i64 12] w (FldsP w 12) := by
  go_enter Try.func21, Try.ntmps21
  go_wp2_with fail
  go_ret
  first
    | exact ⟨some ⟨w.heap.size, 0, none⟩, rfl, .inr ⟨_, rfl, Nat.le_refl _, blk_new _ _⟩, below_alloc (Below.refl _ _) _⟩
    | exact ⟨none, rfl, .inl rfl, Below.refl _ _⟩
set_option maxRecDepth 100000 in
theorem rF13 (w : World) : Calls Try.prog 21 #[.int .i64 13] w (FldsP w 13) := by
  go_enter Try.func21, Try.ntmps21
  go_wp2_with fail
  go_ret
  first
    | exact ⟨some ⟨w.heap.size, 0, none⟩, rfl, .inr ⟨_, rfl, Nat.le_refl _, blk_new _ _⟩, below_alloc (Below.refl _ _) _⟩
    | exact ⟨none, rfl, .inl rfl, Below.refl _ _⟩
set_option maxRecDepth 100000 in
theorem rF14 (w : World) : Calls Try.prog 21 #[.int .i64 14] w (FldsP w 14) := by
  go_enter Try.func21, Try.ntmps21
  go_wp2_with fail
  go_ret
  first
    | exact ⟨some ⟨w.heap.size, 0, none⟩, rfl, .inr ⟨_, rfl, Nat.le_refl _, blk_new _ _⟩, below_alloc (Below.refl _ _) _⟩
    | exact ⟨none, rfl, .inl rfl, Below.refl _ _⟩
set_option maxRecDepth 100000 in
theorem rF15 (w : World) : Calls Try.prog 21 #[.int .i64 15] w (FldsP w 15) := by
  go_enter Try.func21, Try.ntmps21
  go_wp2_with fail
  go_ret
  first
    | exact ⟨some ⟨w.heap.size, 0, none⟩, rfl, .inr ⟨_, rfl, Nat.le_refl _, blk_new _ _⟩, below_alloc (Below.refl _ _) _⟩
    | exact ⟨none, rfl, .inl rfl, Below.refl _ _⟩
set_option maxRecDepth 100000 in
theorem rF16 (w : World) : Calls Try.prog 21 #[.int .i64 16] w (FldsP w 16) := by
  go_enter Try.func21, Try.ntmps21
  go_wp2_with fail
  go_ret
  first
    | exact ⟨some ⟨w.heap.size, 0, none⟩, rfl, .inr ⟨_, rfl, Nat.le_refl _, blk_new _ _⟩, below_alloc (Below.refl _ _) _⟩
    | exact ⟨none, rfl, .inl rfl, Below.refl _ _⟩
set_option maxRecDepth 100000 in
theorem rF17 (w : World) : Calls Try.prog 21 #[.int .i64 17] w (FldsP w 17) := by
  go_enter Try.func21, Try.ntmps21
  go_wp2_with fail
  go_ret
  first
    | exact ⟨some ⟨w.heap.size, 0, none⟩, rfl, .inr ⟨_, rfl, Nat.le_refl _, blk_new _ _⟩, below_alloc (Below.refl _ _) _⟩
    | exact ⟨none, rfl, .inl rfl, Below.refl _ _⟩
set_option maxRecDepth 100000 in
theorem rF18 (w : World) : Calls Try.prog 21 #[.int .i64 18] w (FldsP w 18) := by
  go_enter Try.func21, Try.ntmps21
  go_wp2_with fail
  go_ret
  first
    | exact ⟨some ⟨w.heap.size, 0, none⟩, rfl, .inr ⟨_, rfl, Nat.le_refl _, blk_new _ _⟩, below_alloc (Below.refl _ _) _⟩
    | exact ⟨none, rfl, .inl rfl, Below.refl _ _⟩
set_option maxRecDepth 100000 in
theorem rF19 (w : World) : Calls Try.prog 21 #[.int .i64 19] w (FldsP w 19) := by
  go_enter Try.func21, Try.ntmps21
  go_wp2_with fail
  go_ret
  first
    | exact ⟨some ⟨w.heap.size, 0, none⟩, rfl, .inr ⟨_, rfl, Nat.le_refl _, blk_new _ _⟩, below_alloc (Below.refl _ _) _⟩
    | exact ⟨none, rfl, .inl rfl, Below.refl _ _⟩
set_option maxRecDepth 100000 in
theorem rF20 (w : World) : Calls Try.prog 21 #[.int .i64 20] w (FldsP w 20) := by
  go_enter Try.func21, Try.ntmps21
  go_wp2_with fail
  go_ret
  first
    | exact ⟨some ⟨w.heap.size, 0, none⟩, rfl, .inr ⟨_, rfl, Nat.le_refl _, blk_new _ _⟩, below_alloc (Below.refl _ _) _⟩
    | exact ⟨none, rfl, .inl rfl, Below.refl _ _⟩
set_option maxRecDepth 100000 in
theorem rF21 (w : World) : Calls Try.prog 21 #[.int .i64 21] w (FldsP w 21) := by
  go_enter Try.func21, Try.ntmps21
  go_wp2_with fail
  go_ret
  first
    | exact ⟨some ⟨w.heap.size, 0, none⟩, rfl, .inr ⟨_, rfl, Nat.le_refl _, blk_new _ _⟩, below_alloc (Below.refl _ _) _⟩
    | exact ⟨none, rfl, .inl rfl, Below.refl _ _⟩
set_option maxRecDepth 100000 in
theorem rF22 (w : World) : Calls Try.prog 21 #[.int .i64 22] w (FldsP w 22) := by
  go_enter Try.func21, Try.ntmps21
  go_wp2_with fail
  go_ret
  first
    | exact ⟨some ⟨w.heap.size, 0, none⟩, rfl, .inr ⟨_, rfl, Nat.le_refl _, blk_new _ _⟩, below_alloc (Below.refl _ _) _⟩
    | exact ⟨none, rfl, .inl rfl, Below.refl _ _⟩
set_option maxRecDepth 100000 in
theorem rF23 (w : World) : Calls Try.prog 21 #[.int .i64 23] w (FldsP w 23) := by
  go_enter Try.func21, Try.ntmps21
  go_wp2_with fail
  go_ret
  first
    | exact ⟨some ⟨w.heap.size, 0, none⟩, rfl, .inr ⟨_, rfl, Nat.le_refl _, blk_new _ _⟩, below_alloc (Below.refl _ _) _⟩
    | exact ⟨none, rfl, .inl rfl, Below.refl _ _⟩
set_option maxRecDepth 100000 in
theorem rF24 (w : World) : Calls Try.prog 21 #[.int .i64 24] w (FldsP w 24) := by
  go_enter Try.func21, Try.ntmps21
  go_wp2_with fail
  go_ret
  first
    | exact ⟨some ⟨w.heap.size, 0, none⟩, rfl, .inr ⟨_, rfl, Nat.le_refl _, blk_new _ _⟩, below_alloc (Below.refl _ _) _⟩
    | exact ⟨none, rfl, .inl rfl, Below.refl _ _⟩
set_option maxRecDepth 100000 in
theorem rF25 (w : World) : Calls Try.prog 21 #[.int .i64 25] w (FldsP w 25) := by
  go_enter Try.func21, Try.ntmps21
  go_wp2_with fail
  go_ret
  first
    | exact ⟨some ⟨w.heap.size, 0, none⟩, rfl, .inr ⟨_, rfl, Nat.le_refl _, blk_new _ _⟩, below_alloc (Below.refl _ _) _⟩
    | exact ⟨none, rfl, .inl rfl, Below.refl _ _⟩
set_option maxRecDepth 100000 in
theorem rF26 (w : World) : Calls Try.prog 21 #[.int .i64 26] w (FldsP w 26) := by
  go_enter Try.func21, Try.ntmps21
  go_wp2_with fail
  go_ret
  first
    | exact ⟨some ⟨w.heap.size, 0, none⟩, rfl, .inr ⟨_, rfl, Nat.le_refl _, blk_new _ _⟩, below_alloc (Below.refl _ _) _⟩
    | exact ⟨none, rfl, .inl rfl, Below.refl _ _⟩
set_option maxRecDepth 100000 in
theorem rF27 (w : World) : Calls Try.prog 21 #[.int .i64 27] w (FldsP w 27) := by
  go_enter Try.func21, Try.ntmps21
  go_wp2_with fail
  go_ret
  first
    | exact ⟨some ⟨w.heap.size, 0, none⟩, rfl, .inr ⟨_, rfl, Nat.le_refl _, blk_new _ _⟩, below_alloc (Below.refl _ _) _⟩
    | exact ⟨none, rfl, .inl rfl, Below.refl _ _⟩
set_option maxRecDepth 100000 in
theorem rF28 (w : World) : Calls Try.prog 21 #[.int .i64 28] w (FldsP w 28) := by
  go_enter Try.func21, Try.ntmps21
  go_wp2_with fail
  go_ret
  first
    | exact ⟨some ⟨w.heap.size, 0, none⟩, rfl, .inr ⟨_, rfl, Nat.le_refl _, blk_new _ _⟩, below_alloc (Below.refl _ _) _⟩
    | exact ⟨none, rfl, .inl rfl, Below.refl _ _⟩
set_option maxRecDepth 100000 in
theorem rF29 (w : World) : Calls Try.prog 21 #[.int .i64 29] w (FldsP w 29) := by
  go_enter Try.func21, Try.ntmps21
  go_wp2_with fail
  go_ret
  first
    | exact ⟨some ⟨w.heap.size, 0, none⟩, rfl, .inr ⟨_, rfl, Nat.le_refl _, blk_new _ _⟩, below_alloc (Below.refl _ _) _⟩
    | exact ⟨none, rfl, .inl rfl, Below.refl _ _⟩
set_option maxRecDepth 100000 in
theorem rF30 (w : World) : Calls Try.prog 21 #[.int .i64 30] w (FldsP w 30) := by
  go_enter Try.func21, Try.ntmps21
  go_wp2_with fail
  go_ret
  first
    | exact ⟨some ⟨w.heap.size, 0, none⟩, rfl, .inr ⟨_, rfl, Nat.le_refl _, blk_new _ _⟩, below_alloc (Below.refl _ _) _⟩
    | exact ⟨none, rfl, .inl rfl, Below.refl _ _⟩
set_option maxRecDepth 100000 in
theorem rF31 (w : World) : Calls Try.prog 21 #[.int .i64 31] w (FldsP w 31) := by
  go_enter Try.func21, Try.ntmps21
  go_wp2_with fail
  go_ret
  first
    | exact ⟨some ⟨w.heap.size, 0, none⟩, rfl, .inr ⟨_, rfl, Nat.le_refl _, blk_new _ _⟩, below_alloc (Below.refl _ _) _⟩
    | exact ⟨none, rfl, .inl rfl, Below.refl _ _⟩
set_option maxRecDepth 100000 in
theorem rF32 (w : World) : Calls Try.prog 21 #[.int .i64 32] w (FldsP w 32) := by
  go_enter Try.func21, Try.ntmps21
  go_wp2_with fail
  go_ret
  first
    | exact ⟨some ⟨w.heap.size, 0, none⟩, rfl, .inr ⟨_, rfl, Nat.le_refl _, blk_new _ _⟩, below_alloc (Below.refl _ _) _⟩
    | exact ⟨none, rfl, .inl rfl, Below.refl _ _⟩
set_option maxRecDepth 100000 in
theorem rF33 (w : World) : Calls Try.prog 21 #[.int .i64 33] w (FldsP w 33) := by
  go_enter Try.func21, Try.ntmps21
  go_wp2_with fail
  go_ret
  first
    | exact ⟨some ⟨w.heap.size, 0, none⟩, rfl, .inr ⟨_, rfl, Nat.le_refl _, blk_new _ _⟩, below_alloc (Below.refl _ _) _⟩
    | exact ⟨none, rfl, .inl rfl, Below.refl _ _⟩
set_option maxRecDepth 100000 in
theorem rF34 (w : World) : Calls Try.prog 21 #[.int .i64 34] w (FldsP w 34) := by
  go_enter Try.func21, Try.ntmps21
  go_wp2_with fail
  go_ret
  first
    | exact ⟨some ⟨w.heap.size, 0, none⟩, rfl, .inr ⟨_, rfl, Nat.le_refl _, blk_new _ _⟩, below_alloc (Below.refl _ _) _⟩
    | exact ⟨none, rfl, .inl rfl, Below.refl _ _⟩
set_option maxRecDepth 100000 in
theorem rF35 (w : World) : Calls Try.prog 21 #[.int .i64 35] w (FldsP w 35) := by
  go_enter Try.func21, Try.ntmps21
  go_wp2_with fail
  go_ret
  first
    | exact ⟨some ⟨w.heap.size, 0, none⟩, rfl, .inr ⟨_, rfl, Nat.le_refl _, blk_new _ _⟩, below_alloc (Below.refl _ _) _⟩
    | exact ⟨none, rfl, .inl rfl, Below.refl _ _⟩
set_option maxRecDepth 100000 in
theorem rF36 (w : World) : Calls Try.prog 21 #[.int .i64 36] w (FldsP w 36) := by
  go_enter Try.func21, Try.ntmps21
  go_wp2_with fail
  go_ret
  first
    | exact ⟨some ⟨w.heap.size, 0, none⟩, rfl, .inr ⟨_, rfl, Nat.le_refl _, blk_new _ _⟩, below_alloc (Below.refl _ _) _⟩
    | exact ⟨none, rfl, .inl rfl, Below.refl _ _⟩
set_option maxRecDepth 100000 in
theorem rF37 (w : World) : Calls Try.prog 21 #[.int .i64 37] w (FldsP w 37) := by
  go_enter Try.func21, Try.ntmps21
  go_wp2_with fail
  go_ret
  first
    | exact ⟨some ⟨w.heap.size, 0, none⟩, rfl, .inr ⟨_, rfl, Nat.le_refl _, blk_new _ _⟩, below_alloc (Below.refl _ _) _⟩
    | exact ⟨none, rfl, .inl rfl, Below.refl _ _⟩
set_option maxRecDepth 100000 in
theorem rF38 (w : World) : Calls Try.prog 21 #[.int .i64 38] w (FldsP w 38) := by
  go_enter Try.func21, Try.ntmps21
  go_wp2_with fail
  go_ret
  first
    | exact ⟨some ⟨w.heap.size, 0, none⟩, rfl, .inr ⟨_, rfl, Nat.le_refl _, blk_new _ _⟩, below_alloc (Below.refl _ _) _⟩
    | exact ⟨none, rfl, .inl rfl, Below.refl _ _⟩
set_option maxRecDepth 100000 in
theorem rF39 (w : World) : Calls Try.prog 21 #[.int .i64 39] w (FldsP w 39) := by
  go_enter Try.func21, Try.ntmps21
  go_wp2_with fail
  go_ret
  first
    | exact ⟨some ⟨w.heap.size, 0, none⟩, rfl, .inr ⟨_, rfl, Nat.le_refl _, blk_new _ _⟩, below_alloc (Below.refl _ _) _⟩
    | exact ⟨none, rfl, .inl rfl, Below.refl _ _⟩
set_option maxRecDepth 100000 in
theorem rF40 (w : World) : Calls Try.prog 21 #[.int .i64 40] w (FldsP w 40) := by
  go_enter Try.func21, Try.ntmps21
  go_wp2_with fail
  go_ret
  first
    | exact ⟨some ⟨w.heap.size, 0, none⟩, rfl, .inr ⟨_, rfl, Nat.le_refl _, blk_new _ _⟩, below_alloc (Below.refl _ _) _⟩
    | exact ⟨none, rfl, .inl rfl, Below.refl _ _⟩
set_option maxRecDepth 100000 in
theorem rF41 (w : World) : Calls Try.prog 21 #[.int .i64 41] w (FldsP w 41) := by
  go_enter Try.func21, Try.ntmps21
  go_wp2_with fail
  go_ret
  first
    | exact ⟨some ⟨w.heap.size, 0, none⟩, rfl, .inr ⟨_, rfl, Nat.le_refl _, blk_new _ _⟩, below_alloc (Below.refl _ _) _⟩
    | exact ⟨none, rfl, .inl rfl, Below.refl _ _⟩
set_option maxRecDepth 100000 in
theorem rF42 (w : World) : Calls Try.prog 21 #[.int .i64 42] w (FldsP w 42) := by
  go_enter Try.func21, Try.ntmps21
  go_wp2_with fail
  go_ret
  first
    | exact ⟨some ⟨w.heap.size, 0, none⟩, rfl, .inr ⟨_, rfl, Nat.le_refl _, blk_new _ _⟩, below_alloc (Below.refl _ _) _⟩
    | exact ⟨none, rfl, .inl rfl, Below.refl _ _⟩
theorem RFields_calls (n : Nat) (hn : n < 43) (w : World) : Calls Try.prog 21 #[.int .i64 n] w (FldsP w n) := by
  have hi : n = 0 ∨ n = 1 ∨ n = 2 ∨ n = 3 ∨ n = 4 ∨ n = 5 ∨ n = 6 ∨ n = 7 ∨ n = 8 ∨ n = 9 ∨ n = 10 ∨ n = 11 ∨ n = 12 ∨ n = 13 ∨ n = 14 ∨ n = 15 ∨ n = 16 ∨ n = 17 ∨ n = 18 ∨ n = 19 ∨ n = 20 ∨ n = 21 ∨ n = 22 ∨ n = 23 ∨ n = 24 ∨ n = 25 ∨ n = 26 ∨ n = 27 ∨ n = 28 ∨ n = 29 ∨ n = 30 ∨ n = 31 ∨ n = 32 ∨ n = 33 ∨ n = 34 ∨ n = 35 ∨ n = 36 ∨ n = 37 ∨ n = 38 ∨ n = 39 ∨ n = 40 ∨ n = 41 ∨ n = 42 := by omega
  rcases hi with rfl | rfl | rfl | rfl | rfl | rfl | rfl | rfl | rfl | rfl | rfl | rfl | rfl | rfl | rfl | rfl | rfl | rfl | rfl | rfl | rfl | rfl | rfl | rfl | rfl | rfl | rfl | rfl | rfl | rfl | rfl | rfl | rfl | rfl | rfl | rfl | rfl | rfl | rfl | rfl | rfl | rfl | rfl
  · exact rF0 w
  · exact rF1 w
  · exact rF2 w
  · exact rF3 w
  · exact rF4 w
  · exact rF5 w
  · exact rF6 w
  · exact rF7 w
  · exact rF8 w
  · exact rF9 w
  · exact rF10 w
  · exact rF11 w
  · exact rF12 w
  · exact rF13 w
  · exact rF14 w
  · exact rF15 w
  · exact rF16 w
  · exact rF17 w
  · exact rF18 w
  · exact rF19 w
  · exact rF20 w
  · exact rF21 w
  · exact rF22 w
  · exact rF23 w
  · exact rF24 w
  · exact rF25 w
  · exact rF26 w
  · exact rF27 w
  · exact rF28 w
  · exact rF29 w
  · exact rF30 w
  · exact rF31 w
  · exact rF32 w
  · exact rF33 w
  · exact rF34 w
  · exact rF35 w
  · exact rF36 w
  · exact rF37 w
  · exact rF38 w
  · exact rF39 w
  · exact rF40 w
  · exact rF41 w
  · exact rF42 w
end Go.Proofs.Ytfaicipochceeaa.Giv
