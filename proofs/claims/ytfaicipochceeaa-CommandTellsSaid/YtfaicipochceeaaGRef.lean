/- The reference: names and operations. -/
import Derived.Test.YtfaicipochceeaaGOp
namespace Go.Proofs.Ytfaicipochceeaa.Giv
open Go.Lib Go.RowKit Go.Proofs.YtfaicipochceeaaW.PrintWords Go.Proofs.YtfaicipochceeaaW.PrintLast Go.Proofs.YtfaicipochceeaaW.PrintMore
set_option linter.unusedVariables false
set_option linter.unusedSimpArgs false
def namesA : Array Value := #[.string (nameS 0), .string (nameS 1), .string (nameS 2), .string (nameS 3), .string (nameS 4), .string (nameS 5), .string (nameS 6), .string (nameS 7), .string (nameS 8), .string (nameS 9), .string (nameS 10), .string (nameS 11), .string (nameS 12), .string (nameS 13), .string (nameS 14), .string (nameS 15), .string (nameS 16), .string (nameS 17), .string (nameS 18), .string (nameS 19), .string (nameS 20), .string (nameS 21), .string (nameS 22), .string (nameS 23), .string (nameS 24), .string (nameS 25), .string (nameS 26), .string (nameS 27), .string (nameS 28), .string (nameS 29), .string (nameS 30), .string (nameS 31), .string (nameS 32), .string (nameS 33), .string (nameS 34), .string (nameS 35), .string (nameS 36), .string (nameS 37), .string (nameS 38), .string (nameS 39), .string (nameS 40), .string (nameS 41), .string (nameS 42)]
theorem names_at {W : World} {b : Nat} (h : W.heap[b]? = some (.cells namesA 9 (0, 0))) (i : Nat) (hi : i < 43) : W.cell? ⟨b, i, none⟩ = some (.string (nameS i)) := by
  rw [blk_cell h]
  have hi : i = 0 ∨ i = 1 ∨ i = 2 ∨ i = 3 ∨ i = 4 ∨ i = 5 ∨ i = 6 ∨ i = 7 ∨ i = 8 ∨ i = 9 ∨ i = 10 ∨ i = 11 ∨ i = 12 ∨ i = 13 ∨ i = 14 ∨ i = 15 ∨ i = 16 ∨ i = 17 ∨ i = 18 ∨ i = 19 ∨ i = 20 ∨ i = 21 ∨ i = 22 ∨ i = 23 ∨ i = 24 ∨ i = 25 ∨ i = 26 ∨ i = 27 ∨ i = 28 ∨ i = 29 ∨ i = 30 ∨ i = 31 ∨ i = 32 ∨ i = 33 ∨ i = 34 ∨ i = 35 ∨ i = 36 ∨ i = 37 ∨ i = 38 ∨ i = 39 ∨ i = 40 ∨ i = 41 ∨ i = 42 := by omega
  rcases hi with rfl | rfl | rfl | rfl | rfl | rfl | rfl | rfl | rfl | rfl | rfl | rfl | rfl | rfl | rfl | rfl | rfl | rfl | rfl | rfl | rfl | rfl | rfl | rfl | rfl | rfl | rfl | rfl | rfl | rfl | rfl | rfl | rfl | rfl | rfl | rfl | rfl | rfl | rfl | rfl | rfl | rfl | rfl <;> rfl
theorem nameO_in (n : Nat) (hn : n < 43) : nameO (n : Int) = nameS n := by
  unfold nameO isOpB
  cases n with
  | zero => rfl
  | succ k => rw [if_pos (by simp; omega)]; rfl
theorem nameO_out (op : Int) (h : op < 0 ∨ 43 ≤ op) : nameO op = ⟨#[]⟩ := by
  unfold nameO isOpB
  rw [if_neg (by simp; omega)]
set_option maxHeartbeats 4000000 in
set_option maxRecDepth 100000 in
theorem RName_calls (op : Int) (w : World) : Calls Try.prog 12 #[.int .i64 op] w fun e w' => e = .returned (.string (nameO op)) ∧ Below w.heap.size w w' := by
  have hn := blk_new w (.cells namesA 9)
  have hB := below_alloc (Below.refl w.heap.size w) (.cells namesA 9)
  obtain ⟨b, hb⟩ : ∃ b, w.heap.size = b := ⟨_, rfl⟩
  obtain ⟨w1, hw1⟩ : ∃ w1, w.alloc (.cells namesA 9) = w1 := ⟨_, rfl⟩
  rw [hw1] at hn hB
  rw [hb] at hn
  have HB := Aside0.mk hB
  have HN := Aside0.mk hn
  have HW := Aside0.mk hw1
  have Hb := Aside0.mk hb
  clear hn hB hw1 hb
  by_cases h1 : op < 0
  · rw [nameO_out op (.inl h1)]
    go_enter Try.func12, Try.ntmps12
    go_upto_region 2 with fail
    show Code.wp _ _ _ _ (w.alloc (.cells namesA 9))
    rw [HW.out, Hb.out]
    go_wp2_with fail
    go_ret
    exact ⟨rfl, HB.out⟩
  · by_cases h2 : 43 ≤ op
    · rw [nameO_out op (.inr h2)]
      have h3 : decide (op < 0) = false := by simpa using h1
      clear h1
      go_enter Try.func12, Try.ntmps12
      go_upto_region 2 with fail
      show Code.wp _ _ _ _ (w.alloc (.cells namesA 9))
      rw [HW.out, Hb.out]
      go_wp2_with fail
      go_ret
      exact ⟨rfl, HB.out⟩
    · obtain ⟨n, rfl⟩ := Int.eq_ofNat_of_zero_le (show 0 ≤ op by omega)
      have h3 : (0 : Int) ≤ (n : Int) := by omega
      have h4 : (n : Int) < 43 := by omega
      rw [nameO_in n (by omega)]
      have hx := names_at HN.out n (by omega)
      obtain ⟨s, hs⟩ : ∃ s, nameS n = s := ⟨_, rfl⟩
      rw [hs] at hx ⊢
      clear h1 h2 hs
      go_enter Try.func12, Try.ntmps12
      go_upto_region 2 with fail
      show Code.wp _ _ _ _ (w.alloc (.cells namesA 9))
      rw [HW.out, Hb.out]
      go_wp2_with fail
      go_ret
      exact ⟨rfl, HB.out⟩
theorem names_ne (i : Nat) (h1 : 1 ≤ i) (hi : i < 43) : nameS i ≠ ⟨#[]⟩ := by
  have hi : i = 0 ∨ i = 1 ∨ i = 2 ∨ i = 3 ∨ i = 4 ∨ i = 5 ∨ i = 6 ∨ i = 7 ∨ i = 8 ∨ i = 9 ∨ i = 10 ∨ i = 11 ∨ i = 12 ∨ i = 13 ∨ i = 14 ∨ i = 15 ∨ i = 16 ∨ i = 17 ∨ i = 18 ∨ i = 19 ∨ i = 20 ∨ i = 21 ∨ i = 22 ∨ i = 23 ∨ i = 24 ∨ i = 25 ∨ i = 26 ∨ i = 27 ∨ i = 28 ∨ i = 29 ∨ i = 30 ∨ i = 31 ∨ i = 32 ∨ i = 33 ∨ i = 34 ∨ i = 35 ∨ i = 36 ∨ i = 37 ∨ i = 38 ∨ i = 39 ∨ i = 40 ∨ i = 41 ∨ i = 42 := by omega
  rcases hi with rfl | rfl | rfl | rfl | rfl | rfl | rfl | rfl | rfl | rfl | rfl | rfl | rfl | rfl | rfl | rfl | rfl | rfl | rfl | rfl | rfl | rfl | rfl | rfl | rfl | rfl | rfl | rfl | rfl | rfl | rfl | rfl | rfl | rfl | rfl | rfl | rfl | rfl | rfl | rfl | rfl | rfl | rfl
  · omega
  all_goals (intro h; have := congrArg ByteArray.size h; revert this; decide)

end Go.Proofs.Ytfaicipochceeaa.Giv
