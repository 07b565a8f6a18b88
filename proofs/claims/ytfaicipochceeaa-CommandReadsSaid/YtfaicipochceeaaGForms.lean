/- The table of operations; which there are, and their names. -/
import Derived.Test.YtfaicipochceeaaGCmd
namespace Go.Proofs.Ytfaicipochceeaa.Giv
open Go.RowKit Go.Proofs.YtfaicipochceeaaW.PrintWords Go.Proofs.YtfaicipochceeaaW.PrintLast Go.Proofs.YtfaicipochceeaaW.PrintMore
set_option linter.unusedVariables false
set_option linter.unusedSimpArgs false
def nameS : Nat → ByteArray
  | 1 => ⟨#[108, 111, 103, 105, 110]⟩
  | 2 => ⟨#[108, 111, 103, 111, 117, 116]⟩
  | 3 => ⟨#[108, 111, 111, 107]⟩
  | 4 => ⟨#[119, 104, 111]⟩
  | 5 => ⟨#[103, 111]⟩
  | 6 => ⟨#[100, 105, 103]⟩
  | 7 => ⟨#[108, 105, 110, 107]⟩
  | 8 => ⟨#[99, 108, 111, 115, 101]⟩
  | 9 => ⟨#[114, 111, 111, 109, 115]⟩
  | 10 => ⟨#[109, 97, 107, 101]⟩
  | 11 => ⟨#[115, 99, 114, 97, 112]⟩
  | 12 => ⟨#[100, 114, 111, 112]⟩
  | 13 => ⟨#[116, 97, 107, 101]⟩
  | 14 => ⟨#[112, 97, 115, 115]⟩
  | 15 => ⟨#[98, 97, 103]⟩
  | 16 => ⟨#[116, 104, 105, 110, 103, 115]⟩
  | 17 => ⟨#[109, 105, 110, 116]⟩
  | 18 => ⟨#[98, 117, 114, 110]⟩
  | 19 => ⟨#[112, 97, 121]⟩
  | 20 => ⟨#[108, 105, 102, 116]⟩
  | 21 => ⟨#[112, 117, 114, 115, 101]⟩
  | 22 => ⟨#[109, 97, 105, 108]⟩
  | 23 => ⟨#[109, 97, 105, 108, 115]⟩
  | 24 => ⟨#[108, 101, 116, 116, 101, 114]⟩
  | 25 => ⟨#[116, 111, 115, 115]⟩
  | 26 => ⟨#[115, 97, 121]⟩
  | 27 => ⟨#[115, 104, 111, 117, 116]⟩
  | 28 => ⟨#[105, 110, 118, 105, 116, 101]⟩
  | 29 => ⟨#[114, 97, 105, 115, 101]⟩
  | 30 => ⟨#[101, 120, 112, 101, 108]⟩
  | 31 => ⟨#[109, 101, 109, 98, 101, 114, 115]⟩
  | 32 => ⟨#[111, 102, 102, 101, 114]⟩
  | 33 => ⟨#[97, 99, 99, 101, 112, 116]⟩
  | 34 => ⟨#[114, 101, 102, 117, 115, 101]⟩
  | 35 => ⟨#[116, 114, 97, 100, 101, 115]⟩
  | 36 => ⟨#[116, 114, 97, 100, 101]⟩
  | 37 => ⟨#[112, 111, 115, 116]⟩
  | 38 => ⟨#[112, 117, 108, 108]⟩
  | 39 => ⟨#[98, 111, 111, 107]⟩
  | 40 => ⟨#[111, 114, 100, 101, 114]⟩
  | 41 => ⟨#[97, 117, 100, 105, 116, 115]⟩
  | 42 => ⟨#[101, 110, 116, 114, 121]⟩
  | _ => ⟨#[]⟩
def fldS : Nat → ByteArray
  | 1 => ⟨#[110, 116]⟩
  | 5 => ⟨#[100]⟩
  | 6 => ⟨#[110]⟩
  | 7 => ⟨#[100, 114]⟩
  | 8 => ⟨#[100]⟩
  | 10 => ⟨#[110]⟩
  | 11 => ⟨#[115]⟩
  | 12 => ⟨#[115]⟩
  | 13 => ⟨#[115]⟩
  | 14 => ⟨#[115, 119]⟩
  | 17 => ⟨#[99, 97]⟩
  | 18 => ⟨#[99, 97]⟩
  | 19 => ⟨#[119, 99, 97]⟩
  | 20 => ⟨#[108, 119, 99, 97]⟩
  | 22 => ⟨#[108, 119, 116]⟩
  | 24 => ⟨#[115]⟩
  | 25 => ⟨#[115]⟩
  | 26 => ⟨#[116]⟩
  | 27 => ⟨#[115, 116]⟩
  | 28 => ⟨#[119]⟩
  | 29 => ⟨#[119]⟩
  | 30 => ⟨#[119]⟩
  | 31 => ⟨#[115]⟩
  | 32 => ⟨#[119, 103, 118]⟩
  | 33 => ⟨#[115]⟩
  | 34 => ⟨#[115]⟩
  | 36 => ⟨#[115]⟩
  | 37 => ⟨#[105, 98, 113, 107, 112]⟩
  | 38 => ⟨#[115]⟩
  | 40 => ⟨#[115]⟩
  | 42 => ⟨#[115]⟩
  | _ => ⟨#[]⟩
/-- The fields of an operation, by their numbers. -/
def fldL : Nat → List Nat
  | 1 => [1, 2]
  | 5 => [7]
  | 6 => [1]
  | 7 => [7, 3]
  | 8 => [7]
  | 10 => [1]
  | 11 => [6]
  | 12 => [6]
  | 13 => [6]
  | 14 => [6, 5]
  | 17 => [8, 9]
  | 18 => [8, 9]
  | 19 => [5, 8, 9]
  | 20 => [4, 5, 8, 9]
  | 22 => [4, 5, 2]
  | 24 => [6]
  | 25 => [6]
  | 26 => [2]
  | 27 => [6, 2]
  | 28 => [5]
  | 29 => [5]
  | 30 => [5]
  | 31 => [6]
  | 32 => [5, 10, 11]
  | 33 => [6]
  | 34 => [6]
  | 36 => [6]
  | 37 => [12, 13, 14, 15, 16]
  | 38 => [6]
  | 40 => [6]
  | 42 => [6]
  | _ => []
def formsA : Array Value := #[.string ⟨#[]⟩, .string ⟨#[]⟩, .string ⟨#[108, 111, 103, 105, 110]⟩, .string ⟨#[110, 116]⟩, .string ⟨#[108, 111, 103, 111, 117, 116]⟩, .string ⟨#[]⟩, .string ⟨#[108, 111, 111, 107]⟩, .string ⟨#[]⟩, .string ⟨#[119, 104, 111]⟩, .string ⟨#[]⟩, .string ⟨#[103, 111]⟩, .string ⟨#[100]⟩, .string ⟨#[100, 105, 103]⟩, .string ⟨#[110]⟩, .string ⟨#[108, 105, 110, 107]⟩, .string ⟨#[100, 114]⟩, .string ⟨#[99, 108, 111, 115, 101]⟩, .string ⟨#[100]⟩, .string ⟨#[114, 111, 111, 109, 115]⟩, .string ⟨#[]⟩, .string ⟨#[109, 97, 107, 101]⟩, .string ⟨#[110]⟩, .string ⟨#[115, 99, 114, 97, 112]⟩, .string ⟨#[115]⟩, .string ⟨#[100, 114, 111, 112]⟩, .string ⟨#[115]⟩, .string ⟨#[116, 97, 107, 101]⟩, .string ⟨#[115]⟩, .string ⟨#[112, 97, 115, 115]⟩, .string ⟨#[115, 119]⟩, .string ⟨#[98, 97, 103]⟩, .string ⟨#[]⟩, .string ⟨#[116, 104, 105, 110, 103, 115]⟩, .string ⟨#[]⟩, .string ⟨#[109, 105, 110, 116]⟩, .string ⟨#[99, 97]⟩, .string ⟨#[98, 117, 114, 110]⟩, .string ⟨#[99, 97]⟩, .string ⟨#[112, 97, 121]⟩, .string ⟨#[119, 99, 97]⟩, .string ⟨#[108, 105, 102, 116]⟩, .string ⟨#[108, 119, 99, 97]⟩, .string ⟨#[112, 117, 114, 115, 101]⟩, .string ⟨#[]⟩, .string ⟨#[109, 97, 105, 108]⟩, .string ⟨#[108, 119, 116]⟩, .string ⟨#[109, 97, 105, 108, 115]⟩, .string ⟨#[]⟩, .string ⟨#[108, 101, 116, 116, 101, 114]⟩, .string ⟨#[115]⟩, .string ⟨#[116, 111, 115, 115]⟩, .string ⟨#[115]⟩, .string ⟨#[115, 97, 121]⟩, .string ⟨#[116]⟩, .string ⟨#[115, 104, 111, 117, 116]⟩, .string ⟨#[115, 116]⟩, .string ⟨#[105, 110, 118, 105, 116, 101]⟩, .string ⟨#[119]⟩, .string ⟨#[114, 97, 105, 115, 101]⟩, .string ⟨#[119]⟩, .string ⟨#[101, 120, 112, 101, 108]⟩, .string ⟨#[119]⟩, .string ⟨#[109, 101, 109, 98, 101, 114, 115]⟩, .string ⟨#[115]⟩, .string ⟨#[111, 102, 102, 101, 114]⟩, .string ⟨#[119, 103, 118]⟩, .string ⟨#[97, 99, 99, 101, 112, 116]⟩, .string ⟨#[115]⟩, .string ⟨#[114, 101, 102, 117, 115, 101]⟩, .string ⟨#[115]⟩, .string ⟨#[116, 114, 97, 100, 101, 115]⟩, .string ⟨#[]⟩, .string ⟨#[116, 114, 97, 100, 101]⟩, .string ⟨#[115]⟩, .string ⟨#[112, 111, 115, 116]⟩, .string ⟨#[105, 98, 113, 107, 112]⟩, .string ⟨#[112, 117, 108, 108]⟩, .string ⟨#[115]⟩, .string ⟨#[98, 111, 111, 107]⟩, .string ⟨#[]⟩, .string ⟨#[111, 114, 100, 101, 114]⟩, .string ⟨#[115]⟩, .string ⟨#[97, 117, 100, 105, 116, 115]⟩, .string ⟨#[]⟩, .string ⟨#[101, 110, 116, 114, 121]⟩, .string ⟨#[115]⟩]
theorem forms_at {W : World} {b : Nat} (h : W.heap[b]? = some (.cells formsA 43 (0, 0))) (i : Nat) (hi : i < 43) : W.cell? ⟨b, i * 2, none⟩ = some (.string (nameS i)) ∧ W.cell? ⟨b, i * 2 + 1, none⟩ = some (.string (fldS i)) := by
  rw [blk_cell h, blk_cell h]
  have hi : i = 0 ∨ i = 1 ∨ i = 2 ∨ i = 3 ∨ i = 4 ∨ i = 5 ∨ i = 6 ∨ i = 7 ∨ i = 8 ∨ i = 9 ∨ i = 10 ∨ i = 11 ∨ i = 12 ∨ i = 13 ∨ i = 14 ∨ i = 15 ∨ i = 16 ∨ i = 17 ∨ i = 18 ∨ i = 19 ∨ i = 20 ∨ i = 21 ∨ i = 22 ∨ i = 23 ∨ i = 24 ∨ i = 25 ∨ i = 26 ∨ i = 27 ∨ i = 28 ∨ i = 29 ∨ i = 30 ∨ i = 31 ∨ i = 32 ∨ i = 33 ∨ i = 34 ∨ i = 35 ∨ i = 36 ∨ i = 37 ∨ i = 38 ∨ i = 39 ∨ i = 40 ∨ i = 41 ∨ i = 42 := by omega
  rcases hi with rfl | rfl | rfl | rfl | rfl | rfl | rfl | rfl | rfl | rfl | rfl | rfl | rfl | rfl | rfl | rfl | rfl | rfl | rfl | rfl | rfl | rfl | rfl | rfl | rfl | rfl | rfl | rfl | rfl | rfl | rfl | rfl | rfl | rfl | rfl | rfl | rfl | rfl | rfl | rfl | rfl | rfl | rfl <;> exact ⟨rfl, rfl⟩
theorem fld_ok (i : Nat) : ∀ f ∈ fldL i, 1 ≤ f ∧ f ≤ 16 := by
  intro f hf
  unfold fldL at hf
  split at hf <;> simp at hf <;> omega
theorem fld_eq (i : Nat) (hi : i < 43) : (fldS i).data.toList.map (fun b => (b.toNat : Int)) = (fldL i).map signOf := by
  have hi : i = 0 ∨ i = 1 ∨ i = 2 ∨ i = 3 ∨ i = 4 ∨ i = 5 ∨ i = 6 ∨ i = 7 ∨ i = 8 ∨ i = 9 ∨ i = 10 ∨ i = 11 ∨ i = 12 ∨ i = 13 ∨ i = 14 ∨ i = 15 ∨ i = 16 ∨ i = 17 ∨ i = 18 ∨ i = 19 ∨ i = 20 ∨ i = 21 ∨ i = 22 ∨ i = 23 ∨ i = 24 ∨ i = 25 ∨ i = 26 ∨ i = 27 ∨ i = 28 ∨ i = 29 ∨ i = 30 ∨ i = 31 ∨ i = 32 ∨ i = 33 ∨ i = 34 ∨ i = 35 ∨ i = 36 ∨ i = 37 ∨ i = 38 ∨ i = 39 ∨ i = 40 ∨ i = 41 ∨ i = 42 := by omega
  rcases hi with rfl | rfl | rfl | rfl | rfl | rfl | rfl | rfl | rfl | rfl | rfl | rfl | rfl | rfl | rfl | rfl | rfl | rfl | rfl | rfl | rfl | rfl | rfl | rfl | rfl | rfl | rfl | rfl | rfl | rfl | rfl | rfl | rfl | rfl | rfl | rfl | rfl | rfl | rfl | rfl | rfl | rfl | rfl <;> rfl
set_option maxHeartbeats 4000000 in
set_option maxRecDepth 100000 in
theorem forms_calls (w : World) : Calls Try.prog 18 #[] w fun e w' => e = .returned (.slice (some ⟨w.heap.size, 0, none⟩) 43 43) ∧ w'.heap[w.heap.size]? = some (.cells formsA 43 (0, 0)) ∧ Below w.heap.size w w' := by
  go_enter Try.func18, Try.ntmps18
  go_wp2_with fail
  go_ret
  exact ⟨rfl, blk_new _ _, below_alloc (Below.refl _ _) _⟩
def isOpB (op : Int) : Bool := decide (1 ≤ op) && decide (op < 43)
theorem isOp_calls (op : Int) (w : World) : Calls Try.prog 17 #[.int .i64 op] w fun e w' => e = .returned (.bool (isOpB op)) ∧ Below w.heap.size w w' := by
  by_cases h1 : 1 ≤ op
  · have hd : isOpB op = decide (op < 43) := by unfold isOpB; simp [h1]
    rw [hd]
    clear hd
    go_enter Try.func17, Try.ntmps17
    go_wp2_with fail
    refine (forms_calls _).mono ?_
    rintro e w1 ⟨rfl, hb, hB⟩
    have HB := Aside0.mk hB
    clear hb hB
    go_wp2_with fail
    go_ret
    exact ⟨rfl, HB.out⟩
  · have hd : isOpB op = false := by unfold isOpB; simp [h1]
    rw [hd]
    have h2 : decide (1 ≤ op) = false := by simpa using h1
    clear hd h1
    go_enter Try.func17, Try.ntmps17
    go_wp2_with fail
    go_ret
    exact ⟨rfl, Below.refl _ _⟩
def nameO (op : Int) : ByteArray := if isOpB op = true then nameS op.toNat else ⟨#[]⟩
theorem Name_calls (op : Int) (w : World) : Calls Try.prog 11 #[.int .i64 op] w fun e w' => e = .returned (.string (nameO op)) ∧ Below w.heap.size w w' := by
  obtain ⟨ok, hok⟩ : ∃ ok, isOpB op = ok := ⟨_, rfl⟩
  have HOK := Aside0.mk hok
  obtain ⟨s, hs⟩ : ∃ s, nameO op = s := ⟨_, rfl⟩
  rw [hs]
  have HS := Aside0.mk hs
  clear hok hs
  go_enter Try.func11, Try.ntmps11
  go_wp2_with fail
  refine (isOp_calls op w).mono ?_
  rintro e w1 ⟨rfl, hB⟩
  rw [HOK.out]
  have HB := Aside0.mk hB
  clear hB
  cases ok with
  | false =>
    go_wp2_with fail
    go_ret
    exact ⟨by rw [← HS.out]; unfold nameO; rw [HOK.out]; rfl, HB.out⟩
  | true =>
    have ho : 1 ≤ op ∧ op < 43 := by have := HOK.out; unfold isOpB at this; simpa using this
    obtain ⟨n, rfl⟩ := Int.eq_ofNat_of_zero_le (show 0 ≤ op by omega)
    obtain ⟨ho1, ho2⟩ := ho
    go_wp2_with fail
    refine (forms_calls _).mono ?_
    rintro e w2 ⟨rfl, hb, hB⟩
    have x := (forms_at hb n (by omega)).1
    have HB2 := Aside0.mk (below_step HB.out hB)
    have hsn : nameS n = s := by rw [← HS.out]; unfold nameO; rw [HOK.out]; rfl
    rw [hsn] at x
    obtain ⟨b, hb0⟩ : ∃ b, w1.heap.size = b := ⟨_, rfl⟩
    rw [hb0] at x ⊢
    clear hb hB hsn hb0
    go_wp2_with fail
    go_ret
    exact ⟨rfl, HB2.out⟩
end Go.Proofs.Ytfaicipochceeaa.Giv
