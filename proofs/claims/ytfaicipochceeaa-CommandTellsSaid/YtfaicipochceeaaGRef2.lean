/- The reference: the operation of a name. -/
import Derived.Test.YtfaicipochceeaaGRef
namespace Go.Proofs.Ytfaicipochceeaa.Giv
open Go.Lib Go.RowKit Go.Proofs.YtfaicipochceeaaW.PrintWords Go.Proofs.YtfaicipochceeaaW.PrintLast Go.Proofs.YtfaicipochceeaaW.PrintMore
set_option linter.unusedVariables false
set_option linter.unusedSimpArgs false
theorem opF_none (name : ByteArray) : ∀ (k i : Nat), (∀ j, i ≤ j → j < i + k → ((nameS j).toList == name.toList) = false) → opF name k i = -1
  | 0, _, _ => rfl
  | k + 1, i, h => by
    unfold opF
    rw [h i (Nat.le_refl _) (by omega)]
    exact opF_none name k (i + 1) (fun j h2 h3 => h j (by omega) (by omega))
theorem ne_first (i : Nat) (h1 : 1 ≤ i) (hi : i < 43) : ((nameS i).toList == (nameS 0).toList) = false := by
  have hi : i = 0 ∨ i = 1 ∨ i = 2 ∨ i = 3 ∨ i = 4 ∨ i = 5 ∨ i = 6 ∨ i = 7 ∨ i = 8 ∨ i = 9 ∨ i = 10 ∨ i = 11 ∨ i = 12 ∨ i = 13 ∨ i = 14 ∨ i = 15 ∨ i = 16 ∨ i = 17 ∨ i = 18 ∨ i = 19 ∨ i = 20 ∨ i = 21 ∨ i = 22 ∨ i = 23 ∨ i = 24 ∨ i = 25 ∨ i = 26 ∨ i = 27 ∨ i = 28 ∨ i = 29 ∨ i = 30 ∨ i = 31 ∨ i = 32 ∨ i = 33 ∨ i = 34 ∨ i = 35 ∨ i = 36 ∨ i = 37 ∨ i = 38 ∨ i = 39 ∨ i = 40 ∨ i = 41 ∨ i = 42 := by omega
  rcases hi with rfl | rfl | rfl | rfl | rfl | rfl | rfl | rfl | rfl | rfl | rfl | rfl | rfl | rfl | rfl | rfl | rfl | rfl | rfl | rfl | rfl | rfl | rfl | rfl | rfl | rfl | rfl | rfl | rfl | rfl | rfl | rfl | rfl | rfl | rfl | rfl | rfl | rfl | rfl | rfl | rfl | rfl | rfl
  · omega
  all_goals decide +kernel
theorem opO_one (name : ByteArray) : opO name = if opF name 42 1 < 0 then 0 else opF name 42 1 := by
  have e : opF name 43 0 = if ((nameS 0).toList == name.toList) = true then 0 else opF name 42 1 := rfl
  unfold opO
  rw [e]
  by_cases h : ((nameS 0).toList == name.toList) = true
  · rw [if_pos h]
    have h2 : opF name 42 1 = -1 := opF_none name 42 1 (fun j h3 h4 => by rw [← eq_of_beq h]; exact ne_first j h3 (by omega))
    rw [h2]; rfl
  · rw [if_neg h]
set_option maxRecDepth 100000 in
theorem ROp_calls (name : ByteArray) (w : World) : Calls Try.prog 14 #[.string name] w fun e w' => e = .returned (.int .i64 (opO name)) ∧ Below w.heap.size w w' := by
  obtain ⟨x, hx⟩ : ∃ x, opO name = x := ⟨_, rfl⟩
  have HX : Aside0 ((if opF name 42 1 < 0 then 0 else opF name 42 1) = x) := ⟨by rw [← opO_one, hx]⟩
  rw [hx]
  clear hx
  go_enter Try.func14, Try.ntmps14
  go_wp2_with fail
  go_loopg [3] 42 (fun kq v3 w' => ∃ (i : Nat), v3 = .int .i64 i ∧ i + kq = 43 ∧ 1 ≤ i ∧ Aside0 ((if opF name kq i < 0 then 0 else opF name kq i) = x) ∧ Aside0 (Below w.heap.size w w'))
  case atStart => exact ⟨1, rfl, by omega, by omega, HX, ⟨Below.refl _ _⟩⟩
  case round =>
    clear HX
    obtain ⟨i, rfl, hi, hi1, HI, HB⟩ := hrel
    cases gk with
    | zero =>
      have hge : decide ((i : Int) < 43) = false := decide_eq_false (by omega)
      have HXE : Aside0 (x = 0) := ⟨HI.out.symm⟩
      have hge2 : (43 : Int) ≤ i := by omega
      clear hi
      go_wp2_with fail
      go_ret
      exact ⟨by rw [HXE.out]; rfl, HB.out⟩
    | succ k =>
      have hlt : (i : Int) < 43 := by omega
      have hi0 : (0 : Int) ≤ i := by omega
      have HIK := Aside0.mk (And.intro hi hi1)
      have HNM := Aside0.mk (nameO_in i (by omega))
      clear hi hi1
      go_wp2_with fail
      refine (RName_calls i _).mono ?_
      rintro e w1 ⟨rfl, hB⟩
      rw [HNM.out]
      have HB1 := Aside0.mk (below_step HB.out hB)
      clear hB HB
      obtain ⟨s, hs⟩ : ∃ s, nameS i = s := ⟨_, rfl⟩
      have HS := Aside0.mk hs
      rw [hs]
      clear hs
      by_cases ht : s.toList = name.toList
      · have ht2 : (s.toList == name.toList) = true := by simpa using ht
        have HXE : Aside0 (x = i) := ⟨by rw [← HI.out]; unfold opF; rw [HS.out, ht2, if_pos rfl]; exact if_neg (by omega)⟩
        go_wp2_with fail
        go_ret
        exact ⟨by rw [HXE.out]; rfl, HB1.out⟩
      · have ht2 : (s.toList == name.toList) = false := by simpa using ht
        have HI2 : Aside0 ((if opF name k (i + 1) < 0 then 0 else opF name k (i + 1)) = x) := ⟨by rw [← HI.out, opF, HS.out, ht2]; rfl⟩
        go_wp2_with fail
        go_roundg k
        case measure => omega
        case rel => exact ⟨i + 1, by rfl, by have := HIK.out; omega, by omega, HI2, HB1⟩
end Go.Proofs.Ytfaicipochceeaa.Giv
