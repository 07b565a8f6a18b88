/- The operation of a name. -/
import Derived.Test.YtfaicipochceeaaGForms
namespace Go.Proofs.Ytfaicipochceeaa.Giv
open Go.RowKit Go.Proofs.YtfaicipochceeaaW.PrintWords Go.Proofs.YtfaicipochceeaaW.PrintLast Go.Proofs.YtfaicipochceeaaW.PrintMore
set_option linter.unusedVariables false
set_option linter.unusedSimpArgs false
theorem isName_calls (x f name : ByteArray) (b : Nat) (w : World) (h : w.cell? ⟨b, 0, none⟩ = some (.string name)) :
    Calls Try.prog 28 #[.agg #[.string x, .string f], .pointer (some ⟨b, 0, none⟩)] w fun e w' => e = .returned (.bool (x.toList == name.toList)) ∧ Below w.heap.size w w' := by
  have hlt := World.block_lt_of_cell? w _ h
  have hlt' : b < w.heap.size := hlt
  go_enter Try.func28, Try.ntmps28
  go_wp2_with fail
  go_ret
  exact ⟨rfl, below_alloc (Below.refl _ _) _⟩
def opF (name : ByteArray) : Nat → Nat → Int
  | 0, _ => -1
  | k + 1, i => if ((nameS i).toList == name.toList) = true then i else opF name k (i + 1)
def opO (name : ByteArray) : Int := if opF name 43 0 < 0 then 0 else opF name 43 0
set_option maxRecDepth 100000 in
theorem Index_calls (name : ByteArray) (b bx : Nat) (w : World) (hb : w.heap[b]? = some (.cells formsA 43 (0, 0))) (hx : w.cell? ⟨bx, 0, none⟩ = some (.string name)) (x : Int) (hxx : opF name 43 0 = x) :
    Calls Try.prog 27 #[.slice (some ⟨b, 0, none⟩) 43 43, .func (.func 28) #[] #[.pointer (some ⟨bx, 0, none⟩)]] w fun e w' => e = .returned (.int .i64 x) ∧ Below w.heap.size w w' := by
  have H := Aside0.mk (And.intro hb hx)
  have HX := Aside0.mk hxx
  clear hb hx hxx
  go_enter Try.func27, Try.ntmps27
  go_wp2_with fail
  go_loopg [8] 43 (fun kq v8 w' => ∃ (i : Nat), v8 = .int .i64 i ∧ i + kq = 43 ∧ Aside0 (opF name kq i = x) ∧ Aside0 (Below w.heap.size w w'))
  case atStart => exact ⟨0, rfl, by omega, HX, ⟨Below.refl _ _⟩⟩
  case round =>
    clear HX
    obtain ⟨i, rfl, hi, HI, HB⟩ := hrel
    cases gk with
    | zero =>
      have hge : (43 : Int) ≤ i := by omega
      have HXE : Aside0 (x = -1) := ⟨HI.out.symm⟩
      clear hi
      go_wp2_with fail
      go_ret
      exact ⟨by rw [HXE.out]; rfl, HB.out⟩
    | succ k =>
      have hlt : (i : Int) < 43 := by omega
      have hi0 : (0 : Int) ≤ i := by omega
      have hat := forms_at (blk_below H.out.1 HB.out) i (by omega)
      have x0 := hat.1
      have x1 := hat.2
      have hn := pw_cell_below HB.out H.out.2
      have HN := Aside0.mk hn
      have HIK := Aside0.mk hi
      obtain ⟨s, hs⟩ : ∃ s, nameS i = s := ⟨_, rfl⟩
      obtain ⟨s2, hs2⟩ : ∃ s, fldS i = s := ⟨_, rfl⟩
      rw [hs] at x0
      rw [hs2] at x1
      have HS := Aside0.mk hs
      obtain ⟨t, ht⟩ : ∃ t, (s.toList == name.toList) = t := ⟨_, rfl⟩
      have HT := Aside0.mk ht
      clear hat hi hs hs2 ht hn
      go_wp2_with fail
      refine (isName_calls s s2 name bx _ HN.out).mono ?_
      rintro e w1 ⟨rfl, hB⟩
      rw [HT.out]
      have HB1 := Aside0.mk (below_step HB.out hB)
      clear hB x0 x1
      cases t with
      | true =>
        have HXE : Aside0 (x = i) := ⟨by rw [← HI.out]; unfold opF; rw [HS.out, HT.out]; rfl⟩
        go_wp2_with fail
        go_ret
        exact ⟨by rw [HXE.out]; rfl, HB1.out⟩
      | false =>
        have HI2 : Aside0 (opF name k (i + 1) = x) := ⟨by rw [← HI.out, opF, HS.out, HT.out]; rfl⟩
        go_wp2_with fail
        go_roundg k
        case measure => omega
        case rel => exact ⟨i + 1, by rfl, by have := HIK.out; omega, HI2, HB1⟩
section
attribute [local go_sem] max2_int min2_int max_two min_two
theorem Op_calls (name : ByteArray) (w : World) : Calls Try.prog 13 #[.string name] w fun e w' => e = .returned (.int .i64 (opO name)) ∧ Below w.heap.size w w' := by
  obtain ⟨x, hx⟩ : ∃ x, opF name 43 0 = x := ⟨_, rfl⟩
  have ho : opO name = if x < 0 then 0 else x := by rw [← hx]; rfl
  have HX := Aside0.mk hx
  rw [ho]
  clear ho hx
  have hA := blk_new w (.cells #[.string name] 9)
  have hBA := below_alloc (Below.refl w.heap.size w) (.cells #[.string name] 9)
  obtain ⟨r, hr⟩ : ∃ r, w.heap.size = r := ⟨_, rfl⟩
  obtain ⟨w1, hw1⟩ : ∃ w1, w.alloc (.cells #[.string name] 9) = w1 := ⟨_, rfl⟩
  rw [hw1] at hA hBA
  rw [hr] at hA
  have HA := Aside0.mk (And.intro hA hBA)
  clear hA hBA
  by_cases hneg : x < 0
  all_goals
    go_enter Try.func13, Try.ntmps13
    go_wp2_with fail
    refine (forms_calls w1).mono ?_
    rintro e w2 ⟨rfl, hb, hB⟩
    have HB2 := Aside0.mk (And.intro hb (And.intro (blk_cell (blk_below HA.out.1 hB) 0) (below_step HA.out.2 hB)))
    clear hb hB
    go_wp2_with fail
    refine (Index_calls name _ r w2 HB2.out.1 HB2.out.2.1 x HX.out).mono ?_
    rintro e w3 ⟨rfl, hB⟩
    have HB3 := Aside0.mk (below_step HB2.out.2.2 hB)
    clear hB
    go_wp2_with fail
    go_ret
    exact ⟨rfl, by rw [← hr]; exact HB3.out⟩
end
end Go.Proofs.Ytfaicipochceeaa.Giv
