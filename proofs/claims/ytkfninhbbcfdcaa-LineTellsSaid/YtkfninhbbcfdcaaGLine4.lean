/- A line beside rows of outs. -/
import Derived.Test.YtkfninhbbcfdcaaGAlive35
namespace Go.Proofs.Ytkfninhbbcfdcaa.Giv
open Go.RowKit Go.Proofs.YtkfninhbbcfdcaaW.PrintWords Go.Proofs.YtkfninhbbcfdcaaW.PrintLast Go.Proofs.YtkfninhbbcfdcaaW.PrintMore Go.Proofs.Ytkfninhbbcfdcaa.PReplyTells
set_option linter.unusedVariables false
set_option linter.unusedSimpArgs false

/-- A row of another type is none of a line's blocks. -/
theorem LnS.apart {W : World} {b0 g c : Nat} {v : Value} {inn : List Int} {ov : Bool} {q : List Value} (h : LnS W b0 g c v inn ov q) {α : Type} {d : Kd α} {e b : Nat} {ok : Nat → Prop} {u : Value} {xs : List α}
    (hr : d.R e W b ok u xs) (ht : ∀ p, p ∈ e :: d.E → p ≠ 42 ∧ p ≠ 5) : d.R e W b (fun k => ok k ∧ ¬ lineB g c v k) u xs := by
  refine Kd.R_mono (Kd.R_bound hr) (fun k hk => ⟨hk.1, fun hB => ?_⟩)
  obtain ⟨_, _, _, p, hp, cells, hx⟩ := hk
  rcases hB with rfl | rfl | hB
  · rw [h.blk] at hx
    injection hx with hx
    injection hx with _ e2 _
    exact (ht p hp).1 e2.symm
  · obtain ⟨s, r, hc⟩ := h.chan
    rw [hc] at hx
    cases hx
  · obtain ⟨cs, hy⟩ := Kd.R_typed h.row k hB.symm
    rw [hy] at hx
    injection hx with hx
    injection hx with _ e2 _
    exact (ht p hp).2 e2.symm
theorem R_keepL {W W1 : World} {b0 g c : Nat} {v : Value} {inn : List Int} {ov : Bool} {q : List Value} (h : LnS W b0 g c v inn ov q) {α : Type} {d : Kd α} {e b : Nat} {ok : Nat → Prop} {u : Value} {xs : List α}
    (hr : d.R e W b ok u xs) (ht : ∀ p, p ∈ e :: d.E → p ≠ 42 ∧ p ≠ 5) (hk : KeepL W W1 (lineB g c v)) : d.R e W1 b ok u xs :=
  Kd.R_mono (Kd.R_kept (h.apart hr ht) hk.kept (fun k hk => hk.2)) (fun _ hk => hk.1)
/-- A line lives on where a row of another type grows. -/
theorem LnS.grownR {W W1 : World} {b0 g c : Nat} {v : Value} {inn : List Int} {ov : Bool} {q : List Value} (h : LnS W b0 g c v inn ov q) {α : Type} {d : Kd α} {e b : Nat} {ok : Nat → Prop} {u : Value} {xs : List α}
    (hr : d.R e W b ok u xs) (ht : e ≠ 42 ∧ e ≠ 5) (hg : W.grownBy W1 u.ownBlock) : LnS W1 b0 g c v inn ov q := by
  obtain ⟨s, r, hc⟩ := h.chan
  refine ⟨blk_grown h.blk hg (Kd.R_ne hr h.blk ht.1), ?_, ⟨s, r, blk_grown hc hg (fun e1 => ?_)⟩, Nat.le_trans h.lo hg.size⟩
  · exact Kd.R_over h.row hr (fun p hp e1 => by
      have : p = 5 := by simpa [Kd.int, Kd.scalar] using hp
      exact ht.2 (e1 ▸ this)) hg
  · obtain ⟨cells, hx⟩ := Kd.R_typed hr c e1.symm
    rw [hc] at hx
    cases hx
end Go.Proofs.Ytkfninhbbcfdcaa.Giv
