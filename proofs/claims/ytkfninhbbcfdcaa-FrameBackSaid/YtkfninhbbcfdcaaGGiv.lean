/- The contracts in the printer's form. -/
import Derived.Test.YtkfninhbbcfdcaaGSame
namespace Go.Proofs.Ytkfninhbbcfdcaa.Giv
open Go.RowKit Go.Proofs.YtkfninhbbcfdcaaW.PrintWords Go.Proofs.YtkfninhbbcfdcaaW.PrintLast Go.Proofs.YtkfninhbbcfdcaaW.PrintMore
set_option linter.unusedVariables false
open Classical in
noncomputable def frame_Wrap.f (l0 : List Int) (a1 : Int) : Option (List Int × Int) := if bytesOk l0 then some (wrapB l0 a1, wrapE l0 a1) else none
theorem frame_Wrap.calls (A0 : Option Addr) (c0 : Nat) (l0 : List Int) (a1 : Int) (r1 : List Int) (r2 : Int) (w : World) (hr0 : Kd.C (Kd.int .u8) w A0 l0.length l0) (hc0 : l0.length ≤ c0) (h : frame_Wrap.f l0 a1 = some (r1, r2)) :
    Calls Try.prog 13 #[.slice A0 l0.length c0, .int .i64 a1] w fun e w' => ∃ v0_ : Value, e = .returned (.tuple #[v0_, .int .i64 r2]) ∧ Kd.R (Kd.int .u8) 5 w' w.heap.size (fun _ => True) v0_ r1 ∧ Below w.heap.size w w' := by
  unfold frame_Wrap.f at h
  split at h
  · rename_i hb
    simp only [Option.some.injEq, Prod.mk.injEq] at h
    obtain ⟨rfl, rfl⟩ := h
    exact Wrap_calls A0 c0 l0 a1 w hr0 hc0 hb
  · cases h
open Classical in
noncomputable def frame_Take.f (l0 : List Int) (a1 : Int) : Option (List Int × Int × Int) := if bytesOk l0 then some (tk l0 a1) else none
theorem frame_Take.calls (A0 : Option Addr) (c0 : Nat) (l0 : List Int) (a1 : Int) (r1 : List Int) (r2 r3 : Int) (w : World) (hr0 : Kd.C (Kd.int .u8) w A0 l0.length l0) (hc0 : l0.length ≤ c0) (h : frame_Take.f l0 a1 = some (r1, r2, r3)) :
    Calls Try.prog 15 #[.slice A0 l0.length c0, .int .i64 a1] w fun e w' => ∃ v0_ : Value, e = .returned (.tuple #[v0_, .int .i64 r2, .int .i64 r3]) ∧ Kd.R (Kd.int .u8) 5 w' w.heap.size (fun _ => True) v0_ r1 ∧ Below w.heap.size w w' := by
  unfold frame_Take.f at h
  split at h
  · rename_i hb
    have := frame_Take A0 c0 l0 a1 w hr0 hc0 hb
    rw [Option.some.inj h] at this
    exact this
  · cases h
open Classical in
noncomputable def frame_All.f (l0 : List Int) (a1 : Int) : Option (List (List Int) × Int) := if bytesOk l0 ∧ l0.length * 8 ≤ 140737488355328 then some (allG l0.length l0 a1) else none
theorem frame_All.calls (A0 : Option Addr) (c0 : Nat) (l0 : List Int) (a1 : Int) (r1 : List (List Int)) (r2 : Int) (w : World) (hr0 : Kd.C (Kd.int .u8) w A0 l0.length l0) (hc0 : l0.length ≤ c0) (h : frame_All.f l0 a1 = some (r1, r2)) :
    Calls Try.prog 17 #[.slice A0 l0.length c0, .int .i64 a1] w fun e w' => ∃ v0_ : Value, e = .returned (.tuple #[v0_, .int .i64 r2]) ∧ Kd.R (Kd.slice 5 (Kd.int .u8)) 22 w' w.heap.size (fun _ => True) v0_ r1 ∧ Below w.heap.size w w' := by
  unfold frame_All.f at h
  split at h
  · rename_i hb
    have := All_calls A0 c0 l0 a1 w hr0 hc0 hb.1 hb.2
    rw [Option.some.inj h] at this
    exact this
  · cases h
end Go.Proofs.Ytkfninhbbcfdcaa.Giv
