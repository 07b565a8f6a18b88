/- The law SumTells: what its printed function answers, and what its text comes to. -/
import Derived.Test.YtcfibadhikohfaaPSumTellsx1
namespace Go.Proofs.Ytcfibadhikohfaa.Giv
open Go.RowKit Go.Proofs.Ytcfibadhikohfaa.PSumTells Go.Proofs.YtcfibadhikohfaaW.PrintWords

theorem tells_pure (l0 l1 : List Int) (h0 : l0.length ≤ 1048576) (h1 : l1.length ≤ 1048576) (b0 : bytesOk l0) (b1 : bytesOk l1) : rialtolaw04_SumTells.f l0 l1 = some true := by
  have e1 : rialtolaw04_alive.f = some true := rfl
  have e2 : sum_Of.f l0 = some ((Crc.ofN l0 : Nat) : Int) := if_pos b0
  have e3 : rialtoref04_Of.f l0 = some ((Crc.ofN l0 : Nat) : Int) := if_pos ⟨b0, by omega⟩
  have e4 : sum_Short.f l0 = some ((shortN l0 : Nat) : Int) := if_pos b0
  have e5 : rialtoref04_Short.f l0 = some ((shortN l0 : Nat) : Int) := if_pos ⟨b0, by omega⟩
  have e6 : sum_On.f ((Crc.ofN l0 : Nat) : Int) l1 = some ((Crc.ofN (l0 ++ l1) : Nat) : Int) := by
    unfold sum_On.f
    rw [if_pos ⟨by omega, by have := Crc.ofN_lt l0; omega, b1⟩, ← Crc.onN_append]
    rfl
  have e7 : rialtoref04_Of.f (l0 ++ l1) = some ((Crc.ofN (l0 ++ l1) : Nat) : Int) := if_pos ⟨fun x hx => (List.mem_append.1 hx).elim (b0 x) (b1 x), by rw [List.length_append]; omega⟩
  unfold rialtolaw04_SumTells.f
  rw [e1]; simp only [Option.bind_some, if_true]
  rw [e2]; simp only [Option.bind_some]
  rw [e3]; simp only [Option.bind_some, if_true]
  rw [e4]; simp only [Option.bind_some]
  rw [e5]; simp only [Option.bind_some, if_true]
  rw [e6]; simp only [Option.bind_some, List.nil_append, List.length_nil]
  rw [if_pos (by omega), if_pos (by omega), e7]
  simp

theorem tells_law (A0 : Option Addr) (c0 : Nat) (l0 : List Int) (A1 : Option Addr) (c1 : Nat) (l1 : List Int) (w : World) (hr0 : Kd.C (Kd.int .u8) w A0 l0.length l0) (hc0 : l0.length ≤ c0) (b0 : bytesOk l0) (h0 : l0.length ≤ 1048576)
    (hr1 : Kd.C (Kd.int .u8) w A1 l1.length l1) (hc1 : l1.length ≤ c1) (b1 : bytesOk l1) (h1 : l1.length ≤ 1048576) :
    Calls Try.prog 3 #[.slice A0 l0.length c0, .slice A1 l1.length c1] w fun e w' => e = .returned (.bool true) ∧ Below w.heap.size w w' :=
  rialtolaw04_SumTells.calls A0 c0 l0 A1 c1 l1 true w hr0 hc0 hr1 hc1 (tells_pure l0 l1 h0 h1 b0 b1)
end Go.Proofs.Ytcfibadhikohfaa.Giv
