/- The law SumGoesOn: what its text comes to. -/
import Derived.Test.YtcfibadhikohfaaGRun
import Derived.Deep.RegionHeld3
import Derived.BigQuiet
namespace Go.Proofs.Ytcfibadhikohfaa.Giv
open Go.RowKit Go.Proofs.YtcfibadhikohfaaW.PrintWords Go.Proofs.YtcfibadhikohfaaW.PrintLast Go.Proofs.YtcfibadhikohfaaW.PrintMore
set_option linter.unusedVariables false
set_option linter.unusedSimpArgs false

/-- A contract of a caller's: bytes that read as l, in any world behind w. -/
theorem of_at {w W : World} {A : Option Addr} {l : List Int} (n c : Nat) (h : Kd.C (Kd.int .u8) w A n l) (hn : n = l.length) (hc : n ≤ c) (hb : bytesOk l) (hB : Below w.heap.size w W) :
    Calls Try.prog 11 #[.slice A n c] W fun e w' => e = .returned (.int .u32 (Crc.ofN l : Nat)) ∧ Drawn0 W w' := by
  subst hn
  exact sum_Of.calls _ _ l _ _ (Kd.C_below h hB) hc (if_pos hb)
theorem on_at {w W : World} {A : Option Addr} {l : List Int} (a : Nat) (n c : Nat) (h : Kd.C (Kd.int .u8) w A n l) (hn : n = l.length) (hc : n ≤ c) (hb : bytesOk l) (ha : a < 4294967296) (hB : Below w.heap.size w W) :
    Calls Try.prog 15 #[.int .u32 a, .slice A n c] W fun e w' => e = .returned (.int .u32 (Crc.onN a l : Nat)) ∧ Drawn0 W w' := by
  subst hn
  refine sum_On.calls _ _ _ l _ _ (Kd.C_below h hB) hc ?_
  unfold sum_On.f
  rw [if_pos ⟨by omega, by omega, hb⟩]
  rfl
theorem alive_at (W : World) : Calls Try.prog 10 #[] W fun e w' => e = .returned (.bool true) ∧ Below W.heap.size W w' := rialtolaw04_alive.calls true W rfl

theorem C_drop1 {w : World} {A : Option Addr} {c m : Nat} {xs : List Int} (h : Kd.C (Kd.int .u8) w A xs.length xs) (hm : m ≤ xs.length) (hc : xs.length ≤ c) :
    Kd.C (Kd.int .u8) w (if c = m then A else Option.map (fun x => x.add m) A) (xs.length - m) (xs.drop m) := by
  have := Kd.C_drop h hm hc
  rw [List.length_drop] at this
  simpa [Kd.int, Kd.scalar] using this
theorem C_take1 {w : World} {A : Option Addr} {m : Nat} {xs : List Int} (h : Kd.C (Kd.int .u8) w A xs.length xs) (hm : m ≤ xs.length) : Kd.C (Kd.int .u8) w A m (xs.take m) := by
  have := Kd.C_take h hm
  rwa [List.length_take, Nat.min_eq_left hm] at this

set_option maxHeartbeats 4000000 in
set_option maxRecDepth 100000 in
theorem goesOn_law (A0 : Option Addr) (c0 : Nat) (l0 : List Int) (a1 : Int) (w : World) (hr0 : Kd.C (Kd.int .u8) w A0 l0.length l0) (hc0 : l0.length ≤ c0) (hb : bytesOk l0) :
    Calls Try.prog 4 #[.slice A0 l0.length c0, .int .i64 a1] w fun e w' => e = .returned (.bool true) ∧ Below w.heap.size w w' := by
  by_cases h0 : a1 < 0
  · go_enter Try.func4, Try.ntmps4
    go_wp2_with fail
    refine (alive_at _).mono ?_
    rintro e w' ⟨rfl, hd⟩
    go_wp2
    go_ret
    exact ⟨rfl, hd⟩
  by_cases h1 : a1 > (l0.length : Int)
  · go_enter Try.func4, Try.ntmps4
    go_wp2_with fail
    refine (alive_at _).mono ?_
    rintro e w' ⟨rfl, hd⟩
    go_wp2
    go_ret
    exact ⟨rfl, hd⟩
  have hi0 : 0 ≤ a1 := by omega
  have hi1 : a1 ≤ (l0.length : Int) := by omega
  have hi2 : a1 ≤ (c0 : Int) := by omega
  have HT := Aside0.mk (C_take1 hr0 (m := a1.toNat) (by omega))
  have hD := C_drop1 hr0 (m := a1.toNat) (c := c0) (by omega) hc0
  obtain ⟨A', hif⟩ : ∃ A', (if c0 = a1.toNat then A0 else Option.map (fun x => x.add a1.toNat) A0) = A' := ⟨_, rfl⟩
  rw [hif] at hD
  have HD := Aside0.mk hD
  clear hD
  have HR := Aside0.mk hr0
  have HBT : Aside0 (bytesOk (l0.take a1.toNat) ∧ a1.toNat = (l0.take a1.toNat).length ∧ a1.toNat ≤ c0) := ⟨fun x hx => hb x (List.mem_of_mem_take hx), by rw [List.length_take]; omega, by omega⟩
  have HBD : Aside0 (bytesOk (l0.drop a1.toNat) ∧ l0.length - a1.toNat = (l0.drop a1.toNat).length ∧ l0.length - a1.toNat ≤ c0 - a1.toNat) := ⟨fun x hx => hb x (List.mem_of_mem_drop hx), by rw [List.length_drop], by omega⟩
  have HB := Aside0.mk hb
  have HC := Aside0.mk hc0
  have HE : Aside0 (Crc.onN (Crc.ofN (l0.take a1.toNat)) (l0.drop a1.toNat) = Crc.ofN l0) := ⟨by rw [Crc.onN_append, List.take_append_drop]⟩
  have HL : Aside0 (Crc.ofN (l0.take a1.toNat) < 4294967296) := ⟨Crc.ofN_lt _⟩
  clear hr0 hb h0 h1
  go_enter Try.func4, Try.ntmps4
  go_wp2
  go_region_held3 (fun w' => Below w.heap.size w w') (first | assumption | exact Below.refl _ _ | exact below_step (by assumption) (by assumption) | exact below_step (by assumption) (Drawn0.below (by assumption)) | exact below_drew (by assumption) | exact below_drew (Below.refl _ _))
    (first | (go_at_call 10; refine (alive_at _).mono ?_; rintro e w' ⟨rfl, hd⟩) | (go_at_call 15; refine (on_at _ _ _ HD.out HBD.out.2.1 HBD.out.2.2 HBD.out.1 HL.out ?hB).mono ?_; (case hB => assumption); rintro e w' ⟨rfl, hd⟩) | (go_at_call 11; (with_reducible refine (of_at _ _ HT.out HBT.out.2.1 HBT.out.2.2 HBT.out.1 ?hB).mono ?_); (case hB => assumption); rintro e w' ⟨rfl, hd⟩) | (go_at_call 11; (with_reducible refine (of_at _ _ HR.out rfl HC.out HB.out ?hB).mono ?_); (case hB => assumption); rintro e w' ⟨rfl, hd⟩))
  rename_i hHeld
  have HH := Aside0.mk hHeld
  clear hHeld
  go_wp2
  go_ret
  exact ⟨by simp [HE.out], HH.out⟩
end Go.Proofs.Ytcfibadhikohfaa.Giv
