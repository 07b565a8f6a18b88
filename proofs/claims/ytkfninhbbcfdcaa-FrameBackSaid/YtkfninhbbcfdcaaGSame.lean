/- rialtolaw10.Same. -/
import Derived.Test.YtkfninhbbcfdcaaGRAll
namespace Go.Proofs.Ytkfninhbbcfdcaa.Giv
open Go.RowKit Go.Proofs.YtkfninhbbcfdcaaW.PrintWords Go.Proofs.YtkfninhbbcfdcaaW.PrintLast Go.Proofs.YtkfninhbbcfdcaaW.PrintMore
set_option linter.unusedVariables false
set_option linter.unusedSimpArgs false

def rdL (xs : List (List Int)) (i : Int) : List Int := xs.getD i.toNat []
theorem at_L {w : World} {A : Option Addr} {n : Nat} {xs : List (List Int)} (h : Kd.C (Kd.slice 5 (Kd.int .u8)) w A n xs) (i : Int) (h0 : 0 ≤ i) (h1 : i < n) : ∃ ad A0 c0, A = some ad ∧ w.cell? (ad.add i.toNat) = some (.slice A0 (rdL xs i).length c0) ∧ (rdL xs i).length ≤ c0 ∧ (Kd.int .u8).C w A0 (rdL xs i).length (rdL xs i) := by
  obtain ⟨ad, c, e, _, hK, hc0⟩ := Kd.C_get h ([] : List Int) i h0 h1
  have hc : ∀ j u, c[j]? = some u → w.cell? (ad.add (i.toNat * 1 + j)) = some u := hc0
  obtain ⟨A0, c0, rfl, l0, g0⟩ := hK
  exact ⟨ad, A0, c0, e, by have hq := hc 0 _ rfl; rwa [Nat.mul_one, Nat.add_zero] at hq, l0, g0⟩

set_option maxHeartbeats 8000000 in
set_option maxRecDepth 100000 in
/-- Equal lists are told equal. -/
theorem Same_calls (A0 : Option Addr) (c0 : Nat) (l : List (List Int)) (A1 : Option Addr) (c1 : Nat) (w : World) (h0 : Kd.C (Kd.slice 5 (Kd.int .u8)) w A0 l.length l) (h1 : Kd.C (Kd.slice 5 (Kd.int .u8)) w A1 l.length l) :
    Calls Try.prog 20 #[.slice A0 l.length c0, .slice A1 l.length c1] w fun e w' => e = .returned (.bool true) ∧ Below w.heap.size w w' := by
  have hlen : (l.length : Int) ≤ 9223372036854775807 := by have := h0.2.1; omega
  have H0 := Aside0.mk h0
  have H1 := Aside0.mk h1
  clear h0 h1
  go_enter Try.func20, Try.ntmps20
  go_wp2_with fail
  go_loopg [5] l.length (fun kq v5 w' => ∃ (p : Nat), v5 = .int .i64 p ∧ p + kq = l.length ∧ Aside0 (Below w.heap.size w w'))
  case atStart => exact ⟨0, rfl, by omega, ⟨Below.refl _ _⟩⟩
  case round =>
    obtain ⟨p, rfl, hp, HB⟩ := hrel
    cases gk with
    | zero =>
      have e0 : p = l.length := by omega
      subst e0
      clear hp
      go_wp2_with fail
      try rw [Exit.noGoto_ret]
      go_ret
      exact ⟨rfl, HB.out⟩
    | succ k =>
      have hlt : (p : Int) < l.length := by omega
      have hp0 : (0 : Int) ≤ p := by omega
      obtain ⟨ad, B0, d0, rfl, hx0, hd0, hC0⟩ := at_L H0.out p hp0 hlt
      obtain ⟨ae, B1, d1, rfl, hx1, hd1, hC1⟩ := at_L H1.out p hp0 hlt
      obtain ⟨x, hx⟩ : ∃ x, rdL l p = x := ⟨_, rfl⟩
      rw [hx] at hx0 hd0 hC0 hx1 hd1 hC1
      rw [Int.toNat_natCast] at hx0 hx1
      have hP := Aside0.mk hp
      clear hx hp
      have HC := Aside0.mk (And.intro hC0 hC1)
      have s0 := fun (W' : World) (h_ : Below wr.heap.size wr W') => Kd.C_string (P := Try.prog) (A := B0) (c := d0) Try.underlying22 Try.underlying5 Try.underlying9 (Kd.C_below HC.out.1 (below_step HB.out h_))
      have s1 := fun (W' : World) (h_ : Below wr.heap.size wr W') => Kd.C_string (P := Try.prog) (A := B1) (c := d1) Try.underlying22 Try.underlying5 Try.underlying9 (Kd.C_below HC.out.2 (below_step HB.out h_))
      have HX := Aside0.mk (And.intro hx0 hx1)
      have q0 := fun (W' : World) (h_ : Below wr.heap.size wr W') => pw_cell_below (below_step HB.out h_) HX.out.1
      have q1 := fun (W' : World) (h_ : Below wr.heap.size wr W') => pw_cell_below (below_step HB.out h_) HX.out.2
      clear hC0 hC1 hx0 hx1
      go_wp2_with fail
      go_region_held3 (fun w' => Below wr.heap.size wr w') (first | assumption | exact Below.refl _ _ | exact below_step (by assumption) (by assumption) | exact below_step (by assumption) (Drawn0.below (by assumption)) | exact below_drew (by assumption) | exact below_drew (Below.refl _ _)) (fail)
      rename_i hHeld
      have HB2 := Aside0.mk (below_step HB.out hHeld)
      clear hHeld s0 s1 q0 q1
      go_wp2_with fail
      go_roundg k
      case measure => omega
      case rel => exact ⟨p + 1, by rfl, by have := hP.out; omega, HB2⟩
end Go.Proofs.Ytkfninhbbcfdcaa.Giv
