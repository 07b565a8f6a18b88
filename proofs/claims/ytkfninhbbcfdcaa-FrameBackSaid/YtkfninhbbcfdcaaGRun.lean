/- What the reference's Run, Of and Short compute, bit by bit, and that their texts come to just that. -/
import Derived.Test.YtkfninhbbcfdcaaGSum
namespace Go.Proofs.Ytkfninhbbcfdcaa.Giv
open Go.RowKit Go.Proofs.YtkfninhbbcfdcaaW.PrintWords Go.Proofs.YtkfninhbbcfdcaaW.PrintLast Go.Proofs.YtkfninhbbcfdcaaW.PrintMore
set_option linter.unusedVariables false
set_option linter.unusedSimpArgs false

/-- One step of the reference's register, as the walk spells it. -/
def refStep (l : List Int) (i x : Int) : Int := if (x % 2 != (rd l (i / 8) / 2 ^ (i % 8).toNat).tmod 2) = true then Go.bits .xor .u32 (x / 2) 2197175160 else x / 2
def regI (l : List Int) (r : Nat) (i : Int) : Int := ((Crc.run (Crc.bitL l) r i.toNat : Nat) : Int)
theorem regI_bd (l : List Int) (r : Nat) (i : Int) (h : r < 4294967296) : 0 ≤ regI l r i ∧ regI l r i < 4294967296 := by
  have := Crc.run_lt (f := Crc.bitL l) (r := r) (n := i.toNat) h (fun j _ => Crc.bitL_lt32 l j)
  unfold regI
  omega
theorem xor_bit (x b : Nat) (hb : b < 2) : (x ^^^ b) % 2 = (x + b) % 2 ∧ (x ^^^ b) / 2 = x / 2 := by
  refine ⟨Crc.xor_mod2 x b, ?_⟩
  rw [Crc.xor_div2, Nat.div_eq_of_lt hb, Nat.xor_zero]
theorem refStep_eq (l : List Int) (r : Nat) (i : Int) (hi0 : 0 ≤ i) (hi : i < 8 * (l.length : Int)) (h : r < 4294967296) (hb : bytesOk l) : refStep l i (regI l r i) = regI l r (i + 1) := by
  obtain ⟨n, rfl⟩ := Int.eq_ofNat_of_zero_le hi0
  have hlt := Crc.run_lt (f := Crc.bitL l) (r := r) (n := n) h (fun j _ => Crc.bitL_lt32 l j)
  unfold regI refStep
  rw [show ((n : Int)).toNat = n from rfl, show ((n : Int) + 1).toNat = n + 1 from rfl]
  have hn : n / 8 < l.length := by omega
  have hrd : rd l ((n : Int) / 8) = (((l.getD (n / 8) 0).toNat : Nat) : Int) := by
    unfold rd
    rw [show ((n : Int) / 8).toNat = n / 8 by omega]
    have := hb (l.getD (n / 8) 0) (by rw [List.getD_eq_getElem?_getD, List.getElem?_eq_getElem hn]; exact List.getElem_mem ..)
    omega
  have hbit : (rd l ((n : Int) / 8) / 2 ^ ((n : Int) % 8).toNat).tmod 2 = ((Crc.bitL l n : Nat) : Int) := by
    rw [hrd, show ((n : Int) % 8).toNat = n % 8 by omega]
    rw [show ((2 : Int) ^ (n % 8)) = ((2 ^ (n % 8) : Nat) : Int) by simp]
    rw [← Int.natCast_ediv, Int.tmod_eq_emod_of_nonneg (Int.natCast_nonneg _)]
    unfold Crc.bitL
    omega
  rw [hbit, Crc.run]
  have hb2 := Crc.bitL_lt l n
  generalize Crc.bitL l n = b at *
  generalize Crc.run (Crc.bitL l) r n = x at *
  obtain ⟨e1, e2⟩ := xor_bit x b hb2
  unfold Crc.step
  rw [e1, e2]
  by_cases ho : (x + b) % 2 = 1
  · rw [if_pos ho, if_pos (by simp only [bne_iff_ne]; omega)]
    rw [show ((x : Int) / 2) = ((x / 2 : Nat) : Int) by omega]
    exact xor32 (x / 2) 2197175160 (by omega) (by decide)
  · rw [if_neg ho, if_neg (by simp only [bne_iff_ne]; omega)]
    omega

def rialtoref04_Run.f (r : Int) (l : List Int) : Option Int := if 0 ≤ r ∧ r < 4294967296 ∧ bytesOk l ∧ l.length ≤ 1125899906842624 then some (Crc.reg l r.toNat : Nat) else none
set_option maxHeartbeats 1000000 in
set_option maxRecDepth 100000 in
theorem rialtoref04_Run.calls (a0 : Int) (A1 : Option Addr) (c1 : Nat) (l1 : List Int) (r : Int) (w : World) (hr1 : Kd.C (Kd.int .u8) w A1 l1.length l1) (hc1 : l1.length ≤ c1) (h : rialtoref04_Run.f a0 l1 = some r) :
    Calls Try.prog 71 #[.int .u32 a0, .slice A1 l1.length c1] w fun e w' => e = .returned (.int .u32 r) ∧ Drawn0 w w' := by
  unfold rialtoref04_Run.f at h
  by_cases hc : 0 ≤ a0 ∧ a0 < 4294967296 ∧ bytesOk l1 ∧ l1.length ≤ 1125899906842624
  case neg => rw [if_neg hc] at h; cases h
  rw [if_pos hc] at h
  obtain ⟨ha0, ha1, hb, hlen⟩ := hc
  obtain ⟨n0, rfl⟩ := Int.eq_ofNat_of_zero_le ha0
  have hn0 : n0 < 4294967296 := by omega
  have HN := Aside0.mk hn0
  have HBY := Aside0.mk hb
  have hend : regI l1 n0 (8 * (l1.length : Int)) = r := by
    rw [← Option.some.inj h]; rfl
  have HE := Aside0.mk hend
  have HR1 := Aside0.mk hr1
  have HC1 := Aside0.mk hc1
  clear hr1 hc1 hend h hb ha0 ha1 hn0
  go_enter Try.func71, Try.ntmps71
  go_wp2
  go_loopg [0, 5] (8 * l1.length) (fun kq v0 v5 w' => ∃ (x0 i : Int), 0 ≤ x0 ∧ x0 < 4294967296 ∧ 0 ≤ i ∧ i + kq = 8 * l1.length ∧ v0 = .int .u32 x0 ∧ v5 = .int .i64 i ∧ Aside0 (x0 = regI l1 n0 i) ∧ Drawn0 w w')
  case atStart => exact ⟨_, 0, by omega, by have := HN.out; omega, by omega, by omega, rfl, rfl, ⟨rfl⟩, Drawn0.refl _⟩
  case round =>
    obtain ⟨x0, i, hx0, hx1, hi0, hi, rfl, rfl, HX, ⟨m1, rfl⟩⟩ := hrel
    cases gk with
    | zero =>
      have hi' : 8 * (l1.length : Int) = i := by omega
      have HF : Aside0 (x0 = r) := ⟨by rw [HX.out, ← HE.out, hi']⟩
      have hge : ¬ i < 8 * (l1.length : Int) := by omega
      clear hi hi'
      go_wp2
      go_ret
      exact ⟨by rw [← HF.out]; rfl, Drawn0.step (Drawn0.refl _) _⟩
    | succ g =>
      have hlt : i < 8 * (l1.length : Int) := by omega
      have hi8 : i / 8 < (l1.length : Int) := by omega
      have hi9 : 0 ≤ i / 8 := by omega
      obtain ⟨ad, ead, hx⟩ := Kd.at_int HR1.out (i / 8) hi9 hi8
      cases ead
      have hbb : 0 ≤ rd l1 (i / 8) ∧ rd l1 (i / 8) < 256 := by
        refine HBY.out _ ?_
        unfold rd
        rw [List.getD_eq_getElem?_getD, List.getElem?_eq_getElem (by omega)]
        exact List.getElem_mem ..
      obtain ⟨hb0, hb1⟩ := hbb
      have HH := Aside0.mk hi
      have HS := Aside0.mk (refStep_eq l1 n0 i hi0 hlt HN.out HBY.out)
      have HBD := Aside0.mk (regI_bd l1 n0 (i + 1) HN.out)
      clear hi
      by_cases ho : (x0 % 2 != (rd l1 (i / 8) / 2 ^ (i % 8).toNat).tmod 2) = true
      · have HV : Aside0 (Go.bits .xor .u32 (x0 / 2) 2197175160 = regI l1 n0 (i + 1)) := ⟨by rw [← HS.out, ← HX.out]; unfold refStep; rw [if_pos ho]⟩
        clear HX HS
        go_wp2
        go_roundg g
        case measure => omega
        case rel => exact ⟨_, i + 1, by rw [HV.out]; exact HBD.out.1, by rw [HV.out]; exact HBD.out.2, by omega, by have := HH.out; omega, rfl, rfl, HV, Drawn0.step (Drawn0.refl _) _⟩
      · have ho' : (x0 % 2 != (rd l1 (i / 8) / 2 ^ (i % 8).toNat).tmod 2) = false := by simpa using ho
        have HV : Aside0 (x0 / 2 = regI l1 n0 (i + 1)) := ⟨by rw [← HS.out, ← HX.out]; unfold refStep; rw [if_neg ho]⟩
        clear HX HS ho
        go_wp2
        go_roundg g
        case measure => omega
        case rel => exact ⟨_, i + 1, by rw [HV.out]; exact HBD.out.1, by rw [HV.out]; exact HBD.out.2, by omega, by have := HH.out; omega, rfl, rfl, HV, Drawn0.step (Drawn0.refl _) _⟩

def rialtoref04_Of.f (l : List Int) : Option Int := if bytesOk l ∧ l.length ≤ 1125899906842624 then some (Crc.ofN l : Nat) else none
set_option maxHeartbeats 1000000 in
set_option maxRecDepth 100000 in
theorem rialtoref04_Of.calls (A0 : Option Addr) (c0 : Nat) (l0 : List Int) (r : Int) (w : World) (hr0 : Kd.C (Kd.int .u8) w A0 l0.length l0) (hc0 : l0.length ≤ c0) (h : rialtoref04_Of.f l0 = some r) :
    Calls Try.prog 66 #[.slice A0 l0.length c0] w fun e w' => e = .returned (.int .u32 r) ∧ Drawn0 w w' := by
  unfold rialtoref04_Of.f at h
  by_cases hc : bytesOk l0 ∧ l0.length ≤ 1125899906842624
  case neg => rw [if_neg hc] at h; cases h
  rw [if_pos hc] at h
  have h1 : rialtoref04_Run.f 4294967295 l0 = some ((Crc.reg l0 Crc.M : Nat) : Int) := if_pos ⟨by decide, by decide, hc.1, hc.2⟩
  have H : Aside0 (Go.bits .xor .u32 ((Crc.reg l0 Crc.M : Nat) : Int) 4294967295 = r) := ⟨by
    rw [← Option.some.inj h]
    exact xor32 _ 4294967295 (Crc.reg_lt (by decide)) (by decide)⟩
  clear h hc
  go_enter Try.func66, Try.ntmps66
  go_wp2_with fail
  refine (rialtoref04_Run.calls _ _ _ l0 _ _ hr0 hc0 h1).mono ?_
  rintro e w' ⟨rfl, hd⟩
  go_wp2
  go_ret
  exact ⟨by rw [← H.out]; rfl, hd⟩

def rialtoref04_Short.f (l : List Int) : Option Int := if bytesOk l ∧ l.length ≤ 1125899906842624 then some (shortN l : Nat) else none
set_option maxHeartbeats 1000000 in
set_option maxRecDepth 100000 in
theorem rialtoref04_Short.calls (A0 : Option Addr) (c0 : Nat) (l0 : List Int) (r : Int) (w : World) (hr0 : Kd.C (Kd.int .u8) w A0 l0.length l0) (hc0 : l0.length ≤ c0) (h : rialtoref04_Short.f l0 = some r) :
    Calls Try.prog 54 #[.slice A0 l0.length c0] w fun e w' => e = .returned (.int .u16 r) ∧ Drawn0 w w' := by
  unfold rialtoref04_Short.f at h
  by_cases hc : bytesOk l0 ∧ l0.length ≤ 1125899906842624
  case neg => rw [if_neg hc] at h; cases h
  rw [if_pos hc] at h
  have h1 : rialtoref04_Of.f l0 = some ((Crc.ofN l0 : Nat) : Int) := if_pos hc
  obtain rfl := Option.some.inj h
  have hl := Crc.ofN_lt l0
  unfold shortN
  generalize Crc.ofN l0 = n at *
  have hn0 : (0 : Int) ≤ (n : Int) := Int.natCast_nonneg _
  have hn1 : (n : Int) < 4294967296 := by omega
  have H : Aside0 (Go.bits .xor .u16 ((n : Int) / 65536) ((n : Int) % 65536) = ((n / 65536 ^^^ n % 65536 : Nat) : Int)) := ⟨by
    rw [show (n : Int) / 65536 = ((n / 65536 : Nat) : Int) by omega, show (n : Int) % 65536 = ((n % 65536 : Nat) : Int) by omega]
    exact xor16 _ _ (by omega) (by omega)⟩
  clear h hc hl
  go_enter Try.func54, Try.ntmps54
  go_wp2_with fail
  refine (rialtoref04_Of.calls _ _ l0 _ _ hr0 hc0 h1).mono ?_
  rintro e w' ⟨rfl, hd⟩
  go_wp2
  go_ret
  exact ⟨by rw [← H.out]; rfl, hd⟩
end Go.Proofs.Ytkfninhbbcfdcaa.Giv
