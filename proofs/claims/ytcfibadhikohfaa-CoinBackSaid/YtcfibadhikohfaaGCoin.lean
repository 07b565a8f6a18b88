/- What the amounts of coins come to: sums, differences, products. -/
import Derived.Test.YtcfibadhikohfaaProg
import Derived.Below
import Derived.OwnWalk
import Derived.WalkKit
import Derived.KernelRfl
import Derived.RowKit3
import Derived.Deep.LoopGhost
import Derived.Deep.QuietTactic
import Derived.Laws.Externs
import Derived.Lib.Hide
import Derived.Shelf.Spec.BitsCarry
import Derived.Shelf.Bits.Mul64
import Derived.Test.YtcfibadhikohfaaWWords
import Derived.Test.YtcfibadhikohfaaWMore
namespace Go.Proofs.Ytcfibadhikohfaa.Giv
open Go.RowKit Go.Proofs.YtcfibadhikohfaaW.PrintWords Go.Proofs.YtcfibadhikohfaaW.PrintMore
set_option linter.unusedVariables false
set_option linter.unusedSimpArgs false

def two64 : Nat := 18446744073709551616
def most : Nat := 4611686018427387904
def plusN (a b : Nat) : Nat × Int := if a + b ≤ most then (a + b, 0) else (0, 7)
def minusN (a b : Nat) : Nat × Int := if a < b then (0, 6) else (a - b, 0)
def timesN (a b : Nat) : Nat × Int := if a * b ≤ most then (a * b, 0) else (0, 7)
def pairV (r : Nat × Int) : Value := .tuple #[.int .u64 (r.1 : Int), .int .i64 r.2]

theorem add64_run (x y : Nat) (w : World) : (callFunc 31 #[.int .u64 x, .int .u64 y, .int .u64 0]).run Try.prog w =
    .ok (.value (.tuple #[.int .u64 (((x + y) % 18446744073709551616 : Nat) : Int), .int .u64 (((x + y) / 18446744073709551616 : Nat) : Int)])) w := by
  rw [run_callFunc_extern Try.func31 (by kernel_rfl) (by kernel_rfl) (by kernel_rfl) (e := add64Entry) (by kernel_rfl), run_add64 x y 0 (by omega) (by omega) (by omega) (by omega)]
  simp only [Result.andThen]
  congr 5 <;> omega
theorem sub64_run (x y : Nat) (w : World) : (callFunc 32 #[.int .u64 x, .int .u64 y, .int .u64 0]).run Try.prog w =
    .ok (.value (.tuple #[.int .u64 (((x + 18446744073709551616 - y) % 18446744073709551616 : Nat) : Int), .int .u64 ((if x < y then 1 else 0 : Nat) : Int)])) w := by
  rw [run_callFunc_extern Try.func32 (by kernel_rfl) (by kernel_rfl) (by kernel_rfl) (e := sub64Entry) (by kernel_rfl)]
  have := run_sub64 (P := Try.prog) x y 0 (by omega) w
  simp only [Nat.sub_zero, Nat.add_zero] at this
  rw [show (0 : Int) = ((0 : Nat) : Int) from rfl, this]
  rfl
set_option maxHeartbeats 1000000 in
theorem mul64_calls (x y : Nat) (hx : x < 18446744073709551616) (hy : y < 18446744073709551616) (w : World) :
    Calls Try.prog 33 #[.int .u64 x, .int .u64 y] w fun e w' => e = .returned (.tuple #[.int .u64 ((x * y / 18446744073709551616 : Nat) : Int), .int .u64 ((x * y % 18446744073709551616 : Nat) : Int)]) ∧ w = w' := by
  obtain ⟨bd, bt, bw, hhi⟩ := Lib.mul64_hi x y hx hy
  have ba := Lib.half_mul_le (a := x / 4294967296) (b := y / 4294967296) (by omega) (by omega)
  have bb := Lib.half_mul_le (a := x / 4294967296) (b := y % 4294967296) (by omega) (by omega)
  have bc := Lib.half_mul_le (a := x % 4294967296) (b := y / 4294967296) (by omega) (by omega)
  have ba' : x / 4294967296 * (y / 4294967296) < 18446744073709551616 := by omega
  have bb' : x / 4294967296 * (y % 4294967296) < 18446744073709551616 := by omega
  have bc' : x % 4294967296 * (y / 4294967296) < 18446744073709551616 := by omega
  have bh1 : x / 4294967296 * (y / 4294967296) + (x / 4294967296 * (y % 4294967296) + x % 4294967296 * (y % 4294967296) / 4294967296) / 4294967296 < 18446744073709551616 := by omega
  have bh : x / 4294967296 * (y / 4294967296) + (x / 4294967296 * (y % 4294967296) + x % 4294967296 * (y % 4294967296) / 4294967296) / 4294967296 + ((x / 4294967296 * (y % 4294967296) + x % 4294967296 * (y % 4294967296) / 4294967296) % 4294967296 + x % 4294967296 * (y / 4294967296)) / 4294967296 < 18446744073709551616 := by omega
  go_enter Try.func33, Try.ntmps33
  go_wp2
  simp only [Mul64.maskN x hx, Mul64.maskN y hy, Mul64.divN, Mul64.mulN, Mul64.addN, Mul64.wrapN _ bd, Mul64.wrapN _ bb', Mul64.wrapN _ bt, Mul64.maskN _ bt, Mul64.wrapN _ bc', Mul64.wrapN _ bw, Mul64.wrapN _ ba', Mul64.wrapN _ bh1, Mul64.wrapN _ bh, Mul64.wrapM (x * y)]
  rw [hhi]
  go_ret2
  exact ⟨rfl, rfl⟩

theorem pair_eq {x y : Int} {r : Nat × Int} (h1 : x = r.1) (h2 : y = r.2) : Ending.returned (.tuple #[.int .u64 x, .int .i64 y]) = .returned (pairV r) := by rw [h1, h2]; rfl

/-! ### Plus, Minus, Times -/
set_option maxHeartbeats 1000000 in
theorem plus_calls (a b : Nat) (w : World) : Calls Try.prog 16 #[.int .u64 a, .int .u64 b] w fun e w' => e = .returned (pairV (plusN a b)) ∧ w = w' := by
  have hr := add64_run a b
  go_enter Try.func16, Try.ntmps16
  go_wp2_with fail
  all_goals (go_ret2; refine ⟨pair_eq ?_ ?_, rfl⟩ <;> (show (_ : Int) = _; unfold plusN most; split <;> simp <;> omega))
set_option maxHeartbeats 1000000 in
theorem minus_calls (a b : Nat) (ha : a < 18446744073709551616) (hb : b < 18446744073709551616) (w : World) : Calls Try.prog 18 #[.int .u64 a, .int .u64 b] w fun e w' => e = .returned (pairV (minusN a b)) ∧ w = w' := by
  have hr := sub64_run a b
  by_cases h : a < b
  · rw [if_pos h] at hr
    go_enter Try.func18, Try.ntmps18
    go_wp2_with fail
    all_goals (go_ret2; refine ⟨pair_eq ?_ ?_, rfl⟩ <;> (show (_ : Int) = _; unfold minusN; split <;> simp <;> omega))
  · rw [if_neg h] at hr
    have e : (a + 18446744073709551616 - b) % 18446744073709551616 = a - b := by omega
    simp only [e] at hr
    go_enter Try.func18, Try.ntmps18
    go_wp2_with fail
    all_goals (go_ret2; refine ⟨pair_eq ?_ ?_, rfl⟩ <;> (show (_ : Int) = _; unfold minusN; split <;> simp <;> omega))
set_option maxHeartbeats 1000000 in
theorem times_calls (a b : Nat) (ha : a < 18446744073709551616) (hb : b < 18446744073709551616) (w : World) : Calls Try.prog 20 #[.int .u64 a, .int .u64 b] w fun e w' => e = .returned (pairV (timesN a b)) ∧ w = w' := by
  have HS : Hid (timesN a b = if a * b ≤ most then (a * b, 0) else (0, 7)) := rfl
  have hm := mul64_calls a b ha hb w
  obtain ⟨m, hmm⟩ : ∃ m, a * b = m := ⟨_, rfl⟩
  rw [hmm] at hm HS
  have HM := Lib.hid hm
  clear hm hmm
  go_enter Try.func20, Try.ntmps20
  go_wp2_with fail
  refine HM.out.mono ?_
  rintro e w' ⟨rfl, rfl⟩
  go_wp2_with fail
  all_goals (go_ret2; refine ⟨pair_eq ?_ ?_, rfl⟩ <;> (show (_ : Int) = _; rw [HS.out]; unfold most; split <;> simp <;> omega))

/-! ### the reference's -/
set_option maxHeartbeats 1000000 in
theorem refPlus_calls (a b : Nat) (ha : a < 18446744073709551616) (hb : b < 18446744073709551616) (w : World) : Calls Try.prog 17 #[.int .u64 a, .int .u64 b] w fun e w' => e = .returned (pairV (plusN a b)) ∧ w = w' := by
  by_cases h : (4611686018427387904 : Int) < (a : Int)
  · clear ha hb
    go_enter Try.func17, Try.ntmps17
    go_wp2_with fail
    all_goals (go_ret2; refine ⟨pair_eq ?_ ?_, rfl⟩ <;> (show (_ : Int) = _; unfold plusN most; split <;> simp <;> omega))
  · have HA := Lib.hid (And.intro ha hb)
    clear ha hb
    have hw : IntKind.u64.wrap (4611686018427387904 - (a : Int)) = 4611686018427387904 - (a : Int) := by rw [IntKind.wrap_u64]; omega
    have hw2 : IntKind.u64.wrap ((a : Int) + (b : Int)) = ((a + b : Nat) : Int) % 18446744073709551616 := by rw [IntKind.wrap_u64]; simp
    go_enter Try.func17, Try.ntmps17
    go_wp2_with fail
    all_goals (go_ret2; have HH := HA.out; refine ⟨pair_eq ?_ ?_, rfl⟩ <;> (show (_ : Int) = _; unfold plusN most; split <;> simp <;> omega))
set_option maxHeartbeats 1000000 in
theorem refMinus_calls (a b : Nat) (ha : a < 18446744073709551616) (hb : b < 18446744073709551616) (w : World) : Calls Try.prog 19 #[.int .u64 a, .int .u64 b] w fun e w' => e = .returned (pairV (minusN a b)) ∧ w = w' := by
  have HA := Lib.hid (And.intro ha hb)
  clear ha hb
  by_cases h : (a : Int) < (b : Int)
  · go_enter Try.func19, Try.ntmps19
    go_wp2_with fail
    all_goals (go_ret2; refine ⟨pair_eq ?_ ?_, rfl⟩ <;> (show (_ : Int) = _; unfold minusN; split <;> simp <;> omega))
  · have hw : IntKind.u64.wrap ((a : Int) - (b : Int)) = (a : Int) - (b : Int) := by have := HA.out; rw [IntKind.wrap_u64]; omega
    go_enter Try.func19, Try.ntmps19
    go_wp2_with fail
    all_goals (go_ret2; have HH := HA.out; refine ⟨pair_eq ?_ ?_, rfl⟩ <;> (show (_ : Int) = _; unfold minusN; split <;> simp <;> omega))
theorem times_big {a b : Nat} (ha : 0 < a) (h : most / a < b) : timesN a b = (0, 7) := by
  unfold timesN
  rw [if_neg]
  have := (Nat.div_lt_iff_lt_mul ha).1 h
  rw [Nat.mul_comm] at this
  omega
theorem times_fits {a b : Nat} (ha : 0 < a) (h : b ≤ most / a) : timesN a b = (a * b, 0) ∧ a * b ≤ most := by
  have := (Nat.le_div_iff_mul_le ha).1 h
  rw [Nat.mul_comm] at this
  exact ⟨if_pos this, this⟩
set_option maxHeartbeats 1000000 in
theorem refTimes_calls (a b : Nat) (ha : a < 18446744073709551616) (hb : b < 18446744073709551616) (w : World) : Calls Try.prog 21 #[.int .u64 a, .int .u64 b] w fun e w' => e = .returned (pairV (timesN a b)) ∧ w = w' := by
  have HA := Lib.hid (And.intro ha hb)
  clear ha hb
  by_cases h0 : a = 0
  · subst h0
    go_enter Try.func21, Try.ntmps21
    go_wp2_with fail
    all_goals (go_ret2; refine ⟨pair_eq ?_ ?_, rfl⟩ <;> simp [timesN, most])
  · have hp : 0 < a := by omega
    have hne : ((a : Int) != 0) = true := by rw [bne_iff_ne]; omega
    have hne2 : ((a : Int) == 0) = false := by rw [beq_eq_false_iff_ne]; omega
    have hdiv : ((4611686018427387904 : Int) / (a : Int)) = ((most / a : Nat) : Int) := by rw [show (4611686018427387904 : Int) = ((most : Nat) : Int) from rfl, ← Int.natCast_ediv]
    by_cases hbig : most / a < b
    · have HE := Lib.hid (times_big hp hbig)
      obtain ⟨q, hq⟩ : ∃ q, most / a = q := ⟨_, rfl⟩
      rw [hq] at hdiv hbig
      clear hq
      have hlt : (q : Int) < (b : Int) := by omega
      go_enter Try.func21, Try.ntmps21
      go_wp2_with fail
      all_goals (go_ret2; exact ⟨pair_eq (by rw [HE.out]; first | done | rfl) (by rw [HE.out]), rfl⟩)
    · have HE := Lib.hid (times_fits hp (Nat.le_of_not_lt hbig))
      obtain ⟨q, hq⟩ : ∃ q, most / a = q := ⟨_, rfl⟩
      rw [hq] at hdiv hbig
      clear hq
      have hlt : (b : Int) ≤ (q : Int) := by omega
      obtain ⟨m, hmm⟩ : ∃ m, a * b = m := ⟨_, rfl⟩
      have hw : IntKind.u64.wrap ((a : Int) * (b : Int)) = (m : Int) := by
        have := HE.out.2
        rw [hmm] at this
        unfold most at this
        rw [← Int.natCast_mul, hmm, IntKind.wrap_u64]; omega
      rw [hmm] at HE
      clear hmm hbig
      go_enter Try.func21, Try.ntmps21
      go_wp2_with fail
      all_goals (go_ret2; exact ⟨pair_eq (by rw [HE.out.1]) (by rw [HE.out.1]), rfl⟩)

/-! ### all of a list -/
def sumN : Nat → List Int → Nat × Int
  | s, [] => (s, 0)
  | s, x :: xs => if (plusN s x.toNat).2 = 0 then sumN (plusN s x.toNat).1 xs else (0, (plusN s x.toNat).2)
def wide (l : List Int) : Prop := ∀ x ∈ l, 0 ≤ x ∧ x < 18446744073709551616
theorem plus_le (a b : Nat) : (plusN a b).1 ≤ most := by unfold plusN; split <;> simp_all
theorem sum_step {l : List Int} {k : Int} {s : Nat} {R : Nat × Int} (h0 : 0 ≤ k) (h : k < l.length) (H : sumN s (l.drop k.toNat) = R) :
    (if (plusN s (rd l k).toNat).2 = 0 then sumN (plusN s (rd l k).toNat).1 (l.drop (k + 1).toNat) else (0, (plusN s (rd l k).toNat).2)) = R := by
  have h' : k.toNat < l.length := by omega
  rw [List.drop_eq_getElem_cons h', sumN] at H
  have e : rd l k = l[k.toNat] := by
    unfold rd
    simp [List.getD_eq_getElem?_getD, List.getElem?_eq_getElem h']
  rw [e, show (k + 1).toNat = k.toNat + 1 by omega]
  exact H
theorem rd_wide {l : List Int} (h : wide l) {k : Int} (h0 : 0 ≤ k) (h1 : k < l.length) : 0 ≤ rd l k ∧ rd l k < 18446744073709551616 := by
  unfold rd
  rw [List.getD_eq_getElem?_getD, List.getElem?_eq_getElem (by omega)]
  exact h _ (List.getElem_mem ..)

set_option maxHeartbeats 1000000 in
set_option maxRecDepth 100000 in
theorem sum_calls (A : Option Addr) (c : Nat) (l : List Int) (w : World) (hr : Kd.C (Kd.int .u64) w A l.length l) (hwide : wide l) :
    Calls Try.prog 22 #[.slice A l.length c] w fun e w' => e = .returned (pairV (sumN 0 l)) ∧ Drawn0 w w' := by
  have hlen : (l.length : Int) ≤ 9223372036854775807 := by have := hr.2.1; omega
  have HR := Aside0.mk hr
  have HW := Aside0.mk hwide
  clear hr hwide
  go_enter Try.func22, Try.ntmps22
  go_wp2
  go_loopg [4, 11] l.length (fun kq v4 v11 w' => ∃ (s : Nat) (k : Int), 0 ≤ k ∧ k + kq = l.length ∧ v4 = .int .u64 s ∧ v11 = .int .i64 k ∧ Aside0 (sumN s (l.drop k.toNat) = sumN 0 l) ∧ Drawn0 w w')
  case atStart => exact ⟨0, 0, by omega, by omega, rfl, rfl, ⟨rfl⟩, Drawn0.refl _⟩
  case round =>
    obtain ⟨s, k, hk0, hk, rfl, rfl, HA, ⟨m1, rfl⟩⟩ := hrel
    by_cases hlt : k < l.length
    · obtain ⟨g, rfl⟩ : ∃ g, gk = g + 1 := ⟨gk - 1, by omega⟩
      obtain ⟨ad, ead, hx⟩ := Kd.at_int HR.out k hk0 hlt
      cases ead
      have HT := Aside0.mk (sum_step hk0 hlt HA.out)
      have hrw := rd_wide HW.out hk0 hlt
      obtain ⟨x, hxx⟩ := Int.eq_ofNat_of_zero_le hrw.1
      rw [hxx] at hx HT
      have HK := Aside0.mk hk
      clear hk HA hrw hxx
      go_wp2_with fail
      refine (plus_calls _ _ _).mono ?_
      rintro e w' ⟨rfl, rfl⟩
      have HT' : Aside0 ((if (plusN s x).2 = 0 then sumN (plusN s x).1 (l.drop (k + 1).toNat) else (0, (plusN s x).2)) = sumN 0 l) := HT
      clear HT
      obtain ⟨p, hp⟩ : ∃ p, plusN s x = p := ⟨_, rfl⟩
      rw [hp] at HT' ⊢
      clear hp
      obtain ⟨p1, p2⟩ := p
      by_cases he : p2 = 0
      · have HU : Aside0 (sumN p1 (l.drop (k + 1).toNat) = sumN 0 l) := ⟨by have := HT'.out; rwa [if_pos he] at this⟩
        subst he
        clear HT'
        unfold pairV
        go_wp2
        go_roundg g
        case measure => omega
        case rel => exact ⟨p1, k + 1, by omega, by have := HK.out; omega, rfl, rfl, HU, Drawn0.step (Drawn0.refl _) _⟩
      · have HU : Aside0 (((0, p2) : Nat × Int) = sumN 0 l) := ⟨by have := HT'.out; rwa [if_neg he] at this⟩
        have he1 : (p2 != 0) = true := by simpa using he
        clear HT' he
        unfold pairV
        go_wp2
        go_ret2
        exact ⟨by rw [← HU.out]; rfl, Drawn0.step (Drawn0.refl _) _⟩
    · have HU : Aside0 (((s, 0) : Nat × Int) = sumN 0 l) := ⟨by have := HA.out; rwa [List.drop_eq_nil_of_le (by omega)] at this⟩
      clear HA
      go_wp2
      go_ret2
      exact ⟨by rw [← HU.out]; rfl, Drawn0.step (Drawn0.refl _) _⟩
set_option maxHeartbeats 1000000 in
set_option maxRecDepth 100000 in
theorem refSum_calls (A : Option Addr) (c : Nat) (l : List Int) (w : World) (hr : Kd.C (Kd.int .u64) w A l.length l) (hwide : wide l) :
    Calls Try.prog 23 #[.slice A l.length c] w fun e w' => e = .returned (pairV (sumN 0 l)) ∧ Drawn0 w w' := by
  have hlen : (l.length : Int) ≤ 9223372036854775807 := by have := hr.2.1; omega
  have HR := Aside0.mk hr
  have HW := Aside0.mk hwide
  clear hr hwide
  go_enter Try.func23, Try.ntmps23
  go_wp2
  go_loopg [4, 5] l.length (fun kq v4 v11 w' => ∃ (s : Nat) (k : Int), 0 ≤ k ∧ k + kq = l.length ∧ Aside0 (s < 18446744073709551616) ∧ v4 = .int .u64 s ∧ v11 = .int .i64 k ∧ Aside0 (sumN s (l.drop k.toNat) = sumN 0 l) ∧ Drawn0 w w')
  case atStart => exact ⟨0, 0, by omega, by omega, ⟨by decide⟩, rfl, rfl, ⟨rfl⟩, Drawn0.refl _⟩
  case round =>
    obtain ⟨s, k, hk0, hk, HSB, rfl, rfl, HA, ⟨m1, rfl⟩⟩ := hrel
    by_cases hlt : k < l.length
    · obtain ⟨g, rfl⟩ : ∃ g, gk = g + 1 := ⟨gk - 1, by omega⟩
      obtain ⟨ad, ead, hx⟩ := Kd.at_int HR.out k hk0 hlt
      cases ead
      have HT := Aside0.mk (sum_step hk0 hlt HA.out)
      have hrw := rd_wide HW.out hk0 hlt
      obtain ⟨x, hxx⟩ := Int.eq_ofNat_of_zero_le hrw.1
      rw [hxx] at hx HT
      have HXB : Aside0 (x < 18446744073709551616) := ⟨by omega⟩
      have HPL := Aside0.mk (plus_le s x)
      have HK := Aside0.mk hk
      clear hk HA hrw hxx
      go_wp2_with fail
      refine (refPlus_calls _ _ HSB.out HXB.out _).mono ?_
      rintro e w' ⟨rfl, rfl⟩
      have HT' : Aside0 ((if (plusN s x).2 = 0 then sumN (plusN s x).1 (l.drop (k + 1).toNat) else (0, (plusN s x).2)) = sumN 0 l) := HT
      clear HT
      obtain ⟨p, hp⟩ : ∃ p, plusN s x = p := ⟨_, rfl⟩
      rw [hp] at HT' HPL ⊢
      clear hp
      obtain ⟨p1, p2⟩ := p
      by_cases he : p2 = 0
      · have HU : Aside0 (sumN p1 (l.drop (k + 1).toNat) = sumN 0 l) := ⟨by have := HT'.out; rwa [if_pos he] at this⟩
        subst he
        clear HT'
        unfold pairV
        go_wp2
        go_roundg g
        case measure => omega
        case rel => exact ⟨p1, k + 1, by omega, by have := HK.out; omega, ⟨by have := HPL.out; unfold most at this; omega⟩, rfl, rfl, HU, Drawn0.step (Drawn0.refl _) _⟩
      · have HU : Aside0 (((0, p2) : Nat × Int) = sumN 0 l) := ⟨by have := HT'.out; rwa [if_neg he] at this⟩
        have he1 : (p2 != 0) = true := by simpa using he
        clear HT' he
        unfold pairV
        go_wp2
        go_ret2
        exact ⟨by rw [← HU.out]; rfl, Drawn0.step (Drawn0.refl _) _⟩
    · have HU : Aside0 (((s, 0) : Nat × Int) = sumN 0 l) := ⟨by have := HA.out; rwa [List.drop_eq_nil_of_le (by omega)] at this⟩
      clear HA
      go_wp2
      go_ret2
      exact ⟨by rw [← HU.out]; rfl, Drawn0.step (Drawn0.refl _) _⟩
end Go.Proofs.Ytcfibadhikohfaa.Giv
