/- The law SumEven: what its printed function answers, and what its text comes to. -/
import Derived.Test.YtcfibadhikohfaaPSumEvenx1
namespace Go.Proofs.Ytcfibadhikohfaa.Giv
open Go.RowKit Go.Proofs.Ytcfibadhikohfaa.PSumEven Go.Proofs.YtcfibadhikohfaaW.PrintWords

/-- Two lists of bytes, taken together. -/
def both (a b : List Int) (n : Nat) : List Int := (List.range n).map fun (i : Nat) => Go.bits .xor .u8 (rd a (i : Int)) (rd b (i : Int))
theorem both_length (a b : List Int) (n : Nat) : (both a b n).length = n := by simp [both]
theorem both_get (a b : List Int) (n i : Nat) (h : i < n) : (both a b n)[i]? = some (Go.bits .xor .u8 (rd a (i : Int)) (rd b (i : Int))) := by
  unfold both
  rw [List.getElem?_map, List.getElem?_range h]; rfl

def part (z : List Int) (n i : Nat) : List Int := z.take i ++ List.replicate (n - i) 0
theorem part_zero (z : List Int) (n : Nat) : part z n 0 = List.replicate n 0 := by simp [part]
theorem part_all (z : List Int) (n : Nat) (h : z.length = n) : part z n n = z := by
  unfold part
  rw [List.take_of_length_le (by omega), Nat.sub_self]; simp
theorem part_length (z : List Int) (n i : Nat) (h : z.length = n) (hi : i ≤ n) : (part z n i).length = n := by
  unfold part
  rw [List.length_append, List.length_take, List.length_replicate]; omega
theorem part_set (z : List Int) (n i : Nat) (v : Int) (h : z.length = n) (hi : i < n) (hv : z[i]? = some v) : (part z n i).set i v = part z n (i + 1) := by
  unfold part
  apply List.ext_getElem?
  intro j
  rw [List.getElem?_set]
  have hlen : (List.take i z ++ List.replicate (n - i) 0).length = n := part_length z n i h (by omega)
  by_cases hj : i = j
  · subst hj
    rw [if_pos rfl, if_pos (by omega)]
    rw [List.getElem?_append_left (by rw [List.length_take]; omega), List.getElem?_take, if_pos (by omega), hv]
  · rw [if_neg hj]
    by_cases hlt : j < i
    · rw [List.getElem?_append_left (by rw [List.length_take]; omega), List.getElem?_append_left (by rw [List.length_take]; omega), List.getElem?_take, List.getElem?_take, if_pos hlt, if_pos (by omega)]
    · rw [List.getElem?_append_right (by rw [List.length_take]; omega), List.getElem?_append_right (by rw [List.length_take]; omega), List.length_take, List.length_take, List.getElem?_replicate, List.getElem?_replicate]
      by_cases hn : j < n
      · rw [if_pos (by omega), if_pos (by omega)]
      · rw [if_neg (by omega), if_neg (by omega)]

theorem rd_byte {l : List Int} (hb : bytesOk l) (i : Nat) : ∃ m : Nat, rd l (i : Int) = m ∧ m < 256 := by
  unfold rd
  rw [List.getD_eq_getElem?_getD]
  by_cases h : (i : Int).toNat < l.length
  · rw [List.getElem?_eq_getElem h]
    have := hb _ (List.getElem_mem h)
    exact ⟨(l[(i : Int).toNat]).toNat, by simp only [Option.getD_some]; omega, by omega⟩
  · rw [List.getElem?_eq_none (by omega)]
    exact ⟨0, by simp, by decide⟩
theorem both_bytes {a b : List Int} (ha : bytesOk a) (hb : bytesOk b) (n : Nat) : bytesOk (both a b n) := by
  intro x hx
  unfold both at hx
  obtain ⟨i, _, rfl⟩ := List.mem_map.1 hx
  obtain ⟨m, e, hm⟩ := rd_byte ha i
  obtain ⟨k, e2, hk⟩ := rd_byte hb i
  rw [e, e2, xor8 m k hm hk]
  have := Nat.xor_lt_two_pow (n := 8) hm hk
  omega
theorem bitL_take {l : List Int} (n j : Nat) (hj : j < 8 * n) : Crc.bitL (l.take n) j = Crc.bitL l j := by
  unfold Crc.bitL
  rw [List.getD_eq_getElem?_getD, List.getElem?_take, if_pos (by omega), ← List.getD_eq_getElem?_getD]
theorem shift_xor (m k j : Nat) : (m ^^^ k) / 2 ^ j % 2 = (m / 2 ^ j % 2) ^^^ (k / 2 ^ j % 2) := by
  rw [← Nat.shiftRight_eq_div_pow, ← Nat.shiftRight_eq_div_pow, ← Nat.shiftRight_eq_div_pow, Nat.shiftRight_xor_distrib]
  have := Nat.xor_mod_two_pow (a := m >>> j) (b := k >>> j) (n := 1)
  simpa using this
theorem bitL_both {a b : List Int} (ha : bytesOk a) (hb : bytesOk b) (n j : Nat) (hj : j < 8 * n) : Crc.bitL (both a b n) j = Crc.bitL a j ^^^ Crc.bitL b j := by
  unfold Crc.bitL
  have hn : j / 8 < n := by omega
  rw [List.getD_eq_getElem?_getD (l := both a b n), both_get a b n (j / 8) hn, Option.getD_some]
  obtain ⟨m, e, hm⟩ := rd_byte ha (j / 8)
  obtain ⟨k, e2, hk⟩ := rd_byte hb (j / 8)
  have e' : a.getD (j / 8) 0 = m := e
  have e2' : b.getD (j / 8) 0 = k := e2
  rw [e, e2, xor8 m k hm hk, e', e2']
  exact shift_xor m k _
theorem bitL_zero (n j : Nat) : Crc.bitL (List.replicate n 0) j = 0 := by
  unfold Crc.bitL
  rw [List.getD_eq_getElem?_getD, List.getElem?_replicate]
  split <;> simp
theorem reg_lin {a b : List Int} (ha : bytesOk a) (hb : bytesOk b) (n : Nat) (hna : n ≤ a.length) (hnb : n ≤ b.length) :
    ((Crc.ofN (a.take n) ^^^ Crc.ofN (b.take n)) ^^^ Crc.ofN (both a b n)) ^^^ Crc.ofN (List.replicate n 0) = 0 := by
  have e : ∀ l : List Int, l.length = n → Crc.reg l Crc.M = Crc.run (Crc.bitL l) Crc.M (8 * n) := fun l h => by unfold Crc.reg; rw [h]
  unfold Crc.ofN
  rw [e (a.take n) (by rw [List.length_take]; omega), e (b.take n) (by rw [List.length_take]; omega), e (both a b n) (both_length a b n), e (List.replicate n 0) (by simp)]
  rw [Crc.run_congr (f := Crc.bitL (a.take n)) (g := Crc.bitL a) _ _ (fun j hj => bitL_take n j hj), Crc.run_congr (f := Crc.bitL (b.take n)) (g := Crc.bitL b) _ _ (fun j hj => bitL_take n j hj)]
  have h1 := Crc.run_xor (Crc.bitL a) (Crc.bitL b) Crc.M Crc.M (8 * n)
  rw [Nat.xor_self] at h1
  have h2 := Crc.run_xor (Crc.bitL (both a b n)) (Crc.bitL (List.replicate n 0)) Crc.M Crc.M (8 * n)
  rw [Nat.xor_self] at h2
  have h3 : Crc.run (fun j => Crc.bitL (both a b n) j ^^^ Crc.bitL (List.replicate n 0) j) 0 (8 * n) = Crc.run (fun j => Crc.bitL a j ^^^ Crc.bitL b j) 0 (8 * n) :=
    Crc.run_congr _ _ (fun j hj => by rw [bitL_both ha hb n j hj, bitL_zero, Nat.xor_zero])
  rw [h3] at h2
  generalize Crc.run (Crc.bitL a) Crc.M (8 * n) = p at *
  generalize Crc.run (Crc.bitL b) Crc.M (8 * n) = q at *
  generalize Crc.run (Crc.bitL (both a b n)) Crc.M (8 * n) = s at *
  generalize Crc.run (Crc.bitL (List.replicate n 0)) Crc.M (8 * n) = t at *
  have h4 : p ^^^ q = s ^^^ t := h1.symm.trans h2
  have h5 : (((p ^^^ Crc.M) ^^^ (q ^^^ Crc.M)) ^^^ (s ^^^ Crc.M)) ^^^ (t ^^^ Crc.M) = ((p ^^^ q) ^^^ (s ^^^ t)) ^^^ ((Crc.M ^^^ Crc.M) ^^^ (Crc.M ^^^ Crc.M)) := by ac_rfl
  rw [h5, h4, Nat.xor_self, Nat.xor_self, Nat.xor_self]

theorem even_end {a b : List Int} (ha : bytesOk a) (hb : bytesOk b) (n : Nat) (hna : n ≤ a.length) (hnb : n ≤ b.length) (hn : n ≤ 281474976710656) (k : Nat) :
    rialtolaw04_SumEven.l0 (k + 1) a b n (both a b n) n = some true := by
  have e1 : rialtolaw04_alive.f = some true := rfl
  have e2 : sum_Of.f (a.take n) = some ((Crc.ofN (a.take n) : Nat) : Int) := if_pos (fun x hx => ha x (List.mem_of_mem_take hx))
  have e3 : sum_Of.f (b.take n) = some ((Crc.ofN (b.take n) : Nat) : Int) := if_pos (fun x hx => hb x (List.mem_of_mem_take hx))
  have e4 : sum_Of.f (both a b n) = some ((Crc.ofN (both a b n) : Nat) : Int) := if_pos (both_bytes ha hb n)
  have e5 : sum_Of.f (List.replicate n 0) = some ((Crc.ofN (List.replicate n 0) : Nat) : Int) := if_pos (fun x hx => by have := List.eq_of_mem_replicate hx; omega)
  have e6 := reg_lin ha hb n hna hnb
  have l1 := Crc.ofN_lt (a.take n)
  have l2 := Crc.ofN_lt (b.take n)
  have l3 := Crc.ofN_lt (both a b n)
  have l4 := Crc.ofN_lt (List.replicate n 0)
  simp only [rialtolaw04_SumEven.l0]
  rw [if_neg (by omega), e1]
  simp only [Option.bind_some, if_true, show ((n : Int)).toNat = n from rfl]
  rw [if_pos (by omega), if_pos (by omega), e2]
  simp only [Option.bind_some]
  rw [if_pos (by omega), e3]
  simp only [Option.bind_some]
  rw [e4]
  simp only [Option.bind_some]
  rw [if_pos (by omega), e5]
  simp only [Option.bind_some]
  rw [xor32 _ _ l1 l2, xor32 _ _ (Nat.xor_lt_two_pow (n := 32) l1 l2) l3, xor32 _ _ (Nat.xor_lt_two_pow (n := 32) (Nat.xor_lt_two_pow (n := 32) l1 l2) l3) l4, e6]
  rfl

theorem even_loop {a b : List Int} (ha : bytesOk a) (hb : bytesOk b) (n : Nat) (hna : n ≤ a.length) (hnb : n ≤ b.length) (hn : n ≤ 281474976710656) : ∀ (d i k : Nat), i + d = n → d < k →
    rialtolaw04_SumEven.l0 k a b n (part (both a b n) n i) i = some true := by
  intro d
  induction d with
  | zero =>
    intro i k hi hk
    obtain ⟨k, rfl⟩ : ∃ m, k = m + 1 := ⟨k - 1, by omega⟩
    obtain rfl : i = n := by omega
    rw [part_all _ _ (both_length a b i)]
    exact even_end ha hb i hna hnb hn k
  | succ d ih =>
    intro i k hi hk
    obtain ⟨k, rfl⟩ : ∃ m, k = m + 1 := ⟨k - 1, by omega⟩
    have hlen := part_length (both a b n) n i (both_length a b n) (by omega)
    have hset := part_set (both a b n) n i _ (both_length a b n) (by omega) (both_get a b n i (by omega))
    have h := ih (i + 1) k (by omega) (by omega)
    simp only [rialtolaw04_SumEven.l0]
    rw [if_pos (by omega), if_pos (by omega), if_pos (by omega), if_pos (by omega), if_pos (by omega)]
    rw [show ((i : Int)).toNat = i from rfl, hset, show wrap64 ((i : Int) + 1) = ((i + 1 : Nat) : Int) by unfold wrap64; omega]
    exact h

theorem even_pure (a b : List Int) (ha : bytesOk a) (hb : bytesOk b) (la : a.length ≤ 140737488351232) : ∃ k, rialtolaw04_SumEven.f k a b = some true := by
  have go : ∀ n : Nat, n ≤ a.length → n ≤ b.length → rialtolaw04_SumEven.j0 (n + 2) a b n = some true := by
    intro n h1 h2
    simp only [rialtolaw04_SumEven.j0]
    rw [if_pos (by omega), if_pos (by omega), show ((n : Int)).toNat = n from rfl, ← part_zero (both a b n) n]
    exact even_loop ha hb n h1 h2 (by omega) n 0 (n + 1) (by omega) (by omega)
  by_cases h : (b.length : Int) < (a.length : Int)
  · exact ⟨b.length + 2, by unfold rialtolaw04_SumEven.f; rw [if_pos h]; exact go _ (by omega) (Nat.le_refl _)⟩
  · exact ⟨a.length + 2, by unfold rialtolaw04_SumEven.f; rw [if_neg h]; exact go _ (Nat.le_refl _) (by omega)⟩

theorem even_law (A0 : Option Addr) (c0 : Nat) (l0 : List Int) (A1 : Option Addr) (c1 : Nat) (l1 : List Int) (w : World) (hr0 : Kd.C (Kd.int .u8) w A0 l0.length l0) (hc0 : l0.length ≤ c0) (b0 : bytesOk l0) (h0 : l0.length * 1 ≤ 140737488351232)
    (hr1 : Kd.C (Kd.int .u8) w A1 l1.length l1) (hc1 : l1.length ≤ c1) (b1 : bytesOk l1) :
    Calls Try.prog 6 #[.slice A0 l0.length c0, .slice A1 l1.length c1] w fun e w' => e = .returned (.bool true) ∧ Below w.heap.size w w' := by
  obtain ⟨k, h⟩ := even_pure l0 l1 b0 b1 (by omega)
  exact rialtolaw04_SumEven.calls k A0 c0 l0 A1 c1 l1 true w hr0 hc0 hr1 hc1 h
end Go.Proofs.Ytcfibadhikohfaa.Giv
