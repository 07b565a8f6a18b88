/- The law SumBurst: what its printed function answers. -/
import Derived.Test.YtcfibadhikohfaaHBurst
import Derived.Lib.Strings
namespace Go.Proofs.Ytcfibadhikohfaa.Giv
open Go.RowKit Go.Proofs.Ytcfibadhikohfaa.PSumBurst Go.Proofs.YtcfibadhikohfaaW.PrintWords Go.Proofs.YtcfibadhikohfaaW.PrintMore

/-- The bit that is turned at a place, i rounds being through. -/
def tb (a t : Int) (i : Nat) (j : Nat) : Nat := if 0 ≤ a ∧ a ≤ j ∧ (j : Int) < a + i then (t.toNat / 2 ^ ((j : Int) - a).toNat) % 2 else 0
theorem tb_lt (a t : Int) (i j : Nat) : tb a t i j < 2 := by unfold tb; split <;> omega

/-- What the loop holds. -/
def Turned (l x : List Int) (a t : Int) (i : Nat) : Prop := x.length = l.length ∧ bytesOk x ∧ ∀ j, j < 8 * l.length → Crc.bitL x j = Crc.bitL l j ^^^ tb a t i j

theorem turned_same {l x : List Int} {a t : Int} {i : Nat} (h : Turned l x a t i) (hz : ∀ j : Nat, j < 8 * l.length → (j : Int) = a + i → 0 ≤ a → t.toNat / 2 ^ i % 2 = 0) : Turned l x a t (i + 1) := by
  refine ⟨h.1, h.2.1, fun j hj => ?_⟩
  rw [h.2.2 j hj]
  congr 1
  unfold tb
  by_cases hc : 0 ≤ a ∧ a ≤ j ∧ (j : Int) < a + i
  · rw [if_pos hc, if_pos ⟨hc.1, hc.2.1, by omega⟩]
  · rw [if_neg hc]
    split
    · rename_i h2
      have : (j : Int) = a + i := by omega
      rw [show ((j : Int) - a).toNat = i by omega, hz j hj this h2.1]
    · rfl

theorem set_bytes {x : List Int} {p : Nat} {v : Int} (h : bytesOk x) (hv : 0 ≤ v ∧ v < 256) : bytesOk (x.set p v) := by
  intro y hy
  rcases List.mem_or_eq_of_mem_set hy with h1 | h1
  · exact h y h1
  · rw [h1]; exact hv

theorem bit_pow (q k : Nat) : (2 ^ q) / 2 ^ k % 2 = if k = q then 1 else 0 := by
  by_cases h : k = q
  · subst h; rw [if_pos rfl, Nat.div_self (Nat.two_pow_pos _)]
  · rw [if_neg h]
    rcases Nat.lt_or_gt_of_ne h with h1 | h1
    · obtain ⟨d, rfl⟩ : ∃ d, q = k + 1 + d := ⟨q - k - 1, by omega⟩
      rw [show k + 1 + d = k + (1 + d) by omega, Nat.pow_add, Nat.mul_div_cancel_left _ (Nat.two_pow_pos _), Nat.pow_add]; omega
    · rw [Nat.div_eq_of_lt (Nat.pow_lt_pow_right (by decide) h1)]

theorem shift_xor' (m k j : Nat) : (m ^^^ k) / 2 ^ j % 2 = (m / 2 ^ j % 2) ^^^ (k / 2 ^ j % 2) := by
  rw [← Nat.shiftRight_eq_div_pow, ← Nat.shiftRight_eq_div_pow, ← Nat.shiftRight_eq_div_pow, Nat.shiftRight_xor_distrib]
  have := Nat.xor_mod_two_pow (a := m >>> j) (b := k >>> j) (n := 1)
  simpa using this

theorem turned_flip {l x : List Int} {a t : Int} {i : Nat} (h : Turned l x a t i) (ha : 0 ≤ a) (hp : (a + i).toNat < 8 * l.length) (ho : t.toNat / 2 ^ i % 2 = 1) (m : Nat) (hm : x[(a + i).toNat / 8]? = some (m : Int)) (hm8 : m < 256) :
    Turned l (x.set ((a + i).toNat / 8) ((m ^^^ 2 ^ ((a + i).toNat % 8) : Nat) : Int)) a t (i + 1) := by
  have hq : 2 ^ ((a + i).toNat % 8) < 256 := Nat.lt_of_lt_of_le (Nat.pow_lt_pow_right (a := 2) (m := (a + i).toNat % 8) (n := 8) (by decide) (by omega)) (by decide)
  have hx := Nat.xor_lt_two_pow (n := 8) hm8 hq
  refine ⟨by rw [List.length_set]; exact h.1, set_bytes h.2.1 (by omega), fun j hj => ?_⟩
  obtain ⟨P, hP⟩ : ∃ P, (a + i).toNat = P := ⟨_, rfl⟩
  rw [hP] at hp hm hq hx ⊢
  have hset : Crc.bitL (x.set (P / 8) ((m ^^^ 2 ^ (P % 8) : Nat) : Int)) j = Crc.bitL x j ^^^ (if j = P then 1 else 0) := by
    unfold Crc.bitL
    rw [List.getD_eq_getElem?_getD, List.getElem?_set, List.getD_eq_getElem?_getD]
    by_cases hj8 : P / 8 = j / 8
    · rw [if_pos hj8, if_pos (by rw [h.1]; omega), ← hj8, hm]
      simp only [Option.getD_some, Int.toNat_natCast]
      rw [shift_xor', bit_pow]
      congr 1
      by_cases e : j = P
      · rw [if_pos e, if_pos (by omega)]
      · rw [if_neg e, if_neg (by omega)]
    · rw [if_neg hj8, if_neg (by omega), Nat.xor_zero]
  rw [hset, h.2.2 j hj, Nat.xor_assoc]
  congr 1
  unfold tb
  by_cases e : j = P
  · rw [if_pos e, if_neg (by omega), if_pos (by omega), show ((j : Int) - a).toNat = i by omega, ho]; rfl
  · rw [if_neg e, Nat.xor_zero]
    by_cases hc : 0 ≤ a ∧ a ≤ j ∧ (j : Int) < a + i
    · rw [if_pos hc, if_pos ⟨hc.1, hc.2.1, by omega⟩]
    · rw [if_neg hc, if_neg (by omega)]

theorem map_inj : ∀ {a b : List Int}, bytesOk a → bytesOk b → a.map (fun n => UInt8.ofNat n.toNat) = b.map (fun n => UInt8.ofNat n.toNat) → a = b
  | [], [], _, _, _ => rfl
  | [], _ :: _, _, _, h => by simp at h
  | _ :: _, [], _, _, h => by simp at h
  | x :: a, y :: b, ha, hb, h => by
    simp only [List.map_cons, List.cons.injEq] at h
    have hx := ha x (List.mem_cons_self ..)
    have hy := hb y (List.mem_cons_self ..)
    have e : x = y := by
      have := congrArg UInt8.toNat h.1
      simp only [UInt8.toNat_ofNat'] at this
      omega
    rw [e, map_inj (fun z hz => ha z (List.mem_cons_of_mem _ hz)) (fun z hz => hb z (List.mem_cons_of_mem _ hz)) h.2]
theorem str_inj {a b : List Int} (ha : bytesOk a) (hb : bytesOk b) (h : (strOfNums a).toList = (strOfNums b).toList) : a = b := by
  rw [Lib.toList_data, Lib.toList_data] at h
  exact map_inj ha hb h

theorem bits_list {a b : List Int} (ha : bytesOk a) (hb : bytesOk b) (hl : a.length = b.length) (h : ∀ j, j < 8 * b.length → Crc.bitL a j = Crc.bitL b j) : a = b := by
  apply List.ext_getElem? 
  intro p
  by_cases hp : p < b.length
  · rw [List.getElem?_eq_getElem (by omega), List.getElem?_eq_getElem hp]
    have h1 := ha _ (List.getElem_mem (show p < a.length by omega))
    have h2 := hb _ (List.getElem_mem hp)
    have e : a[p].toNat = b[p].toNat := by
      apply Nat.eq_of_testBit_eq
      intro q
      by_cases hq : q < 8
      · have := h (8 * p + q) (by omega)
        unfold Crc.bitL at this
        rw [show (8 * p + q) / 8 = p by omega, show (8 * p + q) % 8 = q by omega, List.getD_eq_getElem?_getD, List.getD_eq_getElem?_getD, List.getElem?_eq_getElem (by omega), List.getElem?_eq_getElem hp, Option.getD_some, Option.getD_some] at this
        rw [Nat.testBit_eq_decide_div_mod_eq, Nat.testBit_eq_decide_div_mod_eq, this]
      · rw [Nat.testBit_lt_two_pow (Nat.lt_of_lt_of_le (by omega : a[p].toNat < 2 ^ 8) (Nat.pow_le_pow_right (by decide) (by omega))), Nat.testBit_lt_two_pow (Nat.lt_of_lt_of_le (by omega : b[p].toNat < 2 ^ 8) (Nat.pow_le_pow_right (by decide) (by omega)))]
    congr 1
    omega
  · rw [List.getElem?_eq_none (by omega), List.getElem?_eq_none (by omega)]

/-- Behind the loop: the sums are the same only where the bytes are. -/
theorem burst_end {l x : List Int} {a t : Int} (hl : bytesOk l) (h : Turned l x a t 32) (he : Crc.ofN l = Crc.ofN x) : l = x := by
  have he2 : Crc.reg l Crc.M = Crc.reg x Crc.M := by
    have := congrArg (· ^^^ Crc.M) he
    simpa only [Crc.ofN, Crc.xorMM] using this
  by_cases hc : 0 ≤ a ∧ a < 8 * (l.length : Int)
  · obtain ⟨A, rfl⟩ := Int.eq_ofNat_of_zero_le hc.1
    have hA : A < 8 * l.length := by omega
    obtain ⟨w, hw⟩ : ∃ w, min 32 (8 * l.length - A) = w := ⟨_, rfl⟩
    have hT : t.toNat % 2 ^ w = 0 := by
      refine Crc.burst (Crc.bitL l) (Crc.bitL x) Crc.M A (8 * l.length) (t.toNat % 2 ^ w) w (by omega) (Nat.mod_lt _ (Nat.two_pow_pos _)) (by omega) (fun j hj => ?_) ?_
      · rw [h.2.2 j hj, ← Nat.xor_assoc, Nat.xor_self, Nat.zero_xor]
        unfold tb
        by_cases hjj : A ≤ j ∧ j < A + w
        · rw [if_pos hjj, if_pos (by omega), show ((j : Int) - (A : Int)).toNat = j - A by omega]
          unfold Crc.bit
          obtain ⟨d, hd⟩ : ∃ d, w = (j - A) + 1 + d := ⟨w - (j - A) - 1, by omega⟩
          rw [hd, show j - A + 1 + d = (j - A) + (1 + d) by omega]
          have hmd : t.toNat % 2 ^ (j - A + (1 + d)) / 2 ^ (j - A) = t.toNat / 2 ^ (j - A) % 2 ^ (1 + d) := by
            rw [Nat.pow_add, Nat.mod_mul_right_div_self]
          rw [hmd, Nat.pow_add, Nat.pow_one, Nat.mod_mod_of_dvd _ (Nat.dvd_mul_right 2 _)]
        · rw [if_neg hjj, if_neg (by omega)]
      · unfold Crc.reg at he2
        rw [h.1] at he2
        exact he2
    refine (bits_list h.2.1 hl h.1 (fun j hj => ?_)).symm
    rw [h.2.2 j hj]
    have : tb A t 32 j = 0 := by
      unfold tb
      split
      · rename_i h2
        rw [show ((j : Int) - (A : Int)).toNat = j - A by omega]
        obtain ⟨q, hq⟩ : ∃ q, t.toNat = 2 ^ w * q := ⟨t.toNat / 2 ^ w, (Nat.mul_div_cancel' (Nat.dvd_of_mod_eq_zero hT)).symm⟩
        obtain ⟨d, hd⟩ : ∃ d, w = (j - A) + (1 + d) := ⟨w - (j - A) - 1, by omega⟩
        rw [hq, hd, Nat.pow_add, Nat.mul_assoc, Nat.mul_div_cancel_left _ (Nat.two_pow_pos _), Nat.pow_add, Nat.pow_one, Nat.mul_assoc]
        omega
      · rfl
    rw [this, Nat.xor_zero]
  · refine (bits_list h.2.1 hl h.1 (fun j hj => ?_)).symm
    rw [h.2.2 j hj]
    have : tb a t 32 j = 0 := by
      unfold tb
      rw [if_neg (by omega)]
    rw [this, Nat.xor_zero]

theorem burst_loop (l : List Int) (a t : Int) (hb : bytesOk l) (hlen : l.length ≤ 140737488351232) (ha1 : -9223372036854775808 ≤ a) (ha2 : a ≤ 9223372036854775807) (ht0 : 0 ≤ t) (ht1 : t < 4294967296) :
    ∀ (d i k : Nat) (x : List Int), i + d = 32 → d < k → Turned l x a t i → rialtolaw04_SumBurst.l0 k l a t x i = some true := by
  intro d
  induction d with
  | zero =>
    intro i k x hi hk hT
    obtain ⟨k, rfl⟩ : ∃ m, k = m + 1 := ⟨k - 1, by omega⟩
    obtain rfl : i = 32 := by omega
    have e1 : rialtolaw04_alive.f = some true := rfl
    have e2 : sum_Of.f l = some ((Crc.ofN l : Nat) : Int) := if_pos hb
    have e3 : sum_Of.f x = some ((Crc.ofN x : Nat) : Int) := if_pos hT.2.1
    simp only [rialtolaw04_SumBurst.l0]
    rw [if_neg (by omega), e1]
    simp only [Option.bind_some, if_true]
    rw [e2]
    simp only [Option.bind_some]
    rw [e3]
    simp only [Option.bind_some]
    by_cases h : Crc.ofN l = Crc.ofN x
    · have hlx := burst_end hb hT h
      rw [← hlx]; simp
    · have hne : ¬ (strOfNums l).toList = (strOfNums x).toList := fun e => h (by rw [str_inj hb hT.2.1 e])
      have h1 : ((strOfNums l).toList == (strOfNums x).toList) = false := beq_eq_false_iff_ne.2 hne
      have h2 : (((Crc.ofN l : Nat) : Int) == ((Crc.ofN x : Nat) : Int)) = false := beq_eq_false_iff_ne.2 (by omega)
      rw [h1, h2]; rfl
  | succ d ih =>
    intro i k x hi hk hT
    obtain ⟨k, rfl⟩ : ∃ m, k = m + 1 := ⟨k - 1, by omega⟩
    have w1 : wrap64 ((i : Int) + 1) = ((i + 1 : Nat) : Int) := by unfold wrap64; omega
    have w2 : wrap64 (wrap64 (wrap64 (8 * (l.length : Int)) - 1) - i) = 8 * (l.length : Int) - 1 - i := by unfold wrap64; omega
    simp only [rialtolaw04_SumBurst.l0]
    rw [if_pos (by omega), w1, w2]
    have hsh : shr .u32 t i = ((t.toNat / 2 ^ i : Nat) : Int) := by
      unfold shr
      rw [show min ((i : Int)).toNat IntKind.u32.bits = i by simp [IntKind.bits]; omega, show t = ((t.toNat : Nat) : Int) by omega]
      simp
    by_cases c1 : a < 0
    · rw [if_pos c1]
      exact ih (i + 1) k x (by omega) (by omega) (turned_same hT (fun j hj _ h0 => by omega))
    rw [if_neg c1]
    by_cases c2 : a > 8 * (l.length : Int) - 1 - i
    · rw [if_pos c2]
      exact ih (i + 1) k x (by omega) (by omega) (turned_same hT (fun j hj e _ => by omega))
    rw [if_neg c2, if_pos (by omega), hsh, and32 _ (Nat.lt_of_le_of_lt (Nat.div_le_self _ _) (by omega))]
    by_cases c3 : t.toNat / 2 ^ i % 2 = 0
    · rw [if_pos (by omega)]
      exact ih (i + 1) k x (by omega) (by omega) (turned_same hT (fun j hj e _ => c3))
    have hbit : t.toNat / 2 ^ i % 2 = 1 := by omega
    rw [if_neg (by omega)]
    have w3 : wrap64 (a + i) = (((a + i).toNat : Nat) : Int) := by unfold wrap64; omega
    rw [w3]
    have hP : (a + i).toNat < 8 * l.length := by omega
    obtain ⟨P, hPe⟩ : ∃ P, (a + i).toNat = P := ⟨_, rfl⟩
    have hflip := turned_flip hT (by omega) hP hbit
    rw [hPe] at hP hflip ⊢
    have w4 : wrap64 (Int.tdiv (P : Int) 8) = ((P / 8 : Nat) : Int) := by
      rw [Int.tdiv_eq_ediv_of_nonneg (by omega)]; unfold wrap64; omega
    have w5 : Int.tmod (P : Int) 8 = ((P % 8 : Nat) : Int) := by
      rw [Int.tmod_eq_emod_of_nonneg (by omega)]; omega
    rw [w4, w5, if_pos (by omega), if_pos (by rw [hT.1]; omega), if_pos (by omega)]
    have hlt : P / 8 < x.length := by rw [hT.1]; omega
    have hbyte := hT.2.1 _ (List.getElem_mem hlt)
    obtain ⟨m, hm⟩ : ∃ m : Nat, x[P / 8] = (m : Int) := ⟨x[P / 8].toNat, by omega⟩
    have hm8 : m < 256 := by omega
    have hget : x[P / 8]? = some (m : Int) := by rw [List.getElem?_eq_getElem hlt, hm]
    have hrd : rd x ((P / 8 : Nat) : Int) = (m : Int) := by
      unfold rd
      rw [show (((P / 8 : Nat) : Int)).toNat = P / 8 from rfl, List.getD_eq_getElem?_getD, hget]; rfl
    have hq : 2 ^ (P % 8) < 256 := Nat.lt_of_lt_of_le (Nat.pow_lt_pow_right (a := 2) (m := P % 8) (n := 8) (by decide) (by omega)) (by decide)
    have hshl : shl .u8 1 ((P % 8 : Nat) : Int) = ((2 ^ (P % 8) : Nat) : Int) := by
      unfold shl
      rw [show min (((P % 8 : Nat) : Int)).toNat IntKind.u8.bits = P % 8 by simp [IntKind.bits]; omega, IntKind.wrap_u8]
      have e2 : (1 : Int) * 2 ^ (P % 8) = ((2 ^ (P % 8) : Nat) : Int) := by simp
      rw [e2]
      have h256 := Int.ofNat_lt.2 hq
      exact Int.emod_eq_of_lt (Int.natCast_nonneg _) h256
    rw [hrd, hshl, xor8 m _ hm8 hq, show (((P / 8 : Nat) : Int)).toNat = P / 8 from rfl]
    exact ih (i + 1) k _ (by omega) (by omega) (hflip m hget hm8)

theorem burst_pure (l : List Int) (a t : Int) (hb : bytesOk l) (hlen : l.length ≤ 140737488351232) (ha1 : -9223372036854775808 ≤ a) (ha2 : a ≤ 9223372036854775807) (ht0 : 0 ≤ t) (ht1 : t < 4294967296) : rialtolaw04_SumBurst.f 33 l a t = some true := by
  unfold rialtolaw04_SumBurst.f
  simp only [Option.bind_some, List.nil_append, List.length_nil]
  rw [if_pos (by omega)]
  refine burst_loop l a t hb hlen ha1 ha2 ht0 ht1 32 0 33 l (by omega) (by omega) ⟨rfl, hb, fun j hj => ?_⟩
  have : tb a t 0 j = 0 := by unfold tb; rw [if_neg (by omega)]
  rw [this, Nat.xor_zero]

theorem burst_law (A0 : Option Addr) (c0 : Nat) (l0 : List Int) (a t : Int) (w : World) (hr0 : Kd.C (Kd.int .u8) w A0 l0.length l0) (hc0 : l0.length ≤ c0) (b0 : bytesOk l0) (h0 : l0.length * 1 ≤ 140737488351232)
    (ha : (Lit.int .i64 a).wf = true) (ht : (Lit.int .u32 t).wf = true) :
    Calls Try.prog 5 #[.slice A0 l0.length c0, .int .i64 a, .int .u32 t] w fun e w' => e = .returned (.bool true) ∧ Below w.heap.size w w' := by
  simp only [Lit.wf, Bool.and_eq_true, decide_eq_true_eq] at ha ht
  have e1 : IntKind.i64.min = -9223372036854775808 := rfl
  have e2 : IntKind.i64.max = 9223372036854775807 := rfl
  have e3 : IntKind.u32.min = 0 := rfl
  have e4 : IntKind.u32.max = 4294967295 := rfl
  exact rialtolaw04_SumBurst.calls 33 A0 c0 l0 a t true w hr0 hc0 (burst_pure l0 a t b0 (by omega) (by omega) (by omega) (by omega) (by omega))
end Go.Proofs.Ytcfibadhikohfaa.Giv
