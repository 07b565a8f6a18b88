/- What sum.On, sum.Of, sum.Short and the law-package's alive compute, and that their texts come to just that. -/
import Derived.Test.YtkfninhbbcfdcaaProg
import Derived.Test.YtkfninhbbcfdcaaGCrc
import Derived.Below
import Derived.OwnWalk
import Derived.WalkKit
import Derived.KernelRfl
import Derived.RowKit3
import Derived.Deep.LoopGhost
import Derived.Deep.QuietTactic
import Derived.Laws.BitsLemmas
import Derived.RowKit
import Derived.Lib.SlBytesConst
import Derived.Test.YtkfninhbbcfdcaaWWords
import Derived.Test.YtkfninhbbcfdcaaWLast
import Derived.Test.YtkfninhbbcfdcaaWFour
import Derived.Test.YtkfninhbbcfdcaaWMore
namespace Go.Proofs.Ytkfninhbbcfdcaa.Giv
open Go.RowKit Go.Proofs.YtkfninhbbcfdcaaW.PrintWords Go.Proofs.YtkfninhbbcfdcaaW.PrintLast Go.Proofs.YtkfninhbbcfdcaaW.PrintMore
set_option linter.unusedVariables false
set_option linter.unusedSimpArgs false

/-- One step of the register. -/
def stepI (r : Int) : Int := if Go.bits .and .u32 r 1 = 1 then Go.bits .xor .u32 (r / 2) 2197175160 else r / 2
def innerI : Nat → Int → Int
  | 0, r => r
  | n + 1, r => innerI n (stepI r)
def onI : List Int → Int → Int
  | [], r => r
  | c :: cs, r => onI cs (innerI 8 (Go.bits .xor .u32 r (c % 4294967296)))
theorem drop_rd (l : List Int) (k : Int) (h0 : 0 ≤ k) (h : k < l.length) : l.drop k.toNat = rd l k :: l.drop (k + 1).toNat := by
  have h' : k.toNat < l.length := by omega
  rw [List.drop_eq_getElem_cons h', show (k + 1).toNat = k.toNat + 1 by omega]
  congr 1
  unfold rd
  simp [List.getD_eq_getElem?_getD, List.getElem?_eq_getElem h']
theorem on_round {l : List Int} {k : Int} {x r : Int} (h0 : 0 ≤ k) (h : k < l.length) (H : Go.bits .xor .u32 IntKind.u32.max (onI (l.drop k.toNat) x) = r) :
    Go.bits .xor .u32 IntKind.u32.max (onI (l.drop (k + 1).toNat) (innerI 8 (Go.bits .xor .u32 x (rd l k % 4294967296)))) = r := by
  rw [drop_rd l k h0 h] at H
  exact H
theorem on_end {l : List Int} {k : Int} {x r : Int} (h : (l.length : Int) ≤ k) (H : Go.bits .xor .u32 IntKind.u32.max (onI (l.drop k.toNat) x) = r) :
    Go.bits .xor .u32 IntKind.u32.max x = r := by
  rw [List.drop_eq_nil_of_le (by omega)] at H
  exact H
theorem inner_odd {n : Nat} {x T : Int} (h : (Go.bits .and .u32 x 1 == 1) = true) (H : innerI (n + 1) x = T) : innerI n (Go.bits .xor .u32 (x / 2) 2197175160) = T := by
  rw [innerI, stepI, if_pos (by simpa using h)] at H; exact H
theorem inner_even {n : Nat} {x T : Int} (h : (Go.bits .and .u32 x 1 == 1) = false) (H : innerI (n + 1) x = T) : innerI n (x / 2) = T := by
  rw [innerI, stepI, if_neg (by simpa using h)] at H; exact H

set_option maxHeartbeats 1000000 in
set_option maxRecDepth 100000 in
theorem On_walk (a0 : Int) (A1 : Option Addr) (c1 : Nat) (l1 : List Int) (r : Int) (w : World) (hr1 : Kd.C (Kd.int .u8) w A1 l1.length l1) (hc1 : l1.length ≤ c1) (h : Go.bits .xor .u32 IntKind.u32.max (onI l1 (Go.bits .xor .u32 IntKind.u32.max a0)) = r) :
    Calls Try.prog 70 #[.int .u32 a0, .slice A1 l1.length c1] w fun e w' => e = .returned (.int .u32 r) ∧ Drawn0 w w' := by
  have hlen : (l1.length : Int) ≤ 9223372036854775807 := by have := hr1.2.1; omega
  have HR1 := Aside0.mk hr1
  have HC1 := Aside0.mk hc1
  clear hr1 hc1
  have H : Aside0 (Go.bits .xor .u32 IntKind.u32.max (onI (l1.drop 0) (Go.bits .xor .u32 IntKind.u32.max a0)) = r) := Aside0.mk h
  clear h
  have hsg : IntKind.u32.signed = false := rfl
  go_enter Try.func70, Try.ntmps70
  go_wp2
  go_step3
  go_wp2
  go_step3
  go_wp2
  go_loopg [5, 14] l1.length (fun kq v5 v14 w' => ∃ (x5 : Int) (k : Int), 0 ≤ k ∧ k + kq = l1.length ∧ v5 = .int .u32 x5 ∧ v14 = .int .i64 k ∧ Aside0 (Go.bits .xor .u32 IntKind.u32.max (onI (l1.drop k.toNat) x5) = r) ∧ Drawn0 w w')
  case atStart => exact ⟨_, 0, by omega, by omega, rfl, rfl, H, Drawn0.refl _⟩
  case round =>
    clear H
    obtain ⟨x5, k, hk0, hk, rfl, rfl, HA, ⟨m1, rfl⟩⟩ := hrel
    by_cases hlt : k < l1.length
    · have hg : ∃ g, gk = g + 1 := ⟨gk - 1, by omega⟩
      obtain ⟨g, rfl⟩ := hg
      obtain ⟨ad, ead, hx⟩ := Kd.at_int HR1.out (k : Int) (by omega) (by omega)
      cases ead
      have HT := Aside0.mk (on_round hk0 hlt HA.out)
      clear HA
      have HK := Aside0.mk hk
      clear hk
      go_wp2
      go_loopg [5, 8] 8 (fun kr v5 v8 w' => ∃ (y i : Int), 0 ≤ i ∧ i + kr = 8 ∧ v5 = .int .u32 y ∧ v8 = .int .i64 i ∧ Aside0 (innerI kr y = innerI 8 (Go.bits .xor .u32 x5 (rd l1 k % 4294967296))) ∧ Drawn0 w w')
      case atStart => exact ⟨_, 0, by omega, by omega, rfl, rfl, ⟨rfl⟩, Drawn0.step (Drawn0.refl _) _⟩
      case round =>
        obtain ⟨y, i, hi0, hi, rfl, rfl, HY, ⟨m2, rfl⟩⟩ := hrel
        cases gk with
        | zero =>
          have e8 : i = 8 := by omega
          subst e8
          clear hi
          go_wp2
          go_roundg g
          case measure => omega
          case rel =>
            refine ⟨y, k + 1, by omega, by have := HK.out; omega, rfl, rfl, ?_, Drawn0.step (Drawn0.refl _) _⟩
            have e : y = _ := HY.out
            rw [e]
            exact HT
        | succ h =>
          have hne : (i == 8) = false := by simp; omega
          have hiu : i < 8 := by omega
          have HI := Aside0.mk hi
          clear hi
          by_cases ho : (Go.bits .and .u32 y 1 == 1) = true
          · have HY' := Aside0.mk (inner_odd ho HY.out)
            clear HY
            go_wp2
            go_roundg h
            case measure => omega
            case rel => exact ⟨_, i + 1, by omega, by have := HI.out; omega, rfl, rfl, HY', Drawn0.step (Drawn0.refl _) _⟩
          · have ho' : (Go.bits .and .u32 y 1 == 1) = false := by simpa using ho
            clear ho
            have HY' := Aside0.mk (inner_even ho' HY.out)
            clear HY
            go_wp2
            go_roundg h
            case measure => omega
            case rel => exact ⟨_, i + 1, by omega, by have := HI.out; omega, rfl, rfl, HY', Drawn0.step (Drawn0.refl _) _⟩
    · have HE := Aside0.mk (on_end (by omega) HA.out)
      clear HA
      go_wp2
      try rw [Exit.noGoto_ret]
      go_ret
      exact ⟨by simp only [hsg, Bool.false_eq_true, if_false, HE.out]; rfl, Drawn0.step (Drawn0.refl _) _⟩

/-! In natural numbers. -/
theorem xor_nat (k : IntKind) (hk : ∀ n : Int, 0 ≤ n → n < 2 ^ k.bits → k.wrap n = n) (a b : Nat) (ha : a < 2 ^ k.bits) (hb : b < 2 ^ k.bits) : Go.bits .xor k a b = ((a ^^^ b : Nat) : Int) := by
  have ha' : a % 2 ^ k.bits = a := Nat.mod_eq_of_lt ha
  have hb' : b % 2 ^ k.bits = b := Nat.mod_eq_of_lt hb
  simp only [Go.bits, BitVec.ofInt_natCast, BitVec.toNat_xor, BitVec.toNat_ofNat, ha', hb']
  exact hk _ (Int.natCast_nonneg _) (by exact_mod_cast Nat.xor_lt_two_pow ha hb)
theorem xor32 (a b : Nat) (ha : a < 4294967296) (hb : b < 4294967296) : Go.bits .xor .u32 a b = ((a ^^^ b : Nat) : Int) :=
  xor_nat .u32 (fun n h0 h1 => by rw [IntKind.wrap_u32]; exact Int.emod_eq_of_lt h0 h1) a b ha hb
theorem xor16 (a b : Nat) (ha : a < 65536) (hb : b < 65536) : Go.bits .xor .u16 a b = ((a ^^^ b : Nat) : Int) :=
  xor_nat .u16 (fun n h0 h1 => by
    have e : IntKind.u16.wrap n = n % 65536 := by simp [IntKind.wrap, IntKind.bits, IntKind.signed]
    rw [e]; exact Int.emod_eq_of_lt h0 h1) a b ha hb
theorem xor8 (a b : Nat) (ha : a < 256) (hb : b < 256) : Go.bits .xor .u8 a b = ((a ^^^ b : Nat) : Int) :=
  xor_nat .u8 (fun n h0 h1 => by rw [IntKind.wrap_u8]; exact Int.emod_eq_of_lt h0 h1) a b ha hb
theorem and32 (a : Nat) (ha : a < 4294967296) : Go.bits .and .u32 a 1 = ((a % 2 : Nat) : Int) := by
  have h := bits_mask .u32 32 (by decide) (fun n h0 h1 => by rw [IntKind.wrap_u32]; exact Int.emod_eq_of_lt h0 h1) 1 (by decide) (a : Int) (Int.natCast_nonneg _) (by exact_mod_cast ha)
  simpa using h
theorem stepI_nat (n : Nat) (h : n < 4294967296) : stepI n = ((Crc.step n : Nat) : Int) := by
  unfold stepI Crc.step
  rw [and32 n h]
  have e2 : ((n : Int) / 2) = ((n / 2 : Nat) : Int) := by omega
  by_cases ho : n % 2 = 1
  · rw [if_pos (by exact_mod_cast ho), if_pos ho, e2]
    exact xor32 (n / 2) 2197175160 (by omega) (by decide)
  · rw [if_neg (by exact_mod_cast ho), if_neg ho, e2]
theorem innerI_nat (k : Nat) : ∀ n : Nat, n < 4294967296 → innerI k n = ((Crc.iter k n : Nat) : Int) := by
  induction k with
  | zero => intro n _; rfl
  | succ k ih => intro n h; rw [innerI, stepI_nat n h, ih _ (Crc.step_lt h)]; rfl

/-- Each is a byte. -/
def bytesOk (l : List Int) : Prop := ∀ x ∈ l, 0 ≤ x ∧ x < 256
instance (l : List Int) : Decidable (bytesOk l) := inferInstanceAs (Decidable (∀ x ∈ l, 0 ≤ x ∧ x < 256))
theorem bytes_of {l : List Int} (h : ∀ x ∈ l, (Lit.int .u8 x).wf = true) : bytesOk l := fun x hx => by
  have h := h x hx
  simp only [Lit.wf, Bool.and_eq_true, decide_eq_true_eq] at h
  have e1 : IntKind.u8.min = 0 := rfl
  have e2 : IntKind.u8.max = 255 := rfl
  omega
theorem onI_nat (l : List Int) : ∀ n : Nat, n < 4294967296 → bytesOk l → onI l n = ((Crc.reg l n : Nat) : Int) := by
  induction l with
  | nil => intro n _ _; rfl
  | cons c cs ih =>
    intro n h hb
    obtain ⟨h0, h1⟩ := hb c (List.mem_cons_self ..)
    obtain ⟨m, rfl⟩ := Int.eq_ofNat_of_zero_le h0
    have hm : m < 256 := by omega
    have e : ((m : Int) % 4294967296) = (m : Int) := by omega
    have hx : n ^^^ m < 4294967296 := Nat.xor_lt_two_pow (n := 32) h (Nat.lt_trans hm (by decide))
    rw [onI, e, xor32 n m h (Nat.lt_trans hm (by decide)), innerI_nat 8 _ hx, ih _ (Crc.iter_lt hx) (fun x hxm => hb x (List.mem_cons_of_mem _ hxm)), Crc.reg_cons _ _ _ (by simpa using hm)]
    rfl

def sum_On.f (a : Int) (l : List Int) : Option Int := if 0 ≤ a ∧ a < 4294967296 ∧ bytesOk l then some (Crc.onN a.toNat l : Nat) else none
theorem sum_On.calls (a0 : Int) (A1 : Option Addr) (c1 : Nat) (l1 : List Int) (r : Int) (w : World) (hr1 : Kd.C (Kd.int .u8) w A1 l1.length l1) (hc1 : l1.length ≤ c1) (h : sum_On.f a0 l1 = some r) :
    Calls Try.prog 70 #[.int .u32 a0, .slice A1 l1.length c1] w fun e w' => e = .returned (.int .u32 r) ∧ Drawn0 w w' := by
  unfold sum_On.f at h
  split at h
  · rename_i hc
    obtain ⟨h0, h1, hb⟩ := hc
    obtain ⟨n, rfl⟩ := Int.eq_ofNat_of_zero_le h0
    have hn : n < 4294967296 := by omega
    have hM : IntKind.u32.max = ((Crc.M : Nat) : Int) := rfl
    have hMl : Crc.M < 4294967296 := by decide
    refine On_walk _ _ _ _ _ _ hr1 hc1 ?_
    rw [hM, xor32 _ _ hMl hn, onI_nat _ _ (Nat.xor_lt_two_pow (n := 32) hMl hn) hb, xor32 _ _ hMl (Crc.reg_lt (Nat.xor_lt_two_pow (n := 32) hMl hn))]
    have := Option.some.inj h
    rw [← this]
    unfold Crc.onN
    rw [Nat.xor_comm, Nat.xor_comm Crc.M]
    rfl
  · cases h

def sum_Of.f (l : List Int) : Option Int := if bytesOk l then some (Crc.ofN l : Nat) else none
theorem sum_Of.on {l : List Int} {r : Int} (h : sum_Of.f l = some r) : sum_On.f 0 l = some r := by
  unfold sum_Of.f at h
  split at h
  · rename_i hb
    unfold sum_On.f
    rw [if_pos ⟨by decide, by decide, hb⟩, ← h, ← Crc.onN_zero]
    rfl
  · cases h
set_option maxHeartbeats 8000000 in
set_option maxRecDepth 100000 in
theorem sum_Of.calls (A0 : Option Addr) (c0 : Nat) (l0 : List Int) (r : Int) (w : World) (hr0 : Kd.C (Kd.int .u8) w A0 l0.length l0) (hc0 : l0.length ≤ c0) (h : sum_Of.f l0 = some r) :
    Calls Try.prog 65 #[.slice A0 l0.length c0] w fun e w' => e = .returned (.int .u32 r) ∧ Drawn0 w w' := by
  have H := Aside0.mk (sum_Of.on h)
  go_enter Try.func65, Try.ntmps65
  go_wp2_with fail
  refine (sum_On.calls _ _ _ l0 _ _ hr0 hc0 H.out).mono ?_
  rintro e w' ⟨rfl, hd⟩
  go_wp2
  go_ret
  exact ⟨rfl, hd⟩

def shortN (l : List Int) : Nat := Crc.ofN l / 65536 ^^^ Crc.ofN l % 65536
theorem shortN_lt (l : List Int) : shortN l < 65536 := Nat.xor_lt_two_pow (n := 16) (by have := Crc.ofN_lt l; omega) (by omega)
def sum_Short.f (l : List Int) : Option Int := if bytesOk l then some (shortN l : Nat) else none
theorem u16_w (n : Int) : IntKind.u16.wrap n = n % 65536 := by simp [IntKind.wrap, IntKind.bits, IntKind.signed]
theorem short_eq (n : Nat) (h : n < 4294967296) : Go.bits .xor .u16 (IntKind.u16.wrap ((n : Int) / 65536)) (IntKind.u16.wrap (n : Int)) = ((n / 65536 ^^^ n % 65536 : Nat) : Int) := by
  rw [u16_w, u16_w]
  have e1 : (n : Int) / 65536 % 65536 = ((n / 65536 : Nat) : Int) := by omega
  have e2 : (n : Int) % 65536 = ((n % 65536 : Nat) : Int) := by omega
  rw [e1, e2, xor16 _ _ (by omega) (by omega)]
set_option maxHeartbeats 8000000 in
set_option maxRecDepth 100000 in
theorem sum_Short.calls (A0 : Option Addr) (c0 : Nat) (l0 : List Int) (r : Int) (w : World) (hr0 : Kd.C (Kd.int .u8) w A0 l0.length l0) (hc0 : l0.length ≤ c0) (h : sum_Short.f l0 = some r) :
    Calls Try.prog 52 #[.slice A0 l0.length c0] w fun e w' => e = .returned (.int .u16 r) ∧ Drawn0 w w' := by
  unfold sum_Short.f at h
  split at h
  · rename_i hb
    have e0 : sum_Of.f l0 = some ((Crc.ofN l0 : Nat) : Int) := if_pos hb
    have he := short_eq _ (Crc.ofN_lt l0)
    obtain rfl := Option.some.inj h
    unfold shortN
    have h0 : (0 : Int) ≤ ((Crc.ofN l0 : Nat) : Int) := Int.natCast_nonneg _
    generalize Crc.ofN l0 = n at *
    have H := Aside0.mk he
    clear he h
    go_enter Try.func52, Try.ntmps52
    go_wp2_with fail
    refine (sum_Of.calls _ _ l0 _ _ hr0 hc0 e0).mono ?_
    rintro e w' ⟨rfl, hd⟩
    go_wp2
    go_ret
    exact ⟨by rw [← H.out]; rfl, hd⟩
  · cases h

/-- A block that is known whole, its elements whole numbers, as a row that is read (whatever its mark). -/
theorem C_of_block {k : IntKind} {W : World} {g : Nat} {arr : Array Value} {e : TypeId} {fr : Nat × Nat} (xs : List Int) (h : W.heap[g]? = some (.cells arr e fr)) (ha : arr.toList = xs.map (Value.int k)) (hl : xs.length ≤ 9223372036854775807) :
    Kd.C (Kd.int k) W (some ⟨g, 0, none⟩) xs.length xs := by
  refine Kd.C_of_reads (enc := Value.int k) (d := (0 : Int)) (h1 := fun _ => rfl) ⟨rfl, hl, fun _ => ⟨_, rfl, fun j hj => ?_⟩⟩
  rw [show Addr.add ⟨g, 0, none⟩ j = ⟨g, j, none⟩ by simp only [Addr.add, Nat.zero_add]; split <;> simp_all, cell_of_row W g j arr e fr h, ← Array.getElem?_toList, ha, List.getElem?_map, List.getElem?_eq_getElem hj]
  simp [List.getD_eq_getElem?_getD, List.getElem?_eq_getElem hj]
/-- The same of the block that was laid last. -/
theorem C_new {k : IntKind} {W : World} {arr : Array Value} {e : TypeId} {fr : Nat × Nat} (xs : List Int) (ha : arr.toList = xs.map (Value.int k)) (hl : xs.length ≤ 9223372036854775807) :
    Kd.C (Kd.int k) (W.alloc (.cells arr e fr)) (some ⟨W.heap.size, 0, none⟩) xs.length xs := C_of_block xs (blk_new _ _) ha hl

theorem C_nil {k : IntKind} (W : World) (A : Option Addr) : Kd.C (Kd.int k) W A 0 [] := ⟨rfl, by decide, fun h => absurd h (by decide)⟩

end Go.Proofs.Ytkfninhbbcfdcaa.Giv
