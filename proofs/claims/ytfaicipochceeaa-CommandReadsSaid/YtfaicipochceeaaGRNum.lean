/- rialtoref02.size and Num (transplanted from rb GNum2). -/
import Derived.Test.YtfaicipochceeaaGWire2
namespace Go.Proofs.Ytfaicipochceeaa.Giv
open Go.RowKit Go.Proofs.YtfaicipochceeaaW.PrintWords Go.Proofs.YtfaicipochceeaaW.PrintLast Go.Proofs.YtfaicipochceeaaW.PrintMore
set_option linter.unusedVariables false
set_option linter.unusedSimpArgs false

theorem rsize_calls (a0 : Int) (w : World) : Calls Try.prog 58 #[.int .i64 a0] w fun e w' => e = .returned (.int .i64 (fitI a0)) ∧ w = w' := by
  by_cases h1 : a0 < 1
  · have e : fitI a0 = 1 := if_pos h1
    rw [e]
    clear e
    go_enter Try.func58, Try.ntmps58
    go_wp2_with fail
    go_ret
    exact ⟨rfl, rfl⟩
  · by_cases h2 : 8 < a0
    · have e : fitI a0 = 8 := by unfold fitI; rw [if_neg h1, if_pos h2]
      rw [e]
      clear e
      go_enter Try.func58, Try.ntmps58
      go_wp2_with fail
      go_ret
      exact ⟨rfl, rfl⟩
    · have e : fitI a0 = a0 := by unfold fitI; rw [if_neg h1, if_neg h2]
      rw [e]
      clear e
      go_enter Try.func58, Try.ntmps58
      go_wp2_with fail
      go_ret
      exact ⟨rfl, rfl⟩

def stN (l : List Int) (q k n : Nat) : List Int := l ++ List.replicate k 0 ++ beB (q - k) n
theorem info5s : (Try.prog.info? 5).map (·.size) = some 1 := by kernel_rfl
theorem stN_start (l zs : List Int) (q n : Nat) (h : List.replicate (l.length + q) 0 = zs) : l.take (min l.length zs.length) ++ zs.drop (min l.length zs.length) = stN l q q n := by
  subst h
  rw [List.length_replicate, Nat.min_eq_left (by omega), List.take_length, List.drop_replicate]
  unfold stN
  rw [show l.length + q - l.length = q by omega, Nat.sub_self]
  simp [beB]
theorem stN_len (l : List Int) (q k n : Nat) (h : k ≤ q) : (stN l q k n).length = l.length + q := by simp [stN, beB_length]; omega
theorem stN_step (l : List Int) (q k n : Nat) (h : k + 1 ≤ q) : (stN l q (k + 1) n).set (l.length + k) (((n / 256 ^ (q - (k + 1)) % 256 : Nat) : Int)) = stN l q k n := by
  unfold stN
  have e : q - k = (q - (k + 1)) + 1 := by omega
  rw [e, List.replicate_succ']
  simp only [beB, List.append_assoc, List.singleton_append]
  rw [List.set_append_right _ _ (by omega), List.set_append_right _ _ (by simp)]
  simp

set_option maxHeartbeats 8000000 in
set_option maxRecDepth 100000 in
theorem rNum_calls (A0 : Option Addr) (c0 : Nat) (l0 : List Int) (n : Nat) (size : Int) (w : World) (hr0 : Kd.C (Kd.int .u8) w A0 l0.length l0) (hc0 : l0.length ≤ c0) (hn : n < 18446744073709551616) (hl : l0.length + 8 < 140737488355328) :
    Calls Try.prog 47 #[.slice A0 l0.length c0, .int .u64 n, .int .i64 size] w fun e w' => ∃ v, e = .returned v ∧ Kd.R (Kd.int .u8) 5 w' w.heap.size (fun _ => True) v (l0 ++ beB (fitI size).toNat n) ∧ Below w.heap.size w w' := by
  have HR := Aside0.mk hr0
  have HL := Aside0.mk hl
  have HB := Aside0.mk (Below.refl w.heap.size w)
  obtain ⟨q, hq⟩ : ∃ q : Nat, (q : Int) = fitI size ∧ 1 ≤ q ∧ q ≤ 8 := ⟨(fitI size).toNat, by have := fitI_bd size; omega, by have := fitI_bd size; omega, by have := fitI_bd size; omega⟩
  obtain ⟨hq0, hq1, hq2⟩ := hq
  have HQ := Aside0.mk hq0
  have hl1 : (l0.length : Int) ≤ 140737488355320 := by omega
  have hq3 : (q : Int) ≤ 8 := by omega
  have hq4 : (1 : Int) ≤ q := by omega
  have HN := Aside0.mk hn
  clear hr0 hn hl hq0
  go_enter Try.func47, Try.ntmps47
  go_wp2_with fail
  refine (rsize_calls _ _).mono ?_
  rintro e w1 ⟨rfl, rfl⟩
  rw [← HQ.out]
  go_wp2_with (first
    | ((with_reducible refine gate_dst (N := 16) rfl ?_); refine Kd.R_make (Kd.int .u8) (w0 := w) w.heap.size 5 rfl (N := 16) rfl 31 (.tmp 15) (.tmp 15) rfl ((l0.length : Int) + q) rfl rfl Try.underlying31 (.int .u8 0) 1 info5 rfl (by decide) (by decide) 0 (ok := fun _ => True) (okp := fun _ => True) rfl (fun _ h => h) trivial (by omega) ?hl HB.out (Nat.le_refl _) ?_; (case hl => have := HL.out; omega); intro v16 w16 ho hb hg hnew; clear HB; have HB := Aside0.mk hb; obtain ⟨zs, hz⟩ : ∃ zs, List.replicate ((l0.length : Int) + q).toNat (0 : Int) = zs := ⟨_, rfl⟩; rw [hz] at ho; have HZ := Aside0.mk hz; have hz1 : (zs.length : Int) ≤ 140737488355328 := (by rw [← hz, List.length_replicate]; omega); have hz2 : (1 : Int) ≤ zs.length := (by rw [← hz, List.length_replicate]; omega); have HO := Aside0.mk ho; clear ho hb hg hnew hz; obtain ⟨A16, c16, e16⟩ := Kd.R_slice HO.out; subst e16)
    | ((with_reducible refine gate_builtin (b := .copy) (xs := #[.tmp 17, .tmp 18]) rfl ?_); refine Kd.R_copy (0 : Int) (w0 := w) w.heap.size rfl (.tmp 17) (.tmp 18) 31 31 5 rfl Try.underlying31 info5s (.slice A16 zs.length c16) zs l0 A0 l0.length c0 (fun _ => True) rfl rfl HO.out (Kd.C_below HR.out HB.out) HB.out HB.out.size ?_; intro w19 ho hb hg; rw [stN_start l0 zs q n (by rw [← HZ.out]; exact congrArg (fun z => List.replicate z (0 : Int)) (by omega))] at ho; clear HO HB; have HO := Aside0.mk ho; have HB := Aside0.mk hb; clear ho hb hg)
    | fail)
  have HZL : Aside0 (zs.length = l0.length + q) := ⟨by rw [← HZ.out, List.length_replicate]; omega⟩
  go_loopg [1, 9] q (fun kq v1 v9 w' => ∃ (m : Nat) (x9 : Int), v1 = .int .u64 m ∧ v9 = .int .i64 x9 ∧ kq ≤ q ∧ Aside0 (m = n / 256 ^ (q - kq)) ∧ Aside0 (x9 = (l0.length : Int) + kq - 1) ∧ Aside0 (Kd.R (Kd.int .u8) 5 w' w.heap.size (fun _ => True) (.slice A16 zs.length c16) (stN l0 q kq n)) ∧ Aside0 (Below w.heap.size w w'))
  case atStart => exact ⟨n, _, rfl, rfl, Nat.le_refl _, ⟨by simp⟩, ⟨by have := HZL.out; omega⟩, HO, HB⟩
  case round =>
    clear HB HO
    obtain ⟨m, x9, rfl, rfl, hk, HM, HX, HO, HB⟩ := hrel
    obtain ⟨ys, hy⟩ : ∃ ys, stN l0 q gk n = ys := ⟨_, rfl⟩
    rw [hy] at HO
    have hyl : ys.length = l0.length + q := by rw [← hy]; exact stN_len _ _ _ _ hk
    have hyz : ys.length = zs.length := by rw [hyl, HZL.out]
    have HM0 : Aside0 (m < 18446744073709551616) := ⟨by rw [HM.out]; exact Nat.lt_of_le_of_lt (Nat.div_le_self _ _) HN.out⟩
    have HY := Aside0.mk (And.intro hy hyl)
    cases gk with
    | zero =>
      obtain rfl : x9 = (l0.length : Int) - 1 := by have := HX.out; omega
      clear hy hyl hyz
      go_wp2_with fail
      go_ret
      refine ⟨_, rfl, ?_, HB.out⟩
      have e : stN l0 q 0 n = l0 ++ beB (fitI size).toNat n := by simp [stN, ← HQ.out]
      rw [← e, HY.out.1]
      exact HO.out
    | succ k =>
      obtain ⟨i, rfl⟩ : ∃ i : Nat, x9 = i := ⟨l0.length + k, by have := HX.out; omega⟩
      have hi : i = l0.length + k := by have := HX.out; omega
      have hil : (i : Int) < zs.length := by omega
      have hi0 : (l0.length : Int) ≤ i := by omega
      have him : (m : Int) < 18446744073709551616 := by have := HM0.out; omega
      obtain ⟨g, cap, e, hg, _, cells, hblk⟩ := Kd.R_form HO.out (by omega)
      rw [hyz] at e
      injection e with e1 e2 e3
      subst e1 e3
      obtain ⟨ad, had, hcell⟩ := Kd.at_int (Kd.R_reads' HO.out).2.2 i (by omega) (by omega)
      injection had with had
      subst had
      rw [Int.toNat_natCast, add_plain] at hcell
      have HI := Aside0.mk (And.intro hi hg)
      clear hi hg
      have hfr : wr.frozen? ⟨g, i, none⟩ = false := blk_frozen hblk i
      clear hy hyl hblk hyz
      go_wp2_with fail
      go_roundg k
      case measure => omega
      case rel =>
        have HP := Kd.R_putn HO.out (i : Int) ((m : Int) % 256)
        rw [Int.toNat_natCast] at HP
        have es : ys.set i ((m : Int) % 256) = stN l0 q k n := by
          rw [← stN_step l0 q k n hk, HY.out.1, HI.out.1, ← HM.out]
          congr 1
        rw [es] at HP
        refine ⟨m / 256, (i : Int) - 1, by go_num, rfl, by omega, ⟨?_⟩, ⟨?_⟩, ⟨HP⟩, ⟨below_set (j := i) (v := .int .u8 ((m : Int) % 256)) HB.out HI.out.2⟩⟩
        · rw [HM.out, Nat.div_div_eq_div_mul, ← Nat.pow_succ]
          congr 2
          omega
        · have := HI.out.1
          omega
end Go.Proofs.Ytfaicipochceeaa.Giv
