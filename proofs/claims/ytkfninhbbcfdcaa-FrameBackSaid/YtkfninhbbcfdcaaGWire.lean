/- What the functions of the package wire come to. -/
import Derived.Test.YtkfninhbbcfdcaaPFrameTellsx0
import Derived.Test.YtkfninhbbcfdcaaGRun
namespace Go.Proofs.Ytkfninhbbcfdcaa.Giv
open Go.RowKit Go.Proofs.YtkfninhbbcfdcaaW.PrintWords Go.Proofs.YtkfninhbbcfdcaaW.PrintLast Go.Proofs.YtkfninhbbcfdcaaW.PrintMore
set_option linter.unusedVariables false
set_option linter.unusedSimpArgs false
theorem info5 : (Try.prog.info? 5).map (fun i => (i.zero, i.size, i.bytes)) = some (some (.int .u8 0), 1, 1) := by kernel_rfl

theorem own_calls (A0 : Option Addr) (n c : Nat) (w : World) (hc : n ≤ c) : Calls Try.prog 63 #[.slice A0 n c] w fun e w' => e = .returned (.slice A0 n n) ∧ w = w' := by
  go_enter Try.func63, Try.ntmps63
  go_wp2_with fail
  go_ret
  exact ⟨by simp, rfl⟩

def fitI (a : Int) : Int := if a < 1 then 1 else if 8 < a then 8 else a
theorem fitI_bd (a : Int) : 1 ≤ fitI a ∧ fitI a ≤ 8 := by unfold fitI; split <;> (try split) <;> omega
section
attribute [local go_sem] max2_int min2_int max_two min_two
theorem fit_calls (a0 : Int) (w : World) : Calls Try.prog 64 #[.int .i64 a0] w fun e w' => e = .returned (.int .i64 (fitI a0)) ∧ w = w' := by
  go_enter Try.func64, Try.ntmps64
  go_wp2
  all_goals go_ret
  all_goals refine ⟨?_, rfl⟩
  all_goals simp [fitI]
  all_goals grind
end

/-- The low k bytes of n, the highest first. -/
def beB : Nat → Nat → List Int
  | 0, _ => []
  | k + 1, n => ((n / 256 ^ k % 256 : Nat) : Int) :: beB k n
theorem beB_length (k n : Nat) : (beB k n).length = k := by
  induction k with
  | zero => rfl
  | succ k ih => simp [beB, ih]

theorem byte_shr (n : Nat) (i : Nat) : ((n : Int) / 2 ^ (8 * i)) % 256 = ((n / 256 ^ i % 256 : Nat) : Int) := by
  rw [show (2 : Int) ^ (8 * i) = ((256 ^ i : Nat) : Int) by rw [Int.pow_mul]; simp]
  omega
theorem beB_step {x l : List Int} {g q n : Nat} (h : x ++ beB (g + 1) n = l ++ beB q n) : (x ++ [((n : Int) / 2 ^ (8 * g)) % 256]) ++ beB g n = l ++ beB q n := by
  rw [byte_shr, List.append_assoc, ← h]; rfl

set_option maxHeartbeats 4000000 in
set_option maxRecDepth 100000 in
theorem Num_calls (A0 : Option Addr) (c0 : Nat) (l0 : List Int) (n : Nat) (size : Int) (w : World) (hr0 : Kd.C (Kd.int .u8) w A0 l0.length l0) (hc0 : l0.length ≤ c0) (hn : n < 18446744073709551616) (hl : l0.length + 8 < 140737488355328) :
    Calls Try.prog 51 #[.slice A0 l0.length c0, .int .u64 n, .int .i64 size] w fun e w' => ∃ v, e = .returned v ∧ Kd.R (Kd.int .u8) 5 w' w.heap.size (fun _ => True) v (l0 ++ beB (fitI size).toNat n) ∧ Below w.heap.size w w' := by
  have HR := Aside0.mk hr0
  have HC := Aside0.mk hc0
  have HN := Aside0.mk hn
  have HL := Aside0.mk hl
  have HB := Aside0.mk (Below.refl w.heap.size w)
  obtain ⟨q, hq⟩ : ∃ q : Nat, (q : Int) = fitI size ∧ 1 ≤ q ∧ q ≤ 8 := ⟨(fitI size).toNat, by have := fitI_bd size; omega, by have := fitI_bd size; omega, by have := fitI_bd size; omega⟩
  obtain ⟨hq0, hq1, hq2⟩ := hq
  have HQ := Aside0.mk hq0
  have HT : Aside0 (l0 ++ beB q n = l0 ++ beB (fitI size).toNat n) := ⟨by rw [← HQ.out]; rfl⟩
  clear hr0 hc0 hn hl hq0
  go_enter Try.func51, Try.ntmps51
  go_wp2_with (first
    | ((with_reducible refine gate_dst (N := 9) rfl ?_); refine Kd.R_lit (Kd.int .u8) _ 5 ?hg (N := 9) ?hd (xs := ([] : List Int)) (inner := []) (ok := fun _ => True) (okp := fun _ => True) ?hr ?hp (fun _ hk => hk) trivial (Below.refl _ _) (Nat.le_refl _) (by simp) ?_; (case hd => rfl); (case hg => rfl); (case hr => first | (go_simp; done) | (go_simp; rfl)); (case hp => exact (Reps.none _ _)); intro v9 w9 ho9 hb hg_ hnew_; clear hg_ hnew_; have HO9 := Aside0.mk (Kd.R_lower ho9 (below_size HB.out)); have HB9 := Aside0.mk (below_step HB.out hb); clear hb ho9; obtain ⟨A9, c9, e9⟩ := Kd.R_slice HO9.out; subst e9)
    | fail)
  refine (own_calls A0 l0.length c0 _ HC.out).mono ?_
  rintro e w1 ⟨rfl, rfl⟩
  go_wp2_with (first
    | ((with_reducible refine gate_builtin (b := .append) (xs := #[.tmp 9, .tmp 11]) rfl ?_); at_builtin; refine Kd.R_append_rows (Kd.int .u8) (w0 := w) w.heap.size rfl (.tmp 9) (.tmp 11) 22 5 (.int .u8 0) 1 rfl Try.underlying22 info5 rfl (by decide) (by omega) (.slice A9 0 c9) ([] : List Int) l0 _ _ _ (fun _ => True) (fun _ => False) rfl rfl ?aO ?aR (fun _ _ h => h) (fun _ h => h.elim) ?aF ?aB ?aS ?aL ?_; (case aR => exact (Kd.C_below HR.out HB9.out)); (case aB => exact HB9.out); (case aF => exact (fun _ _ => trivial)); (case aO => exact HO9.out); (case aS => exact (below_size HB9.out)); (case aL => have := HL.out; simp; omega); intro v12 w10 ho hb hg hat; rw [List.nil_append] at ho; clear HB HO9 HB9; have HB := Aside0.mk hb; have HO := Aside0.mk ho; clear ho hb hg hat; obtain ⟨A12, c12, e12⟩ := Kd.R_slice HO.out; subst e12)
    | fail)
  refine (fit_calls _ _).mono ?_
  rintro e w2 ⟨rfl, rfl⟩
  rw [← HQ.out]
  go_wp2
  clear HR HC
  go_loopg [7, 8] q (fun kq v7 v8 w' => ∃ (x7 : List Int), v8 = .int .i64 ((kq : Int) - 1) ∧ Aside0 (Kd.R (Kd.int .u8) 5 w' w.heap.size (fun _ => True) v7 x7) ∧ Aside0 (Below w.heap.size w w') ∧ Aside0 (x7 ++ beB kq n = l0 ++ beB q n) ∧ kq ≤ q)
  case atStart => exact ⟨_, rfl, HO, HB, ⟨rfl⟩, Nat.le_refl _⟩
  case round =>
    clear HB HO
    obtain ⟨x7, rfl, HO, HB, HX, hk⟩ := hrel
    obtain ⟨A7, c7, e7⟩ := Kd.R_slice HO.out
    subst e7
    cases gk with
    | zero =>
      clear hk hq1 hq2
      have HX' : Aside0 (x7 = l0 ++ beB (fitI size).toNat n) := ⟨by rw [← HT.out, ← HX.out]; exact (List.append_nil _).symm⟩
      clear HX HT
      go_wp2
      go_ret
      exact ⟨_, rfl, by rw [← HX'.out]; exact HO.out, HB.out⟩
    | succ g =>
      have hg7 : g ≤ 7 := by omega
      have hx7 : x7.length + 1 < 140737488355328 := by
        have := congrArg List.length HX.out
        simp only [List.length_append, beB_length] at this
        have := HL.out
        omega
      have HX7 := Aside0.mk hx7
      have HY : Aside0 (g ≤ q) := ⟨by omega⟩
      clear hg7
      have hg7 : g ≤ 7 := by omega
      clear hx7 hk hq1 hq2
      have HX2 := Aside0.mk (beB_step HX.out)
      clear HX
      go_wp2_with (first
        | ((with_reducible refine gate_dst (N := 26) rfl ?_); refine Kd.R_lit (Kd.int .u8) _ 5 ?hg (N := 26) ?hd (xs := ([((n : Int) / 2 ^ (8 * g)) % 256] : List Int)) (inner := [.int .u8 (((n : Int) / 2 ^ (8 * g)) % 256)]) (ok := fun _ => True) (okp := fun _ => True) ?hr ?hp (fun _ hk => hk) trivial (Below.refl _ _) (Nat.le_refl _) (by simp) ?_; (case hd => rfl); (case hg => rfl); (case hr => first | (go_simp; done) | (go_simp; rfl)); (case hp => exact (Reps.one (show Kd.M (Kd.int .u8) _ _ _ (((n : Int) / 2 ^ (8 * g)) % 256) [.int .u8 (((n : Int) / 2 ^ (8 * g)) % 256)] from rfl) (Reps.none _ _))); intro v26 w26 ho26 hb hg_ hnew_; clear hg_ hnew_; (have n0_ := Aside0.mk (Kd.R_elder' HO.out (Kd.R_base ho26) hb)); (have n1_ := Aside0.mk (Kd.R_lower (Kd.R_new' ho26 (Kd.R_lt HO.out)) (below_size HB.out))); (have n2_ := Aside0.mk (below_step HB.out hb)); clear HO; clear HB; have HO := n0_; have HO26 := n1_; have HB := n2_; clear n0_ n1_ n2_; clear hb ho26; obtain ⟨A26, c26, e26⟩ := Kd.R_slice HO26.out; subst e26)
        | ((with_reducible refine gate_builtin (b := .append) (xs := #[.tmp 20, .tmp 26]) rfl ?_); at_builtin; refine Kd.R_append_rows (Kd.int .u8) (w0 := w) w.heap.size rfl (.tmp 20) (.tmp 26) 22 5 (.int .u8 0) 1 rfl Try.underlying22 info5 rfl (by decide) (by omega) (.slice A7 x7.length c7) x7 ([((n : Int) / 2 ^ (8 * g)) % 256] : List Int) _ _ _ (fun k_ => some k_ ≠ (.slice A26 1 c26 : Value).ownBlock) (fun _ => False) rfl rfl ?aO ?aR (fun _ _ h => h) (fun _ h => h.elim) ?aF ?aB ?aS ?aL ?_; (case aR => exact (Kd.R_reads' HO26.out).2.2); (case aB => exact HB.out); (case aF => exact (fun k_ hk => Kd.fresh' (Kd.R_lt HO26.out) k_ hk)); (case aO => exact Kd.R_mono HO.out (fun _ hk => hk.2)); (case aS => exact (below_size HB.out)); (case aL => have := HX7.out; simp; omega); intro v27 w27 ho hb hg hat; clear HO26 HB HO; have HB := Aside0.mk hb; have HO := Aside0.mk ho; clear ho hb hg hat)
        | fail)
      go_roundg g
      case measure => omega
      case rel => exact ⟨_, rfl, ⟨Kd.R_mono HO.out (fun _ _ => trivial)⟩, HB, HX2, by have := HY.out; omega⟩
end Go.Proofs.Ytkfninhbbcfdcaa.Giv
