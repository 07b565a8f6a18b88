/- What the functions of the package frame, and of its reference, come to. -/
import Derived.Test.YtkfninhbbcfdcaaGScan
namespace Go.Proofs.Ytkfninhbbcfdcaa.Giv
open Go.RowKit Go.Proofs.YtkfninhbbcfdcaaW.PrintWords Go.Proofs.YtkfninhbbcfdcaaW.PrintLast Go.Proofs.YtkfninhbbcfdcaaW.PrintMore
set_option linter.unusedVariables false
set_option linter.unusedSimpArgs false

def limI (a : Int) : Int := if a < 0 then 0 else if 255 < a then 255 else a
theorem limI_bd (a : Int) : 0 ≤ limI a ∧ limI a ≤ 255 := by unfold limI; split <;> (try split) <;> omega
section
attribute [local go_sem] max2_int min2_int max_two min_two
theorem limit_calls (a0 : Int) (w : World) : Calls Try.prog 50 #[.int .i64 a0] w fun e w' => e = .returned (.int .i64 (limI a0)) ∧ w = w' := by
  go_enter Try.func50, Try.ntmps50
  go_wp2
  all_goals go_ret
  all_goals refine ⟨?_, rfl⟩
  all_goals simp [limI]
  all_goals grind
end
theorem rlimit_calls (a0 : Int) (w : World) : Calls Try.prog 53 #[.int .i64 a0] w fun e w' => e = .returned (.int .i64 (limI a0)) ∧ w = w' := by
  by_cases h0 : a0 < 0
  · have HF : Aside0 (limI a0 = 0) := ⟨if_pos h0⟩
    go_enter Try.func53, Try.ntmps53
    go_wp2_with fail
    go_ret
    exact ⟨by rw [HF.out]; rfl, rfl⟩
  · by_cases h1 : 255 < a0
    · have HF : Aside0 (limI a0 = 255) := ⟨by unfold limI; rw [if_neg h0, if_pos h1]⟩
      go_enter Try.func53, Try.ntmps53
      go_wp2_with fail
      go_ret
      exact ⟨by rw [HF.out]; rfl, rfl⟩
    · have HF : Aside0 (limI a0 = a0) := ⟨by unfold limI; rw [if_neg h0, if_neg h1]⟩
      go_enter Try.func53, Try.ntmps53
      go_wp2_with fail
      go_ret
      exact ⟨by rw [HF.out]; rfl, rfl⟩

theorem fit1 : (fitI 1).toNat = 1 := by decide
theorem fit2 : (fitI 2).toNat = 2 := by decide
/-- The frame of bytes. -/
def frameB (b : List Int) : List Int := (beB 1 b.length ++ b) ++ beB 2 (shortN (beB 1 b.length ++ b))
def wrapB (b : List Int) (most : Int) : List Int := if (b.length : Int) > limI most then [] else frameB b
def wrapE (b : List Int) (most : Int) : Int := if (b.length : Int) > limI most then 13 else 0
theorem frameB_length (b : List Int) : (frameB b).length = b.length + 3 := by simp [frameB, beB_length]; omega
theorem beB_ok (k n : Nat) : bytesOk (beB k n) := by
  induction k with
  | zero => intro x hx; simp [beB] at hx
  | succ k ih =>
    intro x hx
    rcases List.mem_cons.1 hx with rfl | hx
    · constructor <;> omega
    · exact ih x hx
theorem bytesOk_app {a b : List Int} (ha : bytesOk a) (hb : bytesOk b) : bytesOk (a ++ b) := fun x hx => (List.mem_append.1 hx).elim (ha x) (hb x)
theorem frameB_ok {b : List Int} (hb : bytesOk b) : bytesOk (frameB b) := bytesOk_app (bytesOk_app (beB_ok _ _) hb) (beB_ok _ _)

set_option maxHeartbeats 4000000 in
set_option maxRecDepth 100000 in
theorem Wrap_calls (A0 : Option Addr) (c0 : Nat) (l0 : List Int) (a1 : Int) (w : World) (hr0 : Kd.C (Kd.int .u8) w A0 l0.length l0) (hc0 : l0.length ≤ c0) (hb0 : bytesOk l0) :
    Calls Try.prog 13 #[.slice A0 l0.length c0, .int .i64 a1] w fun e w' => ∃ v, e = .returned (.tuple #[v, .int .i64 (wrapE l0 a1)]) ∧ Kd.R (Kd.int .u8) 5 w' w.heap.size (fun _ => True) v (wrapB l0 a1) ∧ Below w.heap.size w w' := by
  have hlim := limI_bd a1
  have HR := Aside0.mk hr0
  have HC := Aside0.mk hc0
  have HB := Aside0.mk hb0
  have hlen : (l0.length : Int) ≤ 9223372036854775807 := by have := hr0.2.1; omega
  clear hr0 hc0 hb0
  by_cases hgt : (l0.length : Int) > limI a1
  · have HE : Aside0 (wrapE l0 a1 = 13 ∧ wrapB l0 a1 = []) := ⟨if_pos hgt, if_pos hgt⟩
    obtain ⟨m, hm⟩ : ∃ m : Int, limI a1 = m := ⟨_, rfl⟩
    rw [hm] at hgt hlim
    have HM := Aside0.mk hm
    clear hm
    go_enter Try.func13, Try.ntmps13
    go_wp2_with fail
    refine (limit_calls _ _).mono ?_
    rintro e w1 ⟨rfl, rfl⟩
    rw [HM.out]
    go_wp2_with fail
    go_ret2
    exact ⟨_, by rw [HE.out.1]; rfl, by rw [HE.out.2]; exact Kd.R_nil _ _ _ _ _, Below.refl _ _⟩
  · have HE : Aside0 (wrapE l0 a1 = 0 ∧ wrapB l0 a1 = frameB l0) := ⟨if_neg hgt, if_neg hgt⟩
    obtain ⟨m, hm⟩ : ∃ m : Int, limI a1 = m := ⟨_, rfl⟩
    rw [hm] at hgt hlim
    have HM := Aside0.mk hm
    clear hm
    have hl255 : l0.length ≤ 255 := by omega
    obtain ⟨y, hy⟩ : ∃ y : List Int, beB 1 l0.length = y := ⟨_, rfl⟩
    obtain ⟨f, hf⟩ : ∃ f : List Int, y ++ l0 = f := ⟨_, rfl⟩
    have HYL : Aside0 (y.length = 1 ∧ f.length ≤ 256) := ⟨by rw [← hy, beB_length], by rw [← hf, ← hy, List.length_append, beB_length]; omega⟩
    have HFB : Aside0 (bytesOk f) := ⟨by rw [← hf, ← hy]; exact bytesOk_app (beB_ok _ _) HB.out⟩
    have HEF : Aside0 (f ++ beB 2 (shortN f) = wrapB l0 a1) := ⟨by rw [HE.out.2, ← hf, ← hy]; rfl⟩
    have hs := shortN_lt f
    obtain ⟨s, hse⟩ : ∃ s : Nat, shortN f = s := ⟨_, rfl⟩
    rw [hse] at HEF hs
    have HSE := Aside0.mk hse
    have HY := Aside0.mk hy
    have HF := Aside0.mk hf
    clear hy hf hse
    go_enter Try.func13, Try.ntmps13
    go_wp2_with fail
    refine (limit_calls _ _).mono ?_
    rintro e w1 ⟨rfl, rfl⟩
    rw [HM.out]
    go_wp2_with fail
    refine (Num_calls none 0 [] l0.length 1 _ (C_nil _ _) (Nat.le_refl _) (by omega) (by simp)).mono ?_
    rintro e w1 ⟨v1, rfl, hR1, hB1⟩
    rw [List.nil_append, fit1, HY.out] at hR1
    have H1 := Aside0.mk hR1
    have HB1 := Aside0.mk hB1
    obtain ⟨A1, c1, rfl⟩ := Kd.R_slice hR1
    clear hR1 hB1
    go_wp2_with (first
      | ((with_reducible refine gate_builtin (b := .append) (xs := #[.tmp 15, .tmp 16]) rfl ?_); at_builtin; refine Kd.R_append_rows (Kd.int .u8) (w0 := w) w.heap.size rfl (.tmp 15) (.tmp 16) 22 5 (.int .u8 0) 1 rfl Try.underlying22 info5 rfl (by decide) (by omega) (.slice A1 y.length c1) y l0 _ _ _ (fun _ => True) (fun _ => False) rfl rfl ?aO ?aR (fun _ _ h => h) (fun _ h => h.elim) ?aF ?aB ?aS ?aL ?_; (case aR => exact (Kd.C_below HR.out HB1.out)); (case aB => exact HB1.out); (case aF => exact (fun _ _ => trivial)); (case aO => exact H1.out); (case aS => exact (below_size HB1.out)); (case aL => have := HYL.out; omega); intro v17 w17 ho hb hg hat; rw [HF.out] at ho; clear H1 HB1; have HB2 := Aside0.mk hb; have H2 := Aside0.mk ho; clear ho hb hg hat; obtain ⟨A2, c2, e2⟩ := Kd.R_slice H2.out; subst e2)
      | fail)
    refine (sum_Short.calls A2 c2 f (s : Int) _ (Kd.R_reads' H2.out).2.2 (Kd.R_reads' H2.out).2.1 (by rw [← HSE.out]; exact if_pos HFB.out)).mono ?_
    rintro e w3 ⟨rfl, hd⟩
    have H3 := Aside0.mk (Kd.R_below H2.out hd.below)
    have HB3 := Aside0.mk (below_step HB2.out hd.below)
    clear hd H2 HB2
    go_wp2_with fail
    refine (Num_calls A2 c2 f s 2 _ (Kd.R_reads' H3.out).2.2 (Kd.R_reads' H3.out).2.1 (by omega) (by have := HYL.out; omega)).mono ?_
    rintro e w4 ⟨v4, rfl, hR4, hB4⟩
    rw [fit2, HEF.out] at hR4
    have H4 := Aside0.mk (And.intro hR4 hB4)
    clear hR4 hB4
    go_wp2_with fail
    go_ret2
    exact ⟨_, by rw [HE.out.1]; rfl, Kd.R_lower H4.out.1 HB3.out.size, below_step HB3.out H4.out.2⟩

set_option maxHeartbeats 4000000 in
set_option maxRecDepth 100000 in
theorem rWrap_calls (A0 : Option Addr) (c0 : Nat) (l0 : List Int) (a1 : Int) (w : World) (hr0 : Kd.C (Kd.int .u8) w A0 l0.length l0) (hc0 : l0.length ≤ c0) (hb0 : bytesOk l0) :
    Calls Try.prog 14 #[.slice A0 l0.length c0, .int .i64 a1] w fun e w' => ∃ v, e = .returned (.tuple #[v, .int .i64 (wrapE l0 a1)]) ∧ Kd.R (Kd.int .u8) 5 w' w.heap.size (fun _ => True) v (wrapB l0 a1) ∧ Below w.heap.size w w' := by
  have hlim := limI_bd a1
  have HR := Aside0.mk hr0
  have HC := Aside0.mk hc0
  have HB := Aside0.mk hb0
  have hlen : (l0.length : Int) ≤ 9223372036854775807 := by have := hr0.2.1; omega
  clear hr0 hc0 hb0
  by_cases hgt : (l0.length : Int) > limI a1
  · have HE : Aside0 (wrapE l0 a1 = 13 ∧ wrapB l0 a1 = []) := ⟨if_pos hgt, if_pos hgt⟩
    obtain ⟨m, hm⟩ : ∃ m : Int, limI a1 = m := ⟨_, rfl⟩
    rw [hm] at hgt hlim
    have HM := Aside0.mk hm
    clear hm
    go_enter Try.func14, Try.ntmps14
    go_wp2_with fail
    refine (rlimit_calls _ _).mono ?_
    rintro e w1 ⟨rfl, rfl⟩
    rw [HM.out]
    go_wp2_with fail
    go_ret2
    exact ⟨_, by rw [HE.out.1]; rfl, by rw [HE.out.2]; exact Kd.R_nil _ _ _ _ _, Below.refl _ _⟩
  · have HE : Aside0 (wrapE l0 a1 = 0 ∧ wrapB l0 a1 = frameB l0) := ⟨if_neg hgt, if_neg hgt⟩
    obtain ⟨m, hm⟩ : ∃ m : Int, limI a1 = m := ⟨_, rfl⟩
    rw [hm] at hgt hlim
    have HM := Aside0.mk hm
    clear hm
    have hl255 : l0.length ≤ 255 := by omega
    obtain ⟨y, hy⟩ : ∃ y : List Int, beB 1 l0.length = y := ⟨_, rfl⟩
    have hy2 : [(l0.length : Int)] = y := by rw [← hy]; simp [beB]; omega
    obtain ⟨f, hf⟩ : ∃ f : List Int, y ++ l0 = f := ⟨_, rfl⟩
    have HYL : Aside0 (y.length = 1 ∧ f.length ≤ 256) := ⟨by rw [← hy, beB_length], by rw [← hf, ← hy, List.length_append, beB_length]; omega⟩
    have HFB : Aside0 (bytesOk f) := ⟨by rw [← hf, ← hy]; exact bytesOk_app (beB_ok _ _) HB.out⟩
    have HEF : Aside0 (f ++ beB 2 (shortN f) = wrapB l0 a1) := ⟨by rw [HE.out.2, ← hf, ← hy]; rfl⟩
    have hs := shortN_lt f
    obtain ⟨s, hse⟩ : ∃ s : Nat, shortN f = s := ⟨_, rfl⟩
    rw [hse] at HEF hs
    have HSE := Aside0.mk hse
    have HY := Aside0.mk hy2
    have HF := Aside0.mk hf
    clear hy hf hse hy2
    go_enter Try.func14, Try.ntmps14
    go_wp2_with fail
    refine (rlimit_calls _ _).mono ?_
    rintro e w1 ⟨rfl, rfl⟩
    rw [HM.out]
    have HB0 := Aside0.mk (Below.refl w.heap.size w)
    go_wp2_with (first
      | ((with_reducible refine gate_dst (N := 16) rfl ?_); refine Kd.R_lit (Kd.int .u8) _ 5 ?hg (N := 16) ?hd (xs := ([(l0.length : Int)] : List Int)) (inner := [.int .u8 (l0.length : Int)]) (ok := fun _ => True) (okp := fun _ => True) ?hr ?hp (fun _ hk => hk) trivial (Below.refl _ _) (Nat.le_refl _) (by simp) ?_; (case hd => rfl); (case hg => rfl); (case hr => first | (go_simp; done) | (go_simp; rfl)); (case hp => exact (Reps.one (show Kd.M (Kd.int .u8) _ _ _ (l0.length : Int) [.int .u8 (l0.length : Int)] from rfl) (Reps.none _ _))); intro v16 w16 ho hb hg_ hnew_; clear hg_ hnew_; rw [HY.out] at ho; have H1 := Aside0.mk ho; have HB1 := Aside0.mk hb; clear HB0; clear hb ho; obtain ⟨A1, c1, e1⟩ := Kd.R_slice H1.out; subst e1)
      | ((with_reducible refine gate_builtin (b := .append) (xs := #[.tmp 17, .tmp 18]) rfl ?_); at_builtin; refine Kd.R_append_rows (Kd.int .u8) (w0 := w) w.heap.size rfl (.tmp 17) (.tmp 18) 22 5 (.int .u8 0) 1 rfl Try.underlying22 info5 rfl (by decide) (by omega) (.slice A1 y.length c1) y l0 _ _ _ (fun _ => True) (fun _ => False) rfl rfl ?aO ?aR (fun _ _ h => h) (fun _ h => h.elim) ?aF ?aB ?aS ?aL ?_; (case aR => exact (Kd.C_below HR.out HB1.out)); (case aB => exact HB1.out); (case aF => exact (fun _ _ => trivial)); (case aO => exact H1.out); (case aS => exact (below_size HB1.out)); (case aL => have := HYL.out; omega); intro v17 w17 ho hb hg hat; rw [HF.out] at ho; clear H1 HB1; have HB2 := Aside0.mk hb; have H2 := Aside0.mk ho; clear ho hb hg hat; obtain ⟨A2, c2, e2⟩ := Kd.R_slice H2.out; subst e2)
      | fail)
    refine (rialtoref04_Short.calls A2 c2 f (s : Int) _ (Kd.R_reads' H2.out).2.2 (Kd.R_reads' H2.out).2.1 (by rw [← HSE.out]; exact if_pos ⟨HFB.out, by have := HYL.out; omega⟩)).mono ?_
    rintro e w3 ⟨rfl, hd⟩
    have H3 := Aside0.mk (Kd.R_below H2.out hd.below)
    have HB3 := Aside0.mk (below_step HB2.out hd.below)
    clear hd H2 HB2
    have HZ : Aside0 ([(s : Int) / 256, (s : Int) % 256] = beB 2 s) := ⟨by simp [beB]; omega⟩
    obtain ⟨z, hz⟩ : ∃ z : List Int, beB 2 s = z := ⟨_, rfl⟩
    have HZL : Aside0 (z.length = 2) := ⟨by rw [← hz, beB_length]⟩
    rw [hz] at HZ HEF
    clear hz
    go_wp2_with (first
      | ((with_reducible refine gate_dst (N := 29) rfl ?_); refine Kd.R_lit (Kd.int .u8) _ 5 ?hg (N := 29) ?hd (xs := ([(s : Int) / 256, (s : Int) % 256] : List Int)) (inner := [.int .u8 ((s : Int) / 256), .int .u8 ((s : Int) % 256)]) (ok := fun _ => True) (okp := fun _ => True) ?hr ?hp (fun _ hk => hk) trivial (Below.refl _ _) (Nat.le_refl _) (by simp) ?_; (case hd => rfl); (case hg => rfl); (case hr => first | (go_simp; done) | (go_simp; rfl)); (case hp => exact (Reps.one (show Kd.M (Kd.int .u8) _ _ _ ((s : Int) / 256) [.int .u8 ((s : Int) / 256)] from rfl) (Reps.one (show Kd.M (Kd.int .u8) _ _ _ ((s : Int) % 256) [.int .u8 ((s : Int) % 256)] from rfl) (Reps.none _ _)))); intro v29 w29 ho29 hb hg_ hnew_; clear hg_ hnew_; rw [HZ.out] at ho29; (have n0_ := Aside0.mk (Kd.R_elder' H3.out (Kd.R_base ho29) hb)); (have n1_ := Aside0.mk (Kd.R_lower (Kd.R_new' ho29 (Kd.R_lt H3.out)) (below_size HB3.out))); (have n2_ := Aside0.mk (below_step HB3.out hb)); clear H3; clear HB3; have H3 := n0_; have HO29 := n1_; have HB3 := n2_; clear n0_ n1_ n2_; clear hb ho29; obtain ⟨A29, c29, e29⟩ := Kd.R_slice HO29.out; subst e29)
      | ((with_reducible refine gate_builtin (b := .append) (xs := #[.tmp 22, .tmp 29]) rfl ?_); at_builtin; refine Kd.R_append_rows (Kd.int .u8) (w0 := w) w.heap.size rfl (.tmp 22) (.tmp 29) 22 5 (.int .u8 0) 1 rfl Try.underlying22 info5 rfl (by decide) (by omega) (.slice A2 f.length c2) f z _ _ _ (fun k_ => some k_ ≠ (.slice A29 z.length c29 : Value).ownBlock) (fun _ => False) rfl rfl ?aO ?aR (fun _ _ h => h) (fun _ h => h.elim) ?aF ?aB ?aS ?aL ?_; (case aR => exact (Kd.R_reads' HO29.out).2.2); (case aB => exact HB3.out); (case aF => exact (fun k_ hk => Kd.fresh' (Kd.R_lt HO29.out) k_ hk)); (case aO => exact Kd.R_mono H3.out (fun _ hk => hk.2)); (case aS => exact (below_size HB3.out)); (case aL => have := HYL.out; have := HZL.out; omega); intro v30 w30 ho hb hg hat; rw [HEF.out] at ho; clear HO29 HB3 H3; have HB4 := Aside0.mk hb; have H4 := Aside0.mk ho; clear ho hb hg hat)
      | fail)
    go_ret2
    exact ⟨_, by rw [HE.out.1]; rfl, Kd.R_mono H4.out (fun _ _ => trivial), HB4.out⟩
end Go.Proofs.Ytkfninhbbcfdcaa.Giv
