/- The reference's scan: numbers, texts, the end, sides. -/
import Derived.Test.YtfaicipochceeaaGRefA
import Derived.Test.YtfaicipochceeaaGRead
namespace Go.Proofs.Ytfaicipochceeaa.Giv
open Go.Lib Go.RowKit Go.Proofs.YtfaicipochceeaaW.PrintWords Go.Proofs.YtfaicipochceeaaW.PrintLast Go.Proofs.YtfaicipochceeaaW.PrintMore
set_option linter.unusedVariables false
set_option linter.unusedSimpArgs false
theorem num_add (x bn : Nat) : IntKind.u64.wrap (IntKind.u64.wrap ((x : Int) * 256) + bn) = (((x * 256 + bn) % 18446744073709551616 : Nat) : Int) := by
  have e : ∀ n : Int, IntKind.u64.wrap n = n % 18446744073709551616 := fun n => by simp [IntKind.wrap, IntKind.bits, IntKind.signed]
  rw [e, e]
  omega
set_option maxHeartbeats 4000000 in
set_option maxRecDepth 100000 in
theorem RSNum_at {w0 w : World} {g : Nat} {x : Sc} (size : Int) (k : Nat) (hk : (fitI size).toNat = k) (hb : bytesOk x.1) (h : RS w0 w g x.1 x.2) (n : Nat) (y : Sc) (hy : scNum x k = (n, y)) :
    Calls Try.prog 55 #[.pointer (some ⟨g, 0, none⟩), .int .i64 size] w fun e w' => e = .returned (.int .u64 n) ∧ RS w0 w' g y.1 y.2 ∧ Keep1 w w' g := by
  obtain ⟨l, f⟩ := x
  obtain ⟨l1, f1⟩ := y
  have HBB := Aside0.mk hb
  have HS := Aside0.mk h
  have HQ : Aside0 (fitI size = (k : Int) ∧ k ≤ 8) := ⟨by have := fitI_bd size; omega⟩
  have HY : Aside0 (numV (takeL l f k) 0 = n ∧ restL l f k = l1 ∧ fauL l f k = f1) := ⟨by
    unfold scNum at hy
    simp only [Prod.mk.injEq] at hy
    exact hy⟩
  clear hb h hk hy
  go_enter Try.func55, Try.ntmps55
  go_wp2_with fail
  refine (rsize_calls _ _).mono ?_
  rintro e w1 ⟨rfl, rfl⟩
  rw [HQ.out.1]
  go_wp2_with fail
  refine (RTake_calls w0 w g l f k (by have := HQ.out.2; omega) HS.out).mono ?_
  rintro e w1 ⟨A, tn, c, rfl, htn, hcl, hC, hS, hK⟩
  rw [HY.out.2.1, HY.out.2.2] at hS
  obtain ⟨tk, htk⟩ : ∃ tk, takeL l f k = tk := ⟨_, rfl⟩
  rw [htk] at htn hC
  subst htn
  have HTB : Aside0 (bytesOk tk) := ⟨by rw [← htk]; exact takeL_ok HBB.out⟩
  have HTN : Aside0 (numV tk 0 = n) := ⟨by rw [← htk]; exact HY.out.1⟩
  have HC := Aside0.mk hC
  have HS := Aside0.mk (And.intro hS hK)
  have hlt : (tk.length : Int) ≤ 9223372036854775807 := by have := hC.2.1; omega
  clear hC hS hK hcl htk
  go_wp2_with fail
  go_loopg [6, 7] tk.length (fun kq v6 v7 w' => ∃ (x : Nat) (k : Int), 0 ≤ k ∧ k + kq = tk.length ∧ v6 = .int .u64 x ∧ v7 = .int .i64 k ∧ Aside0 (numV (tk.drop k.toNat) x = n) ∧ w' = w1)
  case atStart => exact ⟨0, 0, by omega, by omega, rfl, rfl, ⟨HTN.out⟩, rfl⟩
  case round =>
    obtain ⟨x, k, hk0, hk, rfl, rfl, HX, rfl⟩ := hrel
    by_cases hlt2 : k < tk.length
    · have hg : ∃ g, gk = g + 1 := ⟨gk - 1, by omega⟩
      obtain ⟨gg, rfl⟩ := hg
      obtain ⟨ad, ead, hx⟩ := Kd.at_int HC.out (k : Int) (by omega) (by omega)
      cases ead
      have HT := Aside0.mk (drop_rd tk k hk0 hlt2)
      have HK := Aside0.mk hk
      have hrb := rd_byte HTB.out k hk0 hlt2
      obtain ⟨bn, hbn⟩ := Int.eq_ofNat_of_zero_le hrb.1
      rw [hbn] at hx hrb
      have hb255 : (bn : Int) ≤ 255 := by omega
      have HBN := Aside0.mk hbn
      clear hk hbn hrb
      go_wp2_with fail
      go_roundg gg
      case measure => omega
      case rel => exact ⟨(x * 256 + bn) % 18446744073709551616, k + 1, by omega, by have := HK.out; omega, by rw [num_add], rfl, ⟨by rw [← HX.out, HT.out, HBN.out]; rfl⟩, rfl⟩
    · have hX : n = x := by have := HX.out; rw [List.drop_eq_nil_of_le (by omega)] at this; exact this.symm
      have HX2 := Aside0.mk hX
      clear HX hX
      go_wp2_with fail
      go_ret
      exact ⟨by rw [HX2.out]; rfl, HS.out.1, HS.out.2⟩
theorem RS.blk2 {w0 w : World} {g : Nat} {l : List Int} {f : Int} (h : RS w0 w g l f) : w.cell? ⟨g, 2, none⟩ = some (.int .i64 f) ∧ w.frozen? ⟨g, 2, none⟩ = false := by
  obtain ⟨_, _, A, b, c, p, hblk, _⟩ := h
  exact ⟨blk_cell hblk 2, blk_frozen hblk 2⟩
theorem RS.setE {w0 w : World} {g : Nat} {l : List Int} {f : Int} (h : RS w0 w g l f) (f1 : Int) : RS w0 (w.setCell ⟨g, 2, none⟩ (.int .i64 f1)) g l f1 := by
  obtain ⟨hb, hlo, A, b, c, p, hblk, hC, hc, hp, hl⟩ := h
  exact ⟨(Keep1.set w g 2 _).below hb hlo, hlo, A, b, c, p, blk_set hblk 2 _, hC, hc, hp, hl⟩
theorem RS.lt {w0 w : World} {g : Nat} {l : List Int} {f : Int} (h : RS w0 w g l f) : g < w.heap.size := by
  obtain ⟨_, _, A, b, c, p, hblk, _⟩ := h
  exact blk_lt hblk
theorem RS.belowS {w0 W W1 : World} {g : Nat} {l : List Int} {f : Int} (h : RS w0 W g l f) (hb : Below W.heap.size W W1) : RS w0 W1 g l f := by
  obtain ⟨hb0, hlo, A, b, c, p, hblk, hr⟩ := h
  exact ⟨below_step hb0 hb, hlo, A, b, c, p, blk_below hblk hb, hr⟩
set_option maxHeartbeats 4000000 in
set_option maxRecDepth 100000 in
theorem ROne_at {w0 w : World} {g : Nat} {x : Sc} (hb : bytesOk x.1) (h : RS w0 w g x.1 x.2) (n : Nat) (y : Sc) (hy : scNum x 1 = (n, y)) :
    Calls Try.prog 35 #[.pointer (some ⟨g, 0, none⟩)] w fun e w' => e = .returned (.int .i64 n) ∧ RS w0 w' g y.1 y.2 ∧ Keep1 w w' g := by
  have H := Aside0.mk (And.intro hb (And.intro h hy))
  have hn := scNum_lt1 hb hy
  have hn2 : (n : Int) ≤ 255 := by omega
  clear hb h hy hn
  go_enter Try.func35, Try.ntmps35
  go_wp2_with fail
  refine (RSNum_at 1 1 rfl H.out.1 H.out.2.1 n y H.out.2.2).mono ?_
  rintro e w1 ⟨rfl, hS, hK⟩
  have HS := Aside0.mk (And.intro hS hK)
  clear hS hK
  go_wp2_with fail
  go_ret
  exact ⟨rfl, HS.out⟩
set_option maxHeartbeats 4000000 in
set_option maxRecDepth 100000 in
theorem RSText_at {w0 w : World} {g : Nat} {x : Sc} (limit : Int) (hb : bytesOk x.1) (h : RS w0 w g x.1 x.2) (t : List Int) (y : Sc) (ht : scText x limit = (t, y)) :
    Calls Try.prog 56 #[.pointer (some ⟨g, 0, none⟩), .int .i64 limit] w fun e w' => e = .returned (.string (strOfNums t)) ∧ RS w0 w' g y.1 y.2 ∧ Keep1 w w' g := by
  obtain ⟨⟨n, ⟨l1, f1⟩⟩, hy⟩ : ∃ z, scNum x 1 = z := ⟨_, rfl⟩
  obtain ⟨l3, f3⟩ := y
  have hn := scNum_lt1 hb hy
  have hn2 : (n : Int) ≤ 255 := by omega
  obtain ⟨f2, hf2⟩ : ∃ f2, ruleF (decide ((n : Int) ≤ limit)) f1 2 = f2 := ⟨_, rfl⟩
  have HT : Aside0 (takeL l1 f2 n = t ∧ restL l1 f2 n = l3 ∧ fauL l1 f2 n = f3) := ⟨by
    unfold scText at ht
    simp only [hy, hf2, Prod.mk.injEq] at ht
    exact ht⟩
  have H := Aside0.mk (And.intro hb (And.intro h hy))
  have HF := Aside0.mk hf2
  have HN : Aside0 (n ≤ 255) := ⟨by omega⟩
  clear hb h hy hn ht hf2
  -- what is the same on each way: the last Take
  have last : ∀ W, RS w0 W g l1 f2 → Keep1 w W g → Calls Try.prog 59 #[.pointer (some ⟨g, 0, none⟩), .int .i64 n] W (RTakeP w0 W g l3 t f3) := fun W hS hK => by
    have := RTake_calls w0 W g l1 f2 n HN.out hS
    rw [HT.out.1, HT.out.2.1, HT.out.2.2] at this
    exact this
  have LAST := Aside0.mk last
  clear last
  go_enter Try.func56, Try.ntmps56
  go_wp2_with fail
  refine (RSNum_at 1 1 rfl H.out.1 H.out.2.1 n (l1, f1) H.out.2.2).mono ?_
  rintro e w1 ⟨rfl, hS, hK⟩
  have HS := Aside0.mk (And.intro hS hK)
  have h2 := hS.blk2.1
  have h3 := hS.blk2.2
  clear hS hK
  by_cases hf0 : f1 = 0
  · subst hf0
    by_cases hgt : limit < n
    · have hF2 : Aside0 (f2 = 2) := ⟨by rw [← HF.out]; unfold ruleF; rw [decide_eq_false (by omega)]; rfl⟩
      go_wp2_with fail
      have HS2 := Aside0.mk (show RS w0 (w1.setCell ⟨g, 2, none⟩ (.int .i64 2)) g l1 f2 from by rw [hF2.out]; exact HS.out.1.setE 2)
      have HK2 := Aside0.mk (HS.out.2.trans (Keep1.set w1 g 2 (.int .i64 2)))
      obtain ⟨w2, hw2⟩ : ∃ w2, w1.setCell ⟨g, 2, none⟩ (.int .i64 2) = w2 := ⟨_, rfl⟩
      rw [hw2] at HS2 HK2 ⊢
      clear hw2 h2 h3
      refine (LAST.out w2 HS2.out HK2.out).mono ?_
      rintro e w3 ⟨A, tn, c, rfl, rfl, hcl, hC, hS, hK⟩
      have hs := Kd.C_string (P := Try.prog) (A := A) (c := c) Try.underlying31 Try.underlying5 Try.underlying9 hC
      have HS3 := Aside0.mk (And.intro hS (HK2.out.trans hK))
      clear hS hK hC
      go_wp2_with fail
      go_ret
      exact ⟨rfl, HS3.out⟩
    · have hF2 : Aside0 (f2 = 0) := ⟨by rw [← HF.out]; unfold ruleF; rw [decide_eq_true (show (n : Int) ≤ limit by omega)]; rfl⟩
      have hgt2 : decide (limit < (n : Int)) = false := decide_eq_false hgt
      clear hgt
      go_wp2_with fail
      refine (LAST.out w1 (by rw [hF2.out]; exact HS.out.1) HS.out.2).mono ?_
      rintro e w3 ⟨A, tn, c, rfl, rfl, hcl, hC, hS, hK⟩
      have hs := Kd.C_string (P := Try.prog) (A := A) (c := c) Try.underlying31 Try.underlying5 Try.underlying9 hC
      have HS3 := Aside0.mk (And.intro hS (HS.out.2.trans hK))
      clear hS hK hC
      go_wp2_with fail
      go_ret
      exact ⟨rfl, HS3.out⟩
  · have hF2 : Aside0 (f2 = f1) := ⟨by rw [← HF.out]; unfold ruleF; rw [if_neg hf0]; split <;> rfl⟩
    have hf1 : (f1 == 0) = false := by simpa using hf0
    clear hf0
    go_wp2_with fail
    refine (LAST.out w1 (by rw [hF2.out]; exact HS.out.1) HS.out.2).mono ?_
    rintro e w3 ⟨A, tn, c, rfl, rfl, hcl, hC, hS, hK⟩
    have hs := Kd.C_string (P := Try.prog) (A := A) (c := c) Try.underlying31 Try.underlying5 Try.underlying9 hC
    have HS3 := Aside0.mk (And.intro hS (HS.out.2.trans hK))
    clear hS hK hC
    go_wp2_with fail
    go_ret
    exact ⟨rfl, HS3.out⟩
set_option maxHeartbeats 4000000 in
set_option maxRecDepth 100000 in
theorem REnd_at {w0 w : World} {g : Nat} {l : List Int} {f : Int} (h : RS w0 w g l f) :
    Calls Try.prog 37 #[.pointer (some ⟨g, 0, none⟩)] w fun e w' => e = .returned (.int .i64 (endI f l.length)) ∧ Below w.heap.size w w' := by
  obtain ⟨hB, hlo, A, b, c, p, hblk, hC, hc, hp, hl⟩ := h
  have h0 : w.cell? ⟨g, 0, none⟩ = some (.slice A b.length c) := blk_cell hblk 0
  have h1 : w.cell? ⟨g, 1, none⟩ = some (.int .i64 p) := blk_cell hblk 1
  have h2 : w.cell? ⟨g, 2, none⟩ = some (.int .i64 f) := blk_cell hblk 2
  have HBK := Aside0.mk hblk
  have hlen : l.length = b.length - p := by rw [hl, List.length_drop]
  clear hB hlo hC hc hblk hl
  by_cases hf : f = 0
  · subst hf
    by_cases hpl : p < b.length
    · have HE : Aside0 (endI 0 l.length = 13) := ⟨if_pos ⟨rfl, by omega⟩⟩
      have hpl2 : (p : Int) < b.length := by omega
      rw [HE.out]
      clear hlen hp hpl
      go_enter Try.func37, Try.ntmps37
      go_wp2_with fail
      go_quiet (fail)
      have hbq := below_drewNq w nq
      go_wp2_with fail
      go_ret
      exact ⟨rfl, hbq⟩
    · have HE : Aside0 (endI 0 l.length = 0) := ⟨if_neg (fun h => by omega)⟩
      have hpl2 : decide (p < b.length) = false := decide_eq_false hpl
      rw [HE.out]
      clear hlen hp hpl
      go_enter Try.func37, Try.ntmps37
      go_wp2_with fail
      go_quiet (fail)
      have hbq := below_drewNq w nq
      have h3 : (w.drewN nq).cell? ⟨g, 2, none⟩ = some (.int .i64 0) := h2
      go_wp2_with fail
      go_ret
      exact ⟨rfl, hbq⟩
  · have HE : Aside0 (endI f l.length = f) := ⟨if_neg (fun h => hf h.1)⟩
    have hf1 : (f == 0) = false := by simpa using hf
    rw [HE.out]
    clear hlen hp hf
    go_enter Try.func37, Try.ntmps37
    go_wp2_with fail
    go_quiet (fail)
    have hbq := below_drewNq w nq
    have h3 : (w.drewN nq).cell? ⟨g, 2, none⟩ = some (.int .i64 f) := h2
    go_wp2_with fail
    go_ret
    exact ⟨rfl, hbq⟩
end Go.Proofs.Ytfaicipochceeaa.Giv
