/- A command's fields as bytes. -/
import Derived.Test.YtfaicipochceeaaGMay
namespace Go.Proofs.Ytfaicipochceeaa.Giv
open Go.Lib Go.RowKit Go.Proofs.YtfaicipochceeaaW.PrintWords Go.Proofs.YtfaicipochceeaaW.PrintLast Go.Proofs.YtfaicipochceeaaW.PrintMore
set_option linter.unusedVariables false
set_option linter.unusedSimpArgs false
def itemN (g : Int) : Nat := if g < 0 then 255 else g.toNat
theorem and255 (g : Int) (h0 : -1 ≤ g) (h1 : g ≤ 127) : Go.bits .and .i64 g 255 = (itemN g : Nat) := by
  have hn : ∀ n : Fin 128, Go.bits .and .i64 ((n.val : Nat) : Int) 255 = (n.val : Nat) := by decide +kernel
  by_cases h : g < 0
  · obtain rfl : g = -1 := by omega
    decide +kernel
  · have := hn ⟨g.toNat, by omega⟩
    simp only at this
    rw [show ((g.toNat : Nat) : Int) = g by omega] at this
    rw [this]
    unfold itemN
    rw [if_neg h]
    omega
def partB (co am it : Int) : List Int := beB 1 co.toNat ++ (beB 8 am.toNat ++ beB 1 (itemN it))
/-- A fresh row of bytes. -/
def FreshB (w : World) (l : List Int) (e : Ending) (w' : World) : Prop := ∃ A c, e = .returned (.slice A l.length c) ∧ Kd.R (Kd.int .u8) 5 w' w.heap.size (fun _ => True) (.slice A l.length c) l ∧ Below w.heap.size w w'
theorem Num_at {w : World} {A0 : Option Addr} {l0 : List Int} (n0 c0 : Nat) (h : Kd.C (Kd.int .u8) w A0 n0 l0) (hn0 : n0 = l0.length) (hc0 : n0 ≤ c0) (v : Int) (n : Nat) (hv : v = n) (hn : n < 18446744073709551616) (size : Int) (k : Nat) (hk : (fitI size).toNat = k) (hl : l0.length + 8 < 140737488355328) (m : List Int) (hm : l0 ++ beB k n = m) :
    Calls Try.prog 42 #[.slice A0 n0 c0, .int .u64 v, .int .i64 size] w (FreshB w m) := by
  subst hn0 hv hk hm
  refine (Num_calls A0 c0 l0 n size w h hc0 hn hl).mono ?_
  rintro e w' ⟨u, rfl, hR, hB⟩
  obtain ⟨A, c, rfl⟩ := Kd.R_slice hR
  exact ⟨A, c, rfl, hR, hB⟩
theorem FreshB.weaken {w w1 : World} {l : List Int} {e : Ending} {w' : World} (h : FreshB w1 l e w') (hb : Below w.heap.size w w1) : FreshB w l e w' := by
  obtain ⟨A, c, rfl, hR, hB⟩ := h
  exact ⟨A, c, rfl, Kd.R_lower hR hb.size, below_step hb hB⟩
set_option maxHeartbeats 4000000 in
set_option maxRecDepth 100000 in
theorem putPart_calls (A0 : Option Addr) (c0 : Nat) (l0 : List Int) (co am it : Int) (w : World) (hr0 : Kd.C (Kd.int .u8) w A0 l0.length l0) (hc0 : l0.length ≤ c0) (hl : l0.length + 30 < 140737488355328)
    (hco : 0 ≤ co ∧ co ≤ 127) (ham : 0 ≤ am ∧ am < 18446744073709551616) (hit : -1 ≤ it ∧ it ≤ 127) :
    Calls Try.prog 43 #[.slice A0 l0.length c0, .agg #[.int .i64 co, .int .u64 am, .int .i64 it]] w (FreshB w (l0 ++ partB co am it)) := by
  obtain ⟨cn, rfl⟩ := Int.eq_ofNat_of_zero_le hco.1
  obtain ⟨an, rfl⟩ := Int.eq_ofNat_of_zero_le ham.1
  obtain ⟨tn, htn⟩ : ∃ tn, itemN it = tn := ⟨_, rfl⟩
  have hand := and255 it hit.1 hit.2
  rw [htn] at hand
  have htn2 : (tn : Int) ≤ 255 := by rw [← htn]; unfold itemN; split <;> omega
  obtain ⟨l1, hl1⟩ : ∃ l1, l0 ++ beB 1 cn = l1 := ⟨_, rfl⟩
  obtain ⟨l2, hl2⟩ : ∃ l2, l1 ++ beB 8 an = l2 := ⟨_, rfl⟩
  obtain ⟨l3, hl3⟩ : ∃ l3, l2 ++ beB 1 tn = l3 := ⟨_, rfl⟩
  have hfin : l0 ++ partB cn an it = l3 := by
    rw [← hl3, ← hl2, ← hl1]
    unfold partB
    rw [Int.toNat_natCast, Int.toNat_natCast, htn]
    simp only [List.append_assoc]
  rw [hfin]
  have hlen : l1.length = l0.length + 1 ∧ l2.length = l0.length + 9 := by rw [← hl2, ← hl1]; simp [beB_length]
  have H := Aside0.mk (And.intro hr0 (And.intro hc0 (And.intro hl (And.intro hlen (And.intro hl1 (And.intro hl2 hl3))))))
  have HA := Aside0.mk (And.intro ham.2 htn2)
  have hcn : (cn : Int) ≤ 127 := hco.2
  have hA := blk_new w (.cells #[.int .i64 cn, .int .u64 an, .int .i64 it] 26)
  have hBA := below_alloc (Below.refl w.heap.size w) (.cells #[.int .i64 cn, .int .u64 an, .int .i64 it] 26)
  obtain ⟨r, hr⟩ : ∃ r, w.heap.size = r := ⟨_, rfl⟩
  obtain ⟨w1, hw1⟩ : ∃ w1, w.alloc (.cells #[.int .i64 cn, .int .u64 an, .int .i64 it] 26) = w1 := ⟨_, rfl⟩
  rw [hw1] at hA hBA
  rw [hr] at hA
  have HB1 := Aside0.mk (And.intro hA hBA)
  have y0 : w1.cell? ⟨r, 0, none⟩ = some (.int .i64 cn) := blk_cell hA 0
  have y1 : w1.cell? ⟨r, 1, none⟩ = some (.int .u64 an) := blk_cell hA 1
  have q0 := fun (W' : World) (h_ : Below w1.heap.size w1 W') => pw_cell_below h_ y0
  have q1 := fun (W' : World) (h_ : Below w1.heap.size w1 W') => pw_cell_below h_ y1
  have hwr : IntKind.u64.wrap (cn : Int) = cn := by rw [IntKind.wrap_u64]; omega
  clear hr0 hc0 hl hlen hl1 hl2 hl3 ham hco hit hA hBA htn htn2 hfin
  go_enter Try.func43, Try.ntmps43
  go_wp2_with fail
  have N1 := Aside0.mk (fun (W' : World) (h_ : Below w1.heap.size w1 W') => Num_at (w := W') (A0 := A0) (l0 := l0) l0.length c0 (Kd.C_below H.out.1 (below_step HB1.out.2 h_)) rfl H.out.2.1 (cn : Int) cn rfl (by omega) 1 1 rfl (by have := H.out.2.2.1; omega) l1 H.out.2.2.2.2.1)
  go_region_held3 (fun w' => Below w1.heap.size w1 w') (first | assumption | exact Below.refl _ _ | exact below_step (by assumption) (by assumption) | exact below_step (by assumption) (Drawn0.below (by assumption)) | exact below_drew (by assumption) | exact below_drew (Below.refl _ _)) (first
    | (go_at_call 42; ((with_reducible refine (N1.out _ (by first | assumption | exact below_drew (Below.refl _ _))).mono ?_); rintro e w2 ⟨A1, c1, rfl, hR1, hB1⟩; have hS2 : Below w1.heap.size w1 w2 := (by first | exact below_step (below_drew (Below.refl _ _)) hB1 | exact below_step (by assumption) hB1); have N2 := Aside0.mk (fun (W' : World) (h_ : Below w2.heap.size w2 W') => Num_at (w := W') (A0 := A1) (l0 := l1) l1.length c1 (Kd.C_below (Kd.R_reads' hR1).2.2 h_) rfl (Kd.R_reads' hR1).2.1 (an : Int) an rfl (by have := HA.out.1; omega) 8 8 rfl (by have := H.out.2.2.1; have := H.out.2.2.2.1; omega) l2 H.out.2.2.2.2.2.1); clear hR1 hB1))
    | (go_at_call 42; ((with_reducible refine (N2.out _ (by first | exact Below.refl _ _ | assumption | exact below_drew (Below.refl _ _))).mono ?_); rintro e w3 ⟨A2, c2, rfl, hR2, hB2⟩; have HR2 := Aside0.mk hR2; have hS3 : Below w1.heap.size w1 w3 := below_step hS2 (by first | exact hB2 | exact below_step (below_drew (Below.refl _ _)) hB2); clear hR2 hB2)))
  have y2 : w3.cell? ⟨r, 2, none⟩ = some (.int .i64 it) := pw_cell_below hS3 (blk_cell HB1.out.1 2)
  have HS3 := Aside0.mk (below_step HB1.out.2 hS3)
  have htn0 : (0 : Int) ≤ tn := by omega
  have htn3 : (tn : Int) ≤ 255 := HA.out.2
  clear q0 q1 N1 N2 hS3 hS2 y0 y1 hwr
  go_wp2_with fail
  refine (Num_at (w := w3) (A0 := A2) (l0 := l2) l2.length c2 (Kd.R_reads' HR2.out).2.2 rfl (Kd.R_reads' HR2.out).2.1 _ tn rfl (by omega) 1 1 rfl (by have := H.out.2.2.1; have := H.out.2.2.2.1; omega) l3 H.out.2.2.2.2.2.2).mono ?_
  rintro e w4 ⟨A3, c3, rfl, hR3, hB3⟩
  have HR3 := Aside0.mk (And.intro hR3 hB3)
  clear hR3 hB3
  go_wp2_with fail
  go_ret
  exact ⟨A3, c3, rfl, Kd.R_lower HR3.out.1 HS3.out.size, below_step HS3.out HR3.out.2⟩
end Go.Proofs.Ytfaicipochceeaa.Giv
