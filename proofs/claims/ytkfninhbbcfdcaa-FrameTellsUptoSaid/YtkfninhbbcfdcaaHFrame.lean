/- The law FrameTells: what its text comes to. -/
import Derived.Test.YtkfninhbbcfdcaaGAlive
namespace Go.Proofs.Ytkfninhbbcfdcaa.Giv
open Go.RowKit Go.Proofs.YtkfninhbbcfdcaaW.PrintWords Go.Proofs.YtkfninhbbcfdcaaW.PrintLast Go.Proofs.YtkfninhbbcfdcaaW.PrintMore
set_option linter.unusedVariables false
set_option linter.unusedSimpArgs false

theorem C_of_R {w : World} {base : Nat} {ok : Nat → Prop} {A : Option Addr} {n c : Nat} {xs : List Int} (h : Kd.R (Kd.int .u8) 5 w base ok (.slice A n c) xs) : Kd.C (Kd.int .u8) w A xs.length xs := (Kd.R_reads' h).2.2
theorem C_of_own {w0 w : World} {A : Option Addr} {n c base : Nat} {xs : List (List Int)} (h : OwnRow (Rs w0) 22 1 w base (.slice A n c) xs) (hb : Below w0.heap.size w0 w) : n = xs.length ∧ Kd.C (Kd.slice 5 (Kd.int .u8)) w A xs.length xs := by
  obtain ⟨A', c', e, _, hr⟩ := OwnRow.reads h
  injection e with e1 e2 e3
  subst e1 e2 e3
  refine ⟨rfl, ReadsRow.imp_ hr (Below.refl _ _) (fun x cs hp => ?_)⟩
  obtain ⟨A, c, rfl, hl, hC⟩ := hp
  exact ⟨A, c, rfl, hl, Kd.C_below hC hb⟩

theorem rAll_at (A0 : Option Addr) (c0 : Nat) (l : List Int) (a1 : Int) (L : List (List Int)) (le : Int) (w : World) (hr0 : Kd.C (Kd.int .u8) w A0 l.length l) (hc0 : l.length ≤ c0) (hb0 : bytesOk l) (hL : l.length * 8 ≤ 140737488355328) (h : allG l.length l a1 = (L, le)) :
    Calls Try.prog 18 #[.slice A0 l.length c0, .int .i64 a1] w fun e w' => ∃ A c, e = .returned (.tuple #[.slice A L.length c, .int .i64 le]) ∧ OwnRow (Rs w) 22 1 w' w.heap.size (.slice A L.length c) L ∧ Below w.heap.size w w' := by
  refine (rAll_calls A0 c0 l a1 w hr0 hc0 hb0 hL).mono ?_
  rintro e w' ⟨v, rfl, hO, hB⟩
  rw [h] at hO ⊢
  obtain ⟨A, c, e6, _⟩ := OwnRow.slice_ hO
  subst e6
  exact ⟨A, c, rfl, hO, hB⟩

set_option maxHeartbeats 8000000 in
set_option maxRecDepth 100000 in
theorem frameTells_law (A0 : Option Addr) (c0 : Nat) (l0 : List Int) (A1 : Option Addr) (c1 : Nat) (l1 : List Int) (a2 : Int) (w : World) (hr0 : Kd.C (Kd.int .u8) w A0 l0.length l0) (hc0 : l0.length ≤ c0) (hb0 : bytesOk l0)
    (hr1 : Kd.C (Kd.int .u8) w A1 l1.length l1) (hc1 : l1.length ≤ c1) (hb1 : bytesOk l1) (hL : l1.length * 8 ≤ 140737488355328) :
    Calls Try.prog 3 #[.slice A0 l0.length c0, .slice A1 l1.length c1, .int .i64 a2] w fun e w' => e = .returned (.bool true) ∧ Below w.heap.size w w' := by
  have H0 := Aside0.mk (And.intro hr0 (And.intro hc0 hb0))
  have H1 := Aside0.mk (And.intro hr1 (And.intro hc1 (And.intro hb1 hL)))
  obtain ⟨f, hf⟩ : ∃ f, wrapB l0 a2 = f := ⟨_, rfl⟩
  obtain ⟨fe, hfe⟩ : ∃ f, wrapE l0 a2 = f := ⟨_, rfl⟩
  obtain ⟨x, n, er, hT⟩ : ∃ x n er, tk l1 a2 = (x, n, er) := ⟨_, _, _, rfl⟩
  obtain ⟨L, le, hA⟩ : ∃ L le, allG l1.length l1 a2 = (L, le) := ⟨_, _, rfl⟩
  have HF := Aside0.mk (And.intro hf hfe)
  have HT := Aside0.mk hT
  have HA := Aside0.mk hA
  clear hr0 hc0 hb0 hr1 hc1 hb1 hL hf hfe hT hA
  go_enter Try.func3, Try.ntmps3
  go_wp2_with fail
  refine (wrap_at _ c0 H0.out.1 rfl H0.out.2.1 H0.out.2.2 a2 f fe HF.out).mono ?_
  rintro e w1 ⟨B1, d1, rfl, hR1, hB1⟩
  have R1 := Aside0.mk (C_of_R hR1)
  have K1 := Aside0.mk hB1
  clear hR1 hB1
  go_wp2_with fail
  refine (rwrap_at _ c0 (Kd.C_below H0.out.1 K1.out) rfl H0.out.2.1 H0.out.2.2 a2 f fe HF.out.1 HF.out.2).mono ?_
  rintro e w2 ⟨v2, rfl, hR2, hB2⟩
  obtain ⟨B2, d2, e2⟩ := Kd.R_slice hR2
  subst e2
  have R1' := Aside0.mk (Kd.C_below R1.out hB2)
  have R2 := Aside0.mk (C_of_R hR2)
  have K2 := Aside0.mk (below_step K1.out hB2)
  clear hR2 hB2 R1 K1
  go_wp2_with fail
  refine (take_at _ c1 (Kd.C_below H1.out.1 K2.out) rfl H1.out.2.1 H1.out.2.2.1 a2 x n er HT.out).mono ?_
  rintro e w3 ⟨B3, d3, rfl, hR3, hB3⟩
  have R13 := Aside0.mk (And.intro (Kd.C_below R1'.out hB3) (And.intro (Kd.C_below R2.out hB3) (C_of_R hR3)))
  have K3 := Aside0.mk (below_step K2.out hB3)
  clear hR3 hB3 R1' R2 K2
  go_wp2_with fail
  refine (rtake_at K3.out _ c1 H1.out.1 rfl H1.out.2.1 H1.out.2.2.1 a2 x n er HT.out).mono ?_
  rintro e w4 ⟨⟨B4, d4, rfl, hC4, _⟩, hB4⟩
  have C4 := Aside0.mk (And.intro (Kd.C_below R13.out.1 hB4) (And.intro (Kd.C_below R13.out.2.1 hB4) (And.intro (Kd.C_below R13.out.2.2 hB4) hC4)))
  have K4 := Aside0.mk (below_step K3.out hB4)
  clear hC4 hB4 R13 K3
  go_wp2_with fail
  refine (frame_All.calls A1 c1 l1 a2 L le _ (Kd.C_below H1.out.1 K4.out) H1.out.2.1 (by unfold frame_All.f; rw [if_pos ⟨H1.out.2.2.1, H1.out.2.2.2⟩, HA.out])).mono ?_
  rintro e w5 ⟨v5, rfl, hR5, hB5⟩
  obtain ⟨B5, d5, e5⟩ := Kd.R_slice hR5
  subst e5
  have C5 := Aside0.mk (And.intro (Kd.C_below C4.out.1 hB5) (And.intro (Kd.C_below C4.out.2.1 hB5) (And.intro (Kd.C_below C4.out.2.2.1 hB5) (Kd.R_reads' hR5).2.2)))
  have X4 := Aside0.mk C4.out.2.2.2
  have K5 := Aside0.mk (below_step K4.out hB5)
  clear hR5 hB5 C4 K4
  go_wp2_with fail
  refine (rAll_at A1 c1 l1 a2 L le _ (Kd.C_below H1.out.1 K5.out) H1.out.2.1 H1.out.2.2.1 H1.out.2.2.2 HA.out).mono ?_
  rintro e w6 ⟨B6, d6, rfl, hO6, hB6⟩
  have C6 := Aside0.mk (And.intro (Kd.C_below C5.out.1 hB6) (And.intro (Kd.C_below C5.out.2.1 hB6) (And.intro (Kd.C_below C5.out.2.2.1 hB6) (And.intro (Kd.C_below C5.out.2.2.2 hB6) (C_of_own hO6 hB6)))))
  have K6 := Aside0.mk (below_step K5.out hB6)
  clear hO6 hB6 C5 K5
  go_wp2_with fail
  refine (alive_calls _).mono ?_
  rintro e w7 ⟨rfl, hB7⟩
  have K7 := Aside0.mk (below_step K6.out hB7)
  have C7 := Aside0.mk (And.intro (Kd.C_below C6.out.2.2.2.1 hB7) (Kd.C_below C6.out.2.2.2.2.2 hB7))
  have s1 := Kd.C_string (P := Try.prog) (A := B1) (c := d1) Try.underlying22 Try.underlying5 Try.underlying9 (Kd.C_below C6.out.1 hB7)
  have s2 := Kd.C_string (P := Try.prog) (A := B2) (c := d2) Try.underlying22 Try.underlying5 Try.underlying9 (Kd.C_below C6.out.2.1 hB7)
  have s3 := Kd.C_string (P := Try.prog) (A := B3) (c := d3) Try.underlying22 Try.underlying5 Try.underlying9 (Kd.C_below C6.out.2.2.1 hB7)
  have s4 := Kd.C_string (P := Try.prog) (A := B4) (c := d4) Try.underlying22 Try.underlying5 Try.underlying9 (Kd.C_below X4.out K7.out)
  clear hB7 C6 K6 X4
  go_wp2_with fail
  refine (Same_calls B5 d5 L B6 d6 _ C7.out.1 C7.out.2).mono ?_
  rintro e w8 ⟨rfl, hB8⟩
  have K8 := Aside0.mk (below_step K7.out hB8)
  clear hB8 s1 s2 s3 s4
  go_wp2_with fail
  go_ret
  exact ⟨rfl, K8.out⟩
end Go.Proofs.Ytkfninhbbcfdcaa.Giv
