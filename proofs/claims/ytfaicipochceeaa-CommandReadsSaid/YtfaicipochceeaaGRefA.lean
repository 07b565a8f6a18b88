/- The reference's scan: Take. -/
import Derived.Test.YtfaicipochceeaaGRNum
import Derived.Test.YtfaicipochceeaaGCmd
import Derived.Deep.QuietTactic
import Derived.BigQuiet
namespace Go.Proofs.Ytfaicipochceeaa.Giv
open Go.Lib Go.RowKit Go.Proofs.YtfaicipochceeaaW.PrintWords Go.Proofs.YtfaicipochceeaaW.PrintLast Go.Proofs.YtfaicipochceeaaW.PrintMore
set_option linter.unusedVariables false
set_option linter.unusedSimpArgs false
abbrev rblk (A : Option Addr) (N c p : Nat) (f : Int) : Obj := .cells #[.slice A N c, .int .i64 p, .int .i64 f] 66 (0, 0)
/-- The reference's scan lies in block g: l is what is left, f the fault. -/
structure RS (w0 w : World) (g : Nat) (l : List Int) (f : Int) : Prop where
  below : Below w0.heap.size w0 w
  lo : w0.heap.size ≤ g
  blk : ∃ (A : Option Addr) (b : List Int) (c p : Nat), w.heap[g]? = some (rblk A b.length c p f) ∧ Kd.C (Kd.int .u8) w0 A b.length b ∧ b.length ≤ c ∧ p ≤ b.length ∧ l = b.drop p
theorem below_drewNq (w : World) (q : Nat) : Below w.heap.size w (w.drewN q) := ⟨rfl, rfl, rfl, Nat.le_refl _, fun _ _ => rfl⟩
def RTakeP (w0 w : World) (g : Nat) (l t : List Int) (f : Int) (e : Ending) (w' : World) : Prop :=
  ∃ A n c, e = .returned (.slice A n c) ∧ n = t.length ∧ n ≤ c ∧ Kd.C (Kd.int .u8) w' A n t ∧ RS w0 w' g l f ∧ Keep1 w w' g
set_option maxHeartbeats 4000000 in
set_option maxRecDepth 100000 in
theorem RTake_bad (w0 w : World) (g : Nat) (l : List Int) (f : Int) (m : Nat) (hf : f ≠ 0) (h : RS w0 w g l f) :
    Calls Try.prog 59 #[.pointer (some ⟨g, 0, none⟩), .int .i64 m] w (RTakeP w0 w g l [] f) := by
  have H := Aside0.mk h
  obtain ⟨hB, hlo, A, b, c, p, hblk, hC, hc, hp, hl⟩ := h
  have h2 : w.cell? ⟨g, 2, none⟩ = some (.int .i64 f) := blk_cell hblk 2
  have hf1 : (f == 0) = false := by simpa using hf
  have hm0 : (0 : Int) ≤ m := by omega
  clear hB hlo hblk hC hc hp hl hf
  go_enter Try.func59, Try.ntmps59
  go_wp2_with fail
  go_ret
  exact ⟨none, 0, 0, rfl, rfl, Nat.le_refl _, C_nil _ _, H.out, Keep1.refl _ _⟩
set_option maxHeartbeats 4000000 in
set_option maxRecDepth 100000 in
theorem RTake_short (w0 w : World) (g : Nat) (l : List Int) (m : Nat) (hm : l.length < m) (hm9 : m ≤ 255) (h : RS w0 w g l 0) :
    Calls Try.prog 59 #[.pointer (some ⟨g, 0, none⟩), .int .i64 m] w (RTakeP w0 w g l [] 12) := by
  obtain ⟨hB, hlo, A, b, c, p, hblk, hC, hc, hp, hl⟩ := h
  have hmx := (Kd.reads_of_C (d := (0 : Int)) hC).2.1
  have H := Aside0.mk (And.intro hB (And.intro hlo (And.intro hblk (And.intro hC (And.intro hc (And.intro hp hl))))))
  have h0 : w.cell? ⟨g, 0, none⟩ = some (.slice A b.length c) := blk_cell hblk 0
  have h1 : w.cell? ⟨g, 1, none⟩ = some (.int .i64 p) := blk_cell hblk 1
  have h2 : w.cell? ⟨g, 2, none⟩ = some (.int .i64 0) := blk_cell hblk 2
  have hlen : l.length = b.length - p := by rw [hl, List.length_drop]
  have hgt : (b.length : Int) - p < m := by omega
  have hp0 : (p : Int) ≤ b.length := by omega
  have hmx1 : (b.length : Int) ≤ 9223372036854775807 := by omega
  have hm0 : (0 : Int) ≤ m := by omega
  clear hB hlo hblk hC hc hp hl hlen hm hm9 hmx
  go_enter Try.func59, Try.ntmps59
  go_wp2_with fail
  go_quiet (fail)
  have hbq := below_drewNq w nq
  obtain ⟨w2, hw2⟩ : ∃ w2, w.drewN nq = w2 := ⟨_, rfl⟩
  rw [hw2] at hbq ⊢
  have hb2 := blk_below H.out.2.2.1 hbq
  have h3 : w2.frozen? ⟨g, 2, none⟩ = false := blk_frozen hb2 2
  have h4 : w2.cell? ⟨g, 2, none⟩ = some (.int .i64 0) := blk_cell hb2 2
  have HB2 := Aside0.mk (And.intro hbq hb2)
  clear hbq hb2 hw2
  go_wp2_with fail
  go_ret
  have hk := (Keep1.of_below HB2.out.1 g).trans (Keep1.set w2 g 2 (.int .i64 12))
  exact ⟨none, 0, 0, rfl, rfl, Nat.le_refl _, C_nil _ _, ⟨hk.below H.out.1 H.out.2.1, H.out.2.1, A, b, c, p, blk_set HB2.out.2 2 _, H.out.2.2.2⟩, hk⟩
set_option maxHeartbeats 4000000 in
set_option maxRecDepth 100000 in
theorem RTake_ok (w0 w : World) (g : Nat) (l : List Int) (m : Nat) (hm : m ≤ l.length) (hm9 : m ≤ 255) (h : RS w0 w g l 0) :
    Calls Try.prog 59 #[.pointer (some ⟨g, 0, none⟩), .int .i64 m] w (RTakeP w0 w g (l.drop m) (l.take m) 0) := by
  obtain ⟨hB, hlo, A, b, c, p, hblk, hC, hc, hp, hl⟩ := h
  have hmx := (Kd.reads_of_C (d := (0 : Int)) hC).2.1
  have H := Aside0.mk (And.intro hB (And.intro hlo (And.intro hblk (And.intro hC (And.intro hc (And.intro hp hl))))))
  obtain ⟨A', hif⟩ : ∃ A', (if c = p then A else Option.map (fun x => x.add p) A) = A' := ⟨_, rfl⟩
  have hD := C_drop1 hC hp hc
  rw [hif, ← hl] at hD
  have hlen : l.length = b.length - p := by rw [hl, List.length_drop]
  rw [← hlen] at hD
  have HD := Aside0.mk hD
  have h0 : w.cell? ⟨g, 0, none⟩ = some (.slice A b.length c) := blk_cell hblk 0
  have h1 : w.cell? ⟨g, 1, none⟩ = some (.int .i64 p) := blk_cell hblk 1
  have h2 : w.cell? ⟨g, 2, none⟩ = some (.int .i64 0) := blk_cell hblk 2
  have hgt : (m : Int) ≤ (b.length : Int) - p := by omega
  have hgt2 : (p : Int) + m ≤ c := by omega
  have hp0 : (p : Int) ≤ b.length := by omega
  have hmx1 : (b.length : Int) ≤ 9223372036854775807 := by omega
  have hm0 : (0 : Int) ≤ m := by omega
  have HM := Aside0.mk (And.intro hm (And.intro hm9 (And.intro hlen hmx)))
  clear hB hlo hblk hC hc hp hl hlen hm hm9 hmx hD
  go_enter Try.func59, Try.ntmps59
  go_wp2_with fail
  go_quiet (fail)
  have hbq := below_drewNq w nq
  obtain ⟨w2, hw2⟩ : ∃ w2, w.drewN nq = w2 := ⟨_, rfl⟩
  rw [hw2] at hbq ⊢
  have hb2 := blk_below H.out.2.2.1 hbq
  have g0 : w2.cell? ⟨g, 0, none⟩ = some (.slice A b.length c) := blk_cell hb2 0
  have g1 : w2.cell? ⟨g, 1, none⟩ = some (.int .i64 p) := blk_cell hb2 1
  have HB2 := Aside0.mk (And.intro hbq hb2)
  clear hbq hb2 hw2 h0 h1 h2
  go_wp2_with fail
  go_quiet (fail)
  have hbq := below_step HB2.out.1 (below_drewNq w2 nq)
  have hb3 := blk_below HB2.out.2 (below_drewNq w2 nq)
  obtain ⟨w3, hw3⟩ : ∃ w3, w2.drewN nq = w3 := ⟨_, rfl⟩
  rw [hw3] at hbq hb3 ⊢
  have g1 : w3.cell? ⟨g, 1, none⟩ = some (.int .i64 p) := blk_cell hb3 1
  have g2 : w3.frozen? ⟨g, 1, none⟩ = false := blk_frozen hb3 1
  have HB3 := Aside0.mk (And.intro hbq hb3)
  clear hbq hb3 hw3 g0
  obtain ⟨n, hn⟩ : ∃ n, p + m - p = n := ⟨_, rfl⟩
  rw [hn]
  have HNM : Aside0 (n = m) := ⟨by omega⟩
  clear hn
  go_wp2_with fail
  go_ret
  have hk := (Keep1.of_below HB3.out.1 g).trans (Keep1.set w3 g 1 (.int .i64 ((p : Int) + m)))
  have hbl := blk_set HB3.out.2 1 (.int .i64 ((p : Int) + m))
  have hkb := hk.below H.out.1 H.out.2.1
  refine ⟨A', n, c - p, rfl, ?_, ?_, ?_, ⟨hkb, H.out.2.1, A, b, c, p + m, ?_, H.out.2.2.2.1, H.out.2.2.2.2.1, ?_, ?_⟩, hk⟩
  · rw [HNM.out, List.length_take]; have := HM.out.1; omega
  · have h1 := HM.out; have h2 := H.out.2.2.2.2; have h3 := HNM.out; omega
  · have := Kd.C_below (C_take1 HD.out HM.out.1) hkb; rw [HNM.out]; exact this
  · exact hbl
  · have h1 := HM.out; have h2 := H.out.2.2.2.2; omega
  · rw [H.out.2.2.2.2.2.2, List.drop_drop]
/-- Take, told as the code's own Take is. -/
theorem RTake_calls (w0 w : World) (g : Nat) (l : List Int) (f : Int) (m : Nat) (hm : m ≤ 255) (h : RS w0 w g l f) :
    Calls Try.prog 59 #[.pointer (some ⟨g, 0, none⟩), .int .i64 m] w (RTakeP w0 w g (restL l f m) (takeL l f m) (fauL l f m)) := by
  by_cases hf : f = 0
  · subst hf
    by_cases hl : m ≤ l.length
    · have := RTake_ok w0 w g l m hl hm h
      unfold restL takeL fauL
      rw [if_pos ⟨rfl, hl⟩, if_pos ⟨rfl, hl⟩, if_pos rfl, if_pos hl]
      exact this
    · have := RTake_short w0 w g l m (by omega) hm h
      unfold restL takeL fauL
      rw [if_neg (fun h => hl h.2), if_neg (fun h => hl h.2), if_pos rfl, if_neg hl]
      exact this
  · have := RTake_bad w0 w g l f m hf h
    unfold restL takeL fauL
    rw [if_neg (fun h => hf h.1), if_neg (fun h => hf h.1), if_neg hf]
    exact this
end Go.Proofs.Ytfaicipochceeaa.Giv
