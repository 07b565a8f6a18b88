/- The reference: the field of a number, behind bytes: put. -/
import Derived.Test.YtfaicipochceeaaGRef7
import Derived.Deep.CutRange
namespace Go.Proofs.Ytfaicipochceeaa.Giv
open Go.Lib Go.RowKit Go.Proofs.YtfaicipochceeaaW.PrintWords Go.Proofs.YtfaicipochceeaaW.PrintLast Go.Proofs.YtfaicipochceeaaW.PrintMore
set_option linter.unusedVariables false
set_option linter.unusedSimpArgs false
theorem grown_fresh {w W W1 : World} {o o2 : Option Nat} (h : w.grownBy W o) (k : W.grownBy W1 o2) (ho : ∀ b, o2 = some b → w.heap.size ≤ b) : w.grownBy W1 o :=
  ⟨k.os.trans h.os, k.tape.trans h.tape, k.output.trans h.output, Nat.le_trans h.size k.size, fun i hi hr => (k.block i (Nat.lt_of_lt_of_le hi h.size) (fun e => by have := ho i e.symm; omega)).trans (h.block i hi hr)⟩
theorem own_from {W : World} {base n : Nat} {v : Value} {l : List Int} (h : Kd.R (Kd.int .u8) 5 W base (fun _ => True) v l) (hn : n ≤ base) : ∀ b, v.ownBlock = some b → n ≤ b := by
  intro b hb
  rcases Kd.R_base2 h with h1 | ⟨k, h1, h2⟩
  · rw [h1] at hb; cases hb
  · rw [h1] at hb; cases hb; omega
set_option maxHeartbeats 4000000 in
set_option maxRecDepth 100000 in
theorem rput1 (A0 : Option Addr) (c0 : Nat) (l0 : List Int) (c : Cmd) (w0 w : World) (ho : OkC c) (hR : Kd.R (Kd.int .u8) 5 w w0.heap.size (fun _ => True) (.slice A0 l0.length c0) l0) (hB : Below w0.heap.size w0 w) (hl : l0.length + 300 < 140737488355328) :
    Calls Try.prog 26 #[.slice A0 l0.length c0, .agg (cells c), .int .i64 1] w (PutR w0 w (.slice A0 l0.length c0 : Value).ownBlock (l0 ++ putB c 1)) := by
  have H := Aside0.mk (PB.box (c := c) hR hB)
  have HBW := Aside0.mk (below_alloc (Below.refl w.heap.size w) (.cells (cells c) 28))
  have HL := Aside0.mk hl
  have HOK := Aside0.mk ho
  have HB0 := Aside0.mk hB
  obtain ⟨r, hr⟩ : ∃ r, w.heap.size = r := ⟨_, rfl⟩
  obtain ⟨w1, hw1⟩ : ∃ w1, w.alloc (.cells (cells c) 28) = w1 := ⟨_, rfl⟩
  rw [hw1] at H HBW
  replace H : Aside0 (PB w0 w w1 r c (.slice A0 l0.length c0 : Value).ownBlock (.slice A0 l0.length c0) l0) := ⟨by rw [← hr]; exact H.out⟩
  have H0 := H
  obtain ⟨m, hm⟩ : ∃ m, l0 ++ putB c 1 = m := ⟨_, rfl⟩
  rw [hm]
  have HM := Aside0.mk hm
  clear hR hB hl ho hm
  have x1 : w1.cell? ⟨r, 1, none⟩ = some (.string c.name) := cell_of H.out.blk 1
  go_enter Try.func26, Try.ntmps26
  go_wp2_with fail
  refine (rText_calls A0 c0 l0 c.name w1 (Kd.R_reads' H.out.row).2.2 (Kd.R_reads' H.out.row).2.1 (by have := HOK.out.name; omega) HL.out m HM.out).mono ?_
  intro e w2 hF
  replace hF := PutR.of_fresh (o := (.slice A0 l0.length c0 : Value).ownBlock) hF HBW.out HB0.out
  obtain ⟨A2, c2, rfl, hF⟩ := hF
  have HF := Aside0.mk hF
  clear hF
  go_wp2_with fail
  go_ret
  exact ⟨A2, c2, rfl, HF.out⟩
set_option maxHeartbeats 4000000 in
set_option maxRecDepth 100000 in
theorem rput2 (A0 : Option Addr) (c0 : Nat) (l0 : List Int) (c : Cmd) (w0 w : World) (ho : OkC c) (hR : Kd.R (Kd.int .u8) 5 w w0.heap.size (fun _ => True) (.slice A0 l0.length c0) l0) (hB : Below w0.heap.size w0 w) (hl : l0.length + 300 < 140737488355328) :
    Calls Try.prog 26 #[.slice A0 l0.length c0, .agg (cells c), .int .i64 2] w (PutR w0 w (.slice A0 l0.length c0 : Value).ownBlock (l0 ++ putB c 2)) := by
  have H := Aside0.mk (PB.box (c := c) hR hB)
  have HBW := Aside0.mk (below_alloc (Below.refl w.heap.size w) (.cells (cells c) 28))
  have HL := Aside0.mk hl
  have HOK := Aside0.mk ho
  have HB0 := Aside0.mk hB
  obtain ⟨r, hr⟩ : ∃ r, w.heap.size = r := ⟨_, rfl⟩
  obtain ⟨w1, hw1⟩ : ∃ w1, w.alloc (.cells (cells c) 28) = w1 := ⟨_, rfl⟩
  rw [hw1] at H HBW
  replace H : Aside0 (PB w0 w w1 r c (.slice A0 l0.length c0 : Value).ownBlock (.slice A0 l0.length c0) l0) := ⟨by rw [← hr]; exact H.out⟩
  have H0 := H
  obtain ⟨m, hm⟩ : ∃ m, l0 ++ putB c 2 = m := ⟨_, rfl⟩
  rw [hm]
  have HM := Aside0.mk hm
  clear hR hB hl ho hm
  have x2 : w1.cell? ⟨r, 2, none⟩ = some (.string c.text) := cell_of H.out.blk 2
  go_enter Try.func26, Try.ntmps26
  go_wp2_with fail
  refine (rText_calls A0 c0 l0 c.text w1 (Kd.R_reads' H.out.row).2.2 (Kd.R_reads' H.out.row).2.1 (by have := HOK.out.text; omega) HL.out m HM.out).mono ?_
  intro e w2 hF
  replace hF := PutR.of_fresh (o := (.slice A0 l0.length c0 : Value).ownBlock) hF HBW.out HB0.out
  obtain ⟨A2, c2, rfl, hF⟩ := hF
  have HF := Aside0.mk hF
  clear hF
  go_wp2_with fail
  go_ret
  exact ⟨A2, c2, rfl, HF.out⟩
set_option maxHeartbeats 4000000 in
set_option maxRecDepth 100000 in
theorem rput9 (A0 : Option Addr) (c0 : Nat) (l0 : List Int) (c : Cmd) (w0 w : World) (ho : OkC c) (hR : Kd.R (Kd.int .u8) 5 w w0.heap.size (fun _ => True) (.slice A0 l0.length c0) l0) (hB : Below w0.heap.size w0 w) (hl : l0.length + 300 < 140737488355328) :
    Calls Try.prog 26 #[.slice A0 l0.length c0, .agg (cells c), .int .i64 9] w (PutR w0 w (.slice A0 l0.length c0 : Value).ownBlock (l0 ++ putB c 9)) := by
  have H := Aside0.mk (PB.box (c := c) hR hB)
  have HBW := Aside0.mk (below_alloc (Below.refl w.heap.size w) (.cells (cells c) 28))
  have HL := Aside0.mk hl
  have HOK := Aside0.mk ho
  have HB0 := Aside0.mk hB
  obtain ⟨r, hr⟩ : ∃ r, w.heap.size = r := ⟨_, rfl⟩
  obtain ⟨w1, hw1⟩ : ∃ w1, w.alloc (.cells (cells c) 28) = w1 := ⟨_, rfl⟩
  rw [hw1] at H HBW
  replace H : Aside0 (PB w0 w w1 r c (.slice A0 l0.length c0 : Value).ownBlock (.slice A0 l0.length c0) l0) := ⟨by rw [← hr]; exact H.out⟩
  have H0 := H
  obtain ⟨m, hm⟩ : ∃ m, l0 ++ putB c 9 = m := ⟨_, rfl⟩
  rw [hm]
  have HM := Aside0.mk hm
  clear hR hB hl ho hm
  have x10 : w1.cell? ⟨r, 10, none⟩ = some (.int .u64 c.am) := cell_of H.out.blk 10
  go_enter Try.func26, Try.ntmps26
  go_wp2_with fail
  refine (rNum_at l0.length c0 (Kd.R_reads' H.out.row).2.2 rfl (Kd.R_reads' H.out.row).2.1 _ c.am.toNat (by have := HOK.out.am; omega) (by have := HOK.out.am; omega) 8 8 rfl (by have := HL.out; omega) m HM.out).mono ?_
  intro e w2 hF
  replace hF := PutR.of_fresh (o := (.slice A0 l0.length c0 : Value).ownBlock) hF HBW.out HB0.out
  obtain ⟨A2, c2, rfl, hF⟩ := hF
  have HF := Aside0.mk hF
  clear hF
  go_wp2_with fail
  go_ret
  exact ⟨A2, c2, rfl, HF.out⟩
set_option maxHeartbeats 4000000 in
set_option maxRecDepth 100000 in
theorem rput15 (A0 : Option Addr) (c0 : Nat) (l0 : List Int) (c : Cmd) (w0 w : World) (ho : OkC c) (hR : Kd.R (Kd.int .u8) 5 w w0.heap.size (fun _ => True) (.slice A0 l0.length c0) l0) (hB : Below w0.heap.size w0 w) (hl : l0.length + 300 < 140737488355328) :
    Calls Try.prog 26 #[.slice A0 l0.length c0, .agg (cells c), .int .i64 15] w (PutR w0 w (.slice A0 l0.length c0 : Value).ownBlock (l0 ++ putB c 15)) := by
  have H := Aside0.mk (PB.box (c := c) hR hB)
  have HBW := Aside0.mk (below_alloc (Below.refl w.heap.size w) (.cells (cells c) 28))
  have HL := Aside0.mk hl
  have HOK := Aside0.mk ho
  have HB0 := Aside0.mk hB
  obtain ⟨r, hr⟩ : ∃ r, w.heap.size = r := ⟨_, rfl⟩
  obtain ⟨w1, hw1⟩ : ∃ w1, w.alloc (.cells (cells c) 28) = w1 := ⟨_, rfl⟩
  rw [hw1] at H HBW
  replace H : Aside0 (PB w0 w w1 r c (.slice A0 l0.length c0 : Value).ownBlock (.slice A0 l0.length c0) l0) := ⟨by rw [← hr]; exact H.out⟩
  have H0 := H
  obtain ⟨m, hm⟩ : ∃ m, l0 ++ putB c 15 = m := ⟨_, rfl⟩
  rw [hm]
  have HM := Aside0.mk hm
  clear hR hB hl ho hm
  have x20 : w1.cell? ⟨r, 20, none⟩ = some (.int .u64 c.qt) := cell_of H.out.blk 20
  go_enter Try.func26, Try.ntmps26
  go_wp2_with fail
  refine (rNum_at l0.length c0 (Kd.R_reads' H.out.row).2.2 rfl (Kd.R_reads' H.out.row).2.1 _ c.qt.toNat (by have := HOK.out.qt; omega) (by have := HOK.out.qt; omega) 8 8 rfl (by have := HL.out; omega) m HM.out).mono ?_
  intro e w2 hF
  replace hF := PutR.of_fresh (o := (.slice A0 l0.length c0 : Value).ownBlock) hF HBW.out HB0.out
  obtain ⟨A2, c2, rfl, hF⟩ := hF
  have HF := Aside0.mk hF
  clear hF
  go_wp2_with fail
  go_ret
  exact ⟨A2, c2, rfl, HF.out⟩
set_option maxHeartbeats 4000000 in
set_option maxRecDepth 100000 in
theorem rput16 (A0 : Option Addr) (c0 : Nat) (l0 : List Int) (c : Cmd) (w0 w : World) (ho : OkC c) (hR : Kd.R (Kd.int .u8) 5 w w0.heap.size (fun _ => True) (.slice A0 l0.length c0) l0) (hB : Below w0.heap.size w0 w) (hl : l0.length + 300 < 140737488355328) :
    Calls Try.prog 26 #[.slice A0 l0.length c0, .agg (cells c), .int .i64 16] w (PutR w0 w (.slice A0 l0.length c0 : Value).ownBlock (l0 ++ putB c 16)) := by
  have H := Aside0.mk (PB.box (c := c) hR hB)
  have HBW := Aside0.mk (below_alloc (Below.refl w.heap.size w) (.cells (cells c) 28))
  have HL := Aside0.mk hl
  have HOK := Aside0.mk ho
  have HB0 := Aside0.mk hB
  obtain ⟨r, hr⟩ : ∃ r, w.heap.size = r := ⟨_, rfl⟩
  obtain ⟨w1, hw1⟩ : ∃ w1, w.alloc (.cells (cells c) 28) = w1 := ⟨_, rfl⟩
  rw [hw1] at H HBW
  replace H : Aside0 (PB w0 w w1 r c (.slice A0 l0.length c0 : Value).ownBlock (.slice A0 l0.length c0) l0) := ⟨by rw [← hr]; exact H.out⟩
  have H0 := H
  obtain ⟨m, hm⟩ : ∃ m, l0 ++ putB c 16 = m := ⟨_, rfl⟩
  rw [hm]
  have HM := Aside0.mk hm
  clear hR hB hl ho hm
  have x21 : w1.cell? ⟨r, 21, none⟩ = some (.int .u64 c.pr) := cell_of H.out.blk 21
  go_enter Try.func26, Try.ntmps26
  go_wp2_with fail
  refine (rNum_at l0.length c0 (Kd.R_reads' H.out.row).2.2 rfl (Kd.R_reads' H.out.row).2.1 _ c.pr.toNat (by have := HOK.out.pr; omega) (by have := HOK.out.pr; omega) 8 8 rfl (by have := HL.out; omega) m HM.out).mono ?_
  intro e w2 hF
  replace hF := PutR.of_fresh (o := (.slice A0 l0.length c0 : Value).ownBlock) hF HBW.out HB0.out
  obtain ⟨A2, c2, rfl, hF⟩ := hF
  have HF := Aside0.mk hF
  clear hF
  go_wp2_with fail
  go_ret
  exact ⟨A2, c2, rfl, HF.out⟩
set_option maxHeartbeats 4000000 in
set_option maxRecDepth 100000 in
theorem rput4 (A0 : Option Addr) (c0 : Nat) (l0 : List Int) (c : Cmd) (w0 w : World) (ho : OkC c) (hR : Kd.R (Kd.int .u8) 5 w w0.heap.size (fun _ => True) (.slice A0 l0.length c0) l0) (hB : Below w0.heap.size w0 w) (hl : l0.length + 300 < 140737488355328) :
    Calls Try.prog 26 #[.slice A0 l0.length c0, .agg (cells c), .int .i64 4] w (PutR w0 w (.slice A0 l0.length c0 : Value).ownBlock (l0 ++ putB c 4)) := by
  have H := Aside0.mk (PB.box (c := c) hR hB)
  have HBW := Aside0.mk (below_alloc (Below.refl w.heap.size w) (.cells (cells c) 28))
  have HL := Aside0.mk hl
  have HOK := Aside0.mk ho
  have HB0 := Aside0.mk hB
  obtain ⟨r, hr⟩ : ∃ r, w.heap.size = r := ⟨_, rfl⟩
  obtain ⟨w1, hw1⟩ : ∃ w1, w.alloc (.cells (cells c) 28) = w1 := ⟨_, rfl⟩
  rw [hw1] at H HBW
  replace H : Aside0 (PB w0 w w1 r c (.slice A0 l0.length c0 : Value).ownBlock (.slice A0 l0.length c0) l0) := ⟨by rw [← hr]; exact H.out⟩
  have H0 := H
  obtain ⟨m, hm⟩ : ∃ m, l0 ++ putB c 4 = m := ⟨_, rfl⟩
  rw [hm]
  have HM := Aside0.mk hm
  clear hR hB hl ho hm
  have x5 : w1.cell? ⟨r, 5, none⟩ = some (.int .i64 c.la) := cell_of H.out.blk 5
  have x6 : w1.cell? ⟨r, 6, none⟩ = some (.int .i64 c.wh) := cell_of H.out.blk 6
  have x7 : w1.cell? ⟨r, 7, none⟩ = some (.int .i64 c.sl) := cell_of H.out.blk 7
  have x8 : w1.cell? ⟨r, 8, none⟩ = some (.int .i64 c.di) := cell_of H.out.blk 8
  have x9 : w1.cell? ⟨r, 9, none⟩ = some (.int .i64 c.co) := cell_of H.out.blk 9
  have x17 : w1.cell? ⟨r, 17, none⟩ = some (.int .i64 c.si) := cell_of H.out.blk 17
  have x18 : w1.cell? ⟨r, 18, none⟩ = some (.int .i64 c.ba) := cell_of H.out.blk 18
  have x19 : w1.cell? ⟨r, 19, none⟩ = some (.int .i64 c.qu) := cell_of H.out.blk 19
  have hnew := blk_new w1 (.cells #[.int .i64 0, .int .i64 0, .int .i64 0, .int .i64 0, .int .i64 c.la, .int .i64 c.wh, .int .i64 c.sl, .int .i64 c.di, .int .i64 c.co, .int .i64 0, .int .i64 0, .int .i64 0, .int .i64 c.si, .int .i64 c.ba, .int .i64 c.qu] 3)
  have hbn := below_alloc (Below.refl w1.heap.size w1) (.cells #[.int .i64 0, .int .i64 0, .int .i64 0, .int .i64 0, .int .i64 c.la, .int .i64 c.wh, .int .i64 c.sl, .int .i64 c.di, .int .i64 c.co, .int .i64 0, .int .i64 0, .int .i64 0, .int .i64 c.si, .int .i64 c.ba, .int .i64 c.qu] 3)
  obtain ⟨tb, htb⟩ : ∃ tb, w1.heap.size = tb := ⟨_, rfl⟩
  obtain ⟨w2, hw2⟩ : ∃ w2, w1.alloc (.cells #[.int .i64 0, .int .i64 0, .int .i64 0, .int .i64 0, .int .i64 c.la, .int .i64 c.wh, .int .i64 c.sl, .int .i64 c.di, .int .i64 c.co, .int .i64 0, .int .i64 0, .int .i64 0, .int .i64 c.si, .int .i64 c.ba, .int .i64 c.qu] 3) = w2 := ⟨_, rfl⟩
  rw [hw2] at hnew hbn
  rw [htb] at hnew
  have z : w2.cell? ⟨tb, 4, none⟩ = some (.int .i64 c.la) := blk_cell hnew 4
  have H2 := Aside0.mk (H.out.step hbn)
  clear hnew hbn
  go_enter Try.func26, Try.ntmps26
  go_wp2_with fail
  refine (byte1_calls c.la _).mono ?_
  rintro e w' ⟨rfl, rfl⟩
  go_wp2_with (first
    | ((with_reducible refine gate_dst (N := 115) rfl ?_); refine Kd.R_lit (Kd.int .u8) _ 5 ?hg (N := 115) ?hd (xs := ([byteN c.la] : List Int)) (inner := [.int .u8 (byteN c.la)]) (ok := fun _ => True) (okp := fun _ => True) ?hr ?hp (fun _ hk => hk) trivial (Below.refl _ _) (Nat.le_refl _) (by simp) ?_; (case hd => rfl); (case hg => rfl); (case hr => first | (go_simp; done) | (go_simp; rfl)); (case hp => exact (Reps.one (show Kd.M (Kd.int .u8) _ _ _ (byteN c.la) [.int .u8 (byteN c.la)] from rfl) (Reps.none _ _))); intro v5 w5 ho5 hb5 hg_ hnew_; clear hg_ hnew_; obtain ⟨A5, c5, e5⟩ := Kd.R_slice ho5; subst e5; have H5 := Aside0.mk (H2.out.step hb5); have HC5 := Aside0.mk (Kd.R_reads' ho5).2.2; clear ho5 hb5)
    | ((with_reducible refine gate_builtin (b := .append) (xs := #[.tmp 109, .tmp 115]) rfl ?_); at_builtin; refine Kd.R_append_row (Value.int .u8) (0 : Int) (h1 := fun _ => rfl) (w0 := w0) w0.heap.size rfl (.tmp 109) (.tmp 115) 31 5 (.int .u8 0) 1 rfl Try.underlying31 info5 rfl (by decide) (.slice A0 l0.length c0) l0 ([byteN c.la] : List Int) A5 1 c5 (fun _ => True) rfl rfl (fun _ _ => trivial) H5.out.row HC5.out H5.out.below H5.out.below.size ?aL ?_; (case aL => have := HL.out; omega); intro v6 w6 ho hb hg hat; obtain ⟨A6, c6, e6⟩ := Kd.R_slice ho; subst e6; have H6 := Aside0.mk (And.intro ho (And.intro hb (And.intro hg (And.intro hat (blk_grown H5.out.blk hg (Kd.R_ne H5.out.row H5.out.blk (by decide))))))); clear ho hb hg hat)
    | fail)
  go_ret
  have hfin : l0 ++ [byteN c.la] = m := by rw [byte_beB HOK.out.la]; exact HM.out
  have hrow := H6.out.1
  rw [hfin] at hrow
  have hlen : m.length = l0.length + 1 := by rw [← hfin, List.length_append]; rfl
  exact ⟨A6, c6, by rw [hlen]; rfl, hrow, H6.out.2.1, grown_trans H5.out.grown H6.out.2.2.1⟩
set_option maxHeartbeats 4000000 in
set_option maxRecDepth 100000 in
theorem rput5 (A0 : Option Addr) (c0 : Nat) (l0 : List Int) (c : Cmd) (w0 w : World) (ho : OkC c) (hR : Kd.R (Kd.int .u8) 5 w w0.heap.size (fun _ => True) (.slice A0 l0.length c0) l0) (hB : Below w0.heap.size w0 w) (hl : l0.length + 300 < 140737488355328) :
    Calls Try.prog 26 #[.slice A0 l0.length c0, .agg (cells c), .int .i64 5] w (PutR w0 w (.slice A0 l0.length c0 : Value).ownBlock (l0 ++ putB c 5)) := by
  have H := Aside0.mk (PB.box (c := c) hR hB)
  have HBW := Aside0.mk (below_alloc (Below.refl w.heap.size w) (.cells (cells c) 28))
  have HL := Aside0.mk hl
  have HOK := Aside0.mk ho
  have HB0 := Aside0.mk hB
  obtain ⟨r, hr⟩ : ∃ r, w.heap.size = r := ⟨_, rfl⟩
  obtain ⟨w1, hw1⟩ : ∃ w1, w.alloc (.cells (cells c) 28) = w1 := ⟨_, rfl⟩
  rw [hw1] at H HBW
  replace H : Aside0 (PB w0 w w1 r c (.slice A0 l0.length c0 : Value).ownBlock (.slice A0 l0.length c0) l0) := ⟨by rw [← hr]; exact H.out⟩
  have H0 := H
  obtain ⟨m, hm⟩ : ∃ m, l0 ++ putB c 5 = m := ⟨_, rfl⟩
  rw [hm]
  have HM := Aside0.mk hm
  clear hR hB hl ho hm
  have x5 : w1.cell? ⟨r, 5, none⟩ = some (.int .i64 c.la) := cell_of H.out.blk 5
  have x6 : w1.cell? ⟨r, 6, none⟩ = some (.int .i64 c.wh) := cell_of H.out.blk 6
  have x7 : w1.cell? ⟨r, 7, none⟩ = some (.int .i64 c.sl) := cell_of H.out.blk 7
  have x8 : w1.cell? ⟨r, 8, none⟩ = some (.int .i64 c.di) := cell_of H.out.blk 8
  have x9 : w1.cell? ⟨r, 9, none⟩ = some (.int .i64 c.co) := cell_of H.out.blk 9
  have x17 : w1.cell? ⟨r, 17, none⟩ = some (.int .i64 c.si) := cell_of H.out.blk 17
  have x18 : w1.cell? ⟨r, 18, none⟩ = some (.int .i64 c.ba) := cell_of H.out.blk 18
  have x19 : w1.cell? ⟨r, 19, none⟩ = some (.int .i64 c.qu) := cell_of H.out.blk 19
  have hnew := blk_new w1 (.cells #[.int .i64 0, .int .i64 0, .int .i64 0, .int .i64 0, .int .i64 c.la, .int .i64 c.wh, .int .i64 c.sl, .int .i64 c.di, .int .i64 c.co, .int .i64 0, .int .i64 0, .int .i64 0, .int .i64 c.si, .int .i64 c.ba, .int .i64 c.qu] 3)
  have hbn := below_alloc (Below.refl w1.heap.size w1) (.cells #[.int .i64 0, .int .i64 0, .int .i64 0, .int .i64 0, .int .i64 c.la, .int .i64 c.wh, .int .i64 c.sl, .int .i64 c.di, .int .i64 c.co, .int .i64 0, .int .i64 0, .int .i64 0, .int .i64 c.si, .int .i64 c.ba, .int .i64 c.qu] 3)
  obtain ⟨tb, htb⟩ : ∃ tb, w1.heap.size = tb := ⟨_, rfl⟩
  obtain ⟨w2, hw2⟩ : ∃ w2, w1.alloc (.cells #[.int .i64 0, .int .i64 0, .int .i64 0, .int .i64 0, .int .i64 c.la, .int .i64 c.wh, .int .i64 c.sl, .int .i64 c.di, .int .i64 c.co, .int .i64 0, .int .i64 0, .int .i64 0, .int .i64 c.si, .int .i64 c.ba, .int .i64 c.qu] 3) = w2 := ⟨_, rfl⟩
  rw [hw2] at hnew hbn
  rw [htb] at hnew
  have z : w2.cell? ⟨tb, 5, none⟩ = some (.int .i64 c.wh) := blk_cell hnew 5
  have H2 := Aside0.mk (H.out.step hbn)
  clear hnew hbn
  go_enter Try.func26, Try.ntmps26
  go_wp2_with fail
  refine (byte1_calls c.wh _).mono ?_
  rintro e w' ⟨rfl, rfl⟩
  go_wp2_with (first
    | ((with_reducible refine gate_dst (N := 115) rfl ?_); refine Kd.R_lit (Kd.int .u8) _ 5 ?hg (N := 115) ?hd (xs := ([byteN c.wh] : List Int)) (inner := [.int .u8 (byteN c.wh)]) (ok := fun _ => True) (okp := fun _ => True) ?hr ?hp (fun _ hk => hk) trivial (Below.refl _ _) (Nat.le_refl _) (by simp) ?_; (case hd => rfl); (case hg => rfl); (case hr => first | (go_simp; done) | (go_simp; rfl)); (case hp => exact (Reps.one (show Kd.M (Kd.int .u8) _ _ _ (byteN c.wh) [.int .u8 (byteN c.wh)] from rfl) (Reps.none _ _))); intro v5 w5 ho5 hb5 hg_ hnew_; clear hg_ hnew_; obtain ⟨A5, c5, e5⟩ := Kd.R_slice ho5; subst e5; have H5 := Aside0.mk (H2.out.step hb5); have HC5 := Aside0.mk (Kd.R_reads' ho5).2.2; clear ho5 hb5)
    | ((with_reducible refine gate_builtin (b := .append) (xs := #[.tmp 109, .tmp 115]) rfl ?_); at_builtin; refine Kd.R_append_row (Value.int .u8) (0 : Int) (h1 := fun _ => rfl) (w0 := w0) w0.heap.size rfl (.tmp 109) (.tmp 115) 31 5 (.int .u8 0) 1 rfl Try.underlying31 info5 rfl (by decide) (.slice A0 l0.length c0) l0 ([byteN c.wh] : List Int) A5 1 c5 (fun _ => True) rfl rfl (fun _ _ => trivial) H5.out.row HC5.out H5.out.below H5.out.below.size ?aL ?_; (case aL => have := HL.out; omega); intro v6 w6 ho hb hg hat; obtain ⟨A6, c6, e6⟩ := Kd.R_slice ho; subst e6; have H6 := Aside0.mk (And.intro ho (And.intro hb (And.intro hg (And.intro hat (blk_grown H5.out.blk hg (Kd.R_ne H5.out.row H5.out.blk (by decide))))))); clear ho hb hg hat)
    | fail)
  go_ret
  have hfin : l0 ++ [byteN c.wh] = m := by rw [byte_beB HOK.out.wh]; exact HM.out
  have hrow := H6.out.1
  rw [hfin] at hrow
  have hlen : m.length = l0.length + 1 := by rw [← hfin, List.length_append]; rfl
  exact ⟨A6, c6, by rw [hlen]; rfl, hrow, H6.out.2.1, grown_trans H5.out.grown H6.out.2.2.1⟩
set_option maxHeartbeats 4000000 in
set_option maxRecDepth 100000 in
theorem rput6 (A0 : Option Addr) (c0 : Nat) (l0 : List Int) (c : Cmd) (w0 w : World) (ho : OkC c) (hR : Kd.R (Kd.int .u8) 5 w w0.heap.size (fun _ => True) (.slice A0 l0.length c0) l0) (hB : Below w0.heap.size w0 w) (hl : l0.length + 300 < 140737488355328) :
    Calls Try.prog 26 #[.slice A0 l0.length c0, .agg (cells c), .int .i64 6] w (PutR w0 w (.slice A0 l0.length c0 : Value).ownBlock (l0 ++ putB c 6)) := by
  have H := Aside0.mk (PB.box (c := c) hR hB)
  have HBW := Aside0.mk (below_alloc (Below.refl w.heap.size w) (.cells (cells c) 28))
  have HL := Aside0.mk hl
  have HOK := Aside0.mk ho
  have HB0 := Aside0.mk hB
  obtain ⟨r, hr⟩ : ∃ r, w.heap.size = r := ⟨_, rfl⟩
  obtain ⟨w1, hw1⟩ : ∃ w1, w.alloc (.cells (cells c) 28) = w1 := ⟨_, rfl⟩
  rw [hw1] at H HBW
  replace H : Aside0 (PB w0 w w1 r c (.slice A0 l0.length c0 : Value).ownBlock (.slice A0 l0.length c0) l0) := ⟨by rw [← hr]; exact H.out⟩
  have H0 := H
  obtain ⟨m, hm⟩ : ∃ m, l0 ++ putB c 6 = m := ⟨_, rfl⟩
  rw [hm]
  have HM := Aside0.mk hm
  clear hR hB hl ho hm
  have x5 : w1.cell? ⟨r, 5, none⟩ = some (.int .i64 c.la) := cell_of H.out.blk 5
  have x6 : w1.cell? ⟨r, 6, none⟩ = some (.int .i64 c.wh) := cell_of H.out.blk 6
  have x7 : w1.cell? ⟨r, 7, none⟩ = some (.int .i64 c.sl) := cell_of H.out.blk 7
  have x8 : w1.cell? ⟨r, 8, none⟩ = some (.int .i64 c.di) := cell_of H.out.blk 8
  have x9 : w1.cell? ⟨r, 9, none⟩ = some (.int .i64 c.co) := cell_of H.out.blk 9
  have x17 : w1.cell? ⟨r, 17, none⟩ = some (.int .i64 c.si) := cell_of H.out.blk 17
  have x18 : w1.cell? ⟨r, 18, none⟩ = some (.int .i64 c.ba) := cell_of H.out.blk 18
  have x19 : w1.cell? ⟨r, 19, none⟩ = some (.int .i64 c.qu) := cell_of H.out.blk 19
  have hnew := blk_new w1 (.cells #[.int .i64 0, .int .i64 0, .int .i64 0, .int .i64 0, .int .i64 c.la, .int .i64 c.wh, .int .i64 c.sl, .int .i64 c.di, .int .i64 c.co, .int .i64 0, .int .i64 0, .int .i64 0, .int .i64 c.si, .int .i64 c.ba, .int .i64 c.qu] 3)
  have hbn := below_alloc (Below.refl w1.heap.size w1) (.cells #[.int .i64 0, .int .i64 0, .int .i64 0, .int .i64 0, .int .i64 c.la, .int .i64 c.wh, .int .i64 c.sl, .int .i64 c.di, .int .i64 c.co, .int .i64 0, .int .i64 0, .int .i64 0, .int .i64 c.si, .int .i64 c.ba, .int .i64 c.qu] 3)
  obtain ⟨tb, htb⟩ : ∃ tb, w1.heap.size = tb := ⟨_, rfl⟩
  obtain ⟨w2, hw2⟩ : ∃ w2, w1.alloc (.cells #[.int .i64 0, .int .i64 0, .int .i64 0, .int .i64 0, .int .i64 c.la, .int .i64 c.wh, .int .i64 c.sl, .int .i64 c.di, .int .i64 c.co, .int .i64 0, .int .i64 0, .int .i64 0, .int .i64 c.si, .int .i64 c.ba, .int .i64 c.qu] 3) = w2 := ⟨_, rfl⟩
  rw [hw2] at hnew hbn
  rw [htb] at hnew
  have z : w2.cell? ⟨tb, 6, none⟩ = some (.int .i64 c.sl) := blk_cell hnew 6
  have H2 := Aside0.mk (H.out.step hbn)
  clear hnew hbn
  go_enter Try.func26, Try.ntmps26
  go_wp2_with fail
  refine (byte1_calls c.sl _).mono ?_
  rintro e w' ⟨rfl, rfl⟩
  go_wp2_with (first
    | ((with_reducible refine gate_dst (N := 115) rfl ?_); refine Kd.R_lit (Kd.int .u8) _ 5 ?hg (N := 115) ?hd (xs := ([byteN c.sl] : List Int)) (inner := [.int .u8 (byteN c.sl)]) (ok := fun _ => True) (okp := fun _ => True) ?hr ?hp (fun _ hk => hk) trivial (Below.refl _ _) (Nat.le_refl _) (by simp) ?_; (case hd => rfl); (case hg => rfl); (case hr => first | (go_simp; done) | (go_simp; rfl)); (case hp => exact (Reps.one (show Kd.M (Kd.int .u8) _ _ _ (byteN c.sl) [.int .u8 (byteN c.sl)] from rfl) (Reps.none _ _))); intro v5 w5 ho5 hb5 hg_ hnew_; clear hg_ hnew_; obtain ⟨A5, c5, e5⟩ := Kd.R_slice ho5; subst e5; have H5 := Aside0.mk (H2.out.step hb5); have HC5 := Aside0.mk (Kd.R_reads' ho5).2.2; clear ho5 hb5)
    | ((with_reducible refine gate_builtin (b := .append) (xs := #[.tmp 109, .tmp 115]) rfl ?_); at_builtin; refine Kd.R_append_row (Value.int .u8) (0 : Int) (h1 := fun _ => rfl) (w0 := w0) w0.heap.size rfl (.tmp 109) (.tmp 115) 31 5 (.int .u8 0) 1 rfl Try.underlying31 info5 rfl (by decide) (.slice A0 l0.length c0) l0 ([byteN c.sl] : List Int) A5 1 c5 (fun _ => True) rfl rfl (fun _ _ => trivial) H5.out.row HC5.out H5.out.below H5.out.below.size ?aL ?_; (case aL => have := HL.out; omega); intro v6 w6 ho hb hg hat; obtain ⟨A6, c6, e6⟩ := Kd.R_slice ho; subst e6; have H6 := Aside0.mk (And.intro ho (And.intro hb (And.intro hg (And.intro hat (blk_grown H5.out.blk hg (Kd.R_ne H5.out.row H5.out.blk (by decide))))))); clear ho hb hg hat)
    | fail)
  go_ret
  have hfin : l0 ++ [byteN c.sl] = m := by rw [byte_beB HOK.out.sl]; exact HM.out
  have hrow := H6.out.1
  rw [hfin] at hrow
  have hlen : m.length = l0.length + 1 := by rw [← hfin, List.length_append]; rfl
  exact ⟨A6, c6, by rw [hlen]; rfl, hrow, H6.out.2.1, grown_trans H5.out.grown H6.out.2.2.1⟩
set_option maxHeartbeats 4000000 in
set_option maxRecDepth 100000 in
theorem rput7 (A0 : Option Addr) (c0 : Nat) (l0 : List Int) (c : Cmd) (w0 w : World) (ho : OkC c) (hR : Kd.R (Kd.int .u8) 5 w w0.heap.size (fun _ => True) (.slice A0 l0.length c0) l0) (hB : Below w0.heap.size w0 w) (hl : l0.length + 300 < 140737488355328) :
    Calls Try.prog 26 #[.slice A0 l0.length c0, .agg (cells c), .int .i64 7] w (PutR w0 w (.slice A0 l0.length c0 : Value).ownBlock (l0 ++ putB c 7)) := by
  have H := Aside0.mk (PB.box (c := c) hR hB)
  have HBW := Aside0.mk (below_alloc (Below.refl w.heap.size w) (.cells (cells c) 28))
  have HL := Aside0.mk hl
  have HOK := Aside0.mk ho
  have HB0 := Aside0.mk hB
  obtain ⟨r, hr⟩ : ∃ r, w.heap.size = r := ⟨_, rfl⟩
  obtain ⟨w1, hw1⟩ : ∃ w1, w.alloc (.cells (cells c) 28) = w1 := ⟨_, rfl⟩
  rw [hw1] at H HBW
  replace H : Aside0 (PB w0 w w1 r c (.slice A0 l0.length c0 : Value).ownBlock (.slice A0 l0.length c0) l0) := ⟨by rw [← hr]; exact H.out⟩
  have H0 := H
  obtain ⟨m, hm⟩ : ∃ m, l0 ++ putB c 7 = m := ⟨_, rfl⟩
  rw [hm]
  have HM := Aside0.mk hm
  clear hR hB hl ho hm
  have x5 : w1.cell? ⟨r, 5, none⟩ = some (.int .i64 c.la) := cell_of H.out.blk 5
  have x6 : w1.cell? ⟨r, 6, none⟩ = some (.int .i64 c.wh) := cell_of H.out.blk 6
  have x7 : w1.cell? ⟨r, 7, none⟩ = some (.int .i64 c.sl) := cell_of H.out.blk 7
  have x8 : w1.cell? ⟨r, 8, none⟩ = some (.int .i64 c.di) := cell_of H.out.blk 8
  have x9 : w1.cell? ⟨r, 9, none⟩ = some (.int .i64 c.co) := cell_of H.out.blk 9
  have x17 : w1.cell? ⟨r, 17, none⟩ = some (.int .i64 c.si) := cell_of H.out.blk 17
  have x18 : w1.cell? ⟨r, 18, none⟩ = some (.int .i64 c.ba) := cell_of H.out.blk 18
  have x19 : w1.cell? ⟨r, 19, none⟩ = some (.int .i64 c.qu) := cell_of H.out.blk 19
  have hnew := blk_new w1 (.cells #[.int .i64 0, .int .i64 0, .int .i64 0, .int .i64 0, .int .i64 c.la, .int .i64 c.wh, .int .i64 c.sl, .int .i64 c.di, .int .i64 c.co, .int .i64 0, .int .i64 0, .int .i64 0, .int .i64 c.si, .int .i64 c.ba, .int .i64 c.qu] 3)
  have hbn := below_alloc (Below.refl w1.heap.size w1) (.cells #[.int .i64 0, .int .i64 0, .int .i64 0, .int .i64 0, .int .i64 c.la, .int .i64 c.wh, .int .i64 c.sl, .int .i64 c.di, .int .i64 c.co, .int .i64 0, .int .i64 0, .int .i64 0, .int .i64 c.si, .int .i64 c.ba, .int .i64 c.qu] 3)
  obtain ⟨tb, htb⟩ : ∃ tb, w1.heap.size = tb := ⟨_, rfl⟩
  obtain ⟨w2, hw2⟩ : ∃ w2, w1.alloc (.cells #[.int .i64 0, .int .i64 0, .int .i64 0, .int .i64 0, .int .i64 c.la, .int .i64 c.wh, .int .i64 c.sl, .int .i64 c.di, .int .i64 c.co, .int .i64 0, .int .i64 0, .int .i64 0, .int .i64 c.si, .int .i64 c.ba, .int .i64 c.qu] 3) = w2 := ⟨_, rfl⟩
  rw [hw2] at hnew hbn
  rw [htb] at hnew
  have z : w2.cell? ⟨tb, 7, none⟩ = some (.int .i64 c.di) := blk_cell hnew 7
  have H2 := Aside0.mk (H.out.step hbn)
  clear hnew hbn
  go_enter Try.func26, Try.ntmps26
  go_wp2_with fail
  refine (byte1_calls c.di _).mono ?_
  rintro e w' ⟨rfl, rfl⟩
  go_wp2_with (first
    | ((with_reducible refine gate_dst (N := 115) rfl ?_); refine Kd.R_lit (Kd.int .u8) _ 5 ?hg (N := 115) ?hd (xs := ([byteN c.di] : List Int)) (inner := [.int .u8 (byteN c.di)]) (ok := fun _ => True) (okp := fun _ => True) ?hr ?hp (fun _ hk => hk) trivial (Below.refl _ _) (Nat.le_refl _) (by simp) ?_; (case hd => rfl); (case hg => rfl); (case hr => first | (go_simp; done) | (go_simp; rfl)); (case hp => exact (Reps.one (show Kd.M (Kd.int .u8) _ _ _ (byteN c.di) [.int .u8 (byteN c.di)] from rfl) (Reps.none _ _))); intro v5 w5 ho5 hb5 hg_ hnew_; clear hg_ hnew_; obtain ⟨A5, c5, e5⟩ := Kd.R_slice ho5; subst e5; have H5 := Aside0.mk (H2.out.step hb5); have HC5 := Aside0.mk (Kd.R_reads' ho5).2.2; clear ho5 hb5)
    | ((with_reducible refine gate_builtin (b := .append) (xs := #[.tmp 109, .tmp 115]) rfl ?_); at_builtin; refine Kd.R_append_row (Value.int .u8) (0 : Int) (h1 := fun _ => rfl) (w0 := w0) w0.heap.size rfl (.tmp 109) (.tmp 115) 31 5 (.int .u8 0) 1 rfl Try.underlying31 info5 rfl (by decide) (.slice A0 l0.length c0) l0 ([byteN c.di] : List Int) A5 1 c5 (fun _ => True) rfl rfl (fun _ _ => trivial) H5.out.row HC5.out H5.out.below H5.out.below.size ?aL ?_; (case aL => have := HL.out; omega); intro v6 w6 ho hb hg hat; obtain ⟨A6, c6, e6⟩ := Kd.R_slice ho; subst e6; have H6 := Aside0.mk (And.intro ho (And.intro hb (And.intro hg (And.intro hat (blk_grown H5.out.blk hg (Kd.R_ne H5.out.row H5.out.blk (by decide))))))); clear ho hb hg hat)
    | fail)
  go_ret
  have hfin : l0 ++ [byteN c.di] = m := by rw [byte_beB HOK.out.di]; exact HM.out
  have hrow := H6.out.1
  rw [hfin] at hrow
  have hlen : m.length = l0.length + 1 := by rw [← hfin, List.length_append]; rfl
  exact ⟨A6, c6, by rw [hlen]; rfl, hrow, H6.out.2.1, grown_trans H5.out.grown H6.out.2.2.1⟩
set_option maxHeartbeats 4000000 in
set_option maxRecDepth 100000 in
theorem rput8 (A0 : Option Addr) (c0 : Nat) (l0 : List Int) (c : Cmd) (w0 w : World) (ho : OkC c) (hR : Kd.R (Kd.int .u8) 5 w w0.heap.size (fun _ => True) (.slice A0 l0.length c0) l0) (hB : Below w0.heap.size w0 w) (hl : l0.length + 300 < 140737488355328) :
    Calls Try.prog 26 #[.slice A0 l0.length c0, .agg (cells c), .int .i64 8] w (PutR w0 w (.slice A0 l0.length c0 : Value).ownBlock (l0 ++ putB c 8)) := by
  have H := Aside0.mk (PB.box (c := c) hR hB)
  have HBW := Aside0.mk (below_alloc (Below.refl w.heap.size w) (.cells (cells c) 28))
  have HL := Aside0.mk hl
  have HOK := Aside0.mk ho
  have HB0 := Aside0.mk hB
  obtain ⟨r, hr⟩ : ∃ r, w.heap.size = r := ⟨_, rfl⟩
  obtain ⟨w1, hw1⟩ : ∃ w1, w.alloc (.cells (cells c) 28) = w1 := ⟨_, rfl⟩
  rw [hw1] at H HBW
  replace H : Aside0 (PB w0 w w1 r c (.slice A0 l0.length c0 : Value).ownBlock (.slice A0 l0.length c0) l0) := ⟨by rw [← hr]; exact H.out⟩
  have H0 := H
  obtain ⟨m, hm⟩ : ∃ m, l0 ++ putB c 8 = m := ⟨_, rfl⟩
  rw [hm]
  have HM := Aside0.mk hm
  clear hR hB hl ho hm
  have x5 : w1.cell? ⟨r, 5, none⟩ = some (.int .i64 c.la) := cell_of H.out.blk 5
  have x6 : w1.cell? ⟨r, 6, none⟩ = some (.int .i64 c.wh) := cell_of H.out.blk 6
  have x7 : w1.cell? ⟨r, 7, none⟩ = some (.int .i64 c.sl) := cell_of H.out.blk 7
  have x8 : w1.cell? ⟨r, 8, none⟩ = some (.int .i64 c.di) := cell_of H.out.blk 8
  have x9 : w1.cell? ⟨r, 9, none⟩ = some (.int .i64 c.co) := cell_of H.out.blk 9
  have x17 : w1.cell? ⟨r, 17, none⟩ = some (.int .i64 c.si) := cell_of H.out.blk 17
  have x18 : w1.cell? ⟨r, 18, none⟩ = some (.int .i64 c.ba) := cell_of H.out.blk 18
  have x19 : w1.cell? ⟨r, 19, none⟩ = some (.int .i64 c.qu) := cell_of H.out.blk 19
  have hnew := blk_new w1 (.cells #[.int .i64 0, .int .i64 0, .int .i64 0, .int .i64 0, .int .i64 c.la, .int .i64 c.wh, .int .i64 c.sl, .int .i64 c.di, .int .i64 c.co, .int .i64 0, .int .i64 0, .int .i64 0, .int .i64 c.si, .int .i64 c.ba, .int .i64 c.qu] 3)
  have hbn := below_alloc (Below.refl w1.heap.size w1) (.cells #[.int .i64 0, .int .i64 0, .int .i64 0, .int .i64 0, .int .i64 c.la, .int .i64 c.wh, .int .i64 c.sl, .int .i64 c.di, .int .i64 c.co, .int .i64 0, .int .i64 0, .int .i64 0, .int .i64 c.si, .int .i64 c.ba, .int .i64 c.qu] 3)
  obtain ⟨tb, htb⟩ : ∃ tb, w1.heap.size = tb := ⟨_, rfl⟩
  obtain ⟨w2, hw2⟩ : ∃ w2, w1.alloc (.cells #[.int .i64 0, .int .i64 0, .int .i64 0, .int .i64 0, .int .i64 c.la, .int .i64 c.wh, .int .i64 c.sl, .int .i64 c.di, .int .i64 c.co, .int .i64 0, .int .i64 0, .int .i64 0, .int .i64 c.si, .int .i64 c.ba, .int .i64 c.qu] 3) = w2 := ⟨_, rfl⟩
  rw [hw2] at hnew hbn
  rw [htb] at hnew
  have z : w2.cell? ⟨tb, 8, none⟩ = some (.int .i64 c.co) := blk_cell hnew 8
  have H2 := Aside0.mk (H.out.step hbn)
  clear hnew hbn
  go_enter Try.func26, Try.ntmps26
  go_wp2_with fail
  refine (byte1_calls c.co _).mono ?_
  rintro e w' ⟨rfl, rfl⟩
  go_wp2_with (first
    | ((with_reducible refine gate_dst (N := 115) rfl ?_); refine Kd.R_lit (Kd.int .u8) _ 5 ?hg (N := 115) ?hd (xs := ([byteN c.co] : List Int)) (inner := [.int .u8 (byteN c.co)]) (ok := fun _ => True) (okp := fun _ => True) ?hr ?hp (fun _ hk => hk) trivial (Below.refl _ _) (Nat.le_refl _) (by simp) ?_; (case hd => rfl); (case hg => rfl); (case hr => first | (go_simp; done) | (go_simp; rfl)); (case hp => exact (Reps.one (show Kd.M (Kd.int .u8) _ _ _ (byteN c.co) [.int .u8 (byteN c.co)] from rfl) (Reps.none _ _))); intro v5 w5 ho5 hb5 hg_ hnew_; clear hg_ hnew_; obtain ⟨A5, c5, e5⟩ := Kd.R_slice ho5; subst e5; have H5 := Aside0.mk (H2.out.step hb5); have HC5 := Aside0.mk (Kd.R_reads' ho5).2.2; clear ho5 hb5)
    | ((with_reducible refine gate_builtin (b := .append) (xs := #[.tmp 109, .tmp 115]) rfl ?_); at_builtin; refine Kd.R_append_row (Value.int .u8) (0 : Int) (h1 := fun _ => rfl) (w0 := w0) w0.heap.size rfl (.tmp 109) (.tmp 115) 31 5 (.int .u8 0) 1 rfl Try.underlying31 info5 rfl (by decide) (.slice A0 l0.length c0) l0 ([byteN c.co] : List Int) A5 1 c5 (fun _ => True) rfl rfl (fun _ _ => trivial) H5.out.row HC5.out H5.out.below H5.out.below.size ?aL ?_; (case aL => have := HL.out; omega); intro v6 w6 ho hb hg hat; obtain ⟨A6, c6, e6⟩ := Kd.R_slice ho; subst e6; have H6 := Aside0.mk (And.intro ho (And.intro hb (And.intro hg (And.intro hat (blk_grown H5.out.blk hg (Kd.R_ne H5.out.row H5.out.blk (by decide))))))); clear ho hb hg hat)
    | fail)
  go_ret
  have hfin : l0 ++ [byteN c.co] = m := by rw [byte_beB HOK.out.co]; exact HM.out
  have hrow := H6.out.1
  rw [hfin] at hrow
  have hlen : m.length = l0.length + 1 := by rw [← hfin, List.length_append]; rfl
  exact ⟨A6, c6, by rw [hlen]; rfl, hrow, H6.out.2.1, grown_trans H5.out.grown H6.out.2.2.1⟩
set_option maxHeartbeats 4000000 in
set_option maxRecDepth 100000 in
theorem rput12 (A0 : Option Addr) (c0 : Nat) (l0 : List Int) (c : Cmd) (w0 w : World) (ho : OkC c) (hR : Kd.R (Kd.int .u8) 5 w w0.heap.size (fun _ => True) (.slice A0 l0.length c0) l0) (hB : Below w0.heap.size w0 w) (hl : l0.length + 300 < 140737488355328) :
    Calls Try.prog 26 #[.slice A0 l0.length c0, .agg (cells c), .int .i64 12] w (PutR w0 w (.slice A0 l0.length c0 : Value).ownBlock (l0 ++ putB c 12)) := by
  have H := Aside0.mk (PB.box (c := c) hR hB)
  have HBW := Aside0.mk (below_alloc (Below.refl w.heap.size w) (.cells (cells c) 28))
  have HL := Aside0.mk hl
  have HOK := Aside0.mk ho
  have HB0 := Aside0.mk hB
  obtain ⟨r, hr⟩ : ∃ r, w.heap.size = r := ⟨_, rfl⟩
  obtain ⟨w1, hw1⟩ : ∃ w1, w.alloc (.cells (cells c) 28) = w1 := ⟨_, rfl⟩
  rw [hw1] at H HBW
  replace H : Aside0 (PB w0 w w1 r c (.slice A0 l0.length c0 : Value).ownBlock (.slice A0 l0.length c0) l0) := ⟨by rw [← hr]; exact H.out⟩
  have H0 := H
  obtain ⟨m, hm⟩ : ∃ m, l0 ++ putB c 12 = m := ⟨_, rfl⟩
  rw [hm]
  have HM := Aside0.mk hm
  clear hR hB hl ho hm
  have x5 : w1.cell? ⟨r, 5, none⟩ = some (.int .i64 c.la) := cell_of H.out.blk 5
  have x6 : w1.cell? ⟨r, 6, none⟩ = some (.int .i64 c.wh) := cell_of H.out.blk 6
  have x7 : w1.cell? ⟨r, 7, none⟩ = some (.int .i64 c.sl) := cell_of H.out.blk 7
  have x8 : w1.cell? ⟨r, 8, none⟩ = some (.int .i64 c.di) := cell_of H.out.blk 8
  have x9 : w1.cell? ⟨r, 9, none⟩ = some (.int .i64 c.co) := cell_of H.out.blk 9
  have x17 : w1.cell? ⟨r, 17, none⟩ = some (.int .i64 c.si) := cell_of H.out.blk 17
  have x18 : w1.cell? ⟨r, 18, none⟩ = some (.int .i64 c.ba) := cell_of H.out.blk 18
  have x19 : w1.cell? ⟨r, 19, none⟩ = some (.int .i64 c.qu) := cell_of H.out.blk 19
  have hnew := blk_new w1 (.cells #[.int .i64 0, .int .i64 0, .int .i64 0, .int .i64 0, .int .i64 c.la, .int .i64 c.wh, .int .i64 c.sl, .int .i64 c.di, .int .i64 c.co, .int .i64 0, .int .i64 0, .int .i64 0, .int .i64 c.si, .int .i64 c.ba, .int .i64 c.qu] 3)
  have hbn := below_alloc (Below.refl w1.heap.size w1) (.cells #[.int .i64 0, .int .i64 0, .int .i64 0, .int .i64 0, .int .i64 c.la, .int .i64 c.wh, .int .i64 c.sl, .int .i64 c.di, .int .i64 c.co, .int .i64 0, .int .i64 0, .int .i64 0, .int .i64 c.si, .int .i64 c.ba, .int .i64 c.qu] 3)
  obtain ⟨tb, htb⟩ : ∃ tb, w1.heap.size = tb := ⟨_, rfl⟩
  obtain ⟨w2, hw2⟩ : ∃ w2, w1.alloc (.cells #[.int .i64 0, .int .i64 0, .int .i64 0, .int .i64 0, .int .i64 c.la, .int .i64 c.wh, .int .i64 c.sl, .int .i64 c.di, .int .i64 c.co, .int .i64 0, .int .i64 0, .int .i64 0, .int .i64 c.si, .int .i64 c.ba, .int .i64 c.qu] 3) = w2 := ⟨_, rfl⟩
  rw [hw2] at hnew hbn
  rw [htb] at hnew
  have z : w2.cell? ⟨tb, 12, none⟩ = some (.int .i64 c.si) := blk_cell hnew 12
  have H2 := Aside0.mk (H.out.step hbn)
  clear hnew hbn
  go_enter Try.func26, Try.ntmps26
  go_wp2_with fail
  refine (byte1_calls c.si _).mono ?_
  rintro e w' ⟨rfl, rfl⟩
  go_wp2_with (first
    | ((with_reducible refine gate_dst (N := 115) rfl ?_); refine Kd.R_lit (Kd.int .u8) _ 5 ?hg (N := 115) ?hd (xs := ([byteN c.si] : List Int)) (inner := [.int .u8 (byteN c.si)]) (ok := fun _ => True) (okp := fun _ => True) ?hr ?hp (fun _ hk => hk) trivial (Below.refl _ _) (Nat.le_refl _) (by simp) ?_; (case hd => rfl); (case hg => rfl); (case hr => first | (go_simp; done) | (go_simp; rfl)); (case hp => exact (Reps.one (show Kd.M (Kd.int .u8) _ _ _ (byteN c.si) [.int .u8 (byteN c.si)] from rfl) (Reps.none _ _))); intro v5 w5 ho5 hb5 hg_ hnew_; clear hg_ hnew_; obtain ⟨A5, c5, e5⟩ := Kd.R_slice ho5; subst e5; have H5 := Aside0.mk (H2.out.step hb5); have HC5 := Aside0.mk (Kd.R_reads' ho5).2.2; clear ho5 hb5)
    | ((with_reducible refine gate_builtin (b := .append) (xs := #[.tmp 109, .tmp 115]) rfl ?_); at_builtin; refine Kd.R_append_row (Value.int .u8) (0 : Int) (h1 := fun _ => rfl) (w0 := w0) w0.heap.size rfl (.tmp 109) (.tmp 115) 31 5 (.int .u8 0) 1 rfl Try.underlying31 info5 rfl (by decide) (.slice A0 l0.length c0) l0 ([byteN c.si] : List Int) A5 1 c5 (fun _ => True) rfl rfl (fun _ _ => trivial) H5.out.row HC5.out H5.out.below H5.out.below.size ?aL ?_; (case aL => have := HL.out; omega); intro v6 w6 ho hb hg hat; obtain ⟨A6, c6, e6⟩ := Kd.R_slice ho; subst e6; have H6 := Aside0.mk (And.intro ho (And.intro hb (And.intro hg (And.intro hat (blk_grown H5.out.blk hg (Kd.R_ne H5.out.row H5.out.blk (by decide))))))); clear ho hb hg hat)
    | fail)
  go_ret
  have hfin : l0 ++ [byteN c.si] = m := by rw [byte_beB HOK.out.si]; exact HM.out
  have hrow := H6.out.1
  rw [hfin] at hrow
  have hlen : m.length = l0.length + 1 := by rw [← hfin, List.length_append]; rfl
  exact ⟨A6, c6, by rw [hlen]; rfl, hrow, H6.out.2.1, grown_trans H5.out.grown H6.out.2.2.1⟩
set_option maxHeartbeats 4000000 in
set_option maxRecDepth 100000 in
theorem rput13 (A0 : Option Addr) (c0 : Nat) (l0 : List Int) (c : Cmd) (w0 w : World) (ho : OkC c) (hR : Kd.R (Kd.int .u8) 5 w w0.heap.size (fun _ => True) (.slice A0 l0.length c0) l0) (hB : Below w0.heap.size w0 w) (hl : l0.length + 300 < 140737488355328) :
    Calls Try.prog 26 #[.slice A0 l0.length c0, .agg (cells c), .int .i64 13] w (PutR w0 w (.slice A0 l0.length c0 : Value).ownBlock (l0 ++ putB c 13)) := by
  have H := Aside0.mk (PB.box (c := c) hR hB)
  have HBW := Aside0.mk (below_alloc (Below.refl w.heap.size w) (.cells (cells c) 28))
  have HL := Aside0.mk hl
  have HOK := Aside0.mk ho
  have HB0 := Aside0.mk hB
  obtain ⟨r, hr⟩ : ∃ r, w.heap.size = r := ⟨_, rfl⟩
  obtain ⟨w1, hw1⟩ : ∃ w1, w.alloc (.cells (cells c) 28) = w1 := ⟨_, rfl⟩
  rw [hw1] at H HBW
  replace H : Aside0 (PB w0 w w1 r c (.slice A0 l0.length c0 : Value).ownBlock (.slice A0 l0.length c0) l0) := ⟨by rw [← hr]; exact H.out⟩
  have H0 := H
  obtain ⟨m, hm⟩ : ∃ m, l0 ++ putB c 13 = m := ⟨_, rfl⟩
  rw [hm]
  have HM := Aside0.mk hm
  clear hR hB hl ho hm
  have x5 : w1.cell? ⟨r, 5, none⟩ = some (.int .i64 c.la) := cell_of H.out.blk 5
  have x6 : w1.cell? ⟨r, 6, none⟩ = some (.int .i64 c.wh) := cell_of H.out.blk 6
  have x7 : w1.cell? ⟨r, 7, none⟩ = some (.int .i64 c.sl) := cell_of H.out.blk 7
  have x8 : w1.cell? ⟨r, 8, none⟩ = some (.int .i64 c.di) := cell_of H.out.blk 8
  have x9 : w1.cell? ⟨r, 9, none⟩ = some (.int .i64 c.co) := cell_of H.out.blk 9
  have x17 : w1.cell? ⟨r, 17, none⟩ = some (.int .i64 c.si) := cell_of H.out.blk 17
  have x18 : w1.cell? ⟨r, 18, none⟩ = some (.int .i64 c.ba) := cell_of H.out.blk 18
  have x19 : w1.cell? ⟨r, 19, none⟩ = some (.int .i64 c.qu) := cell_of H.out.blk 19
  have hnew := blk_new w1 (.cells #[.int .i64 0, .int .i64 0, .int .i64 0, .int .i64 0, .int .i64 c.la, .int .i64 c.wh, .int .i64 c.sl, .int .i64 c.di, .int .i64 c.co, .int .i64 0, .int .i64 0, .int .i64 0, .int .i64 c.si, .int .i64 c.ba, .int .i64 c.qu] 3)
  have hbn := below_alloc (Below.refl w1.heap.size w1) (.cells #[.int .i64 0, .int .i64 0, .int .i64 0, .int .i64 0, .int .i64 c.la, .int .i64 c.wh, .int .i64 c.sl, .int .i64 c.di, .int .i64 c.co, .int .i64 0, .int .i64 0, .int .i64 0, .int .i64 c.si, .int .i64 c.ba, .int .i64 c.qu] 3)
  obtain ⟨tb, htb⟩ : ∃ tb, w1.heap.size = tb := ⟨_, rfl⟩
  obtain ⟨w2, hw2⟩ : ∃ w2, w1.alloc (.cells #[.int .i64 0, .int .i64 0, .int .i64 0, .int .i64 0, .int .i64 c.la, .int .i64 c.wh, .int .i64 c.sl, .int .i64 c.di, .int .i64 c.co, .int .i64 0, .int .i64 0, .int .i64 0, .int .i64 c.si, .int .i64 c.ba, .int .i64 c.qu] 3) = w2 := ⟨_, rfl⟩
  rw [hw2] at hnew hbn
  rw [htb] at hnew
  have z : w2.cell? ⟨tb, 13, none⟩ = some (.int .i64 c.ba) := blk_cell hnew 13
  have H2 := Aside0.mk (H.out.step hbn)
  clear hnew hbn
  go_enter Try.func26, Try.ntmps26
  go_wp2_with fail
  refine (byte1_calls c.ba _).mono ?_
  rintro e w' ⟨rfl, rfl⟩
  go_wp2_with (first
    | ((with_reducible refine gate_dst (N := 115) rfl ?_); refine Kd.R_lit (Kd.int .u8) _ 5 ?hg (N := 115) ?hd (xs := ([byteN c.ba] : List Int)) (inner := [.int .u8 (byteN c.ba)]) (ok := fun _ => True) (okp := fun _ => True) ?hr ?hp (fun _ hk => hk) trivial (Below.refl _ _) (Nat.le_refl _) (by simp) ?_; (case hd => rfl); (case hg => rfl); (case hr => first | (go_simp; done) | (go_simp; rfl)); (case hp => exact (Reps.one (show Kd.M (Kd.int .u8) _ _ _ (byteN c.ba) [.int .u8 (byteN c.ba)] from rfl) (Reps.none _ _))); intro v5 w5 ho5 hb5 hg_ hnew_; clear hg_ hnew_; obtain ⟨A5, c5, e5⟩ := Kd.R_slice ho5; subst e5; have H5 := Aside0.mk (H2.out.step hb5); have HC5 := Aside0.mk (Kd.R_reads' ho5).2.2; clear ho5 hb5)
    | ((with_reducible refine gate_builtin (b := .append) (xs := #[.tmp 109, .tmp 115]) rfl ?_); at_builtin; refine Kd.R_append_row (Value.int .u8) (0 : Int) (h1 := fun _ => rfl) (w0 := w0) w0.heap.size rfl (.tmp 109) (.tmp 115) 31 5 (.int .u8 0) 1 rfl Try.underlying31 info5 rfl (by decide) (.slice A0 l0.length c0) l0 ([byteN c.ba] : List Int) A5 1 c5 (fun _ => True) rfl rfl (fun _ _ => trivial) H5.out.row HC5.out H5.out.below H5.out.below.size ?aL ?_; (case aL => have := HL.out; omega); intro v6 w6 ho hb hg hat; obtain ⟨A6, c6, e6⟩ := Kd.R_slice ho; subst e6; have H6 := Aside0.mk (And.intro ho (And.intro hb (And.intro hg (And.intro hat (blk_grown H5.out.blk hg (Kd.R_ne H5.out.row H5.out.blk (by decide))))))); clear ho hb hg hat)
    | fail)
  go_ret
  have hfin : l0 ++ [byteN c.ba] = m := by rw [byte_beB HOK.out.ba]; exact HM.out
  have hrow := H6.out.1
  rw [hfin] at hrow
  have hlen : m.length = l0.length + 1 := by rw [← hfin, List.length_append]; rfl
  exact ⟨A6, c6, by rw [hlen]; rfl, hrow, H6.out.2.1, grown_trans H5.out.grown H6.out.2.2.1⟩
set_option maxHeartbeats 4000000 in
set_option maxRecDepth 100000 in
theorem rput14 (A0 : Option Addr) (c0 : Nat) (l0 : List Int) (c : Cmd) (w0 w : World) (ho : OkC c) (hR : Kd.R (Kd.int .u8) 5 w w0.heap.size (fun _ => True) (.slice A0 l0.length c0) l0) (hB : Below w0.heap.size w0 w) (hl : l0.length + 300 < 140737488355328) :
    Calls Try.prog 26 #[.slice A0 l0.length c0, .agg (cells c), .int .i64 14] w (PutR w0 w (.slice A0 l0.length c0 : Value).ownBlock (l0 ++ putB c 14)) := by
  have H := Aside0.mk (PB.box (c := c) hR hB)
  have HBW := Aside0.mk (below_alloc (Below.refl w.heap.size w) (.cells (cells c) 28))
  have HL := Aside0.mk hl
  have HOK := Aside0.mk ho
  have HB0 := Aside0.mk hB
  obtain ⟨r, hr⟩ : ∃ r, w.heap.size = r := ⟨_, rfl⟩
  obtain ⟨w1, hw1⟩ : ∃ w1, w.alloc (.cells (cells c) 28) = w1 := ⟨_, rfl⟩
  rw [hw1] at H HBW
  replace H : Aside0 (PB w0 w w1 r c (.slice A0 l0.length c0 : Value).ownBlock (.slice A0 l0.length c0) l0) := ⟨by rw [← hr]; exact H.out⟩
  have H0 := H
  obtain ⟨m, hm⟩ : ∃ m, l0 ++ putB c 14 = m := ⟨_, rfl⟩
  rw [hm]
  have HM := Aside0.mk hm
  clear hR hB hl ho hm
  have x5 : w1.cell? ⟨r, 5, none⟩ = some (.int .i64 c.la) := cell_of H.out.blk 5
  have x6 : w1.cell? ⟨r, 6, none⟩ = some (.int .i64 c.wh) := cell_of H.out.blk 6
  have x7 : w1.cell? ⟨r, 7, none⟩ = some (.int .i64 c.sl) := cell_of H.out.blk 7
  have x8 : w1.cell? ⟨r, 8, none⟩ = some (.int .i64 c.di) := cell_of H.out.blk 8
  have x9 : w1.cell? ⟨r, 9, none⟩ = some (.int .i64 c.co) := cell_of H.out.blk 9
  have x17 : w1.cell? ⟨r, 17, none⟩ = some (.int .i64 c.si) := cell_of H.out.blk 17
  have x18 : w1.cell? ⟨r, 18, none⟩ = some (.int .i64 c.ba) := cell_of H.out.blk 18
  have x19 : w1.cell? ⟨r, 19, none⟩ = some (.int .i64 c.qu) := cell_of H.out.blk 19
  have hnew := blk_new w1 (.cells #[.int .i64 0, .int .i64 0, .int .i64 0, .int .i64 0, .int .i64 c.la, .int .i64 c.wh, .int .i64 c.sl, .int .i64 c.di, .int .i64 c.co, .int .i64 0, .int .i64 0, .int .i64 0, .int .i64 c.si, .int .i64 c.ba, .int .i64 c.qu] 3)
  have hbn := below_alloc (Below.refl w1.heap.size w1) (.cells #[.int .i64 0, .int .i64 0, .int .i64 0, .int .i64 0, .int .i64 c.la, .int .i64 c.wh, .int .i64 c.sl, .int .i64 c.di, .int .i64 c.co, .int .i64 0, .int .i64 0, .int .i64 0, .int .i64 c.si, .int .i64 c.ba, .int .i64 c.qu] 3)
  obtain ⟨tb, htb⟩ : ∃ tb, w1.heap.size = tb := ⟨_, rfl⟩
  obtain ⟨w2, hw2⟩ : ∃ w2, w1.alloc (.cells #[.int .i64 0, .int .i64 0, .int .i64 0, .int .i64 0, .int .i64 c.la, .int .i64 c.wh, .int .i64 c.sl, .int .i64 c.di, .int .i64 c.co, .int .i64 0, .int .i64 0, .int .i64 0, .int .i64 c.si, .int .i64 c.ba, .int .i64 c.qu] 3) = w2 := ⟨_, rfl⟩
  rw [hw2] at hnew hbn
  rw [htb] at hnew
  have z : w2.cell? ⟨tb, 14, none⟩ = some (.int .i64 c.qu) := blk_cell hnew 14
  have H2 := Aside0.mk (H.out.step hbn)
  clear hnew hbn
  go_enter Try.func26, Try.ntmps26
  go_wp2_with fail
  refine (byte1_calls c.qu _).mono ?_
  rintro e w' ⟨rfl, rfl⟩
  go_wp2_with (first
    | ((with_reducible refine gate_dst (N := 115) rfl ?_); refine Kd.R_lit (Kd.int .u8) _ 5 ?hg (N := 115) ?hd (xs := ([byteN c.qu] : List Int)) (inner := [.int .u8 (byteN c.qu)]) (ok := fun _ => True) (okp := fun _ => True) ?hr ?hp (fun _ hk => hk) trivial (Below.refl _ _) (Nat.le_refl _) (by simp) ?_; (case hd => rfl); (case hg => rfl); (case hr => first | (go_simp; done) | (go_simp; rfl)); (case hp => exact (Reps.one (show Kd.M (Kd.int .u8) _ _ _ (byteN c.qu) [.int .u8 (byteN c.qu)] from rfl) (Reps.none _ _))); intro v5 w5 ho5 hb5 hg_ hnew_; clear hg_ hnew_; obtain ⟨A5, c5, e5⟩ := Kd.R_slice ho5; subst e5; have H5 := Aside0.mk (H2.out.step hb5); have HC5 := Aside0.mk (Kd.R_reads' ho5).2.2; clear ho5 hb5)
    | ((with_reducible refine gate_builtin (b := .append) (xs := #[.tmp 109, .tmp 115]) rfl ?_); at_builtin; refine Kd.R_append_row (Value.int .u8) (0 : Int) (h1 := fun _ => rfl) (w0 := w0) w0.heap.size rfl (.tmp 109) (.tmp 115) 31 5 (.int .u8 0) 1 rfl Try.underlying31 info5 rfl (by decide) (.slice A0 l0.length c0) l0 ([byteN c.qu] : List Int) A5 1 c5 (fun _ => True) rfl rfl (fun _ _ => trivial) H5.out.row HC5.out H5.out.below H5.out.below.size ?aL ?_; (case aL => have := HL.out; omega); intro v6 w6 ho hb hg hat; obtain ⟨A6, c6, e6⟩ := Kd.R_slice ho; subst e6; have H6 := Aside0.mk (And.intro ho (And.intro hb (And.intro hg (And.intro hat (blk_grown H5.out.blk hg (Kd.R_ne H5.out.row H5.out.blk (by decide))))))); clear ho hb hg hat)
    | fail)
  go_ret
  have hfin : l0 ++ [byteN c.qu] = m := by rw [byte_beB HOK.out.qu]; exact HM.out
  have hrow := H6.out.1
  rw [hfin] at hrow
  have hlen : m.length = l0.length + 1 := by rw [← hfin, List.length_append]; rfl
  exact ⟨A6, c6, by rw [hlen]; rfl, hrow, H6.out.2.1, grown_trans H5.out.grown H6.out.2.2.1⟩
set_option maxHeartbeats 4000000 in
set_option maxRecDepth 100000 in
theorem rput3 (A0 : Option Addr) (c0 : Nat) (l0 : List Int) (c : Cmd) (w0 w : World) (ho : OkC c) (hR : Kd.R (Kd.int .u8) 5 w w0.heap.size (fun _ => True) (.slice A0 l0.length c0) l0) (hB : Below w0.heap.size w0 w) (hl : l0.length + 300 < 140737488355328) :
    Calls Try.prog 26 #[.slice A0 l0.length c0, .agg (cells c), .int .i64 3] w (PutR w0 w (.slice A0 l0.length c0 : Value).ownBlock (l0 ++ putB c 3)) := by
  have H := Aside0.mk (PB.box (c := c) hR hB)
  have HBW := Aside0.mk (below_alloc (Below.refl w.heap.size w) (.cells (cells c) 28))
  have HL := Aside0.mk hl
  have HOK := Aside0.mk ho
  have HB0 := Aside0.mk hB
  obtain ⟨r, hr⟩ : ∃ r, w.heap.size = r := ⟨_, rfl⟩
  obtain ⟨w1, hw1⟩ : ∃ w1, w.alloc (.cells (cells c) 28) = w1 := ⟨_, rfl⟩
  rw [hw1] at H HBW
  replace H : Aside0 (PB w0 w w1 r c (.slice A0 l0.length c0 : Value).ownBlock (.slice A0 l0.length c0) l0) := ⟨by rw [← hr]; exact H.out⟩
  have H0 := H
  obtain ⟨m, hm⟩ : ∃ m, l0 ++ putB c 3 = m := ⟨_, rfl⟩
  rw [hm]
  have HM := Aside0.mk hm
  clear hR hB hl ho hm
  have x3 : w1.cell? ⟨r, 3, none⟩ = some (.int .i64 c.rl) := cell_of H.out.blk 3
  clear x3
  go_enter Try.func26, Try.ntmps26
  go_upto_region 7 with fail
  refine start_ (n := 12) (S := fun w' => PB w0 w w' r c (.slice A0 l0.length c0 : Value).ownBlock (.slice A0 l0.length c0) l0 ∧ w'.cell? ⟨r, 3, none⟩ = some (.int .i64 c.rl) ∧ w'.cell? ⟨r, 4, none⟩ = some (.int .i64 c.rs)) (ds := [10]) #[false, false, false, false, false, false, false, false, false, false, false, false] (by kernel_rfl) rfl rfl ⟨(H.out.step (below_drew (Below.refl w1.heap.size w1))), blk_cell (H.out.step (below_drew (Below.refl w1.heap.size w1))).blk 3, blk_cell (H.out.step (below_drew (Below.refl w1.heap.size w1))).blk 4⟩ (fun hHeld => ?_)
  refine pure_ (i := 0) (N := some 23) (v := ?_) (a' := ?_) #[true, false, false, false, false, false, false, false, false, false, false, false] rfl rfl (by kernel_rfl) (fun _ _ _ h => h) (Or.inl ⟨by rfl, ?_⟩) ?_ ?_
  rotate_left
  · intro w'
    go_simp
    with_reducible rfl
  rotate_left
  · simp only [Act.put, List.setIfInBounds_toArray, List.set_cons_zero, List.set_cons_succ, i64_w, i32_w]
    rfl
  refine pure_ (i := 1) (N := some 24) (v := ?_) (a' := ?_) #[true, true, false, false, false, false, false, false, false, false, false, false] rfl rfl (by kernel_rfl) (fun _ _ _ h => h) (Or.inl ⟨by rfl, ?_⟩) ?_ ?_
  rotate_left
  · intro w'
    go_simp
    with_reducible rfl
  rotate_left
  · simp only [Act.put, List.setIfInBounds_toArray, List.set_cons_zero, List.set_cons_succ, i64_w, i32_w]
    rfl
  refine pure_ (i := 2) (N := some 25) (v := ?_) (a' := ?_) #[true, true, true, false, false, false, false, false, false, false, false, false] rfl rfl (by kernel_rfl) (fun _ _ _ h => h) (Or.inl ⟨by rfl, ?_⟩) ?_ ?_
  rotate_left
  · intro w'
    go_simp
    with_reducible rfl
  rotate_left
  · simp only [Act.put, List.setIfInBounds_toArray, List.set_cons_zero, List.set_cons_succ, i64_w, i32_w]
    rfl
  refine pure_ (i := 5) (N := some 28) (v := ?_) (a' := ?_) #[true, true, true, false, false, true, false, false, false, false, false, false] rfl rfl (by kernel_rfl) (fun _ _ _ h => h) (Or.inl ⟨by rfl, ?_⟩) ?_ ?_
  rotate_left
  · intro w'
    go_simp
    with_reducible rfl
  rotate_left
  · simp only [Act.put, List.setIfInBounds_toArray, List.set_cons_zero, List.set_cons_succ, i64_w, i32_w]
    rfl
  refine pure_ (i := 6) (N := some 29) (v := ?_) (a' := ?_) #[true, true, true, false, false, true, true, false, false, false, false, false] rfl rfl (by kernel_rfl) (fun _ _ _ h => h) (Or.inl ⟨by rfl, ?_⟩) ?_ ?_
  rotate_left
  · intro w'
    go_simp
    with_reducible rfl
  rotate_left
  · simp only [Act.put, List.setIfInBounds_toArray, List.set_cons_zero, List.set_cons_succ, i64_w, i32_w]
    rfl
  refine take_ (i := 3) (N := some 26) (v := ?_) (a' := ?_) #[true, true, true, true, false, true, true, false, false, false, false, false] rfl rfl (by kernel_rfl) (fun _ _ _ h => h) (Or.inl ⟨by rfl, ?_⟩) hHeld ?_ ?_
  rotate_left
  · rintro w' ⟨s0, s1, s2⟩
    go_simp
    with_reducible rfl
  rotate_left
  · simp only [Act.put, List.setIfInBounds_toArray, List.set_cons_zero, List.set_cons_succ, i64_w, i32_w]
    rfl
  refine take_ (i := 7) (N := some 30) (v := ?_) (a' := ?_) #[true, true, true, true, false, true, true, true, false, false, false, false] rfl rfl (by kernel_rfl) (fun _ _ _ h => h) (Or.inl ⟨by rfl, ?_⟩) hHeld ?_ ?_
  rotate_left
  · rintro w' ⟨s0, s1, s2⟩
    go_simp
    with_reducible rfl
  rotate_left
  · simp only [Act.put, List.setIfInBounds_toArray, List.set_cons_zero, List.set_cons_succ, i64_w, i32_w]
    rfl
  refine one_ (i := 4) (N := some 27) #[true, true, true, true, true, true, true, true, false, false, false, false] rfl rfl (by kernel_rfl) (by decide) (fun K hK => ?_)
  refine goes_ Try.func46 (by kernel_rfl) rfl #[.int .i64 c.rl] (by rfl) rfl rfl (by simp only [List.map_toArray, List.map_cons, List.map_nil]; rfl) ?_
  with_reducible refine (byte1_calls c.rl _).mono ?_
  rintro e w3 ⟨rfl, rfl⟩
  refine ⟨_, rfl, ?_⟩
  refine hK.out _ _ ⟨hHeld.1, hHeld.2.1, hHeld.2.2⟩ (fun hHeld => ?_)
  clear hK K
  refine norm_ (a' := ?_) ?_ ?_
  rotate_left
  · show Act.put _ (some 27) _ = _
    simp only [Act.put, List.setIfInBounds_toArray, List.set_cons_zero, List.set_cons_succ, i64_w, i32_w]
    rfl
  refine one_ (i := 8) (N := some 31) #[true, true, true, true, true, true, true, true, true, false, false, false] rfl rfl (by kernel_rfl) (by decide) (fun K hK => ?_)
  refine goes_ Try.func46 (by kernel_rfl) rfl #[.int .i64 c.rs] (by rfl) rfl rfl (by simp only [List.map_toArray, List.map_cons, List.map_nil]; rfl) ?_
  with_reducible refine (byte1_calls c.rs _).mono ?_
  rintro e w3 ⟨rfl, rfl⟩
  refine ⟨_, rfl, ?_⟩
  refine hK.out _ _ ⟨hHeld.1, hHeld.2.1, hHeld.2.2⟩ (fun hHeld => ?_)
  clear hK K
  refine norm_ (a' := ?_) ?_ ?_
  rotate_left
  · show Act.put _ (some 31) _ = _
    simp only [Act.put, List.setIfInBounds_toArray, List.set_cons_zero, List.set_cons_succ, i64_w, i32_w]
    rfl
  refine one_ (i := 9) (N := some 32) #[true, true, true, true, true, true, true, true, true, true, false, false] rfl rfl (by kernel_rfl) (by decide) (fun K hK => ?_)
  have HC5 := Aside0.mk (C_new (k := .u8) (W := w1.drew) (e := 5) (fr := (0, 0)) (arr := #[.int .u8 (byteN c.rl), .int .u8 (byteN c.rs)]) ([byteN c.rl, byteN c.rs] : List Int) rfl (by simp))
  refine value_ (w1 := ?_) (v := ?_) (by rfl) rfl ?_ ?_
  rotate_left 2
  · go_simp
    constructor
    · rfl
    · rfl
  have T := hHeld.1.step (below_alloc (Below.refl w1.drew.heap.size w1.drew) (.cells #[.int .u8 (byteN c.rl), .int .u8 (byteN c.rs)] 5))
  clear hHeld
  refine hK.out _ _ ⟨T, blk_cell T.blk 3, blk_cell T.blk 4⟩ (fun hHeld => ?_)
  clear hK K
  refine norm_ (a' := ?_) ?_ ?_
  rotate_left
  · show Act.put _ (some 32) _ = _
    simp only [Act.put, List.setIfInBounds_toArray, List.set_cons_zero, List.set_cons_succ, i64_w, i32_w]
    rfl
  refine last_ (i := 10) (N := some 33) #[true, true, true, true, true, true, true, true, true, true, true, false] rfl rfl (by kernel_rfl) (by decide) (fun K hK => ?_)
  refine Kd.R_append_rows_step (Kd.int .u8) (w0 := w0) w0.heap.size (by rfl) (.tmp 23) (.tmp 32) 31 5 (.int .u8 0) 1 (by rfl) Try.underlying31 info5 rfl (by decide) (by decide) (.slice A0 l0.length c0) l0 ([byteN c.rl, byteN c.rs] : List Int) (some ⟨w1.drew.heap.size, 0, none⟩) 2 2 (fun _ => True) (fun _ => False) (by rfl) (by rfl) hHeld.1.row HC5.out (fun _ _ hx => hx) (fun _ hk => hk.elim) (fun _ _ => trivial) hHeld.1.below hHeld.1.below.size ?hl ?_
  case hl => have := HL.out; omega
  intro v6 w6 ho hb hg hat
  obtain ⟨A6, c6, e6⟩ := Kd.R_slice ho
  subst e6
  have H6 : Aside0 (PB w0 w w6 r c (.slice A0 l0.length c0 : Value).ownBlock (.slice A6 (l0 ++ [byteN c.rl, byteN c.rs]).length c6) (l0 ++ [byteN c.rl, byteN c.rs])) := ⟨⟨ho, hb, grown_trans hHeld.1.grown hg, blk_grown hHeld.1.blk hg (Kd.R_ne hHeld.1.row hHeld.1.blk (by decide))⟩⟩
  clear ho hb hg hat hHeld
  refine hK.out _ _ ?_
  clear hK K
  refine norm_ (a' := ?_) ?_ ?_
  rotate_left
  · show Act.put _ (some 33) _ = _
    simp only [Act.put, List.setIfInBounds_toArray, List.set_cons_zero, List.set_cons_succ, i64_w, i32_w]
    rfl
  refine pure_ (i := 11) (N := some 6) (v := ?_) (a' := ?_) #[true, true, true, true, true, true, true, true, true, true, true, true] rfl rfl (by kernel_rfl) (fun _ _ _ h => h) (Or.inl ⟨by rfl, ?_⟩) ?_ ?_
  rotate_left
  · intro w'
    go_simp
    with_reducible rfl
  rotate_left
  · simp only [Act.put, List.setIfInBounds_toArray, List.set_cons_zero, List.set_cons_succ, i64_w, i32_w]
    rfl
  refine done_ (by kernel_rfl) ?_
  go_wp2_with fail
  go_ret
  have hfin : l0 ++ [byteN c.rl, byteN c.rs] = m := by
    rw [← HM.out, show ([byteN c.rl, byteN c.rs] : List Int) = [byteN c.rl] ++ [byteN c.rs] from rfl, byte_beB HOK.out.rl, byte_beB HOK.out.rs]; rfl
  have hrow := H6.out.row
  rw [hfin] at hrow
  have hlen : m.length = l0.length + 2 := by rw [← hfin, List.length_append]; rfl
  exact ⟨A6, c6, by rw [hlen]; rfl, hrow, H6.out.below, H6.out.grown⟩
set_option maxHeartbeats 4000000 in
set_option maxRecDepth 100000 in
theorem rput10 (A0 : Option Addr) (c0 : Nat) (l0 : List Int) (c : Cmd) (w0 w : World) (ho : OkC c) (hR : Kd.R (Kd.int .u8) 5 w w0.heap.size (fun _ => True) (.slice A0 l0.length c0) l0) (hB : Below w0.heap.size w0 w) (hl : l0.length + 300 < 140737488355328) :
    Calls Try.prog 26 #[.slice A0 l0.length c0, .agg (cells c), .int .i64 10] w (PutR w0 w (.slice A0 l0.length c0 : Value).ownBlock (l0 ++ putB c 10)) := by
  have H := Aside0.mk (PB.box (c := c) hR hB)
  have HBW := Aside0.mk (below_alloc (Below.refl w.heap.size w) (.cells (cells c) 28))
  have HL := Aside0.mk hl
  have HOK := Aside0.mk ho
  have HB0 := Aside0.mk hB
  obtain ⟨r, hr⟩ : ∃ r, w.heap.size = r := ⟨_, rfl⟩
  obtain ⟨w1, hw1⟩ : ∃ w1, w.alloc (.cells (cells c) 28) = w1 := ⟨_, rfl⟩
  rw [hw1] at H HBW
  replace H : Aside0 (PB w0 w w1 r c (.slice A0 l0.length c0 : Value).ownBlock (.slice A0 l0.length c0) l0) := ⟨by rw [← hr]; exact H.out⟩
  have H0 := H
  obtain ⟨m, hm⟩ : ∃ m, l0 ++ putB c 10 = m := ⟨_, rfl⟩
  rw [hm]
  have HM := Aside0.mk hm
  clear hR hB hl ho hm
  go_enter Try.func26, Try.ntmps26
  go_upto_region 11 with fail
  obtain ⟨l2, hl2⟩ : ∃ l2, (l0 ++ [byteN c.gc]) ++ beB 8 c.ga.toNat = l2 := ⟨_, rfl⟩
  have HL2 := Aside0.mk hl2
  have HLN : Aside0 (l2.length = l0.length + 9) := ⟨by rw [← hl2, List.length_append, List.length_append, beB_length]; rfl⟩
  clear hl2
  refine start_ (n := 12) (S := fun w' => w'.cell? ⟨r, 11, none⟩ = some (.int .i64 c.gc) ∧ w'.cell? ⟨r, 12, none⟩ = some (.int .u64 c.ga)) (ds := [10]) #[false, false, false, false, false, false, false, false, false, false, false, false] (by kernel_rfl) rfl rfl ⟨blk_cell (H.out.step (below_drew (Below.refl w1.heap.size w1))).blk 11, blk_cell (H.out.step (below_drew (Below.refl w1.heap.size w1))).blk 12⟩ (fun hHeld => ?_)
  refine pure_ (i := 0) (N := some 42) (v := ?_) (a' := ?_) #[true, false, false, false, false, false, false, false, false, false, false, false] rfl rfl (by kernel_rfl) (fun _ _ _ h => h) (Or.inl ⟨by rfl, ?_⟩) ?_ ?_
  rotate_left
  · intro w'
    go_simp
    with_reducible rfl
  rotate_left
  · simp only [Act.put, List.setIfInBounds_toArray, List.set_cons_zero, List.set_cons_succ, i64_w, i32_w]
    rfl
  refine pure_ (i := 1) (N := some 43) (v := ?_) (a' := ?_) #[true, true, false, false, false, false, false, false, false, false, false, false] rfl rfl (by kernel_rfl) (fun _ _ _ h => h) (Or.inl ⟨by rfl, ?_⟩) ?_ ?_
  rotate_left
  · intro w'
    go_simp
    with_reducible rfl
  rotate_left
  · simp only [Act.put, List.setIfInBounds_toArray, List.set_cons_zero, List.set_cons_succ, i64_w, i32_w]
    rfl
  refine pure_ (i := 2) (N := some 44) (v := ?_) (a' := ?_) #[true, true, true, false, false, false, false, false, false, false, false, false] rfl rfl (by kernel_rfl) (fun _ _ _ h => h) (Or.inl ⟨by rfl, ?_⟩) ?_ ?_
  rotate_left
  · intro w'
    go_simp
    with_reducible rfl
  rotate_left
  · simp only [Act.put, List.setIfInBounds_toArray, List.set_cons_zero, List.set_cons_succ, i64_w, i32_w]
    rfl
  refine pure_ (i := 7) (N := some 49) (v := ?_) (a' := ?_) #[true, true, true, false, false, false, false, true, false, false, false, false] rfl rfl (by kernel_rfl) (fun _ _ _ h => h) (Or.inl ⟨by rfl, ?_⟩) ?_ ?_
  rotate_left
  · intro w'
    go_simp
    with_reducible rfl
  rotate_left
  · simp only [Act.put, List.setIfInBounds_toArray, List.set_cons_zero, List.set_cons_succ, i64_w, i32_w]
    rfl
  refine pure_ (i := 8) (N := some 50) (v := ?_) (a' := ?_) #[true, true, true, false, false, false, false, true, true, false, false, false] rfl rfl (by kernel_rfl) (fun _ _ _ h => h) (Or.inl ⟨by rfl, ?_⟩) ?_ ?_
  rotate_left
  · intro w'
    go_simp
    with_reducible rfl
  rotate_left
  · simp only [Act.put, List.setIfInBounds_toArray, List.set_cons_zero, List.set_cons_succ, i64_w, i32_w]
    rfl
  refine take_ (i := 3) (N := some 45) (v := ?_) (a' := ?_) #[true, true, true, true, false, false, false, true, true, false, false, false] rfl rfl (by kernel_rfl) (fun _ _ _ h => h) (Or.inl ⟨by rfl, ?_⟩) hHeld ?_ ?_
  rotate_left
  · rintro w' ⟨s0, s1⟩
    go_simp
    with_reducible rfl
  rotate_left
  · simp only [Act.put, List.setIfInBounds_toArray, List.set_cons_zero, List.set_cons_succ, i64_w, i32_w]
    rfl
  refine take_ (i := 9) (N := some 51) (v := ?_) (a' := ?_) #[true, true, true, true, false, false, false, true, true, true, false, false] rfl rfl (by kernel_rfl) (fun _ _ _ h => h) (Or.inl ⟨by rfl, ?_⟩) hHeld ?_ ?_
  rotate_left
  · rintro w' ⟨s0, s1⟩
    go_simp
    with_reducible rfl
  rotate_left
  · simp only [Act.put, List.setIfInBounds_toArray, List.set_cons_zero, List.set_cons_succ, i64_w, i32_w]
    rfl
  refine one_ (i := 4) (N := some 46) #[true, true, true, true, true, false, false, true, true, true, false, false] rfl rfl (by kernel_rfl) (by decide) (fun K hK => ?_)
  refine goes_ Try.func46 (by kernel_rfl) rfl #[.int .i64 c.gc] (by rfl) rfl rfl (by simp only [List.map_toArray, List.map_cons, List.map_nil]; rfl) ?_
  with_reducible refine (byte1_calls c.gc _).mono ?_
  rintro e w3 ⟨rfl, rfl⟩
  refine ⟨_, rfl, ?_⟩
  refine hK.out _ _ ⟨hHeld.1, hHeld.2⟩ (fun hHeld => ?_)
  clear hK K
  refine norm_ (a' := ?_) ?_ ?_
  rotate_left
  · show Act.put _ (some 46) _ = _
    simp only [Act.put, List.setIfInBounds_toArray, List.set_cons_zero, List.set_cons_succ, i64_w, i32_w]
    rfl
  refine one_ (i := 5) (N := some 47) #[true, true, true, true, true, true, false, true, true, true, false, false] rfl rfl (by kernel_rfl) (by decide) (fun K hK => ?_)
  have HC5 := Aside0.mk (C_new (k := .u8) (W := w1.drew) (e := 5) (fr := (0, 0)) (arr := #[.int .u8 (byteN c.gc)]) ([byteN c.gc] : List Int) rfl (by simp))
  refine value_ (w1 := ?_) (v := ?_) (by rfl) rfl ?_ ?_
  rotate_left 2
  · go_simp
    constructor
    · rfl
    · rfl
  have T := (H.out.step (below_drew (Below.refl w1.heap.size w1))).step (below_alloc (Below.refl w1.drew.heap.size w1.drew) (.cells #[.int .u8 (byteN c.gc)] 5))
  clear hHeld
  refine hK.out _ _ ⟨blk_cell T.blk 11, blk_cell T.blk 12⟩ (fun hHeld => ?_)
  clear hK K
  refine norm_ (a' := ?_) ?_ ?_
  rotate_left
  · show Act.put _ (some 47) _ = _
    simp only [Act.put, List.setIfInBounds_toArray, List.set_cons_zero, List.set_cons_succ, i64_w, i32_w]
    rfl
  refine one_ (i := 6) (N := some 48) #[true, true, true, true, true, true, true, true, true, true, false, false] rfl rfl (by kernel_rfl) (by decide) (fun K hK => ?_)
  refine Kd.R_append_rows_step (Kd.int .u8) (w0 := w0) w0.heap.size (by rfl) (.tmp 42) (.tmp 47) 31 5 (.int .u8 0) 1 (by rfl) Try.underlying31 info5 rfl (by decide) (by decide) (.slice A0 l0.length c0) l0 ([byteN c.gc] : List Int) (some ⟨w1.drew.heap.size, 0, none⟩) 1 1 (fun _ => True) (fun _ => False) (by rfl) (by rfl) T.row HC5.out (fun _ _ hx => hx) (fun _ hk => hk.elim) (fun _ _ => trivial) T.below T.below.size ?hl ?_
  case hl => have := HL.out; omega
  intro v6 w6 ho hb hg hat
  obtain ⟨A6, c6, e6⟩ := Kd.R_slice ho
  subst e6
  have H6 : Aside0 (PB w0 w w6 r c (.slice A0 l0.length c0 : Value).ownBlock (.slice A6 (l0 ++ [byteN c.gc]).length c6) (l0 ++ [byteN c.gc])) := ⟨⟨ho, hb, grown_trans T.grown hg, blk_grown T.blk hg (Kd.R_ne T.row T.blk (by decide))⟩⟩
  clear ho hb hg hat hHeld
  clear T
  refine hK.out _ _ ⟨blk_cell H6.out.blk 11, blk_cell H6.out.blk 12⟩ (fun hHeld => ?_)
  clear hK K
  refine norm_ (a' := ?_) ?_ ?_
  rotate_left
  · show Act.put _ (some 48) _ = _
    simp only [Act.put, List.setIfInBounds_toArray, List.set_cons_zero, List.set_cons_succ, i64_w, i32_w]
    rfl
  refine last_ (i := 10) (N := some 52) #[true, true, true, true, true, true, true, true, true, true, true, false] rfl rfl (by kernel_rfl) (by decide) (fun K hK => ?_)
  refine goes_ Try.func47 (by kernel_rfl) rfl #[.slice A6 (l0 ++ [byteN c.gc]).length c6, .int .u64 c.ga, .int .i64 8] (by rfl) rfl rfl (by simp only [List.map_toArray, List.map_cons, List.map_nil]; rfl) ?_
  with_reducible refine (rNum_at (l0 ++ [byteN c.gc]).length c6 (Kd.R_reads' H6.out.row).2.2 rfl (Kd.R_reads' H6.out.row).2.1 _ c.ga.toNat (by have := HOK.out.ga; omega) (by have := HOK.out.ga; omega) 8 8 rfl (by have := HL.out; rw [List.length_append]; simp; omega) l2 HL2.out).mono ?_
  rintro e w7 ⟨A7, c7, rfl, hR, hB⟩
  refine ⟨_, rfl, ?_⟩
  have H7 : Aside0 (PB w0 w w7 r c (.slice A0 l0.length c0 : Value).ownBlock (.slice A7 l2.length c7) l2) := ⟨⟨Kd.R_lower hR H6.out.below.size, below_step H6.out.below hB, grown_trans H6.out.grown (grown_of_below _ hB), blk_below H6.out.blk hB⟩⟩
  have HF7 := Aside0.mk (own_from hR (Nat.le_trans H6.out.grown.size (Nat.le_refl _)))
  clear hR hB
  refine hK.out _ _ ?_
  clear hK K
  refine norm_ (a' := ?_) ?_ ?_
  rotate_left
  · show Act.put _ (some 52) _ = _
    simp only [Act.put, List.setIfInBounds_toArray, List.set_cons_zero, List.set_cons_succ, i64_w, i32_w]
    rfl
  refine pure_ (i := 11) (N := some 0) (v := ?_) (a' := ?_) #[true, true, true, true, true, true, true, true, true, true, true, true] rfl rfl (by kernel_rfl) (fun _ _ _ h => h) (Or.inl ⟨by rfl, ?_⟩) ?_ ?_
  rotate_left
  · intro w'
    go_simp
    with_reducible rfl
  rotate_left
  · simp only [Act.put, List.setIfInBounds_toArray, List.set_cons_zero, List.set_cons_succ, i64_w, i32_w]
    rfl
  refine done_ (by kernel_rfl) ?_
  have y : w7.cell? ⟨r, 13, none⟩ = some (.int .i64 c.gi) := cell_of H7.out.blk 13
  go_wp2_with fail
  refine (byte1_calls c.gi _).mono ?_
  rintro e w' ⟨rfl, rfl⟩
  have HK6 := H6
  clear H6 HC5
  go_wp2_with (first
    | ((with_reducible refine gate_dst (N := 58) rfl ?_); refine Kd.R_lit (Kd.int .u8) _ 5 ?hg (N := 58) ?hd (xs := ([byteN c.gi] : List Int)) (inner := [.int .u8 (byteN c.gi)]) (ok := fun _ => True) (okp := fun _ => True) ?hr ?hp (fun _ hk => hk) trivial (Below.refl _ _) (Nat.le_refl _) (by simp) ?_; (case hd => rfl); (case hg => rfl); (case hr => first | (go_simp; done) | (go_simp; rfl)); (case hp => exact (Reps.one (show Kd.M (Kd.int .u8) _ _ _ (byteN c.gi) [.int .u8 (byteN c.gi)] from rfl) (Reps.none _ _))); intro v5 w5 ho5 hb5 hg_ hnew_; clear hg_ hnew_; obtain ⟨A5, c5, e5⟩ := Kd.R_slice ho5; subst e5; have H5 := Aside0.mk (H7.out.step hb5); have HC5 := Aside0.mk (Kd.R_reads' ho5).2.2; clear ho5 hb5)
    | ((with_reducible refine gate_builtin (b := .append) (xs := #[.tmp 53, .tmp 58]) rfl ?_); at_builtin; refine Kd.R_append_row (Value.int .u8) (0 : Int) (h1 := fun _ => rfl) (w0 := w0) w0.heap.size rfl (.tmp 53) (.tmp 58) 31 5 (.int .u8 0) 1 rfl Try.underlying31 info5 rfl (by decide) (.slice A7 l2.length c7) l2 ([byteN c.gi] : List Int) A5 1 c5 (fun _ => True) rfl rfl (fun _ _ => trivial) H5.out.row HC5.out H5.out.below H5.out.below.size ?aL ?_; (case aL => have := HL.out; have := HLN.out; omega); intro v6 w6 ho hb hg hat; obtain ⟨A6, c6, e6⟩ := Kd.R_slice ho; subst e6; have H6 := Aside0.mk (And.intro ho (And.intro hb (And.intro hg (And.intro hat (blk_grown H5.out.blk hg (Kd.R_ne H5.out.row H5.out.blk (by decide))))))); clear ho hb hg hat)
    | fail)
  go_ret
  have hfin : l2 ++ [byteN c.gi] = m := by rw [← HM.out, ← HL2.out, byte_beB HOK.out.gc, item_beB HOK.out.gi, List.append_assoc, List.append_assoc]; rfl
  have hrow := H6.out.1
  rw [hfin] at hrow
  have hlen : m.length = l2.length + 1 := by rw [← hfin, List.length_append]; rfl
  exact ⟨A6, c6, by rw [hlen]; rfl, hrow, H6.out.2.1, grown_fresh H5.out.grown H6.out.2.2.1 HF7.out⟩
set_option maxHeartbeats 4000000 in
set_option maxRecDepth 100000 in
theorem rput11 (A0 : Option Addr) (c0 : Nat) (l0 : List Int) (c : Cmd) (w0 w : World) (ho : OkC c) (hR : Kd.R (Kd.int .u8) 5 w w0.heap.size (fun _ => True) (.slice A0 l0.length c0) l0) (hB : Below w0.heap.size w0 w) (hl : l0.length + 300 < 140737488355328) :
    Calls Try.prog 26 #[.slice A0 l0.length c0, .agg (cells c), .int .i64 11] w (PutR w0 w (.slice A0 l0.length c0 : Value).ownBlock (l0 ++ putB c 11)) := by
  have H := Aside0.mk (PB.box (c := c) hR hB)
  have HBW := Aside0.mk (below_alloc (Below.refl w.heap.size w) (.cells (cells c) 28))
  have HL := Aside0.mk hl
  have HOK := Aside0.mk ho
  have HB0 := Aside0.mk hB
  obtain ⟨r, hr⟩ : ∃ r, w.heap.size = r := ⟨_, rfl⟩
  obtain ⟨w1, hw1⟩ : ∃ w1, w.alloc (.cells (cells c) 28) = w1 := ⟨_, rfl⟩
  rw [hw1] at H HBW
  replace H : Aside0 (PB w0 w w1 r c (.slice A0 l0.length c0 : Value).ownBlock (.slice A0 l0.length c0) l0) := ⟨by rw [← hr]; exact H.out⟩
  have H0 := H
  obtain ⟨m, hm⟩ : ∃ m, l0 ++ putB c 11 = m := ⟨_, rfl⟩
  rw [hm]
  have HM := Aside0.mk hm
  clear hR hB hl ho hm
  go_enter Try.func26, Try.ntmps26
  go_upto_region 14 with fail
  obtain ⟨l2, hl2⟩ : ∃ l2, (l0 ++ [byteN c.wc]) ++ beB 8 c.wa.toNat = l2 := ⟨_, rfl⟩
  have HL2 := Aside0.mk hl2
  have HLN : Aside0 (l2.length = l0.length + 9) := ⟨by rw [← hl2, List.length_append, List.length_append, beB_length]; rfl⟩
  clear hl2
  refine start_ (n := 12) (S := fun w' => w'.cell? ⟨r, 14, none⟩ = some (.int .i64 c.wc) ∧ w'.cell? ⟨r, 15, none⟩ = some (.int .u64 c.wa)) (ds := [10]) #[false, false, false, false, false, false, false, false, false, false, false, false] (by kernel_rfl) rfl rfl ⟨blk_cell (H.out.step (below_drew (Below.refl w1.heap.size w1))).blk 14, blk_cell (H.out.step (below_drew (Below.refl w1.heap.size w1))).blk 15⟩ (fun hHeld => ?_)
  refine pure_ (i := 0) (N := some 62) (v := ?_) (a' := ?_) #[true, false, false, false, false, false, false, false, false, false, false, false] rfl rfl (by kernel_rfl) (fun _ _ _ h => h) (Or.inl ⟨by rfl, ?_⟩) ?_ ?_
  rotate_left
  · intro w'
    go_simp
    with_reducible rfl
  rotate_left
  · simp only [Act.put, List.setIfInBounds_toArray, List.set_cons_zero, List.set_cons_succ, i64_w, i32_w]
    rfl
  refine pure_ (i := 1) (N := some 63) (v := ?_) (a' := ?_) #[true, true, false, false, false, false, false, false, false, false, false, false] rfl rfl (by kernel_rfl) (fun _ _ _ h => h) (Or.inl ⟨by rfl, ?_⟩) ?_ ?_
  rotate_left
  · intro w'
    go_simp
    with_reducible rfl
  rotate_left
  · simp only [Act.put, List.setIfInBounds_toArray, List.set_cons_zero, List.set_cons_succ, i64_w, i32_w]
    rfl
  refine pure_ (i := 2) (N := some 64) (v := ?_) (a' := ?_) #[true, true, true, false, false, false, false, false, false, false, false, false] rfl rfl (by kernel_rfl) (fun _ _ _ h => h) (Or.inl ⟨by rfl, ?_⟩) ?_ ?_
  rotate_left
  · intro w'
    go_simp
    with_reducible rfl
  rotate_left
  · simp only [Act.put, List.setIfInBounds_toArray, List.set_cons_zero, List.set_cons_succ, i64_w, i32_w]
    rfl
  refine pure_ (i := 7) (N := some 69) (v := ?_) (a' := ?_) #[true, true, true, false, false, false, false, true, false, false, false, false] rfl rfl (by kernel_rfl) (fun _ _ _ h => h) (Or.inl ⟨by rfl, ?_⟩) ?_ ?_
  rotate_left
  · intro w'
    go_simp
    with_reducible rfl
  rotate_left
  · simp only [Act.put, List.setIfInBounds_toArray, List.set_cons_zero, List.set_cons_succ, i64_w, i32_w]
    rfl
  refine pure_ (i := 8) (N := some 70) (v := ?_) (a' := ?_) #[true, true, true, false, false, false, false, true, true, false, false, false] rfl rfl (by kernel_rfl) (fun _ _ _ h => h) (Or.inl ⟨by rfl, ?_⟩) ?_ ?_
  rotate_left
  · intro w'
    go_simp
    with_reducible rfl
  rotate_left
  · simp only [Act.put, List.setIfInBounds_toArray, List.set_cons_zero, List.set_cons_succ, i64_w, i32_w]
    rfl
  refine take_ (i := 3) (N := some 65) (v := ?_) (a' := ?_) #[true, true, true, true, false, false, false, true, true, false, false, false] rfl rfl (by kernel_rfl) (fun _ _ _ h => h) (Or.inl ⟨by rfl, ?_⟩) hHeld ?_ ?_
  rotate_left
  · rintro w' ⟨s0, s1⟩
    go_simp
    with_reducible rfl
  rotate_left
  · simp only [Act.put, List.setIfInBounds_toArray, List.set_cons_zero, List.set_cons_succ, i64_w, i32_w]
    rfl
  refine take_ (i := 9) (N := some 71) (v := ?_) (a' := ?_) #[true, true, true, true, false, false, false, true, true, true, false, false] rfl rfl (by kernel_rfl) (fun _ _ _ h => h) (Or.inl ⟨by rfl, ?_⟩) hHeld ?_ ?_
  rotate_left
  · rintro w' ⟨s0, s1⟩
    go_simp
    with_reducible rfl
  rotate_left
  · simp only [Act.put, List.setIfInBounds_toArray, List.set_cons_zero, List.set_cons_succ, i64_w, i32_w]
    rfl
  refine one_ (i := 4) (N := some 66) #[true, true, true, true, true, false, false, true, true, true, false, false] rfl rfl (by kernel_rfl) (by decide) (fun K hK => ?_)
  refine goes_ Try.func46 (by kernel_rfl) rfl #[.int .i64 c.wc] (by rfl) rfl rfl (by simp only [List.map_toArray, List.map_cons, List.map_nil]; rfl) ?_
  with_reducible refine (byte1_calls c.wc _).mono ?_
  rintro e w3 ⟨rfl, rfl⟩
  refine ⟨_, rfl, ?_⟩
  refine hK.out _ _ ⟨hHeld.1, hHeld.2⟩ (fun hHeld => ?_)
  clear hK K
  refine norm_ (a' := ?_) ?_ ?_
  rotate_left
  · show Act.put _ (some 66) _ = _
    simp only [Act.put, List.setIfInBounds_toArray, List.set_cons_zero, List.set_cons_succ, i64_w, i32_w]
    rfl
  refine one_ (i := 5) (N := some 67) #[true, true, true, true, true, true, false, true, true, true, false, false] rfl rfl (by kernel_rfl) (by decide) (fun K hK => ?_)
  have HC5 := Aside0.mk (C_new (k := .u8) (W := w1.drew) (e := 5) (fr := (0, 0)) (arr := #[.int .u8 (byteN c.wc)]) ([byteN c.wc] : List Int) rfl (by simp))
  refine value_ (w1 := ?_) (v := ?_) (by rfl) rfl ?_ ?_
  rotate_left 2
  · go_simp
    constructor
    · rfl
    · rfl
  have T := (H.out.step (below_drew (Below.refl w1.heap.size w1))).step (below_alloc (Below.refl w1.drew.heap.size w1.drew) (.cells #[.int .u8 (byteN c.wc)] 5))
  clear hHeld
  refine hK.out _ _ ⟨blk_cell T.blk 14, blk_cell T.blk 15⟩ (fun hHeld => ?_)
  clear hK K
  refine norm_ (a' := ?_) ?_ ?_
  rotate_left
  · show Act.put _ (some 67) _ = _
    simp only [Act.put, List.setIfInBounds_toArray, List.set_cons_zero, List.set_cons_succ, i64_w, i32_w]
    rfl
  refine one_ (i := 6) (N := some 68) #[true, true, true, true, true, true, true, true, true, true, false, false] rfl rfl (by kernel_rfl) (by decide) (fun K hK => ?_)
  refine Kd.R_append_rows_step (Kd.int .u8) (w0 := w0) w0.heap.size (by rfl) (.tmp 62) (.tmp 67) 31 5 (.int .u8 0) 1 (by rfl) Try.underlying31 info5 rfl (by decide) (by decide) (.slice A0 l0.length c0) l0 ([byteN c.wc] : List Int) (some ⟨w1.drew.heap.size, 0, none⟩) 1 1 (fun _ => True) (fun _ => False) (by rfl) (by rfl) T.row HC5.out (fun _ _ hx => hx) (fun _ hk => hk.elim) (fun _ _ => trivial) T.below T.below.size ?hl ?_
  case hl => have := HL.out; omega
  intro v6 w6 ho hb hg hat
  obtain ⟨A6, c6, e6⟩ := Kd.R_slice ho
  subst e6
  have H6 : Aside0 (PB w0 w w6 r c (.slice A0 l0.length c0 : Value).ownBlock (.slice A6 (l0 ++ [byteN c.wc]).length c6) (l0 ++ [byteN c.wc])) := ⟨⟨ho, hb, grown_trans T.grown hg, blk_grown T.blk hg (Kd.R_ne T.row T.blk (by decide))⟩⟩
  clear ho hb hg hat hHeld
  clear T
  refine hK.out _ _ ⟨blk_cell H6.out.blk 14, blk_cell H6.out.blk 15⟩ (fun hHeld => ?_)
  clear hK K
  refine norm_ (a' := ?_) ?_ ?_
  rotate_left
  · show Act.put _ (some 68) _ = _
    simp only [Act.put, List.setIfInBounds_toArray, List.set_cons_zero, List.set_cons_succ, i64_w, i32_w]
    rfl
  refine last_ (i := 10) (N := some 72) #[true, true, true, true, true, true, true, true, true, true, true, false] rfl rfl (by kernel_rfl) (by decide) (fun K hK => ?_)
  refine goes_ Try.func47 (by kernel_rfl) rfl #[.slice A6 (l0 ++ [byteN c.wc]).length c6, .int .u64 c.wa, .int .i64 8] (by rfl) rfl rfl (by simp only [List.map_toArray, List.map_cons, List.map_nil]; rfl) ?_
  with_reducible refine (rNum_at (l0 ++ [byteN c.wc]).length c6 (Kd.R_reads' H6.out.row).2.2 rfl (Kd.R_reads' H6.out.row).2.1 _ c.wa.toNat (by have := HOK.out.wa; omega) (by have := HOK.out.wa; omega) 8 8 rfl (by have := HL.out; rw [List.length_append]; simp; omega) l2 HL2.out).mono ?_
  rintro e w7 ⟨A7, c7, rfl, hR, hB⟩
  refine ⟨_, rfl, ?_⟩
  have H7 : Aside0 (PB w0 w w7 r c (.slice A0 l0.length c0 : Value).ownBlock (.slice A7 l2.length c7) l2) := ⟨⟨Kd.R_lower hR H6.out.below.size, below_step H6.out.below hB, grown_trans H6.out.grown (grown_of_below _ hB), blk_below H6.out.blk hB⟩⟩
  have HF7 := Aside0.mk (own_from hR (Nat.le_trans H6.out.grown.size (Nat.le_refl _)))
  clear hR hB
  refine hK.out _ _ ?_
  clear hK K
  refine norm_ (a' := ?_) ?_ ?_
  rotate_left
  · show Act.put _ (some 72) _ = _
    simp only [Act.put, List.setIfInBounds_toArray, List.set_cons_zero, List.set_cons_succ, i64_w, i32_w]
    rfl
  refine pure_ (i := 11) (N := some 0) (v := ?_) (a' := ?_) #[true, true, true, true, true, true, true, true, true, true, true, true] rfl rfl (by kernel_rfl) (fun _ _ _ h => h) (Or.inl ⟨by rfl, ?_⟩) ?_ ?_
  rotate_left
  · intro w'
    go_simp
    with_reducible rfl
  rotate_left
  · simp only [Act.put, List.setIfInBounds_toArray, List.set_cons_zero, List.set_cons_succ, i64_w, i32_w]
    rfl
  refine done_ (by kernel_rfl) ?_
  have y : w7.cell? ⟨r, 16, none⟩ = some (.int .i64 c.wi) := cell_of H7.out.blk 16
  go_wp2_with fail
  refine (byte1_calls c.wi _).mono ?_
  rintro e w' ⟨rfl, rfl⟩
  have HK6 := H6
  clear H6 HC5
  go_wp2_with (first
    | ((with_reducible refine gate_dst (N := 78) rfl ?_); refine Kd.R_lit (Kd.int .u8) _ 5 ?hg (N := 78) ?hd (xs := ([byteN c.wi] : List Int)) (inner := [.int .u8 (byteN c.wi)]) (ok := fun _ => True) (okp := fun _ => True) ?hr ?hp (fun _ hk => hk) trivial (Below.refl _ _) (Nat.le_refl _) (by simp) ?_; (case hd => rfl); (case hg => rfl); (case hr => first | (go_simp; done) | (go_simp; rfl)); (case hp => exact (Reps.one (show Kd.M (Kd.int .u8) _ _ _ (byteN c.wi) [.int .u8 (byteN c.wi)] from rfl) (Reps.none _ _))); intro v5 w5 ho5 hb5 hg_ hnew_; clear hg_ hnew_; obtain ⟨A5, c5, e5⟩ := Kd.R_slice ho5; subst e5; have H5 := Aside0.mk (H7.out.step hb5); have HC5 := Aside0.mk (Kd.R_reads' ho5).2.2; clear ho5 hb5)
    | ((with_reducible refine gate_builtin (b := .append) (xs := #[.tmp 73, .tmp 78]) rfl ?_); at_builtin; refine Kd.R_append_row (Value.int .u8) (0 : Int) (h1 := fun _ => rfl) (w0 := w0) w0.heap.size rfl (.tmp 73) (.tmp 78) 31 5 (.int .u8 0) 1 rfl Try.underlying31 info5 rfl (by decide) (.slice A7 l2.length c7) l2 ([byteN c.wi] : List Int) A5 1 c5 (fun _ => True) rfl rfl (fun _ _ => trivial) H5.out.row HC5.out H5.out.below H5.out.below.size ?aL ?_; (case aL => have := HL.out; have := HLN.out; omega); intro v6 w6 ho hb hg hat; obtain ⟨A6, c6, e6⟩ := Kd.R_slice ho; subst e6; have H6 := Aside0.mk (And.intro ho (And.intro hb (And.intro hg (And.intro hat (blk_grown H5.out.blk hg (Kd.R_ne H5.out.row H5.out.blk (by decide))))))); clear ho hb hg hat)
    | fail)
  go_ret
  have hfin : l2 ++ [byteN c.wi] = m := by rw [← HM.out, ← HL2.out, byte_beB HOK.out.wc, item_beB HOK.out.wi, List.append_assoc, List.append_assoc]; rfl
  have hrow := H6.out.1
  rw [hfin] at hrow
  have hlen : m.length = l2.length + 1 := by rw [← hfin, List.length_append]; rfl
  exact ⟨A6, c6, by rw [hlen]; rfl, hrow, H6.out.2.1, grown_fresh H5.out.grown H6.out.2.2.1 HF7.out⟩
theorem rput_calls (f : Nat) (h1 : 1 ≤ f) (h2 : f ≤ 16) (A0 : Option Addr) (c0 : Nat) (l0 : List Int) (c : Cmd) (w0 w : World) (ho : OkC c) (hR : Kd.R (Kd.int .u8) 5 w w0.heap.size (fun _ => True) (.slice A0 l0.length c0) l0) (hB : Below w0.heap.size w0 w) (hl : l0.length + 300 < 140737488355328) :
    Calls Try.prog 26 #[.slice A0 l0.length c0, .agg (cells c), .int .i64 f] w (PutR w0 w (.slice A0 l0.length c0 : Value).ownBlock (l0 ++ putB c f)) := by
  have hf : f = 1 ∨ f = 2 ∨ f = 3 ∨ f = 4 ∨ f = 5 ∨ f = 6 ∨ f = 7 ∨ f = 8 ∨ f = 9 ∨ f = 10 ∨ f = 11 ∨ f = 12 ∨ f = 13 ∨ f = 14 ∨ f = 15 ∨ f = 16 := by omega
  rcases hf with rfl | rfl | rfl | rfl | rfl | rfl | rfl | rfl | rfl | rfl | rfl | rfl | rfl | rfl | rfl | rfl
  · exact rput1 A0 c0 l0 c w0 w ho hR hB hl
  · exact rput2 A0 c0 l0 c w0 w ho hR hB hl
  · exact rput3 A0 c0 l0 c w0 w ho hR hB hl
  · exact rput4 A0 c0 l0 c w0 w ho hR hB hl
  · exact rput5 A0 c0 l0 c w0 w ho hR hB hl
  · exact rput6 A0 c0 l0 c w0 w ho hR hB hl
  · exact rput7 A0 c0 l0 c w0 w ho hR hB hl
  · exact rput8 A0 c0 l0 c w0 w ho hR hB hl
  · exact rput9 A0 c0 l0 c w0 w ho hR hB hl
  · exact rput10 A0 c0 l0 c w0 w ho hR hB hl
  · exact rput11 A0 c0 l0 c w0 w ho hR hB hl
  · exact rput12 A0 c0 l0 c w0 w ho hR hB hl
  · exact rput13 A0 c0 l0 c w0 w ho hR hB hl
  · exact rput14 A0 c0 l0 c w0 w ho hR hB hl
  · exact rput15 A0 c0 l0 c w0 w ho hR hB hl
  · exact rput16 A0 c0 l0 c w0 w ho hR hB hl
end Go.Proofs.Ytfaicipochceeaa.Giv
