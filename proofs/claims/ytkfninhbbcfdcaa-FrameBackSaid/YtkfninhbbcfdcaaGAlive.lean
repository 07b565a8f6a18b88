/- rialtolaw25.alive. -/
import Derived.Test.YtkfninhbbcfdcaaGAliveN
namespace Go.Proofs.Ytkfninhbbcfdcaa.Giv
open Go.RowKit Go.Proofs.YtkfninhbbcfdcaaW.PrintWords Go.Proofs.YtkfninhbbcfdcaaW.PrintLast Go.Proofs.YtkfninhbbcfdcaaW.PrintMore
set_option linter.unusedVariables false
set_option linter.unusedSimpArgs false

theorem wrap_at {w : World} {A : Option Addr} {l : List Int} (n c : Nat) (h : Kd.C (Kd.int .u8) w A n l) (hn : n = l.length) (hc : n ≤ c) (hb : bytesOk l) (a : Int) (f : List Int) (e0 : Int) (hf : wrapB l a = f ∧ wrapE l a = e0) :
    Calls Try.prog 13 #[.slice A n c, .int .i64 a] w fun e w' => ∃ A1 c1, e = .returned (.tuple #[.slice A1 f.length c1, .int .i64 e0]) ∧ Kd.R (Kd.int .u8) 5 w' w.heap.size (fun _ => True) (.slice A1 f.length c1) f ∧ Below w.heap.size w w' := by
  subst hn
  obtain ⟨rfl, rfl⟩ := hf
  refine (Wrap_calls A c l a w h hc hb).mono ?_
  rintro e w' ⟨v, rfl, hR, hB⟩
  obtain ⟨A1, c1, rfl⟩ := Kd.R_slice hR
  exact ⟨A1, c1, rfl, hR, hB⟩
theorem take_at {w : World} {A : Option Addr} {l : List Int} (n c : Nat) (h : Kd.C (Kd.int .u8) w A n l) (hn : n = l.length) (hc : n ≤ c) (hb : bytesOk l) (a : Int) (x : List Int) (m e0 : Int) (hf : tk l a = (x, m, e0)) :
    Calls Try.prog 15 #[.slice A n c, .int .i64 a] w fun e w' => ∃ A1 c1, e = .returned (.tuple #[.slice A1 x.length c1, .int .i64 m, .int .i64 e0]) ∧ Kd.R (Kd.int .u8) 5 w' w.heap.size (fun _ => True) (.slice A1 x.length c1) x ∧ Below w.heap.size w w' := by
  subst hn
  refine (frame_Take.calls A c l a x m e0 w h hc (by unfold frame_Take.f; rw [if_pos hb, hf])).mono ?_
  rintro e w' ⟨v, rfl, hR, hB⟩
  obtain ⟨A1, c1, rfl⟩ := Kd.R_slice hR
  exact ⟨A1, c1, rfl, hR, hB⟩
theorem ab_ok : bytesOk [97, 98] := by unfold bytesOk; decide

set_option maxHeartbeats 4000000 in
set_option maxRecDepth 100000 in
theorem alive_calls (w : World) : Calls Try.prog 19 #[] w fun e w' => e = .returned (.bool true) ∧ Below w.heap.size w w' := by
  have kc := fun (w : World) (C : Array Value) (n c : Nat) => Lib.run_convert_bytes_const (P := Try.prog) w 22 5 C n c Try.underlying22 Try.underlying5
  go_enter Try.func19, Try.ntmps19
  go_wp2_with fail
  refine (wrap_at (l := [97, 98]) 2 _ (C_new [97, 98] rfl (by decide)) rfl (by decide) ab_ok 2 [2, 97, 98, 147, 91] 0 wr_ab2).mono ?_
  rintro e w1 ⟨A1, c1, rfl, hR1, hB1⟩
  have HR1 := Aside0.mk hR1
  have HB1 := Aside0.mk (below_step (below_alloc (Below.refl w.heap.size w) _) hB1)
  clear hR1 hB1
  go_wp2_with fail
  refine (wrap_at (l := [97, 98]) 2 _ (C_new [97, 98] rfl (by decide)) rfl (by decide) ab_ok 1 [] 13 wr_ab1).mono ?_
  rintro e w2 ⟨A2, c2, rfl, hR2, hB2⟩
  have HC := Aside0.mk (And.intro (Kd.R_reads' (Kd.R_below (Kd.R_alloc HR1.out _) hB2)).2.2 (Kd.R_reads' HR1.out).2.1)
  have HB2 := Aside0.mk (below_step (below_alloc HB1.out _) hB2)
  have HW := Aside0.mk (Below.refl w2.heap.size w2)
  clear hR2 hB2 HR1 HB1
  go_wp2_with (first
    | ((with_reducible refine gate_dst (N := 36) rfl ?_); refine Kd.R_lit (Kd.int .u8) _ 5 ?hg (N := 36) ?hd (xs := ([] : List Int)) (inner := []) (ok := fun _ => True) (okp := fun _ => True) ?hr ?hp (fun _ hk => hk) trivial (Below.refl _ _) (Nat.le_refl _) (by simp) ?_; (case hd => rfl); (case hg => rfl); (case hr => first | (go_simp; done) | (go_simp; rfl)); (case hp => exact (Reps.none _ _)); intro vl wl ho hb hg_ hnew_; clear hg_ hnew_; have HOn := Aside0.mk (Kd.R_lower ho (below_size HW.out)); have HWn := Aside0.mk (below_step HW.out hb); clear HW; have HW := HWn; clear HWn; have HO := HOn; clear HOn; clear hb ho; obtain ⟨AL, cL, eL⟩ := Kd.R_slice HO.out; subst eL)
    | ((with_reducible refine gate_builtin (b := .append) (xs := #[.tmp 36, .tmp 37]) rfl ?_); at_builtin; refine Kd.R_append_rows (Kd.int .u8) (w0 := w2) w2.heap.size rfl (.tmp 36) (.tmp 37) 22 5 (.int .u8 0) 1 rfl Try.underlying22 info5 rfl (by decide) (by omega) (.slice AL 0 cL) ([] : List Int) ([2, 97, 98, 147, 91] : List Int) _ _ _ (fun _ => True) (fun _ => False) rfl rfl ?aO ?aR (fun _ _ h => h) (fun _ h => h.elim) ?aF ?aB ?aS ?aL ?_; (case aR => exact (Kd.C_below HC.out.1 HW.out)); (case aB => exact HW.out); (case aF => exact (fun _ _ => trivial)); (case aO => exact HO.out); (case aS => exact (below_size HW.out)); (case aL => decide); intro va wa ho hb hg hat; clear HO HW; have HW := Aside0.mk hb; have HO := Aside0.mk ho; clear ho hb hg hat; obtain ⟨AL, cL, eL⟩ := Kd.R_slice HO.out; subst eL)
    | ((with_reducible refine gate_dst (N := 39) rfl ?_); refine Kd.R_lit (Kd.int .u8) _ 5 ?hg (N := 39) ?hd (xs := ([9] : List Int)) (inner := [.int .u8 9]) (ok := fun _ => True) (okp := fun _ => True) ?hr ?hp (fun _ hk => hk) trivial (Below.refl _ _) (Nat.le_refl _) (by simp) ?_; (case hd => rfl); (case hg => rfl); (case hr => first | (go_simp; done) | (go_simp; rfl)); (case hp => exact (Reps.one (show Kd.M (Kd.int .u8) _ _ _ (9) [.int .u8 9] from rfl) (Reps.none _ _))); intro vl wl ho hb hg_ hnew_; clear hg_ hnew_; have n0_ := Aside0.mk (Kd.R_elder' HO.out (Kd.R_base ho) hb); have n1_ := Aside0.mk (Kd.R_lower (Kd.R_new' ho (Kd.R_lt HO.out)) (below_size HW.out)); have n2_ := Aside0.mk (below_step HW.out hb); clear HO; clear HW; have HO := n0_; have HP := n1_; have HW := n2_; clear n0_ n1_ n2_; clear hb ho; obtain ⟨AP, cP, eP⟩ := Kd.R_slice HP.out; subst eP)
    | ((with_reducible refine gate_builtin (b := .append) (xs := #[.tmp 38, .tmp 39]) rfl ?_); at_builtin; refine Kd.R_append_rows (Kd.int .u8) (w0 := w2) w2.heap.size rfl (.tmp 38) (.tmp 39) 22 5 (.int .u8 0) 1 rfl Try.underlying22 info5 rfl (by decide) (by omega) (.slice AL 5 cL) ([2, 97, 98, 147, 91] : List Int) ([9] : List Int) _ _ _ (fun k_ => some k_ ≠ (.slice AP 1 cP : Value).ownBlock) (fun _ => False) rfl rfl ?aO ?aR (fun _ _ h => h) (fun _ h => h.elim) ?aF ?aB ?aS ?aL ?_; (case aR => exact (Kd.R_reads' HP.out).2.2); (case aB => exact HW.out); (case aF => exact (fun k_ hk => Kd.fresh' (Kd.R_lt HP.out) k_ hk)); (case aO => exact Kd.R_mono HO.out (fun _ hk => hk.2)); (case aS => exact (below_size HW.out)); (case aL => decide); intro va wa ho hb hg hat; clear HO HW HP; have HW := Aside0.mk hb; have HO := Aside0.mk (Kd.R_mono ho (fun _ _ => trivial) : Kd.R (Kd.int .u8) 5 _ _ (fun _ => True) _ _); clear ho hb hg hat; obtain ⟨AL, cL, eL⟩ := Kd.R_slice HO.out; subst eL)
    | fail)
  refine (take_at (l := [2, 97, 98, 147, 91, 9]) 6 _ (Kd.R_reads' HO.out).2.2 rfl (Kd.R_reads' HO.out).2.1 (by unfold bytesOk; decide) 2 [97, 98] 5 0 tk_a).mono ?_
  rintro e w3 ⟨A3, c3, rfl, hR3, hB3⟩
  have HX := Aside0.mk (Kd.R_reads' hR3).2.2
  have HB3 := Aside0.mk (below_step HB2.out (below_step HW.out hB3))
  have hc5 : 5 ≤ c1 := HC.out.2
  have HCn := Aside0.mk (And.intro (Kd.C_below HC.out.1 (below_step HW.out hB3)) HC.out.2)
  clear hR3 hB3 HW HO HC HB2
  have HC := HCn
  have HW := Aside0.mk (Below.refl w3.heap.size w3)
  clear HCn
  go_wp2_with fail
  refine (take_at (l := [2, 97, 98, 147]) 4 _ (Kd.C_below (C_take1 (m := 4) HC.out.1 (by decide)) HW.out) rfl (by have := HC.out.2; simp at this; omega) (by unfold bytesOk; decide) 2 [] 0 12 tk_b).mono ?_
  rintro e w4 ⟨A4, c4, rfl, hR4, hB4⟩
  have HWn := Aside0.mk (below_step HW.out hB4)
  clear hR4 hB4 HW
  have HW := HWn
  clear HWn
  go_wp2_with fail
  refine (take_at (l := [2, 97, 98, 147, 91]) 5 _ (Kd.C_below HC.out.1 HW.out) rfl HC.out.2 (by unfold bytesOk; decide) 1 [] 1 13 tk_c).mono ?_
  rintro e w5 ⟨A5, c5, rfl, hR5, hB5⟩
  have HWn := Aside0.mk (below_step HW.out hB5)
  clear hR5 hB5 HW
  have HW := HWn
  clear HWn
  go_wp2_with (first
    | ((with_reducible refine gate_dst (N := 58) rfl ?_); refine Kd.R_lit (Kd.int .u8) _ 5 ?hg (N := 58) ?hd (xs := ([] : List Int)) (inner := []) (ok := fun _ => True) (okp := fun _ => True) ?hr ?hp (fun _ hk => hk) trivial (Below.refl _ _) (Nat.le_refl _) (by simp) ?_; (case hd => rfl); (case hg => rfl); (case hr => first | (go_simp; done) | (go_simp; rfl)); (case hp => exact (Reps.none _ _)); intro vl wl ho hb hg_ hnew_; clear hg_ hnew_; have HOn := Aside0.mk (Kd.R_lower ho (below_size HW.out)); have HWn := Aside0.mk (below_step HW.out hb); clear HW; have HW := HWn; clear HWn; have HO := HOn; clear HOn; clear hb ho; obtain ⟨AL, cL, eL⟩ := Kd.R_slice HO.out; subst eL)
    | ((with_reducible refine gate_builtin (b := .append) (xs := #[.tmp 58, .tmp 59]) rfl ?_); at_builtin; refine Kd.R_append_rows (Kd.int .u8) (w0 := w3) w3.heap.size rfl (.tmp 58) (.tmp 59) 22 5 (.int .u8 0) 1 rfl Try.underlying22 info5 rfl (by decide) (by omega) (.slice AL 0 cL) ([] : List Int) ([2, 97, 98, 147, 91] : List Int) _ _ _ (fun _ => True) (fun _ => False) rfl rfl ?aO ?aR (fun _ _ h => h) (fun _ h => h.elim) ?aF ?aB ?aS ?aL ?_; (case aR => exact (Kd.C_below HC.out.1 HW.out)); (case aB => exact HW.out); (case aF => exact (fun _ _ => trivial)); (case aO => exact HO.out); (case aS => exact (below_size HW.out)); (case aL => decide); intro va wa ho hb hg hat; clear HO HW; have HW := Aside0.mk hb; have HO := Aside0.mk ho; clear ho hb hg hat; obtain ⟨AL, cL, eL⟩ := Kd.R_slice HO.out; subst eL)
    | fail)
  obtain ⟨gc, capc, ec, hgc, _, cells, hblk⟩ := Kd.R_form HO.out (by decide)
  injection ec with e1 e2 e3
  subst e1 e3
  obtain ⟨ad, had, hcell⟩ := Kd.at_int (Kd.R_reads' HO.out).2.2 1 (by decide) (by decide)
  injection had with had
  subst had
  have hfr : wa.frozen? ⟨gc, 1, none⟩ = false := blk_frozen hblk 1
  have hcell : wa.cell? ⟨gc, 1, none⟩ = some (.int .u8 97) := hcell
  have HG := Aside0.mk hgc
  have hcp : 5 ≤ cL := (Kd.R_reads' HO.out).2.1
  clear hgc hblk
  go_wp2_with fail
  have HP9 := Kd.R_putn HO.out 1 98
  have HW9 := Aside0.mk (below_set (j := 1) (v := .int .u8 98) HW.out HG.out)
  refine (take_at (l := [2, 98, 98, 147, 91]) 5 _ (Kd.R_reads' HP9).2.2 rfl hcp (by unfold bytesOk; decide) 2 [] 5 14 tk_d).mono ?_
  rintro e w6 ⟨A6, c6, rfl, hR6, hB6⟩
  have HWn := Aside0.mk (below_step HW9.out hB6)
  clear hR6 hB6 HW HW9 HO HP9 hcell hfr
  have HW := HWn
  clear HWn
  go_wp2_with (first
    | ((with_reducible refine gate_dst (N := 73) rfl ?_); refine Kd.R_lit (Kd.int .u8) _ 5 ?hg (N := 73) ?hd (xs := ([] : List Int)) (inner := []) (ok := fun _ => True) (okp := fun _ => True) ?hr ?hp (fun _ hk => hk) trivial (Below.refl _ _) (Nat.le_refl _) (by simp) ?_; (case hd => rfl); (case hg => rfl); (case hr => first | (go_simp; done) | (go_simp; rfl)); (case hp => exact (Reps.none _ _)); intro vl wl ho hb hg_ hnew_; clear hg_ hnew_; have HOn := Aside0.mk (Kd.R_lower ho (below_size HW.out)); have HWn := Aside0.mk (below_step HW.out hb); clear HW; have HW := HWn; clear HWn; have HO := HOn; clear HOn; clear hb ho; obtain ⟨AL, cL, eL⟩ := Kd.R_slice HO.out; subst eL)
    | ((with_reducible refine gate_builtin (b := .append) (xs := #[.tmp 73, .tmp 74]) rfl ?_); at_builtin; refine Kd.R_append_rows (Kd.int .u8) (w0 := w3) w3.heap.size rfl (.tmp 73) (.tmp 74) 22 5 (.int .u8 0) 1 rfl Try.underlying22 info5 rfl (by decide) (by omega) (.slice AL 0 cL) ([] : List Int) ([2, 97, 98, 147, 91] : List Int) _ _ _ (fun _ => True) (fun _ => False) rfl rfl ?aO ?aR (fun _ _ h => h) (fun _ h => h.elim) ?aF ?aB ?aS ?aL ?_; (case aR => exact (Kd.C_below HC.out.1 HW.out)); (case aB => exact HW.out); (case aF => exact (fun _ _ => trivial)); (case aO => exact HO.out); (case aS => exact (below_size HW.out)); (case aL => decide); intro va wa ho hb hg hat; clear HO HW; have HW := Aside0.mk hb; have HO := Aside0.mk ho; clear ho hb hg hat; obtain ⟨AL, cL, eL⟩ := Kd.R_slice HO.out; subst eL)
    | ((with_reducible refine gate_builtin (b := .append) (xs := #[.tmp 75, .tmp 76]) rfl ?_); at_builtin; refine Kd.R_append_rows (Kd.int .u8) (w0 := w3) w3.heap.size rfl (.tmp 75) (.tmp 76) 22 5 (.int .u8 0) 1 rfl Try.underlying22 info5 rfl (by decide) (by omega) (.slice AL 5 cL) ([2, 97, 98, 147, 91] : List Int) ([2, 97, 98, 147, 91] : List Int) _ _ _ (fun _ => True) (fun _ => False) rfl rfl ?aO ?aR (fun _ _ h => h) (fun _ h => h.elim) ?aF ?aB ?aS ?aL ?_; (case aR => exact (Kd.C_below HC.out.1 HW.out)); (case aB => exact HW.out); (case aF => exact (fun _ _ => trivial)); (case aO => exact HO.out); (case aS => exact (below_size HW.out)); (case aL => decide); intro va wa ho hb hg hat; clear HO HW; have HW := Aside0.mk hb; have HO := Aside0.mk ho; clear ho hb hg hat; obtain ⟨AL, cL, eL⟩ := Kd.R_slice HO.out; subst eL)
    | fail)
  refine (frame_All.calls AL cL [2, 97, 98, 147, 91, 2, 97, 98, 147, 91] 2 [[97, 98], [97, 98]] 0 _ (Kd.R_reads' HO.out).2.2 (Kd.R_reads' HO.out).2.1 (by unfold frame_All.f; rw [if_pos ⟨by unfold bytesOk; decide, by decide⟩]; exact congrArg some all_ab)).mono ?_
  rintro e w7 ⟨v7, rfl, hR7, hB7⟩
  obtain ⟨A7, c7, e7⟩ := Kd.R_slice hR7
  subst e7
  have HWn := Aside0.mk (below_step HW.out hB7)
  clear hR7 hB7 HW HO
  have cs0 := Kd.C_string (P := Try.prog) (A := A3) (n := 2) (c := c3) Try.underlying22 Try.underlying5 Try.underlying9 (Kd.C_below (show Kd.C (Kd.int .u8) w3 A3 2 [97, 98] from HX.out) HWn.out)
  rw [show strOfNums [97, 98] = (ByteArray.mk #[97, 98]) from by decide +kernel] at cs0
  go_wp2_with fail
  go_ret
  exact ⟨rfl, below_step HB3.out HWn.out⟩
end Go.Proofs.Ytkfninhbbcfdcaa.Giv
