/- rialtolaw27.alive. -/
import Derived.Test.YtkfninhbbcfdcaaGRepM
import Derived.Test.YtkfninhbbcfdcaaGAllS
namespace Go.Proofs.Ytkfninhbbcfdcaa.Giv
open Go.RowKit Go.Proofs.YtkfninhbbcfdcaaW.PrintWords Go.Proofs.YtkfninhbbcfdcaaW.PrintLast Go.Proofs.YtkfninhbbcfdcaaW.PrintMore Go.Proofs.Ytkfninhbbcfdcaa.PReplyTells
set_option linter.unusedVariables false
set_option linter.unusedSimpArgs false

theorem C_lit {α : Type} (d : Kd α) (W : World) (e : TypeId) {ps : List α} {inner : List Value} (hr : Reps (d.K (W.alloc (.cells inner.toArray e))) d.sz ps inner) (hm : ps.length ≤ 9223372036854775807) :
    d.C (W.alloc (.cells inner.toArray e)) (some ⟨W.heap.size, 0, none⟩) ps.length ps := by
  obtain ⟨A, c, he, _, hR⟩ := OwnRow.reads (OwnRow.lit (e := e) W W.heap.size hr (Nat.le_refl _) hm)
  injection he with h1 h2 h3
  subst h1
  exact hR
theorem C_newg {k : IntKind} {W : World} {arr : Array Value} {e : TypeId} {fr : Nat × Nat} {g : Nat} (xs : List Int) (ha : arr.toList = xs.map (Value.int k)) (hl : xs.length ≤ 9223372036854775807) (hg : W.heap.size = g) :
    Kd.C (Kd.int k) (W.alloc (.cells arr e fr)) (some ⟨g, 0, none⟩) xs.length xs := by
  subst hg
  exact C_new xs ha hl

set_option maxHeartbeats 8000000 in
set_option maxRecDepth 100000 in
theorem alive27_calls (w : World) : Calls Try.prog 39 #[] w fun e w' => e = .returned (.bool true) ∧ Below w.heap.size w w' := by
  go_enter Try.func39, Try.ntmps39
  obtain ⟨r1, hr1⟩ : ∃ r, w.heap.size = r := ⟨_, rfl⟩
  have HX1 := Aside0.mk (And.intro (below_alloc (Below.refl w.heap.size w) (.cells #[.int .i64 1, .int .i64 5, .int .i64 0, .slice none 0 0] 49)) (blk_new w (.cells #[.int .i64 1, .int .i64 5, .int .i64 0, .slice none 0 0] 49)))
  have HR1 := Aside0.mk hr1
  go_wp2_with fail
  clear hr1
  obtain ⟨w1, hw1⟩ : ∃ w1, w.alloc (.cells #[.int .i64 1, .int .i64 5, .int .i64 0, .slice none 0 0] 49) = w1 := ⟨_, rfl⟩
  rw [hw1] at HX1 ⊢
  have HB1 := Aside0.mk HX1.out.1
  have hx1 := HX1.out.2
  rw [HR1.out] at hx1
  have HX := Aside0.mk hx1
  clear hw1 hx1 HX1
  refine (RWrap_at ⟨1, 5, 0, []⟩ none 0 0 _ (C_nil _ _) rfl (Nat.le_refl _) (by unfold bytesOk; decide) _ fm0).mono ?_
  rintro e w2 ⟨B1, d1, rfl, hR, hB⟩
  have HB2 := Aside0.mk (below_step HB1.out hB)
  have HX2 := Aside0.mk (blk_below HX.out hB)
  have HM2 := Aside0.mk (Kd.R_reads' hR).2
  clear hR hB HB1 HX
  go_wp2_with fail
  refine (Read_at _ _ _ _ [1, 5, 0] (C_new [1, 5, 0] rfl (by decide)) rfl (by decide) (by unfold bytesOk; decide) (by decide) _ _ fr1).mono ?_
  rintro e w3 ⟨B3, d3, rfl, hR, hB⟩
  have hB' := below_step (below_alloc (Below.refl w2.heap.size w2) _) hB
  have HB3 := Aside0.mk (below_step HB2.out hB')
  have HX3 := Aside0.mk (blk_below HX2.out hB')
  have HM3 := Aside0.mk (And.intro HM2.out.1 (Kd.C_below HM2.out.2 hB'))
  have HY3 := Aside0.mk (Kd.R_reads' hR).2
  clear hR hB hB' HB2 HX2 HM2
  obtain ⟨r3, hr3⟩ : ∃ r, w3.heap.size = r := ⟨_, rfl⟩
  have HR3 := Aside0.mk hr3
  have HA3 := Aside0.mk (And.intro (below_alloc (Below.refl w3.heap.size w3) (.cells #[.int .i64 1, .int .i64 5, .int .i64 0, .slice B3 0 d3] 49)) (blk_new w3 (.cells #[.int .i64 1, .int .i64 5, .int .i64 0, .slice B3 0 d3] 49)))
  go_wp2_with fail
  clear hr3
  refine (Read_at _ _ _ _ [1, 5] (C_newg [1, 5] rfl (by decide) (by simp [HR3.out])) rfl (by decide) (by unfold bytesOk; decide) (by decide) _ _ fr2).mono ?_
  rintro e w4 ⟨B4, d4, rfl, hR, hB⟩
  have hB'' := below_step (below_alloc (Below.refl _ _) _) hB
  have hB' := below_step HA3.out.1 hB''
  have HB4 := Aside0.mk (below_step HB3.out hB')
  have HX4 := Aside0.mk (blk_below HX3.out hB')
  have HM4 := Aside0.mk (And.intro HM3.out.1 (Kd.C_below HM3.out.2 hB'))
  have HY4 := Aside0.mk (And.intro HY3.out.1 (Kd.C_below HY3.out.2 hB'))
  have hz4 := blk_below HA3.out.2 hB''
  rw [HR3.out] at hz4
  have HZ4 := Aside0.mk hz4
  clear hR hB hB' hB'' hz4 HB3 HX3 HM3 HY3 HA3
  obtain ⟨r5, hr5⟩ : ∃ r, w4.heap.size = r := ⟨_, rfl⟩
  have HR5 := Aside0.mk hr5
  go_wp2_with fail
  clear hr5
  refine (Read_at _ _ _ _ [2, 5, 0] (C_newg [2, 5, 0] rfl (by decide) (by simp [HR5.out])) rfl (by decide) (by unfold bytesOk; decide) (by decide) _ _ fr3).mono ?_
  rintro e w5 ⟨B5, d5, rfl, hR, hB⟩
  have hB' := below_step (below_alloc (below_alloc (Below.refl w4.heap.size w4) _) _) hB
  have HB5 := Aside0.mk (below_step HB4.out hB')
  have HX5 := Aside0.mk (blk_below HX4.out hB')
  have HM5 := Aside0.mk (And.intro HM4.out.1 (Kd.C_below HM4.out.2 hB'))
  have HY5 := Aside0.mk (And.intro HY4.out.1 (Kd.C_below HY4.out.2 hB'))
  have HZ5 := Aside0.mk (blk_below HZ4.out hB')
  clear hR hB hB' HB4 HX4 HM4 HY4 HZ4
  obtain ⟨w6, hw6⟩ : ∃ w6, w5.alloc (.cells #[.int .i64 0, .int .i64 0, .int .i64 0, .slice B5 0 d5] 49) = w6 := ⟨_, rfl⟩
  have hB' : Below w5.heap.size w5 w6 := by rw [← hw6]; exact below_alloc (Below.refl _ _) _
  have HB6 := Aside0.mk (below_step HB5.out hB')
  have HX6 := Aside0.mk (blk_below HX5.out hB')
  have HM6 := Aside0.mk (And.intro HM5.out.1 (Kd.C_below HM5.out.2 hB'))
  have HY6 := Aside0.mk (And.intro HY5.out.1 (Kd.C_below HY5.out.2 hB'))
  have HZ6 := Aside0.mk (blk_below HZ5.out hB')
  have HW := Aside0.mk (Below.refl w6.heap.size w6)
  clear hB' HB5 HX5 HM5 HY5 HZ5
  go_wp2_with (first
    | ((with_reducible refine gate_dst (N := 30) rfl ?_); refine Kd.R_lit (Kd.int .u8) _ 5 ?hg (N := 30) ?hd (xs := ([] : List Int)) (inner := []) (ok := fun _ => True) (okp := fun _ => True) ?hr ?hp (fun _ hk => hk) trivial (Below.refl _ _) (Nat.le_refl _) (by simp) ?_; (case hd => rfl); (case hg => rfl); (case hr => first | (go_simp; done) | (go_simp; rfl)); (case hp => exact (Reps.none _ _)); intro vl wl ho hb hg_ hnew_; clear hg_ hnew_; (try rw [hw6] at ho hb); have HOn := Aside0.mk (Kd.R_lower ho (below_size HW.out)); have HWn := Aside0.mk (below_step HW.out hb); clear HW; have HW := HWn; clear HWn; have HO := HOn; clear HOn; clear hb ho; obtain ⟨AL, cL, eL⟩ := Kd.R_slice HO.out; subst eL)
    | ((with_reducible refine gate_builtin (b := .append) (xs := #[.tmp 30, .tmp 31]) rfl ?_); at_builtin; refine Kd.R_append_rows (Kd.int .u8) (w0 := w6) w6.heap.size rfl (.tmp 30) (.tmp 31) 22 5 (.int .u8 0) 1 rfl Try.underlying22 info5 rfl (by decide) (by omega) (.slice AL 0 cL) ([] : List Int) ([3, 1, 5, 0, 123, 7] : List Int) _ _ _ (fun _ => True) (fun _ => False) rfl rfl ?aO ?aR (fun _ _ h => h) (fun _ h => h.elim) ?aF ?aB ?aS ?aL ?_; (case aR => exact (Kd.C_below HM6.out.2 HW.out)); (case aB => exact HW.out); (case aF => exact (fun _ _ => trivial)); (case aO => exact HO.out); (case aS => exact (below_size HW.out)); (case aL => decide); intro va wa ho hb hg hat; clear HO HW; have HW := Aside0.mk hb; have HO := Aside0.mk ho; clear ho hb hg hat; obtain ⟨AL, cL, eL⟩ := Kd.R_slice HO.out; subst eL)
    | ((with_reducible refine gate_builtin (b := .append) (xs := #[.tmp 32, .tmp 33]) rfl ?_); at_builtin; refine Kd.R_append_rows (Kd.int .u8) (w0 := w6) w6.heap.size rfl (.tmp 32) (.tmp 33) 22 5 (.int .u8 0) 1 rfl Try.underlying22 info5 rfl (by decide) (by omega) (.slice AL 6 cL) ([3, 1, 5, 0, 123, 7] : List Int) ([3, 1, 5, 0, 123, 7] : List Int) _ _ _ (fun _ => True) (fun _ => False) rfl rfl ?aO ?aR (fun _ _ h => h) (fun _ h => h.elim) ?aF ?aB ?aS ?aL ?_; (case aR => exact (Kd.C_below HM6.out.2 HW.out)); (case aB => exact HW.out); (case aF => exact (fun _ _ => trivial)); (case aO => exact HO.out); (case aS => exact (below_size HW.out)); (case aL => decide); intro va wa ho hb hg hat; clear HO HW; have HW := Aside0.mk hb; have HO := Aside0.mk ho; clear ho hb hg hat; obtain ⟨AL, cL, eL⟩ := Kd.R_slice HO.out; subst eL)
    | fail)
  clear hw6
  refine (RepAll_at _ _ _ _ [3, 1, 5, 0, 123, 7, 3, 1, 5, 0, 123, 7] (Kd.R_reads' HO.out).2.2 rfl (Kd.R_reads' HO.out).2.1 (by unfold bytesOk; decide) (by decide) _ _ fa2).mono ?_
  rintro e w7 ⟨B7, d7, rfl, hR, hB⟩
  have hB' := below_step HW.out hB
  have HB7 := Aside0.mk (below_step HB6.out hB')
  have HX7 := Aside0.mk (blk_below HX6.out hB')
  have HM7 := Aside0.mk (And.intro HM6.out.1 (Kd.C_below HM6.out.2 hB'))
  have HY7 := Aside0.mk (And.intro HY6.out.1 (Kd.C_below HY6.out.2 hB'))
  have HZ7 := Aside0.mk (blk_below HZ6.out hB')
  clear hR hB hB' HW HO HB6 HX6 HM6 HY6 HZ6
  obtain ⟨ad, eB, b1⟩ := Kd.at_int HM7.out.2 1 (by decide) (by decide)
  subst eB
  obtain ⟨ad', eB, b2⟩ := Kd.at_int HM7.out.2 2 (by decide) (by decide)
  injection eB with eB
  subst eB
  obtain ⟨ad', eB, b3⟩ := Kd.at_int HM7.out.2 3 (by decide) (by decide)
  injection eB with eB
  subst eB
  replace b1 : w7.cell? ⟨ad.block, ad.off + 1, none⟩ = some (.int .u8 1) := b1
  replace b2 : w7.cell? ⟨ad.block, ad.off + 2, none⟩ = some (.int .u8 5) := b2
  replace b3 : w7.cell? ⟨ad.block, ad.off + 3, none⟩ = some (.int .u8 0) := b3
  have x0 : w7.cell? ⟨r1, 0, none⟩ = some (.int .i64 1) := blk_cell HX7.out 0
  have x1 : w7.cell? ⟨r1, 1, none⟩ = some (.int .i64 5) := blk_cell HX7.out 1
  have x2 : w7.cell? ⟨r1, 2, none⟩ = some (.int .i64 0) := blk_cell HX7.out 2
  have x3 : w7.cell? ⟨r1, 3, none⟩ = some (.slice none 0 0) := blk_cell HX7.out 3
  have y0 : w7.cell? ⟨r3, 0, none⟩ = some (.int .i64 1) := blk_cell HZ7.out 0
  have y1 : w7.cell? ⟨r3, 1, none⟩ = some (.int .i64 5) := blk_cell HZ7.out 1
  have y2 : w7.cell? ⟨r3, 2, none⟩ = some (.int .i64 0) := blk_cell HZ7.out 2
  have y3 : w7.cell? ⟨r3, 3, none⟩ = some (.slice B3 0 d3) := blk_cell HZ7.out 3
  have hd1 : 6 ≤ d1 := HM7.out.1
  go_wp2_with fail
  refine (Same_at ⟨1, 5, 0, []⟩ none 0 0 _ B3 0 d3 (C_nil _ _) rfl (Nat.le_refl _) HY7.out.2 rfl (Nat.zero_le _)).mono ?_
  rintro e w8 ⟨rfl, hB⟩
  have HB8 := Aside0.mk (below_step HB7.out hB)
  clear hB b1 b2 b3 x0 x1 x2 x3 y0 y1 y2 y3
  go_wp2_with fail
  refine (May_calls ⟨5, 0, 14, []⟩ none 0 0 _ (C_nil _ _) rfl (Nat.le_refl _) true rfl).mono ?_
  rintro e w9 ⟨rfl, hB⟩
  have HB9 := Aside0.mk (below_step HB8.out hB)
  clear hB
  go_wp2_with fail
  refine (May_calls ⟨5, 0, 0, []⟩ none 0 0 _ (C_nil _ _) rfl (Nat.le_refl _) false rfl).mono ?_
  rintro e w10 ⟨rfl, hB⟩
  have HB10 := Aside0.mk (below_step HB9.out hB)
  clear hB
  go_wp2_with fail
  refine (Nums_at _ _ _ _ [1, 2] (C_new [1, 2] rfl (by decide)) rfl (by decide) (by decide) [1, 2] rfl).mono ?_
  rintro e w11 ⟨B11, d11, rfl, hR, hB⟩
  have HB11 := Aside0.mk (below_step HB10.out (below_step (below_alloc (Below.refl _ _) _) hB))
  have s11 := Kd.C_string (P := Try.prog) (A := B11) (n := 2) (c := d11) Try.underlying22 Try.underlying5 Try.underlying9 (show Kd.C (Kd.int .u8) w11 B11 2 [1, 2] from (Kd.R_reads' hR).2.2)
  rw [show strOfNums [1, 2] = (ByteArray.mk #[1, 2]) from by decide +kernel] at s11
  clear hR hB
  go_wp2_with fail
  refine (Refs_at _ _ _ _ [⟨1, 2⟩] (C_lit k76 _ 76 (inner := [.int .i64 1, .int .i64 2]) (show Reps _ _ ([] ++ [(⟨1, 2⟩ : S76)]) ([] ++ [.int .i64 1, .int .i64 2]) from Reps.snoc (Reps.none _ _) (k76_mk _ ⟨1, 2⟩) rfl) (by decide)) rfl (by decide) (by decide) [1, 2] rfl).mono ?_
  rintro e w12 ⟨B12, d12, rfl, hR, hB⟩
  have HB12 := Aside0.mk (below_step HB11.out (below_step (below_alloc (Below.refl _ _) _) hB))
  have s12 := Kd.C_string (P := Try.prog) (A := B12) (n := 2) (c := d12) Try.underlying22 Try.underlying5 Try.underlying9 (show Kd.C (Kd.int .u8) w12 B12 2 [1, 2] from (Kd.R_reads' hR).2.2)
  rw [show strOfNums [1, 2] = (ByteArray.mk #[1, 2]) from by decide +kernel] at s12
  clear hR hB s11
  go_wp2_with fail
  refine (Amts_at _ _ _ _ [7] (C_new [7] rfl (by decide)) rfl (by decide) (by decide) (by unfold u64Ok; decide) [0, 0, 0, 0, 0, 0, 0, 7] (by decide +kernel)).mono ?_
  rintro e w13 ⟨B13, d13, rfl, hR, hB⟩
  have HB13 := Aside0.mk (below_step HB12.out (below_step (below_alloc (Below.refl _ _) _) hB))
  clear hR hB s12
  go_wp2_with fail
  go_ret
  exact ⟨rfl, HB13.out⟩
end Go.Proofs.Ytkfninhbbcfdcaa.Giv
