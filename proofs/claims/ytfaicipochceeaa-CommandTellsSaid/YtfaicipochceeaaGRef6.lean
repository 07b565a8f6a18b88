/- The reference: which commands may be. -/
import Derived.Test.YtfaicipochceeaaGRef5
import Derived.Test.YtfaicipochceeaaGExec
import Derived.Deep.RegionWith
import Derived.Deep.CutRange
namespace Go.Proofs.Ytfaicipochceeaa.Giv
open Go.Lib Go.RowKit Go.Proofs.YtfaicipochceeaaW.PrintWords Go.Proofs.YtfaicipochceeaaW.PrintLast Go.Proofs.YtfaicipochceeaaW.PrintMore
set_option linter.unusedVariables false
set_option linter.unusedSimpArgs false
/-- The ten numbers of one byte that are told by name. -/
def numsC (c : Cmd) : Bool := isB c.rl 0 && isB c.rs 0 && isB c.la 0 && isB c.wh 0 && isB c.sl 0 && isB c.di 0 && isB c.co 0 && isB c.si 0 && isB c.ba 0 && isB c.qu 0
theorem fits_ref (c : Cmd) : fitsC c = (numsC c && (isB c.gc 0 && isB c.gi (-1)) && (isB c.wc 0 && isB c.wi (-1)) && decide (c.name.size ≤ 12) && decide (c.text.size ≤ 40)) := by
  unfold fitsC smallL numsC
  simp only [List.all_cons, List.all_nil, Bool.and_true]
  generalize isB c.rl 0 = b1
  generalize isB c.rs 0 = b2
  generalize isB c.la 0 = b3
  generalize isB c.wh 0 = b4
  generalize isB c.sl 0 = b5
  generalize isB c.di 0 = b6
  generalize isB c.co 0 = b7
  generalize isB c.si 0 = b8
  generalize isB c.ba 0 = b9
  generalize isB c.qu 0 = b10
  generalize isB c.gc 0 = b11
  generalize isB c.wc 0 = b12
  generalize isB c.gi (-1) = b13
  generalize isB c.wi (-1) = b14
  generalize decide (c.name.size ≤ 12) = b15
  generalize decide (c.text.size ≤ 40) = b16
  rw [Bool.eq_iff_iff]
  simp only [Bool.and_eq_true]
  constructor
  · rintro ⟨⟨h1, h2, h3, h4, h5, h6, h7, h8, h9, h10, h11, h12⟩, h13, h14, h15, h16⟩
    simp only [*, and_self]
  · rintro ⟨⟨⟨⟨⟨⟨⟨⟨⟨⟨⟨⟨⟨h1, h2⟩, h3⟩, h4⟩, h5⟩, h6⟩, h7⟩, h8⟩, h9⟩, h10⟩, h11, h13⟩, h12, h14⟩, h15⟩, h16⟩
    simp only [*, and_self]
theorem ld3 {W : World} {p : Addr} {v : Int} (h : W.cell? p = some (.int .i64 v)) : (loadVar 3 p).run Try.prog W = .ok (.int .i64 v) W := by go_simp
theorem ld9 {W : World} {p : Addr} {v : ByteArray} (h : W.cell? p = some (.string v)) : (loadVar 9 p).run Try.prog W = .ok (.string v) W := by go_simp
theorem ld24 {W : World} {p : Addr} {v : Int} (h : W.cell? p = some (.int .u64 v)) : (loadVar 24 p).run Try.prog W = .ok (.int .u64 v) W := by go_simp
theorem ld26 {W : World} {r i : Nat} {x y z : Int} (h0 : W.cell? ⟨r, i, none⟩ = some (.int .i64 x)) (h1 : W.cell? ⟨r, i + 1, none⟩ = some (.int .u64 y)) (h2 : W.cell? ⟨r, i + 2, none⟩ = some (.int .i64 z)) : (loadVar 26 ⟨r, i, none⟩).run Try.prog W = .ok (.agg #[.int .i64 x, .int .u64 y, .int .i64 z]) W := by go_simp
theorem below_d1 {w : World} : Below w.heap.size w w.drew := below_drew (Below.refl _ _)
set_option maxHeartbeats 8000000 in
set_option maxRecDepth 100000 in
theorem RMay_calls (c : Cmd) (w : World) (x : Bool) (hx : mayC c = x) : Calls Try.prog 8 #[.agg (cells c)] w fun e w' => e = .returned (.bool x) ∧ Below w.heap.size w w' := by
  have hA := blk_new w (.cells (cells c) 28)
  have hBA := below_alloc (Below.refl w.heap.size w) (.cells (cells c) 28)
  obtain ⟨r, hr⟩ : ∃ r, w.heap.size = r := ⟨_, rfl⟩
  obtain ⟨w1, hw1⟩ : ∃ w1, w.alloc (.cells (cells c) 28) = w1 := ⟨_, rfl⟩
  rw [hw1] at hA hBA
  rw [hr] at hA
  have HA := Aside0.mk (And.intro hA hBA)
  have HX := Aside0.mk hx
  have HR : Aside0 (w.heap.size = r) := ⟨hr⟩
  obtain ⟨op, hop⟩ : ∃ op, c.op = op := ⟨_, rfl⟩
  have HOP := Aside0.mk hop
  have x0 : w1.cell? ⟨r, 0, none⟩ = some (.int .i64 op) := by rw [cell_of hA 0, ← hop]; rfl
  clear hA hBA hx hop
  by_cases h1 : op < 1
  · have HF : Aside0 (x = false) := ⟨by rw [← HX.out]; unfold mayC isOpB; rw [HOP.out, decide_eq_false (show ¬ 1 ≤ op by omega)]; rfl⟩
    go_enter Try.func8, Try.ntmps8
    go_wp2_with fail
    go_ret
    exact ⟨by rw [HF.out]; rfl, HA.out.2⟩
  · by_cases h2 : 42 < op
    · have HF : Aside0 (x = false) := ⟨by rw [← HX.out]; unfold mayC isOpB; rw [HOP.out, decide_eq_false (show ¬ op < 43 by omega), Bool.and_false]; rfl⟩
      have h3 : decide (op < 1) = false := decide_eq_false h1
      clear h1
      go_enter Try.func8, Try.ntmps8
      go_wp2_with fail
      go_ret
      exact ⟨by rw [HF.out]; rfl, HA.out.2⟩
    · obtain ⟨n, rfl⟩ := Int.eq_ofNat_of_zero_le (show 0 ≤ op by omega)
      have h3 : decide ((n : Int) < 1) = false := decide_eq_false h1
      have h4 : decide (42 < (n : Int)) = false := decide_eq_false h2
      have hn43 : n < 43 := by omega
      have HN := Aside0.mk hn43
      have HX2 : Aside0 (x = (eqC (bareL c (fldL n)) c && fitsC c)) := ⟨by
        rw [← HX.out]; unfold mayC isOpB; rw [HOP.out, decide_eq_true (show 1 ≤ (n : Int) by omega), decide_eq_true (show (n : Int) < 43 by omega)]; rfl⟩
      clear h1 h2
      go_enter Try.func8, Try.ntmps8
      go_wp2_with fail
      refine (RFields_calls n HN.out w1).mono ?_
      rintro e w2 ⟨A, rfl, hrow, hB⟩
      have H2 := Aside0.mk (blk_below HA.out.1 hB)
      have HB2 := Aside0.mk (below_step HA.out.2 hB)
      have y0 := pw_cell_below hB x0
      have HROW : Aside0 (fldL n = [] ∨ ∃ b, A = some ⟨b, 0, none⟩ ∧ w.heap.size ≤ b ∧ r < b ∧ b < w2.heap.size ∧ w2.heap[b]? = some (.cells (fldA n) 3 (0, 0))) := ⟨by
        rcases hrow with h | ⟨b, hA, hlo, hblk⟩
        · exact .inl h
        · have h1 := HA.out.2.size
          have h2 := blk_lt HA.out.1
          exact .inr ⟨b, hA, by omega, by omega, blk_lt hblk, hblk⟩⟩
      clear hrow hB x0 hw1 h3 h4
      obtain ⟨L, hL⟩ : ∃ L, fldL n = L := ⟨_, rfl⟩
      have HL := Aside0.mk hL
      rw [hL]
      have HLL : Aside0 (L.length ≤ 5) := ⟨by rw [← hL]; unfold fldL; split <;> simp⟩
      have hLL : (L.length : Int) ≤ 5 := by have := HLL.out; omega
      clear hL
      obtain ⟨q, hq⟩ : ∃ q, w2.heap.size = q := ⟨_, rfl⟩
      have HQ := Aside0.mk hq
      go_upto_region 5 with (first
        | (refine wpList_store_row rfl 28 (.tmp 4) (.tmp 20) rfl q (cells (bareC n)) rfl rfl 28 (cells zCmd) ?hg info28 rfl (cells_one _) ?_; (case hg => rw [← HQ.out]; exact blk_new _ _); (simp only [Act.put]))
        | fail)
      have hrow : ∀ z : Array Value, (w2.alloc (.cells z 28)).setRow q (cells (bareC n)) = w2.alloc (.cells (cells (bareC n)) 28) := fun z => by rw [← HQ.out]; exact World.setRow_alloc_new _ _ _ _
      rw [hrow]
      have hb3 := blk_new w2 (.cells (cells (bareC n)) 28)
      have hB3 := below_alloc (Below.refl w2.heap.size w2) (.cells (cells (bareC n)) 28)
      obtain ⟨w3, hw3⟩ : ∃ w3, w2.alloc (.cells (cells (bareC n)) 28) = w3 := ⟨_, rfl⟩
      rw [hw3, HQ.out] at hb3
      rw [hw3] at hB3 ⊢
      have HQ3 := Aside0.mk hb3
      have H3 := Aside0.mk (blk_below H2.out hB3)
      have HB3 := Aside0.mk (below_step HB2.out hB3)
      have HROW3 : Aside0 (L = [] ∨ ∃ b, A = some ⟨b, 0, none⟩ ∧ b ≠ q ∧ w3.heap[b]? = some (.cells (fldA n) 3 (0, 0))) := ⟨by
        rcases HROW.out with h | ⟨b, hA, hlo, hrb, hbs, hblk⟩
        · exact .inl (by rw [← HL.out]; exact h)
        · exact .inr ⟨b, hA, by have := HQ.out; omega, blk_below hblk hB3⟩⟩
      have HNE : Aside0 (q ≠ r ∧ w.heap.size ≤ q) := ⟨by
        have h1 := blk_lt H2.out
        have h2 := HQ.out
        have h3 := HB2.out.size
        omega⟩
      clear hrow hb3 hB3 hw3 y0 hq HROW
      go_wp2_with fail
      go_loopg [5] L.length (fun kq v5 w' => ∃ j : Nat, v5 = .int .i64 j ∧ j + kq = L.length ∧ Aside0 ((L = [] ∨ ∃ b, A = some ⟨b, 0, none⟩ ∧ b ≠ q ∧ w'.heap[b]? = some (.cells (fldA n) 3 (0, 0))) ∧ w'.heap[q]? = some (.cells (cells ((L.take j).foldl (fun a f => keepF a c f) (bareC n))) 28 (0, 0)) ∧ w'.heap[r]? = some (.cells (cells c) 28 (0, 0)) ∧ Below w.heap.size w w'))
      case atStart => exact ⟨0, rfl, by omega, ⟨HROW3.out, HQ3.out, H3.out, HB3.out⟩⟩
      case round =>
        obtain ⟨j, rfl, hj, HO⟩ := hrel
        cases gk with
        | zero =>
          obtain rfl : j = L.length := by omega
          obtain ⟨d, hd⟩ : ∃ d, bareL c (fldL n) = d := ⟨_, rfl⟩
          have hq5 : wr.heap[q]? = some (.cells (cells d) 28 (0, 0)) := by
            have h1 := HO.out.2.1
            rw [List.take_length] at h1
            rw [h1, ← hd]
            unfold bareL
            rw [HOP.out, HL.out]
          have HQ5 := Aside0.mk hq5
          have HD := Aside0.mk hd
          obtain ⟨nb, hnb⟩ : ∃ nb, numsC c = nb := ⟨_, rfl⟩
          have HNB := Aside0.mk hnb
          obtain ⟨te, hte⟩ : ∃ te, eqC d c = te := ⟨_, rfl⟩
          have HTE := Aside0.mk hte
          have HXX : Aside0 (x = (te && (nb && (isB c.gc 0 && isB c.gi (-1)) && (isB c.wc 0 && isB c.wi (-1)) && decide (c.name.size ≤ 12) && decide (c.text.size ≤ 40)))) := ⟨by rw [HX2.out, HD.out, HTE.out, fits_ref, HNB.out]⟩
          have HR5 := Aside0.mk HO.out.2.2.1
          have HB5 := Aside0.mk HO.out.2.2.2
          have l3 : wr.cell? ⟨r, 3, none⟩ = some (.int .i64 c.rl) := cell_of HR5.out 3
          have l4 : wr.cell? ⟨r, 4, none⟩ = some (.int .i64 c.rs) := cell_of HR5.out 4
          have l5 : wr.cell? ⟨r, 5, none⟩ = some (.int .i64 c.la) := cell_of HR5.out 5
          have l6 : wr.cell? ⟨r, 6, none⟩ = some (.int .i64 c.wh) := cell_of HR5.out 6
          have l7 : wr.cell? ⟨r, 7, none⟩ = some (.int .i64 c.sl) := cell_of HR5.out 7
          have l8 : wr.cell? ⟨r, 8, none⟩ = some (.int .i64 c.di) := cell_of HR5.out 8
          have l9 : wr.cell? ⟨r, 9, none⟩ = some (.int .i64 c.co) := cell_of HR5.out 9
          have l17 : wr.cell? ⟨r, 17, none⟩ = some (.int .i64 c.si) := cell_of HR5.out 17
          have l18 : wr.cell? ⟨r, 18, none⟩ = some (.int .i64 c.ba) := cell_of HR5.out 18
          have l19 : wr.cell? ⟨r, 19, none⟩ = some (.int .i64 c.qu) := cell_of HR5.out 19
          clear hj hq5 hd hnb hte HO
          go_upto_region 9 with fail
          go_cut [6] from 34 to 83 (fun v6 wx => v6 = .bool nb ∧ wx = wr)
          case first =>
            go_wp2_with fail
            refine (rnum_calls c.rl wr).mono ?_
            rintro e w' ⟨rfl, rfl⟩
            obtain ⟨b0, hb⟩ : ∃ b, isB c.rl 0 = b := ⟨_, rfl⟩
            rw [hb]
            have N0 := Aside0.mk hb
            clear hb
            cases b0 with
            | false =>
              go_wp2_with fail
              go_meet
              exact ⟨by rw [← HNB.out]; unfold numsC; rw [N0.out]; simp, rfl⟩
            | true =>
              go_wp2_with fail
              refine (rnum_calls c.rs wr).mono ?_
              rintro e w' ⟨rfl, rfl⟩
              obtain ⟨b1, hb⟩ : ∃ b, isB c.rs 0 = b := ⟨_, rfl⟩
              rw [hb]
              have N1 := Aside0.mk hb
              clear hb
              cases b1 with
              | false =>
                go_wp2_with fail
                go_meet
                exact ⟨by rw [← HNB.out]; unfold numsC; rw [N0.out, N1.out]; simp, rfl⟩
              | true =>
                go_wp2_with fail
                refine (rnum_calls c.la wr).mono ?_
                rintro e w' ⟨rfl, rfl⟩
                obtain ⟨b2, hb⟩ : ∃ b, isB c.la 0 = b := ⟨_, rfl⟩
                rw [hb]
                have N2 := Aside0.mk hb
                clear hb
                cases b2 with
                | false =>
                  go_wp2_with fail
                  go_meet
                  exact ⟨by rw [← HNB.out]; unfold numsC; rw [N0.out, N1.out, N2.out]; simp, rfl⟩
                | true =>
                  go_wp2_with fail
                  refine (rnum_calls c.wh wr).mono ?_
                  rintro e w' ⟨rfl, rfl⟩
                  obtain ⟨b3, hb⟩ : ∃ b, isB c.wh 0 = b := ⟨_, rfl⟩
                  rw [hb]
                  have N3 := Aside0.mk hb
                  clear hb
                  cases b3 with
                  | false =>
                    go_wp2_with fail
                    go_meet
                    exact ⟨by rw [← HNB.out]; unfold numsC; rw [N0.out, N1.out, N2.out, N3.out]; simp, rfl⟩
                  | true =>
                    go_wp2_with fail
                    refine (rnum_calls c.sl wr).mono ?_
                    rintro e w' ⟨rfl, rfl⟩
                    obtain ⟨b4, hb⟩ : ∃ b, isB c.sl 0 = b := ⟨_, rfl⟩
                    rw [hb]
                    have N4 := Aside0.mk hb
                    clear hb
                    cases b4 with
                    | false =>
                      go_wp2_with fail
                      go_meet
                      exact ⟨by rw [← HNB.out]; unfold numsC; rw [N0.out, N1.out, N2.out, N3.out, N4.out]; simp, rfl⟩
                    | true =>
                      go_wp2_with fail
                      refine (rnum_calls c.di wr).mono ?_
                      rintro e w' ⟨rfl, rfl⟩
                      obtain ⟨b5, hb⟩ : ∃ b, isB c.di 0 = b := ⟨_, rfl⟩
                      rw [hb]
                      have N5 := Aside0.mk hb
                      clear hb
                      cases b5 with
                      | false =>
                        go_wp2_with fail
                        go_meet
                        exact ⟨by rw [← HNB.out]; unfold numsC; rw [N0.out, N1.out, N2.out, N3.out, N4.out, N5.out]; simp, rfl⟩
                      | true =>
                        go_wp2_with fail
                        refine (rnum_calls c.co wr).mono ?_
                        rintro e w' ⟨rfl, rfl⟩
                        obtain ⟨b6, hb⟩ : ∃ b, isB c.co 0 = b := ⟨_, rfl⟩
                        rw [hb]
                        have N6 := Aside0.mk hb
                        clear hb
                        cases b6 with
                        | false =>
                          go_wp2_with fail
                          go_meet
                          exact ⟨by rw [← HNB.out]; unfold numsC; rw [N0.out, N1.out, N2.out, N3.out, N4.out, N5.out, N6.out]; simp, rfl⟩
                        | true =>
                          go_wp2_with fail
                          refine (rnum_calls c.si wr).mono ?_
                          rintro e w' ⟨rfl, rfl⟩
                          obtain ⟨b7, hb⟩ : ∃ b, isB c.si 0 = b := ⟨_, rfl⟩
                          rw [hb]
                          have N7 := Aside0.mk hb
                          clear hb
                          cases b7 with
                          | false =>
                            go_wp2_with fail
                            go_meet
                            exact ⟨by rw [← HNB.out]; unfold numsC; rw [N0.out, N1.out, N2.out, N3.out, N4.out, N5.out, N6.out, N7.out]; simp, rfl⟩
                          | true =>
                            go_wp2_with fail
                            refine (rnum_calls c.ba wr).mono ?_
                            rintro e w' ⟨rfl, rfl⟩
                            obtain ⟨b8, hb⟩ : ∃ b, isB c.ba 0 = b := ⟨_, rfl⟩
                            rw [hb]
                            have N8 := Aside0.mk hb
                            clear hb
                            cases b8 with
                            | false =>
                              go_wp2_with fail
                              go_meet
                              exact ⟨by rw [← HNB.out]; unfold numsC; rw [N0.out, N1.out, N2.out, N3.out, N4.out, N5.out, N6.out, N7.out, N8.out]; simp, rfl⟩
                            | true =>
                              go_wp2_with fail
                              refine (rnum_calls c.qu wr).mono ?_
                              rintro e w' ⟨rfl, rfl⟩
                              obtain ⟨b9, hb⟩ : ∃ b, isB c.qu 0 = b := ⟨_, rfl⟩
                              rw [hb]
                              have N9 := Aside0.mk hb
                              clear hb
                              cases b9 with
                              | false =>
                                go_wp2_with fail
                                go_meet
                                exact ⟨by rw [← HNB.out]; unfold numsC; rw [N0.out, N1.out, N2.out, N3.out, N4.out, N5.out, N6.out, N7.out, N8.out, N9.out]; simp, rfl⟩
                              | true =>
                                go_wp2_with fail
                                go_meet
                                exact ⟨by rw [← HNB.out]; unfold numsC; rw [N0.out, N1.out, N2.out, N3.out, N4.out, N5.out, N6.out, N7.out, N8.out, N9.out]; rfl, rfl⟩
          case rest =>
            obtain ⟨rfl, rfl⟩ := hcut
            clear l3 l4 l5 l6 l7 l8 l9 l17 l18 l19
            have heq := eq28 d c
            rw [HTE.out] at heq
            cases te with
            | false =>
              go_wp2_with (first
                | (refine wpList_load_row rfl 28 (.tmp 4) rfl q rfl 28 (cells d) (0, 0) _ HQ5.out Try.underlying28 rfl info28 ?_; (simp only [Act.put]))
                | (refine wpList_load_row rfl 28 (.tmp 1) rfl r rfl 28 (cells c) (0, 0) _ HR5.out Try.underlying28 rfl info28 ?_; (simp only [Act.put]))
                | fail)
              go_ret
              exact ⟨by rw [HXX.out]; rfl, HB5.out⟩
            | true =>
              cases nb with
              | false =>
                go_wp2_with (first
                  | (refine wpList_load_row rfl 28 (.tmp 4) rfl q rfl 28 (cells d) (0, 0) _ HQ5.out Try.underlying28 rfl info28 ?_; (simp only [Act.put]))
                  | (refine wpList_load_row rfl 28 (.tmp 1) rfl r rfl 28 (cells c) (0, 0) _ HR5.out Try.underlying28 rfl info28 ?_; (simp only [Act.put]))
                  | fail)
                go_ret
                exact ⟨by rw [HXX.out]; rfl, HB5.out⟩
              | true =>
                have g1 : wc.cell? ⟨r, 11, none⟩ = some (.int .i64 c.gc) := cell_of HR5.out 11
                have g2 : wc.cell? ⟨r, 12, none⟩ = some (.int .u64 c.ga) := cell_of HR5.out 12
                have g3 : wc.cell? ⟨r, 13, none⟩ = some (.int .i64 c.gi) := cell_of HR5.out 13
                go_wp2_with (first
                  | (refine wpList_load_row rfl 28 (.tmp 4) rfl q rfl 28 (cells d) (0, 0) _ HQ5.out Try.underlying28 rfl info28 ?_; (simp only [Act.put]))
                  | (refine wpList_load_row rfl 28 (.tmp 1) rfl r rfl 28 (cells c) (0, 0) _ HR5.out Try.underlying28 rfl info28 ?_; (simp only [Act.put]))
                  | fail)
                refine (rpart_calls c.gc c.ga c.gi wc).mono ?_
                rintro e w6 ⟨rfl, hB6⟩
                have HR6 := Aside0.mk (blk_below HR5.out hB6)
                have HB6 := Aside0.mk (below_step HB5.out hB6)
                obtain ⟨pg, hpg⟩ : ∃ b, (isB c.gc 0 && isB c.gi (-1)) = b := ⟨_, rfl⟩
                rw [hpg]
                have HPG := Aside0.mk hpg
                clear hB6 hpg g1 g2 g3 heq
                cases pg with
                | false =>
                  go_wp2_with fail
                  go_ret
                  exact ⟨by rw [HXX.out, HPG.out]; simp, HB6.out⟩
                | true =>
                  have g1 : w6.cell? ⟨r, 14, none⟩ = some (.int .i64 c.wc) := cell_of HR6.out 14
                  have g2 : w6.cell? ⟨r, 15, none⟩ = some (.int .u64 c.wa) := cell_of HR6.out 15
                  have g3 : w6.cell? ⟨r, 16, none⟩ = some (.int .i64 c.wi) := cell_of HR6.out 16
                  go_wp2_with fail
                  refine (rpart_calls c.wc c.wa c.wi w6).mono ?_
                  rintro e w7 ⟨rfl, hB7⟩
                  have HR7 := Aside0.mk (blk_below HR6.out hB7)
                  have HB7 := Aside0.mk (below_step HB6.out hB7)
                  obtain ⟨pw, hpw⟩ : ∃ b, (isB c.wc 0 && isB c.wi (-1)) = b := ⟨_, rfl⟩
                  rw [hpw]
                  have HPW := Aside0.mk hpw
                  clear hB7 hpw g1 g2 g3
                  cases pw with
                  | false =>
                    go_wp2_with fail
                    go_ret
                    exact ⟨by rw [HXX.out, HPG.out, HPW.out]; simp, HB7.out⟩
                  | true =>
                    have l1 : w7.cell? ⟨r, 1, none⟩ = some (.string c.name) := cell_of HR7.out 1
                    have l2 : w7.cell? ⟨r, 2, none⟩ = some (.string c.text) := cell_of HR7.out 2
                    by_cases hn12 : c.name.size ≤ 12
                    · have hn1 : (c.name.size : Int) ≤ 12 := by omega
                      have HXY : Aside0 (x = decide (c.text.size ≤ 40)) := ⟨by rw [HXX.out, HPG.out, HPW.out, decide_eq_true hn12]; rfl⟩
                      clear hn12
                      have ht40 : decide ((c.text.size : Int) ≤ 40) = decide (c.text.size ≤ 40) := by simp only [decide_eq_decide]; omega
                      go_wp2_with fail
                      go_ret
                      exact ⟨by rw [HXY.out]; simp, HB7.out⟩
                    · have hn1 : decide ((c.name.size : Int) ≤ 12) = false := decide_eq_false (by omega)
                      have HXY : Aside0 (x = false) := ⟨by rw [HXX.out, HPG.out, HPW.out, decide_eq_false hn12]; rfl⟩
                      clear hn12
                      go_wp2_with fail
                      go_ret
                      exact ⟨by rw [HXY.out]; rfl, HB7.out⟩
        | succ gk =>
          have hjL : j < (fldL n).length := by rw [HL.out]; omega
          have hlt : (j : Int) < L.length := by omega
          have hf := fld_ok n _ (List.getElem_mem hjL)
          obtain ⟨f, hfe⟩ : ∃ f, (fldL n)[j] = f := ⟨_, rfl⟩
          rw [hfe] at hf
          obtain ⟨b, rfl, hbq, hblk⟩ : ∃ b, A = some ⟨b, 0, none⟩ ∧ b ≠ q ∧ wr.heap[b]? = some (.cells (fldA n) 3 (0, 0)) := by
            rcases HO.out.1 with h | h
            · rw [h] at hj; simp at hj
            · exact h
          have hcell := fldA_at hblk j hjL
          rw [hfe] at hcell
          obtain ⟨a, ha⟩ : ∃ a, (L.take j).foldl (fun a f => keepF a c f) (bareC n) = a := ⟨_, rfl⟩
          have HAF : Aside0 ((L.take (j + 1)).foldl (fun a f => keepF a c f) (bareC n) = keepF a c f) := ⟨by
            have e1 : L[j]'(by rw [← HL.out]; exact hjL) = f := by simp only [← HL.out]; exact hfe
            rw [List.take_succ_eq_append_getElem (by rw [← HL.out]; exact hjL), List.foldl_append, ha, e1]
            rfl⟩
          have hq5 := HO.out.2.1
          rw [ha] at hq5
          have HF := Aside0.mk hf
          have HJ := Aside0.mk hj
          have HI5 : Aside0 (b ≠ q ∧ wr.heap[b]? = some (.cells (fldA n) 3 (0, 0)) ∧ wr.heap[q]? = some (.cells (cells a) 28 (0, 0)) ∧ wr.heap[r]? = some (.cells (cells c) 28 (0, 0)) ∧ Below w.heap.size w wr) := ⟨hbq, hblk, hq5, HO.out.2.2.1, HO.out.2.2.2⟩
          clear hf hfe ha hq5 hjL hj HO hbq hblk
          go_wp2_with fail
          have hb0 := Below.refl wr.heap.size wr
          have hb1 := below_drew1 hb0
          refine start_ (n := 8) (S := fun w' => w'.heap[q]? = some (.cells (cells a) 28 (0, 0)) ∧ w'.heap[r]? = some (.cells (cells c) 28 (0, 0)) ∧ w'.cell? ⟨b, j, none⟩ = some (.int .i64 f)) (ds := [6, 7]) #[false, false, false, false, false, false, false, false] (by kernel_rfl) rfl rfl ⟨blk_below HI5.out.2.2.1 hb1, blk_below HI5.out.2.2.2.1 hb1, pw_cell_below hb1 hcell⟩ (fun hHeld => ?_)
          refine pure_ (i := 2) (N := some 29) (v := ?_) (a' := ?_) #[false, false, true, false, false, false, false, false] rfl rfl (by kernel_rfl) (fun _ _ _ h => h) (Or.inl ⟨by rfl, ?_⟩) ?_ ?_
          rotate_left
          · intro w'
            go_simp
            with_reducible rfl
          rotate_left
          · simp only [Act.put, List.setIfInBounds_toArray, List.set_cons_zero, List.set_cons_succ, i64_w, i32_w]
            rfl
          refine pure_ (i := 3) (N := some 30) (v := ?_) (a' := ?_) #[false, false, true, true, false, false, false, false] rfl rfl (by kernel_rfl) (fun _ _ _ h => h) (Or.inl ⟨by rfl, ?_⟩) ?_ ?_
          rotate_left
          · intro w'
            go_simp
            with_reducible rfl
          rotate_left
          · simp only [Act.put, List.setIfInBounds_toArray, List.set_cons_zero, List.set_cons_succ, i64_w, i32_w]
            rfl
          refine pure_ (i := 4) (N := some 31) (v := ?_) (a' := ?_) #[false, false, true, true, true, false, false, false] rfl rfl (by kernel_rfl) (fun _ _ _ h => h) (Or.inl ⟨by rfl, ?_⟩) ?_ ?_
          rotate_left
          · intro w'
            go_simp
            with_reducible rfl
          rotate_left
          · simp only [Act.put, List.setIfInBounds_toArray, List.set_cons_zero, List.set_cons_succ, i64_w, i32_w]
            rfl
          refine take_ (i := 0) (N := some 27) (v := ?_) (a' := ?_) #[true, false, true, true, true, false, false, false] rfl rfl (by kernel_rfl) (fun _ _ _ h => h) (Or.inl ⟨by rfl, ?_⟩) hHeld ?_ ?_
          rotate_left
          · rintro w' ⟨s0, s1, s2⟩
            refine (load28 (.tmp 4) q a s0 (by rfl) (by rfl)).trans ?_
            with_reducible rfl
          rotate_left
          · simp only [Act.put, List.setIfInBounds_toArray, List.set_cons_zero, List.set_cons_succ, i64_w, i32_w]
            rfl
          refine take_ (i := 1) (N := some 28) (v := ?_) (a' := ?_) #[true, true, true, true, true, false, false, false] rfl rfl (by kernel_rfl) (fun _ _ _ h => h) (Or.inl ⟨by rfl, ?_⟩) hHeld ?_ ?_
          rotate_left
          · rintro w' ⟨s0, s1, s2⟩
            refine (load28 (.tmp 1) r c s1 (by rfl) (by rfl)).trans ?_
            with_reducible rfl
          rotate_left
          · simp only [Act.put, List.setIfInBounds_toArray, List.set_cons_zero, List.set_cons_succ, i64_w, i32_w]
            rfl
          refine take_ (i := 5) (N := some 32) (v := ?_) (a' := ?_) #[true, true, true, true, true, true, false, false] rfl rfl (by kernel_rfl) (fun _ _ _ h => h) (Or.inl ⟨by rfl, ?_⟩) hHeld ?_ ?_
          rotate_left
          · rintro w' ⟨s0, s1, s2⟩
            go_simp
            with_reducible rfl
          rotate_left
          · simp only [Act.put, List.setIfInBounds_toArray, List.set_cons_zero, List.set_cons_succ, i64_w, i32_w]
            rfl
          refine last_ (i := 6) (N := some 33) #[true, true, true, true, true, true, true, false] rfl rfl (by kernel_rfl) (by decide) (fun K hK => ?_)
          refine goes_ Try.func22 (by kernel_rfl) rfl #[.agg (cells a), .agg (cells c), .int .i64 f] (by rfl) rfl rfl (by simp only [List.map_toArray, List.map_cons, List.map_nil]; rfl) ?_
          with_reducible refine (rkeep_calls a c _ f HF.out.1 HF.out.2).mono ?_
          rintro e w6 ⟨rfl, hB6⟩
          refine ⟨_, rfl, ?_⟩
          have hS6 := below_step hb1 hB6
          clear hB6
          refine hK.out _ _ ?_
          clear hK K
          refine norm_ (a' := ?_) ?_ ?_
          rotate_left
          · show Act.put _ (some 33) _ = _
            simp only [Act.put, List.setIfInBounds_toArray, List.set_cons_zero, List.set_cons_succ, i64_w, i32_w]
            rfl
          refine last_ (i := 7) (N := none) #[true, true, true, true, true, true, true, true] rfl rfl (by kernel_rfl) (by decide) (fun K hK => ?_)
          refine skip_ (w1 := _) (by rfl) rfl (store28 (.tmp 4) (.tmp 33) q a (keepF a c f) (blk_below HI5.out.2.2.1 hS6) (by rfl) (by rfl) (by rfl)) ?_
          refine hK.out _ _ ?_
          clear hK K
          refine done_ (by kernel_rfl) ?_
          have ho1 := (setRow_other w6 q b (cells (keepF a c f)) HI5.out.1).trans (blk_below HI5.out.2.1 hS6)
          have ho2 := setRow_heap w6 q (cells a) (cells (keepF a c f)) 28 (0, 0) (blk_below HI5.out.2.2.1 hS6)
          have ho3 := (setRow_other w6 q r (cells (keepF a c f)) HNE.out.1.symm).trans (blk_below HI5.out.2.2.2.1 hS6)
          have ho4 := below_setRow (below_step HI5.out.2.2.2.2 hS6) HNE.out.2 (cells (keepF a c f))
          obtain ⟨w7, hw7⟩ : ∃ w7, w6.setRow q (cells (keepF a c f)) = w7 := ⟨_, rfl⟩
          rw [hw7] at ho1 ho2 ho3 ho4 ⊢
          rw [← HAF.out] at ho2
          have HO6 := Aside0.mk (And.intro ho1 (And.intro ho2 (And.intro ho3 ho4)))
          clear ho1 ho2 ho3 ho4 hw7 hb0 hb1 hS6 hcell
          go_wp2_with fail
          go_roundg gk
          case measure => omega
          case rel => exact ⟨j + 1, rfl, by have := HJ.out; omega, ⟨.inr ⟨b, rfl, HI5.out.1, HO6.out.1⟩, HO6.out.2.1, HO6.out.2.2.1, HO6.out.2.2.2⟩⟩
end Go.Proofs.Ytfaicipochceeaa.Giv
