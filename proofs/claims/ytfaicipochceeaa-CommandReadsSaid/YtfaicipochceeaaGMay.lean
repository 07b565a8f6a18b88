/- Which commands may be. -/
import Derived.Test.YtfaicipochceeaaGFits
import Derived.Laws.RangeString
import Derived.Laws.RangeAny
import Derived.Lib.OthersKept
import Derived.Deep.RegionHeld3
import Derived.Deep.RegionWith
import Derived.Deep.CutRange
import Derived.Deep.WholeRow
namespace Go.Proofs.Ytfaicipochceeaa.Giv
open Go.Lib Go.RowKit Go.Proofs.YtfaicipochceeaaW.PrintWords Go.Proofs.YtfaicipochceeaaW.PrintLast Go.Proofs.YtfaicipochceeaaW.PrintMore
set_option linter.unusedVariables false
set_option linter.unusedSimpArgs false
def bareC (op : Int) : Cmd := { zCmd with op := op }
def bareL (c : Cmd) (l : List Nat) : Cmd := l.foldl (fun a f => keepF a c f) (bareC c.op)
def mayC (c : Cmd) : Bool := isOpB c.op && (eqC (bareL c (fldL c.op.toNat)) c && fitsC c)
theorem copy_calls (t g : Nat) (a c : Cmd) (W : World) (f : Nat) (h1 : 1 ≤ f) (h2 : f ≤ 16) (ht : W.heap[t]? = some (.cells (cells a) 28 (0, 0))) (hg : W.heap[g]? = some (.cells (cells c) 28 (0, 0))) (hne : t ≠ g) :
    Calls Try.prog 19 #[.pointer (some ⟨t, 0, none⟩), .pointer (some ⟨g, 0, none⟩), .int .i32 (signOf f)] W fun e w' => e = .returned (.tuple #[]) ∧ w'.heap[t]? = some (.cells (cells (keepF a c f)) 28 (0, 0)) ∧ Keep1 W w' t := by
  have hf : f = 1 ∨ f = 2 ∨ f = 3 ∨ f = 4 ∨ f = 5 ∨ f = 6 ∨ f = 7 ∨ f = 8 ∨ f = 9 ∨ f = 10 ∨ f = 11 ∨ f = 12 ∨ f = 13 ∨ f = 14 ∨ f = 15 ∨ f = 16 := by omega
  clear h1 h2
  rcases hf with rfl | rfl | rfl | rfl | rfl | rfl | rfl | rfl | rfl | rfl | rfl | rfl | rfl | rfl | rfl | rfl
  · exact copy1 t g a c W ht hg hne
  · exact copy2 t g a c W ht hg hne
  · exact copy3 t g a c W ht hg hne
  · exact copy4 t g a c W ht hg hne
  · exact copy5 t g a c W ht hg hne
  · exact copy6 t g a c W ht hg hne
  · exact copy7 t g a c W ht hg hne
  · exact copy8 t g a c W ht hg hne
  · exact copy9 t g a c W ht hg hne
  · exact copy10 t g a c W ht hg hne
  · exact copy11 t g a c W ht hg hne
  · exact copy12 t g a c W ht hg hne
  · exact copy13 t g a c W ht hg hne
  · exact copy14 t g a c W ht hg hne
  · exact copy15 t g a c W ht hg hne
  · exact copy16 t g a c W ht hg hne
theorem sign_ascii (f : Nat) (h1 : 1 ≤ f) (h2 : f ≤ 16) : 0 ≤ signOf f ∧ signOf f < 128 := by
  have hf : f = 1 ∨ f = 2 ∨ f = 3 ∨ f = 4 ∨ f = 5 ∨ f = 6 ∨ f = 7 ∨ f = 8 ∨ f = 9 ∨ f = 10 ∨ f = 11 ∨ f = 12 ∨ f = 13 ∨ f = 14 ∨ f = 15 ∨ f = 16 := by omega
  rcases hf with rfl | rfl | rfl | rfl | rfl | rfl | rfl | rfl | rfl | rfl | rfl | rfl | rfl | rfl | rfl | rfl <;> decide
theorem fld_size (n : Nat) (hn : n < 43) : (fldS n).size = (fldL n).length := by
  have := congrArg List.length (fld_eq n hn)
  rw [List.length_map, List.length_map, data_length] at this
  exact this
/-- The next field of a range over an operation's fields. -/
theorem next_fld {W : World} {k n j : Nat} (hn : n < 43) (hk : W.heap[k]? = some (.stringIter (fldS n) j)) (hj : j < (fldL n).length) (ty : TypeId) :
    (Instr.next (.pointer (some ⟨k, 0, none⟩)) true ty).run Try.prog W = .ok (.tuple #[.bool true, .int .i64 j, .int .i32 (signOf (fldL n)[j])]) (W.iterAt k (fldS n) (j + 1)) := by
  have hs : j < (fldS n).size := by rw [fld_size n hn]; exact hj
  have he : (((fldS n)[j]'hs).toNat : Int) = signOf (fldL n)[j] := by
    have h1 := congrArg (fun l => l[j]?) (fld_eq n hn)
    simp only [List.getElem?_map] at h1
    rw [List.getElem?_eq_getElem hj, List.getElem?_eq_getElem (by rw [data_length]; exact hs)] at h1
    simp only [Option.map_some] at h1
    exact Option.some.inj h1
  have hr := fld_ok n _ (List.getElem_mem hj)
  have ha := sign_ascii _ hr.1 hr.2
  rw [run_next_ascii_at W k (fldS n) j ty hk hs (by omega), he]
theorem next_fin {W : World} {k n j : Nat} (hn : n < 43) (hk : W.heap[k]? = some (.stringIter (fldS n) j)) (hj : (fldL n).length ≤ j) (ty : TypeId) :
    (Instr.next (.pointer (some ⟨k, 0, none⟩)) true ty).run Try.prog W = .ok (.tuple #[.bool false]) W :=
  run_next_end_at W k (fldS n) j ty hk (by rw [fld_size n hn]; omega)
theorem info28 : (Try.prog.info? 28).map (·.size) = some 22 := by kernel_rfl
set_option maxHeartbeats 8000000 in
set_option maxRecDepth 100000 in
theorem May_calls (c : Cmd) (w : World) (x : Bool) (hx : mayC c = x) : Calls Try.prog 7 #[.agg (cells c)] w fun e w' => e = .returned (.bool x) ∧ Below w.heap.size w w' := by
  have heq := fun a b => eq28 a b
  have hA := blk_new w (.cells (cells c) 28)
  have hBA := below_alloc (Below.refl w.heap.size w) (.cells (cells c) 28)
  obtain ⟨r, hr⟩ : ∃ r, w.heap.size = r := ⟨_, rfl⟩
  obtain ⟨w1, hw1⟩ : ∃ w1, w.alloc (.cells (cells c) 28) = w1 := ⟨_, rfl⟩
  rw [hw1] at hA hBA
  rw [hr] at hA
  have HA := Aside0.mk (And.intro hA hBA)
  have x0 : w1.cell? ⟨r, 0, none⟩ = some (.int .i64 c.op) := cell_of hA 0
  obtain ⟨ok, hok⟩ : ∃ ok, isOpB c.op = ok := ⟨_, rfl⟩
  have HOK := Aside0.mk hok
  have HX := Aside0.mk hx
  clear hA hBA hok hx heq
  go_enter Try.func7, Try.ntmps7
  go_wp2_with fail
  refine (isOp_calls c.op w1).mono ?_
  rintro e w2 ⟨rfl, hB⟩
  rw [HOK.out]
  have HB2 := Aside0.mk (below_step HA.out.2 hB)
  have H2 := Aside0.mk (blk_below HA.out.1 hB)
  have HR : Aside0 (w.heap.size = r) := ⟨hr⟩
  clear hB x0 hw1 HA
  cases ok with
  | false =>
    go_wp2_with fail
    go_ret
    exact ⟨by rw [← HX.out]; unfold mayC; rw [HOK.out]; rfl, HB2.out⟩
  | true =>
    have ho : 1 ≤ c.op ∧ c.op < 43 := by have := HOK.out; unfold isOpB at this; simpa using this
    obtain ⟨n, hn⟩ : ∃ n : Nat, c.op = n := Int.eq_ofNat_of_zero_le (show 0 ≤ c.op by omega)
    have x0 : w2.cell? ⟨r, 0, none⟩ = some (.int .i64 n) := by have := cell_of H2.out 0; rw [this]; show some (Value.int .i64 c.op) = _; rw [hn]
    have hn43 : n < 43 := by omega
    have HN := Aside0.mk (And.intro hn hn43)
    clear hn ho
    obtain ⟨q, hq⟩ : ∃ q, w2.heap.size = q := ⟨_, rfl⟩
    have HQ := Aside0.mk hq
    go_upto_region 4 with (first
      | (refine wpList_store_row rfl 28 (.tmp 3) (.tmp 12) rfl q (cells (bareC n)) rfl rfl 28 (cells zCmd) ?hg info28 rfl (cells_one _) ?_; (case hg => rw [← HQ.out]; exact blk_new _ _); (simp only [Act.put]))
      | fail)
    have hrow : ∀ z : Array Value, (w2.alloc (.cells z 28)).setRow q (cells (bareC n)) = w2.alloc (.cells (cells (bareC n)) 28) := fun z => by rw [← HQ.out]; exact World.setRow_alloc_new _ _ _ _
    rw [hrow]
    have hb3 := blk_new w2 (.cells (cells (bareC n)) 28)
    have hB3 := below_alloc (Below.refl w2.heap.size w2) (.cells (cells (bareC n)) 28)
    obtain ⟨w3, hw3⟩ : ∃ w3, w2.alloc (.cells (cells (bareC n)) 28) = w3 := ⟨_, rfl⟩
    rw [hw3, HQ.out] at hb3
    rw [hw3] at hB3 ⊢
    have HQ3 := Aside0.mk hb3
    have H3 := Aside0.mk (blk_below H2.out hB3)
    have HB3 := Aside0.mk (below_step HB2.out hB3)
    have y0 := pw_cell_below hB3 x0
    clear hrow hb3 hB3 hw3 x0 hq
    go_cut [19] from 13 to 18 (fun v19 wx => ∃ k : Nat, v19 = .pointer (some ⟨k, 0, none⟩) ∧ Aside0 (wx.heap[k]? = some (.stringIter (fldS n) 0) ∧ w3.heap.size ≤ k ∧ Below w3.heap.size w3 wx))
    case first =>
      go_region_with (go_at_call 18; refine (forms_calls _).mono ?_; rintro e w' ⟨rfl, hb, hB⟩; have xf := (forms_at hb n hn43).2; (try simp only [heap_drew] at xf); have y1 := pw_cell_below hB y0; clear hb)
      all_goals
        have HB4 := Aside0.mk (below_step (below_drew (Below.refl w3.heap.size w3)) hB)
        clear xf y1 hB
        go_wp2_with fail
        go_meet
        exact ⟨_, rfl, ⟨World.iter_heap _ _ _, HB4.out.size, below_step HB4.out (below_alloc (Below.refl _ _) _)⟩⟩
    case rest =>
      obtain ⟨k, rfl, HK⟩ := hcut
      obtain ⟨L, hL⟩ : ∃ L, fldL n = L := ⟨_, rfl⟩
      have HL := Aside0.mk hL
      have HNE : Aside0 (k ≠ q ∧ k ≠ r ∧ q ≠ r) := ⟨by
        have h1 := blk_lt HQ3.out
        have h2 := blk_lt H3.out
        have h3 := HK.out.2.1
        have h4 := blk_lt H2.out
        have h5 := HQ.out
        omega⟩
      have H4 := Aside0.mk (blk_below H3.out HK.out.2.2)
      have HQ4 := Aside0.mk (blk_below HQ3.out HK.out.2.2)
      have HB4 := Aside0.mk (below_step HB3.out HK.out.2.2)
      have HKI := Aside0.mk HK.out.1
      have HK0 : Aside0 (w.heap.size ≤ k) := ⟨Nat.le_trans HB3.out.size HK.out.2.1⟩
      have HQ0 : Aside0 (w.heap.size ≤ q) := ⟨by rw [← HQ.out]; exact HB2.out.size⟩
      clear hL y0 HK
      go_wp2_with fail
      go_loopg [5] L.length (fun kq v5 w' => ∃ j : Nat, j + kq = L.length ∧ Aside0 (w'.heap[k]? = some (.stringIter (fldS n) j) ∧ w'.heap[q]? = some (.cells (cells ((L.take j).foldl (fun a f => keepF a c f) (bareC n))) 28 (0, 0)) ∧ w'.heap[r]? = some (.cells (cells c) 28 (0, 0)) ∧ Below w.heap.size w w'))
      case atStart => exact ⟨0, by omega, ⟨HKI.out, HQ4.out, H4.out, HB4.out⟩⟩
      case round =>
        obtain ⟨j, hj, HO⟩ := hrel
        cases gk with
        | zero =>
          obtain rfl : j = L.length := by omega
          have hnx := next_fin hn43 HO.out.1 (by rw [HL.out]; exact Nat.le_refl _)
          clear hj
          obtain ⟨d, hd⟩ : ∃ d, bareL c (fldL c.op.toNat) = d := ⟨_, rfl⟩
          have hq5 : wr.heap[q]? = some (.cells (cells d) 28 (0, 0)) := by
            have h1 := HO.out.2.1
            rw [List.take_length] at h1
            rw [h1, ← hd]
            unfold bareL
            rw [HN.out.1, Int.toNat_natCast, HL.out]
          have HQ5 := Aside0.mk hq5
          have HD := Aside0.mk hd
          have heq := eq28 d c
          obtain ⟨te, hte⟩ : ∃ te, eqC d c = te := ⟨_, rfl⟩
          rw [hte] at heq
          have HTE := Aside0.mk hte
          have HXX : Aside0 (x = (te && fitsC c)) := ⟨by rw [← HX.out]; unfold mayC; rw [HOK.out, HD.out, HTE.out]; rfl⟩
          clear hq5 hd hte
          cases te with
          | false =>
            go_wp2_with (first
              | (refine wpList_load_row rfl 28 (.tmp 3) rfl q rfl 28 (cells d) (0, 0) _ HQ5.out Try.underlying28 rfl info28 ?_; (simp only [Act.put]))
              | (refine wpList_load_row rfl 28 (.tmp 1) rfl r rfl 28 (cells c) (0, 0) _ HO.out.2.2.1 Try.underlying28 rfl info28 ?_; (simp only [Act.put]))
              | fail)
            go_ret
            exact ⟨by rw [HXX.out]; rfl, HO.out.2.2.2⟩
          | true =>
            go_wp2_with (first
              | (refine wpList_load_row rfl 28 (.tmp 3) rfl q rfl 28 (cells d) (0, 0) _ HQ5.out Try.underlying28 rfl info28 ?_; (simp only [Act.put]))
              | (refine wpList_load_row rfl 28 (.tmp 1) rfl r rfl 28 (cells c) (0, 0) _ HO.out.2.2.1 Try.underlying28 rfl info28 ?_; (simp only [Act.put]))
              | fail)
            refine (fits_calls r c wr HO.out.2.2.1 _ rfl).mono ?_
            rintro e w6 ⟨rfl, hB6⟩
            have HB6 := Aside0.mk (below_step HO.out.2.2.2 hB6)
            clear hB6 heq
            go_wp2_with fail
            go_ret
            exact ⟨by rw [HXX.out]; rfl, HB6.out⟩
        | succ gk =>
          have hjL : j < (fldL n).length := by rw [HL.out]; omega
          have hnx := next_fld hn43 HO.out.1 hjL
          have hf := fld_ok n _ (List.getElem_mem hjL)
          obtain ⟨f, hfe⟩ : ∃ f, (fldL n)[j] = f := ⟨_, rfl⟩
          rw [hfe] at hnx hf
          obtain ⟨a, ha⟩ : ∃ a, (L.take j).foldl (fun a f => keepF a c f) (bareC n) = a := ⟨_, rfl⟩
          have HAF : Aside0 ((L.take (j + 1)).foldl (fun a f => keepF a c f) (bareC n) = keepF a c f) := ⟨by
            have e1 : L[j]'(by rw [← HL.out]; exact hjL) = f := by simp only [← HL.out]; exact hfe
            rw [List.take_succ_eq_append_getElem (by rw [← HL.out]; exact hjL), List.foldl_append, ha, e1]
            rfl⟩
          have hq5 := HO.out.2.1
          rw [ha] at hq5
          obtain ⟨w5, hw5⟩ : ∃ w5, wr.iterAt k (fldS n) (j + 1) = w5 := ⟨_, rfl⟩
          have HI5 : Aside0 (w5.heap[k]? = some (.stringIter (fldS n) (j + 1)) ∧ w5.heap[q]? = some (.cells (cells a) 28 (0, 0)) ∧ w5.heap[r]? = some (.cells (cells c) 28 (0, 0)) ∧ Below w.heap.size w w5) := ⟨by
            rw [← hw5]
            refine ⟨iterAt_heap _ _ _ _ _ HO.out.1, (iterAt_other _ _ _ _ _ HNE.out.1.symm).trans hq5, (iterAt_other _ _ _ _ _ HNE.out.2.1.symm).trans HO.out.2.2.1, below_iterAt HO.out.2.2.2 ?_ _ _⟩
            have := HK0.out
            exact this⟩
          rw [hw5] at hnx
          have HF := Aside0.mk hf
          have HJ := Aside0.mk hj
          obtain ⟨sg, hsg⟩ : ∃ sg, signOf f = sg := ⟨_, rfl⟩
          rw [hsg] at hnx
          have HSG := Aside0.mk hsg
          clear hf hfe ha hq5 hw5 hjL hj HO hsg
          go_wp2_with fail
          have hcp := copy_calls q r a c w5 f HF.out.1 HF.out.2 HI5.out.2.1 HI5.out.2.2.1 HNE.out.2.2
          rw [HSG.out] at hcp
          refine hcp.mono ?_
          clear hcp
          rintro e w6 ⟨rfl, hq6, hk6⟩
          have HO6 : Aside0 (w6.heap[k]? = some (.stringIter (fldS n) (j + 1)) ∧ w6.heap[q]? = some (.cells (cells (keepF a c f)) 28 (0, 0)) ∧ w6.heap[r]? = some (.cells (cells c) 28 (0, 0)) ∧ Below w.heap.size w w6) := ⟨
            (hk6.keep.2 k (blk_lt HI5.out.1) HNE.out.1 (by simp)).trans HI5.out.1, hq6, (hk6.keep.2 r (blk_lt HI5.out.2.2.1) HNE.out.2.2.symm (by simp)).trans HI5.out.2.2.1, hk6.below HI5.out.2.2.2 HQ0.out⟩
          clear hq6 hk6 hnx
          go_wp2_with fail
          go_roundg gk
          case measure => omega
          case rel => exact ⟨j + 1, by have := HJ.out; omega, ⟨HO6.out.1, by rw [HAF.out]; exact HO6.out.2.1, HO6.out.2.2.1, HO6.out.2.2.2⟩⟩
end Go.Proofs.Ytfaicipochceeaa.Giv
