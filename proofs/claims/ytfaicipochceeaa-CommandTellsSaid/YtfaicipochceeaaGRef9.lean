/- The reference: a command's bytes. -/
import Derived.Test.YtfaicipochceeaaGRef6
import Derived.Test.YtfaicipochceeaaGRef8
namespace Go.Proofs.Ytfaicipochceeaa.Giv
open Go.Lib Go.RowKit Go.Proofs.YtfaicipochceeaaW.PrintWords Go.Proofs.YtfaicipochceeaaW.PrintLast Go.Proofs.YtfaicipochceeaaW.PrintMore
set_option linter.unusedVariables false
set_option linter.unusedSimpArgs false
set_option maxHeartbeats 8000000 in
set_option maxRecDepth 100000 in
theorem RBytes_calls (c : Cmd) (w : World) (hu : U64C c) (m : List Int) (hm : bytesC c = m) : Calls Try.prog 10 #[.agg (cells c)] w (FreshB w m) := by
  have hA := blk_new w (.cells (cells c) 28)
  have hBA := below_alloc (Below.refl w.heap.size w) (.cells (cells c) 28)
  obtain ⟨r, hr⟩ : ∃ r, w.heap.size = r := ⟨_, rfl⟩
  obtain ⟨w1, hw1⟩ : ∃ w1, w.alloc (.cells (cells c) 28) = w1 := ⟨_, rfl⟩
  rw [hw1] at hA hBA
  rw [hr] at hA
  have HA := Aside0.mk (And.intro hA hBA)
  obtain ⟨ok, hok⟩ : ∃ ok, mayC c = ok := ⟨_, rfl⟩
  have HOK := Aside0.mk hok
  have HU := Aside0.mk hu
  have HM := Aside0.mk hm
  clear hA hBA hok hm hu
  go_enter Try.func10, Try.ntmps10
  go_wp2_with (first
    | (refine wpList_load_row rfl 28 (.tmp 1) rfl r rfl 28 (cells c) (0, 0) _ HA.out.1 Try.underlying28 rfl info28 ?_; (simp only [Act.put]))
    | fail)
  refine (RMay_calls c w1 ok HOK.out).mono ?_
  rintro e w2 ⟨rfl, hB⟩
  have HB2 := Aside0.mk (below_step HA.out.2 hB)
  have H2 := Aside0.mk (blk_below HA.out.1 hB)
  clear hB hw1 HA
  cases ok with
  | false =>
    have HMN : Aside0 (m = []) := ⟨by rw [← HM.out]; unfold bytesC; rw [HOK.out]; rfl⟩
    go_wp2_with fail
    go_ret
    exact ⟨none, 0, by rw [HMN.out]; rfl, by rw [HMN.out]; exact Kd.R_nil _ _ _ _ _, HB2.out⟩
  | true =>
    have hmay := HOK.out
    unfold mayC at hmay
    rw [Bool.and_eq_true, Bool.and_eq_true] at hmay
    have hop := hmay.1
    have HO := Aside0.mk (okC_of hmay.2.2 HU.out)
    have ho : 1 ≤ c.op ∧ c.op < 43 := by unfold isOpB at hop; simpa using hop
    obtain ⟨n, hn⟩ : ∃ n : Nat, c.op = n := Int.eq_ofNat_of_zero_le (show 0 ≤ c.op by omega)
    have x0 : w2.cell? ⟨r, 0, none⟩ = some (.int .i64 n) := (by have := cell_of H2.out 0; rw [this]; show some (Value.int .i64 c.op) = _; rw [hn])
    have hn43 : n < 43 := by omega
    have HN := Aside0.mk (And.intro hn hn43)
    have HMB : Aside0 (bodyB c (fldL n) = m) := ⟨by rw [← HM.out]; unfold bytesC; rw [HOK.out, if_pos rfl, hn, Int.toNat_natCast]⟩
    have hn256 : (n : Int) % 256 = n := by omega
    clear hn ho hmay hop
    go_wp2_with (first
      | ((with_reducible refine gate_dst (N := 12) rfl ?_); refine Kd.R_lit (Kd.int .u8) (w0 := w) w.heap.size 5 ?hg (N := 12) ?hd (xs := ([(n : Int)] : List Int)) (inner := [.int .u8 (n : Int)]) (ok := fun _ => True) (okp := fun _ => True) ?hr ?hp (fun _ hk => hk) trivial HB2.out HB2.out.size (by simp) ?_; (case hd => rfl); (case hg => rfl); (case hr => first | (go_simp; done) | (go_simp; rfl)); (case hp => exact (Reps.one (show Kd.M (Kd.int .u8) _ _ _ (n : Int) [.int .u8 (n : Int)] from rfl) (Reps.none _ _))); intro v12 w3 ho hb hg_ hnew_; obtain ⟨A12, c12, e12⟩ := Kd.R_slice ho; subst e12; have HO12 := Aside0.mk ho; have HB3 := Aside0.mk hb; have H3 := Aside0.mk (blk_grown H2.out hg_ (by simp)); have y0 : w3.cell? ⟨r, 0, none⟩ = some (.int .i64 n) := (by have := cell_of H3.out 0; rw [this]; show some (Value.int .i64 c.op) = _; rw [HN.out.1]); clear ho hb hg_ hnew_ x0)
      | fail)
    obtain ⟨l1, hl1⟩ : ∃ l1, ([(n : Int)] : List Int) = l1 := ⟨_, rfl⟩
    have HL1 : Aside0 (l1 = bodyB c ([] : List Nat)) := ⟨by rw [← hl1]; unfold bodyB; rw [HN.out.1]; rfl⟩
    have hlen1 : l1.length = 1 := by rw [← hl1]; rfl
    rw [hl1] at HO12
    refine (RFields_calls n HN.out.2 w3).mono ?_
    rintro e w4 ⟨A, rfl, hrow, hB⟩
    have H4 := Aside0.mk (blk_below H3.out hB)
    have HO4 := Aside0.mk (Kd.R_below HO12.out hB)
    have HB4 := Aside0.mk (below_step HB3.out hB)
    have HROW := Aside0.mk hrow
    clear hrow hB y0 hl1 hn256
    obtain ⟨L, hL⟩ : ∃ L, fldL n = L := ⟨_, rfl⟩
    have HL := Aside0.mk hL
    rw [hL]
    have HLL : Aside0 (L.length ≤ 5) := ⟨by rw [← hL]; unfold fldL; split <;> simp⟩
    have hLL : (L.length : Int) ≤ 5 := by have := HLL.out; omega
    have HROW4 : Aside0 (L = [] ∨ ∃ b, A = some ⟨b, 0, none⟩ ∧ w4.heap[b]? = some (.cells (fldA n) 3 (0, 0))) := ⟨by
      rcases HROW.out with h | ⟨b, hA, hlo, hblk⟩
      · exact .inl (by rw [← hL]; exact h)
      · exact .inr ⟨b, hA, hblk⟩⟩
    clear hL HROW
    go_wp2_with fail
    go_loopg [3, 5] L.length (fun kq v3 v5 w' => ∃ (j : Nat) (l : List Int) (A3 : Option Addr) (cc : Nat), v3 = .slice A3 l.length cc ∧ v5 = .int .i64 j ∧ j + kq = L.length ∧ Aside0 ((L = [] ∨ ∃ b, A = some ⟨b, 0, none⟩ ∧ w'.heap[b]? = some (.cells (fldA n) 3 (0, 0))) ∧ l = bodyB c (L.take j) ∧ Kd.R (Kd.int .u8) 5 w' w.heap.size (fun _ => True) (.slice A3 l.length cc) l ∧ w'.heap[r]? = some (.cells (cells c) 28 (0, 0)) ∧ Below w.heap.size w w'))
    case atStart => exact ⟨0, l1, A12, c12, by rw [hlen1], rfl, by omega, ⟨HROW4.out, by rw [HL1.out]; rfl, HO4.out, H4.out, HB4.out⟩⟩
    case round =>
      obtain ⟨j, l, A3, cc, rfl, rfl, hj, HO5⟩ := hrel
      cases gk with
      | zero =>
        obtain rfl : j = L.length := by omega
        have HLM : Aside0 (l = m) := ⟨by rw [HO5.out.2.1, List.take_length, ← HL.out]; exact HMB.out⟩
        clear hj
        go_wp2_with fail
        go_ret
        refine ⟨A3, cc, by rw [HLM.out]; rfl, ?_, HO5.out.2.2.2.2⟩
        have := HO5.out.2.2.1
        rw [HLM.out] at this
        exact this
      | succ gk =>
        have hjL : j < (fldL n).length := by rw [HL.out]; omega
        have hlt : (j : Int) < L.length := by omega
        have hf := fld_ok n _ (List.getElem_mem hjL)
        obtain ⟨f, hfe⟩ : ∃ f, (fldL n)[j] = f := ⟨_, rfl⟩
        rw [hfe] at hf
        obtain ⟨b, rfl, hblk⟩ : ∃ b, A = some ⟨b, 0, none⟩ ∧ wr.heap[b]? = some (.cells (fldA n) 3 (0, 0)) := by
          rcases HO5.out.1 with h | h
          · rw [h] at hj; simp at hj
          · exact h
        have hcell := fldA_at hblk j hjL
        rw [hfe] at hcell
        have HAF : Aside0 (bodyB c (L.take (j + 1)) = l ++ putB c f) := ⟨by
          have e1 : L[j]'(by rw [← HL.out]; exact hjL) = f := by simp only [← HL.out]; exact hfe
          rw [List.take_succ_eq_append_getElem (by rw [← HL.out]; exact hjL), e1, body_snoc, ← HO5.out.2.1]⟩
        have HLN : Aside0 (l.length + 300 < 140737488355328) := ⟨by
          have h1 := body_len HO.out (L.take j) (fun g hg => fld_ok n g (by rw [HL.out]; exact List.mem_of_mem_take hg))
          have h2 := HLL.out
          rw [← HO5.out.2.1, List.length_take] at h1
          omega⟩
        obtain ⟨l2, hl2⟩ : ∃ l2, l ++ putB c f = l2 := ⟨_, rfl⟩
        have HL2 := Aside0.mk hl2
        have HF := Aside0.mk hf
        have HJ := Aside0.mk hj
        have HI5 : Aside0 (wr.heap[b]? = some (.cells (fldA n) 3 (0, 0)) ∧ Kd.R (Kd.int .u8) 5 wr w.heap.size (fun _ => True) (.slice A3 l.length cc) l ∧ wr.heap[r]? = some (.cells (cells c) 28 (0, 0)) ∧ Below w.heap.size w wr) := ⟨hblk, HO5.out.2.2⟩
        clear hf hfe hjL hj HO5 hblk hl2
        go_wp2_with fail
        have hb0 := Below.refl wr.heap.size wr
        have hb1 := below_drew1 hb0
        have hcp := rput_calls f HF.out.1 HF.out.2 A3 cc l c w _ HO.out (Kd.R_below HI5.out.2.1 hb1) (below_step HI5.out.2.2.2 hb1) HLN.out
        rw [HL2.out] at hcp
        have HCP := Aside0.mk hcp
        clear hcp
        refine start_ (n := 8) (S := fun w' => w'.heap[r]? = some (.cells (cells c) 28 (0, 0)) ∧ w'.cell? ⟨b, j, none⟩ = some (.int .i64 f)) (ds := [6]) #[false, false, false, false, false, false, false, false] (by kernel_rfl) rfl rfl ⟨blk_below HI5.out.2.2.1 hb1, pw_cell_below hb1 hcell⟩ (fun hHeld => ?_)
        refine pure_ (i := 0) (N := some 22) (v := ?_) (a' := ?_) #[true, false, false, false, false, false, false, false] rfl rfl (by kernel_rfl) (fun _ _ _ h => h) (Or.inl ⟨by rfl, ?_⟩) ?_ ?_
        rotate_left
        · intro w'
          go_simp
          with_reducible rfl
        rotate_left
        · simp only [Act.put, List.setIfInBounds_toArray, List.set_cons_zero, List.set_cons_succ, i64_w, i32_w]
          rfl
        refine pure_ (i := 2) (N := some 24) (v := ?_) (a' := ?_) #[true, false, true, false, false, false, false, false] rfl rfl (by kernel_rfl) (fun _ _ _ h => h) (Or.inl ⟨by rfl, ?_⟩) ?_ ?_
        rotate_left
        · intro w'
          go_simp
          with_reducible rfl
        rotate_left
        · simp only [Act.put, List.setIfInBounds_toArray, List.set_cons_zero, List.set_cons_succ, i64_w, i32_w]
          rfl
        refine pure_ (i := 3) (N := some 25) (v := ?_) (a' := ?_) #[true, false, true, true, false, false, false, false] rfl rfl (by kernel_rfl) (fun _ _ _ h => h) (Or.inl ⟨by rfl, ?_⟩) ?_ ?_
        rotate_left
        · intro w'
          go_simp
          with_reducible rfl
        rotate_left
        · simp only [Act.put, List.setIfInBounds_toArray, List.set_cons_zero, List.set_cons_succ, i64_w, i32_w]
          rfl
        refine pure_ (i := 4) (N := some 26) (v := ?_) (a' := ?_) #[true, false, true, true, true, false, false, false] rfl rfl (by kernel_rfl) (fun _ _ _ h => h) (Or.inl ⟨by rfl, ?_⟩) ?_ ?_
        rotate_left
        · intro w'
          go_simp
          with_reducible rfl
        rotate_left
        · simp only [Act.put, List.setIfInBounds_toArray, List.set_cons_zero, List.set_cons_succ, i64_w, i32_w]
          rfl
        refine take_ (i := 1) (N := some 23) (v := ?_) (a' := ?_) #[true, true, true, true, true, false, false, false] rfl rfl (by kernel_rfl) (fun _ _ _ h => h) (Or.inl ⟨by rfl, ?_⟩) hHeld ?_ ?_
        rotate_left
        · rintro w' ⟨s0, s1⟩
          refine (load28 (.tmp 1) r c s0 (by rfl) (by rfl)).trans ?_
          with_reducible rfl
        rotate_left
        · simp only [Act.put, List.setIfInBounds_toArray, List.set_cons_zero, List.set_cons_succ, i64_w, i32_w]
          rfl
        refine take_ (i := 5) (N := some 27) (v := ?_) (a' := ?_) #[true, true, true, true, true, true, false, false] rfl rfl (by kernel_rfl) (fun _ _ _ h => h) (Or.inl ⟨by rfl, ?_⟩) hHeld ?_ ?_
        rotate_left
        · rintro w' ⟨s0, s1⟩
          go_simp
          with_reducible rfl
        rotate_left
        · simp only [Act.put, List.setIfInBounds_toArray, List.set_cons_zero, List.set_cons_succ, i64_w, i32_w]
          rfl
        refine last_ (i := 6) (N := some 28) #[true, true, true, true, true, true, true, false] rfl rfl (by kernel_rfl) (by decide) (fun K hK => ?_)
        refine goes_ Try.func26 (by kernel_rfl) rfl #[.slice A3 l.length cc, .agg (cells c), .int .i64 f] (by rfl) rfl rfl (by simp only [List.map_toArray, List.map_cons, List.map_nil]; rfl) ?_
        with_reducible refine (HCP.out).mono ?_
        rintro e w6 ⟨A6, c6, rfl, hR6, hB6, hG6⟩
        refine ⟨_, rfl, ?_⟩
        refine hK.out _ _ ?_
        clear hK K
        refine norm_ (a' := ?_) ?_ ?_
        rotate_left
        · show Act.put _ (some 28) _ = _
          simp only [Act.put, List.setIfInBounds_toArray, List.set_cons_zero, List.set_cons_succ, i64_w, i32_w]
          rfl
        refine pure_ (i := 7) (N := some 3) (v := ?_) (a' := ?_) #[true, true, true, true, true, true, true, true] rfl rfl (by kernel_rfl) (fun _ _ _ h => h) (Or.inl ⟨by rfl, ?_⟩) ?_ ?_
        rotate_left
        · intro w'
          go_simp
          with_reducible rfl
        rotate_left
        · simp only [Act.put, List.setIfInBounds_toArray, List.set_cons_zero, List.set_cons_succ, i64_w, i32_w]
          rfl
        refine done_ (by kernel_rfl) ?_
        have ho1 := blk_grown (blk_below HI5.out.1 hb1) hG6 (Kd.R_ne (Kd.R_below HI5.out.2.1 hb1) (blk_below HI5.out.1 hb1) (by decide))
        have ho3 := blk_grown (blk_below HI5.out.2.2.1 hb1) hG6 (Kd.R_ne (Kd.R_below HI5.out.2.1 hb1) (blk_below HI5.out.2.2.1 hb1) (by decide))
        have HO6 := Aside0.mk (And.intro ho1 (And.intro hR6 (And.intro ho3 hB6)))
        clear ho1 ho3 hR6 hB6 hG6 hb0 hb1 hcell
        go_wp2_with fail
        go_roundg gk
        case measure => omega
        case rel => exact ⟨j + 1, l2, A6, c6, rfl, rfl, by have := HJ.out; omega, ⟨.inr ⟨b, rfl, HO6.out.1⟩, by rw [HAF.out, HL2.out], HO6.out.2.1, HO6.out.2.2.1, HO6.out.2.2.2⟩⟩
end Go.Proofs.Ytfaicipochceeaa.Giv
