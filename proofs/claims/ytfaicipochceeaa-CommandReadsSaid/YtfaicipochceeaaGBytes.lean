/- A command's bytes. -/
import Derived.Test.YtfaicipochceeaaGPut2
namespace Go.Proofs.Ytfaicipochceeaa.Giv
open Go.Lib Go.RowKit Go.Proofs.YtfaicipochceeaaW.PrintWords Go.Proofs.YtfaicipochceeaaW.PrintLast Go.Proofs.YtfaicipochceeaaW.PrintMore
set_option linter.unusedVariables false
set_option linter.unusedSimpArgs false
theorem R_iter {W : World} {b k j j' : Nat} {s s' : ByteArray} {v : Value} {xs : List Int} (h : Kd.R (Kd.int .u8) 5 W b (fun _ => True) v xs) (hk : W.heap[k]? = some (.stringIter s j)) : Kd.R (Kd.int .u8) 5 (W.iterAt k s' j') b (fun _ => True) v xs := by
  refine Kd.R_mono (Kd.R_step (Kd.R_tight rfl h) (fun i hi hlt => iterAt_other _ _ _ _ _ (fun e => ?_))) (fun _ _ => trivial)
  obtain ⟨cells, hc⟩ := Kd.R_typed h i hi.symm
  rw [e, hk] at hc
  cases hc
def bodyB (c : Cmd) (l : List Nat) : List Int := c.op :: (l.map (putB c)).flatten
def bytesC (c : Cmd) : List Int := if mayC c = true then bodyB c (fldL c.op.toNat) else []
theorem putB_len {c : Cmd} (h : OkC c) (f : Nat) (h1 : 1 ≤ f) (h2 : f ≤ 16) : (putB c f).length ≤ 41 := by
  have a1 := h.name
  have a2 := h.text
  have hf : f = 1 ∨ f = 2 ∨ f = 3 ∨ f = 4 ∨ f = 5 ∨ f = 6 ∨ f = 7 ∨ f = 8 ∨ f = 9 ∨ f = 10 ∨ f = 11 ∨ f = 12 ∨ f = 13 ∨ f = 14 ∨ f = 15 ∨ f = 16 := by omega
  rcases hf with rfl | rfl | rfl | rfl | rfl | rfl | rfl | rfl | rfl | rfl | rfl | rfl | rfl | rfl | rfl | rfl <;> simp [putB, textB, partB, beB_length, bytesOf_length] <;> omega
theorem fld_len (n : Nat) : (fldL n).length ≤ 5 := by
  unfold fldL
  split <;> simp
theorem body_len {c : Cmd} (h : OkC c) : ∀ (l : List Nat), (∀ f ∈ l, 1 ≤ f ∧ f ≤ 16) → (bodyB c l).length ≤ 1 + 41 * l.length
  | [], _ => by simp [bodyB]
  | f :: l, hl => by
    have h1 := body_len h l (fun g hg => hl g (List.mem_cons_of_mem _ hg))
    have h2 := putB_len h f (hl f (by simp)).1 (hl f (by simp)).2
    unfold bodyB at h1 ⊢
    rw [List.map_cons, List.flatten_cons, List.length_cons, List.length_append] at *
    rw [List.length_cons] at *
    omega
theorem body_snoc (c : Cmd) (l : List Nat) (f : Nat) : bodyB c (l ++ [f]) = bodyB c l ++ putB c f := by
  unfold bodyB
  rw [List.map_append, List.flatten_append]
  simp

set_option maxHeartbeats 8000000 in
set_option maxRecDepth 100000 in
theorem Bytes_calls (c : Cmd) (w : World) (hu : U64C c) (m : List Int) (hm : bytesC c = m) : Calls Try.prog 9 #[.agg (cells c)] w (FreshB w m) := by
  have hA := blk_new w (.cells (cells c) 28)
  have hBA := below_alloc (Below.refl w.heap.size w) (.cells (cells c) 28)
  obtain ⟨r, hr⟩ : ∃ r, w.heap.size = r := ⟨_, rfl⟩
  obtain ⟨w1, hw1⟩ : ∃ w1, w.alloc (.cells (cells c) 28) = w1 := ⟨_, rfl⟩
  rw [hw1] at hA hBA
  rw [hr] at hA
  have HA := Aside0.mk (And.intro hA hBA)
  obtain ⟨ok, hok⟩ : ∃ ok, mayC c = ok := ⟨_, rfl⟩
  have HOK := Aside0.mk hok
  have HU := Aside0.mk hu
  have HM := Aside0.mk hm
  clear hA hBA hok hm hu
  go_enter Try.func9, Try.ntmps9
  go_wp2_with (first
    | (refine wpList_load_row rfl 28 (.tmp 1) rfl r rfl 28 (cells c) (0, 0) _ HA.out.1 Try.underlying28 rfl info28 ?_; (simp only [Act.put]))
    | fail)
  refine (May_calls c w1 ok HOK.out).mono ?_
  rintro e w2 ⟨rfl, hB⟩
  have HB2 := Aside0.mk (below_step HA.out.2 hB)
  have H2 := Aside0.mk (blk_below HA.out.1 hB)
  clear hB hw1 HA
  cases ok with
  | false =>
    have HMN : Aside0 (m = []) := ⟨by rw [← HM.out]; unfold bytesC; rw [HOK.out]; rfl⟩
    go_wp2_with fail
    go_ret
    exact ⟨none, 0, by rw [HMN.out]; rfl, by rw [HMN.out]; exact Kd.R_nil _ _ _ _ _, HB2.out⟩
  | true =>
    have hmay := HOK.out
    unfold mayC at hmay
    rw [Bool.and_eq_true, Bool.and_eq_true] at hmay
    have hop := hmay.1
    have HO := Aside0.mk (okC_of hmay.2.2 HU.out)
    have ho : 1 ≤ c.op ∧ c.op < 43 := by unfold isOpB at hop; simpa using hop
    obtain ⟨n, hn⟩ : ∃ n : Nat, c.op = n := Int.eq_ofNat_of_zero_le (show 0 ≤ c.op by omega)
    have x0 : w2.cell? ⟨r, 0, none⟩ = some (.int .i64 n) := by have := cell_of H2.out 0; rw [this]; show some (Value.int .i64 c.op) = _; rw [hn]
    have hn43 : n < 43 := by omega
    have HN := Aside0.mk (And.intro hn hn43)
    have HMB : Aside0 (bodyB c (fldL n) = m) := ⟨by rw [← HM.out]; unfold bytesC; rw [HOK.out, if_pos rfl, hn, Int.toNat_natCast]⟩
    have hn256 : (n : Int) % 256 = n := by omega
    clear hn ho hmay hop
    go_upto_region 4 with (first
      | ((with_reducible refine gate_dst (N := 12) rfl ?_); refine Kd.R_lit (Kd.int .u8) (w0 := w) w.heap.size 5 ?hg (N := 12) ?hd (xs := ([(n : Int)] : List Int)) (inner := [.int .u8 (n : Int)]) (ok := fun _ => True) (okp := fun _ => True) ?hr ?hp (fun _ hk => hk) trivial HB2.out HB2.out.size (by simp) ?_; (case hd => rfl); (case hg => rfl); (case hr => first | (go_simp; done) | (go_simp; rfl)); (case hp => exact (Reps.one (show Kd.M (Kd.int .u8) _ _ _ (n : Int) [.int .u8 (n : Int)] from rfl) (Reps.none _ _))); intro v12 w3 ho hb hg_ hnew_; obtain ⟨A12, c12, e12⟩ := Kd.R_slice ho; subst e12; have HO12 := Aside0.mk ho; have HB3 := Aside0.mk hb; have H3 := Aside0.mk (blk_grown H2.out hg_ (by simp)); have y0 : w3.cell? ⟨r, 0, none⟩ = some (.int .i64 n) := (by have := blk_cell H3.out 0; rw [this]; have h0 := blk_cell H2.out 0; rw [← h0]; exact x0); clear ho hb hg_ hnew_ x0)
      | fail)
    obtain ⟨l1, hl1⟩ : ∃ l1, ([(n : Int)] : List Int) = l1 := ⟨_, rfl⟩
    have HL1 : Aside0 (l1 = bodyB c ([] : List Nat)) := ⟨by rw [← hl1]; unfold bodyB; rw [HN.out.1]; rfl⟩
    have hlen1 : l1.length = 1 := by rw [← hl1]; rfl
    rw [hl1] at HO12
    go_cut [19] from 13 to 18 (fun v19 wx => ∃ k : Nat, v19 = .pointer (some ⟨k, 0, none⟩) ∧ Aside0 (wx.heap[k]? = some (.stringIter (fldS n) 0) ∧ w3.heap.size ≤ k ∧ Below w3.heap.size w3 wx))
    case first =>
      go_region_with (go_at_call 18; refine (forms_calls _).mono ?_; rintro e w' ⟨rfl, hb, hB⟩; have xf := (forms_at hb n hn43).2; (try simp only [heap_drew] at xf); have y1 := pw_cell_below hB y0; clear hb)
      all_goals
        have HB4 := Aside0.mk (below_step (below_drew (Below.refl w3.heap.size w3)) hB)
        clear xf y1 hB
        go_wp2_with fail
        go_meet
        exact ⟨_, rfl, ⟨World.iter_heap _ _ _, HB4.out.size, below_step HB4.out (below_alloc (Below.refl _ _) _)⟩⟩
    case rest =>
      obtain ⟨k, rfl, HK⟩ := hcut
      obtain ⟨L, hL⟩ : ∃ L, fldL n = L := ⟨_, rfl⟩
      have HL := Aside0.mk hL
      have HNE : Aside0 (k ≠ r ∧ w.heap.size ≤ k) := ⟨by
        have h2 := blk_lt H3.out
        have h3 := HK.out.2.1
        have h4 := HB3.out.size
        omega⟩
      have H4 := Aside0.mk (blk_below H3.out HK.out.2.2)
      have HO4 := Aside0.mk (Kd.R_below HO12.out HK.out.2.2)
      have HB4 := Aside0.mk (below_step HB3.out HK.out.2.2)
      have HKI := Aside0.mk HK.out.1
      clear hL y0 HK hl1 hn256
      go_wp2_with fail
      go_loopg [3] L.length (fun kq v3 w' => ∃ (j : Nat) (l : List Int) (A : Option Addr) (cc : Nat), v3 = .slice A l.length cc ∧ j + kq = L.length ∧ Aside0 (w'.heap[k]? = some (.stringIter (fldS n) j) ∧ l = bodyB c (L.take j) ∧ Kd.R (Kd.int .u8) 5 w' w.heap.size (fun _ => True) (.slice A l.length cc) l ∧ w'.heap[r]? = some (.cells (cells c) 28 (0, 0)) ∧ Below w.heap.size w w'))
      case atStart => exact ⟨0, l1, A12, c12, by rw [hlen1], by omega, ⟨HKI.out, by rw [HL1.out]; rfl, HO4.out, H4.out, HB4.out⟩⟩
      case round =>
        obtain ⟨j, l, A, cc, rfl, hj, HO5⟩ := hrel
        cases gk with
        | zero =>
          obtain rfl : j = L.length := by omega
          have hnx := next_fin hn43 HO5.out.1 (by rw [HL.out]; exact Nat.le_refl _)
          have HLM : Aside0 (l = m) := ⟨by rw [HO5.out.2.1, List.take_length, ← HL.out]; exact HMB.out⟩
          clear hj
          go_wp2_with fail
          go_ret
          refine ⟨A, cc, by rw [HLM.out]; rfl, ?_, HO5.out.2.2.2.2⟩
          have := HO5.out.2.2.1
          rw [HLM.out] at this
          exact this
        | succ gk =>
          have hjL : j < (fldL n).length := by rw [HL.out]; omega
          have hnx := next_fld hn43 HO5.out.1 hjL
          have hf := fld_ok n _ (List.getElem_mem hjL)
          obtain ⟨f, hfe⟩ : ∃ f, (fldL n)[j] = f := ⟨_, rfl⟩
          rw [hfe] at hnx hf
          have HAF : Aside0 (bodyB c (L.take (j + 1)) = l ++ putB c f) := ⟨by
            have e1 : L[j]'(by rw [← HL.out]; exact hjL) = f := by simp only [← HL.out]; exact hfe
            rw [List.take_succ_eq_append_getElem (by rw [← HL.out]; exact hjL), e1, body_snoc, ← HO5.out.2.1]⟩
          have HLN : Aside0 (l.length + 300 < 140737488355328) := ⟨by
            have h1 := body_len HO.out (L.take j) (fun g hg => fld_ok n g (by rw [HL.out]; exact List.mem_of_mem_take hg))
            have h2 := fld_len n
            rw [HL.out] at h2
            rw [← HO5.out.2.1, List.length_take] at h1
            omega⟩
          obtain ⟨w5, hw5⟩ : ∃ w5, wr.iterAt k (fldS n) (j + 1) = w5 := ⟨_, rfl⟩
          have HI5 : Aside0 (w5.heap[k]? = some (.stringIter (fldS n) (j + 1)) ∧ Kd.R (Kd.int .u8) 5 w5 w.heap.size (fun _ => True) (.slice A l.length cc) l ∧ w5.heap[r]? = some (.cells (cells c) 28 (0, 0)) ∧ Below w.heap.size w w5) := ⟨by
            rw [← hw5]
            exact ⟨iterAt_heap _ _ _ _ _ HO5.out.1, R_iter HO5.out.2.2.1 HO5.out.1, (iterAt_other _ _ _ _ _ HNE.out.1.symm).trans HO5.out.2.2.2.1, below_iterAt HO5.out.2.2.2.2 HNE.out.2 _ _⟩⟩
          rw [hw5] at hnx
          have HF := Aside0.mk hf
          have HJ := Aside0.mk hj
          obtain ⟨sg, hsg⟩ : ∃ sg, signOf f = sg := ⟨_, rfl⟩
          rw [hsg] at hnx
          have HSG := Aside0.mk hsg
          obtain ⟨l2, hl2⟩ : ∃ l2, l ++ putB c f = l2 := ⟨_, rfl⟩
          have HL2 := Aside0.mk hl2
          clear hf hfe hw5 hjL hj HO5 hsg hl2
          go_wp2_with fail
          have hcp := put_calls f HF.out.1 HF.out.2 A cc l r c w5 (Kd.R_reads' HI5.out.2.1).2.2 (Kd.R_reads' HI5.out.2.1).2.1 HLN.out HI5.out.2.2.1 HO.out
          rw [HSG.out, HL2.out] at hcp
          refine hcp.mono ?_
          clear hcp
          rintro e w6 ⟨A6, c6, rfl, hR6, hB6⟩
          have HO6 : Aside0 (w6.heap[k]? = some (.stringIter (fldS n) (j + 1)) ∧ Kd.R (Kd.int .u8) 5 w6 w.heap.size (fun _ => True) (.slice A6 l2.length c6) l2 ∧ w6.heap[r]? = some (.cells (cells c) 28 (0, 0)) ∧ Below w.heap.size w w6) := ⟨
            blk_below HI5.out.1 hB6, Kd.R_lower hR6 HI5.out.2.2.2.size, blk_below HI5.out.2.2.1 hB6, below_step HI5.out.2.2.2 hB6⟩
          clear hR6 hB6 hnx
          go_wp2_with fail
          go_roundg gk
          case measure => omega
          case rel => exact ⟨j + 1, l2, A6, c6, by rfl, by have := HJ.out; omega, ⟨HO6.out.1, by rw [HAF.out, HL2.out], HO6.out.2.1, HO6.out.2.2.1, HO6.out.2.2.2⟩⟩
end Go.Proofs.Ytfaicipochceeaa.Giv
