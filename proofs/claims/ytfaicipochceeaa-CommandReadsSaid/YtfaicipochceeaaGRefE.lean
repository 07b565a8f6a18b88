/- The reference: the command of bytes. -/
import Derived.Test.YtfaicipochceeaaGRefD
import Derived.Test.YtfaicipochceeaaGRef6
namespace Go.Proofs.Ytfaicipochceeaa.Giv
open Go.Lib Go.RowKit Go.Proofs.YtfaicipochceeaaW.PrintWords Go.Proofs.YtfaicipochceeaaW.PrintLast Go.Proofs.YtfaicipochceeaaW.PrintMore
set_option linter.unusedVariables false
set_option linter.unusedSimpArgs false
theorem ld36 {W : World} {p : Addr} {v : Int} (h : W.cell? p = some (.int .i64 v)) : (loadVar 36 p).run Try.prog W = .ok (.int .i64 v) W := by go_simp
theorem RS.blk2row {w0 W : World} {g q : Nat} {l : List Int} {f : Int} (h : RS w0 W g l f) (hne : q ≠ g) (cs : Array Value) : (W.setRow q cs).cell? ⟨g, 2, none⟩ = some (.int .i64 f) := by
  obtain ⟨_, _, A, b, c, p, hblk, _⟩ := h
  exact blk_cell ((setRow_other W q g cs (fun e => hne e.symm)).trans hblk) 2
/-- The walk of a Read: the scan in g, the results' block q, the command's block cb, the fields' row. -/
structure DS (w w1 W : World) (g q cb n : Nat) (L : List Nat) (A : Option Addr) (a : Cmd) (x : Sc) : Prop where
  rs : RS w1 W g x.1 x.2
  qk : W.heap[q]? = some (.cells (cells zCmd) 28 (0, 0))
  ck : W.heap[cb]? = some (.cells (cells a) 28 (0, 0))
  row : L = [] ∨ ∃ b, A = some ⟨b, 0, none⟩ ∧ b ≠ g ∧ b ≠ cb ∧ W.heap[b]? = some (.cells (fldA n) 3 (0, 0))
  ne : cb ≠ g ∧ q ≠ g ∧ q ≠ cb ∧ w1.heap.size ≤ cb
theorem DS.get {w w1 W W2 W3 : World} {g q cb n : Nat} {L : List Nat} {A : Option Addr} {a a2 : Cmd} {x y : Sc} (h : DS w w1 W g q cb n L A a x) (hb : Below W.heap.size W W2) (hr : RS w1 W3 g y.1 y.2) (hk : Keep1 W2 W3 g) : DS w w1 (W3.setRow cb (cells a2)) g q cb n L A a2 y :=
  ⟨hr.setRowFar h.ne.1 h.ne.2.2.2 _, (setRow_other W3 cb q _ h.ne.2.2.1).trans (blk_k1 (blk_below h.qk hb) hk h.ne.2.1), setRow_heap W3 cb (cells a) (cells a2) 28 (0, 0) (blk_k1 (blk_below h.ck hb) hk h.ne.1), by
    rcases h.row with e | ⟨b, e1, e2, e3, e4⟩
    · exact .inl e
    · exact .inr ⟨b, e1, e2, e3, (setRow_other W3 cb b _ e3).trans (blk_k1 (blk_below e4 hb) hk e2)⟩, h.ne⟩
theorem DS.st {w w1 W W1 : World} {g q cb n : Nat} {L : List Nat} {A : Option Addr} {a : Cmd} {x : Sc} (h : DS w w1 W g q cb n L A a x) (hb : Below W.heap.size W W1) : DS w w1 W1 g q cb n L A a x :=
  ⟨h.rs.belowS hb, blk_below h.qk hb, blk_below h.ck hb, by
    rcases h.row with e | ⟨b, e1, e2, e3, e4⟩
    · exact .inl e
    · exact .inr ⟨b, e1, e2, e3, blk_below e4 hb⟩, h.ne⟩
set_option maxHeartbeats 8000000 in
set_option maxRecDepth 100000 in
theorem RRead_calls (A0 : Option Addr) (c0 : Nat) (b : List Int) (w : World) (hC : Kd.C (Kd.int .u8) w A0 b.length b) (hc : b.length ≤ c0) (hb : bytesOk b) (c : Cmd) (er : Int) (hr : readC b = (c, er)) :
    Calls Try.prog 16 #[.slice A0 b.length c0] w (ReadP w c er) := by
  obtain ⟨⟨n, ⟨l1, f1⟩⟩, h1⟩ : ∃ y, scNum (b, 0) 1 = y := ⟨_, rfl⟩
  have o1 := scNum_ok (x := (b, 0)) hb h1
  have lt1 := scNum_lt1 (x := (b, 0)) hb h1
  have HR : Aside0 ((if ruleF (isOpB n) f1 17 = 0 then finC (foldG (bareC n, (l1, 0)) (fldL n)) else (zCmd, ruleF (isOpB n) f1 17)) = (c, er)) := ⟨by
    rw [← hr]; unfold readC; simp only [h1]⟩
  have H := Aside0.mk (And.intro hC (And.intro hc hb))
  have H1 := Aside0.mk (And.intro h1 o1)
  have HN255 : Aside0 (n < 256) := ⟨lt1⟩
  -- the results' block and the scan
  have hz := blk_new w (.cells (cells zCmd) 28)
  have hBz := below_alloc (Below.refl w.heap.size w) (.cells (cells zCmd) 28)
  obtain ⟨q, hq⟩ : ∃ q, w.heap.size = q := ⟨_, rfl⟩
  obtain ⟨w1, hw1⟩ : ∃ w1, w.alloc (.cells (cells zCmd) 28) = w1 := ⟨_, rfl⟩
  rw [hw1] at hz hBz
  rw [hq] at hz
  have hw1' : w.alloc (.cells #[.int .i64 0, .string ⟨#[]⟩, .string ⟨#[]⟩, .int .i64 0, .int .i64 0, .int .i64 0, .int .i64 0, .int .i64 0, .int .i64 0, .int .i64 0, .int .u64 0, .int .i64 0, .int .u64 0, .int .i64 0, .int .i64 0, .int .u64 0, .int .i64 0, .int .i64 0, .int .i64 0, .int .i64 0, .int .u64 0, .int .u64 0] 28) = w1 := hw1
  have hs := blk_new w1 (rblk A0 b.length c0 0 0)
  have hBs := below_alloc (Below.refl w1.heap.size w1) (rblk A0 b.length c0 0 0)
  obtain ⟨g, hg⟩ : ∃ g, w1.heap.size = g := ⟨_, rfl⟩
  obtain ⟨w2, hw2⟩ : ∃ w2, w1.alloc (rblk A0 b.length c0 0 0) = w2 := ⟨_, rfl⟩
  rw [hw2] at hs hBs
  rw [hg] at hs
  have hw2' : w1.alloc (.cells #[.slice A0 b.length c0, .int .i64 0, .int .i64 0] 66) = w2 := hw2
  have HZ := Aside0.mk (And.intro hz (And.intro hBz hq))
  have S2 : Aside0 (RS w1 w2 g b 0 ∧ w2.heap[q]? = some (.cells (cells zCmd) 28 (0, 0)) ∧ q ≠ g) := ⟨⟨hBs, Nat.le_of_eq hg, A0, b, c0, 0, hs, Kd.C_below hC hBz, hc, Nat.zero_le _, rfl⟩, blk_below hz hBs, by have := blk_lt hz; omega⟩
  clear hC hc hb h1 o1 lt1 hr hz hBz hs hBs hw1 hw2
  go_enter Try.func16, Try.ntmps16
  go_wp2_with fail
  refine (ROne_at (x := (b, 0)) H.out.2.2 S2.out.1 n (l1, f1) H1.out.1).mono ?_
  rintro e w3 ⟨rfl, hS3, hK3⟩
  have S3 := Aside0.mk (And.intro hS3 (blk_k1 S2.out.2.1 hK3 S2.out.2.2))
  clear hS3 hK3
  obtain ⟨cb, hcb⟩ : ∃ cb, w3.heap.size = cb := ⟨_, rfl⟩
  have HCB := Aside0.mk hcb
  go_upto_region 3 with (first
    | (refine wpList_store_row rfl 28 (.tmp 5) (.tmp 13) rfl cb (cells (bareC n)) rfl rfl 28 (cells zCmd) ?hg info28 rfl (cells_one _) ?_; (case hg => rw [← HCB.out]; exact blk_new _ _); (simp only [Act.put]))
    | fail)
  have hrow : ∀ z : Array Value, (w3.alloc (.cells z 28)).setRow cb (cells (bareC n)) = w3.alloc (.cells (cells (bareC n)) 28) := fun z => by rw [← HCB.out]; exact World.setRow_alloc_new _ _ _ _
  rw [hrow]
  have hb4 := blk_new w3 (.cells (cells (bareC n)) 28)
  have hB4 := below_alloc (Below.refl w3.heap.size w3) (.cells (cells (bareC n)) 28)
  obtain ⟨w4, hw4⟩ : ∃ w4, w3.alloc (.cells (cells (bareC n)) 28) = w4 := ⟨_, rfl⟩
  rw [hw4, HCB.out] at hb4
  rw [hw4] at hB4 ⊢
  have S4 : Aside0 (DS w w1 w4 g q cb n [] none (bareC n) (l1, f1)) := ⟨⟨S3.out.1.belowS hB4, blk_below S3.out.2 hB4, hb4, .inl rfl, by
    have h1 := S3.out.1.lt
    have h2 := blk_lt S3.out.2
    have h3 := HCB.out
    have h4 := S3.out.1.lo
    have h5 := S2.out.2.2
    omega⟩⟩
  have x0 : w4.cell? ⟨cb, 0, none⟩ = some (.int .i64 n) := cell_of hb4 0
  have xe := S4.out.rs.blk2.1
  clear hrow hb4 hB4 hw4 hcb S3 hw1' hw2' hq hg
  by_cases hf0 : f1 = 0
  · subst hf0
    have bad : (isOpB n = false) → Aside0 (c = zCmd ∧ er = 17) := fun h => ⟨by
      have h1 := HR.out
      rw [h] at h1
      have h2 : ruleF false 0 17 = 17 := rfl
      rw [h2, if_neg (by decide)] at h1
      injection h1 with h1 h2
      exact ⟨h1.symm, h2.symm⟩⟩
    have BAD := Aside0.mk bad
    clear bad
    by_cases hn1 : (n : Int) < 1
    · have HE := BAD.out (by unfold isOpB; rw [decide_eq_false (by omega)]; rfl)
      have hn1d : decide ((n : Int) < 1) = true := decide_eq_true hn1
      clear hn1
      go_wp2_with (first
        | (refine wpList_store_row rfl 28 (.tmp 2) (.tmp 32) rfl q (cells zCmd) rfl rfl 28 (cells zCmd) S4.out.qk info28 rfl (cells_one _) ?_; (simp only [Act.put]))
        | fail)
      have hfin := setRow_heap w4 q (cells zCmd) (cells zCmd) 28 (0, 0) S4.out.qk
      refine bodyPost_ret (results_ct rfl _ _ q 28 (cells zCmd) (0, 0) _ rfl hfin Try.underlying28 rfl info28) rfl ?_
      exact ReadP_of HE.out (below_step HZ.out.2.1 S4.out.rs.below) HZ.out.2.2 rfl
    · have hn1' : decide ((n : Int) < 1) = false := decide_eq_false hn1
      by_cases hn42 : 42 < (n : Int)
      · have HE := BAD.out (by unfold isOpB; rw [decide_eq_false (show ¬ (n : Int) < 43 by omega), Bool.and_false])
        clear hn1
        go_wp2_with (first
          | (refine wpList_store_row rfl 28 (.tmp 2) (.tmp 32) rfl q (cells zCmd) rfl rfl 28 (cells zCmd) S4.out.qk info28 rfl (cells_one _) ?_; (simp only [Act.put]))
          | fail)
        have hfin := setRow_heap w4 q (cells zCmd) (cells zCmd) 28 (0, 0) S4.out.qk
        refine bodyPost_ret (results_ct rfl _ _ q 28 (cells zCmd) (0, 0) _ rfl hfin Try.underlying28 rfl info28) rfl ?_
        exact ReadP_of HE.out (below_step HZ.out.2.1 S4.out.rs.below) HZ.out.2.2 rfl
      · have hn42' : decide (42 < (n : Int)) = false := decide_eq_false hn42
        have HN : Aside0 (n < 43) := ⟨by omega⟩
        have HFIN : Aside0 (finC (foldG (bareC n, (l1, 0)) (fldL n)) = (c, er)) := ⟨by
          have h1 := HR.out
          have h2 : ruleF (isOpB n) 0 17 = 0 := by unfold ruleF isOpB; rw [decide_eq_true (by omega), decide_eq_true (by omega)]; rfl
          rw [h2, if_pos rfl] at h1
          exact h1⟩
        clear hn1 hn42 BAD
        go_wp2_with fail
        refine (RFields_calls n HN.out w4).mono ?_
        rintro e w5 ⟨A, rfl, hrow, hB⟩
        obtain ⟨L, hL⟩ : ∃ L, fldL n = L := ⟨_, rfl⟩
        rw [hL] at hrow ⊢
        have HL := Aside0.mk hL
        have HLL : Aside0 (L.length ≤ 5) := ⟨by rw [← hL]; unfold fldL; split <;> simp⟩
        have hLL : (L.length : Int) ≤ 5 := by have := HLL.out; omega
        have S5 : Aside0 (DS w w1 w5 g q cb n L A (bareC n) (l1, 0)) := ⟨by
          have h0 := S4.out.st hB
          refine ⟨h0.rs, h0.qk, h0.ck, ?_, h0.ne⟩
          rcases hrow with e | ⟨bb, e1, e2, e3⟩
          · exact .inl e
          · have h3 := S4.out.rs.lt
            have h4 := blk_lt S4.out.ck
            exact .inr ⟨bb, e1, by omega, by omega, e3⟩⟩
        clear hL hrow hB x0 xe hn1' hn42'
        go_wp2_with fail
        go_loopg [7] L.length (fun kq v7 w' => ∃ (j : Nat) (a : Cmd) (x : Sc), v7 = .int .i64 j ∧ j + kq = L.length ∧ Aside0 (foldG (bareC n, (l1, 0)) (L.take j) = (a, x) ∧ bytesOk x.1 ∧ DS w w1 w' g q cb n L A a x))
        case atStart => exact ⟨0, bareC n, (l1, 0), rfl, by omega, ⟨rfl, H1.out.2, S5.out⟩⟩
        case round =>
          obtain ⟨j, a, x, rfl, hj, HO⟩ := hrel
          cases gk with
          | zero =>
            obtain rfl : j = L.length := by omega
            have HFA : Aside0 (finC (a, x) = (c, er)) := ⟨by
              have h1 := HO.out.1
              rw [List.take_length, ← HL.out] at h1
              rw [← h1]
              exact HFIN.out⟩
            have D0 := Aside0.mk HO.out.2.2
            obtain ⟨e0, he0⟩ : ∃ e0, endI x.2 x.1.length = e0 := ⟨_, rfl⟩
            have HE0 := Aside0.mk he0
            clear hj he0
            go_wp2_with fail
            refine (REnd_at D0.out.rs).mono ?_
            rintro e w6 ⟨rfl, hB⟩
            rw [HE0.out]
            have D1 := Aside0.mk (D0.out.st hB)
            clear hB
            by_cases hz : e0 = 0
            · subst hz
              obtain ⟨my, hmy⟩ : ∃ my, mayC a = my := ⟨_, rfl⟩
              have HMY := Aside0.mk hmy
              have HFM : Aside0 ((if my = true then (a, 0) else (zCmd, 2)) = (c, er)) := ⟨by
                have h1 := HFA.out
                unfold finC at h1
                simp only at h1
                rw [if_pos HE0.out, HMY.out] at h1
                exact h1⟩
              clear hmy
              go_wp2_with (first
                | (refine wpList_load_row rfl 28 (.tmp 5) rfl cb rfl 28 (cells a) (0, 0) _ D1.out.ck Try.underlying28 rfl info28 ?_; (simp only [Act.put]))
                | fail)
              refine (RMay_calls a w6 my HMY.out).mono ?_
              rintro e w7 ⟨rfl, hB7⟩
              have D2 := Aside0.mk (D1.out.st hB7)
              clear hB7
              cases my with
              | true =>
                have HE : Aside0 (c = a ∧ er = 0) := ⟨by have := HFM.out; rw [if_pos rfl] at this; injection this with h1 h2; exact ⟨h1.symm, h2.symm⟩⟩
                go_wp2_with (first
                  | (refine wpList_load_row rfl 28 (.tmp 5) rfl cb rfl 28 (cells a) (0, 0) _ D2.out.ck Try.underlying28 rfl info28 ?_; (simp only [Act.put]))
                  | (refine wpList_store_row rfl 28 (.tmp 2) (.tmp 59) rfl q (cells a) rfl rfl 28 (cells zCmd) D2.out.qk info28 rfl (cells_one _) ?_; (simp only [Act.put]))
                  | fail)
                have hfin := setRow_heap w7 q (cells zCmd) (cells a) 28 (0, 0) D2.out.qk
                refine bodyPost_ret (results_ct rfl _ _ q 28 (cells a) (0, 0) _ rfl hfin Try.underlying28 rfl info28) rfl ?_
                exact ReadP_of HE.out (below_step HZ.out.2.1 D2.out.rs.below) HZ.out.2.2 rfl
              | false =>
                have HE : Aside0 (c = zCmd ∧ er = 2) := ⟨by have := HFM.out; rw [if_neg (by simp)] at this; injection this with h1 h2; exact ⟨h1.symm, h2.symm⟩⟩
                go_wp2_with (first
                  | (refine wpList_store_row rfl 28 (.tmp 2) (.tmp 58) rfl q (cells zCmd) rfl rfl 28 (cells zCmd) D2.out.qk info28 rfl (cells_one _) ?_; (simp only [Act.put]))
                  | fail)
                have hfin := setRow_heap w7 q (cells zCmd) (cells zCmd) 28 (0, 0) D2.out.qk
                refine bodyPost_ret (results_ct rfl _ _ q 28 (cells zCmd) (0, 0) _ rfl hfin Try.underlying28 rfl info28) rfl ?_
                exact ReadP_of HE.out (below_step HZ.out.2.1 D2.out.rs.below) HZ.out.2.2 rfl
            · have hz1 : (e0 == 0) = false := by simpa using hz
              have HE : Aside0 (c = zCmd ∧ er = e0) := ⟨by
                have h1 := HFA.out
                unfold finC at h1
                simp only at h1
                rw [HE0.out, if_neg hz] at h1
                injection h1 with h1 h2
                exact ⟨h1.symm, h2.symm⟩⟩
              clear hz
              go_wp2_with fail
              refine (REnd_at D1.out.rs).mono ?_
              rintro e w7 ⟨rfl, hB⟩
              rw [HE0.out]
              have D2 := Aside0.mk (D1.out.st hB)
              clear hB
              go_wp2_with (first
                | (refine wpList_store_row rfl 28 (.tmp 2) (.tmp 52) rfl q (cells zCmd) rfl rfl 28 (cells zCmd) D2.out.qk info28 rfl (cells_one _) ?_; (simp only [Act.put]))
                | fail)
              have hfin := setRow_heap w7 q (cells zCmd) (cells zCmd) 28 (0, 0) D2.out.qk
              refine bodyPost_ret (results_ct rfl _ _ q 28 (cells zCmd) (0, 0) _ rfl hfin Try.underlying28 rfl info28) rfl ?_
              exact ReadP_of HE.out (below_step HZ.out.2.1 D2.out.rs.below) HZ.out.2.2 rfl
          | succ gk =>
            have hjL : j < (fldL n).length := by rw [HL.out]; omega
            have hlt : (j : Int) < L.length := by omega
            have hf := fld_ok n _ (List.getElem_mem hjL)
            obtain ⟨f, hfe⟩ : ∃ f, (fldL n)[j] = f := ⟨_, rfl⟩
            rw [hfe] at hf
            obtain ⟨bb, rfl, hbg, hbc, hblk⟩ : ∃ bb, A = some ⟨bb, 0, none⟩ ∧ bb ≠ g ∧ bb ≠ cb ∧ wr.heap[bb]? = some (.cells (fldA n) 3 (0, 0)) := by
              rcases HO.out.2.2.row with h | h
              · rw [h] at hj; simp at hj
              · exact h
            have hcell := fldA_at hblk j hjL
            rw [hfe] at hcell
            obtain ⟨⟨a2, x2⟩, hg2⟩ : ∃ s, getC a x f = s := ⟨_, rfl⟩
            have HAF : Aside0 (foldG (bareC n, (l1, 0)) (L.take (j + 1)) = (a2, x2)) := ⟨by
              have e1 : L[j]'(by rw [← HL.out]; exact hjL) = f := by simp only [← HL.out]; exact hfe
              rw [List.take_succ_eq_append_getElem (by rw [← HL.out]; exact hjL), e1, foldG_snoc, HO.out.1]
              exact hg2⟩
            have HOK2 : Aside0 (bytesOk x2.1) := ⟨by have := getC_ok a x HO.out.2.1 f hf.1 hf.2; rw [hg2] at this; exact this⟩
            have HF := Aside0.mk hf
            have HJ := Aside0.mk hj
            have HG2 := Aside0.mk hg2
            have D0 := Aside0.mk (And.intro HO.out.2.1 HO.out.2.2)
            clear hf hfe hjL hj HO hbg hbc hblk hg2
            go_wp2_with fail
            have hb0 := Below.refl wr.heap.size wr
            have hb1 := below_drew1 hb0
            refine start_ (n := 8) (S := fun w' => w'.heap[cb]? = some (.cells (cells a) 28 (0, 0)) ∧ w'.cell? ⟨bb, j, none⟩ = some (.int .i64 f)) (ds := [6, 7]) #[false, false, false, false, false, false, false, false] (by kernel_rfl) rfl rfl ⟨blk_below D0.out.2.ck hb1, pw_cell_below hb1 hcell⟩ (fun hHeld => ?_)
            refine pure_ (i := 0) (N := some 42) (v := ?_) (a' := ?_) #[true, false, false, false, false, false, false, false] rfl rfl (by kernel_rfl) (fun _ _ _ h => h) (Or.inl ⟨by rfl, ?_⟩) ?_ ?_
            rotate_left
            · intro w'
              go_simp
              with_reducible rfl
            rotate_left
            · simp only [Act.put, List.setIfInBounds_toArray, List.set_cons_zero, List.set_cons_succ, i64_w, i32_w]
              rfl
            refine pure_ (i := 2) (N := some 44) (v := ?_) (a' := ?_) #[true, false, true, false, false, false, false, false] rfl rfl (by kernel_rfl) (fun _ _ _ h => h) (Or.inl ⟨by rfl, ?_⟩) ?_ ?_
            rotate_left
            · intro w'
              go_simp
              with_reducible rfl
            rotate_left
            · simp only [Act.put, List.setIfInBounds_toArray, List.set_cons_zero, List.set_cons_succ, i64_w, i32_w]
              rfl
            refine pure_ (i := 3) (N := some 45) (v := ?_) (a' := ?_) #[true, false, true, true, false, false, false, false] rfl rfl (by kernel_rfl) (fun _ _ _ h => h) (Or.inl ⟨by rfl, ?_⟩) ?_ ?_
            rotate_left
            · intro w'
              go_simp
              with_reducible rfl
            rotate_left
            · simp only [Act.put, List.setIfInBounds_toArray, List.set_cons_zero, List.set_cons_succ, i64_w, i32_w]
              rfl
            refine pure_ (i := 4) (N := some 46) (v := ?_) (a' := ?_) #[true, false, true, true, true, false, false, false] rfl rfl (by kernel_rfl) (fun _ _ _ h => h) (Or.inl ⟨by rfl, ?_⟩) ?_ ?_
            rotate_left
            · intro w'
              go_simp
              with_reducible rfl
            rotate_left
            · simp only [Act.put, List.setIfInBounds_toArray, List.set_cons_zero, List.set_cons_succ, i64_w, i32_w]
              rfl
            refine take_ (i := 1) (N := some 43) (v := ?_) (a' := ?_) #[true, true, true, true, true, false, false, false] rfl rfl (by kernel_rfl) (fun _ _ _ h => h) (Or.inl ⟨by rfl, ?_⟩) hHeld ?_ ?_
            rotate_left
            · rintro w' ⟨s0, s1⟩
              refine (load28 (.tmp 5) cb a s0 (by rfl) (by rfl)).trans ?_
              with_reducible rfl
            rotate_left
            · simp only [Act.put, List.setIfInBounds_toArray, List.set_cons_zero, List.set_cons_succ, i64_w, i32_w]
              rfl
            refine take_ (i := 5) (N := some 47) (v := ?_) (a' := ?_) #[true, true, true, true, true, true, false, false] rfl rfl (by kernel_rfl) (fun _ _ _ h => h) (Or.inl ⟨by rfl, ?_⟩) hHeld ?_ ?_
            rotate_left
            · rintro w' ⟨s0, s1⟩
              go_simp
              with_reducible rfl
            rotate_left
            · simp only [Act.put, List.setIfInBounds_toArray, List.set_cons_zero, List.set_cons_succ, i64_w, i32_w]
              rfl
            refine last_ (i := 6) (N := some 48) #[true, true, true, true, true, true, true, false] rfl rfl (by kernel_rfl) (by decide) (fun K hK => ?_)
            refine goes_ Try.func36 (by kernel_rfl) rfl #[.pointer (some ⟨g, 0, none⟩), .agg (cells a), .int .i64 f] (by rfl) rfl rfl (by simp only [List.map_toArray, List.map_cons, List.map_nil]; rfl) ?_
            with_reducible refine (rget_calls f HF.out.1 HF.out.2 w1 _ g a x D0.out.1 (D0.out.2.rs.belowS hb1) a2 x2 HG2.out).mono ?_
            rintro e w6 ⟨rfl, hS6, hK6⟩
            refine ⟨_, rfl, ?_⟩
            refine hK.out _ _ ?_
            clear hK K
            refine norm_ (a' := ?_) ?_ ?_
            rotate_left
            · show Act.put _ (some 48) _ = _
              simp only [Act.put, List.setIfInBounds_toArray, List.set_cons_zero, List.set_cons_succ, i64_w, i32_w]
              rfl
            refine last_ (i := 7) (N := none) #[true, true, true, true, true, true, true, true] rfl rfl (by kernel_rfl) (by decide) (fun K hK => ?_)
            refine skip_ (w1 := _) (by rfl) rfl (store28 (.tmp 5) (.tmp 48) cb a a2 (blk_k1 (blk_below D0.out.2.ck hb1) hK6 D0.out.2.ne.1) (by rfl) (by rfl) (by rfl)) ?_
            refine hK.out _ _ ?_
            clear hK K
            refine done_ (by kernel_rfl) ?_
            have D6 := Aside0.mk (D0.out.2.get hb1 hS6 hK6 (a2 := a2))
            obtain ⟨w7, hw7⟩ : ∃ w7, w6.setRow cb (cells a2) = w7 := ⟨_, rfl⟩
            rw [hw7] at D6 ⊢
            clear hw7 hb0 hb1 hS6 hK6 hcell
            go_wp2_with fail
            go_roundg gk
            case measure => omega
            case rel => exact ⟨j + 1, a2, x2, rfl, by have := HJ.out; omega, ⟨HAF.out, HOK2.out, D6.out⟩⟩
  · have hf2 : (f1 == 0) = false := by simpa using hf0
    have HE : Aside0 (c = zCmd ∧ er = f1) := ⟨by
      have h1 := HR.out
      have h2 : ruleF (isOpB n) f1 17 = f1 := by unfold ruleF; rw [if_neg hf0]; split <;> rfl
      rw [h2, if_neg hf0] at h1
      injection h1 with h1 h2
      exact ⟨h1.symm, h2.symm⟩⟩
    have hb0 := Below.refl w4.heap.size w4
    have hb1 := below_drew1 hb0
    have HB1 := Aside0.mk hb1
    clear hf0 x0
    go_wp2_with fail
    refine start_ (n := 7) (S := fun w' => w'.cell? ⟨g, 2, none⟩ = some (.int .i64 f1)) (ds := []) #[false, false, false, false, false, false, false] (by kernel_rfl) rfl rfl ((S4.out.rs.belowS hb1).blk2.1) (fun hHeld => ?_)
    refine pure_ (i := 0) (N := some 19) (v := ?_) (a' := ?_) #[true, false, false, false, false, false, false] rfl rfl (by kernel_rfl) (fun _ _ _ h => h) (Or.inl ⟨by rfl, ?_⟩) ?_ ?_
    rotate_left
    · intro w'
      go_simp
      with_reducible rfl
    rotate_left
    · simp only [Act.put, List.setIfInBounds_toArray, List.set_cons_zero, List.set_cons_succ, i64_w, i32_w]
      rfl
    refine pure_ (i := 1) (N := some 20) (v := ?_) (a' := ?_) #[true, true, false, false, false, false, false] rfl rfl (by kernel_rfl) (fun _ _ _ h => h) (Or.inl ⟨by rfl, ?_⟩) ?_ ?_
    rotate_left
    · intro w'
      go_simp
      with_reducible rfl
    rotate_left
    · simp only [Act.put, List.setIfInBounds_toArray, List.set_cons_zero, List.set_cons_succ, i64_w, i32_w]
      rfl
    refine pure_ (i := 2) (N := some 21) (v := ?_) (a' := ?_) #[true, true, true, false, false, false, false] rfl rfl (by kernel_rfl) (fun _ _ _ h => h) (Or.inl ⟨by rfl, ?_⟩) ?_ ?_
    rotate_left
    · intro w'
      go_simp
      with_reducible rfl
    rotate_left
    · simp only [Act.put, List.setIfInBounds_toArray, List.set_cons_zero, List.set_cons_succ, i64_w, i32_w]
      rfl
    refine pure_ (i := 3) (N := some 22) (v := ?_) (a' := ?_) #[true, true, true, true, false, false, false] rfl rfl (by kernel_rfl) (fun _ _ _ h => h) (Or.inl ⟨by rfl, ?_⟩) ?_ ?_
    rotate_left
    · intro w'
      go_simp
      with_reducible rfl
    rotate_left
    · simp only [Act.put, List.setIfInBounds_toArray, List.set_cons_zero, List.set_cons_succ, i64_w, i32_w]
      rfl
    refine take_ (i := 4) (N := some 23) (v := ?_) (a' := ?_) #[true, true, true, true, true, false, false] rfl rfl (by kernel_rfl) (fun _ _ _ h => h) (Or.inl ⟨by rfl, ?_⟩) hHeld ?_ ?_
    rotate_left
    · intro w' s0
      go_simp
      with_reducible rfl
    rotate_left
    · simp only [Act.put, List.setIfInBounds_toArray, List.set_cons_zero, List.set_cons_succ, i64_w, i32_w]
      rfl
    refine one_ (i := 5) (N := none) #[true, true, true, true, true, true, false] rfl rfl (by kernel_rfl) (by decide) (fun K hK => ?_)
    refine skip_ (w1 := _) (by rfl) rfl (store28 (.tmp 2) (.tmp 19) q zCmd zCmd (blk_below S4.out.qk hb1) (by rfl) (by rfl) (by rfl)) ?_
    refine hK.out _ _ ((S4.out.rs.belowS hb1).blk2row S4.out.ne.2.1 (cells zCmd)) (fun hHeld => ?_)
    clear hK K
    refine pure_ (i := 6) (N := some 3) (v := ?_) (a' := ?_) #[true, true, true, true, true, true, true] rfl rfl (by kernel_rfl) (fun _ _ _ h => h) (Or.inl ⟨by rfl, ?_⟩) ?_ ?_
    rotate_left
    · intro w'
      go_simp
      with_reducible rfl
    rotate_left
    · simp only [Act.put, List.setIfInBounds_toArray, List.set_cons_zero, List.set_cons_succ, i64_w, i32_w]
      rfl
    refine done_ (by kernel_rfl) ?_
    go_wp2_with fail
    have hfin := setRow_heap w4.drew q (cells zCmd) (cells zCmd) 28 (0, 0) (blk_below S4.out.qk HB1.out)
    refine bodyPost_ret (results_ct rfl _ _ q 28 (cells zCmd) (0, 0) _ rfl hfin Try.underlying28 rfl info28) rfl ?_
    exact ReadP_of HE.out (below_step HZ.out.2.1 (below_step S4.out.rs.below HB1.out)) HZ.out.2.2 rfl
end Go.Proofs.Ytfaicipochceeaa.Giv
