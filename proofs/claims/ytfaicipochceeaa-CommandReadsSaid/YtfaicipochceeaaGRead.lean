/- The command of bytes. -/
import Derived.Test.YtfaicipochceeaaGGet
import Derived.Laws.CopyOwn
namespace Go.Proofs.Ytfaicipochceeaa.Giv
open Go.Lib Go.RowKit Go.Proofs.YtfaicipochceeaaW.PrintWords Go.Proofs.YtfaicipochceeaaW.PrintLast Go.Proofs.YtfaicipochceeaaW.PrintMore
set_option linter.unusedVariables false
set_option linter.unusedSimpArgs false
/-- A whole row loaded by an operation that is guarded, where the guard says yes. -/
theorem wpList_load_rowG {P : Program} {ops : Array Oper} {rest : List Oper} {o : Oper} {a : Act} {w : World} {Q : Exit → Act → World → Prop} (hw : Region.wanted o (yielded ops a.tmps) = true) (ty : TypeId) (x : Operand) (ho : o.op = .load ty x)
    (g : Nat) (hx : a.eval x = .pointer (some ⟨g, 0, none⟩)) (t : TypeId) (cs : Array Value) (fr : Nat × Nat) (d : TypeDesc) (hg : w.heap[g]? = some (.cells cs t fr))
    (hu : P.underlying ty = some d) (hd : (match d with | .struct _ | .array _ _ => true | _ => false) = true) (hi : (P.info? ty).map (·.size) = some cs.size)
    (h : wpList P ops Q rest (a.put o.dst (.agg cs)) w) : wpList P ops Q (o :: rest) a w :=
  BigFrame.wpList_want hw fun _ hK => wp_load_row ty x ho g hx t cs fr d hg hu hd hi (hK _ _ h)
def foldG (s : Cmd × Sc) (l : List Nat) : Cmd × Sc := l.foldl (fun s f => getC s.1 s.2 f) s
def finC (s : Cmd × Sc) : Cmd × Int :=
  if endI s.2.2 s.2.1.length = 0 then (if mayC s.1 = true then (s.1, 0) else (zCmd, 2)) else (zCmd, endI s.2.2 s.2.1.length)
def readC (b : List Int) : Cmd × Int :=
  let y := scNum (b, 0) 1
  let f := ruleF (isOpB y.1) y.2.2 17
  if f = 0 then finC (foldG (bareC y.1, (y.2.1, 0)) (fldL y.1)) else (zCmd, f)
theorem getC_ok (a : Cmd) (x : Sc) (hx : bytesOk x.1) (f : Nat) (h1 : 1 ≤ f) (h2 : f ≤ 16) : bytesOk (getC a x f).2.1 := by
  have hs : ∀ (y : Sc) k, bytesOk y.1 → bytesOk (scNum y k).2.1 := fun y k h => restL_ok h
  have ht : ∀ (y : Sc) k, bytesOk y.1 → bytesOk (scText y k).2.1 := fun y k h => restL_ok (restL_ok h)
  have hf : f = 1 ∨ f = 2 ∨ f = 3 ∨ f = 4 ∨ f = 5 ∨ f = 6 ∨ f = 7 ∨ f = 8 ∨ f = 9 ∨ f = 10 ∨ f = 11 ∨ f = 12 ∨ f = 13 ∨ f = 14 ∨ f = 15 ∨ f = 16 := by omega
  rcases hf with rfl | rfl | rfl | rfl | rfl | rfl | rfl | rfl | rfl | rfl | rfl | rfl | rfl | rfl | rfl | rfl
  all_goals first | exact ht _ _ hx | exact hs _ _ hx | exact hs _ _ (hs _ _ hx) | exact hs _ _ (hs _ _ (hs _ _ hx))
theorem foldG_snoc (s : Cmd × Sc) (l : List Nat) (f : Nat) : foldG s (l ++ [f]) = getC (foldG s l).1 (foldG s l).2 f := by
  unfold foldG
  rw [List.foldl_append]
  rfl
theorem St.iter {w0 W : World} {g k j j' : Nat} {s : ByteArray} {l : List Int} {f : Int} (h : St w0 W g l f) (hk : W.heap[k]? = some (.stringIter s j)) (hlo : w0.heap.size ≤ k) : St w0 (W.iterAt k s j') g l f := by
  obtain ⟨hb, hl, A, c, hblk, hC, hc⟩ := h
  refine ⟨below_iterAt hb hlo _ _, hl, A, c, (iterAt_other _ _ _ _ _ (fun e => ?_)).trans hblk, hC, hc⟩
  rw [e, hk] at hblk
  cases hblk
theorem St.belowS {w0 W W1 : World} {g : Nat} {l : List Int} {f : Int} (h : St w0 W g l f) (hb : Below W.heap.size W W1) : St w0 W1 g l f := by
  obtain ⟨hb0, hl, A, c, hblk, hC, hc⟩ := h
  exact ⟨below_step hb0 hb, hl, A, c, blk_below hblk hb, hC, hc⟩
def ReadP (w : World) (c : Cmd) (er : Int) (e : Ending) (w' : World) : Prop := e = .returned (.tuple #[.agg (cells c), .int .i64 er]) ∧ Below w.heap.size w w'
theorem ReadP_of {w W : World} {q : Nat} {c d : Cmd} {er er2 : Int} {e : Ending} (h : c = d ∧ er = er2) (hB : Below w.heap.size w W) (hlo : w.heap.size = q) (he : e = .returned (.tuple #[.agg (cells d), .int .i64 er2])) : ReadP w c er e (W.setRow q (cells d)) := by
  obtain ⟨rfl, rfl⟩ := h
  exact ⟨he, below_setRow hB (Nat.le_of_eq hlo) _⟩

set_option maxHeartbeats 8000000 in
set_option maxRecDepth 100000 in
theorem Read_calls (A0 : Option Addr) (c0 : Nat) (b : List Int) (w : World) (hC : Kd.C (Kd.int .u8) w A0 b.length b) (hc : b.length ≤ c0) (hb : bytesOk b) (c : Cmd) (er : Int) (hr : readC b = (c, er)) :
    Calls Try.prog 15 #[.slice A0 b.length c0] w (ReadP w c er) := by
  obtain ⟨⟨n, x1⟩, h1⟩ : ∃ y, scNum (b, 0) 1 = y := ⟨_, rfl⟩
  have o1 := scNum_ok (x := (b, 0)) hb h1
  have lt1 := scNum_lt1 (x := (b, 0)) hb h1
  obtain ⟨ok, hok⟩ : ∃ ok, isOpB n = ok := ⟨_, rfl⟩
  obtain ⟨f, hf⟩ : ∃ f, ruleF ok x1.2 17 = f := ⟨_, rfl⟩
  have HR : Aside0 ((if f = 0 then finC (foldG (bareC n, (x1.1, 0)) (fldL n)) else (zCmd, f)) = (c, er)) := ⟨by
    rw [← hr]; unfold readC; simp only [h1, hok, hf]⟩
  have H := Aside0.mk (And.intro hC (And.intro hc hb))
  have H1 := Aside0.mk (And.intro h1 (And.intro o1 (And.intro hok hf)))
  have hn255 : (n : Int) ≤ 255 := by omega
  have hz := blk_new w (.cells (cells zCmd) 28)
  have hBz := below_alloc (Below.refl w.heap.size w) (.cells (cells zCmd) 28)
  obtain ⟨q, hq⟩ : ∃ q, w.heap.size = q := ⟨_, rfl⟩
  obtain ⟨w1, hw1⟩ : ∃ w1, w.alloc (.cells (cells zCmd) 28) = w1 := ⟨_, rfl⟩
  rw [hw1] at hz hBz
  rw [hq] at hz
  have HZ := Aside0.mk (And.intro hz (And.intro hBz hq))
  have hw1' : w.alloc (.cells #[.int .i64 0, .string ⟨#[]⟩, .string ⟨#[]⟩, .int .i64 0, .int .i64 0, .int .i64 0, .int .i64 0, .int .i64 0, .int .i64 0, .int .i64 0, .int .u64 0, .int .i64 0, .int .u64 0, .int .i64 0, .int .i64 0, .int .u64 0, .int .i64 0, .int .i64 0, .int .i64 0, .int .i64 0, .int .u64 0, .int .u64 0] 28) = w1 := hw1
  clear hC hc hb h1 o1 lt1 hok hf hr hz hBz hw1
  go_enter Try.func15, Try.ntmps15
  go_wp2_with fail
  refine (From_calls A0 b c0 w1 (Kd.C_below H.out.1 HZ.out.2.1) H.out.2.1).mono ?_
  rintro e w2 ⟨rfl, hS2⟩
  obtain ⟨g, hg⟩ : ∃ g, w1.heap.size = g := ⟨_, rfl⟩
  rw [hg] at hS2 ⊢
  have HG := Aside0.mk hg
  have S2 := Aside0.mk (And.intro hS2 (blk_below HZ.out.1 hS2.below))
  clear hS2 hg hw1'
  go_wp2_with fail
  refine (SNum_at (x := (b, 0)) 1 1 rfl H.out.2.2 S2.out.1 n x1 H1.out.1).mono ?_
  rintro e w3 ⟨rfl, hS3, hK3⟩
  have HQG : Aside0 (q ≠ g) := ⟨by have h1 := blk_lt HZ.out.1; have h2 := HG.out; omega⟩
  have S3 := Aside0.mk (And.intro hS3 (blk_k1 S2.out.2 hK3 HQG.out))
  clear hS3 hK3
  obtain ⟨cb, hcb⟩ : ∃ cb, w3.heap.size = cb := ⟨_, rfl⟩
  have HCB := Aside0.mk hcb
  go_upto_region 3 with (first
    | (refine wpList_store_row rfl 28 (.tmp 5) (.tmp 14) rfl cb (cells (bareC n)) rfl rfl 28 (cells zCmd) ?hg info28 rfl (cells_one _) ?_; (case hg => rw [← HCB.out]; exact blk_new _ _); (simp only [Act.put]))
    | fail)
  have hrow : ∀ z : Array Value, (w3.alloc (.cells z 28)).setRow cb (cells (bareC n)) = w3.alloc (.cells (cells (bareC n)) 28) := fun z => by rw [← HCB.out]; exact World.setRow_alloc_new _ _ _ _
  rw [hrow]
  have hb4 := blk_new w3 (.cells (cells (bareC n)) 28)
  have hB4 := below_alloc (Below.refl w3.heap.size w3) (.cells (cells (bareC n)) 28)
  obtain ⟨w4, hw4⟩ : ∃ w4, w3.alloc (.cells (cells (bareC n)) 28) = w4 := ⟨_, rfl⟩
  rw [hw4, HCB.out] at hb4
  rw [hw4] at hB4 ⊢
  have S4 := Aside0.mk (And.intro (S3.out.1.belowS hB4) (And.intro (blk_below S3.out.2 hB4) hb4))
  have HNE : Aside0 (cb ≠ g ∧ cb ≠ q ∧ w1.heap.size ≤ cb) := ⟨by
    have h1 := S3.out.1.lt
    have h2 := blk_lt S3.out.2
    have h3 := HCB.out
    have h4 := S3.out.1.lo
    omega⟩
  have x0 : w4.cell? ⟨cb, 0, none⟩ = some (.int .i64 n) := cell_of hb4 0
  clear hrow hb4 hB4 hw4 hcb
  go_wp2_with fail
  refine (isOp_calls n w4).mono ?_
  rintro e w5 ⟨rfl, hB5⟩
  rw [H1.out.2.2.1]
  have S5 := Aside0.mk (And.intro (S4.out.1.belowS hB5) (And.intro (blk_below S4.out.2.1 hB5) (blk_below S4.out.2.2 hB5)))
  clear hB5 x0
  go_wp2_with fail
  refine (Rule_St ok 17 S5.out.1).mono ?_
  rintro e w6 ⟨rfl, hS6, hK6⟩
  rw [H1.out.2.2.2] at hS6
  have S6 := Aside0.mk (And.intro hS6 (And.intro (blk_k1 S5.out.2.1 hK6 HQG.out) (blk_k1 S5.out.2.2 hK6 HNE.out.1)))
  clear hS6 hK6
  go_wp2_with fail
  refine (Fault_St S6.out.1).mono ?_
  rintro e w' ⟨rfl, rfl⟩
  by_cases hf0 : f = 0
  · subst hf0
    have hop : isOpB n = true := by
      have h1 := H1.out.2.2.1
      have h2 := H1.out.2.2.2
      cases ok with
      | true => exact h1
      | false =>
        exfalso
        unfold ruleF at h2
        rw [if_neg (by decide)] at h2
        split at h2
        · cases h2
        · rename_i h3; exact h3 h2
    have ho : 1 ≤ (n : Int) ∧ (n : Int) < 43 := by unfold isOpB at hop; simpa using hop
    have hn43 : n < 43 := by omega
    have y0 : w6.cell? ⟨cb, 0, none⟩ = some (.int .i64 n) := cell_of S6.out.2.2 0
    have HNN := Aside0.mk ho
    have HFIN : Aside0 (finC (foldG (bareC n, (x1.1, 0)) (fldL n)) = (c, er)) := ⟨by have := HR.out; rw [if_pos rfl] at this; exact this⟩
    clear hop ho
    go_upto_region 6 with fail
    go_cut [32] from 26 to 31 (fun v32 wx => ∃ k : Nat, v32 = .pointer (some ⟨k, 0, none⟩) ∧ Aside0 (wx.heap[k]? = some (.stringIter (fldS n) 0) ∧ w6.heap.size ≤ k ∧ Below w6.heap.size w6 wx))
    case first =>
      go_region_with (go_at_call 18; refine (forms_calls _).mono ?_; rintro e w' ⟨rfl, hb, hB⟩; have xf := (forms_at hb n hn43).2; (try simp only [heap_drew] at xf); have y1 := pw_cell_below hB y0; clear hb)
      all_goals
        have HB4 := Aside0.mk (below_step (below_drew (Below.refl w6.heap.size w6)) hB)
        clear xf y1 hB
        go_wp2_with fail
        go_meet
        exact ⟨_, rfl, ⟨World.iter_heap _ _ _, HB4.out.size, below_step HB4.out (below_alloc (Below.refl _ _) _)⟩⟩
    case rest =>
      obtain ⟨k, rfl, HK⟩ := hcut
      obtain ⟨L, hL⟩ : ∃ L, fldL n = L := ⟨_, rfl⟩
      have HL := Aside0.mk hL
      have HNK : Aside0 (k ≠ g ∧ k ≠ cb ∧ k ≠ q ∧ w1.heap.size ≤ k) := ⟨by
        have h1 := S6.out.1.lt
        have h2 := blk_lt S6.out.2.1
        have h3 := blk_lt S6.out.2.2
        have h4 := HK.out.2.1
        have h5 := S6.out.1.below.size
        omega⟩
      have HX1 : Aside0 (bytesOk x1.1) := ⟨H1.out.2.1⟩
      have S7 : Aside0 (wc.heap[k]? = some (.stringIter (fldS n) 0) ∧ St w1 wc g x1.1 0 ∧ wc.heap[cb]? = some (.cells (cells (bareC n)) 28 (0, 0)) ∧ wc.heap[q]? = some (.cells (cells zCmd) 28 (0, 0))) :=
        ⟨HK.out.1, S6.out.1.belowS HK.out.2.2, blk_below S6.out.2.2 HK.out.2.2, blk_below S6.out.2.1 HK.out.2.2⟩
      clear hL y0 HK
      go_wp2_with fail
      go_loopg [7] L.length (fun kq v7 w' => ∃ (j : Nat) (a : Cmd) (x : Sc), j + kq = L.length ∧ Aside0 (foldG (bareC n, (x1.1, 0)) (L.take j) = (a, x) ∧ bytesOk x.1 ∧ w'.heap[k]? = some (.stringIter (fldS n) j) ∧ St w1 w' g x.1 x.2 ∧ w'.heap[cb]? = some (.cells (cells a) 28 (0, 0)) ∧ w'.heap[q]? = some (.cells (cells zCmd) 28 (0, 0))))
      case atStart => exact ⟨0, bareC n, (x1.1, 0), by omega, ⟨rfl, HX1.out, S7.out⟩⟩
      case round =>
        obtain ⟨j, a, x, hj, HO⟩ := hrel
        cases gk with
        | zero =>
          obtain rfl : j = L.length := by omega
          have hnx := next_fin hn43 HO.out.2.2.1 (by rw [HL.out]; exact Nat.le_refl _)
          have HFA : Aside0 (finC (a, x) = (c, er)) := ⟨by
            have h1 := HO.out.1
            rw [List.take_length, ← HL.out] at h1
            rw [← h1]
            exact HFIN.out⟩
          obtain ⟨e0, he0⟩ : ∃ e0, endI x.2 x.1.length = e0 := ⟨_, rfl⟩
          have HE0 := Aside0.mk he0
          have HBW := Aside0.mk (below_step HZ.out.2.1 HO.out.2.2.2.1.below)
          clear hj he0
          go_wp2_with fail
          refine (End_St HO.out.2.2.2.1).mono ?_
          rintro e w' ⟨rfl, rfl⟩
          rw [HE0.out]
          by_cases hz : e0 = 0
          · subst hz
            obtain ⟨my, hmy⟩ : ∃ my, mayC a = my := ⟨_, rfl⟩
            have HMY := Aside0.mk hmy
            have HFM : Aside0 ((if my = true then (a, 0) else (zCmd, 2)) = (c, er)) := ⟨by
              have h1 := HFA.out
              unfold finC at h1
              simp only at h1
              rw [if_pos HE0.out, HMY.out] at h1
              exact h1⟩
            clear hmy hnx
            go_wp2_with (first
              | (refine wpList_load_rowG rfl 28 (.tmp 5) rfl cb rfl 28 (cells a) (0, 0) _ HO.out.2.2.2.2.1 Try.underlying28 rfl info28 ?_; (simp only [Act.put]))
              | fail)
            refine (May_calls a wr my HMY.out).mono ?_
            rintro e w7 ⟨rfl, hB7⟩
            have S8 := Aside0.mk (And.intro (below_step HBW.out hB7) (And.intro (blk_below HO.out.2.2.2.2.1 hB7) (blk_below HO.out.2.2.2.2.2 hB7)))
            clear hB7
            cases my with
            | true =>
              have HE : Aside0 (c = a ∧ er = 0) := ⟨by have := HFM.out; rw [if_pos rfl] at this; injection this with h1 h2; exact ⟨h1.symm, h2.symm⟩⟩
              go_wp2_with (first
                | (refine wpList_load_row rfl 28 (.tmp 5) rfl cb rfl 28 (cells a) (0, 0) _ S8.out.2.1 Try.underlying28 rfl info28 ?_; (simp only [Act.put]))
                | (refine wpList_store_row rfl 28 (.tmp 2) (.tmp 52) rfl q (cells a) rfl rfl 28 (cells zCmd) S8.out.2.2 info28 rfl (cells_one _) ?_; (simp only [Act.put]))
                | fail)
              have hfin := setRow_heap w7 q (cells zCmd) (cells a) 28 (0, 0) S8.out.2.2
              refine bodyPost_ret (results_ct rfl _ _ q 28 (cells a) (0, 0) _ rfl hfin Try.underlying28 rfl info28) rfl ?_
              exact ReadP_of HE.out S8.out.1 HZ.out.2.2 rfl
            | false =>
              have HE : Aside0 (c = zCmd ∧ er = 2) := ⟨by have := HFM.out; rw [if_neg (by simp)] at this; injection this with h1 h2; exact ⟨h1.symm, h2.symm⟩⟩
              go_wp2_with (first
                | (refine wpList_store_row rfl 28 (.tmp 2) (.tmp 50) rfl q (cells zCmd) rfl rfl 28 (cells zCmd) S8.out.2.2 info28 rfl (cells_one _) ?_; (simp only [Act.put]))
                | fail)
              have hfin := setRow_heap w7 q (cells zCmd) (cells zCmd) 28 (0, 0) S8.out.2.2
              refine bodyPost_ret (results_ct rfl _ _ q 28 (cells zCmd) (0, 0) _ rfl hfin Try.underlying28 rfl info28) rfl ?_
              exact ReadP_of HE.out S8.out.1 HZ.out.2.2 rfl
          · have hz1 : (e0 == 0) = false := by simpa using hz
            have HE : Aside0 (c = zCmd ∧ er = e0) := ⟨by
              have h1 := HFA.out
              unfold finC at h1
              simp only at h1
              rw [HE0.out, if_neg hz] at h1
              injection h1 with h1 h2
              exact ⟨h1.symm, h2.symm⟩⟩
            clear hz hnx
            go_wp2_with (first
              | (refine wpList_store_row rfl 28 (.tmp 2) (.tmp 50) rfl q (cells zCmd) rfl rfl 28 (cells zCmd) HO.out.2.2.2.2.2 info28 rfl (cells_one _) ?_; (simp only [Act.put]))
              | fail)
            have hfin := setRow_heap wr q (cells zCmd) (cells zCmd) 28 (0, 0) HO.out.2.2.2.2.2
            refine bodyPost_ret (results_ct rfl _ _ q 28 (cells zCmd) (0, 0) _ rfl hfin Try.underlying28 rfl info28) rfl ?_
            exact ReadP_of HE.out HBW.out HZ.out.2.2 rfl
        | succ gk =>
          have hjL : j < (fldL n).length := by rw [HL.out]; omega
          have hnx := next_fld hn43 HO.out.2.2.1 hjL
          have hf := fld_ok n _ (List.getElem_mem hjL)
          obtain ⟨f, hfe⟩ : ∃ f, (fldL n)[j] = f := ⟨_, rfl⟩
          rw [hfe] at hnx hf
          obtain ⟨⟨a2, x2⟩, hg2⟩ : ∃ s, getC a x f = s := ⟨_, rfl⟩
          have HAF : Aside0 (foldG (bareC n, (x1.1, 0)) (L.take (j + 1)) = (a2, x2)) := ⟨by
            have e1 : L[j]'(by rw [← HL.out]; exact hjL) = f := by simp only [← HL.out]; exact hfe
            rw [List.take_succ_eq_append_getElem (by rw [← HL.out]; exact hjL), e1, foldG_snoc, HO.out.1]
            exact hg2⟩
          have HOK2 : Aside0 (bytesOk x2.1) := ⟨by have := getC_ok a x HO.out.2.1 f hf.1 hf.2; rw [hg2] at this; exact this⟩
          obtain ⟨w5_, hw5⟩ : ∃ w5, wr.iterAt k (fldS n) (j + 1) = w5 := ⟨_, rfl⟩
          have HI5 : Aside0 (w5_.heap[k]? = some (.stringIter (fldS n) (j + 1)) ∧ St w1 w5_ g x.1 x.2 ∧ w5_.heap[cb]? = some (.cells (cells a) 28 (0, 0)) ∧ w5_.heap[q]? = some (.cells (cells zCmd) 28 (0, 0)) ∧ bytesOk x.1) := ⟨by
            rw [← hw5]
            exact ⟨iterAt_heap _ _ _ _ _ HO.out.2.2.1, St.iter HO.out.2.2.2.1 HO.out.2.2.1 HNK.out.2.2.2, (iterAt_other _ _ _ _ _ HNK.out.2.1.symm).trans HO.out.2.2.2.2.1, (iterAt_other _ _ _ _ _ HNK.out.2.2.1.symm).trans HO.out.2.2.2.2.2, HO.out.2.1⟩⟩
          rw [hw5] at hnx
          have HF := Aside0.mk hf
          have HJ := Aside0.mk hj
          have HG2 := Aside0.mk hg2
          obtain ⟨sg, hsg⟩ : ∃ sg, signOf f = sg := ⟨_, rfl⟩
          rw [hsg] at hnx
          have HSG := Aside0.mk hsg
          clear hf hfe hw5 hjL hj HO hsg hg2
          go_wp2_with fail
          have hcp := get_calls f HF.out.1 HF.out.2 w1 w5_ g cb a x HI5.out.2.2.2.2 HI5.out.2.1 HI5.out.2.2.1 HNE.out.1 HNE.out.2.2
          rw [HSG.out, HG2.out] at hcp
          refine hcp.mono ?_
          clear hcp
          rintro e w6_ ⟨rfl, hS6, hb6, hK6⟩
          have HO6 : Aside0 (w6_.heap[k]? = some (.stringIter (fldS n) (j + 1)) ∧ St w1 w6_ g x2.1 x2.2 ∧ w6_.heap[cb]? = some (.cells (cells a2) 28 (0, 0)) ∧ w6_.heap[q]? = some (.cells (cells zCmd) 28 (0, 0))) := ⟨
            blk_kept HI5.out.1 hK6 (fun h => h.elim HNK.out.1 HNK.out.2.1), hS6, hb6, blk_kept HI5.out.2.2.2.1 hK6 (fun h => h.elim HQG.out (fun e => HNE.out.2.1 e.symm))⟩
          clear hS6 hb6 hK6 hnx
          go_wp2_with fail
          go_roundg gk
          case measure => omega
          case rel => exact ⟨j + 1, a2, x2, by have := HJ.out; omega, ⟨HAF.out, HOK2.out, HO6.out⟩⟩
  · have hf1 : (f == 0) = false := by simpa using hf0
    have HE : Aside0 (c = zCmd ∧ er = f) := ⟨by have := HR.out; rw [if_neg hf0] at this; injection this with h1 h2; exact ⟨h1.symm, h2.symm⟩⟩
    clear hf0
    go_wp2_with fail
    refine (Fault_St S6.out.1).mono ?_
    rintro e w' ⟨rfl, rfl⟩
    go_wp2_with (first
      | (refine wpList_store_row rfl 28 (.tmp 2) (.tmp 23) rfl q (cells zCmd) rfl rfl 28 (cells zCmd) S6.out.2.1 info28 rfl (cells_one _) ?_; (simp only [Act.put]))
      | fail)
    have hfin := setRow_heap w6 q (cells zCmd) (cells zCmd) 28 (0, 0) S6.out.2.1
    refine bodyPost_ret (results_ct rfl _ _ q 28 (cells zCmd) (0, 0) _ rfl hfin Try.underlying28 rfl info28) rfl ?_
    exact ReadP_of HE.out (below_step HZ.out.2.1 S6.out.1.below) HZ.out.2.2 rfl
end Go.Proofs.Ytfaicipochceeaa.Giv
