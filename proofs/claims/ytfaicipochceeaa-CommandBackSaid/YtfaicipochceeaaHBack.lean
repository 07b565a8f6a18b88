/- The law CommandBack: what its text comes to. -/
import Derived.Test.YtfaicipochceeaaGPlain2
import Derived.Test.YtfaicipochceeaaGAlive
import Derived.Test.YtfaicipochceeaaGExec
namespace Go.Proofs.Ytfaicipochceeaa.Giv
open Go.Lib Go.RowKit Go.Proofs.YtfaicipochceeaaW.PrintWords Go.Proofs.YtfaicipochceeaaW.PrintLast Go.Proofs.YtfaicipochceeaaW.PrintMore
set_option linter.unusedVariables false
set_option linter.unusedSimpArgs false
theorem neqSelf (c : Cmd) (w : World) : (Go.binOp .neq 28 (.agg (cells c)) (.agg (cells c))).run Try.prog w = .ok (.bool false) w := by
  have h := eqSelf c w
  have h2 : (Op.equalIn Op.maxDepth 28 (.agg (cells c)) (.agg (cells c))).run Try.prog w = .ok true w := by
    have h3 := eqA28 9997 w c.op c.op c.name c.name c.text c.text c.rl c.rl c.rs c.rs c.la c.la c.wh c.wh c.sl c.sl c.di c.di c.co c.co c.am c.am c.gc c.gc c.ga c.ga c.gi c.gi c.wc c.wc c.wa c.wa c.wi c.wi c.si c.si c.ba c.ba c.qu c.qu c.qt c.qt c.pr c.pr
    have h4 := (eqC_iff c c).2 rfl
    unfold eqC at h4
    rw [h4] at h3
    exact h3
  simp [Go.binOp, Op.equal, h2]
theorem beB_ok (k n : Nat) : bytesOk (beB k n) := by
  induction k with
  | zero => intro x hx; cases hx
  | succ k ih =>
    intro x hx
    rcases List.mem_cons.1 hx with rfl | hx
    · have := Nat.mod_lt (n / 256 ^ k) (show 0 < 256 by decide); omega
    · exact ih x hx
theorem bytesOk_app {a b : List Int} (ha : bytesOk a) (hb : bytesOk b) : bytesOk (a ++ b) := fun x hx => (List.mem_append.1 hx).elim (ha x) (hb x)
theorem putB_ok (c : Cmd) (f : Nat) (h1 : 1 ≤ f) (h2 : f ≤ 16) : bytesOk (putB c f) := by
  rcases f_cases h1 h2 with rfl | rfl | rfl | rfl | rfl | rfl | rfl | rfl | rfl | rfl | rfl | rfl | rfl | rfl | rfl | rfl
  all_goals first | exact beB_ok _ _ | exact bytesOk_app (beB_ok _ _) (bytesOf_ok _) | exact bytesOk_app (beB_ok _ _) (beB_ok _ _) | exact bytesOk_app (beB_ok _ _) (bytesOk_app (beB_ok _ _) (beB_ok _ _))
theorem bytesC_ok {c : Cmd} (h : mayC c = true) : bytesOk (bytesC c) := by
  have hb := isOp_bd (ok_of_may h).1
  unfold bytesC bodyB
  rw [if_pos h]
  intro x hx
  rcases List.mem_cons.1 hx with rfl | hx
  · omega
  · obtain ⟨l, hl, hxl⟩ := List.mem_flatten.1 hx
    obtain ⟨f, hf, rfl⟩ := List.mem_map.1 hl
    have := fld_ok _ f hf
    exact putB_ok c f this.1 this.2 x hxl
theorem iteN {c : Prop} [Decidable c] {A B : Prop} (hc : ¬ c) (hB : B) : if c then A else B := by rw [if_neg hc]; exact hB
set_option maxHeartbeats 8000000 in
set_option maxRecDepth 100000 in
theorem commandBack_law (c : Cmd) (A1 : Option Addr) (c1 : Nat) (b : List Int) (op : Int) (w : World) (hu : U64C c) (hC : Kd.C (Kd.int .u8) w A1 b.length b) (hc : b.length ≤ c1) (hb : bytesOk b) :
    Calls Try.prog 5 #[.agg (cells c), .slice A1 b.length c1, .int .i64 op] w fun e w' => e = .returned (.bool true) ∧ Below w.heap.size w w' := by
  have hA := blk_new w (.cells (cells c) 28)
  have hBA := below_alloc (Below.refl w.heap.size w) (.cells (cells c) 28)
  obtain ⟨r, hr⟩ : ∃ r, w.heap.size = r := ⟨_, rfl⟩
  obtain ⟨v1, hw1⟩ : ∃ v, w.alloc (.cells (cells c) 28) = v := ⟨_, rfl⟩
  rw [hw1] at hA hBA
  rw [hr] at hA
  have F1 := Aside0.mk hA
  have B1 := Aside0.mk hBA
  obtain ⟨ok, hok⟩ : ∃ ok, mayC c = ok := ⟨_, rfl⟩
  obtain ⟨m, hm⟩ : ∃ m, bytesC c = m := ⟨_, rfl⟩
  have HM := Aside0.mk (And.intro hok hm)
  have H := Aside0.mk (And.intro hu (And.intro hC (And.intro hc hb)))
  clear hA hBA hok hm hu hC hc hb
  go_enter Try.func5, Try.ntmps5
  go_wp2_with (first
    | (refine wpList_load_row rfl 28 (.tmp 3) rfl r rfl 28 (cells c) (0, 0) _ F1.out Try.underlying28 rfl info28 ?_; (simp only [Act.put]))
    | fail)
  refine (Bytes_calls c v1 H.out.1 m HM.out.2).mono ?_
  rintro e v2 ⟨A2, c2, rfl, hR, hB⟩
  have F2 := Aside0.mk (blk_below F1.out hB)
  have B2 := Aside0.mk (below_step B1.out hB)
  have R2 := Aside0.mk (Kd.R_reads' hR)
  clear hR hB F1 hw1
  go_wp2_with (first
    | (refine wpList_load_row rfl 28 (.tmp 3) rfl r rfl 28 (cells c) (0, 0) _ F2.out Try.underlying28 rfl info28 ?_; (simp only [Act.put]))
    | fail)
  refine (May_calls c v2 ok HM.out.1).mono ?_
  rintro e v3 ⟨rfl, hB⟩
  have F3 := Aside0.mk (blk_below F2.out hB)
  have B3 := Aside0.mk (below_step B2.out hB)
  have R3 := Aside0.mk (Kd.C_below R2.out.2.2 hB)
  clear hB F2
  go_upto_if 15 with fail
  go_cut [7, 8, 9] from 16 to 40 (fun v7 v8 v9 wx => Aside0 (Below w.heap.size w wx))
  case first =>
    cases ok with
    | true =>
      have hrb := read_bytes HM.out.1 H.out.1
      have hlb := bytes_len HM.out.1 H.out.1
      rw [HM.out.2] at hrb hlb
      have hl0 : (0 : Int) < m.length := by omega
      have hl1 : (m.length : Int) ≤ 60 := by omega
      have hl2 : decide ((60 : Int) < m.length) = false := decide_eq_false (by omega)
      have hl3 : ((m.length : Int) == 0) = false := by simp; intro h; subst h; simp at hl0
      have HRB := Aside0.mk hrb
      have HBY : Aside0 (bytesOk m) := ⟨by rw [← HM.out.2]; exact bytesC_ok HM.out.1⟩
      clear hrb hlb
      go_wp2_with fail
      refine (Read_calls A2 c2 m v3 R3.out R2.out.2.1 HBY.out c 0 HRB.out).mono ?_
      rintro e v4 ⟨rfl, hB⟩
      have F4 := Aside0.mk (blk_below F3.out hB)
      have B4 := Aside0.mk (below_step B3.out hB)
      clear hB F3
      obtain ⟨q, hq⟩ : ∃ q, v4.heap.size = q := ⟨_, rfl⟩
      have Zq := Aside0.mk hq
      go_upto_region 4 with (first
        | (refine wpList_store_row rfl 28 (.tmp 8) (.tmp 19) rfl q (cells c) rfl rfl 28 (cells zCmd) ?hg info28 rfl (cells_one _) ?_; (case hg => rw [← Zq.out]; exact blk_new _ _); (simp only [Act.put]))
        | fail)
      rw [show ∀ z : Array Value, (v4.alloc (.cells z 28)).setRow q (cells c) = v4.alloc (.cells (cells c) 28) from fun z => by rw [← Zq.out]; exact World.setRow_alloc_new _ _ _ _]
      clear hq
      have hn := blk_new v4 (.cells (cells c) 28)
      have hB := below_alloc (Below.refl v4.heap.size v4) (.cells (cells c) 28)
      obtain ⟨v5, hw⟩ : ∃ v, v4.alloc (.cells (cells c) 28) = v := ⟨_, rfl⟩
      rw [hw, Zq.out] at hn
      rw [hw] at hB ⊢
      have B5 := Aside0.mk (below_step B4.out hB)
      have F5 := Aside0.mk (And.intro (blk_below F4.out hB) hn)
      clear hB hn hw F4
      have heq := neqSelf c
      go_wp2_with (first
        | (refine wpList_load_rowG rfl 28 (.tmp 8) rfl q rfl 28 (cells c) (0, 0) _ F5.out.2 Try.underlying28 rfl info28 ?_; (simp only [Act.put]))
        | (refine wpList_load_rowG rfl 28 (.tmp 3) rfl r rfl 28 (cells c) (0, 0) _ F5.out.1 Try.underlying28 rfl info28 ?_; (simp only [Act.put]))
        | fail)
      go_meet
      exact ⟨B5.out⟩
    | false =>
      have hm0 : m = [] := by rw [← HM.out.2]; unfold bytesC; rw [HM.out.1]; rfl
      subst hm0
      go_wp2_with fail
      go_meet
      exact ⟨B3.out⟩
  case rest =>
    have B6 := Aside0.mk hcut.out
    obtain ⟨⟨d, er⟩, hrd⟩ : ∃ s, readC b = s := ⟨_, rfl⟩
    have HRD := Aside0.mk hrd
    clear hrd hcut
    go_wp2_with fail
    refine (Read_calls A1 c1 b wc (Kd.C_below H.out.2.1 B6.out) H.out.2.2.1 H.out.2.2.2 d er HRD.out).mono ?_
    rintro e v7 ⟨rfl, hB⟩
    have B7 := Aside0.mk (below_step B6.out hB)
    clear hB
    obtain ⟨q, hq⟩ : ∃ q, v7.heap.size = q := ⟨_, rfl⟩
    have Zq := Aside0.mk hq
    go_upto_region 9 with (first
      | (refine wpList_store_row rfl 28 (.tmp 10) (.tmp 44) rfl q (cells d) rfl rfl 28 (cells zCmd) ?hg info28 rfl (cells_one _) ?_; (case hg => rw [← Zq.out]; exact blk_new _ _); (simp only [Act.put]))
      | fail)
    rw [show ∀ z : Array Value, (v7.alloc (.cells z 28)).setRow q (cells d) = v7.alloc (.cells (cells d) 28) from fun z => by rw [← Zq.out]; exact World.setRow_alloc_new _ _ _ _]
    clear hq
    have hn := blk_new v7 (.cells (cells d) 28)
    have hB := below_alloc (Below.refl v7.heap.size v7) (.cells (cells d) 28)
    obtain ⟨v8, hw⟩ : ∃ v, v7.alloc (.cells (cells d) 28) = v := ⟨_, rfl⟩
    rw [hw, Zq.out] at hn
    rw [hw] at hB ⊢
    have B8 := Aside0.mk (below_step B7.out hB)
    have F8 := Aside0.mk hn
    clear hB hn hw
    go_cut [58] from 46 to 57 (fun v58 wx => v58 = .bool false ∧ Aside0 (Below v8.heap.size v8 wx))
    case first =>
      by_cases h1 : 1 ≤ op
      · by_cases h2 : op ≤ 42
        · obtain ⟨n, rfl⟩ := Int.eq_ofNat_of_zero_le (show 0 ≤ op by omega)
          have hon := op_name ⟨n, by omega⟩ (by show 1 ≤ n; omega)
          have HON := Aside0.mk (show opO (nameO (n : Int)) = n from hon)
          clear hon
          go_wp2_with fail
          refine (Name_calls n v8).mono ?_
          rintro e v9 ⟨rfl, hB⟩
          have B9 := Aside0.mk hB
          clear hB
          obtain ⟨s, hs⟩ : ∃ s, nameO (n : Int) = s := ⟨_, rfl⟩
          rw [hs]
          rw [hs] at HON
          clear hs
          go_wp2_with fail
          refine (Op_calls s v9).mono ?_
          rintro e v10 ⟨rfl, hB⟩
          rw [HON.out]
          have B10 := Aside0.mk (below_step B9.out hB)
          clear hB
          go_wp2_with fail
          go_meet
          exact ⟨rfl, B10⟩
        · have h2' : decide (op ≤ 42) = false := decide_eq_false h2
          have h3 : (42 : Int) < op := by omega
          clear h2
          go_wp2_with fail
          go_meet
          exact ⟨rfl, ⟨Below.refl _ _⟩⟩
      · have h1' : decide (1 ≤ op) = false := decide_eq_false h1
        have h3 : op < 1 := by omega
        clear h1
        go_wp2_with fail
        go_meet
        exact ⟨rfl, ⟨Below.refl _ _⟩⟩
    case rest =>
      obtain ⟨rfl, hcut2⟩ := hcut
      have F9 := Aside0.mk (blk_below F8.out hcut2.out)
      have B9 := Aside0.mk (below_step B8.out hcut2.out)
      clear hcut2 F8 B8
      by_cases her : er = 0
      · subst her
        obtain ⟨hmd, hbd, hud⟩ := bytes_read H.out.2.2.2 HRD.out
        have HD := Aside0.mk (And.intro hmd (And.intro hbd hud))
        clear hmd hbd hud
        go_wp2_with fail
        as_aux_lemma =>
        refine start_ (n := 18) (S := fun w' => Below wc.heap.size wc w' ∧ w'.heap[q]? = some (.cells (cells d) 28 (0, 0))) (ds := []) #[false, false, false, false, false, false, false, false, false, false, false, false, false, false, false, false, false, false] (by kernel_rfl) rfl rfl ⟨below_drew1 (Below.refl _ _), blk_below F9.out (below_drew1 (Below.refl _ _))⟩ (fun hHeld => ?_)
        refine one_ (i := 0) (N := some 59) #[true, false, false, false, false, false, false, false, false, false, false, false, false, false, false, false, false, false] rfl rfl (by kernel_rfl) (by decide) (fun K hK => ?_)
        refine goes_ Try.func6 (by kernel_rfl) rfl #[] (by rfl) rfl rfl (by simp only [List.map_toArray, List.map_nil]) ?_
        with_reducible refine (alive_calls _).mono ?_
        rintro e W0 ⟨rfl, hB⟩
        refine ⟨_, rfl, ?_⟩
        have T := below_step hHeld.1 hB
        clear hHeld hB
        refine hK.out _ _ ⟨T, blk_below F9.out T⟩ (fun hHeld => ?_)
        clear hK K
        refine norm_ (a' := ?_) ?_ ?_
        rotate_left
        · show Act.put _ (some 59) _ = _
          simp only [Act.put, List.setIfInBounds_toArray, List.set_cons_zero, List.set_cons_succ, i64_w, i32_w]
          rfl
        refine pure_ (i := 1) (N := some 60) (v := ?_) (a' := ?_) #[true, true, false, false, false, false, false, false, false, false, false, false, false, false, false, false, false, false] rfl rfl (by kernel_rfl) (fun _ _ _ h => h) (Or.inl ⟨by rfl, ?_⟩) ?_ ?_
        rotate_left
        · intro w'
          go_simp
          with_reducible rfl
        rotate_left
        · simp only [Act.put, List.setIfInBounds_toArray, List.set_cons_zero, List.set_cons_succ, i64_w, i32_w]
          rfl
        refine pure_ (i := 2) (N := some 61) (v := ?_) (a' := ?_) #[true, true, true, false, false, false, false, false, false, false, false, false, false, false, false, false, false, false] rfl rfl (by kernel_rfl) (fun _ _ _ h => h) (Or.inl ⟨by rfl, ?_⟩) ?_ ?_
        rotate_left
        · intro w'
          go_simp
          with_reducible rfl
        rotate_left
        · simp only [Act.put, List.setIfInBounds_toArray, List.set_cons_zero, List.set_cons_succ, i64_w, i32_w]
          rfl
        refine pure_ (i := 3) (N := some 62) (v := ?_) (a' := ?_) #[true, true, true, true, false, false, false, false, false, false, false, false, false, false, false, false, false, false] rfl rfl (by kernel_rfl) (fun _ _ _ h => h) (Or.inl ⟨by rfl, ?_⟩) ?_ ?_
        rotate_left
        · intro w'
          go_simp
          with_reducible rfl
        rotate_left
        · simp only [Act.put, List.setIfInBounds_toArray, List.set_cons_zero, List.set_cons_succ, i64_w, i32_w]
          rfl
        refine pure_ (i := 4) (N := some 63) (v := ?_) (a' := ?_) #[true, true, true, true, true, false, false, false, false, false, false, false, false, false, false, false, false, false] rfl rfl (by kernel_rfl) (fun _ _ _ h => h) (Or.inl ⟨by rfl, ?_⟩) ?_ ?_
        rotate_left
        · intro w'
          go_simp
          with_reducible rfl
        rotate_left
        · simp only [Act.put, List.setIfInBounds_toArray, List.set_cons_zero, List.set_cons_succ, i64_w, i32_w]
          rfl
        refine take_ (i := 5) (N := some 64) (v := ?_) (a' := ?_) #[true, true, true, true, true, true, false, false, false, false, false, false, false, false, false, false, false, false] rfl rfl (by kernel_rfl) (fun _ _ _ h => h) (Or.inl ⟨by rfl, ?_⟩) hHeld ?_ ?_
        rotate_left
        · rintro w' ⟨s0, s1⟩
          refine (load28 (.tmp 10) q d s1 (by rfl) (by rfl)).trans ?_
          with_reducible rfl
        rotate_left
        · simp only [Act.put, List.setIfInBounds_toArray, List.set_cons_zero, List.set_cons_succ, i64_w, i32_w]
          rfl
        refine one_ (i := 6) (N := some 65) #[true, true, true, true, true, true, true, false, false, false, false, false, false, false, false, false, false, false] rfl rfl (by kernel_rfl) (by decide) (fun K hK => ?_)
        clear T
        refine goes_ Try.func7 (by kernel_rfl) rfl #[.agg (cells d)] (by rfl) rfl rfl (by simp only [List.map_toArray, List.map_cons, List.map_nil]; rfl) ?_
        with_reducible refine (May_calls d _ true HD.out.1).mono ?_
        rintro e W6 ⟨rfl, hB⟩
        refine ⟨_, rfl, ?_⟩
        have T := below_step hHeld.1 hB
        clear hHeld hB
        refine hK.out _ _ ⟨T, blk_below F9.out T⟩ (fun hHeld => ?_)
        clear hK K
        refine norm_ (a' := ?_) ?_ ?_
        rotate_left
        · show Act.put _ (some 65) _ = _
          simp only [Act.put, List.setIfInBounds_toArray, List.set_cons_zero, List.set_cons_succ, i64_w, i32_w]
          rfl
        refine pure_ (i := 7) (N := some 66) (v := ?_) (a' := ?_) #[true, true, true, true, true, true, true, true, false, false, false, false, false, false, false, false, false, false] rfl rfl (by kernel_rfl) (fun _ _ _ h => h) (Or.inl ⟨by rfl, ?_⟩) ?_ ?_
        rotate_left
        · intro w'
          go_simp
          with_reducible rfl
        rotate_left
        · simp only [Act.put, List.setIfInBounds_toArray, List.set_cons_zero, List.set_cons_succ, i64_w, i32_w]
          rfl
        refine pure_ (i := 11) (N := some 70) (v := ?_) (a' := ?_) #[true, true, true, true, true, true, true, true, false, false, false, true, false, false, false, false, false, false] rfl rfl (by kernel_rfl) (fun _ _ _ h => h) (Or.inl ⟨by rfl, ?_⟩) ?_ ?_
        rotate_left
        · intro w'
          go_simp
          with_reducible rfl
        rotate_left
        · simp only [Act.put, List.setIfInBounds_toArray, List.set_cons_zero, List.set_cons_succ, i64_w, i32_w]
          rfl
        refine take_ (i := 8) (N := some 67) (v := ?_) (a' := ?_) #[true, true, true, true, true, true, true, true, true, false, false, true, false, false, false, false, false, false] rfl rfl (by kernel_rfl) (fun _ _ _ h => h) (Or.inl ⟨by rfl, ?_⟩) hHeld ?_ ?_
        rotate_left
        · rintro w' ⟨s0, s1⟩
          refine (load28 (.tmp 10) q d s1 (by rfl) (by rfl)).trans ?_
          with_reducible rfl
        rotate_left
        · simp only [Act.put, List.setIfInBounds_toArray, List.set_cons_zero, List.set_cons_succ, i64_w, i32_w]
          rfl
        refine join_ (σ := Value) 5 #[true, true, true, true, true, true, true, true, true, true, true, true, true, false, false, false, false, false] (fun s_ => [(68, s_), (69, .string (strOfNums b)), (71, .string (strOfNums b))]) (fun s_ w' => Below wc.heap.size wc w' ∧ w'.heap[q]? = some (.cells (cells d) 28 (0, 0))) ?_ ?_
        rotate_left
        · intro hCont
          as_aux_lemma =>
          refine two_ (i := 9) (j := 12) (Ni := some 68) (Nj := some 71) #[true, true, true, true, true, true, true, true, true, true, false, true, false, false, false, false, false, false] #[true, true, true, true, true, true, true, true, true, false, false, true, true, false, false, false, false, false] rfl rfl rfl rfl (by kernel_rfl) (by decide) (by decide) (fun K hK => ?_) (fun K hK => ?_)
          · skip
            clear T
            refine goes_ Try.func9 (by kernel_rfl) rfl #[.agg (cells d)] (by rfl) rfl rfl (by simp only [List.map_toArray, List.map_cons, List.map_nil]; rfl) ?_
            with_reducible refine (Bytes_calls d _ HD.out.2.2 b HD.out.2.1).mono ?_
            rintro e W9 ⟨X1, d1, rfl, hR, hB⟩
            refine ⟨_, rfl, ?_⟩
            have T := below_step hHeld.1 hB
            have D1 := Aside0.mk (Kd.R_reads' hR).2.2
            clear hHeld hR hB
            refine hK.out _ _ ⟨T, blk_below F9.out T⟩ (fun hHeld => ?_)
            clear hK K
            refine norm_ (a' := ?_) ?_ ?_
            rotate_left
            · show Act.put _ (some 68) _ = _
              simp only [Act.put, List.setIfInBounds_toArray, List.set_cons_zero, List.set_cons_succ, i64_w, i32_w]
              rfl
            refine two_ (i := 10) (j := 12) (Ni := some 69) (Nj := some 71) #[true, true, true, true, true, true, true, true, true, true, true, true, false, false, false, false, false, false] #[true, true, true, true, true, true, true, true, true, true, false, true, true, false, false, false, false, false] rfl rfl rfl rfl (by kernel_rfl) (by decide) (by decide) (fun K hK => ?_) (fun K hK => ?_)
            · skip
              clear T
              have sx := Kd.C_string (P := Try.prog) (A := X1) (c := d1) Try.underlying31 Try.underlying5 Try.underlying9 D1.out
              refine value_ (w1 := ?_) (v := ?_) (by rfl) rfl ?_ ?_
              rotate_left 2
              · go_simp
                constructor
                · rfl
                · rfl
              have T := hHeld.1
              clear sx hHeld
              refine hK.out _ _ ⟨T, blk_below F9.out T⟩ (fun hHeld => ?_)
              clear hK K
              refine norm_ (a' := ?_) ?_ ?_
              rotate_left
              · show Act.put _ (some 69) _ = _
                simp only [Act.put, List.setIfInBounds_toArray, List.set_cons_zero, List.set_cons_succ, i64_w, i32_w]
                rfl
              refine one_ (i := 12) (N := some 71) #[true, true, true, true, true, true, true, true, true, true, true, true, true, false, false, false, false, false] rfl rfl (by kernel_rfl) (by decide) (fun K hK => ?_)
              clear T
              have sx := Kd.C_string (P := Try.prog) (A := A1) (c := c1) Try.underlying31 Try.underlying5 Try.underlying9 (Kd.C_below H.out.2.1 (below_step B9.out hHeld.1))
              refine value_ (w1 := ?_) (v := ?_) (by rfl) rfl ?_ ?_
              rotate_left 2
              · go_simp
                constructor
                · rfl
                · rfl
              have T := hHeld.1
              clear sx hHeld
              refine hK.out _ _ ⟨T, blk_below F9.out T⟩ (fun hHeld => ?_)
              clear hK K
              refine norm_ (a' := ?_) ?_ ?_
              rotate_left
              · show Act.put _ (some 71) _ = _
                simp only [Act.put, List.setIfInBounds_toArray, List.set_cons_zero, List.set_cons_succ, i64_w, i32_w]
                rfl
              exact norm_ (by simp only [putAll, Act.put, List.setIfInBounds_toArray, List.set_cons_zero, List.set_cons_succ]) (hCont (.slice X1 b.length d1) _ hHeld)
            · skip
              clear T
              have sx := Kd.C_string (P := Try.prog) (A := A1) (c := c1) Try.underlying31 Try.underlying5 Try.underlying9 (Kd.C_below H.out.2.1 (below_step B9.out hHeld.1))
              refine value_ (w1 := ?_) (v := ?_) (by rfl) rfl ?_ ?_
              rotate_left 2
              · go_simp
                constructor
                · rfl
                · rfl
              have T := hHeld.1
              clear sx hHeld
              refine hK.out _ _ ⟨T, blk_below F9.out T⟩ (fun hHeld => ?_)
              clear hK K
              refine norm_ (a' := ?_) ?_ ?_
              rotate_left
              · show Act.put _ (some 71) _ = _
                simp only [Act.put, List.setIfInBounds_toArray, List.set_cons_zero, List.set_cons_succ, i64_w, i32_w]
                rfl
              refine one_ (i := 10) (N := some 69) #[true, true, true, true, true, true, true, true, true, true, true, true, true, false, false, false, false, false] rfl rfl (by kernel_rfl) (by decide) (fun K hK => ?_)
              clear T
              have sx := Kd.C_string (P := Try.prog) (A := X1) (c := d1) Try.underlying31 Try.underlying5 Try.underlying9 D1.out
              refine value_ (w1 := ?_) (v := ?_) (by rfl) rfl ?_ ?_
              rotate_left 2
              · go_simp
                constructor
                · rfl
                · rfl
              have T := hHeld.1
              clear sx hHeld
              refine hK.out _ _ ⟨T, blk_below F9.out T⟩ (fun hHeld => ?_)
              clear hK K
              refine norm_ (a' := ?_) ?_ ?_
              rotate_left
              · show Act.put _ (some 69) _ = _
                simp only [Act.put, List.setIfInBounds_toArray, List.set_cons_zero, List.set_cons_succ, i64_w, i32_w]
                rfl
              exact norm_ (by simp only [putAll, Act.put, List.setIfInBounds_toArray, List.set_cons_zero, List.set_cons_succ]) (hCont (.slice X1 b.length d1) _ hHeld)
          · skip
            clear T
            have sx := Kd.C_string (P := Try.prog) (A := A1) (c := c1) Try.underlying31 Try.underlying5 Try.underlying9 (Kd.C_below H.out.2.1 (below_step B9.out hHeld.1))
            refine value_ (w1 := ?_) (v := ?_) (by rfl) rfl ?_ ?_
            rotate_left 2
            · go_simp
              constructor
              · rfl
              · rfl
            have T := hHeld.1
            clear sx hHeld
            refine hK.out _ _ ⟨T, blk_below F9.out T⟩ (fun hHeld => ?_)
            clear hK K
            refine norm_ (a' := ?_) ?_ ?_
            rotate_left
            · show Act.put _ (some 71) _ = _
              simp only [Act.put, List.setIfInBounds_toArray, List.set_cons_zero, List.set_cons_succ, i64_w, i32_w]
              rfl
            refine one_ (i := 9) (N := some 68) #[true, true, true, true, true, true, true, true, true, true, false, true, true, false, false, false, false, false] rfl rfl (by kernel_rfl) (by decide) (fun K hK => ?_)
            clear T
            refine goes_ Try.func9 (by kernel_rfl) rfl #[.agg (cells d)] (by rfl) rfl rfl (by simp only [List.map_toArray, List.map_cons, List.map_nil]; rfl) ?_
            with_reducible refine (Bytes_calls d _ HD.out.2.2 b HD.out.2.1).mono ?_
            rintro e W9 ⟨X1, d1, rfl, hR, hB⟩
            refine ⟨_, rfl, ?_⟩
            have T := below_step hHeld.1 hB
            have D1 := Aside0.mk (Kd.R_reads' hR).2.2
            clear hHeld hR hB
            refine hK.out _ _ ⟨T, blk_below F9.out T⟩ (fun hHeld => ?_)
            clear hK K
            refine norm_ (a' := ?_) ?_ ?_
            rotate_left
            · show Act.put _ (some 68) _ = _
              simp only [Act.put, List.setIfInBounds_toArray, List.set_cons_zero, List.set_cons_succ, i64_w, i32_w]
              rfl
            refine one_ (i := 10) (N := some 69) #[true, true, true, true, true, true, true, true, true, true, true, true, true, false, false, false, false, false] rfl rfl (by kernel_rfl) (by decide) (fun K hK => ?_)
            clear T
            have sx := Kd.C_string (P := Try.prog) (A := X1) (c := d1) Try.underlying31 Try.underlying5 Try.underlying9 D1.out
            refine value_ (w1 := ?_) (v := ?_) (by rfl) rfl ?_ ?_
            rotate_left 2
            · go_simp
              constructor
              · rfl
              · rfl
            have T := hHeld.1
            clear sx hHeld
            refine hK.out _ _ ⟨T, blk_below F9.out T⟩ (fun hHeld => ?_)
            clear hK K
            refine norm_ (a' := ?_) ?_ ?_
            rotate_left
            · show Act.put _ (some 69) _ = _
              simp only [Act.put, List.setIfInBounds_toArray, List.set_cons_zero, List.set_cons_succ, i64_w, i32_w]
              rfl
            exact norm_ (by simp only [putAll, Act.put, List.setIfInBounds_toArray, List.set_cons_zero, List.set_cons_succ]) (hCont (.slice X1 b.length d1) _ hHeld)
        rintro v68 V68 hS_
        have hHeld : Below wc.heap.size wc V68 ∧ V68.heap[q]? = some (.cells (cells d) 28 (0, 0)) := hS_
        clear hS_
        as_aux_lemma =>
        refine norm_ (a' := ?_) ?_ ?_
        rotate_left
        · simp only [putAll, Act.put, List.setIfInBounds_toArray, List.set_cons_zero, List.set_cons_succ]
          rfl
        refine pure_ (i := 13) (N := some 72) (v := ?_) (a' := ?_) #[true, true, true, true, true, true, true, true, true, true, true, true, true, true, false, false, false, false] rfl rfl (by kernel_rfl) (fun _ _ _ h => h) (Or.inl ⟨by rfl, ?_⟩) ?_ ?_
        rotate_left
        · intro w'
          go_simp
          with_reducible rfl
        rotate_left
        · simp only [Act.put, List.setIfInBounds_toArray, List.set_cons_zero, List.set_cons_succ, i64_w, i32_w]
          rfl
        refine pure_ (i := 14) (N := some 73) (v := ?_) (a' := ?_) #[true, true, true, true, true, true, true, true, true, true, true, true, true, true, true, false, false, false] rfl rfl (by kernel_rfl) (fun _ _ _ h => h) (Or.inl ⟨by rfl, ?_⟩) ?_ ?_
        rotate_left
        · intro w'
          go_simp
          with_reducible rfl
        rotate_left
        · simp only [Act.put, List.setIfInBounds_toArray, List.set_cons_zero, List.set_cons_succ, i64_w, i32_w]
          rfl
        refine pure_ (i := 15) (N := some 74) (v := ?_) (a' := ?_) #[true, true, true, true, true, true, true, true, true, true, true, true, true, true, true, true, false, false] rfl rfl (by kernel_rfl) (fun _ _ _ h => h) (Or.inl ⟨by rfl, ?_⟩) ?_ ?_
        rotate_left
        · intro w'
          go_simp
          with_reducible rfl
        rotate_left
        · simp only [Act.put, List.setIfInBounds_toArray, List.set_cons_zero, List.set_cons_succ, i64_w, i32_w]
          rfl
        refine pure_ (i := 16) (N := some 75) (v := ?_) (a' := ?_) #[true, true, true, true, true, true, true, true, true, true, true, true, true, true, true, true, true, false] rfl rfl (by kernel_rfl) (fun _ _ _ h => h) (Or.inl ⟨by rfl, ?_⟩) ?_ ?_
        rotate_left
        · intro w'
          go_simp
          with_reducible rfl
        rotate_left
        · simp only [Act.put, List.setIfInBounds_toArray, List.set_cons_zero, List.set_cons_succ, i64_w, i32_w]
          rfl
        refine pure_ (i := 17) (N := some 6) (v := ?_) (a' := ?_) #[true, true, true, true, true, true, true, true, true, true, true, true, true, true, true, true, true, true] rfl rfl (by kernel_rfl) (fun _ _ _ h => h) (Or.inl ⟨by rfl, ?_⟩) ?_ ?_
        rotate_left
        · intro w'
          go_simp
          with_reducible rfl
        rotate_left
        · simp only [Act.put, List.setIfInBounds_toArray, List.set_cons_zero, List.set_cons_succ, i64_w, i32_w]
          rfl
        refine done_ (by kernel_rfl) ?_
        have hBB := below_step B9.out hHeld.1
        go_wp2_with fail
        go_ret
        exact ⟨rfl, hBB⟩
      · have hz1 : (er == 0) = false := by simpa using her
        have hz2 : (er = 0) = False := eq_false her
        have hz3 : (er != 0) = true := by simpa using her
        clear her
        go_wp2_with fail
        as_aux_lemma =>
        refine start_ (n := 18) (S := fun w' => Below wc.heap.size wc w' ∧ w'.heap[q]? = some (.cells (cells d) 28 (0, 0))) (ds := []) #[false, false, false, false, false, false, false, false, false, false, false, false, false, false, false, false, false, false] (by kernel_rfl) rfl rfl ⟨below_drew1 (Below.refl _ _), blk_below F9.out (below_drew1 (Below.refl _ _))⟩ (fun hHeld => ?_)
        refine one_ (i := 0) (N := some 59) #[true, false, false, false, false, false, false, false, false, false, false, false, false, false, false, false, false, false] rfl rfl (by kernel_rfl) (by decide) (fun K hK => ?_)
        refine goes_ Try.func6 (by kernel_rfl) rfl #[] (by rfl) rfl rfl (by simp only [List.map_toArray, List.map_nil]) ?_
        with_reducible refine (alive_calls _).mono ?_
        rintro e W0 ⟨rfl, hB⟩
        refine ⟨_, rfl, ?_⟩
        have T := below_step hHeld.1 hB
        clear hHeld hB
        refine hK.out _ _ ⟨T, blk_below F9.out T⟩ (fun hHeld => ?_)
        clear hK K
        refine norm_ (a' := ?_) ?_ ?_
        rotate_left
        · show Act.put _ (some 59) _ = _
          simp only [Act.put, List.setIfInBounds_toArray, List.set_cons_zero, List.set_cons_succ, i64_w, i32_w]
          rfl
        refine pure_ (i := 1) (N := some 60) (v := ?_) (a' := ?_) #[true, true, false, false, false, false, false, false, false, false, false, false, false, false, false, false, false, false] rfl rfl (by kernel_rfl) (fun _ _ _ h => h) (Or.inl ⟨by rfl, ?_⟩) ?_ ?_
        rotate_left
        · intro w'
          go_simp
          with_reducible rfl
        rotate_left
        · simp only [Act.put, List.setIfInBounds_toArray, List.set_cons_zero, List.set_cons_succ, i64_w, i32_w]
          rfl
        refine pure_ (i := 2) (N := some 61) (v := ?_) (a' := ?_) #[true, true, true, false, false, false, false, false, false, false, false, false, false, false, false, false, false, false] rfl rfl (by kernel_rfl) (fun _ _ _ h => h) (Or.inl ⟨by rfl, ?_⟩) ?_ ?_
        rotate_left
        · intro w'
          go_simp
          with_reducible rfl
        rotate_left
        · simp only [Act.put, List.setIfInBounds_toArray, List.set_cons_zero, List.set_cons_succ, i64_w, i32_w]
          rfl
        refine pure_ (i := 3) (N := some 62) (v := ?_) (a' := ?_) #[true, true, true, true, false, false, false, false, false, false, false, false, false, false, false, false, false, false] rfl rfl (by kernel_rfl) (fun _ _ _ h => h) (Or.inl ⟨by rfl, ?_⟩) ?_ ?_
        rotate_left
        · intro w'
          go_simp
          with_reducible rfl
        rotate_left
        · simp only [Act.put, List.setIfInBounds_toArray, List.set_cons_zero, List.set_cons_succ, i64_w, i32_w]
          rfl
        refine pure_ (i := 4) (N := some 63) (v := ?_) (a' := ?_) #[true, true, true, true, true, false, false, false, false, false, false, false, false, false, false, false, false, false] rfl rfl (by kernel_rfl) (fun _ _ _ h => h) (Or.inl ⟨by rfl, ?_⟩) ?_ ?_
        rotate_left
        · intro w'
          go_simp
          with_reducible rfl
        rotate_left
        · simp only [Act.put, List.setIfInBounds_toArray, List.set_cons_zero, List.set_cons_succ, i64_w, i32_w]
          rfl
        refine pure_ (i := 5) (N := some 64) (v := undef) (a' := ?_) #[true, true, true, true, true, true, false, false, false, false, false, false, false, false, false, false, false, false] rfl rfl (by kernel_rfl) (fun _ _ _ h => h) (Or.inr ⟨by rfl, rfl⟩) ?_ ?_
        rotate_left
        · simp only [Act.put, List.setIfInBounds_toArray, List.set_cons_zero, List.set_cons_succ, i64_w, i32_w]
          rfl
        refine pure_ (i := 6) (N := some 65) (v := undef) (a' := ?_) #[true, true, true, true, true, true, true, false, false, false, false, false, false, false, false, false, false, false] rfl rfl (by kernel_rfl) (fun _ _ _ h => h) (Or.inr ⟨by rfl, rfl⟩) ?_ ?_
        rotate_left
        · simp only [Act.put, List.setIfInBounds_toArray, List.set_cons_zero, List.set_cons_succ, i64_w, i32_w]
          rfl
        refine pure_ (i := 7) (N := some 66) (v := undef) (a' := ?_) #[true, true, true, true, true, true, true, true, false, false, false, false, false, false, false, false, false, false] rfl rfl (by kernel_rfl) (fun _ _ _ h => h) (Or.inr ⟨by rfl, rfl⟩) ?_ ?_
        rotate_left
        · simp only [Act.put, List.setIfInBounds_toArray, List.set_cons_zero, List.set_cons_succ, i64_w, i32_w]
          rfl
        refine pure_ (i := 8) (N := some 67) (v := undef) (a' := ?_) #[true, true, true, true, true, true, true, true, true, false, false, false, false, false, false, false, false, false] rfl rfl (by kernel_rfl) (fun _ _ _ h => h) (Or.inr ⟨by rfl, rfl⟩) ?_ ?_
        rotate_left
        · simp only [Act.put, List.setIfInBounds_toArray, List.set_cons_zero, List.set_cons_succ, i64_w, i32_w]
          rfl
        refine pure_ (i := 9) (N := some 68) (v := undef) (a' := ?_) #[true, true, true, true, true, true, true, true, true, true, false, false, false, false, false, false, false, false] rfl rfl (by kernel_rfl) (fun _ _ _ h => h) (Or.inr ⟨by rfl, rfl⟩) ?_ ?_
        rotate_left
        · simp only [Act.put, List.setIfInBounds_toArray, List.set_cons_zero, List.set_cons_succ, i64_w, i32_w]
          rfl
        refine pure_ (i := 10) (N := some 69) (v := undef) (a' := ?_) #[true, true, true, true, true, true, true, true, true, true, true, false, false, false, false, false, false, false] rfl rfl (by kernel_rfl) (fun _ _ _ h => h) (Or.inr ⟨by rfl, rfl⟩) ?_ ?_
        rotate_left
        · simp only [Act.put, List.setIfInBounds_toArray, List.set_cons_zero, List.set_cons_succ, i64_w, i32_w]
          rfl
        refine pure_ (i := 11) (N := some 70) (v := undef) (a' := ?_) #[true, true, true, true, true, true, true, true, true, true, true, true, false, false, false, false, false, false] rfl rfl (by kernel_rfl) (fun _ _ _ h => h) (Or.inr ⟨by rfl, rfl⟩) ?_ ?_
        rotate_left
        · simp only [Act.put, List.setIfInBounds_toArray, List.set_cons_zero, List.set_cons_succ, i64_w, i32_w]
          rfl
        refine pure_ (i := 12) (N := some 71) (v := undef) (a' := ?_) #[true, true, true, true, true, true, true, true, true, true, true, true, true, false, false, false, false, false] rfl rfl (by kernel_rfl) (fun _ _ _ h => h) (Or.inr ⟨by rfl, rfl⟩) ?_ ?_
        rotate_left
        · simp only [Act.put, List.setIfInBounds_toArray, List.set_cons_zero, List.set_cons_succ, i64_w, i32_w]
          rfl
        refine pure_ (i := 13) (N := some 72) (v := undef) (a' := ?_) #[true, true, true, true, true, true, true, true, true, true, true, true, true, true, false, false, false, false] rfl rfl (by kernel_rfl) (fun _ _ _ h => h) (Or.inr ⟨by rfl, rfl⟩) ?_ ?_
        rotate_left
        · simp only [Act.put, List.setIfInBounds_toArray, List.set_cons_zero, List.set_cons_succ, i64_w, i32_w]
          rfl
        refine pure_ (i := 14) (N := some 73) (v := undef) (a' := ?_) #[true, true, true, true, true, true, true, true, true, true, true, true, true, true, true, false, false, false] rfl rfl (by kernel_rfl) (fun _ _ _ h => h) (Or.inr ⟨by rfl, rfl⟩) ?_ ?_
        rotate_left
        · simp only [Act.put, List.setIfInBounds_toArray, List.set_cons_zero, List.set_cons_succ, i64_w, i32_w]
          rfl
        refine pure_ (i := 15) (N := some 74) (v := ?_) (a' := ?_) #[true, true, true, true, true, true, true, true, true, true, true, true, true, true, true, true, false, false] rfl rfl (by kernel_rfl) (fun _ _ _ h => h) (Or.inl ⟨by rfl, ?_⟩) ?_ ?_
        rotate_left
        · intro w'
          go_simp
          with_reducible rfl
        rotate_left
        · simp only [Act.put, List.setIfInBounds_toArray, List.set_cons_zero, List.set_cons_succ, i64_w, i32_w]
          rfl
        refine pure_ (i := 16) (N := some 75) (v := ?_) (a' := ?_) #[true, true, true, true, true, true, true, true, true, true, true, true, true, true, true, true, true, false] rfl rfl (by kernel_rfl) (fun _ _ _ h => h) (Or.inl ⟨by rfl, ?_⟩) ?_ ?_
        rotate_left
        · intro w'
          go_simp
          with_reducible rfl
        rotate_left
        · simp only [Act.put, List.setIfInBounds_toArray, List.set_cons_zero, List.set_cons_succ, i64_w, i32_w]
          rfl
        refine pure_ (i := 17) (N := some 6) (v := ?_) (a' := ?_) #[true, true, true, true, true, true, true, true, true, true, true, true, true, true, true, true, true, true] rfl rfl (by kernel_rfl) (fun _ _ _ h => h) (Or.inl ⟨by rfl, ?_⟩) ?_ ?_
        rotate_left
        · intro w'
          go_simp
          with_reducible rfl
        rotate_left
        · simp only [Act.put, List.setIfInBounds_toArray, List.set_cons_zero, List.set_cons_succ, i64_w, i32_w]
          rfl
        refine done_ (by kernel_rfl) ?_
        have hBB := below_step B9.out hHeld.1
        go_wp2_with fail
        go_ret
        exact ⟨rfl, hBB⟩
end Go.Proofs.Ytfaicipochceeaa.Giv
