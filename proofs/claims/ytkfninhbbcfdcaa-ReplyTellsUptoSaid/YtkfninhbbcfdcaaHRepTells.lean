/- The law ReplyTells: what its text comes to. -/
import Derived.Test.YtkfninhbbcfdcaaHRepBack
import Derived.Test.YtkfninhbbcfdcaaHSizes
namespace Go.Proofs.Ytkfninhbbcfdcaa.Giv
open Go.RowKit Go.Proofs.YtkfninhbbcfdcaaW.PrintWords Go.Proofs.YtkfninhbbcfdcaaW.PrintLast Go.Proofs.YtkfninhbbcfdcaaW.PrintMore Go.Proofs.Ytkfninhbbcfdcaa.PReplyTells
set_option linter.unusedVariables false
set_option linter.unusedSimpArgs false

theorem info3 : (Try.prog.info? 3).map (fun i => (i.zero, i.size, i.bytes)) = some (some (.int .i64 0), 1, 8) := by kernel_rfl
/-- append of a row that is read, as a step of a region that draws its order. -/
theorem rows_step {P : Program} {ops : Array Oper} {o : Oper} {a : Act} {Q : Exit → Act → World → Prop} {Kc : Act → World → Prop} {k : IntKind} {w0 W : World} (base : Nat) (hw : Region.wanted o (yielded ops a.tmps) = true) (s x : Operand) (t e : TypeId) (bytes : Nat)
    (ho : o.op = .call { callee := .builtin .append, args := #[s, x], argTypes := #[t, t] })
    (ht : P.underlying t = some (.slice e)) (hinfo : (P.info? e).map (fun i => (i.zero, i.size, i.bytes)) = some (some (.int k 0), 1, bytes)) (hb0 : 0 < bytes)
    (v : Value) (xs ys : List Int) (A : Option Addr) (m c : Nat) (hs : a.eval s = v) (hx : a.eval x = .slice A m c) (hm0 : 0 < m)
    (HO : (Kd.int k).R e W base (fun _ => True) v xs) (HR : (Kd.int k).C W A m ys) (HB : Below base w0 W) (hbase : base ≤ W.heap.size) (hl : (xs.length + m) * bytes ≤ 140737488355328)
    (h : ∀ v1 w1, (Kd.int k).R e w1 base (fun _ => True) v1 (xs ++ ys) → Below base w0 w1 → W.grownBy w1 v.ownBlock → Kc (a.put o.dst v1) w1) :
    if Region.wanted o (yielded ops a.tmps) = true then Oper.wp P o a W Kc Q else Kc (a.put o.dst undef) W := by
  obtain ⟨i0, hi, hzz⟩ := Option.map_eq_some_iff.1 hinfo
  simp only [Prod.mk.injEq] at hzz
  obtain ⟨hz0, hz1, hz2⟩ := hzz
  have hRd := Kd.reads_of_C (enc := Value.int k) (d := (0 : Int)) (h1 := fun _ => rfl) HR
  have hm : ys.length = m := hRd.1
  obtain ⟨ad, rfl, hc⟩ := hRd.2.2 hm0
  have hlen : xs.length + m ≤ 140737488355328 := Nat.le_trans (Nat.le_mul_of_pos_right _ hb0) hl
  have hown := Kd.own_of_R HO
  have hcells : ∀ j u, (encs (Value.int k) ys)[j]? = some u → W.cell? (ad.add j) = some u := by
    intro j u hu
    have hj : j < ys.length := by
      rcases Nat.lt_or_ge j ys.length with h | h
      · exact h
      · simp [encs, List.getElem?_eq_none h] at hu
    have := hc j (by omega)
    rw [encs_get (d := (0 : Int)) ys j hj] at hu
    injection hu with hu
    rw [this, ← hu]
  obtain ⟨v1, w1, hr, h2, h3, _, h5⟩ := run_append_own_at (P := P) W base t o.type e i0 (.int k 0) 1 bytes ht hi hz0 hz1 hz2 rfl (by omega) v xs.length (encs (Value.int k) xs) hown ad m c (encs (Value.int k) ys) (by simp [encs, hm]) hcells
    (by intro u hu; simp only [encs, List.mem_map] at hu; obtain ⟨q, _, rfl⟩ := hu; rfl) (by simp only [maxLen]; omega) hl hbase
  rw [if_pos hw]
  unfold Oper.wp execOp
  simp only [ho, resolve, invoke, builtin, Sem.run_bind, Sem.run_pure, Result.andThen_ok, List.map_toArray, List.map_cons, List.map_nil, hs, hx, hr]
  exact h v1 w1 (Kd.R_of_own (by rw [List.length_append, hm, encs_append]; exact h2) (fun _ _ => trivial)) (HB.grown h3 hbase (own_base hown)) h3

theorem allM_len {b : List Int} {L : List S49} {le : Int} (h : allM b = (L, le)) : L.length ≤ b.length := by
  by_cases h0 : le = 0
  · subst h0
    obtain ⟨h1, _⟩ := allM_ok h
    have h3 := framesB_len (L.map msgL)
    rw [List.length_map] at h3
    have h4 : (framesB (L.map msgL)).length = b.length := congrArg List.length h1
    omega
  · rw [allM_bad h h0]; simp
/-- What is known behind the first five calls. -/
structure TP (w W : World) (r0 ry rz : Nat) (x X : S49) (A By Bz : Option Addr) (n c N cy cz : Nat) (L : List S49) (Bu Bv : Option Addr) : Prop where
  below : Below w.heap.size w W
  b0 : W.heap[r0]? = some (.cells (xCells x A n c) 49 (0, 0))
  by_ : W.heap[ry]? = some (.cells (xCells X By N cy) 49 (0, 0))
  bz : W.heap[rz]? = some (.cells (xCells X Bz N cz) 49 (0, 0))
  cy_ : (Kd.int .u8).C W By X.f3.length X.f3
  cz_ : (Kd.int .u8).C W Bz X.f3.length X.f3
  cu : Kd.C k49 W Bu L.length L
  cv : Kd.C k49 W Bv L.length L
theorem TP.step {w W W1 : World} {r0 ry rz : Nat} {x X : S49} {A By Bz : Option Addr} {n c N cy cz : Nat} {L : List S49} {Bu Bv : Option Addr} (h : TP w W r0 ry rz x X A By Bz n c N cy cz L Bu Bv) (hb : Below W.heap.size W W1) : TP w W1 r0 ry rz x X A By Bz n c N cy cz L Bu Bv :=
  ⟨below_step h.below hb, blk_below h.b0 hb, blk_below h.by_ hb, blk_below h.bz hb, Kd.C_below h.cy_ hb, Kd.C_below h.cz_ hb, Kd.C_below h.cu hb, Kd.C_below h.cv hb⟩
theorem flat_step {l : List S76} {p : Nat} (h : p < l.length) : flatL (l.take p) ++ [(rd_T76 l p).f0, (rd_T76 l p).f1] = flatL (l.take (p + 1)) := by
  rw [List.take_succ_eq_append_getElem h, rd76_nat h]
  simp only [flatL, List.flatMap_append, List.flatMap_cons, List.flatMap_nil, List.append_nil]
theorem flat_len (l : List S76) : (flatL l).length = l.length * 2 := by
  induction l with
  | nil => rfl
  | cons r l ih => simp only [flatL, List.flatMap_cons, List.length_append, List.length_cons, List.length_nil] at ih ⊢; omega

set_option maxHeartbeats 16000000 in
set_option maxRecDepth 100000 in
theorem replyTells_law (x : S49) (A : Option Addr) (c : Nat) (A1 : Option Addr) (c1 : Nat) (b : List Int) (A2 : Option Addr) (c2 : Nat) (d : List Int) (A3 : Option Addr) (c3 : Nat) (l : List Int) (A4 : Option Addr) (c4 : Nat) (rs : List S76) (A5 : Option Addr) (c5 : Nat) (us : List Int) (w : World)
    (hC : Kd.C (Kd.int .u8) w A x.f3.length x.f3) (hc : x.f3.length ≤ c) (hb : bytesOk x.f3)
    (hC1 : Kd.C (Kd.int .u8) w A1 b.length b) (hc1 : b.length ≤ c1) (hb1 : bytesOk b) (hL1 : b.length ≤ 1048576)
    (hC2 : Kd.C (Kd.int .u8) w A2 d.length d) (hc2 : d.length ≤ c2) (hb2 : bytesOk d) (hL2 : d.length ≤ 1048576)
    (hC3 : Kd.C (Kd.int .i64) w A3 l.length l) (hc3 : l.length ≤ c3) (hL3 : l.length ≤ 1048576)
    (hC4 : Kd.C k76 w A4 rs.length rs) (hc4 : rs.length ≤ c4) (hL4 : rs.length ≤ 1048576)
    (hC5 : Kd.C (Kd.int .u64) w A5 us.length us) (hc5 : us.length ≤ c5) (hL5 : us.length ≤ 1048576) (ho5 : u64Ok us) :
    Calls Try.prog 10 #[.agg (xCells x A x.f3.length c), .slice A1 b.length c1, .slice A2 d.length c2, .slice A3 l.length c3, .slice A4 rs.length c4, .slice A5 us.length c5] w fun e w' => e = .returned (.bool true) ∧ Below w.heap.size w w' := by
  obtain ⟨n, hn⟩ : ∃ n, x.f3.length = n := ⟨_, rfl⟩
  have H0 := Aside0.mk (And.intro hC (And.intro hc (And.intro hb hn)))
  have hnc : n ≤ c := by omega
  rw [hn]
  have H1 := Aside0.mk (And.intro hC1 (And.intro hc1 (And.intro hb1 hL1)))
  have H2 := Aside0.mk (And.intro hC2 (And.intro hc2 (And.intro hb2 hL2)))
  have H3 := Aside0.mk (And.intro hC3 (And.intro hc3 hL3))
  have H4 := Aside0.mk (And.intro hC4 (And.intro hc4 hL4))
  have H5 := Aside0.mk (And.intro hC5 (And.intro hc5 (And.intro hL5 ho5)))
  have hrl : (rs.length : Int) ≤ 1048576 := by omega
  clear hC hc hb hn hC1 hc1 hb1 hL1 hC2 hc2 hb2 hL2 hC3 hc3 hL3 hC4 hc4 hL4 hC5 hc5 hL5 ho5
  obtain ⟨X, er, hX⟩ : ∃ X er, rdM b = (X, er) := ⟨_, _, rfl⟩
  obtain ⟨N, hN⟩ : ∃ n, X.f3.length = n := ⟨_, rfl⟩
  obtain ⟨L, le, hL⟩ : ∃ L le, allM d = (L, le) := ⟨_, _, rfl⟩
  have HX := Aside0.mk (And.intro hX hN)
  have HL := Aside0.mk hL
  clear hX hL hN
  obtain ⟨r, hr⟩ : ∃ r, w.heap.size = r := ⟨_, rfl⟩
  have HR := Aside0.mk hr
  have HA := Aside0.mk (And.intro (below_alloc (Below.refl w.heap.size w) (.cells (xCells x A n c) 49)) (blk_new w (.cells (xCells x A n c) 49)))
  go_enter Try.func10, Try.ntmps10
  go_wp2_with fail
  clear hr
  obtain ⟨w1, hw1⟩ : ∃ w1, w.alloc (.cells (xCells x A n c) 49) = w1 := ⟨_, rfl⟩
  rw [hw1] at HA ⊢
  have hx1 := HA.out.2
  rw [HR.out] at hx1
  have HX1 := Aside0.mk hx1
  have HB1 := Aside0.mk HA.out.1
  clear hw1 hx1 HA
  refine (Read_at A1 b.length c1 _ b (Kd.C_below H1.out.1 HB1.out) rfl H1.out.2.1 H1.out.2.2.1 (by have := H1.out.2.2.2; omega) X er HX.out.1).mono ?_
  rintro e w2 ⟨By, cy, rfl, hR, hB⟩
  rw [HX.out.2] at hR ⊢
  obtain ⟨ry, hry⟩ : ∃ r, w2.heap.size = r := ⟨_, rfl⟩
  have HRY := Aside0.mk hry
  have HA := Aside0.mk (And.intro (below_alloc (Below.refl w2.heap.size w2) (.cells (xCells X By N cy) 49)) (blk_new w2 (.cells (xCells X By N cy) 49)))
  have HB2 := Aside0.mk (below_step HB1.out hB)
  have HX2 := Aside0.mk (blk_below HX1.out hB)
  have HY2 := Aside0.mk (Kd.R_reads' hR).2
  clear hR hB HB1 HX1
  go_wp2_with fail
  clear hry
  obtain ⟨w3, hw3⟩ : ∃ w3, w2.alloc (.cells (xCells X By N cy) 49) = w3 := ⟨_, rfl⟩
  rw [hw3] at HA ⊢
  have hy3 := HA.out.2
  rw [HRY.out] at hy3
  have HB3 := Aside0.mk (below_step HB2.out HA.out.1)
  have HX3 := Aside0.mk (And.intro (blk_below HX2.out HA.out.1) hy3)
  have HY3 := Aside0.mk (And.intro HY2.out.1 (Kd.C_below HY2.out.2 HA.out.1))
  clear hw3 hy3 HA HB2 HX2 HY2
  refine (rRead_calls A1 c1 b w _ HB3.out H1.out.1 H1.out.2.1 H1.out.2.2.1 X er HX.out.1).mono ?_
  rintro e w4 ⟨⟨Bz, cz, rfl, hR, hcz⟩, hB⟩
  rw [HX.out.2] at hcz ⊢
  obtain ⟨rz, hrz⟩ : ∃ r, w4.heap.size = r := ⟨_, rfl⟩
  have HRZ := Aside0.mk hrz
  have HA := Aside0.mk (And.intro (below_alloc (Below.refl w4.heap.size w4) (.cells (xCells X Bz N cz) 49)) (blk_new w4 (.cells (xCells X Bz N cz) 49)))
  have HB4 := Aside0.mk (below_step HB3.out hB)
  have HX4 := Aside0.mk (And.intro (blk_below HX3.out.1 hB) (blk_below HX3.out.2 hB))
  have HY4 := Aside0.mk (And.intro HY3.out.1 (And.intro (Kd.C_below HY3.out.2 hB) (And.intro hcz hR)))
  clear hR hB hcz HB3 HX3 HY3
  go_wp2_with fail
  clear hrz
  obtain ⟨w5, hw5⟩ : ∃ w5, w4.alloc (.cells (xCells X Bz N cz) 49) = w5 := ⟨_, rfl⟩
  rw [hw5] at HA ⊢
  have hz5 := HA.out.2
  rw [HRZ.out] at hz5
  have HB5 := Aside0.mk (below_step HB4.out HA.out.1)
  have HX5 := Aside0.mk (And.intro (blk_below HX4.out.1 HA.out.1) (And.intro (blk_below HX4.out.2 HA.out.1) hz5))
  have HY5 := Aside0.mk (And.intro HY4.out.1 (And.intro (Kd.C_below HY4.out.2.1 HA.out.1) (And.intro HY4.out.2.2.1 (Kd.C_below HY4.out.2.2.2 (below_step HB4.out HA.out.1)))))
  clear hw5 hz5 HA HB4 HX4 HY4
  refine (RepAll_at A2 d.length c2 _ d (Kd.C_below H2.out.1 HB5.out) rfl H2.out.2.1 H2.out.2.2.1 (by have := H2.out.2.2.2; omega) L le HL.out).mono ?_
  rintro e w6 ⟨Bu, cu, rfl, hR, hB⟩
  have HB6 := Aside0.mk (below_step HB5.out hB)
  have HX6 := Aside0.mk (And.intro (blk_below HX5.out.1 hB) (And.intro (blk_below HX5.out.2.1 hB) (blk_below HX5.out.2.2 hB)))
  have HY6 := Aside0.mk (And.intro HY5.out.1 (And.intro (Kd.C_below HY5.out.2.1 hB) (And.intro HY5.out.2.2.1 (Kd.C_below HY5.out.2.2.2 hB))))
  have HU6 := Aside0.mk (Kd.R_reads' hR).2
  clear hR hB HB5 HX5 HY5
  go_wp2_with fail
  refine (rRepAll_at A2 d.length c2 _ d (Kd.C_below H2.out.1 HB6.out) rfl H2.out.2.1 H2.out.2.2.1 (by have := H2.out.2.2.2; omega) L le HL.out).mono ?_
  rintro e w7 ⟨Bv, cv, rfl, hR, hB⟩
  have T7 : Aside0 (TP w w7 r ry rz x X A By Bz n c N cy cz L Bu Bv) := ⟨⟨below_step HB6.out hB, blk_below HX6.out.1 hB, blk_below HX6.out.2.1 hB, blk_below HX6.out.2.2 hB, Kd.C_below HY6.out.2.1 hB, Kd.C_below HY6.out.2.2.2 hB, Kd.C_below HU6.out.2 hB, FO_C (Kd.R_reads' hR).2.2 hB⟩⟩
  have HCC : Aside0 (N ≤ cy ∧ N ≤ cz ∧ L.length ≤ cu ∧ L.length ≤ cv ∧ L.length ≤ 1048576) := ⟨by
    refine ⟨HY6.out.1, HY6.out.2.2.1, HU6.out.1, (Kd.R_reads' hR).2.1, ?_⟩
    have := allM_len HL.out
    have := H2.out.2.2.2
    omega⟩
  clear hR hB HB6 HX6 HY6 HU6
  go_wp2_with fail
  go_loopg [21, 22] rs.length (fun kq v21 v22 w' => ∃ (p : Nat), v22 = .int .i64 p ∧ p + kq = rs.length ∧ Aside0 (Kd.R (Kd.int .i64) 3 w' w7.heap.size (fun _ => True) v21 (flatL (rs.take p))) ∧ Aside0 (Below w7.heap.size w7 w'))
  case atStart => exact ⟨0, rfl, by omega, ⟨Kd.R_nil _ _ _ _ _⟩, ⟨Below.refl _ _⟩⟩
  case round =>
    obtain ⟨p, rfl, hp, H21, HB⟩ := hrel
    obtain ⟨A21, c21, e21⟩ := Kd.R_slice H21.out
    subst e21
    cases gk with
    | zero =>
      obtain rfl : p = rs.length := by omega
      clear hp
      rw [List.take_length] at H21
      rw [List.take_length]
      obtain ⟨f, hf⟩ : ∃ f, flatL rs = f := ⟨_, rfl⟩
      have HFL : Aside0 (f.length ≤ 2097152 ∧ refsL rs = numsL f) := ⟨by rw [← hf]; exact ⟨by rw [flat_len]; omega, refs_flat rs⟩⟩
      rw [hf] at H21
      rw [hf]
      clear hf
      have T8 := Aside0.mk (T7.out.step HB.out)
      have F8 := Aside0.mk (Kd.R_reads' H21.out).2
      clear H21 HB
      obtain ⟨bm, hbm⟩ : ∃ bm, mayX x = bm := ⟨_, rfl⟩
      obtain ⟨m, hm⟩ : ∃ m, msgB x = m := ⟨_, rfl⟩
      obtain ⟨nm, hnm⟩ : ∃ m, numsL l = m := ⟨_, rfl⟩
      obtain ⟨rm, hrm⟩ : ∃ m, refsL rs = m := ⟨_, rfl⟩
      obtain ⟨am, ham⟩ : ∃ m, amtsL us = m := ⟨_, rfl⟩
      have HV := Aside0.mk (And.intro hbm (And.intro hm (And.intro hnm (And.intro hrm ham))))
      clear hbm hm hnm hrm ham
      go_wp2_with fail
      as_aux_lemma =>
      refine start_ (n := 65) (S := fun w' => TP w w' r ry rz x X A By Bz n c N cy cz L Bu Bv ∧ Kd.C (Kd.int .i64) w' A21 f.length f ∧ w'.cell? ⟨r, 0, none⟩ = some (.int .i64 x.f0) ∧ w'.cell? ⟨r, 1, none⟩ = some (.int .i64 x.f1) ∧ w'.cell? ⟨r, 2, none⟩ = some (.int .i64 x.f2) ∧ w'.cell? ⟨r, 3, none⟩ = some (.slice A n c) ∧ w'.cell? ⟨ry, 0, none⟩ = some (.int .i64 X.f0) ∧ w'.cell? ⟨ry, 1, none⟩ = some (.int .i64 X.f1) ∧ w'.cell? ⟨ry, 2, none⟩ = some (.int .i64 X.f2) ∧ w'.cell? ⟨ry, 3, none⟩ = some (.slice By N cy) ∧ w'.cell? ⟨rz, 0, none⟩ = some (.int .i64 X.f0) ∧ w'.cell? ⟨rz, 1, none⟩ = some (.int .i64 X.f1) ∧ w'.cell? ⟨rz, 2, none⟩ = some (.int .i64 X.f2) ∧ w'.cell? ⟨rz, 3, none⟩ = some (.slice Bz N cz)) (ds := []) #[false, false, false, false, false, false, false, false, false, false, false, false, false, false, false, false, false, false, false, false, false, false, false, false, false, false, false, false, false, false, false, false, false, false, false, false, false, false, false, false, false, false, false, false, false, false, false, false, false, false, false, false, false, false, false, false, false, false, false, false, false, false, false, false, false] (by kernel_rfl) rfl rfl ⟨T8.out.step (below_drew (Below.refl _ _)), Kd.C_below F8.out.2 (below_drew (Below.refl _ _)), blk_cell (T8.out.step (below_drew (Below.refl _ _))).b0 0, blk_cell (T8.out.step (below_drew (Below.refl _ _))).b0 1, blk_cell (T8.out.step (below_drew (Below.refl _ _))).b0 2, blk_cell (T8.out.step (below_drew (Below.refl _ _))).b0 3, blk_cell (T8.out.step (below_drew (Below.refl _ _))).by_ 0, blk_cell (T8.out.step (below_drew (Below.refl _ _))).by_ 1, blk_cell (T8.out.step (below_drew (Below.refl _ _))).by_ 2, blk_cell (T8.out.step (below_drew (Below.refl _ _))).by_ 3, blk_cell (T8.out.step (below_drew (Below.refl _ _))).bz 0, blk_cell (T8.out.step (below_drew (Below.refl _ _))).bz 1, blk_cell (T8.out.step (below_drew (Below.refl _ _))).bz 2, blk_cell (T8.out.step (below_drew (Below.refl _ _))).bz 3⟩ (fun hHeld => ?_)
      refine one_ (i := 0) (N := some 62) #[true, false, false, false, false, false, false, false, false, false, false, false, false, false, false, false, false, false, false, false, false, false, false, false, false, false, false, false, false, false, false, false, false, false, false, false, false, false, false, false, false, false, false, false, false, false, false, false, false, false, false, false, false, false, false, false, false, false, false, false, false, false, false, false, false] rfl rfl (by kernel_rfl) (by decide) (fun K hK => ?_)
      refine goes_ Try.func39 (by kernel_rfl) rfl #[] (by rfl) rfl rfl (by simp only [List.map_toArray, List.map_nil]) ?_
      with_reducible refine (alive27_calls _).mono ?_
      rintro e W0 ⟨rfl, hB⟩
      refine ⟨_, rfl, ?_⟩
      have T := And.intro (hHeld.1.step hB) (Kd.C_below hHeld.2.1 hB)
      clear hHeld hB
      refine hK.out _ _ ⟨T.1, T.2, blk_cell T.1.b0 0, blk_cell T.1.b0 1, blk_cell T.1.b0 2, blk_cell T.1.b0 3, blk_cell T.1.by_ 0, blk_cell T.1.by_ 1, blk_cell T.1.by_ 2, blk_cell T.1.by_ 3, blk_cell T.1.bz 0, blk_cell T.1.bz 1, blk_cell T.1.bz 2, blk_cell T.1.bz 3⟩ (fun hHeld => ?_)
      clear hK K
      refine norm_ (a' := ?_) ?_ ?_
      rotate_left
      · show Act.put _ (some 62) _ = _
        simp only [Act.put, List.setIfInBounds_toArray, List.set_cons_zero, List.set_cons_succ, i64_w, i32_w]
        rfl
      refine pure_ (i := 1) (N := some 63) (v := ?_) (a' := ?_) #[true, true, false, false, false, false, false, false, false, false, false, false, false, false, false, false, false, false, false, false, false, false, false, false, false, false, false, false, false, false, false, false, false, false, false, false, false, false, false, false, false, false, false, false, false, false, false, false, false, false, false, false, false, false, false, false, false, false, false, false, false, false, false, false, false] rfl rfl (by kernel_rfl) (fun _ _ _ h => h) (Or.inl ⟨by rfl, ?_⟩) ?_ ?_
      rotate_left
      · intro w'
        go_simp
        with_reducible rfl
      rotate_left
      · simp only [Act.put, List.setIfInBounds_toArray, List.set_cons_zero, List.set_cons_succ, i64_w, i32_w]
        rfl
      refine take_ (i := 2) (N := some 64) (v := ?_) (a' := ?_) #[true, true, true, false, false, false, false, false, false, false, false, false, false, false, false, false, false, false, false, false, false, false, false, false, false, false, false, false, false, false, false, false, false, false, false, false, false, false, false, false, false, false, false, false, false, false, false, false, false, false, false, false, false, false, false, false, false, false, false, false, false, false, false, false, false] rfl rfl (by kernel_rfl) (fun _ _ _ h => h) (Or.inl ⟨by rfl, ?_⟩) hHeld ?_ ?_
      rotate_left
      · rintro w' ⟨s0, s1, s2, s3, s4, s5, s6, s7, s8, s9, s10, s11, s12, s13⟩
        go_simp
        with_reducible rfl
      rotate_left
      · simp only [Act.put, List.setIfInBounds_toArray, List.set_cons_zero, List.set_cons_succ, i64_w, i32_w]
        rfl
      refine take_ (i := 4) (N := some 66) (v := ?_) (a' := ?_) #[true, true, true, false, true, false, false, false, false, false, false, false, false, false, false, false, false, false, false, false, false, false, false, false, false, false, false, false, false, false, false, false, false, false, false, false, false, false, false, false, false, false, false, false, false, false, false, false, false, false, false, false, false, false, false, false, false, false, false, false, false, false, false, false, false] rfl rfl (by kernel_rfl) (fun _ _ _ h => h) (Or.inl ⟨by rfl, ?_⟩) hHeld ?_ ?_
      rotate_left
      · rintro w' ⟨s0, s1, s2, s3, s4, s5, s6, s7, s8, s9, s10, s11, s12, s13⟩
        go_simp
        with_reducible rfl
      rotate_left
      · simp only [Act.put, List.setIfInBounds_toArray, List.set_cons_zero, List.set_cons_succ, i64_w, i32_w]
        rfl
      refine one_ (i := 3) (N := some 65) #[true, true, true, true, true, false, false, false, false, false, false, false, false, false, false, false, false, false, false, false, false, false, false, false, false, false, false, false, false, false, false, false, false, false, false, false, false, false, false, false, false, false, false, false, false, false, false, false, false, false, false, false, false, false, false, false, false, false, false, false, false, false, false, false, false] rfl rfl (by kernel_rfl) (by decide) (fun K hK => ?_)
      clear T
      refine goes_ Try.func40 (by kernel_rfl) rfl #[.agg #[.int .i64 x.f0, .int .i64 x.f1, .int .i64 x.f2, .slice A n c]] (by rfl) rfl rfl (by simp only [List.map_toArray, List.map_cons, List.map_nil]; rfl) ?_
      with_reducible refine (May_calls x A n c _ (Kd.C_below H0.out.1 hHeld.1.below) H0.out.2.2.2.symm hnc bm HV.out.1).mono ?_
      rintro e W3 ⟨rfl, hB⟩
      refine ⟨_, rfl, ?_⟩
      have T := And.intro (hHeld.1.step hB) (Kd.C_below hHeld.2.1 hB)
      clear hHeld hB
      refine hK.out _ _ ⟨T.1, T.2, blk_cell T.1.b0 0, blk_cell T.1.b0 1, blk_cell T.1.b0 2, blk_cell T.1.b0 3, blk_cell T.1.by_ 0, blk_cell T.1.by_ 1, blk_cell T.1.by_ 2, blk_cell T.1.by_ 3, blk_cell T.1.bz 0, blk_cell T.1.bz 1, blk_cell T.1.bz 2, blk_cell T.1.bz 3⟩ (fun hHeld => ?_)
      clear hK K
      refine norm_ (a' := ?_) ?_ ?_
      rotate_left
      · show Act.put _ (some 65) _ = _
        simp only [Act.put, List.setIfInBounds_toArray, List.set_cons_zero, List.set_cons_succ, i64_w, i32_w]
        rfl
      refine one_ (i := 5) (N := some 67) #[true, true, true, true, true, true, false, false, false, false, false, false, false, false, false, false, false, false, false, false, false, false, false, false, false, false, false, false, false, false, false, false, false, false, false, false, false, false, false, false, false, false, false, false, false, false, false, false, false, false, false, false, false, false, false, false, false, false, false, false, false, false, false, false, false] rfl rfl (by kernel_rfl) (by decide) (fun K hK => ?_)
      clear T
      refine goes_ Try.func41 (by kernel_rfl) rfl #[.agg #[.int .i64 x.f0, .int .i64 x.f1, .int .i64 x.f2, .slice A n c]] (by rfl) rfl rfl (by simp only [List.map_toArray, List.map_cons, List.map_nil]; rfl) ?_
      with_reducible refine (rMay_calls x A n c _ (Kd.C_below H0.out.1 hHeld.1.below) H0.out.2.2.2.symm hnc bm HV.out.1).mono ?_
      rintro e W5 ⟨rfl, hB⟩
      refine ⟨_, rfl, ?_⟩
      have T := And.intro (hHeld.1.step hB) (Kd.C_below hHeld.2.1 hB)
      clear hHeld hB
      refine hK.out _ _ ⟨T.1, T.2, blk_cell T.1.b0 0, blk_cell T.1.b0 1, blk_cell T.1.b0 2, blk_cell T.1.b0 3, blk_cell T.1.by_ 0, blk_cell T.1.by_ 1, blk_cell T.1.by_ 2, blk_cell T.1.by_ 3, blk_cell T.1.bz 0, blk_cell T.1.bz 1, blk_cell T.1.bz 2, blk_cell T.1.bz 3⟩ (fun hHeld => ?_)
      clear hK K
      refine norm_ (a' := ?_) ?_ ?_
      rotate_left
      · show Act.put _ (some 67) _ = _
        simp only [Act.put, List.setIfInBounds_toArray, List.set_cons_zero, List.set_cons_succ, i64_w, i32_w]
        rfl
      refine pure_ (i := 6) (N := some 68) (v := ?_) (a' := ?_) #[true, true, true, true, true, true, true, false, false, false, false, false, false, false, false, false, false, false, false, false, false, false, false, false, false, false, false, false, false, false, false, false, false, false, false, false, false, false, false, false, false, false, false, false, false, false, false, false, false, false, false, false, false, false, false, false, false, false, false, false, false, false, false, false, false] rfl rfl (by kernel_rfl) (fun _ _ _ h => h) (Or.inl ⟨by rfl, ?_⟩) ?_ ?_
      rotate_left
      · intro w'
        go_simp
        with_reducible rfl
      rotate_left
      · simp only [Act.put, List.setIfInBounds_toArray, List.set_cons_zero, List.set_cons_succ, i64_w, i32_w]
        rfl
      refine pure_ (i := 7) (N := some 69) (v := ?_) (a' := ?_) #[true, true, true, true, true, true, true, true, false, false, false, false, false, false, false, false, false, false, false, false, false, false, false, false, false, false, false, false, false, false, false, false, false, false, false, false, false, false, false, false, false, false, false, false, false, false, false, false, false, false, false, false, false, false, false, false, false, false, false, false, false, false, false, false, false] rfl rfl (by kernel_rfl) (fun _ _ _ h => h) (Or.inl ⟨by rfl, ?_⟩) ?_ ?_
      rotate_left
      · intro w'
        go_simp
        with_reducible rfl
      rotate_left
      · simp only [Act.put, List.setIfInBounds_toArray, List.set_cons_zero, List.set_cons_succ, i64_w, i32_w]
        rfl
      refine pure_ (i := 8) (N := some 70) (v := ?_) (a' := ?_) #[true, true, true, true, true, true, true, true, true, false, false, false, false, false, false, false, false, false, false, false, false, false, false, false, false, false, false, false, false, false, false, false, false, false, false, false, false, false, false, false, false, false, false, false, false, false, false, false, false, false, false, false, false, false, false, false, false, false, false, false, false, false, false, false, false] rfl rfl (by kernel_rfl) (fun _ _ _ h => h) (Or.inl ⟨by rfl, ?_⟩) ?_ ?_
      rotate_left
      · intro w'
        go_simp
        with_reducible rfl
      rotate_left
      · simp only [Act.put, List.setIfInBounds_toArray, List.set_cons_zero, List.set_cons_succ, i64_w, i32_w]
        rfl
      refine take_ (i := 9) (N := some 71) (v := ?_) (a' := ?_) #[true, true, true, true, true, true, true, true, true, true, false, false, false, false, false, false, false, false, false, false, false, false, false, false, false, false, false, false, false, false, false, false, false, false, false, false, false, false, false, false, false, false, false, false, false, false, false, false, false, false, false, false, false, false, false, false, false, false, false, false, false, false, false, false, false] rfl rfl (by kernel_rfl) (fun _ _ _ h => h) (Or.inl ⟨by rfl, ?_⟩) hHeld ?_ ?_
      rotate_left
      · rintro w' ⟨s0, s1, s2, s3, s4, s5, s6, s7, s8, s9, s10, s11, s12, s13⟩
        go_simp
        with_reducible rfl
      rotate_left
      · simp only [Act.put, List.setIfInBounds_toArray, List.set_cons_zero, List.set_cons_succ, i64_w, i32_w]
        rfl
      refine take_ (i := 12) (N := some 74) (v := ?_) (a' := ?_) #[true, true, true, true, true, true, true, true, true, true, false, false, true, false, false, false, false, false, false, false, false, false, false, false, false, false, false, false, false, false, false, false, false, false, false, false, false, false, false, false, false, false, false, false, false, false, false, false, false, false, false, false, false, false, false, false, false, false, false, false, false, false, false, false, false] rfl rfl (by kernel_rfl) (fun _ _ _ h => h) (Or.inl ⟨by rfl, ?_⟩) hHeld ?_ ?_
      rotate_left
      · rintro w' ⟨s0, s1, s2, s3, s4, s5, s6, s7, s8, s9, s10, s11, s12, s13⟩
        go_simp
        with_reducible rfl
      rotate_left
      · simp only [Act.put, List.setIfInBounds_toArray, List.set_cons_zero, List.set_cons_succ, i64_w, i32_w]
        rfl
      refine one_ (i := 10) (N := some 72) #[true, true, true, true, true, true, true, true, true, true, true, false, true, false, false, false, false, false, false, false, false, false, false, false, false, false, false, false, false, false, false, false, false, false, false, false, false, false, false, false, false, false, false, false, false, false, false, false, false, false, false, false, false, false, false, false, false, false, false, false, false, false, false, false, false] rfl rfl (by kernel_rfl) (by decide) (fun K hK => ?_)
      clear T
      refine goes_ Try.func42 (by kernel_rfl) rfl #[.agg #[.int .i64 x.f0, .int .i64 x.f1, .int .i64 x.f2, .slice A n c]] (by rfl) rfl rfl (by simp only [List.map_toArray, List.map_cons, List.map_nil]; rfl) ?_
      with_reducible refine (RWrap_at x A n c _ (Kd.C_below H0.out.1 hHeld.1.below) H0.out.2.2.2.symm hnc H0.out.2.2.1 m HV.out.2.1).mono ?_
      rintro e W10 ⟨B1, d1, rfl, hR, hB⟩
      refine ⟨_, rfl, ?_⟩
      have T := And.intro (hHeld.1.step hB) (Kd.C_below hHeld.2.1 hB)
      have D1 := Aside0.mk (Kd.R_reads' hR).2.2
      clear hHeld hR hB
      refine hK.out _ _ ⟨T.1, T.2, blk_cell T.1.b0 0, blk_cell T.1.b0 1, blk_cell T.1.b0 2, blk_cell T.1.b0 3, blk_cell T.1.by_ 0, blk_cell T.1.by_ 1, blk_cell T.1.by_ 2, blk_cell T.1.by_ 3, blk_cell T.1.bz 0, blk_cell T.1.bz 1, blk_cell T.1.bz 2, blk_cell T.1.bz 3⟩ (fun hHeld => ?_)
      clear hK K
      refine norm_ (a' := ?_) ?_ ?_
      rotate_left
      · show Act.put _ (some 72) _ = _
        simp only [Act.put, List.setIfInBounds_toArray, List.set_cons_zero, List.set_cons_succ, i64_w, i32_w]
        rfl
      refine join_ (σ := Value) 50 #[true, true, true, true, true, true, true, true, true, true, true, true, true, true, true, false, false, false, false, false, false, false, false, false, false, false, false, false, false, false, false, false, false, false, false, false, false, false, false, false, false, false, false, false, false, false, false, false, false, false, false, false, false, false, false, false, false, false, false, false, false, false, false, false, false] (fun s_ => [(73, .string (strOfNums m)), (75, s_), (76, .string (strOfNums m))]) (fun s_ w' => TP w w' r ry rz x X A By Bz n c N cy cz L Bu Bv ∧ Kd.C (Kd.int .i64) w' A21 f.length f ∧ w'.cell? ⟨r, 0, none⟩ = some (.int .i64 x.f0) ∧ w'.cell? ⟨r, 1, none⟩ = some (.int .i64 x.f1) ∧ w'.cell? ⟨r, 2, none⟩ = some (.int .i64 x.f2) ∧ w'.cell? ⟨r, 3, none⟩ = some (.slice A n c) ∧ w'.cell? ⟨ry, 0, none⟩ = some (.int .i64 X.f0) ∧ w'.cell? ⟨ry, 1, none⟩ = some (.int .i64 X.f1) ∧ w'.cell? ⟨ry, 2, none⟩ = some (.int .i64 X.f2) ∧ w'.cell? ⟨ry, 3, none⟩ = some (.slice By N cy) ∧ w'.cell? ⟨rz, 0, none⟩ = some (.int .i64 X.f0) ∧ w'.cell? ⟨rz, 1, none⟩ = some (.int .i64 X.f1) ∧ w'.cell? ⟨rz, 2, none⟩ = some (.int .i64 X.f2) ∧ w'.cell? ⟨rz, 3, none⟩ = some (.slice Bz N cz)) ?_ ?_
      rotate_left
      · intro hCont
        as_aux_lemma =>
        refine two_ (i := 11) (j := 13) (Ni := some 73) (Nj := some 75) #[true, true, true, true, true, true, true, true, true, true, true, true, true, false, false, false, false, false, false, false, false, false, false, false, false, false, false, false, false, false, false, false, false, false, false, false, false, false, false, false, false, false, false, false, false, false, false, false, false, false, false, false, false, false, false, false, false, false, false, false, false, false, false, false, false] #[true, true, true, true, true, true, true, true, true, true, true, false, true, true, false, false, false, false, false, false, false, false, false, false, false, false, false, false, false, false, false, false, false, false, false, false, false, false, false, false, false, false, false, false, false, false, false, false, false, false, false, false, false, false, false, false, false, false, false, false, false, false, false, false, false] rfl rfl rfl rfl (by kernel_rfl) (by decide) (by decide) (fun K hK => ?_) (fun K hK => ?_)
        · skip
          clear T
          have s1 := Kd.C_string (P := Try.prog) (A := B1) (c := d1) Try.underlying22 Try.underlying5 Try.underlying9 D1.out
          refine value_ (w1 := ?_) (v := ?_) (by rfl) rfl ?_ ?_
          rotate_left 2
          · go_simp
            constructor
            · rfl
            · rfl
          have T := And.intro hHeld.1 hHeld.2.1
          clear s1 hHeld
          refine hK.out _ _ ⟨T.1, T.2, blk_cell T.1.b0 0, blk_cell T.1.b0 1, blk_cell T.1.b0 2, blk_cell T.1.b0 3, blk_cell T.1.by_ 0, blk_cell T.1.by_ 1, blk_cell T.1.by_ 2, blk_cell T.1.by_ 3, blk_cell T.1.bz 0, blk_cell T.1.bz 1, blk_cell T.1.bz 2, blk_cell T.1.bz 3⟩ (fun hHeld => ?_)
          clear hK K
          refine norm_ (a' := ?_) ?_ ?_
          rotate_left
          · show Act.put _ (some 73) _ = _
            simp only [Act.put, List.setIfInBounds_toArray, List.set_cons_zero, List.set_cons_succ, i64_w, i32_w]
            rfl
          refine one_ (i := 13) (N := some 75) #[true, true, true, true, true, true, true, true, true, true, true, true, true, true, false, false, false, false, false, false, false, false, false, false, false, false, false, false, false, false, false, false, false, false, false, false, false, false, false, false, false, false, false, false, false, false, false, false, false, false, false, false, false, false, false, false, false, false, false, false, false, false, false, false, false] rfl rfl (by kernel_rfl) (by decide) (fun K hK => ?_)
          clear T
          refine goes_ Try.func43 (by kernel_rfl) rfl #[.agg #[.int .i64 x.f0, .int .i64 x.f1, .int .i64 x.f2, .slice A n c]] (by rfl) rfl rfl (by simp only [List.map_toArray, List.map_cons, List.map_nil]; rfl) ?_
          with_reducible refine (rRWrap_at x A n c _ (Kd.C_below H0.out.1 hHeld.1.below) H0.out.2.2.2.symm hnc H0.out.2.2.1 m HV.out.2.1).mono ?_
          rintro e W13 ⟨B2, d2, rfl, hR, hB⟩
          refine ⟨_, rfl, ?_⟩
          have T := And.intro (hHeld.1.step hB) (Kd.C_below hHeld.2.1 hB)
          have D2 := Aside0.mk (Kd.R_reads' hR).2.2
          replace D1 := Aside0.mk (Kd.C_below D1.out hB)
          clear hHeld hR hB
          refine hK.out _ _ ⟨T.1, T.2, blk_cell T.1.b0 0, blk_cell T.1.b0 1, blk_cell T.1.b0 2, blk_cell T.1.b0 3, blk_cell T.1.by_ 0, blk_cell T.1.by_ 1, blk_cell T.1.by_ 2, blk_cell T.1.by_ 3, blk_cell T.1.bz 0, blk_cell T.1.bz 1, blk_cell T.1.bz 2, blk_cell T.1.bz 3⟩ (fun hHeld => ?_)
          clear hK K
          refine norm_ (a' := ?_) ?_ ?_
          rotate_left
          · show Act.put _ (some 75) _ = _
            simp only [Act.put, List.setIfInBounds_toArray, List.set_cons_zero, List.set_cons_succ, i64_w, i32_w]
            rfl
          refine one_ (i := 14) (N := some 76) #[true, true, true, true, true, true, true, true, true, true, true, true, true, true, true, false, false, false, false, false, false, false, false, false, false, false, false, false, false, false, false, false, false, false, false, false, false, false, false, false, false, false, false, false, false, false, false, false, false, false, false, false, false, false, false, false, false, false, false, false, false, false, false, false, false] rfl rfl (by kernel_rfl) (by decide) (fun K hK => ?_)
          clear T
          have s2 := Kd.C_string (P := Try.prog) (A := B2) (c := d2) Try.underlying22 Try.underlying5 Try.underlying9 D2.out
          refine value_ (w1 := ?_) (v := ?_) (by rfl) rfl ?_ ?_
          rotate_left 2
          · go_simp
            constructor
            · rfl
            · rfl
          have T := And.intro hHeld.1 hHeld.2.1
          clear s2 hHeld
          refine hK.out _ _ ⟨T.1, T.2, blk_cell T.1.b0 0, blk_cell T.1.b0 1, blk_cell T.1.b0 2, blk_cell T.1.b0 3, blk_cell T.1.by_ 0, blk_cell T.1.by_ 1, blk_cell T.1.by_ 2, blk_cell T.1.by_ 3, blk_cell T.1.bz 0, blk_cell T.1.bz 1, blk_cell T.1.bz 2, blk_cell T.1.bz 3⟩ (fun hHeld => ?_)
          clear hK K
          refine norm_ (a' := ?_) ?_ ?_
          rotate_left
          · show Act.put _ (some 76) _ = _
            simp only [Act.put, List.setIfInBounds_toArray, List.set_cons_zero, List.set_cons_succ, i64_w, i32_w]
            rfl
          exact norm_ (by simp only [putAll, Act.put, List.setIfInBounds_toArray, List.set_cons_zero, List.set_cons_succ]) (hCont (.slice B2 m.length d2) _ hHeld)
        · skip
          clear T
          refine goes_ Try.func43 (by kernel_rfl) rfl #[.agg #[.int .i64 x.f0, .int .i64 x.f1, .int .i64 x.f2, .slice A n c]] (by rfl) rfl rfl (by simp only [List.map_toArray, List.map_cons, List.map_nil]; rfl) ?_
          with_reducible refine (rRWrap_at x A n c _ (Kd.C_below H0.out.1 hHeld.1.below) H0.out.2.2.2.symm hnc H0.out.2.2.1 m HV.out.2.1).mono ?_
          rintro e W13 ⟨B2, d2, rfl, hR, hB⟩
          refine ⟨_, rfl, ?_⟩
          have T := And.intro (hHeld.1.step hB) (Kd.C_below hHeld.2.1 hB)
          have D2 := Aside0.mk (Kd.R_reads' hR).2.2
          replace D1 := Aside0.mk (Kd.C_below D1.out hB)
          clear hHeld hR hB
          refine hK.out _ _ ⟨T.1, T.2, blk_cell T.1.b0 0, blk_cell T.1.b0 1, blk_cell T.1.b0 2, blk_cell T.1.b0 3, blk_cell T.1.by_ 0, blk_cell T.1.by_ 1, blk_cell T.1.by_ 2, blk_cell T.1.by_ 3, blk_cell T.1.bz 0, blk_cell T.1.bz 1, blk_cell T.1.bz 2, blk_cell T.1.bz 3⟩ (fun hHeld => ?_)
          clear hK K
          refine norm_ (a' := ?_) ?_ ?_
          rotate_left
          · show Act.put _ (some 75) _ = _
            simp only [Act.put, List.setIfInBounds_toArray, List.set_cons_zero, List.set_cons_succ, i64_w, i32_w]
            rfl
          refine two_ (i := 11) (j := 14) (Ni := some 73) (Nj := some 76) #[true, true, true, true, true, true, true, true, true, true, true, true, true, true, false, false, false, false, false, false, false, false, false, false, false, false, false, false, false, false, false, false, false, false, false, false, false, false, false, false, false, false, false, false, false, false, false, false, false, false, false, false, false, false, false, false, false, false, false, false, false, false, false, false, false] #[true, true, true, true, true, true, true, true, true, true, true, false, true, true, true, false, false, false, false, false, false, false, false, false, false, false, false, false, false, false, false, false, false, false, false, false, false, false, false, false, false, false, false, false, false, false, false, false, false, false, false, false, false, false, false, false, false, false, false, false, false, false, false, false, false] rfl rfl rfl rfl (by kernel_rfl) (by decide) (by decide) (fun K hK => ?_) (fun K hK => ?_)
          · skip
            clear T
            have s1 := Kd.C_string (P := Try.prog) (A := B1) (c := d1) Try.underlying22 Try.underlying5 Try.underlying9 D1.out
            refine value_ (w1 := ?_) (v := ?_) (by rfl) rfl ?_ ?_
            rotate_left 2
            · go_simp
              constructor
              · rfl
              · rfl
            have T := And.intro hHeld.1 hHeld.2.1
            clear s1 hHeld
            refine hK.out _ _ ⟨T.1, T.2, blk_cell T.1.b0 0, blk_cell T.1.b0 1, blk_cell T.1.b0 2, blk_cell T.1.b0 3, blk_cell T.1.by_ 0, blk_cell T.1.by_ 1, blk_cell T.1.by_ 2, blk_cell T.1.by_ 3, blk_cell T.1.bz 0, blk_cell T.1.bz 1, blk_cell T.1.bz 2, blk_cell T.1.bz 3⟩ (fun hHeld => ?_)
            clear hK K
            refine norm_ (a' := ?_) ?_ ?_
            rotate_left
            · show Act.put _ (some 73) _ = _
              simp only [Act.put, List.setIfInBounds_toArray, List.set_cons_zero, List.set_cons_succ, i64_w, i32_w]
              rfl
            refine one_ (i := 14) (N := some 76) #[true, true, true, true, true, true, true, true, true, true, true, true, true, true, true, false, false, false, false, false, false, false, false, false, false, false, false, false, false, false, false, false, false, false, false, false, false, false, false, false, false, false, false, false, false, false, false, false, false, false, false, false, false, false, false, false, false, false, false, false, false, false, false, false, false] rfl rfl (by kernel_rfl) (by decide) (fun K hK => ?_)
            clear T
            have s2 := Kd.C_string (P := Try.prog) (A := B2) (c := d2) Try.underlying22 Try.underlying5 Try.underlying9 D2.out
            refine value_ (w1 := ?_) (v := ?_) (by rfl) rfl ?_ ?_
            rotate_left 2
            · go_simp
              constructor
              · rfl
              · rfl
            have T := And.intro hHeld.1 hHeld.2.1
            clear s2 hHeld
            refine hK.out _ _ ⟨T.1, T.2, blk_cell T.1.b0 0, blk_cell T.1.b0 1, blk_cell T.1.b0 2, blk_cell T.1.b0 3, blk_cell T.1.by_ 0, blk_cell T.1.by_ 1, blk_cell T.1.by_ 2, blk_cell T.1.by_ 3, blk_cell T.1.bz 0, blk_cell T.1.bz 1, blk_cell T.1.bz 2, blk_cell T.1.bz 3⟩ (fun hHeld => ?_)
            clear hK K
            refine norm_ (a' := ?_) ?_ ?_
            rotate_left
            · show Act.put _ (some 76) _ = _
              simp only [Act.put, List.setIfInBounds_toArray, List.set_cons_zero, List.set_cons_succ, i64_w, i32_w]
              rfl
            exact norm_ (by simp only [putAll, Act.put, List.setIfInBounds_toArray, List.set_cons_zero, List.set_cons_succ]) (hCont (.slice B2 m.length d2) _ hHeld)
          · skip
            clear T
            have s2 := Kd.C_string (P := Try.prog) (A := B2) (c := d2) Try.underlying22 Try.underlying5 Try.underlying9 D2.out
            refine value_ (w1 := ?_) (v := ?_) (by rfl) rfl ?_ ?_
            rotate_left 2
            · go_simp
              constructor
              · rfl
              · rfl
            have T := And.intro hHeld.1 hHeld.2.1
            clear s2 hHeld
            refine hK.out _ _ ⟨T.1, T.2, blk_cell T.1.b0 0, blk_cell T.1.b0 1, blk_cell T.1.b0 2, blk_cell T.1.b0 3, blk_cell T.1.by_ 0, blk_cell T.1.by_ 1, blk_cell T.1.by_ 2, blk_cell T.1.by_ 3, blk_cell T.1.bz 0, blk_cell T.1.bz 1, blk_cell T.1.bz 2, blk_cell T.1.bz 3⟩ (fun hHeld => ?_)
            clear hK K
            refine norm_ (a' := ?_) ?_ ?_
            rotate_left
            · show Act.put _ (some 76) _ = _
              simp only [Act.put, List.setIfInBounds_toArray, List.set_cons_zero, List.set_cons_succ, i64_w, i32_w]
              rfl
            refine one_ (i := 11) (N := some 73) #[true, true, true, true, true, true, true, true, true, true, true, true, true, true, true, false, false, false, false, false, false, false, false, false, false, false, false, false, false, false, false, false, false, false, false, false, false, false, false, false, false, false, false, false, false, false, false, false, false, false, false, false, false, false, false, false, false, false, false, false, false, false, false, false, false] rfl rfl (by kernel_rfl) (by decide) (fun K hK => ?_)
            clear T
            have s1 := Kd.C_string (P := Try.prog) (A := B1) (c := d1) Try.underlying22 Try.underlying5 Try.underlying9 D1.out
            refine value_ (w1 := ?_) (v := ?_) (by rfl) rfl ?_ ?_
            rotate_left 2
            · go_simp
              constructor
              · rfl
              · rfl
            have T := And.intro hHeld.1 hHeld.2.1
            clear s1 hHeld
            refine hK.out _ _ ⟨T.1, T.2, blk_cell T.1.b0 0, blk_cell T.1.b0 1, blk_cell T.1.b0 2, blk_cell T.1.b0 3, blk_cell T.1.by_ 0, blk_cell T.1.by_ 1, blk_cell T.1.by_ 2, blk_cell T.1.by_ 3, blk_cell T.1.bz 0, blk_cell T.1.bz 1, blk_cell T.1.bz 2, blk_cell T.1.bz 3⟩ (fun hHeld => ?_)
            clear hK K
            refine norm_ (a' := ?_) ?_ ?_
            rotate_left
            · show Act.put _ (some 73) _ = _
              simp only [Act.put, List.setIfInBounds_toArray, List.set_cons_zero, List.set_cons_succ, i64_w, i32_w]
              rfl
            exact norm_ (by simp only [putAll, Act.put, List.setIfInBounds_toArray, List.set_cons_zero, List.set_cons_succ]) (hCont (.slice B2 m.length d2) _ hHeld)
      clear D1
      rintro v75 V13 hS_
      have hHeld : TP w V13 r ry rz x X A By Bz n c N cy cz L Bu Bv ∧ Kd.C (Kd.int .i64) V13 A21 f.length f ∧ V13.cell? ⟨r, 0, none⟩ = some (.int .i64 x.f0) ∧ V13.cell? ⟨r, 1, none⟩ = some (.int .i64 x.f1) ∧ V13.cell? ⟨r, 2, none⟩ = some (.int .i64 x.f2) ∧ V13.cell? ⟨r, 3, none⟩ = some (.slice A n c) ∧ V13.cell? ⟨ry, 0, none⟩ = some (.int .i64 X.f0) ∧ V13.cell? ⟨ry, 1, none⟩ = some (.int .i64 X.f1) ∧ V13.cell? ⟨ry, 2, none⟩ = some (.int .i64 X.f2) ∧ V13.cell? ⟨ry, 3, none⟩ = some (.slice By N cy) ∧ V13.cell? ⟨rz, 0, none⟩ = some (.int .i64 X.f0) ∧ V13.cell? ⟨rz, 1, none⟩ = some (.int .i64 X.f1) ∧ V13.cell? ⟨rz, 2, none⟩ = some (.int .i64 X.f2) ∧ V13.cell? ⟨rz, 3, none⟩ = some (.slice Bz N cz) := hS_
      clear hS_
      as_aux_lemma =>
      refine norm_ (a' := ?_) ?_ ?_
      rotate_left
      · simp only [putAll, Act.put, List.setIfInBounds_toArray, List.set_cons_zero, List.set_cons_succ]
        rfl
      refine pure_ (i := 15) (N := some 77) (v := ?_) (a' := ?_) #[true, true, true, true, true, true, true, true, true, true, true, true, true, true, true, true, false, false, false, false, false, false, false, false, false, false, false, false, false, false, false, false, false, false, false, false, false, false, false, false, false, false, false, false, false, false, false, false, false, false, false, false, false, false, false, false, false, false, false, false, false, false, false, false, false] rfl rfl (by kernel_rfl) (fun _ _ _ h => h) (Or.inl ⟨by rfl, ?_⟩) ?_ ?_
      rotate_left
      · intro w'
        go_simp
        with_reducible rfl
      rotate_left
      · simp only [Act.put, List.setIfInBounds_toArray, List.set_cons_zero, List.set_cons_succ, i64_w, i32_w]
        rfl
      refine pure_ (i := 16) (N := some 78) (v := ?_) (a' := ?_) #[true, true, true, true, true, true, true, true, true, true, true, true, true, true, true, true, true, false, false, false, false, false, false, false, false, false, false, false, false, false, false, false, false, false, false, false, false, false, false, false, false, false, false, false, false, false, false, false, false, false, false, false, false, false, false, false, false, false, false, false, false, false, false, false, false] rfl rfl (by kernel_rfl) (fun _ _ _ h => h) (Or.inl ⟨by rfl, ?_⟩) ?_ ?_
      rotate_left
      · intro w'
        go_simp
        with_reducible rfl
      rotate_left
      · simp only [Act.put, List.setIfInBounds_toArray, List.set_cons_zero, List.set_cons_succ, i64_w, i32_w]
        rfl
      refine pure_ (i := 17) (N := some 79) (v := ?_) (a' := ?_) #[true, true, true, true, true, true, true, true, true, true, true, true, true, true, true, true, true, true, false, false, false, false, false, false, false, false, false, false, false, false, false, false, false, false, false, false, false, false, false, false, false, false, false, false, false, false, false, false, false, false, false, false, false, false, false, false, false, false, false, false, false, false, false, false, false] rfl rfl (by kernel_rfl) (fun _ _ _ h => h) (Or.inl ⟨by rfl, ?_⟩) ?_ ?_
      rotate_left
      · intro w'
        go_simp
        with_reducible rfl
      rotate_left
      · simp only [Act.put, List.setIfInBounds_toArray, List.set_cons_zero, List.set_cons_succ, i64_w, i32_w]
        rfl
      refine take_ (i := 18) (N := some 80) (v := ?_) (a' := ?_) #[true, true, true, true, true, true, true, true, true, true, true, true, true, true, true, true, true, true, true, false, false, false, false, false, false, false, false, false, false, false, false, false, false, false, false, false, false, false, false, false, false, false, false, false, false, false, false, false, false, false, false, false, false, false, false, false, false, false, false, false, false, false, false, false, false] rfl rfl (by kernel_rfl) (fun _ _ _ h => h) (Or.inl ⟨by rfl, ?_⟩) hHeld ?_ ?_
      rotate_left
      · rintro w' ⟨s0, s1, s2, s3, s4, s5, s6, s7, s8, s9, s10, s11, s12, s13⟩
        go_simp
        with_reducible rfl
      rotate_left
      · simp only [Act.put, List.setIfInBounds_toArray, List.set_cons_zero, List.set_cons_succ, i64_w, i32_w]
        rfl
      refine take_ (i := 19) (N := some 81) (v := ?_) (a' := ?_) #[true, true, true, true, true, true, true, true, true, true, true, true, true, true, true, true, true, true, true, true, false, false, false, false, false, false, false, false, false, false, false, false, false, false, false, false, false, false, false, false, false, false, false, false, false, false, false, false, false, false, false, false, false, false, false, false, false, false, false, false, false, false, false, false, false] rfl rfl (by kernel_rfl) (fun _ _ _ h => h) (Or.inl ⟨by rfl, ?_⟩) hHeld ?_ ?_
      rotate_left
      · rintro w' ⟨s0, s1, s2, s3, s4, s5, s6, s7, s8, s9, s10, s11, s12, s13⟩
        go_simp
        with_reducible rfl
      rotate_left
      · simp only [Act.put, List.setIfInBounds_toArray, List.set_cons_zero, List.set_cons_succ, i64_w, i32_w]
        rfl
      refine one_ (i := 20) (N := some 82) #[true, true, true, true, true, true, true, true, true, true, true, true, true, true, true, true, true, true, true, true, true, false, false, false, false, false, false, false, false, false, false, false, false, false, false, false, false, false, false, false, false, false, false, false, false, false, false, false, false, false, false, false, false, false, false, false, false, false, false, false, false, false, false, false, false] rfl rfl (by kernel_rfl) (by decide) (fun K hK => ?_)
      clear T
      refine goes_ Try.func44 (by kernel_rfl) rfl #[.agg #[.int .i64 X.f0, .int .i64 X.f1, .int .i64 X.f2, .slice By N cy], .agg #[.int .i64 X.f0, .int .i64 X.f1, .int .i64 X.f2, .slice Bz N cz]] (by rfl) rfl rfl (by simp only [List.map_toArray, List.map_cons, List.map_nil]; rfl) ?_
      with_reducible refine (Same_at X By N cy _ Bz N cz hHeld.1.cy_ HX.out.2.symm HCC.out.1 hHeld.1.cz_ HX.out.2.symm HCC.out.2.1).mono ?_
      rintro e W20 ⟨rfl, hB⟩
      refine ⟨_, rfl, ?_⟩
      have T := And.intro (hHeld.1.step hB) (Kd.C_below hHeld.2.1 hB)
      clear hHeld hB
      refine hK.out _ _ ⟨T.1, T.2, blk_cell T.1.b0 0, blk_cell T.1.b0 1, blk_cell T.1.b0 2, blk_cell T.1.b0 3, blk_cell T.1.by_ 0, blk_cell T.1.by_ 1, blk_cell T.1.by_ 2, blk_cell T.1.by_ 3, blk_cell T.1.bz 0, blk_cell T.1.bz 1, blk_cell T.1.bz 2, blk_cell T.1.bz 3⟩ (fun hHeld => ?_)
      clear hK K
      refine norm_ (a' := ?_) ?_ ?_
      rotate_left
      · show Act.put _ (some 82) _ = _
        simp only [Act.put, List.setIfInBounds_toArray, List.set_cons_zero, List.set_cons_succ, i64_w, i32_w]
        rfl
      refine pure_ (i := 21) (N := some 83) (v := ?_) (a' := ?_) #[true, true, true, true, true, true, true, true, true, true, true, true, true, true, true, true, true, true, true, true, true, true, false, false, false, false, false, false, false, false, false, false, false, false, false, false, false, false, false, false, false, false, false, false, false, false, false, false, false, false, false, false, false, false, false, false, false, false, false, false, false, false, false, false, false] rfl rfl (by kernel_rfl) (fun _ _ _ h => h) (Or.inl ⟨by rfl, ?_⟩) ?_ ?_
      rotate_left
      · intro w'
        go_simp
        with_reducible rfl
      rotate_left
      · simp only [Act.put, List.setIfInBounds_toArray, List.set_cons_zero, List.set_cons_succ, i64_w, i32_w]
        rfl
      refine pure_ (i := 22) (N := some 84) (v := ?_) (a' := ?_) #[true, true, true, true, true, true, true, true, true, true, true, true, true, true, true, true, true, true, true, true, true, true, true, false, false, false, false, false, false, false, false, false, false, false, false, false, false, false, false, false, false, false, false, false, false, false, false, false, false, false, false, false, false, false, false, false, false, false, false, false, false, false, false, false, false] rfl rfl (by kernel_rfl) (fun _ _ _ h => h) (Or.inl ⟨by rfl, ?_⟩) ?_ ?_
      rotate_left
      · intro w'
        go_simp
        with_reducible rfl
      rotate_left
      · simp only [Act.put, List.setIfInBounds_toArray, List.set_cons_zero, List.set_cons_succ, i64_w, i32_w]
        rfl
      refine pure_ (i := 23) (N := some 85) (v := ?_) (a' := ?_) #[true, true, true, true, true, true, true, true, true, true, true, true, true, true, true, true, true, true, true, true, true, true, true, true, false, false, false, false, false, false, false, false, false, false, false, false, false, false, false, false, false, false, false, false, false, false, false, false, false, false, false, false, false, false, false, false, false, false, false, false, false, false, false, false, false] rfl rfl (by kernel_rfl) (fun _ _ _ h => h) (Or.inl ⟨by rfl, ?_⟩) ?_ ?_
      rotate_left
      · intro w'
        go_simp
        with_reducible rfl
      rotate_left
      · simp only [Act.put, List.setIfInBounds_toArray, List.set_cons_zero, List.set_cons_succ, i64_w, i32_w]
        rfl
      refine pure_ (i := 24) (N := some 86) (v := ?_) (a' := ?_) #[true, true, true, true, true, true, true, true, true, true, true, true, true, true, true, true, true, true, true, true, true, true, true, true, true, false, false, false, false, false, false, false, false, false, false, false, false, false, false, false, false, false, false, false, false, false, false, false, false, false, false, false, false, false, false, false, false, false, false, false, false, false, false, false, false] rfl rfl (by kernel_rfl) (fun _ _ _ h => h) (Or.inl ⟨by rfl, ?_⟩) ?_ ?_
      rotate_left
      · intro w'
        go_simp
        with_reducible rfl
      rotate_left
      · simp only [Act.put, List.setIfInBounds_toArray, List.set_cons_zero, List.set_cons_succ, i64_w, i32_w]
        rfl
      refine pure_ (i := 25) (N := some 87) (v := ?_) (a' := ?_) #[true, true, true, true, true, true, true, true, true, true, true, true, true, true, true, true, true, true, true, true, true, true, true, true, true, true, false, false, false, false, false, false, false, false, false, false, false, false, false, false, false, false, false, false, false, false, false, false, false, false, false, false, false, false, false, false, false, false, false, false, false, false, false, false, false] rfl rfl (by kernel_rfl) (fun _ _ _ h => h) (Or.inl ⟨by rfl, ?_⟩) ?_ ?_
      rotate_left
      · intro w'
        go_simp
        with_reducible rfl
      rotate_left
      · simp only [Act.put, List.setIfInBounds_toArray, List.set_cons_zero, List.set_cons_succ, i64_w, i32_w]
        rfl
      refine pure_ (i := 26) (N := some 88) (v := ?_) (a' := ?_) #[true, true, true, true, true, true, true, true, true, true, true, true, true, true, true, true, true, true, true, true, true, true, true, true, true, true, true, false, false, false, false, false, false, false, false, false, false, false, false, false, false, false, false, false, false, false, false, false, false, false, false, false, false, false, false, false, false, false, false, false, false, false, false, false, false] rfl rfl (by kernel_rfl) (fun _ _ _ h => h) (Or.inl ⟨by rfl, ?_⟩) ?_ ?_
      rotate_left
      · intro w'
        go_simp
        with_reducible rfl
      rotate_left
      · simp only [Act.put, List.setIfInBounds_toArray, List.set_cons_zero, List.set_cons_succ, i64_w, i32_w]
        rfl
      refine pure_ (i := 27) (N := some 89) (v := ?_) (a' := ?_) #[true, true, true, true, true, true, true, true, true, true, true, true, true, true, true, true, true, true, true, true, true, true, true, true, true, true, true, true, false, false, false, false, false, false, false, false, false, false, false, false, false, false, false, false, false, false, false, false, false, false, false, false, false, false, false, false, false, false, false, false, false, false, false, false, false] rfl rfl (by kernel_rfl) (fun _ _ _ h => h) (Or.inl ⟨by rfl, ?_⟩) ?_ ?_
      rotate_left
      · intro w'
        go_simp
        with_reducible rfl
      rotate_left
      · simp only [Act.put, List.setIfInBounds_toArray, List.set_cons_zero, List.set_cons_succ, i64_w, i32_w]
        rfl
      refine pure_ (i := 28) (N := some 90) (v := ?_) (a' := ?_) #[true, true, true, true, true, true, true, true, true, true, true, true, true, true, true, true, true, true, true, true, true, true, true, true, true, true, true, true, true, false, false, false, false, false, false, false, false, false, false, false, false, false, false, false, false, false, false, false, false, false, false, false, false, false, false, false, false, false, false, false, false, false, false, false, false] rfl rfl (by kernel_rfl) (fun _ _ _ h => h) (Or.inl ⟨by rfl, ?_⟩) ?_ ?_
      rotate_left
      · intro w'
        go_simp
        with_reducible rfl
      rotate_left
      · simp only [Act.put, List.setIfInBounds_toArray, List.set_cons_zero, List.set_cons_succ, i64_w, i32_w]
        rfl
      refine pure_ (i := 29) (N := some 91) (v := ?_) (a' := ?_) #[true, true, true, true, true, true, true, true, true, true, true, true, true, true, true, true, true, true, true, true, true, true, true, true, true, true, true, true, true, true, false, false, false, false, false, false, false, false, false, false, false, false, false, false, false, false, false, false, false, false, false, false, false, false, false, false, false, false, false, false, false, false, false, false, false] rfl rfl (by kernel_rfl) (fun _ _ _ h => h) (Or.inl ⟨by rfl, ?_⟩) ?_ ?_
      rotate_left
      · intro w'
        go_simp
        with_reducible rfl
      rotate_left
      · simp only [Act.put, List.setIfInBounds_toArray, List.set_cons_zero, List.set_cons_succ, i64_w, i32_w]
        rfl
      refine one_ (i := 30) (N := some 92) #[true, true, true, true, true, true, true, true, true, true, true, true, true, true, true, true, true, true, true, true, true, true, true, true, true, true, true, true, true, true, true, false, false, false, false, false, false, false, false, false, false, false, false, false, false, false, false, false, false, false, false, false, false, false, false, false, false, false, false, false, false, false, false, false, false] rfl rfl (by kernel_rfl) (by decide) (fun K hK => ?_)
      clear T
      refine goes_ Try.func32 (by kernel_rfl) rfl #[.slice Bu L.length cu, .slice Bv L.length cv] (by rfl) rfl rfl (by simp only [List.map_toArray, List.map_cons, List.map_nil]; rfl) ?_
      with_reducible refine (SameAll_at Bu L.length cu _ Bv L.length cv L hHeld.1.cu rfl HCC.out.2.2.1 hHeld.1.cv rfl HCC.out.2.2.2.1 (by have := HCC.out.2.2.2.2; omega)).mono ?_
      rintro e W30 ⟨rfl, hB⟩
      refine ⟨_, rfl, ?_⟩
      have T := And.intro (hHeld.1.step hB) (Kd.C_below hHeld.2.1 hB)
      clear hHeld hB
      refine hK.out _ _ ⟨T.1, T.2, blk_cell T.1.b0 0, blk_cell T.1.b0 1, blk_cell T.1.b0 2, blk_cell T.1.b0 3, blk_cell T.1.by_ 0, blk_cell T.1.by_ 1, blk_cell T.1.by_ 2, blk_cell T.1.by_ 3, blk_cell T.1.bz 0, blk_cell T.1.bz 1, blk_cell T.1.bz 2, blk_cell T.1.bz 3⟩ (fun hHeld => ?_)
      clear hK K
      refine norm_ (a' := ?_) ?_ ?_
      rotate_left
      · show Act.put _ (some 92) _ = _
        simp only [Act.put, List.setIfInBounds_toArray, List.set_cons_zero, List.set_cons_succ, i64_w, i32_w]
        rfl
      refine pure_ (i := 31) (N := some 93) (v := ?_) (a' := ?_) #[true, true, true, true, true, true, true, true, true, true, true, true, true, true, true, true, true, true, true, true, true, true, true, true, true, true, true, true, true, true, true, true, false, false, false, false, false, false, false, false, false, false, false, false, false, false, false, false, false, false, false, false, false, false, false, false, false, false, false, false, false, false, false, false, false] rfl rfl (by kernel_rfl) (fun _ _ _ h => h) (Or.inl ⟨by rfl, ?_⟩) ?_ ?_
      rotate_left
      · intro w'
        go_simp
        with_reducible rfl
      rotate_left
      · simp only [Act.put, List.setIfInBounds_toArray, List.set_cons_zero, List.set_cons_succ, i64_w, i32_w]
        rfl
      refine pure_ (i := 32) (N := some 94) (v := ?_) (a' := ?_) #[true, true, true, true, true, true, true, true, true, true, true, true, true, true, true, true, true, true, true, true, true, true, true, true, true, true, true, true, true, true, true, true, true, false, false, false, false, false, false, false, false, false, false, false, false, false, false, false, false, false, false, false, false, false, false, false, false, false, false, false, false, false, false, false, false] rfl rfl (by kernel_rfl) (fun _ _ _ h => h) (Or.inl ⟨by rfl, ?_⟩) ?_ ?_
      rotate_left
      · intro w'
        go_simp
        with_reducible rfl
      rotate_left
      · simp only [Act.put, List.setIfInBounds_toArray, List.set_cons_zero, List.set_cons_succ, i64_w, i32_w]
        rfl
      refine pure_ (i := 33) (N := some 95) (v := ?_) (a' := ?_) #[true, true, true, true, true, true, true, true, true, true, true, true, true, true, true, true, true, true, true, true, true, true, true, true, true, true, true, true, true, true, true, true, true, true, false, false, false, false, false, false, false, false, false, false, false, false, false, false, false, false, false, false, false, false, false, false, false, false, false, false, false, false, false, false, false] rfl rfl (by kernel_rfl) (fun _ _ _ h => h) (Or.inl ⟨by rfl, ?_⟩) ?_ ?_
      rotate_left
      · intro w'
        go_simp
        with_reducible rfl
      rotate_left
      · simp only [Act.put, List.setIfInBounds_toArray, List.set_cons_zero, List.set_cons_succ, i64_w, i32_w]
        rfl
      refine pure_ (i := 34) (N := some 96) (v := ?_) (a' := ?_) #[true, true, true, true, true, true, true, true, true, true, true, true, true, true, true, true, true, true, true, true, true, true, true, true, true, true, true, true, true, true, true, true, true, true, true, false, false, false, false, false, false, false, false, false, false, false, false, false, false, false, false, false, false, false, false, false, false, false, false, false, false, false, false, false, false] rfl rfl (by kernel_rfl) (fun _ _ _ h => h) (Or.inl ⟨by rfl, ?_⟩) ?_ ?_
      rotate_left
      · intro w'
        go_simp
        with_reducible rfl
      rotate_left
      · simp only [Act.put, List.setIfInBounds_toArray, List.set_cons_zero, List.set_cons_succ, i64_w, i32_w]
        rfl
      refine pure_ (i := 35) (N := some 97) (v := ?_) (a' := ?_) #[true, true, true, true, true, true, true, true, true, true, true, true, true, true, true, true, true, true, true, true, true, true, true, true, true, true, true, true, true, true, true, true, true, true, true, true, false, false, false, false, false, false, false, false, false, false, false, false, false, false, false, false, false, false, false, false, false, false, false, false, false, false, false, false, false] rfl rfl (by kernel_rfl) (fun _ _ _ h => h) (Or.inl ⟨by rfl, ?_⟩) ?_ ?_
      rotate_left
      · intro w'
        go_simp
        with_reducible rfl
      rotate_left
      · simp only [Act.put, List.setIfInBounds_toArray, List.set_cons_zero, List.set_cons_succ, i64_w, i32_w]
        rfl
      refine pure_ (i := 36) (N := some 98) (v := ?_) (a' := ?_) #[true, true, true, true, true, true, true, true, true, true, true, true, true, true, true, true, true, true, true, true, true, true, true, true, true, true, true, true, true, true, true, true, true, true, true, true, true, false, false, false, false, false, false, false, false, false, false, false, false, false, false, false, false, false, false, false, false, false, false, false, false, false, false, false, false] rfl rfl (by kernel_rfl) (fun _ _ _ h => h) (Or.inl ⟨by rfl, ?_⟩) ?_ ?_
      rotate_left
      · intro w'
        go_simp
        with_reducible rfl
      rotate_left
      · simp only [Act.put, List.setIfInBounds_toArray, List.set_cons_zero, List.set_cons_succ, i64_w, i32_w]
        rfl
      refine pure_ (i := 37) (N := some 99) (v := ?_) (a' := ?_) #[true, true, true, true, true, true, true, true, true, true, true, true, true, true, true, true, true, true, true, true, true, true, true, true, true, true, true, true, true, true, true, true, true, true, true, true, true, true, false, false, false, false, false, false, false, false, false, false, false, false, false, false, false, false, false, false, false, false, false, false, false, false, false, false, false] rfl rfl (by kernel_rfl) (fun _ _ _ h => h) (Or.inl ⟨by rfl, ?_⟩) ?_ ?_
      rotate_left
      · intro w'
        go_simp
        with_reducible rfl
      rotate_left
      · simp only [Act.put, List.setIfInBounds_toArray, List.set_cons_zero, List.set_cons_succ, i64_w, i32_w]
        rfl
      refine pure_ (i := 38) (N := some 100) (v := ?_) (a' := ?_) #[true, true, true, true, true, true, true, true, true, true, true, true, true, true, true, true, true, true, true, true, true, true, true, true, true, true, true, true, true, true, true, true, true, true, true, true, true, true, true, false, false, false, false, false, false, false, false, false, false, false, false, false, false, false, false, false, false, false, false, false, false, false, false, false, false] rfl rfl (by kernel_rfl) (fun _ _ _ h => h) (Or.inl ⟨by rfl, ?_⟩) ?_ ?_
      rotate_left
      · intro w'
        go_simp
        with_reducible rfl
      rotate_left
      · simp only [Act.put, List.setIfInBounds_toArray, List.set_cons_zero, List.set_cons_succ, i64_w, i32_w]
        rfl
      refine pure_ (i := 41) (N := some 103) (v := ?_) (a' := ?_) #[true, true, true, true, true, true, true, true, true, true, true, true, true, true, true, true, true, true, true, true, true, true, true, true, true, true, true, true, true, true, true, true, true, true, true, true, true, true, true, false, false, true, false, false, false, false, false, false, false, false, false, false, false, false, false, false, false, false, false, false, false, false, false, false, false] rfl rfl (by kernel_rfl) (fun _ _ _ h => h) (Or.inl ⟨by rfl, ?_⟩) ?_ ?_
      rotate_left
      · intro w'
        go_simp
        with_reducible rfl
      rotate_left
      · simp only [Act.put, List.setIfInBounds_toArray, List.set_cons_zero, List.set_cons_succ, i64_w, i32_w]
        rfl
      refine one_ (i := 39) (N := some 101) #[true, true, true, true, true, true, true, true, true, true, true, true, true, true, true, true, true, true, true, true, true, true, true, true, true, true, true, true, true, true, true, true, true, true, true, true, true, true, true, true, false, true, false, false, false, false, false, false, false, false, false, false, false, false, false, false, false, false, false, false, false, false, false, false, false] rfl rfl (by kernel_rfl) (by decide) (fun K hK => ?_)
      clear T
      refine goes_ Try.func45 (by kernel_rfl) rfl #[.slice A3 l.length c3] (by rfl) rfl rfl (by simp only [List.map_toArray, List.map_cons, List.map_nil]; rfl) ?_
      with_reducible refine (Nums_at A3 l.length c3 _ l (Kd.C_below H3.out.1 hHeld.1.below) rfl H3.out.2.1 (by have := H3.out.2.2; omega) nm HV.out.2.2.1).mono ?_
      rintro e W39 ⟨B1, d1, rfl, hR, hB⟩
      refine ⟨_, rfl, ?_⟩
      have T := And.intro (hHeld.1.step hB) (Kd.C_below hHeld.2.1 hB)
      have D1 := Aside0.mk (Kd.R_reads' hR).2.2
      clear hHeld hR hB
      refine hK.out _ _ ⟨T.1, T.2, blk_cell T.1.b0 0, blk_cell T.1.b0 1, blk_cell T.1.b0 2, blk_cell T.1.b0 3, blk_cell T.1.by_ 0, blk_cell T.1.by_ 1, blk_cell T.1.by_ 2, blk_cell T.1.by_ 3, blk_cell T.1.bz 0, blk_cell T.1.bz 1, blk_cell T.1.bz 2, blk_cell T.1.bz 3⟩ (fun hHeld => ?_)
      clear hK K
      refine norm_ (a' := ?_) ?_ ?_
      rotate_left
      · show Act.put _ (some 101) _ = _
        simp only [Act.put, List.setIfInBounds_toArray, List.set_cons_zero, List.set_cons_succ, i64_w, i32_w]
        rfl
      refine join_ (σ := Value) 21 #[true, true, true, true, true, true, true, true, true, true, true, true, true, true, true, true, true, true, true, true, true, true, true, true, true, true, true, true, true, true, true, true, true, true, true, true, true, true, true, true, true, true, true, true, false, false, false, false, false, false, false, false, false, false, false, false, false, false, false, false, false, false, false, false, false] (fun s_ => [(102, .string (strOfNums nm)), (104, s_), (105, .string (strOfNums nm))]) (fun s_ w' => TP w w' r ry rz x X A By Bz n c N cy cz L Bu Bv ∧ Kd.C (Kd.int .i64) w' A21 f.length f ∧ w'.cell? ⟨r, 0, none⟩ = some (.int .i64 x.f0) ∧ w'.cell? ⟨r, 1, none⟩ = some (.int .i64 x.f1) ∧ w'.cell? ⟨r, 2, none⟩ = some (.int .i64 x.f2) ∧ w'.cell? ⟨r, 3, none⟩ = some (.slice A n c) ∧ w'.cell? ⟨ry, 0, none⟩ = some (.int .i64 X.f0) ∧ w'.cell? ⟨ry, 1, none⟩ = some (.int .i64 X.f1) ∧ w'.cell? ⟨ry, 2, none⟩ = some (.int .i64 X.f2) ∧ w'.cell? ⟨ry, 3, none⟩ = some (.slice By N cy) ∧ w'.cell? ⟨rz, 0, none⟩ = some (.int .i64 X.f0) ∧ w'.cell? ⟨rz, 1, none⟩ = some (.int .i64 X.f1) ∧ w'.cell? ⟨rz, 2, none⟩ = some (.int .i64 X.f2) ∧ w'.cell? ⟨rz, 3, none⟩ = some (.slice Bz N cz)) ?_ ?_
      rotate_left
      · intro hCont
        as_aux_lemma =>
        refine two_ (i := 40) (j := 42) (Ni := some 102) (Nj := some 104) #[true, true, true, true, true, true, true, true, true, true, true, true, true, true, true, true, true, true, true, true, true, true, true, true, true, true, true, true, true, true, true, true, true, true, true, true, true, true, true, true, true, true, false, false, false, false, false, false, false, false, false, false, false, false, false, false, false, false, false, false, false, false, false, false, false] #[true, true, true, true, true, true, true, true, true, true, true, true, true, true, true, true, true, true, true, true, true, true, true, true, true, true, true, true, true, true, true, true, true, true, true, true, true, true, true, true, false, true, true, false, false, false, false, false, false, false, false, false, false, false, false, false, false, false, false, false, false, false, false, false, false] rfl rfl rfl rfl (by kernel_rfl) (by decide) (by decide) (fun K hK => ?_) (fun K hK => ?_)
        · skip
          clear T
          have s1 := Kd.C_string (P := Try.prog) (A := B1) (c := d1) Try.underlying22 Try.underlying5 Try.underlying9 D1.out
          refine value_ (w1 := ?_) (v := ?_) (by rfl) rfl ?_ ?_
          rotate_left 2
          · go_simp
            constructor
            · rfl
            · rfl
          have T := And.intro hHeld.1 hHeld.2.1
          clear s1 hHeld
          refine hK.out _ _ ⟨T.1, T.2, blk_cell T.1.b0 0, blk_cell T.1.b0 1, blk_cell T.1.b0 2, blk_cell T.1.b0 3, blk_cell T.1.by_ 0, blk_cell T.1.by_ 1, blk_cell T.1.by_ 2, blk_cell T.1.by_ 3, blk_cell T.1.bz 0, blk_cell T.1.bz 1, blk_cell T.1.bz 2, blk_cell T.1.bz 3⟩ (fun hHeld => ?_)
          clear hK K
          refine norm_ (a' := ?_) ?_ ?_
          rotate_left
          · show Act.put _ (some 102) _ = _
            simp only [Act.put, List.setIfInBounds_toArray, List.set_cons_zero, List.set_cons_succ, i64_w, i32_w]
            rfl
          refine one_ (i := 42) (N := some 104) #[true, true, true, true, true, true, true, true, true, true, true, true, true, true, true, true, true, true, true, true, true, true, true, true, true, true, true, true, true, true, true, true, true, true, true, true, true, true, true, true, true, true, true, false, false, false, false, false, false, false, false, false, false, false, false, false, false, false, false, false, false, false, false, false, false] rfl rfl (by kernel_rfl) (by decide) (fun K hK => ?_)
          clear T
          refine goes_ Try.func46 (by kernel_rfl) rfl #[.slice A3 l.length c3] (by rfl) rfl rfl (by simp only [List.map_toArray, List.map_cons, List.map_nil]; rfl) ?_
          with_reducible refine (rNums_at A3 l.length c3 _ l (Kd.C_below H3.out.1 hHeld.1.below) rfl H3.out.2.1 (by have := H3.out.2.2; omega) nm HV.out.2.2.1).mono ?_
          rintro e W42 ⟨B2, d2, rfl, hR, hB⟩
          refine ⟨_, rfl, ?_⟩
          have T := And.intro (hHeld.1.step hB) (Kd.C_below hHeld.2.1 hB)
          have D2 := Aside0.mk (Kd.R_reads' hR).2.2
          replace D1 := Aside0.mk (Kd.C_below D1.out hB)
          clear hHeld hR hB
          refine hK.out _ _ ⟨T.1, T.2, blk_cell T.1.b0 0, blk_cell T.1.b0 1, blk_cell T.1.b0 2, blk_cell T.1.b0 3, blk_cell T.1.by_ 0, blk_cell T.1.by_ 1, blk_cell T.1.by_ 2, blk_cell T.1.by_ 3, blk_cell T.1.bz 0, blk_cell T.1.bz 1, blk_cell T.1.bz 2, blk_cell T.1.bz 3⟩ (fun hHeld => ?_)
          clear hK K
          refine norm_ (a' := ?_) ?_ ?_
          rotate_left
          · show Act.put _ (some 104) _ = _
            simp only [Act.put, List.setIfInBounds_toArray, List.set_cons_zero, List.set_cons_succ, i64_w, i32_w]
            rfl
          refine one_ (i := 43) (N := some 105) #[true, true, true, true, true, true, true, true, true, true, true, true, true, true, true, true, true, true, true, true, true, true, true, true, true, true, true, true, true, true, true, true, true, true, true, true, true, true, true, true, true, true, true, true, false, false, false, false, false, false, false, false, false, false, false, false, false, false, false, false, false, false, false, false, false] rfl rfl (by kernel_rfl) (by decide) (fun K hK => ?_)
          clear T
          have s2 := Kd.C_string (P := Try.prog) (A := B2) (c := d2) Try.underlying22 Try.underlying5 Try.underlying9 D2.out
          refine value_ (w1 := ?_) (v := ?_) (by rfl) rfl ?_ ?_
          rotate_left 2
          · go_simp
            constructor
            · rfl
            · rfl
          have T := And.intro hHeld.1 hHeld.2.1
          clear s2 hHeld
          refine hK.out _ _ ⟨T.1, T.2, blk_cell T.1.b0 0, blk_cell T.1.b0 1, blk_cell T.1.b0 2, blk_cell T.1.b0 3, blk_cell T.1.by_ 0, blk_cell T.1.by_ 1, blk_cell T.1.by_ 2, blk_cell T.1.by_ 3, blk_cell T.1.bz 0, blk_cell T.1.bz 1, blk_cell T.1.bz 2, blk_cell T.1.bz 3⟩ (fun hHeld => ?_)
          clear hK K
          refine norm_ (a' := ?_) ?_ ?_
          rotate_left
          · show Act.put _ (some 105) _ = _
            simp only [Act.put, List.setIfInBounds_toArray, List.set_cons_zero, List.set_cons_succ, i64_w, i32_w]
            rfl
          exact norm_ (by simp only [putAll, Act.put, List.setIfInBounds_toArray, List.set_cons_zero, List.set_cons_succ]) (hCont (.slice B2 nm.length d2) _ hHeld)
        · skip
          clear T
          refine goes_ Try.func46 (by kernel_rfl) rfl #[.slice A3 l.length c3] (by rfl) rfl rfl (by simp only [List.map_toArray, List.map_cons, List.map_nil]; rfl) ?_
          with_reducible refine (rNums_at A3 l.length c3 _ l (Kd.C_below H3.out.1 hHeld.1.below) rfl H3.out.2.1 (by have := H3.out.2.2; omega) nm HV.out.2.2.1).mono ?_
          rintro e W42 ⟨B2, d2, rfl, hR, hB⟩
          refine ⟨_, rfl, ?_⟩
          have T := And.intro (hHeld.1.step hB) (Kd.C_below hHeld.2.1 hB)
          have D2 := Aside0.mk (Kd.R_reads' hR).2.2
          replace D1 := Aside0.mk (Kd.C_below D1.out hB)
          clear hHeld hR hB
          refine hK.out _ _ ⟨T.1, T.2, blk_cell T.1.b0 0, blk_cell T.1.b0 1, blk_cell T.1.b0 2, blk_cell T.1.b0 3, blk_cell T.1.by_ 0, blk_cell T.1.by_ 1, blk_cell T.1.by_ 2, blk_cell T.1.by_ 3, blk_cell T.1.bz 0, blk_cell T.1.bz 1, blk_cell T.1.bz 2, blk_cell T.1.bz 3⟩ (fun hHeld => ?_)
          clear hK K
          refine norm_ (a' := ?_) ?_ ?_
          rotate_left
          · show Act.put _ (some 104) _ = _
            simp only [Act.put, List.setIfInBounds_toArray, List.set_cons_zero, List.set_cons_succ, i64_w, i32_w]
            rfl
          refine two_ (i := 40) (j := 43) (Ni := some 102) (Nj := some 105) #[true, true, true, true, true, true, true, true, true, true, true, true, true, true, true, true, true, true, true, true, true, true, true, true, true, true, true, true, true, true, true, true, true, true, true, true, true, true, true, true, true, true, true, false, false, false, false, false, false, false, false, false, false, false, false, false, false, false, false, false, false, false, false, false, false] #[true, true, true, true, true, true, true, true, true, true, true, true, true, true, true, true, true, true, true, true, true, true, true, true, true, true, true, true, true, true, true, true, true, true, true, true, true, true, true, true, false, true, true, true, false, false, false, false, false, false, false, false, false, false, false, false, false, false, false, false, false, false, false, false, false] rfl rfl rfl rfl (by kernel_rfl) (by decide) (by decide) (fun K hK => ?_) (fun K hK => ?_)
          · skip
            clear T
            have s1 := Kd.C_string (P := Try.prog) (A := B1) (c := d1) Try.underlying22 Try.underlying5 Try.underlying9 D1.out
            refine value_ (w1 := ?_) (v := ?_) (by rfl) rfl ?_ ?_
            rotate_left 2
            · go_simp
              constructor
              · rfl
              · rfl
            have T := And.intro hHeld.1 hHeld.2.1
            clear s1 hHeld
            refine hK.out _ _ ⟨T.1, T.2, blk_cell T.1.b0 0, blk_cell T.1.b0 1, blk_cell T.1.b0 2, blk_cell T.1.b0 3, blk_cell T.1.by_ 0, blk_cell T.1.by_ 1, blk_cell T.1.by_ 2, blk_cell T.1.by_ 3, blk_cell T.1.bz 0, blk_cell T.1.bz 1, blk_cell T.1.bz 2, blk_cell T.1.bz 3⟩ (fun hHeld => ?_)
            clear hK K
            refine norm_ (a' := ?_) ?_ ?_
            rotate_left
            · show Act.put _ (some 102) _ = _
              simp only [Act.put, List.setIfInBounds_toArray, List.set_cons_zero, List.set_cons_succ, i64_w, i32_w]
              rfl
            refine one_ (i := 43) (N := some 105) #[true, true, true, true, true, true, true, true, true, true, true, true, true, true, true, true, true, true, true, true, true, true, true, true, true, true, true, true, true, true, true, true, true, true, true, true, true, true, true, true, true, true, true, true, false, false, false, false, false, false, false, false, false, false, false, false, false, false, false, false, false, false, false, false, false] rfl rfl (by kernel_rfl) (by decide) (fun K hK => ?_)
            clear T
            have s2 := Kd.C_string (P := Try.prog) (A := B2) (c := d2) Try.underlying22 Try.underlying5 Try.underlying9 D2.out
            refine value_ (w1 := ?_) (v := ?_) (by rfl) rfl ?_ ?_
            rotate_left 2
            · go_simp
              constructor
              · rfl
              · rfl
            have T := And.intro hHeld.1 hHeld.2.1
            clear s2 hHeld
            refine hK.out _ _ ⟨T.1, T.2, blk_cell T.1.b0 0, blk_cell T.1.b0 1, blk_cell T.1.b0 2, blk_cell T.1.b0 3, blk_cell T.1.by_ 0, blk_cell T.1.by_ 1, blk_cell T.1.by_ 2, blk_cell T.1.by_ 3, blk_cell T.1.bz 0, blk_cell T.1.bz 1, blk_cell T.1.bz 2, blk_cell T.1.bz 3⟩ (fun hHeld => ?_)
            clear hK K
            refine norm_ (a' := ?_) ?_ ?_
            rotate_left
            · show Act.put _ (some 105) _ = _
              simp only [Act.put, List.setIfInBounds_toArray, List.set_cons_zero, List.set_cons_succ, i64_w, i32_w]
              rfl
            exact norm_ (by simp only [putAll, Act.put, List.setIfInBounds_toArray, List.set_cons_zero, List.set_cons_succ]) (hCont (.slice B2 nm.length d2) _ hHeld)
          · skip
            clear T
            have s2 := Kd.C_string (P := Try.prog) (A := B2) (c := d2) Try.underlying22 Try.underlying5 Try.underlying9 D2.out
            refine value_ (w1 := ?_) (v := ?_) (by rfl) rfl ?_ ?_
            rotate_left 2
            · go_simp
              constructor
              · rfl
              · rfl
            have T := And.intro hHeld.1 hHeld.2.1
            clear s2 hHeld
            refine hK.out _ _ ⟨T.1, T.2, blk_cell T.1.b0 0, blk_cell T.1.b0 1, blk_cell T.1.b0 2, blk_cell T.1.b0 3, blk_cell T.1.by_ 0, blk_cell T.1.by_ 1, blk_cell T.1.by_ 2, blk_cell T.1.by_ 3, blk_cell T.1.bz 0, blk_cell T.1.bz 1, blk_cell T.1.bz 2, blk_cell T.1.bz 3⟩ (fun hHeld => ?_)
            clear hK K
            refine norm_ (a' := ?_) ?_ ?_
            rotate_left
            · show Act.put _ (some 105) _ = _
              simp only [Act.put, List.setIfInBounds_toArray, List.set_cons_zero, List.set_cons_succ, i64_w, i32_w]
              rfl
            refine one_ (i := 40) (N := some 102) #[true, true, true, true, true, true, true, true, true, true, true, true, true, true, true, true, true, true, true, true, true, true, true, true, true, true, true, true, true, true, true, true, true, true, true, true, true, true, true, true, true, true, true, true, false, false, false, false, false, false, false, false, false, false, false, false, false, false, false, false, false, false, false, false, false] rfl rfl (by kernel_rfl) (by decide) (fun K hK => ?_)
            clear T
            have s1 := Kd.C_string (P := Try.prog) (A := B1) (c := d1) Try.underlying22 Try.underlying5 Try.underlying9 D1.out
            refine value_ (w1 := ?_) (v := ?_) (by rfl) rfl ?_ ?_
            rotate_left 2
            · go_simp
              constructor
              · rfl
              · rfl
            have T := And.intro hHeld.1 hHeld.2.1
            clear s1 hHeld
            refine hK.out _ _ ⟨T.1, T.2, blk_cell T.1.b0 0, blk_cell T.1.b0 1, blk_cell T.1.b0 2, blk_cell T.1.b0 3, blk_cell T.1.by_ 0, blk_cell T.1.by_ 1, blk_cell T.1.by_ 2, blk_cell T.1.by_ 3, blk_cell T.1.bz 0, blk_cell T.1.bz 1, blk_cell T.1.bz 2, blk_cell T.1.bz 3⟩ (fun hHeld => ?_)
            clear hK K
            refine norm_ (a' := ?_) ?_ ?_
            rotate_left
            · show Act.put _ (some 102) _ = _
              simp only [Act.put, List.setIfInBounds_toArray, List.set_cons_zero, List.set_cons_succ, i64_w, i32_w]
              rfl
            exact norm_ (by simp only [putAll, Act.put, List.setIfInBounds_toArray, List.set_cons_zero, List.set_cons_succ]) (hCont (.slice B2 nm.length d2) _ hHeld)
      clear D1
      rintro v104 V42 hS_
      have hHeld : TP w V42 r ry rz x X A By Bz n c N cy cz L Bu Bv ∧ Kd.C (Kd.int .i64) V42 A21 f.length f ∧ V42.cell? ⟨r, 0, none⟩ = some (.int .i64 x.f0) ∧ V42.cell? ⟨r, 1, none⟩ = some (.int .i64 x.f1) ∧ V42.cell? ⟨r, 2, none⟩ = some (.int .i64 x.f2) ∧ V42.cell? ⟨r, 3, none⟩ = some (.slice A n c) ∧ V42.cell? ⟨ry, 0, none⟩ = some (.int .i64 X.f0) ∧ V42.cell? ⟨ry, 1, none⟩ = some (.int .i64 X.f1) ∧ V42.cell? ⟨ry, 2, none⟩ = some (.int .i64 X.f2) ∧ V42.cell? ⟨ry, 3, none⟩ = some (.slice By N cy) ∧ V42.cell? ⟨rz, 0, none⟩ = some (.int .i64 X.f0) ∧ V42.cell? ⟨rz, 1, none⟩ = some (.int .i64 X.f1) ∧ V42.cell? ⟨rz, 2, none⟩ = some (.int .i64 X.f2) ∧ V42.cell? ⟨rz, 3, none⟩ = some (.slice Bz N cz) := hS_
      clear hS_
      as_aux_lemma =>
      refine norm_ (a' := ?_) ?_ ?_
      rotate_left
      · simp only [putAll, Act.put, List.setIfInBounds_toArray, List.set_cons_zero, List.set_cons_succ]
        rfl
      refine pure_ (i := 44) (N := some 106) (v := ?_) (a' := ?_) #[true, true, true, true, true, true, true, true, true, true, true, true, true, true, true, true, true, true, true, true, true, true, true, true, true, true, true, true, true, true, true, true, true, true, true, true, true, true, true, true, true, true, true, true, true, false, false, false, false, false, false, false, false, false, false, false, false, false, false, false, false, false, false, false, false] rfl rfl (by kernel_rfl) (fun _ _ _ h => h) (Or.inl ⟨by rfl, ?_⟩) ?_ ?_
      rotate_left
      · intro w'
        go_simp
        with_reducible rfl
      rotate_left
      · simp only [Act.put, List.setIfInBounds_toArray, List.set_cons_zero, List.set_cons_succ, i64_w, i32_w]
        rfl
      refine pure_ (i := 45) (N := some 107) (v := ?_) (a' := ?_) #[true, true, true, true, true, true, true, true, true, true, true, true, true, true, true, true, true, true, true, true, true, true, true, true, true, true, true, true, true, true, true, true, true, true, true, true, true, true, true, true, true, true, true, true, true, true, false, false, false, false, false, false, false, false, false, false, false, false, false, false, false, false, false, false, false] rfl rfl (by kernel_rfl) (fun _ _ _ h => h) (Or.inl ⟨by rfl, ?_⟩) ?_ ?_
      rotate_left
      · intro w'
        go_simp
        with_reducible rfl
      rotate_left
      · simp only [Act.put, List.setIfInBounds_toArray, List.set_cons_zero, List.set_cons_succ, i64_w, i32_w]
        rfl
      refine pure_ (i := 46) (N := some 108) (v := ?_) (a' := ?_) #[true, true, true, true, true, true, true, true, true, true, true, true, true, true, true, true, true, true, true, true, true, true, true, true, true, true, true, true, true, true, true, true, true, true, true, true, true, true, true, true, true, true, true, true, true, true, true, false, false, false, false, false, false, false, false, false, false, false, false, false, false, false, false, false, false] rfl rfl (by kernel_rfl) (fun _ _ _ h => h) (Or.inl ⟨by rfl, ?_⟩) ?_ ?_
      rotate_left
      · intro w'
        go_simp
        with_reducible rfl
      rotate_left
      · simp only [Act.put, List.setIfInBounds_toArray, List.set_cons_zero, List.set_cons_succ, i64_w, i32_w]
        rfl
      refine pure_ (i := 47) (N := some 109) (v := ?_) (a' := ?_) #[true, true, true, true, true, true, true, true, true, true, true, true, true, true, true, true, true, true, true, true, true, true, true, true, true, true, true, true, true, true, true, true, true, true, true, true, true, true, true, true, true, true, true, true, true, true, true, true, false, false, false, false, false, false, false, false, false, false, false, false, false, false, false, false, false] rfl rfl (by kernel_rfl) (fun _ _ _ h => h) (Or.inl ⟨by rfl, ?_⟩) ?_ ?_
      rotate_left
      · intro w'
        go_simp
        with_reducible rfl
      rotate_left
      · simp only [Act.put, List.setIfInBounds_toArray, List.set_cons_zero, List.set_cons_succ, i64_w, i32_w]
        rfl
      refine pure_ (i := 50) (N := some 112) (v := ?_) (a' := ?_) #[true, true, true, true, true, true, true, true, true, true, true, true, true, true, true, true, true, true, true, true, true, true, true, true, true, true, true, true, true, true, true, true, true, true, true, true, true, true, true, true, true, true, true, true, true, true, true, true, false, false, true, false, false, false, false, false, false, false, false, false, false, false, false, false, false] rfl rfl (by kernel_rfl) (fun _ _ _ h => h) (Or.inl ⟨by rfl, ?_⟩) ?_ ?_
      rotate_left
      · intro w'
        go_simp
        with_reducible rfl
      rotate_left
      · simp only [Act.put, List.setIfInBounds_toArray, List.set_cons_zero, List.set_cons_succ, i64_w, i32_w]
        rfl
      refine one_ (i := 48) (N := some 110) #[true, true, true, true, true, true, true, true, true, true, true, true, true, true, true, true, true, true, true, true, true, true, true, true, true, true, true, true, true, true, true, true, true, true, true, true, true, true, true, true, true, true, true, true, true, true, true, true, true, false, true, false, false, false, false, false, false, false, false, false, false, false, false, false, false] rfl rfl (by kernel_rfl) (by decide) (fun K hK => ?_)
      clear T
      refine goes_ Try.func47 (by kernel_rfl) rfl #[.slice A4 rs.length c4] (by rfl) rfl rfl (by simp only [List.map_toArray, List.map_cons, List.map_nil]; rfl) ?_
      with_reducible refine (Refs_at A4 rs.length c4 _ rs (Kd.C_below H4.out.1 hHeld.1.below) rfl H4.out.2.1 (by have := H4.out.2.2; omega) rm HV.out.2.2.2.1).mono ?_
      rintro e W48 ⟨B1, d1, rfl, hR, hB⟩
      refine ⟨_, rfl, ?_⟩
      have T := And.intro (hHeld.1.step hB) (Kd.C_below hHeld.2.1 hB)
      have D1 := Aside0.mk (Kd.R_reads' hR).2.2
      clear hHeld hR hB
      refine hK.out _ _ ⟨T.1, T.2, blk_cell T.1.b0 0, blk_cell T.1.b0 1, blk_cell T.1.b0 2, blk_cell T.1.b0 3, blk_cell T.1.by_ 0, blk_cell T.1.by_ 1, blk_cell T.1.by_ 2, blk_cell T.1.by_ 3, blk_cell T.1.bz 0, blk_cell T.1.bz 1, blk_cell T.1.bz 2, blk_cell T.1.bz 3⟩ (fun hHeld => ?_)
      clear hK K
      refine norm_ (a' := ?_) ?_ ?_
      rotate_left
      · show Act.put _ (some 110) _ = _
        simp only [Act.put, List.setIfInBounds_toArray, List.set_cons_zero, List.set_cons_succ, i64_w, i32_w]
        rfl
      refine join_ (σ := Value) 12 #[true, true, true, true, true, true, true, true, true, true, true, true, true, true, true, true, true, true, true, true, true, true, true, true, true, true, true, true, true, true, true, true, true, true, true, true, true, true, true, true, true, true, true, true, true, true, true, true, true, true, true, true, true, false, false, false, false, false, false, false, false, false, false, false, false] (fun s_ => [(111, .string (strOfNums rm)), (113, s_), (114, .string (strOfNums rm))]) (fun s_ w' => TP w w' r ry rz x X A By Bz n c N cy cz L Bu Bv ∧ Kd.C (Kd.int .i64) w' A21 f.length f ∧ w'.cell? ⟨r, 0, none⟩ = some (.int .i64 x.f0) ∧ w'.cell? ⟨r, 1, none⟩ = some (.int .i64 x.f1) ∧ w'.cell? ⟨r, 2, none⟩ = some (.int .i64 x.f2) ∧ w'.cell? ⟨r, 3, none⟩ = some (.slice A n c) ∧ w'.cell? ⟨ry, 0, none⟩ = some (.int .i64 X.f0) ∧ w'.cell? ⟨ry, 1, none⟩ = some (.int .i64 X.f1) ∧ w'.cell? ⟨ry, 2, none⟩ = some (.int .i64 X.f2) ∧ w'.cell? ⟨ry, 3, none⟩ = some (.slice By N cy) ∧ w'.cell? ⟨rz, 0, none⟩ = some (.int .i64 X.f0) ∧ w'.cell? ⟨rz, 1, none⟩ = some (.int .i64 X.f1) ∧ w'.cell? ⟨rz, 2, none⟩ = some (.int .i64 X.f2) ∧ w'.cell? ⟨rz, 3, none⟩ = some (.slice Bz N cz)) ?_ ?_
      rotate_left
      · intro hCont
        as_aux_lemma =>
        refine two_ (i := 49) (j := 51) (Ni := some 111) (Nj := some 113) #[true, true, true, true, true, true, true, true, true, true, true, true, true, true, true, true, true, true, true, true, true, true, true, true, true, true, true, true, true, true, true, true, true, true, true, true, true, true, true, true, true, true, true, true, true, true, true, true, true, true, true, false, false, false, false, false, false, false, false, false, false, false, false, false, false] #[true, true, true, true, true, true, true, true, true, true, true, true, true, true, true, true, true, true, true, true, true, true, true, true, true, true, true, true, true, true, true, true, true, true, true, true, true, true, true, true, true, true, true, true, true, true, true, true, true, false, true, true, false, false, false, false, false, false, false, false, false, false, false, false, false] rfl rfl rfl rfl (by kernel_rfl) (by decide) (by decide) (fun K hK => ?_) (fun K hK => ?_)
        · skip
          clear T
          have s1 := Kd.C_string (P := Try.prog) (A := B1) (c := d1) Try.underlying22 Try.underlying5 Try.underlying9 D1.out
          refine value_ (w1 := ?_) (v := ?_) (by rfl) rfl ?_ ?_
          rotate_left 2
          · go_simp
            constructor
            · rfl
            · rfl
          have T := And.intro hHeld.1 hHeld.2.1
          clear s1 hHeld
          refine hK.out _ _ ⟨T.1, T.2, blk_cell T.1.b0 0, blk_cell T.1.b0 1, blk_cell T.1.b0 2, blk_cell T.1.b0 3, blk_cell T.1.by_ 0, blk_cell T.1.by_ 1, blk_cell T.1.by_ 2, blk_cell T.1.by_ 3, blk_cell T.1.bz 0, blk_cell T.1.bz 1, blk_cell T.1.bz 2, blk_cell T.1.bz 3⟩ (fun hHeld => ?_)
          clear hK K
          refine norm_ (a' := ?_) ?_ ?_
          rotate_left
          · show Act.put _ (some 111) _ = _
            simp only [Act.put, List.setIfInBounds_toArray, List.set_cons_zero, List.set_cons_succ, i64_w, i32_w]
            rfl
          refine one_ (i := 51) (N := some 113) #[true, true, true, true, true, true, true, true, true, true, true, true, true, true, true, true, true, true, true, true, true, true, true, true, true, true, true, true, true, true, true, true, true, true, true, true, true, true, true, true, true, true, true, true, true, true, true, true, true, true, true, true, false, false, false, false, false, false, false, false, false, false, false, false, false] rfl rfl (by kernel_rfl) (by decide) (fun K hK => ?_)
          clear T
          refine goes_ Try.func46 (by kernel_rfl) rfl #[.slice A21 f.length c21] (by rfl) rfl rfl (by simp only [List.map_toArray, List.map_cons, List.map_nil]; rfl) ?_
          with_reducible refine (rNums_at A21 f.length c21 _ f hHeld.2.1 rfl F8.out.1 (by have := HFL.out.1; omega) rm (by rw [← HFL.out.2]; exact HV.out.2.2.2.1)).mono ?_
          rintro e W51 ⟨B2, d2, rfl, hR, hB⟩
          refine ⟨_, rfl, ?_⟩
          have T := And.intro (hHeld.1.step hB) (Kd.C_below hHeld.2.1 hB)
          have D2 := Aside0.mk (Kd.R_reads' hR).2.2
          replace D1 := Aside0.mk (Kd.C_below D1.out hB)
          clear hHeld hR hB
          refine hK.out _ _ ⟨T.1, T.2, blk_cell T.1.b0 0, blk_cell T.1.b0 1, blk_cell T.1.b0 2, blk_cell T.1.b0 3, blk_cell T.1.by_ 0, blk_cell T.1.by_ 1, blk_cell T.1.by_ 2, blk_cell T.1.by_ 3, blk_cell T.1.bz 0, blk_cell T.1.bz 1, blk_cell T.1.bz 2, blk_cell T.1.bz 3⟩ (fun hHeld => ?_)
          clear hK K
          refine norm_ (a' := ?_) ?_ ?_
          rotate_left
          · show Act.put _ (some 113) _ = _
            simp only [Act.put, List.setIfInBounds_toArray, List.set_cons_zero, List.set_cons_succ, i64_w, i32_w]
            rfl
          refine one_ (i := 52) (N := some 114) #[true, true, true, true, true, true, true, true, true, true, true, true, true, true, true, true, true, true, true, true, true, true, true, true, true, true, true, true, true, true, true, true, true, true, true, true, true, true, true, true, true, true, true, true, true, true, true, true, true, true, true, true, true, false, false, false, false, false, false, false, false, false, false, false, false] rfl rfl (by kernel_rfl) (by decide) (fun K hK => ?_)
          clear T
          have s2 := Kd.C_string (P := Try.prog) (A := B2) (c := d2) Try.underlying22 Try.underlying5 Try.underlying9 D2.out
          refine value_ (w1 := ?_) (v := ?_) (by rfl) rfl ?_ ?_
          rotate_left 2
          · go_simp
            constructor
            · rfl
            · rfl
          have T := And.intro hHeld.1 hHeld.2.1
          clear s2 hHeld
          refine hK.out _ _ ⟨T.1, T.2, blk_cell T.1.b0 0, blk_cell T.1.b0 1, blk_cell T.1.b0 2, blk_cell T.1.b0 3, blk_cell T.1.by_ 0, blk_cell T.1.by_ 1, blk_cell T.1.by_ 2, blk_cell T.1.by_ 3, blk_cell T.1.bz 0, blk_cell T.1.bz 1, blk_cell T.1.bz 2, blk_cell T.1.bz 3⟩ (fun hHeld => ?_)
          clear hK K
          refine norm_ (a' := ?_) ?_ ?_
          rotate_left
          · show Act.put _ (some 114) _ = _
            simp only [Act.put, List.setIfInBounds_toArray, List.set_cons_zero, List.set_cons_succ, i64_w, i32_w]
            rfl
          exact norm_ (by simp only [putAll, Act.put, List.setIfInBounds_toArray, List.set_cons_zero, List.set_cons_succ]) (hCont (.slice B2 rm.length d2) _ hHeld)
        · skip
          clear T
          refine goes_ Try.func46 (by kernel_rfl) rfl #[.slice A21 f.length c21] (by rfl) rfl rfl (by simp only [List.map_toArray, List.map_cons, List.map_nil]; rfl) ?_
          with_reducible refine (rNums_at A21 f.length c21 _ f hHeld.2.1 rfl F8.out.1 (by have := HFL.out.1; omega) rm (by rw [← HFL.out.2]; exact HV.out.2.2.2.1)).mono ?_
          rintro e W51 ⟨B2, d2, rfl, hR, hB⟩
          refine ⟨_, rfl, ?_⟩
          have T := And.intro (hHeld.1.step hB) (Kd.C_below hHeld.2.1 hB)
          have D2 := Aside0.mk (Kd.R_reads' hR).2.2
          replace D1 := Aside0.mk (Kd.C_below D1.out hB)
          clear hHeld hR hB
          refine hK.out _ _ ⟨T.1, T.2, blk_cell T.1.b0 0, blk_cell T.1.b0 1, blk_cell T.1.b0 2, blk_cell T.1.b0 3, blk_cell T.1.by_ 0, blk_cell T.1.by_ 1, blk_cell T.1.by_ 2, blk_cell T.1.by_ 3, blk_cell T.1.bz 0, blk_cell T.1.bz 1, blk_cell T.1.bz 2, blk_cell T.1.bz 3⟩ (fun hHeld => ?_)
          clear hK K
          refine norm_ (a' := ?_) ?_ ?_
          rotate_left
          · show Act.put _ (some 113) _ = _
            simp only [Act.put, List.setIfInBounds_toArray, List.set_cons_zero, List.set_cons_succ, i64_w, i32_w]
            rfl
          refine two_ (i := 49) (j := 52) (Ni := some 111) (Nj := some 114) #[true, true, true, true, true, true, true, true, true, true, true, true, true, true, true, true, true, true, true, true, true, true, true, true, true, true, true, true, true, true, true, true, true, true, true, true, true, true, true, true, true, true, true, true, true, true, true, true, true, true, true, true, false, false, false, false, false, false, false, false, false, false, false, false, false] #[true, true, true, true, true, true, true, true, true, true, true, true, true, true, true, true, true, true, true, true, true, true, true, true, true, true, true, true, true, true, true, true, true, true, true, true, true, true, true, true, true, true, true, true, true, true, true, true, true, false, true, true, true, false, false, false, false, false, false, false, false, false, false, false, false] rfl rfl rfl rfl (by kernel_rfl) (by decide) (by decide) (fun K hK => ?_) (fun K hK => ?_)
          · skip
            clear T
            have s1 := Kd.C_string (P := Try.prog) (A := B1) (c := d1) Try.underlying22 Try.underlying5 Try.underlying9 D1.out
            refine value_ (w1 := ?_) (v := ?_) (by rfl) rfl ?_ ?_
            rotate_left 2
            · go_simp
              constructor
              · rfl
              · rfl
            have T := And.intro hHeld.1 hHeld.2.1
            clear s1 hHeld
            refine hK.out _ _ ⟨T.1, T.2, blk_cell T.1.b0 0, blk_cell T.1.b0 1, blk_cell T.1.b0 2, blk_cell T.1.b0 3, blk_cell T.1.by_ 0, blk_cell T.1.by_ 1, blk_cell T.1.by_ 2, blk_cell T.1.by_ 3, blk_cell T.1.bz 0, blk_cell T.1.bz 1, blk_cell T.1.bz 2, blk_cell T.1.bz 3⟩ (fun hHeld => ?_)
            clear hK K
            refine norm_ (a' := ?_) ?_ ?_
            rotate_left
            · show Act.put _ (some 111) _ = _
              simp only [Act.put, List.setIfInBounds_toArray, List.set_cons_zero, List.set_cons_succ, i64_w, i32_w]
              rfl
            refine one_ (i := 52) (N := some 114) #[true, true, true, true, true, true, true, true, true, true, true, true, true, true, true, true, true, true, true, true, true, true, true, true, true, true, true, true, true, true, true, true, true, true, true, true, true, true, true, true, true, true, true, true, true, true, true, true, true, true, true, true, true, false, false, false, false, false, false, false, false, false, false, false, false] rfl rfl (by kernel_rfl) (by decide) (fun K hK => ?_)
            clear T
            have s2 := Kd.C_string (P := Try.prog) (A := B2) (c := d2) Try.underlying22 Try.underlying5 Try.underlying9 D2.out
            refine value_ (w1 := ?_) (v := ?_) (by rfl) rfl ?_ ?_
            rotate_left 2
            · go_simp
              constructor
              · rfl
              · rfl
            have T := And.intro hHeld.1 hHeld.2.1
            clear s2 hHeld
            refine hK.out _ _ ⟨T.1, T.2, blk_cell T.1.b0 0, blk_cell T.1.b0 1, blk_cell T.1.b0 2, blk_cell T.1.b0 3, blk_cell T.1.by_ 0, blk_cell T.1.by_ 1, blk_cell T.1.by_ 2, blk_cell T.1.by_ 3, blk_cell T.1.bz 0, blk_cell T.1.bz 1, blk_cell T.1.bz 2, blk_cell T.1.bz 3⟩ (fun hHeld => ?_)
            clear hK K
            refine norm_ (a' := ?_) ?_ ?_
            rotate_left
            · show Act.put _ (some 114) _ = _
              simp only [Act.put, List.setIfInBounds_toArray, List.set_cons_zero, List.set_cons_succ, i64_w, i32_w]
              rfl
            exact norm_ (by simp only [putAll, Act.put, List.setIfInBounds_toArray, List.set_cons_zero, List.set_cons_succ]) (hCont (.slice B2 rm.length d2) _ hHeld)
          · skip
            clear T
            have s2 := Kd.C_string (P := Try.prog) (A := B2) (c := d2) Try.underlying22 Try.underlying5 Try.underlying9 D2.out
            refine value_ (w1 := ?_) (v := ?_) (by rfl) rfl ?_ ?_
            rotate_left 2
            · go_simp
              constructor
              · rfl
              · rfl
            have T := And.intro hHeld.1 hHeld.2.1
            clear s2 hHeld
            refine hK.out _ _ ⟨T.1, T.2, blk_cell T.1.b0 0, blk_cell T.1.b0 1, blk_cell T.1.b0 2, blk_cell T.1.b0 3, blk_cell T.1.by_ 0, blk_cell T.1.by_ 1, blk_cell T.1.by_ 2, blk_cell T.1.by_ 3, blk_cell T.1.bz 0, blk_cell T.1.bz 1, blk_cell T.1.bz 2, blk_cell T.1.bz 3⟩ (fun hHeld => ?_)
            clear hK K
            refine norm_ (a' := ?_) ?_ ?_
            rotate_left
            · show Act.put _ (some 114) _ = _
              simp only [Act.put, List.setIfInBounds_toArray, List.set_cons_zero, List.set_cons_succ, i64_w, i32_w]
              rfl
            refine one_ (i := 49) (N := some 111) #[true, true, true, true, true, true, true, true, true, true, true, true, true, true, true, true, true, true, true, true, true, true, true, true, true, true, true, true, true, true, true, true, true, true, true, true, true, true, true, true, true, true, true, true, true, true, true, true, true, true, true, true, true, false, false, false, false, false, false, false, false, false, false, false, false] rfl rfl (by kernel_rfl) (by decide) (fun K hK => ?_)
            clear T
            have s1 := Kd.C_string (P := Try.prog) (A := B1) (c := d1) Try.underlying22 Try.underlying5 Try.underlying9 D1.out
            refine value_ (w1 := ?_) (v := ?_) (by rfl) rfl ?_ ?_
            rotate_left 2
            · go_simp
              constructor
              · rfl
              · rfl
            have T := And.intro hHeld.1 hHeld.2.1
            clear s1 hHeld
            refine hK.out _ _ ⟨T.1, T.2, blk_cell T.1.b0 0, blk_cell T.1.b0 1, blk_cell T.1.b0 2, blk_cell T.1.b0 3, blk_cell T.1.by_ 0, blk_cell T.1.by_ 1, blk_cell T.1.by_ 2, blk_cell T.1.by_ 3, blk_cell T.1.bz 0, blk_cell T.1.bz 1, blk_cell T.1.bz 2, blk_cell T.1.bz 3⟩ (fun hHeld => ?_)
            clear hK K
            refine norm_ (a' := ?_) ?_ ?_
            rotate_left
            · show Act.put _ (some 111) _ = _
              simp only [Act.put, List.setIfInBounds_toArray, List.set_cons_zero, List.set_cons_succ, i64_w, i32_w]
              rfl
            exact norm_ (by simp only [putAll, Act.put, List.setIfInBounds_toArray, List.set_cons_zero, List.set_cons_succ]) (hCont (.slice B2 rm.length d2) _ hHeld)
      clear D1
      rintro v113 V51 hS_
      have hHeld : TP w V51 r ry rz x X A By Bz n c N cy cz L Bu Bv ∧ Kd.C (Kd.int .i64) V51 A21 f.length f ∧ V51.cell? ⟨r, 0, none⟩ = some (.int .i64 x.f0) ∧ V51.cell? ⟨r, 1, none⟩ = some (.int .i64 x.f1) ∧ V51.cell? ⟨r, 2, none⟩ = some (.int .i64 x.f2) ∧ V51.cell? ⟨r, 3, none⟩ = some (.slice A n c) ∧ V51.cell? ⟨ry, 0, none⟩ = some (.int .i64 X.f0) ∧ V51.cell? ⟨ry, 1, none⟩ = some (.int .i64 X.f1) ∧ V51.cell? ⟨ry, 2, none⟩ = some (.int .i64 X.f2) ∧ V51.cell? ⟨ry, 3, none⟩ = some (.slice By N cy) ∧ V51.cell? ⟨rz, 0, none⟩ = some (.int .i64 X.f0) ∧ V51.cell? ⟨rz, 1, none⟩ = some (.int .i64 X.f1) ∧ V51.cell? ⟨rz, 2, none⟩ = some (.int .i64 X.f2) ∧ V51.cell? ⟨rz, 3, none⟩ = some (.slice Bz N cz) := hS_
      clear hS_
      as_aux_lemma =>
      refine norm_ (a' := ?_) ?_ ?_
      rotate_left
      · simp only [putAll, Act.put, List.setIfInBounds_toArray, List.set_cons_zero, List.set_cons_succ]
        rfl
      refine pure_ (i := 53) (N := some 115) (v := ?_) (a' := ?_) #[true, true, true, true, true, true, true, true, true, true, true, true, true, true, true, true, true, true, true, true, true, true, true, true, true, true, true, true, true, true, true, true, true, true, true, true, true, true, true, true, true, true, true, true, true, true, true, true, true, true, true, true, true, true, false, false, false, false, false, false, false, false, false, false, false] rfl rfl (by kernel_rfl) (fun _ _ _ h => h) (Or.inl ⟨by rfl, ?_⟩) ?_ ?_
      rotate_left
      · intro w'
        go_simp
        with_reducible rfl
      rotate_left
      · simp only [Act.put, List.setIfInBounds_toArray, List.set_cons_zero, List.set_cons_succ, i64_w, i32_w]
        rfl
      refine pure_ (i := 54) (N := some 116) (v := ?_) (a' := ?_) #[true, true, true, true, true, true, true, true, true, true, true, true, true, true, true, true, true, true, true, true, true, true, true, true, true, true, true, true, true, true, true, true, true, true, true, true, true, true, true, true, true, true, true, true, true, true, true, true, true, true, true, true, true, true, true, false, false, false, false, false, false, false, false, false, false] rfl rfl (by kernel_rfl) (fun _ _ _ h => h) (Or.inl ⟨by rfl, ?_⟩) ?_ ?_
      rotate_left
      · intro w'
        go_simp
        with_reducible rfl
      rotate_left
      · simp only [Act.put, List.setIfInBounds_toArray, List.set_cons_zero, List.set_cons_succ, i64_w, i32_w]
        rfl
      refine pure_ (i := 55) (N := some 117) (v := ?_) (a' := ?_) #[true, true, true, true, true, true, true, true, true, true, true, true, true, true, true, true, true, true, true, true, true, true, true, true, true, true, true, true, true, true, true, true, true, true, true, true, true, true, true, true, true, true, true, true, true, true, true, true, true, true, true, true, true, true, true, true, false, false, false, false, false, false, false, false, false] rfl rfl (by kernel_rfl) (fun _ _ _ h => h) (Or.inl ⟨by rfl, ?_⟩) ?_ ?_
      rotate_left
      · intro w'
        go_simp
        with_reducible rfl
      rotate_left
      · simp only [Act.put, List.setIfInBounds_toArray, List.set_cons_zero, List.set_cons_succ, i64_w, i32_w]
        rfl
      refine pure_ (i := 56) (N := some 118) (v := ?_) (a' := ?_) #[true, true, true, true, true, true, true, true, true, true, true, true, true, true, true, true, true, true, true, true, true, true, true, true, true, true, true, true, true, true, true, true, true, true, true, true, true, true, true, true, true, true, true, true, true, true, true, true, true, true, true, true, true, true, true, true, true, false, false, false, false, false, false, false, false] rfl rfl (by kernel_rfl) (fun _ _ _ h => h) (Or.inl ⟨by rfl, ?_⟩) ?_ ?_
      rotate_left
      · intro w'
        go_simp
        with_reducible rfl
      rotate_left
      · simp only [Act.put, List.setIfInBounds_toArray, List.set_cons_zero, List.set_cons_succ, i64_w, i32_w]
        rfl
      refine pure_ (i := 59) (N := some 121) (v := ?_) (a' := ?_) #[true, true, true, true, true, true, true, true, true, true, true, true, true, true, true, true, true, true, true, true, true, true, true, true, true, true, true, true, true, true, true, true, true, true, true, true, true, true, true, true, true, true, true, true, true, true, true, true, true, true, true, true, true, true, true, true, true, false, false, true, false, false, false, false, false] rfl rfl (by kernel_rfl) (fun _ _ _ h => h) (Or.inl ⟨by rfl, ?_⟩) ?_ ?_
      rotate_left
      · intro w'
        go_simp
        with_reducible rfl
      rotate_left
      · simp only [Act.put, List.setIfInBounds_toArray, List.set_cons_zero, List.set_cons_succ, i64_w, i32_w]
        rfl
      refine one_ (i := 57) (N := some 119) #[true, true, true, true, true, true, true, true, true, true, true, true, true, true, true, true, true, true, true, true, true, true, true, true, true, true, true, true, true, true, true, true, true, true, true, true, true, true, true, true, true, true, true, true, true, true, true, true, true, true, true, true, true, true, true, true, true, true, false, true, false, false, false, false, false] rfl rfl (by kernel_rfl) (by decide) (fun K hK => ?_)
      clear T
      refine goes_ Try.func48 (by kernel_rfl) rfl #[.slice A5 us.length c5] (by rfl) rfl rfl (by simp only [List.map_toArray, List.map_cons, List.map_nil]; rfl) ?_
      with_reducible refine (Amts_at A5 us.length c5 _ us (Kd.C_below H5.out.1 hHeld.1.below) rfl H5.out.2.1 (by have := H5.out.2.2.1; omega) H5.out.2.2.2 am HV.out.2.2.2.2).mono ?_
      rintro e W57 ⟨B1, d1, rfl, hR, hB⟩
      refine ⟨_, rfl, ?_⟩
      have T := And.intro (hHeld.1.step hB) (Kd.C_below hHeld.2.1 hB)
      have D1 := Aside0.mk (Kd.R_reads' hR).2.2
      clear hHeld hR hB
      refine hK.out _ _ ⟨T.1, T.2, blk_cell T.1.b0 0, blk_cell T.1.b0 1, blk_cell T.1.b0 2, blk_cell T.1.b0 3, blk_cell T.1.by_ 0, blk_cell T.1.by_ 1, blk_cell T.1.by_ 2, blk_cell T.1.by_ 3, blk_cell T.1.bz 0, blk_cell T.1.bz 1, blk_cell T.1.bz 2, blk_cell T.1.bz 3⟩ (fun hHeld => ?_)
      clear hK K
      refine norm_ (a' := ?_) ?_ ?_
      rotate_left
      · show Act.put _ (some 119) _ = _
        simp only [Act.put, List.setIfInBounds_toArray, List.set_cons_zero, List.set_cons_succ, i64_w, i32_w]
        rfl
      refine join_ (σ := Value) 3 #[true, true, true, true, true, true, true, true, true, true, true, true, true, true, true, true, true, true, true, true, true, true, true, true, true, true, true, true, true, true, true, true, true, true, true, true, true, true, true, true, true, true, true, true, true, true, true, true, true, true, true, true, true, true, true, true, true, true, true, true, true, true, false, false, false] (fun s_ => [(120, .string (strOfNums am)), (122, s_), (123, .string (strOfNums am))]) (fun s_ w' => TP w w' r ry rz x X A By Bz n c N cy cz L Bu Bv ∧ Kd.C (Kd.int .i64) w' A21 f.length f ∧ w'.cell? ⟨r, 0, none⟩ = some (.int .i64 x.f0) ∧ w'.cell? ⟨r, 1, none⟩ = some (.int .i64 x.f1) ∧ w'.cell? ⟨r, 2, none⟩ = some (.int .i64 x.f2) ∧ w'.cell? ⟨r, 3, none⟩ = some (.slice A n c) ∧ w'.cell? ⟨ry, 0, none⟩ = some (.int .i64 X.f0) ∧ w'.cell? ⟨ry, 1, none⟩ = some (.int .i64 X.f1) ∧ w'.cell? ⟨ry, 2, none⟩ = some (.int .i64 X.f2) ∧ w'.cell? ⟨ry, 3, none⟩ = some (.slice By N cy) ∧ w'.cell? ⟨rz, 0, none⟩ = some (.int .i64 X.f0) ∧ w'.cell? ⟨rz, 1, none⟩ = some (.int .i64 X.f1) ∧ w'.cell? ⟨rz, 2, none⟩ = some (.int .i64 X.f2) ∧ w'.cell? ⟨rz, 3, none⟩ = some (.slice Bz N cz)) ?_ ?_
      rotate_left
      · intro hCont
        as_aux_lemma =>
        refine two_ (i := 58) (j := 60) (Ni := some 120) (Nj := some 122) #[true, true, true, true, true, true, true, true, true, true, true, true, true, true, true, true, true, true, true, true, true, true, true, true, true, true, true, true, true, true, true, true, true, true, true, true, true, true, true, true, true, true, true, true, true, true, true, true, true, true, true, true, true, true, true, true, true, true, true, true, false, false, false, false, false] #[true, true, true, true, true, true, true, true, true, true, true, true, true, true, true, true, true, true, true, true, true, true, true, true, true, true, true, true, true, true, true, true, true, true, true, true, true, true, true, true, true, true, true, true, true, true, true, true, true, true, true, true, true, true, true, true, true, true, false, true, true, false, false, false, false] rfl rfl rfl rfl (by kernel_rfl) (by decide) (by decide) (fun K hK => ?_) (fun K hK => ?_)
        · skip
          clear T
          have s1 := Kd.C_string (P := Try.prog) (A := B1) (c := d1) Try.underlying22 Try.underlying5 Try.underlying9 D1.out
          refine value_ (w1 := ?_) (v := ?_) (by rfl) rfl ?_ ?_
          rotate_left 2
          · go_simp
            constructor
            · rfl
            · rfl
          have T := And.intro hHeld.1 hHeld.2.1
          clear s1 hHeld
          refine hK.out _ _ ⟨T.1, T.2, blk_cell T.1.b0 0, blk_cell T.1.b0 1, blk_cell T.1.b0 2, blk_cell T.1.b0 3, blk_cell T.1.by_ 0, blk_cell T.1.by_ 1, blk_cell T.1.by_ 2, blk_cell T.1.by_ 3, blk_cell T.1.bz 0, blk_cell T.1.bz 1, blk_cell T.1.bz 2, blk_cell T.1.bz 3⟩ (fun hHeld => ?_)
          clear hK K
          refine norm_ (a' := ?_) ?_ ?_
          rotate_left
          · show Act.put _ (some 120) _ = _
            simp only [Act.put, List.setIfInBounds_toArray, List.set_cons_zero, List.set_cons_succ, i64_w, i32_w]
            rfl
          refine one_ (i := 60) (N := some 122) #[true, true, true, true, true, true, true, true, true, true, true, true, true, true, true, true, true, true, true, true, true, true, true, true, true, true, true, true, true, true, true, true, true, true, true, true, true, true, true, true, true, true, true, true, true, true, true, true, true, true, true, true, true, true, true, true, true, true, true, true, true, false, false, false, false] rfl rfl (by kernel_rfl) (by decide) (fun K hK => ?_)
          clear T
          refine goes_ Try.func49 (by kernel_rfl) rfl #[.slice A5 us.length c5] (by rfl) rfl rfl (by simp only [List.map_toArray, List.map_cons, List.map_nil]; rfl) ?_
          with_reducible refine (rAmts_at A5 us.length c5 _ us (Kd.C_below H5.out.1 hHeld.1.below) rfl H5.out.2.1 (by have := H5.out.2.2.1; omega) H5.out.2.2.2 am HV.out.2.2.2.2).mono ?_
          rintro e W60 ⟨B2, d2, rfl, hR, hB⟩
          refine ⟨_, rfl, ?_⟩
          have T := And.intro (hHeld.1.step hB) (Kd.C_below hHeld.2.1 hB)
          have D2 := Aside0.mk (Kd.R_reads' hR).2.2
          replace D1 := Aside0.mk (Kd.C_below D1.out hB)
          clear hHeld hR hB
          refine hK.out _ _ ⟨T.1, T.2, blk_cell T.1.b0 0, blk_cell T.1.b0 1, blk_cell T.1.b0 2, blk_cell T.1.b0 3, blk_cell T.1.by_ 0, blk_cell T.1.by_ 1, blk_cell T.1.by_ 2, blk_cell T.1.by_ 3, blk_cell T.1.bz 0, blk_cell T.1.bz 1, blk_cell T.1.bz 2, blk_cell T.1.bz 3⟩ (fun hHeld => ?_)
          clear hK K
          refine norm_ (a' := ?_) ?_ ?_
          rotate_left
          · show Act.put _ (some 122) _ = _
            simp only [Act.put, List.setIfInBounds_toArray, List.set_cons_zero, List.set_cons_succ, i64_w, i32_w]
            rfl
          refine one_ (i := 61) (N := some 123) #[true, true, true, true, true, true, true, true, true, true, true, true, true, true, true, true, true, true, true, true, true, true, true, true, true, true, true, true, true, true, true, true, true, true, true, true, true, true, true, true, true, true, true, true, true, true, true, true, true, true, true, true, true, true, true, true, true, true, true, true, true, true, false, false, false] rfl rfl (by kernel_rfl) (by decide) (fun K hK => ?_)
          clear T
          have s2 := Kd.C_string (P := Try.prog) (A := B2) (c := d2) Try.underlying22 Try.underlying5 Try.underlying9 D2.out
          refine value_ (w1 := ?_) (v := ?_) (by rfl) rfl ?_ ?_
          rotate_left 2
          · go_simp
            constructor
            · rfl
            · rfl
          have T := And.intro hHeld.1 hHeld.2.1
          clear s2 hHeld
          refine hK.out _ _ ⟨T.1, T.2, blk_cell T.1.b0 0, blk_cell T.1.b0 1, blk_cell T.1.b0 2, blk_cell T.1.b0 3, blk_cell T.1.by_ 0, blk_cell T.1.by_ 1, blk_cell T.1.by_ 2, blk_cell T.1.by_ 3, blk_cell T.1.bz 0, blk_cell T.1.bz 1, blk_cell T.1.bz 2, blk_cell T.1.bz 3⟩ (fun hHeld => ?_)
          clear hK K
          refine norm_ (a' := ?_) ?_ ?_
          rotate_left
          · show Act.put _ (some 123) _ = _
            simp only [Act.put, List.setIfInBounds_toArray, List.set_cons_zero, List.set_cons_succ, i64_w, i32_w]
            rfl
          exact norm_ (by simp only [putAll, Act.put, List.setIfInBounds_toArray, List.set_cons_zero, List.set_cons_succ]) (hCont (.slice B2 am.length d2) _ hHeld)
        · skip
          clear T
          refine goes_ Try.func49 (by kernel_rfl) rfl #[.slice A5 us.length c5] (by rfl) rfl rfl (by simp only [List.map_toArray, List.map_cons, List.map_nil]; rfl) ?_
          with_reducible refine (rAmts_at A5 us.length c5 _ us (Kd.C_below H5.out.1 hHeld.1.below) rfl H5.out.2.1 (by have := H5.out.2.2.1; omega) H5.out.2.2.2 am HV.out.2.2.2.2).mono ?_
          rintro e W60 ⟨B2, d2, rfl, hR, hB⟩
          refine ⟨_, rfl, ?_⟩
          have T := And.intro (hHeld.1.step hB) (Kd.C_below hHeld.2.1 hB)
          have D2 := Aside0.mk (Kd.R_reads' hR).2.2
          replace D1 := Aside0.mk (Kd.C_below D1.out hB)
          clear hHeld hR hB
          refine hK.out _ _ ⟨T.1, T.2, blk_cell T.1.b0 0, blk_cell T.1.b0 1, blk_cell T.1.b0 2, blk_cell T.1.b0 3, blk_cell T.1.by_ 0, blk_cell T.1.by_ 1, blk_cell T.1.by_ 2, blk_cell T.1.by_ 3, blk_cell T.1.bz 0, blk_cell T.1.bz 1, blk_cell T.1.bz 2, blk_cell T.1.bz 3⟩ (fun hHeld => ?_)
          clear hK K
          refine norm_ (a' := ?_) ?_ ?_
          rotate_left
          · show Act.put _ (some 122) _ = _
            simp only [Act.put, List.setIfInBounds_toArray, List.set_cons_zero, List.set_cons_succ, i64_w, i32_w]
            rfl
          refine two_ (i := 58) (j := 61) (Ni := some 120) (Nj := some 123) #[true, true, true, true, true, true, true, true, true, true, true, true, true, true, true, true, true, true, true, true, true, true, true, true, true, true, true, true, true, true, true, true, true, true, true, true, true, true, true, true, true, true, true, true, true, true, true, true, true, true, true, true, true, true, true, true, true, true, true, true, true, false, false, false, false] #[true, true, true, true, true, true, true, true, true, true, true, true, true, true, true, true, true, true, true, true, true, true, true, true, true, true, true, true, true, true, true, true, true, true, true, true, true, true, true, true, true, true, true, true, true, true, true, true, true, true, true, true, true, true, true, true, true, true, false, true, true, true, false, false, false] rfl rfl rfl rfl (by kernel_rfl) (by decide) (by decide) (fun K hK => ?_) (fun K hK => ?_)
          · skip
            clear T
            have s1 := Kd.C_string (P := Try.prog) (A := B1) (c := d1) Try.underlying22 Try.underlying5 Try.underlying9 D1.out
            refine value_ (w1 := ?_) (v := ?_) (by rfl) rfl ?_ ?_
            rotate_left 2
            · go_simp
              constructor
              · rfl
              · rfl
            have T := And.intro hHeld.1 hHeld.2.1
            clear s1 hHeld
            refine hK.out _ _ ⟨T.1, T.2, blk_cell T.1.b0 0, blk_cell T.1.b0 1, blk_cell T.1.b0 2, blk_cell T.1.b0 3, blk_cell T.1.by_ 0, blk_cell T.1.by_ 1, blk_cell T.1.by_ 2, blk_cell T.1.by_ 3, blk_cell T.1.bz 0, blk_cell T.1.bz 1, blk_cell T.1.bz 2, blk_cell T.1.bz 3⟩ (fun hHeld => ?_)
            clear hK K
            refine norm_ (a' := ?_) ?_ ?_
            rotate_left
            · show Act.put _ (some 120) _ = _
              simp only [Act.put, List.setIfInBounds_toArray, List.set_cons_zero, List.set_cons_succ, i64_w, i32_w]
              rfl
            refine one_ (i := 61) (N := some 123) #[true, true, true, true, true, true, true, true, true, true, true, true, true, true, true, true, true, true, true, true, true, true, true, true, true, true, true, true, true, true, true, true, true, true, true, true, true, true, true, true, true, true, true, true, true, true, true, true, true, true, true, true, true, true, true, true, true, true, true, true, true, true, false, false, false] rfl rfl (by kernel_rfl) (by decide) (fun K hK => ?_)
            clear T
            have s2 := Kd.C_string (P := Try.prog) (A := B2) (c := d2) Try.underlying22 Try.underlying5 Try.underlying9 D2.out
            refine value_ (w1 := ?_) (v := ?_) (by rfl) rfl ?_ ?_
            rotate_left 2
            · go_simp
              constructor
              · rfl
              · rfl
            have T := And.intro hHeld.1 hHeld.2.1
            clear s2 hHeld
            refine hK.out _ _ ⟨T.1, T.2, blk_cell T.1.b0 0, blk_cell T.1.b0 1, blk_cell T.1.b0 2, blk_cell T.1.b0 3, blk_cell T.1.by_ 0, blk_cell T.1.by_ 1, blk_cell T.1.by_ 2, blk_cell T.1.by_ 3, blk_cell T.1.bz 0, blk_cell T.1.bz 1, blk_cell T.1.bz 2, blk_cell T.1.bz 3⟩ (fun hHeld => ?_)
            clear hK K
            refine norm_ (a' := ?_) ?_ ?_
            rotate_left
            · show Act.put _ (some 123) _ = _
              simp only [Act.put, List.setIfInBounds_toArray, List.set_cons_zero, List.set_cons_succ, i64_w, i32_w]
              rfl
            exact norm_ (by simp only [putAll, Act.put, List.setIfInBounds_toArray, List.set_cons_zero, List.set_cons_succ]) (hCont (.slice B2 am.length d2) _ hHeld)
          · skip
            clear T
            have s2 := Kd.C_string (P := Try.prog) (A := B2) (c := d2) Try.underlying22 Try.underlying5 Try.underlying9 D2.out
            refine value_ (w1 := ?_) (v := ?_) (by rfl) rfl ?_ ?_
            rotate_left 2
            · go_simp
              constructor
              · rfl
              · rfl
            have T := And.intro hHeld.1 hHeld.2.1
            clear s2 hHeld
            refine hK.out _ _ ⟨T.1, T.2, blk_cell T.1.b0 0, blk_cell T.1.b0 1, blk_cell T.1.b0 2, blk_cell T.1.b0 3, blk_cell T.1.by_ 0, blk_cell T.1.by_ 1, blk_cell T.1.by_ 2, blk_cell T.1.by_ 3, blk_cell T.1.bz 0, blk_cell T.1.bz 1, blk_cell T.1.bz 2, blk_cell T.1.bz 3⟩ (fun hHeld => ?_)
            clear hK K
            refine norm_ (a' := ?_) ?_ ?_
            rotate_left
            · show Act.put _ (some 123) _ = _
              simp only [Act.put, List.setIfInBounds_toArray, List.set_cons_zero, List.set_cons_succ, i64_w, i32_w]
              rfl
            refine one_ (i := 58) (N := some 120) #[true, true, true, true, true, true, true, true, true, true, true, true, true, true, true, true, true, true, true, true, true, true, true, true, true, true, true, true, true, true, true, true, true, true, true, true, true, true, true, true, true, true, true, true, true, true, true, true, true, true, true, true, true, true, true, true, true, true, true, true, true, true, false, false, false] rfl rfl (by kernel_rfl) (by decide) (fun K hK => ?_)
            clear T
            have s1 := Kd.C_string (P := Try.prog) (A := B1) (c := d1) Try.underlying22 Try.underlying5 Try.underlying9 D1.out
            refine value_ (w1 := ?_) (v := ?_) (by rfl) rfl ?_ ?_
            rotate_left 2
            · go_simp
              constructor
              · rfl
              · rfl
            have T := And.intro hHeld.1 hHeld.2.1
            clear s1 hHeld
            refine hK.out _ _ ⟨T.1, T.2, blk_cell T.1.b0 0, blk_cell T.1.b0 1, blk_cell T.1.b0 2, blk_cell T.1.b0 3, blk_cell T.1.by_ 0, blk_cell T.1.by_ 1, blk_cell T.1.by_ 2, blk_cell T.1.by_ 3, blk_cell T.1.bz 0, blk_cell T.1.bz 1, blk_cell T.1.bz 2, blk_cell T.1.bz 3⟩ (fun hHeld => ?_)
            clear hK K
            refine norm_ (a' := ?_) ?_ ?_
            rotate_left
            · show Act.put _ (some 120) _ = _
              simp only [Act.put, List.setIfInBounds_toArray, List.set_cons_zero, List.set_cons_succ, i64_w, i32_w]
              rfl
            exact norm_ (by simp only [putAll, Act.put, List.setIfInBounds_toArray, List.set_cons_zero, List.set_cons_succ]) (hCont (.slice B2 am.length d2) _ hHeld)
      clear D1
      rintro v122 V60 hS_
      have hHeld : TP w V60 r ry rz x X A By Bz n c N cy cz L Bu Bv ∧ Kd.C (Kd.int .i64) V60 A21 f.length f ∧ V60.cell? ⟨r, 0, none⟩ = some (.int .i64 x.f0) ∧ V60.cell? ⟨r, 1, none⟩ = some (.int .i64 x.f1) ∧ V60.cell? ⟨r, 2, none⟩ = some (.int .i64 x.f2) ∧ V60.cell? ⟨r, 3, none⟩ = some (.slice A n c) ∧ V60.cell? ⟨ry, 0, none⟩ = some (.int .i64 X.f0) ∧ V60.cell? ⟨ry, 1, none⟩ = some (.int .i64 X.f1) ∧ V60.cell? ⟨ry, 2, none⟩ = some (.int .i64 X.f2) ∧ V60.cell? ⟨ry, 3, none⟩ = some (.slice By N cy) ∧ V60.cell? ⟨rz, 0, none⟩ = some (.int .i64 X.f0) ∧ V60.cell? ⟨rz, 1, none⟩ = some (.int .i64 X.f1) ∧ V60.cell? ⟨rz, 2, none⟩ = some (.int .i64 X.f2) ∧ V60.cell? ⟨rz, 3, none⟩ = some (.slice Bz N cz) := hS_
      clear hS_
      as_aux_lemma =>
      refine norm_ (a' := ?_) ?_ ?_
      rotate_left
      · simp only [putAll, Act.put, List.setIfInBounds_toArray, List.set_cons_zero, List.set_cons_succ]
        rfl
      refine pure_ (i := 62) (N := some 124) (v := ?_) (a' := ?_) #[true, true, true, true, true, true, true, true, true, true, true, true, true, true, true, true, true, true, true, true, true, true, true, true, true, true, true, true, true, true, true, true, true, true, true, true, true, true, true, true, true, true, true, true, true, true, true, true, true, true, true, true, true, true, true, true, true, true, true, true, true, true, true, false, false] rfl rfl (by kernel_rfl) (fun _ _ _ h => h) (Or.inl ⟨by rfl, ?_⟩) ?_ ?_
      rotate_left
      · intro w'
        go_simp
        with_reducible rfl
      rotate_left
      · simp only [Act.put, List.setIfInBounds_toArray, List.set_cons_zero, List.set_cons_succ, i64_w, i32_w]
        rfl
      refine pure_ (i := 63) (N := some 125) (v := ?_) (a' := ?_) #[true, true, true, true, true, true, true, true, true, true, true, true, true, true, true, true, true, true, true, true, true, true, true, true, true, true, true, true, true, true, true, true, true, true, true, true, true, true, true, true, true, true, true, true, true, true, true, true, true, true, true, true, true, true, true, true, true, true, true, true, true, true, true, true, false] rfl rfl (by kernel_rfl) (fun _ _ _ h => h) (Or.inl ⟨by rfl, ?_⟩) ?_ ?_
      rotate_left
      · intro w'
        go_simp
        with_reducible rfl
      rotate_left
      · simp only [Act.put, List.setIfInBounds_toArray, List.set_cons_zero, List.set_cons_succ, i64_w, i32_w]
        rfl
      refine pure_ (i := 64) (N := some 12) (v := ?_) (a' := ?_) #[true, true, true, true, true, true, true, true, true, true, true, true, true, true, true, true, true, true, true, true, true, true, true, true, true, true, true, true, true, true, true, true, true, true, true, true, true, true, true, true, true, true, true, true, true, true, true, true, true, true, true, true, true, true, true, true, true, true, true, true, true, true, true, true, true] rfl rfl (by kernel_rfl) (fun _ _ _ h => h) (Or.inl ⟨by rfl, ?_⟩) ?_ ?_
      rotate_left
      · intro w'
        go_simp
        with_reducible rfl
      rotate_left
      · simp only [Act.put, List.setIfInBounds_toArray, List.set_cons_zero, List.set_cons_succ, i64_w, i32_w]
        rfl
      refine done_ (by kernel_rfl) ?_
      go_wp2_with fail
      go_ret
      exact ⟨rfl, hHeld.1.below⟩
    | succ k =>
      have hlt : (p : Int) < rs.length := by omega
      have hp0 : (0 : Int) ≤ p := by omega
      obtain ⟨ad, rfl, q0, q1⟩ := at_T76 (Kd.C_below H4.out.1 T7.out.below) p hp0 hlt
      rw [Int.toNat_natCast] at q0 q1
      have HF := Aside0.mk (flat_step (l := rs) (p := p) (by omega))
      obtain ⟨y, hy⟩ : ∃ y, rd_T76 rs p = y := ⟨_, rfl⟩
      rw [hy] at q0 q1 HF
      obtain ⟨f, hf⟩ : ∃ f, flatL (rs.take p) = f := ⟨_, rfl⟩
      have HFL : Aside0 (f.length ≤ 2097152) := ⟨by rw [← hf, flat_len, List.length_take]; omega⟩
      rw [hf] at H21 HF
      rw [hf]
      clear hy hf
      have HQ := Aside0.mk (And.intro q0 q1)
      have z0 := fun (W' : World) (h_ : Below w7.heap.size w7 W') => pw_cell_below h_ HQ.out.1
      have z1 := fun (W' : World) (h_ : Below w7.heap.size w7 W') => pw_cell_below h_ HQ.out.2
      have HP := Aside0.mk hp
      clear q0 q1 hp
      go_wp2_with fail
      have hS := HB.out
      go_region_held3 (fun w' => Below w7.heap.size w7 w') (first | assumption | exact below_alloc (by assumption) _ | exact below_drew (by assumption) | exact below_drew (below_alloc (by assumption) _) | exact below_alloc (below_drew (by assumption)) _ | exact below_step (by assumption) (by assumption) | exact below_step (by assumption) (Drawn0.below (by assumption)))
        ((refine rows_step (k := .i64) (w0 := w7) w7.heap.size (by rfl) (.tmp 49) (.tmp 60) 34 3 8 (by rfl) Try.underlying34 info3 (by decide) (.slice A21 f.length c21) f [y.f0, y.f1] _ 2 2 (by rfl) (by rfl) (by decide) (by first | exact Kd.R_alloc (Kd.R_drew H21.out) _ | exact Kd.R_alloc H21.out _ | exact Kd.R_drew (Kd.R_alloc H21.out _)) (by first | exact C_new [y.f0, y.f1] rfl (by simp) | exact Kd.C_drew (C_new [y.f0, y.f1] rfl (by simp))) (by first | exact below_alloc (below_drew HB.out) _ | exact below_alloc HB.out _ | exact below_drew (below_alloc HB.out _)) (by first | exact (below_alloc (below_drew HB.out) _).size | exact (below_alloc HB.out _).size | exact (below_drew (below_alloc HB.out _)).size) (by have := HFL.out; omega) ?_; intro v61 w61 ho hb hg))
      rename_i hHeld
      have HO := Aside0.mk ho
      have HB2 := Aside0.mk hb
      clear hHeld ho hb hg hS z0 z1 H21 HB
      go_wp2_with fail
      go_roundg k
      case measure => omega
      case rel => exact ⟨p + 1, by rfl, by have := HP.out; omega, ⟨by rw [← HF.out]; exact HO.out⟩, HB2⟩
end Go.Proofs.Ytkfninhbbcfdcaa.Giv
