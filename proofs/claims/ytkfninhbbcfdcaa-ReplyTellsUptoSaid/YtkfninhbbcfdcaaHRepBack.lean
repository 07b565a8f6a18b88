/- The law ReplyBack: what its text comes to. -/
import Derived.Test.YtkfninhbbcfdcaaGAlive27
namespace Go.Proofs.Ytkfninhbbcfdcaa.Giv
open Go.RowKit Go.Proofs.YtkfninhbbcfdcaaW.PrintWords Go.Proofs.YtkfninhbbcfdcaaW.PrintLast Go.Proofs.YtkfninhbbcfdcaaW.PrintMore Go.Proofs.Ytkfninhbbcfdcaa.PReplyTells
set_option linter.unusedVariables false
set_option linter.unusedSimpArgs false

/-- An element's cells. -/
def OutAt (w : World) (a : Addr) (x : S49) (A : Option Addr) (c : Nat) : Prop :=
  w.cell? a = some (.int .i64 x.f0) ∧ w.cell? ⟨a.block, a.off + 1, none⟩ = some (.int .i64 x.f1) ∧ w.cell? ⟨a.block, a.off + 2, none⟩ = some (.int .i64 x.f2) ∧ w.cell? ⟨a.block, a.off + 3, none⟩ = some (.slice A x.f3.length c)
theorem OutAt.below {w w1 : World} {a : Addr} {x : S49} {A : Option Addr} {c : Nat} (h : OutAt w a x A c) (hb : Below w.heap.size w w1) : OutAt w1 a x A c :=
  ⟨pw_cell_below hb h.1, pw_cell_below hb h.2.1, pw_cell_below hb h.2.2.1, pw_cell_below hb h.2.2.2⟩
theorem out_at {w : World} {A : Option Addr} {n : Nat} {xs : List S49} (h : Kd.C k49 w A n xs) (p : Nat) (h1 : (p : Int) < n) : ∃ ad B c, A = some ad ∧ OutAt w (ad.add (p * 4)) (rd_T49 xs p) B c ∧ (rd_T49 xs p).f3.length ≤ c ∧ (Kd.int .u8).C w B (rd_T49 xs p).f3.length (rd_T49 xs p).f3 := by
  obtain ⟨ad, B, c, e, c0, c1, c2, c3, hl, hC⟩ := at_T49 h p (by omega) h1
  rw [Int.toNat_natCast] at c0 c1 c2 c3
  exact ⟨ad, B, c, e, ⟨c0, c1, c2, c3⟩, hl, hC⟩
theorem rdO_eq {l : List S49} {i : Nat} (h : i < l.length) : rd_T49 l i = l[i] := by unfold rd_T49; rw [Int.toNat_natCast, List.getD_eq_getElem?_getD, List.getElem?_eq_getElem h]; rfl
theorem rdO_mem {l : List S49} {i : Nat} (h : i < l.length) : rd_T49 l i ∈ l := by rw [rdO_eq h]; exact List.getElem_mem h
def keepO (l : List S49) (p : Nat) : List S49 := (l.take p).filter mayX
theorem keepO_yes {l : List S49} {p : Nat} (h : p < l.length) (hx : mayX (rd_T49 l p) = true) : keepO l (p + 1) = keepO l p ++ [rd_T49 l p] := by
  unfold keepO
  rw [List.take_succ_eq_append_getElem h, List.filter_append, ← rdO_eq h, List.filter_cons, if_pos hx, List.filter_nil]
theorem keepO_no {l : List S49} {p : Nat} (h : p < l.length) (hx : mayX (rd_T49 l p) = false) : keepO l (p + 1) = keepO l p := by
  unfold keepO
  rw [List.take_succ_eq_append_getElem h, List.filter_append, ← rdO_eq h, List.filter_cons, if_neg (by rw [hx]; decide), List.filter_nil, List.append_nil]
theorem keepO_may {l : List S49} {p : Nat} : ∀ x ∈ keepO l p, mayX x = true := fun x hx => (List.mem_filter.1 hx).2
theorem keepO_le (l : List S49) (p : Nat) : (keepO l p).length ≤ p := Nat.le_trans (List.length_filter_le _ _) (List.length_take_le _ _)
theorem msgsB_le (l : List S49) (h : ∀ x ∈ l, mayX x = true) : (msgsB l).length ≤ l.length * 258 := by
  have := framesB_le (l.map msgL) (fun b hb => by
    obtain ⟨x, hx, rfl⟩ := List.mem_map.1 hb
    rw [msgL_len]
    have := mayX_len (h x hx)
    omega)
  rwa [List.length_map] at this
theorem msgsB_ok (l : List S49) (h : ∀ x ∈ l, mayX x = true) (hb : ∀ x ∈ l, bytesOk x.f3) : bytesOk (msgsB l) := framesB_ok fun b hm => by
  obtain ⟨x, hx, rfl⟩ := List.mem_map.1 hm
  exact msgL_ok (h x hx) (hb x hx)
theorem keepO_ok {l : List S49} {p : Nat} (h : ∀ x ∈ l, bytesOk x.f3) : ∀ x ∈ keepO l p, bytesOk x.f3 := fun x hx => h x (List.mem_of_mem_take (List.mem_filter.1 hx).1)
theorem msg_pos {x : S49} (h : mayX x = true) : (msgB x).length = x.f3.length + 6 := by
  unfold msgB
  rw [if_pos h, frameB_length, msgL_len]
theorem msg_none {x : S49} (h : mayX x = false) : msgB x = [] := by unfold msgB; rw [if_neg (by rw [h]; decide)]
theorem msg_mem {L : List S49} {x : S49} (hx : x ∈ L) {y : Int} (hy : y ∈ x.f3) : y ∈ msgsB L := by
  have h1 : msgL x ∈ L.map msgL := List.mem_map.2 ⟨x, hx, rfl⟩
  have h2 : ∀ (F : List (List Int)) (f : List Int), f ∈ F → ∀ z ∈ f, z ∈ framesB F := by
    intro F
    induction F with
    | nil => intro f hf; cases hf
    | cons g F ih =>
      intro f hf z hz
      simp only [framesB, List.mem_append]
      rcases List.mem_cons.1 hf with rfl | hf
      · left
        unfold frameB
        simp [hz]
      · exact .inr (ih f hf z hz)
  exact h2 _ _ h1 y (by simp [msgL, hy])
theorem msgs_take {L : List S49} {i : Nat} (h : i < L.length) (hm : mayX (rd_T49 L i) = true) : msgsB (L.take i) ++ msgB (rd_T49 L i) = msgsB (L.take (i + 1)) := by
  rw [List.take_succ_eq_append_getElem h, msgsB_append, ← rdO_eq h, msgsB_one hm]
theorem msgs_take_le (L : List S49) (i : Nat) : (msgsB (L.take i)).length ≤ (msgsB L).length := by
  conv => rhs; rw [← List.take_append_drop i L]
  rw [msgsB_append, List.length_append]
  omega
theorem ne_ty1 {a b : Nat} (h : a ≠ b) : ∀ q, q ∈ [a] → q ≠ b := fun q hq => by rw [List.mem_singleton.1 hq]; exact h
abbrev AllB : Nat → Prop := fun _ => True

set_option maxHeartbeats 16000000 in
set_option maxRecDepth 100000 in
theorem replyBack_law (A0 : Option Addr) (c0 : Nat) (l : List S49) (A1 : Option Addr) (c1 : Nat) (b : List Int) (w : World) (hr0 : Kd.C k49 w A0 l.length l) (hc0 : l.length ≤ c0) (hb0 : ∀ x ∈ l, bytesOk x.f3)
    (hr1 : Kd.C (Kd.int .u8) w A1 b.length b) (hc1 : b.length ≤ c1) (hb1 : bytesOk b) (hL : b.length ≤ 1048576) :
    Calls Try.prog 11 #[.slice A0 l.length c0, .slice A1 b.length c1] w fun e w' => e = .returned (.bool true) ∧ Below w.heap.size w w' := by
  have hlen : (l.length : Int) ≤ 9223372036854775807 := by have := hr0.2.1; omega
  have H0 := Aside0.mk (And.intro hr0 (And.intro hc0 hb0))
  have H1 := Aside0.mk (And.intro hr1 (And.intro hc1 (And.intro hb1 hL)))
  clear hr0 hc0 hb0 hr1 hc1 hb1 hL
  obtain ⟨N, hN⟩ : ∃ N, min l.length 20 = N := ⟨_, rfl⟩
  have HN : Aside0 (N ≤ l.length ∧ N ≤ 20 ∧ (N = l.length ∨ N = 20)) := ⟨by omega⟩
  clear hN
  go_enter Try.func11, Try.ntmps11
  go_wp2_with fail
  go_loopg [5, 6, 7] N (fun kq v5 v6 v7 w' => ∃ (p : Nat), v7 = .int .i64 p ∧ p + kq = N ∧ Aside0 (Kd.R (Kd.int .u8) 5 w' w.heap.size AllB v5 (msgsB (keepO l p))) ∧ Aside0 (Kd.R (FO w) 49 w' w.heap.size AllB v6 (keepO l p)) ∧ Aside0 (Below w.heap.size w w'))
  case atStart => exact ⟨0, rfl, by omega, ⟨Kd.R_nil _ _ _ _ _⟩, ⟨Kd.R_nil _ _ _ _ _⟩, ⟨Below.refl _ _⟩⟩
  case round =>
    obtain ⟨p, rfl, hp, H5, H6, HB⟩ := hrel
    obtain ⟨A5, c5, e5⟩ := Kd.R_slice H5.out
    obtain ⟨A6, c6, e6⟩ := Kd.R_slice H6.out
    subst e5 e6
    obtain ⟨K, hK⟩ : ∃ K, keepO l p = K := ⟨_, rfl⟩
    rw [hK] at H5 H6
    rw [hK]
    have HKL : Aside0 (K.length ≤ 20 ∧ (∀ x ∈ K, mayX x = true) ∧ (∀ x ∈ K, bytesOk x.f3)) := ⟨by rw [← hK]; exact ⟨by have := keepO_le l p; have := HN.out; omega, keepO_may, keepO_ok H0.out.2.2⟩⟩
    have HK := Aside0.mk hK
    clear hK
    obtain ⟨d, hd⟩ : ∃ b, msgsB K = b := ⟨_, rfl⟩
    rw [hd] at H5
    rw [hd]
    have HD := Aside0.mk hd
    have HDL : Aside0 (d.length ≤ 6000) := ⟨by have := msgsB_le K HKL.out.2.1; rw [hd] at this; have := HKL.out.1; omega⟩
    clear hd
    cases gk with
    | zero =>
      have hz : p = l.length ∨ p = 20 ∧ (20 : Int) < l.length := by have := HN.out; omega
      have HALL : Aside0 (allM d = (K, 0) ∧ bytesOk d) := ⟨by rw [← HD.out]; exact ⟨all_msgs K HKL.out.2.1, msgsB_ok K HKL.out.2.1 HKL.out.2.2⟩⟩
      obtain ⟨L, le, hLb⟩ : ∃ L le, allM b = (L, le) := ⟨_, _, rfl⟩
      have HLB := Aside0.mk hLb
      have HLM : Aside0 ((∀ x ∈ L, mayX x = true) ∧ (∀ x ∈ L, bytesOk x.f3) ∧ (msgsB L).length ≤ 1048576 ∧ L.length ≤ 1048576 ∧ (le = 0 → msgsB L = b) ∧ (le ≠ 0 → L = [])) := ⟨by
        by_cases h0 : le = 0
        · subst h0
          obtain ⟨h1, h2⟩ := allM_ok hLb
          refine ⟨h2, fun x hx => ?_, by rw [h1]; exact H1.out.2.2.2, ?_, fun _ => h1, fun h => absurd rfl h⟩
          · have hm : bytesOk (msgsB L) := by rw [h1]; exact H1.out.2.2.1
            exact fun y hy => hm y (msg_mem hx hy)
          · have h3 := framesB_len (L.map msgL)
            rw [List.length_map] at h3
            have h4 : (framesB (L.map msgL)).length = b.length := congrArg List.length h1
            have := H1.out.2.2.2
            omega
        · have := allM_bad hLb h0
          subst this
          exact ⟨(fun x hx => by cases hx), (fun x hx => by cases hx), by simp [msgsB, framesB], by simp, fun h => absurd h h0, fun _ => rfl⟩⟩
      clear hLb
      rcases hz with hz | ⟨hz, h20⟩
      all_goals
        subst hz
        clear hp
        go_wp2_with fail
        refine (RepAll_at A5 d.length c5 _ d (Kd.R_reads' H5.out).2.2 rfl (Kd.R_reads' H5.out).2.1 HALL.out.2 (by have := HDL.out; omega) K 0 HALL.out.1).mono ?_
        rintro e w1 ⟨B1, d1, rfl, hR1, hB1⟩
        have n6 := Aside0.mk (FO_C (Kd.R_reads' (Kd.R_below H6.out hB1)).2.2 (below_step HB.out hB1))
        have nc6 := Aside0.mk (Kd.R_reads' H6.out).2.1
        have nB := Aside0.mk (below_step HB.out hB1)
        have nC := Aside0.mk (Kd.R_reads' hR1).2
        clear H5 H6 HB hR1 hB1
        go_wp2_with fail
        refine (SameAll_at B1 K.length d1 _ A6 K.length c6 K nC.out.2 rfl nC.out.1 n6.out rfl nc6.out (by have := HKL.out.1; omega)).mono ?_
        rintro e w2 ⟨rfl, hB2⟩
        have mB := Aside0.mk (below_step nB.out hB2)
        clear hB2 nB nC n6 nc6
        go_wp2_with fail
        refine (RepAll_at A1 b.length c1 _ b (Kd.C_below H1.out.1 mB.out) rfl H1.out.2.1 H1.out.2.2.1 (by have := H1.out.2.2.2; omega) L le HLB.out).mono ?_
        rintro e w3 ⟨B3, d3, rfl, hR3, hB3⟩
        have oC := Aside0.mk (Kd.R_reads' hR3).2
        have oB := Aside0.mk (below_step mB.out hB3)
        clear hR3 hB3 mB
        have hll : (L.length : Int) ≤ 1048576 := by have := HLM.out.2.2.2.1; omega
        go_wp2_with fail
        go_loopg [13, 14] L.length (fun kq v13 v14 w' => ∃ (i : Nat), v14 = .int .i64 i ∧ i + kq = L.length ∧ Aside0 (Kd.R (Kd.int .u8) 5 w' w3.heap.size AllB v13 (msgsB (L.take i))) ∧ Aside0 (Below w3.heap.size w3 w'))
        case atStart => exact ⟨0, rfl, by omega, ⟨Kd.R_nil _ _ _ _ _⟩, ⟨Below.refl _ _⟩⟩
        case round =>
          obtain ⟨i, rfl, hi, H13, HB⟩ := hrel
          obtain ⟨A13, c13, e13⟩ := Kd.R_slice H13.out
          subst e13
          cases gk with
          | zero =>
            obtain rfl : i = L.length := by omega
            rw [List.take_length] at H13
            rw [List.take_length]
            obtain ⟨g, hg⟩ : ∃ g, msgsB L = g := ⟨_, rfl⟩
            rw [hg] at H13
            rw [hg]
            clear hi
            by_cases h0 : le = 0
            · have hgb : g = b := by rw [← hg]; exact HLM.out.2.2.2.2.1 h0
              subst hgb h0
              clear hg
              have H13C := Aside0.mk (Kd.R_reads' H13.out).2.2
              clear H13
              go_wp2_with fail
              refine (alive27_calls _).mono ?_
              rintro e w4 ⟨rfl, hB4⟩
              have hB' := below_step HB.out hB4
              have zB := Aside0.mk (below_step oB.out hB')
              have s1 := Kd.C_string (P := Try.prog) (A := A13) (c := c13) Try.underlying22 Try.underlying5 Try.underlying9 (Kd.C_below H13C.out hB4)
              have s2 := Kd.C_string (P := Try.prog) (A := A1) (c := c1) Try.underlying22 Try.underlying5 Try.underlying9 (Kd.C_below H1.out.1 zB.out)
              clear hB4 hB'
              go_wp2_with fail
              go_ret
              exact ⟨rfl, zB.out⟩
            · obtain rfl : L = [] := HLM.out.2.2.2.2.2 h0
              go_wp2_with fail
              refine (alive27_calls _).mono ?_
              rintro e w4 ⟨rfl, hB4⟩
              have zB := Aside0.mk (below_step oB.out (below_step HB.out hB4))
              clear hB4
              go_wp2_with fail
              go_ret
              exact ⟨rfl, zB.out⟩
          | succ k =>
            have hiL : i < L.length := by omega
            have hlt : (i : Int) < L.length := by omega
            obtain ⟨ad, B0, d0, rfl, hx0, hd0, hC0⟩ := out_at (Kd.C_below oC.out.2 HB.out) i hlt
            obtain ⟨x, hx⟩ : ∃ x, rd_T49 L i = x := ⟨_, rfl⟩
            have hxm : x ∈ L := by rw [← hx]; exact rdO_mem hiL
            rw [hx] at hx0 hd0 hC0
            obtain ⟨n, hn⟩ : ∃ n, x.f3.length = n := ⟨_, rfl⟩
            obtain ⟨m, hm⟩ : ∃ m, msgB x = m := ⟨_, rfl⟩
            obtain ⟨g, hg⟩ : ∃ g, msgsB (L.take i) = g := ⟨_, rfl⟩
            have HG : Aside0 (g ++ m = msgsB (L.take (i + 1)) ∧ g.length + m.length ≤ 1048576) := ⟨by
              have h1 := msgs_take hiL (by rw [hx]; exact HLM.out.1 x hxm)
              rw [hg, hx, hm] at h1
              refine ⟨h1, ?_⟩
              have h2 := msgs_take_le L (i + 1)
              rw [← h1, List.length_append] at h2
              have := HLM.out.2.2.1
              omega⟩
            rw [hg] at H13
            rw [hg]
            have HX := Aside0.mk (And.intro hC0 (And.intro (HLM.out.2.1 x hxm) (And.intro hn hm)))
            obtain ⟨q0, q1, q2, q3⟩ := hx0
            rw [hn] at q3
            have hd0' : n ≤ d0 := by omega
            have HI := Aside0.mk hi
            clear hx hxm hC0 hn hm hg hd0 hi
            go_wp2_with fail
            refine (RWrap_at x B0 n d0 _ HX.out.1 HX.out.2.2.1.symm hd0' HX.out.2.1 m HX.out.2.2.2).mono ?_
            rintro e w4 ⟨B4, d4, rfl, hR4, hB4⟩
            have n13 := Aside0.mk (Kd.R_below H13.out hB4)
            have nB := Aside0.mk (below_step HB.out hB4)
            have HC4 := Aside0.mk (Kd.R_reads' hR4).2.2
            clear hR4 hB4 H13 HB q0 q1 q2 q3
            go_wp2_with (first
              | ((with_reducible refine gate_builtin (b := .append) (xs := #[.tmp 83, .tmp 88]) rfl ?_); at_builtin; refine Kd.R_append_rows (Kd.int .u8) (w0 := w3) w3.heap.size rfl (.tmp 83) (.tmp 88) 22 5 (.int .u8 0) 1 rfl Try.underlying22 info5 rfl (by decide) (by omega) (.slice A13 g.length c13) g m _ _ _ AllB (fun _ => False) rfl rfl ?aO ?aR (fun _ _ h => h) (fun _ h => h.elim) ?aF ?aB ?aS ?aL ?_; (case aR => exact HC4.out); (case aB => exact nB.out); (case aF => exact (fun _ _ => trivial)); (case aO => exact n13.out); (case aS => exact (below_size nB.out)); (case aL => have := HG.out.2; omega); intro v89 w89 ho hb hg hat; rw [HG.out.1] at ho; have m13 := Aside0.mk ho; have mB := Aside0.mk hb; clear n13 nB ho hb hg hat)
              | fail)
            go_roundg k
            case measure => omega
            case rel => exact ⟨i + 1, by rfl, by have := HI.out; omega, m13, mB⟩
    | succ k =>
      have hlt : (p : Int) < l.length := by have := HN.out; omega
      have hlt2 : (p : Int) < 20 := by have := HN.out; omega
      obtain ⟨ad, B0, d0, rfl, hx0, hd0, hC0⟩ := out_at H0.out.1 p hlt
      obtain ⟨x, hx⟩ : ∃ x, rd_T49 l p = x := ⟨_, rfl⟩
      have hxb : bytesOk x.f3 := by rw [← hx]; exact H0.out.2.2 _ (rdO_mem (by omega))
      rw [hx] at hx0 hd0 hC0
      obtain ⟨n, hn⟩ : ∃ n, x.f3.length = n := ⟨_, rfl⟩
      obtain ⟨m, hm⟩ : ∃ m, msgB x = m := ⟨_, rfl⟩
      obtain ⟨bm, hbm⟩ : ∃ bm, mayX x = bm := ⟨_, rfl⟩
      have HX := Aside0.mk (And.intro hx (And.intro hxb (And.intro hC0 (And.intro hx0 (And.intro hn (And.intro hm hbm))))))
      have HD0 := Aside0.mk hd0
      obtain ⟨q0, q1, q2, q3⟩ := hx0.below HB.out
      rw [hn] at q3
      obtain ⟨d2, hd2⟩ : ∃ b2, d ++ m = b2 := ⟨_, rfl⟩
      have HD2 := Aside0.mk hd2
      have HML : Aside0 (m.length ≤ 253) := ⟨by rw [← hm]; exact msgB_len x⟩
      have hd0' : n ≤ d0 := by omega
      clear hx hxb hC0 hx0 hm hbm hd0 hd2 hn
      cases bm with
      | true =>
        have HKS : Aside0 (keepO l (p + 1) = K ++ [x] ∧ msgsB (K ++ [x]) = d2) := ⟨by rw [← HK.out, ← HX.out.1]; exact keepO_yes (by omega) (by rw [HX.out.1]; exact HX.out.2.2.2.2.2.2), by rw [msgsB_append, HD.out, msgsB_one HX.out.2.2.2.2.2.2, HX.out.2.2.2.2.2.1, HD2.out]⟩
        have hml : (m.length : Int) ≤ 253 := by have := HML.out; omega
        have hml0 : (0 : Int) < m.length := by have := msg_pos HX.out.2.2.2.2.2.2; rw [HX.out.2.2.2.2.2.1] at this; omega
        go_wp2_with fail
        refine (RWrap_at x B0 n d0 _ (Kd.C_below HX.out.2.2.1 HB.out) HX.out.2.2.2.2.1.symm hd0' HX.out.2.1 m HX.out.2.2.2.2.2.1).mono ?_
        rintro e w1 ⟨B1, d1, rfl, hR1, hB1⟩
        have n5 := Aside0.mk (Kd.R_below H5.out hB1)
        have n6 := Aside0.mk (Kd.R_below H6.out hB1)
        have nB := Aside0.mk (below_step HB.out hB1)
        have HC1 := Aside0.mk (Kd.R_reads' hR1).2.2
        clear H5 H6 HB hR1 hB1 q0 q1 q2 q3
        obtain ⟨q0, q1, q2, q3⟩ := HX.out.2.2.2.1.below nB.out
        rw [HX.out.2.2.2.2.1] at q3
        go_wp2_with fail
        refine (May_calls x B0 n d0 _ (Kd.C_below HX.out.2.2.1 nB.out) HX.out.2.2.2.2.1.symm hd0' true HX.out.2.2.2.2.2.2).mono ?_
        rintro e w2 ⟨rfl, hB2⟩
        have o5 := Aside0.mk (Kd.R_below n5.out hB2)
        have o6 := Aside0.mk (Kd.R_below n6.out hB2)
        have oB := Aside0.mk (below_step nB.out hB2)
        have HC2 := Aside0.mk (Kd.C_below HC1.out hB2)
        clear n5 n6 nB hB2 q0 q1 q2 q3 HC1
        go_wp2_with (first
          | ((with_reducible refine gate_builtin (b := .append) (xs := #[.tmp 44, .tmp 45]) rfl ?_); at_builtin; refine Kd.R_append_rows (Kd.int .u8) (w0 := w) w.heap.size rfl (.tmp 44) (.tmp 45) 22 5 (.int .u8 0) 1 rfl Try.underlying22 info5 rfl (by decide) (by omega) (.slice A5 d.length c5) d m _ _ _ AllB (fun _ => False) rfl rfl ?aO ?aR (fun _ _ h => h) (fun _ h => h.elim) ?aF ?aB ?aS ?aL ?_; (case aR => exact HC2.out); (case aB => exact oB.out); (case aF => exact (fun _ _ => trivial)); (case aO => exact o5.out); (case aS => exact (below_size oB.out)); (case aL => have := HDL.out; have := HML.out; omega); intro v46 w46 ho hb hg hat; rw [HD2.out] at ho; have m6 := Aside0.mk (Kd.R_over o6.out o5.out (ne_ty1 (by decide)) hg); have m5 := Aside0.mk ho; have mB := Aside0.mk hb; clear o5 o6 oB ho hb hg hat; obtain ⟨A5', c5', e5⟩ := Kd.R_slice m5.out; subst e5; obtain ⟨q0, q1, q2, q3⟩ := HX.out.2.2.2.1.below mB.out; rw [HX.out.2.2.2.2.1] at q3)
          | fail)
        refine (May_calls x B0 n d0 _ (Kd.C_below HX.out.2.2.1 mB.out) HX.out.2.2.2.2.1.symm hd0' true HX.out.2.2.2.2.2.2).mono ?_
        rintro e w3 ⟨rfl, hB3⟩
        have p5 := Aside0.mk (Kd.R_below m5.out hB3)
        have p6 := Aside0.mk (Kd.R_below m6.out hB3)
        have pB := Aside0.mk (below_step mB.out hB3)
        clear m5 m6 mB hB3 q0 q1 q2 q3
        obtain ⟨q0, q1, q2, q3⟩ := HX.out.2.2.2.1.below pB.out
        rw [HX.out.2.2.2.2.1] at q3
        go_wp2_with (first
          | ((with_reducible refine gate_builtin (b := .append) (xs := #[.tmp 52, .tmp 57]) rfl ?_); at_builtin; refine Kd.R_append (FO w) (w0 := w) w.heap.size rfl (.tmp 52) (.tmp 57) 45 49 (.agg #[.int .i64 0, .int .i64 0, .int .i64 0, .slice none 0 0]) 48 rfl Try.underlying45 info49 rfl (show 0 < 4 by decide) (by decide) (.slice A6 K.length c6) K x [.int .i64 x.f0, .int .i64 x.f1, .int .i64 x.f2, .slice B0 n d0] AllB (fun k => some k ≠ (.slice A6 K.length c6 : Value).ownBlock) rfl rfl (by have := k49_mk w x HD0.out HX.out.2.2.1; rw [HX.out.2.2.2.2.1] at this; exact this) (fun k hk => ⟨trivial, hk⟩) (fun _ _ => trivial) p6.out pB.out pB.out.size ?aL ?_; (case aL => have := HKL.out.1; omega); intro v58 w58 ho hb hg hat; have r5 := Aside0.mk (Kd.R_over p5.out p6.out (ne_ty1 (by decide)) hg); have r6 := Aside0.mk ho; have rB := Aside0.mk hb; clear p5 p6 pB ho hb hg hat)
          | fail)
        go_roundg k
        case measure => omega
        case rel => exact ⟨p + 1, by rfl, by omega, ⟨by rw [HKS.out.1, HKS.out.2]; exact r5.out⟩, ⟨by rw [HKS.out.1]; exact r6.out⟩, rB⟩
      | false =>
        obtain rfl : m = [] := by rw [← HX.out.2.2.2.2.2.1]; exact msg_none HX.out.2.2.2.2.2.2
        have HKS : Aside0 (keepO l (p + 1) = K) := ⟨by rw [← HK.out]; exact keepO_no (by omega) (by rw [HX.out.1]; exact HX.out.2.2.2.2.2.2)⟩
        go_wp2_with fail
        refine (RWrap_at x B0 n d0 _ (Kd.C_below HX.out.2.2.1 HB.out) HX.out.2.2.2.2.1.symm hd0' HX.out.2.1 [] HX.out.2.2.2.2.2.1).mono ?_
        rintro e w1 ⟨B1, d1, rfl, hR1, hB1⟩
        have n5 := Aside0.mk (Kd.R_below H5.out hB1)
        have n6 := Aside0.mk (Kd.R_below H6.out hB1)
        have nB := Aside0.mk (below_step HB.out hB1)
        have HC1 := Aside0.mk (Kd.R_reads' hR1).2.2
        clear H5 H6 HB hR1 hB1 q0 q1 q2 q3
        obtain ⟨q0, q1, q2, q3⟩ := HX.out.2.2.2.1.below nB.out
        rw [HX.out.2.2.2.2.1] at q3
        go_wp2_with fail
        refine (May_calls x B0 n d0 _ (Kd.C_below HX.out.2.2.1 nB.out) HX.out.2.2.2.2.1.symm hd0' false HX.out.2.2.2.2.2.2).mono ?_
        rintro e w2 ⟨rfl, hB2⟩
        have o5 := Aside0.mk (Kd.R_below n5.out hB2)
        have o6 := Aside0.mk (Kd.R_below n6.out hB2)
        have oB := Aside0.mk (below_step nB.out hB2)
        have HC2 := Aside0.mk (Kd.C_below HC1.out hB2)
        clear n5 n6 nB hB2 q0 q1 q2 q3 HC1
        go_wp2_with (first
          | ((with_reducible refine gate_builtin (b := .append) (xs := #[.tmp 44, .tmp 45]) rfl ?_); at_builtin; refine Kd.R_append_rows (Kd.int .u8) (w0 := w) w.heap.size rfl (.tmp 44) (.tmp 45) 22 5 (.int .u8 0) 1 rfl Try.underlying22 info5 rfl (by decide) (by omega) (.slice A5 d.length c5) d ([] : List Int) _ _ _ AllB (fun _ => False) rfl rfl ?aO ?aR (fun _ _ h => h) (fun _ h => h.elim) ?aF ?aB ?aS ?aL ?_; (case aR => exact HC2.out); (case aB => exact oB.out); (case aF => exact (fun _ _ => trivial)); (case aO => exact o5.out); (case aS => exact (below_size oB.out)); (case aL => have := HDL.out; simp; omega); intro v46 w46 ho hb hg hat; rw [List.append_nil] at ho; have m6 := Aside0.mk (Kd.R_over o6.out o5.out (ne_ty1 (by decide)) hg); have m5 := Aside0.mk ho; have mB := Aside0.mk hb; clear o5 o6 oB ho hb hg hat; obtain ⟨A5', c5', e5⟩ := Kd.R_slice m5.out; subst e5; obtain ⟨q0, q1, q2, q3⟩ := HX.out.2.2.2.1.below mB.out; rw [HX.out.2.2.2.2.1] at q3)
          | fail)
        refine (May_calls x B0 n d0 _ (Kd.C_below HX.out.2.2.1 mB.out) HX.out.2.2.2.2.1.symm hd0' false HX.out.2.2.2.2.2.2).mono ?_
        rintro e w3 ⟨rfl, hB3⟩
        have p5 := Aside0.mk (Kd.R_below m5.out hB3)
        have p6 := Aside0.mk (Kd.R_below m6.out hB3)
        have pB := Aside0.mk (below_step mB.out hB3)
        clear m5 m6 mB hB3 q0 q1 q2 q3
        go_wp2_with fail
        go_roundg k
        case measure => omega
        case rel => exact ⟨p + 1, by rfl, by omega, ⟨by rw [HKS.out, HD.out]; exact p5.out⟩, ⟨by rw [HKS.out]; exact p6.out⟩, pB⟩
end Go.Proofs.Ytkfninhbbcfdcaa.Giv
