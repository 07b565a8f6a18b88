/- The law LineTells: what its text comes to. -/
import Derived.Test.YtkfninhbbcfdcaaGDeed
import Derived.Deep.CutRange
import Derived.Deep.CutBlock
import Derived.Deep.QuietTactic
import Derived.BigQuiet
namespace Go.Proofs.Ytkfninhbbcfdcaa.Giv
open Go.RowKit Go.Proofs.YtkfninhbbcfdcaaW.PrintWords Go.Proofs.YtkfninhbbcfdcaaW.PrintLast Go.Proofs.YtkfninhbbcfdcaaW.PrintMore Go.Proofs.Ytkfninhbbcfdcaa.PReplyTells
set_option linter.unusedVariables false
set_option linter.unusedSimpArgs false

theorem R_put47 {W : World} {b r : Nat} {ok : Nat → Prop} {v : Value} {xs : List Int} {cs : Array Value} (h : Kd.R (Kd.int .u8) 5 W b ok v xs) (hx : W.heap[r]? = some (.cells cs 47 (0, 0))) (a b1 d : Value) :
    Kd.R (Kd.int .u8) 5 (((W.setCell ⟨r, 0, none⟩ a).setCell ⟨r, 1, none⟩ b1).setCell ⟨r, 2, none⟩ d) b ok v xs :=
  Kd.R_set (Kd.R_set (Kd.R_set h hx (by decide) 0 a) (blk_set hx 0 a) (by decide) 1 b1) (blk_set (blk_set hx 0 a) 1 b1) (by decide) 2 d
theorem R_put47o {wq W : World} {b r : Nat} {ok : Nat → Prop} {v : Value} {xs : List S49} {cs : Array Value} (h : Kd.R (FO wq) 49 W b ok v xs) (hx : W.heap[r]? = some (.cells cs 47 (0, 0))) (a b1 d : Value) :
    Kd.R (FO wq) 49 (((W.setCell ⟨r, 0, none⟩ a).setCell ⟨r, 1, none⟩ b1).setCell ⟨r, 2, none⟩ d) b ok v xs := by
  have ht : ∀ q, q ∈ 49 :: (FO wq).E → q ≠ 47 := by intro p hp; simp [FO, Kd.fixed] at hp; subst hp; decide
  exact Kd.R_set (Kd.R_set (Kd.R_set h hx ht 0 a) (blk_set hx 0 a) ht 1 b1) (blk_set (blk_set hx 0 a) 1 b1) ht 2 d
theorem kept_put47 {W W1 : World} {r : Nat} (hb : Below W.heap.size W W1) (a b1 d : Value) : Kept W (((W1.setCell ⟨r, 0, none⟩ a).setCell ⟨r, 1, none⟩ b1).setCell ⟨r, 2, none⟩ d) (fun k => k = r) :=
  (((Kept.of_below hb (fun k => k = r)).setCell (p := ⟨r, 0, none⟩) (.inl rfl) a).setCell (p := ⟨r, 1, none⟩) (.inl rfl) b1).setCell (p := ⟨r, 2, none⟩) (.inl rfl) d
set_option maxHeartbeats 16000000 in
set_option maxRecDepth 100000 in
theorem lineTells_law (A0 : Option Addr) (c0 : Nat) (l : List S51) (w : World)
    (hC0 : Kd.C k51 w A0 l.length l) (hb0 : ∀ x ∈ l, bytesOk x.f2 ∧ bytesOk x.f3.f3) :
    Calls Try.prog 6 #[.slice A0 l.length c0] w fun e w' => e = .returned (.bool true) ∧ Below w.heap.size w w' := by
  have H0 := Aside0.mk (And.intro hC0 hb0)
  clear hC0 hb0
  obtain ⟨M, hM⟩ : ∃ M, min l.length 80 = M := ⟨_, rfl⟩
  go_enter Try.func6, Try.ntmps6
  go_wp2_with fail
  refine (New_k w).mono ?_
  rintro e w1 ⟨g, c, rfl, hg, hc, h1, hb1⟩
  have HL := Aside0.mk h1
  have HB1 := Aside0.mk hb1
  have HG := Aside0.mk (And.intro hg hc)
  clear hg hc h1 hb1
  obtain ⟨z, hz⟩ : ∃ z, w1.heap.size = z := ⟨_, rfl⟩
  have hw2 := blk_new w1 (.cells #[.slice none 0 0, .bool false, .chan none] 42)
  have hB2 := below_alloc (Below.refl w1.heap.size w1) (.cells #[.slice none 0 0, .bool false, .chan none] 42)
  rw [hz] at hw2
  obtain ⟨w2, hw⟩ : ∃ w2, w1.alloc (.cells #[.slice none 0 0, .bool false, .chan none] 42) = w2 := ⟨_, rfl⟩
  rw [hw] at hw2 hB2
  have HZ2 := Aside0.mk hw2
  have HL2 := Aside0.mk (HL.out.below hB2)
  have HB2 := Aside0.mk (below_step HB1.out hB2)
  clear hw2 hB2 HL HB1
  go_wp2_with fail
  refine (Made_at HL2.out).mono ?_
  rintro e w' ⟨rfl, rfl⟩
  go_wp2_with fail
  refine (Made_zero HZ2.out).mono ?_
  rintro e w' ⟨rfl, rfl⟩
  go_wp2_with fail
  have hz3 := blk_alloc HZ2.out (.cells #[.int .u8 1] 5)
  have hB3 := below_alloc (Below.refl w2.heap.size w2) (.cells #[.int .u8 1] 5)
  obtain ⟨w3, hw3⟩ : ∃ w3, w2.alloc (.cells #[.int .u8 1] 5) = w3 := ⟨_, rfl⟩
  rw [hw3] at hz3 hB3 ⊢
  have HZ3 := Aside0.mk hz3
  have HL3 := Aside0.mk (HL2.out.below hB3)
  have HB3 := Aside0.mk (below_step HB2.out hB3)
  clear hz3 hB3 HL2 HB2 HZ2 hw hz
  refine (Feed_zero HZ3.out _ _ _).mono ?_
  rintro e w' ⟨rfl, rfl⟩
  go_wp2_with fail
  refine (Waits_zero HZ3.out).mono ?_
  rintro e w' ⟨rfl, rfl⟩
  obtain ⟨r, hr⟩ : ∃ r, w3.heap.size = r := ⟨_, rfl⟩
  have hx4 := blk_new w3 (.cells z47 47)
  have hB4 := below_alloc (Below.refl w3.heap.size w3) (.cells z47 47)
  obtain ⟨w4, hw4⟩ : ∃ w4, w3.alloc (.cells z47 47) = w4 := ⟨_, rfl⟩
  rw [hw4] at hx4 hB4
  rw [hr] at hx4
  have y0 : w4.cell? ⟨r, 0, none⟩ = some (.slice none 0 0) := blk_cell hx4 0
  have y1 : w4.cell? ⟨r, 1, none⟩ = some (.bool false) := blk_cell hx4 1
  have y2 : w4.cell? ⟨r, 2, none⟩ = some (.slice none 0 0) := blk_cell hx4 2
  have t0 : w4.frozen? ⟨r, 0, none⟩ = false := blk_frozen hx4 0
  have t1 : w4.frozen? ⟨r, 1, none⟩ = false := blk_frozen hx4 1
  have t2 : w4.frozen? ⟨r, 2, none⟩ = false := blk_frozen hx4 2
  have HL4 := Aside0.mk (HL3.out.below hB4)
  have HB4 := Aside0.mk (below_step HB3.out hB4)
  have HX4 := Aside0.mk hx4
  have HB3S : Aside0 (w.heap.size ≤ r) := ⟨by rw [← hr]; exact HB3.out.size⟩
  clear hx4 hB4 HL3 HB3
  go_wp2_with fail
  have HS : Aside0 (TSt w (((w4.setCell ⟨r, 0, none⟩ (.slice none 0 0)).setCell ⟨r, 1, none⟩ (.bool false)).setCell ⟨r, 2, none⟩ (.slice none 0 0)) g c r (.slice none 0 0) none 0 [] false none 0 [] []) :=
    ⟨TSt.of_put (Ai := none) (ci := 0) (inn := []) (ov := false) (Ao := none) (co := 0) (rest := []) (Ai1 := none) (ci1 := 0) (inn1 := []) (ov1 := false) (Ao1 := none) (co1 := 0) (rest1 := []) HB4.out HL4.out ⟨HX4.out, fun W _ => C_nil W none, fun W _ => Kd.C_nil _ W, Nat.le_refl _, Nat.le_refl _⟩ trivial ⟨Nat.zero_le _, Nat.zero_le _, fun u hu => by cases hu⟩ ⟨HG.out.1, HG.out.2, by have := HB3S.out; omega⟩ (fun W _ => C_nil W none) (fun W _ => Kd.C_nil _ W) (Nat.le_refl _) (Nat.le_refl _)⟩
  obtain ⟨w5, hw5⟩ : ∃ w5, (((w4.setCell ⟨r, 0, none⟩ (.slice none 0 0)).setCell ⟨r, 1, none⟩ (.bool false)).setCell ⟨r, 2, none⟩ (.slice none 0 0)) = w5 := ⟨_, rfl⟩
  rw [hw5] at HS ⊢
  clear hw5 y0 y1 y2 t0 t1 t2 HL4 HB4 HX4 hr hw4 HZ3 hw3
  go_loopg [6] M (fun kq v6 w' => ∃ (p : Nat) (v : Value) (Ai : Option Addr) (ci : Nat) (inn : List Int) (ov : Bool) (Ao : Option Addr) (co : Nat) (rest : List S49) (q : List Value), v6 = .int .i64 p ∧ p + kq = M ∧ Aside0 (TSt w w' g c r v Ai ci inn ov Ao co rest q))
  case atStart => exact ⟨0, _, _, _, _, _, _, _, _, _, rfl, by omega, HS⟩
  case round =>
    obtain ⟨p, v, Ai, ci, inn, ov, Ao, co, rest, q, rfl, hp, HO⟩ := hrel
    clear HS
    cases gk with
    | zero =>
      have hend : (l.length : Int) ≤ p ∨ ((p : Int) < l.length ∧ (80 : Int) ≤ p ∧ decide ((p : Int) < 80) = false) := by
        by_cases h1 : (l.length : Int) ≤ p
        · exact .inl h1
        · exact .inr ⟨by omega, by omega, decide_eq_false (by omega)⟩
      have HB := Aside0.mk HO.out.below
      clear hp hM HO
      rcases hend with he | ⟨he, he2, he3⟩
      all_goals
        go_wp2_with fail
        refine (alive35_calls _).mono ?_
        rintro e w6 ⟨rfl, hb6⟩
        have HB6 := Aside0.mk (below_step HB.out hb6)
        clear hb6
        go_wp2_with fail
        go_ret
        exact ⟨rfl, HB6.out⟩
    | succ gk =>
      have hlt : (p : Int) < l.length := by omega
      have hlt8 : (p : Int) < 80 := by omega
      have hp0 : (0 : Int) ≤ p := by omega
      obtain ⟨ad, A2, c2, A3, c3, rfl, hd⟩ := at_T51 H0.out.1 p hp0 hlt
      have hby := H0.out.2 (rd_T51 l p) (by unfold rd_T51; rw [Int.toNat_natCast, List.getD_eq_getElem?_getD, List.getElem?_eq_getElem (by omega)]; exact List.getElem_mem _)
      obtain ⟨y, hy⟩ : ∃ y, rd_T51 l p = y := ⟨_, rfl⟩
      rw [hy, Int.toNat_natCast] at hd
      rw [hy] at hby
      obtain ⟨yk, yn, yb, yx⟩ := y
      have HY := Aside0.mk (And.intro hd hby)
      have HP := Aside0.mk hp
      have d0 := pw_cell_below HO.out.below hd.h0
      have d1 := pw_cell_below HO.out.below hd.h1
      have d2 := pw_cell_below HO.out.below hd.h2
      have d3 := pw_cell_below HO.out.below hd.h3
      have d4 := pw_cell_below HO.out.below hd.h4
      have d5 := pw_cell_below HO.out.below hd.h5
      have d6 := pw_cell_below HO.out.below hd.h6
      simp only at d0 d1 d2 d3 d4 d5 d6
      obtain ⟨r7, hr7⟩ : ∃ r, wr.heap.size = r := ⟨_, rfl⟩
      clear hd hby hp hy
      have hxb := blk_new wr (.cells #[.int .i64 yk, .int .i64 yn, .slice A2 yb.length c2, .int .i64 yx.f0, .int .i64 yx.f1, .int .i64 yx.f2, .slice A3 yx.f3.length c3] 51)
      have hbb := below_alloc (Below.refl wr.heap.size wr) (.cells #[.int .i64 yk, .int .i64 yn, .slice A2 yb.length c2, .int .i64 yx.f0, .int .i64 yx.f1, .int .i64 yx.f2, .slice A3 yx.f3.length c3] 51)
      rw [hr7] at hxb
      obtain ⟨wb, hwb⟩ : ∃ wb, wr.alloc (.cells #[.int .i64 yk, .int .i64 yn, .slice A2 yb.length c2, .int .i64 yx.f0, .int .i64 yx.f1, .int .i64 yx.f2, .slice A3 yx.f3.length c3] 51) = wb := ⟨_, rfl⟩
      rw [hwb] at hxb hbb
      have HXB := Aside0.mk hxb
      have HT := Aside0.mk (HO.out.below1 hbb)
      clear hxb hbb
      go_upto_region 10 with fail
      clear hwb hr7 d0 d1 d2 d3 d4 d5 d6 HO
      have d0 : wb.cell? ⟨r7, 0, none⟩ = some (.int .i64 yk) := blk_cell HXB.out 0
      go_upto_block 2 with fail
      go_cut [8, 9, 10, 11, 12, 13, 14, 15, 16, 17, 18, 19] from 62 to 138 (fun v8 v9 v10 v11 v12 v13 v14 v15 v16 v17 v18 v19 wx => ∃ (v : Value) (Ai : Option Addr) (ci : Nat) (inn : List Int) (ov : Bool) (Ao : Option Addr) (co : Nat) (rest : List S49) (q : List Value), Aside0 (TSt w wx g c r v Ai ci inn ov Ao co rest q))
      case first =>
        have d1 : wb.cell? ⟨r7, 1, none⟩ = some (.int .i64 yn) := blk_cell HXB.out 1
        have d2 : wb.cell? ⟨r7, 2, none⟩ = some (.slice A2 yb.length c2) := blk_cell HXB.out 2
        have d3 : wb.cell? ⟨r7, 3, none⟩ = some (.int .i64 yx.f0) := blk_cell HXB.out 3
        have d4 : wb.cell? ⟨r7, 4, none⟩ = some (.int .i64 yx.f1) := blk_cell HXB.out 4
        have d5 : wb.cell? ⟨r7, 5, none⟩ = some (.int .i64 yx.f2) := blk_cell HXB.out 5
        have d6 : wb.cell? ⟨r7, 6, none⟩ = some (.slice A3 yx.f3.length c3) := blk_cell HXB.out 6
        have HLO := Aside0.mk (lineB_lo HT.out.ln HT.out.lo)
        by_cases h0 : yk = 0
        · subst h0
          go_wp2_with fail
          obtain ⟨z1, hz1⟩ : ∃ z1 : Int, z1 = (yb.length : Int) - ((min yb.length (256 - inn.length) : Nat) : Int) := ⟨_, rfl⟩
          obtain ⟨o2, ho2⟩ : ∃ o2, (ov || decide (0 < z1)) = o2 := ⟨_, rfl⟩
          obtain ⟨y, hy⟩ : ∃ y, inn ++ yb.take (256 - inn.length) = y := ⟨_, rfl⟩
          have HZ := Aside0.mk (And.intro hz1 (And.intro ho2 hy))
          clear hz1 ho2 hy
          refine (Feed_at HT.out.ln HT.out.few.1 A2 yb.length c2 yb (Kd.C_below HY.out.1.g2 HT.out.below) rfl HY.out.1.l2 (min yb.length (256 - inn.length)) rfl z1 HZ.out.1 o2 HZ.out.2.1.symm).mono ?_
          rintro e w6 ⟨v1, rfl, hl1, hk1, ho1⟩
          rw [show inn ++ yb.take (min yb.length (256 - inn.length)) = y by rw [← HZ.out.2.2]; congr 1; rw [List.take_eq_take_iff]; omega] at hl1
          have HL1 := Aside0.mk hl1
          have HR1 := Aside0.mk (HT.out.rf.line HT.out.ln hk1 (fun j hj => ho1.elim (fun e => .inl (by rw [← e]; exact hj)) (fun ⟨i, e1, e2⟩ => .inr (by rw [hj] at e1; injection e1 with e1; omega))))
          have HB1 := Aside0.mk (hk1.below HT.out.below HLO.out)
          have HX1 := Aside0.mk (blk_kept HXB.out hk1.kept (HT.out.ln.nott (by decide) HXB.out))
          have HC1 := Aside0.mk (Kd.C_kept_came (Kd.heap_int _) HY.out.1.g2 HT.out.below HLO.out _ hk1.kept)
          clear hl1 hk1 ho1 d0 d1 d2 d3 d4 d5 d6
          have x0 : w6.cell? ⟨r, 0, none⟩ = some (.slice Ai inn.length ci) := blk_cell HR1.out.x 0
          have x1 : w6.cell? ⟨r, 1, none⟩ = some (.bool ov) := blk_cell HR1.out.x 1
          have x2 : w6.cell? ⟨r, 2, none⟩ = some (.slice Ao rest.length co) := blk_cell HR1.out.x 2
          have d2 : w6.cell? ⟨r7, 2, none⟩ = some (.slice A2 yb.length c2) := blk_cell HX1.out 2
          go_wp2_with fail
          refine (rFeed_calls Ai ci inn ov Ao rest.length co A2 c2 yb w6 HR1.out.cin HT.out.few.1 HC1.out z1 HZ.out.1 y HZ.out.2.2 o2 HZ.out.2.1).mono ?_
          rintro e w7 ⟨A7, c7, rfl, hR7, hB7⟩
          have HR7 := Aside0.mk (HR1.out.below hB7)
          have HL7 := Aside0.mk (HL1.out.below hB7)
          have HB7 := Aside0.mk (below_step HB1.out hB7)
          have HF7 := Aside0.mk (HL1.out.fresh HR1.out hR7)
          have HC7 := Aside0.mk (Kd.R_reads' hR7).2.1
          have HYY : Aside0 (y.length ≤ 256 ∧ bytesOk y) := ⟨by
            rw [← HZ.out.2.2]
            refine ⟨?_, bytesOk_app HT.out.few.2.2 (fun u hu => HY.out.2.1 u (List.mem_of_mem_take hu))⟩
            rw [List.length_append, List.length_take]
            have := HT.out.few.1
            omega⟩
          clear hR7 hB7 x0 x1 x2 d2
          have x0 : w7.cell? ⟨r, 0, none⟩ = some (.slice Ai inn.length ci) := blk_cell HR7.out.x 0
          have x1 : w7.cell? ⟨r, 1, none⟩ = some (.bool ov) := blk_cell HR7.out.x 1
          have x2 : w7.cell? ⟨r, 2, none⟩ = some (.slice Ao rest.length co) := blk_cell HR7.out.x 2
          have s0 : w7.frozen? ⟨r, 0, none⟩ = false := blk_frozen HR7.out.x 0
          have s1 : w7.frozen? ⟨r, 1, none⟩ = false := blk_frozen HR7.out.x 1
          have s2 : w7.frozen? ⟨r, 2, none⟩ = false := blk_frozen HR7.out.x 2
          go_wp2_with fail
          go_meet
          exact ⟨v1, A7, c7, y, o2, Ao, co, rest, q, ⟨TSt.of_put HB7.out HL7.out HR7.out HT.out.qr ⟨HYY.out.1, HT.out.few.2.1, HYY.out.2⟩ HT.out.lo HF7.out HR7.out.ko HC7.out HR7.out.lo⟩⟩
        · have h0' : (yk == 0) = false := by simpa using h0
          clear h0
          by_cases h1 : yk = 1
          · subst h1
            have k0 := fun (W : World) => Kd.C_string (P := Try.prog) (c := 0) (n := 0) Try.underlying22 Try.underlying5 Try.underlying9 (C_nil (k := .u8) W none)
            obtain ⟨n, hn, hnl⟩ := tk_n inn 60
            obtain ⟨x, er, hT⟩ : ∃ x er, tk inn 60 = (x, (n : Int), er) := ⟨_, _, by rw [← hn]⟩
            have HTK := Aside0.mk (And.intro hT hnl)
            clear hn hnl hT
            cases ov with
            | true =>
              go_wp2_with fail
              refine (Next_over HT.out.ln).mono ?_
              rintro e w6 ⟨rfl, hl1, hk1⟩
              have HL1 := Aside0.mk hl1
              have HR1 := Aside0.mk (HT.out.rf.line (v1 := .slice none 0 0) HT.out.ln hk1 (fun j hj => (by cases hj)))
              have HB1 := Aside0.mk (hk1.below HT.out.below HLO.out)
              clear hl1 hk1 d0 d1 d2 d3 d4 d5 d6
              have x0 : w6.cell? ⟨r, 0, none⟩ = some (.slice Ai inn.length ci) := blk_cell HR1.out.x 0
              have x1 : w6.cell? ⟨r, 1, none⟩ = some (.bool true) := blk_cell HR1.out.x 1
              have x2 : w6.cell? ⟨r, 2, none⟩ = some (.slice Ao rest.length co) := blk_cell HR1.out.x 2
              go_wp2_with fail
              refine (rNext_over Ai inn.length ci Ao rest.length co w6).mono ?_
              rintro e w7 ⟨rfl, hB7⟩
              have HR7 := Aside0.mk (HR1.out.below hB7)
              have HL7 := Aside0.mk (HL1.out.below hB7)
              have HB7 := Aside0.mk (below_step HB1.out hB7)
              clear hB7 x0 x1 x2
              have x0 : w7.cell? ⟨r, 0, none⟩ = some (.slice Ai inn.length ci) := blk_cell HR7.out.x 0
              have x1 : w7.cell? ⟨r, 1, none⟩ = some (.bool true) := blk_cell HR7.out.x 1
              have x2 : w7.cell? ⟨r, 2, none⟩ = some (.slice Ao rest.length co) := blk_cell HR7.out.x 2
              have s0 : w7.frozen? ⟨r, 0, none⟩ = false := blk_frozen HR7.out.x 0
              have s1 : w7.frozen? ⟨r, 1, none⟩ = false := blk_frozen HR7.out.x 1
              have s2 : w7.frozen? ⟨r, 2, none⟩ = false := blk_frozen HR7.out.x 2
              go_wp2_with fail
              go_meet
              refine ⟨.slice none 0 0, none, 0, [], false, Ao, co, rest, q, ⟨?_⟩⟩
              have hfin := TSt.of_put (Ai1 := none) (ci1 := 0) (inn1 := []) (ov1 := false) (Ao1 := Ao) (co1 := co) (rest1 := rest) HB7.out HL7.out HR7.out HT.out.qr ⟨Nat.zero_le _, HT.out.few.2.1, fun u hu => by cases hu⟩ HT.out.lo (fun W _ => C_nil W none) HR7.out.ko (Nat.le_refl _) HR7.out.lo
              exact hfin
            | false =>
              by_cases her : er = 12
              · subst her
                go_wp2_with fail
                refine (Next_short HT.out.ln HT.out.few.2.2 x n HTK.out.1).mono ?_
                rintro e w6 ⟨rfl, hB6⟩
                have HT6 := Aside0.mk (HT.out.below1 hB6)
                have HR1 := Aside0.mk HT6.out.rf
                clear hB6 d0 d1 d2 d3 d4 d5 d6
                have x0 : w6.cell? ⟨r, 0, none⟩ = some (.slice Ai inn.length ci) := blk_cell HR1.out.x 0
                have x1 : w6.cell? ⟨r, 1, none⟩ = some (.bool false) := blk_cell HR1.out.x 1
                have x2 : w6.cell? ⟨r, 2, none⟩ = some (.slice Ao rest.length co) := blk_cell HR1.out.x 2
                go_wp2_with fail
                refine (rNext_in Ai ci inn Ao rest.length co w6 HR1.out.cin HR1.out.li HT.out.few.2.2 x n 12 HTK.out.1 HTK.out.2).mono ?_
                rintro e w7 ⟨hB7, hP⟩
                rw [if_pos rfl] at hP
                subst hP
                have HT7 := Aside0.mk (HT6.out.below1 hB7)
                have HR7 := Aside0.mk HT7.out.rf
                clear hB7 x0 x1 x2
                have x0 : w7.cell? ⟨r, 0, none⟩ = some (.slice Ai inn.length ci) := blk_cell HR7.out.x 0
                have x1 : w7.cell? ⟨r, 1, none⟩ = some (.bool false) := blk_cell HR7.out.x 1
                have x2 : w7.cell? ⟨r, 2, none⟩ = some (.slice Ao rest.length co) := blk_cell HR7.out.x 2
                have s0 : w7.frozen? ⟨r, 0, none⟩ = false := blk_frozen HR7.out.x 0
                have s1 : w7.frozen? ⟨r, 1, none⟩ = false := blk_frozen HR7.out.x 1
                have s2 : w7.frozen? ⟨r, 2, none⟩ = false := blk_frozen HR7.out.x 2
                go_wp2_with fail
                go_meet
                exact ⟨v, Ai, ci, inn, false, Ao, co, rest, q, ⟨TSt.of_put HT7.out.below HT7.out.ln HR7.out HT.out.qr HT.out.few HT.out.lo HR7.out.ki HR7.out.ko HR7.out.li HR7.out.lo⟩⟩
              · have HER := Aside0.mk her
                clear her
                go_wp2_with fail
                refine (Next_frame HT.out.ln HT.out.few.1 HT.out.few.2.2 x n er HTK.out.1 HER.out HTK.out.2).mono ?_
                rintro e w6 ⟨Ax, cx, v1, rfl, hRx, hl1, hk1, ho1⟩
                have HL1 := Aside0.mk hl1
                have HR1 := Aside0.mk (HT.out.rf.line HT.out.ln hk1 (fun j hj => .inr (ho1 j hj)))
                have HB1 := Aside0.mk (hk1.below HT.out.below HLO.out)
                have HRX := Aside0.mk hRx
                clear hl1 hk1 ho1 hRx d0 d1 d2 d3 d4 d5 d6
                have x0 : w6.cell? ⟨r, 0, none⟩ = some (.slice Ai inn.length ci) := blk_cell HR1.out.x 0
                have x1 : w6.cell? ⟨r, 1, none⟩ = some (.bool false) := blk_cell HR1.out.x 1
                have x2 : w6.cell? ⟨r, 2, none⟩ = some (.slice Ao rest.length co) := blk_cell HR1.out.x 2
                go_wp2_with fail
                refine (rNext_in Ai ci inn Ao rest.length co w6 HR1.out.cin HR1.out.li HT.out.few.2.2 x n er HTK.out.1 HTK.out.2).mono ?_
                rintro e w7 ⟨hB7, hP⟩
                rw [if_neg HER.out] at hP
                obtain ⟨A8, c8, A9, rfl, hC8, hl8, hD9⟩ := hP
                obtain ⟨y, hy⟩ : ∃ y, inn.drop n = y := ⟨_, rfl⟩
                have hyl : inn.length - n = y.length := by rw [← hy, List.length_drop]
                rw [hyl]
                rw [hyl, hy] at hD9
                have HR7 := Aside0.mk (HR1.out.below hB7)
                have HL7 := Aside0.mk (HL1.out.below hB7)
                rw [hy] at HL7
                have HB7 := Aside0.mk (below_step HB1.out hB7)
                have HD9 := Aside0.mk hD9
                have HC9 : Aside0 (y.length ≤ ci - n ∧ y.length ≤ 256 ∧ bytesOk y) := ⟨by have := HR1.out.li; omega, by have := HT.out.few.1; omega, by rw [← hy]; exact fun u hu => HT.out.few.2.2 u (List.mem_of_mem_drop hu)⟩
                have k1 := Kd.C_string (P := Try.prog) (A := Ax) (c := cx) Try.underlying22 Try.underlying5 Try.underlying9 (Kd.R_reads' (R_put47 (Kd.R_below HRX.out hB7) HR7.out.x (.slice A9 y.length (ci - n)) (.bool false) (.slice Ao rest.length co))).2.2
                have k2 := Kd.C_string (P := Try.prog) (A := A8) (c := c8) Try.underlying22 Try.underlying5 Try.underlying9 (HR1.out.apart hC8 _ (kept_put47 (r := r) hB7 (.slice A9 y.length (ci - n)) (.bool false) (.slice Ao rest.length co)))
                clear hB7 x0 x1 x2 hC8 hl8 hD9 hyl hy k0
                have x0 : w7.cell? ⟨r, 0, none⟩ = some (.slice Ai inn.length ci) := blk_cell HR7.out.x 0
                have x1 : w7.cell? ⟨r, 1, none⟩ = some (.bool false) := blk_cell HR7.out.x 1
                have x2 : w7.cell? ⟨r, 2, none⟩ = some (.slice Ao rest.length co) := blk_cell HR7.out.x 2
                have s0 : w7.frozen? ⟨r, 0, none⟩ = false := blk_frozen HR7.out.x 0
                have s1 : w7.frozen? ⟨r, 1, none⟩ = false := blk_frozen HR7.out.x 1
                have s2 : w7.frozen? ⟨r, 2, none⟩ = false := blk_frozen HR7.out.x 2
                go_wp2_with fail
                go_meet
                exact ⟨v1, A9, ci - n, y, false, Ao, co, rest, q, ⟨TSt.of_put HB7.out HL7.out HR7.out HT.out.qr ⟨HC9.out.2.1, HT.out.few.2.1, HC9.out.2.2⟩ HT.out.lo (fun W hk => HD9.out W (HR7.out.ki W hk)) HR7.out.ko HC9.out.1 HR7.out.lo⟩⟩
          · have h1' : (yk == 1) = false := by simpa using h1
            clear h1
            by_cases h2 : yk = 2
            · subst h2
              by_cases hroom : if keepsO yx.f0 = true then rest.length < 7 else rest.length < 8
              · have HRM := Aside0.mk hroom
                clear hroom
                obtain ⟨rest2, hr2⟩ : ∃ z, rest ++ [⟨yx.f0, yx.f1, yx.f2, yx.f3⟩] = z := ⟨_, rfl⟩
                have HR2 := Aside0.mk hr2
                clear hr2
                go_wp2_with fail
                refine (Tell_yes HT.out.ln yx.f0 yx.f1 yx.f2 _ ⟨_, _, _, rfl⟩ (by have := HT.out.qr.len; have := HRM.out; split at this <;> omega) (fun h => by have := HT.out.qr.len; have := HRM.out; rw [if_pos h] at this; omega)).mono ?_
                rintro e w6 ⟨rfl, hl1, hk1⟩
                have HL1 := Aside0.mk hl1
                have HR1 := Aside0.mk (HT.out.rf.line HT.out.ln hk1 (fun j hj => .inl hj))
                have HB1 := Aside0.mk (hk1.below HT.out.below HLO.out)
                have HX1 := Aside0.mk (blk_kept HXB.out hk1.kept (HT.out.ln.nott (by decide) HXB.out))
                clear hl1 hk1 d0 d1 d2 d3 d4 d5 d6
                have x0 : w6.cell? ⟨r, 0, none⟩ = some (.slice Ai inn.length ci) := blk_cell HR1.out.x 0
                have x1 : w6.cell? ⟨r, 1, none⟩ = some (.bool ov) := blk_cell HR1.out.x 1
                have x2 : w6.cell? ⟨r, 2, none⟩ = some (.slice Ao rest.length co) := blk_cell HR1.out.x 2
                have d3 : w6.cell? ⟨r7, 3, none⟩ = some (.int .i64 yx.f0) := blk_cell HX1.out 3
                have d4 : w6.cell? ⟨r7, 4, none⟩ = some (.int .i64 yx.f1) := blk_cell HX1.out 4
                have d5 : w6.cell? ⟨r7, 5, none⟩ = some (.int .i64 yx.f2) := blk_cell HX1.out 5
                have d6 : w6.cell? ⟨r7, 6, none⟩ = some (.slice A3 yx.f3.length c3) := blk_cell HX1.out 6
                go_wp2_with fail
                have hyes := rTell_yes w Ai inn.length ci ov Ao co rest yx.f0 yx.f1 yx.f2 yx.f3 A3 c3 w6 HRM.out HR1.out.cout HY.out.1.l3 HY.out.1.g3
                rw [HR2.out] at hyes
                refine hyes.mono ?_
                clear hyes
                rintro e w7 ⟨A8, c8, rfl, hR8, hB7⟩
                have HR7 := Aside0.mk (HR1.out.below hB7)
                have HL7 := Aside0.mk (HL1.out.below hB7)
                have HB7 := Aside0.mk (below_step HB1.out hB7)
                have HF7 := Aside0.mk (HL1.out.fresh HR1.out hR8)
                have HC7 := Aside0.mk (Kd.R_reads' hR8).2.1
                have HQ7 : Aside0 (QR w rest2 (q ++ [.agg #[.int .i64 yx.f0, .int .i64 yx.f1, .int .i64 yx.f2, .slice A3 yx.f3.length c3]]) ∧ rest2.length ≤ 8) := ⟨by
                  rw [← HR2.out]
                  refine ⟨QR.snoc ⟨A3, c3, rfl, HY.out.1.l3, HY.out.1.g3⟩ HT.out.qr, ?_⟩
                  rw [List.length_append, List.length_singleton]
                  have := HRM.out
                  split at this <;> omega⟩
                clear hR8 hB7 x0 x1 x2 d3 d4 d5 d6
                have x0 : w7.cell? ⟨r, 0, none⟩ = some (.slice Ai inn.length ci) := blk_cell HR7.out.x 0
                have x1 : w7.cell? ⟨r, 1, none⟩ = some (.bool ov) := blk_cell HR7.out.x 1
                have x2 : w7.cell? ⟨r, 2, none⟩ = some (.slice Ao rest.length co) := blk_cell HR7.out.x 2
                have s0 : w7.frozen? ⟨r, 0, none⟩ = false := blk_frozen HR7.out.x 0
                have s1 : w7.frozen? ⟨r, 1, none⟩ = false := blk_frozen HR7.out.x 1
                have s2 : w7.frozen? ⟨r, 2, none⟩ = false := blk_frozen HR7.out.x 2
                go_wp2_with fail
                go_meet
                refine ⟨v, Ai, ci, inn, ov, A8, c8, rest2, q ++ [.agg #[.int .i64 yx.f0, .int .i64 yx.f1, .int .i64 yx.f2, .slice A3 yx.f3.length c3]], ⟨?_⟩⟩
                have hfin := TSt.of_put (Ai1 := Ai) (ci1 := ci) (inn1 := inn) (ov1 := ov) (Ao1 := A8) (co1 := c8) (rest1 := rest2) HB7.out HL7.out HR7.out HQ7.out.1 ⟨HT.out.few.1, HQ7.out.2, HT.out.few.2.2⟩ HT.out.lo HR7.out.ki HF7.out HR7.out.li HC7.out
                exact hfin
              · have HRM : Aside0 (if keepsO yx.f0 = true then 7 ≤ rest.length else 8 ≤ rest.length) := ⟨by
                  by_cases hh : keepsO yx.f0 = true
                  · rw [if_pos hh] at hroom ⊢; omega
                  · rw [if_neg hh] at hroom ⊢; omega⟩
                clear hroom
                go_wp2_with fail
                refine (Tell_no HT.out.ln yx.f0 yx.f1 yx.f2 _ ⟨_, _, _, rfl⟩ (by rw [← HT.out.qr.len]; exact HRM.out)).mono ?_
                rintro e w6 ⟨rfl, hB6⟩
                have HT6 := Aside0.mk (HT.out.below1 hB6)
                have HR1 := Aside0.mk HT6.out.rf
                have HX1 := Aside0.mk (blk_below HXB.out hB6)
                clear hB6 d0 d1 d2 d3 d4 d5 d6
                have x0 : w6.cell? ⟨r, 0, none⟩ = some (.slice Ai inn.length ci) := blk_cell HR1.out.x 0
                have x1 : w6.cell? ⟨r, 1, none⟩ = some (.bool ov) := blk_cell HR1.out.x 1
                have x2 : w6.cell? ⟨r, 2, none⟩ = some (.slice Ao rest.length co) := blk_cell HR1.out.x 2
                have d3 : w6.cell? ⟨r7, 3, none⟩ = some (.int .i64 yx.f0) := blk_cell HX1.out 3
                have d4 : w6.cell? ⟨r7, 4, none⟩ = some (.int .i64 yx.f1) := blk_cell HX1.out 4
                have d5 : w6.cell? ⟨r7, 5, none⟩ = some (.int .i64 yx.f2) := blk_cell HX1.out 5
                have d6 : w6.cell? ⟨r7, 6, none⟩ = some (.slice A3 yx.f3.length c3) := blk_cell HX1.out 6
                go_wp2_with fail
                refine (rTell_no Ai inn.length ci ov Ao rest.length co yx.f0 yx.f1 yx.f2 A3 yx.f3.length c3 w6 HRM.out).mono ?_
                rintro e w7 ⟨rfl, hB7⟩
                have HT7 := Aside0.mk (HT6.out.below1 hB7)
                have HR7 := Aside0.mk HT7.out.rf
                clear hB7 x0 x1 x2 d3 d4 d5 d6
                have x0 : w7.cell? ⟨r, 0, none⟩ = some (.slice Ai inn.length ci) := blk_cell HR7.out.x 0
                have x1 : w7.cell? ⟨r, 1, none⟩ = some (.bool ov) := blk_cell HR7.out.x 1
                have x2 : w7.cell? ⟨r, 2, none⟩ = some (.slice Ao rest.length co) := blk_cell HR7.out.x 2
                have s0 : w7.frozen? ⟨r, 0, none⟩ = false := blk_frozen HR7.out.x 0
                have s1 : w7.frozen? ⟨r, 1, none⟩ = false := blk_frozen HR7.out.x 1
                have s2 : w7.frozen? ⟨r, 2, none⟩ = false := blk_frozen HR7.out.x 2
                go_wp2_with fail
                go_meet
                refine ⟨v, Ai, ci, inn, ov, Ao, co, rest, q, ⟨?_⟩⟩
                have hfin := TSt.of_put (Ai1 := Ai) (ci1 := ci) (inn1 := inn) (ov1 := ov) (Ao1 := Ao) (co1 := co) (rest1 := rest) HT7.out.below HT7.out.ln HR7.out HT.out.qr HT.out.few HT.out.lo HR7.out.ki HR7.out.ko HR7.out.li HR7.out.lo
                exact hfin
            · have h2' : (yk == 2) = false := by simpa using h2
              clear h2
              obtain ⟨T, hT⟩ : ∃ T, takeN yn rest.length = T := ⟨_, rfl⟩
              have HTN := Aside0.mk hT
              clear hT
              go_wp2_with fail
              refine (Release_at HT.out.ln w rest HT.out.qr yn T HTN.out (by have := HT.out.few.2.1; omega)).mono ?_
              rintro e w6 ⟨A6, m6, rfl, hS⟩
              obtain ⟨tk1, htk⟩ : ∃ z, rest.take T = z := ⟨_, rfl⟩
              obtain ⟨dr1, hdr⟩ : ∃ z, rest.drop T = z := ⟨_, rfl⟩
              have hTle : T ≤ rest.length := by have := HTN.out; unfold takeN at this; omega
              have hdl : rest.length - T = dr1.length := by rw [← hdr, List.length_drop]
              have htl : T = tk1.length := by rw [← htk, List.length_take]; omega
              rw [htk] at hS ⊢
              have HTD := Aside0.mk (And.intro htk (And.intro hdr (And.intro hTle (And.intro hdl htl))))
              have HL1 := Aside0.mk hS.ln
              have HR1 := Aside0.mk (HT.out.rf.line HT.out.ln hS.keep (fun j hj => .inl hj))
              have HB1 := Aside0.mk (hS.keep.below HT.out.below HLO.out)
              have HX1 := Aside0.mk (blk_kept HXB.out hS.keep.kept (HT.out.ln.nott (by decide) HXB.out))
              have HRW := Aside0.mk hS.row
              clear hS htk hdr hTle hdl htl d0 d1 d2 d3 d4 d5 d6
              have x0 : w6.cell? ⟨r, 0, none⟩ = some (.slice Ai inn.length ci) := blk_cell HR1.out.x 0
              have x1 : w6.cell? ⟨r, 1, none⟩ = some (.bool ov) := blk_cell HR1.out.x 1
              have x2 : w6.cell? ⟨r, 2, none⟩ = some (.slice Ao rest.length co) := blk_cell HR1.out.x 2
              have d1 : w6.cell? ⟨r7, 1, none⟩ = some (.int .i64 yn) := blk_cell HX1.out 1
              go_wp2_with fail
              refine (rRelease_calls Ai inn.length ci ov Ao rest.length co HR1.out.lo (by have := HT.out.few.2.1; omega) yn T HTN.out w6).mono ?_
              rintro e w7 ⟨rfl, hB7⟩
              obtain ⟨A9, hA9⟩ : ∃ A9, (if co = T then Ao else Option.map (fun x => x.add (T * 4)) Ao) = A9 := ⟨_, rfl⟩
              rw [hA9, HTD.out.2.2.2.1]
              have HR7 := Aside0.mk (HR1.out.below hB7)
              have HL7 := Aside0.mk (HL1.out.below hB7)
              have HB7 := Aside0.mk (below_step HB1.out hB7)
              have HKO : Aside0 (∀ W', Kept w7 W' (refB g c r v) → Kd.C (FO w) W' A9 dr1.length dr1) := ⟨fun W' hk => by
                have := Kd.C_drop (HR7.out.ko W' hk) HTD.out.2.2.1 HR7.out.lo
                rw [HTD.out.2.1] at this
                rw [← hA9]
                exact this⟩
              have HLD : Aside0 (dr1.length ≤ co - T) := ⟨by have := HR7.out.lo; have := HTD.out.2.2.2.1; omega⟩
              have hfin := TSt.of_put (Ai1 := Ai) (ci1 := ci) (inn1 := inn) (ov1 := ov) (Ao1 := A9) (co1 := co - T) (rest1 := dr1) HB7.out HL7.out HR7.out (by rw [← HTD.out.2.1]; exact HT.out.qr.drop T) ⟨HT.out.few.1, by have := HTD.out.2.2.2.1; have := HT.out.few.2.1; omega, HT.out.few.2.2⟩ HT.out.lo HR7.out.ki HKO.out HR7.out.li HLD.out
              have hkp : Kept w7 (((w7.setCell ⟨r, 0, none⟩ (.slice Ai inn.length ci)).setCell ⟨r, 1, none⟩ (.bool ov)).setCell ⟨r, 2, none⟩ (.slice A9 dr1.length (co - T))) (refB g c r v) :=
                (((Kept.refl w7 _).setCell (p := ⟨r, 0, none⟩) (.inl (.inl rfl)) _).setCell (p := ⟨r, 1, none⟩) (.inl (.inl rfl)) _).setCell (p := ⟨r, 2, none⟩) (.inl (.inl rfl)) _
              have hcb := HR7.out.ko _ hkp
              have hca := (Kd.R_reads' (Kd.R_below HRW.out hB7))
              have hca2 := (Kd.R_reads' (R_put47o (Kd.R_below HRW.out hB7) HR7.out.x (.slice Ai inn.length ci) (.bool ov) (.slice A9 dr1.length (co - T)))).2.2
              obtain ⟨w8, hw8⟩ : ∃ w8, (((w7.setCell ⟨r, 0, none⟩ (.slice Ai inn.length ci)).setCell ⟨r, 1, none⟩ (.bool ov)).setCell ⟨r, 2, none⟩ (.slice A9 dr1.length (co - T))) = w8 := ⟨_, rfl⟩
              rw [hw8] at hfin hcb hca2
              have HT8 := Aside0.mk hfin
              have HCB : Aside0 (Kd.C k49 w8 Ao tk1.length tk1) := ⟨by
                have := Kd.C_take hcb HTD.out.2.2.1
                rw [HTD.out.1] at this
                exact FO_C this hfin.below⟩
              have HCA : Aside0 (Kd.C k49 w8 A6 tk1.length tk1 ∧ tk1.length ≤ m6) := ⟨FO_C hca2 hfin.below, hca.2.1⟩
              clear hB7 x0 x1 x2 d1 hfin hkp hcb hca hca2 hA9
              have x0 : w7.cell? ⟨r, 0, none⟩ = some (.slice Ai inn.length ci) := blk_cell HR7.out.x 0
              have x1 : w7.cell? ⟨r, 1, none⟩ = some (.bool ov) := blk_cell HR7.out.x 1
              have x2 : w7.cell? ⟨r, 2, none⟩ = some (.slice Ao rest.length co) := blk_cell HR7.out.x 2
              have s0 : w7.frozen? ⟨r, 0, none⟩ = false := blk_frozen HR7.out.x 0
              have s1 : w7.frozen? ⟨r, 1, none⟩ = false := blk_frozen HR7.out.x 1
              have s2 : w7.frozen? ⟨r, 2, none⟩ = false := blk_frozen HR7.out.x 2
              go_wp2_with fail
              refine (SameAll_at A6 tk1.length m6 _ Ao T co tk1 HCA.out.1 rfl HCA.out.2 HCB.out HTD.out.2.2.2.2 (by have := HTD.out.2.2.1; have := HT8.out.rf.lo; have := HR7.out.lo; omega) (by have := HTD.out.2.2.2.2; have := HTD.out.2.2.1; have := HT.out.few.2.1; omega)).mono ?_
              rintro e w9 ⟨rfl, hB9⟩
              have HT9 := Aside0.mk (HT8.out.below1 hB9)
              clear hB9 x0 x1 x2 s0 s1 s2 hw8
              go_wp2_with fail
              go_meet
              exact ⟨v, Ai, ci, inn, ov, A9, co - T, dr1, q.drop T, HT9⟩
      case rest =>
        obtain ⟨v, Ai, ci, inn, ov, Ao, co, rest, q, HE⟩ := hcut
        have x0 : wc.cell? ⟨r, 0, none⟩ = some (.slice Ai inn.length ci) := blk_cell HE.out.rf.x 0
        have x2 : wc.cell? ⟨r, 2, none⟩ = some (.slice Ao rest.length co) := blk_cell HE.out.rf.x 2
        have HH := Aside0.mk (show ∀ n, Calls Try.prog 33 #[.pointer (some ⟨g, 0, none⟩)] (wc.drewN n) fun e w' => e = .returned (.int .i64 inn.length) ∧ w' = wc.drewN n from fun n => (Holds_at (HE.out.ln.below (pw_below_drewN (Below.refl _ _) n))).mono fun _ _ h => ⟨h.1, h.2.symm⟩)
        have HW := Aside0.mk (show ∀ n, Calls Try.prog 24 #[.pointer (some ⟨g, 0, none⟩)] (wc.drewN n) fun e w' => e = .returned (.int .i64 rest.length) ∧ w' = wc.drewN n from fun n => (Waits_at (HE.out.ln.below (pw_below_drewN (Below.refl _ _) n))).mono fun _ _ h => ⟨by rw [HE.out.qr.len]; exact h.1, h.2.symm⟩)
        go_wp2_with fail
        go_quiet (first
          | exact Calls.quiet_of_same (HH.out _)
          | exact Calls.quiet_of_same (HW.out _))
        have HE2 := Aside0.mk (HE.out.below1 (pw_below_drewN (Below.refl _ _) nq))
        go_wp2_with fail
        go_roundg gk
        case measure => omega
        case rel => exact ⟨p + 1, v, Ai, ci, inn, ov, Ao, co, rest, q, by rfl, by have := HP.out; omega, HE2⟩
end Go.Proofs.Ytkfninhbbcfdcaa.Giv
