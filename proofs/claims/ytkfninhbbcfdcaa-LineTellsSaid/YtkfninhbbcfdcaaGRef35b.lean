/- What the reference's Feed of a line comes to. -/
import Derived.Test.YtkfninhbbcfdcaaGRef35
import Derived.Deep.CutRange
namespace Go.Proofs.Ytkfninhbbcfdcaa.Giv
open Go.RowKit Go.Proofs.YtkfninhbbcfdcaaW.PrintWords Go.Proofs.YtkfninhbbcfdcaaW.PrintLast Go.Proofs.YtkfninhbbcfdcaaW.PrintMore Go.Proofs.Ytkfninhbbcfdcaa.PReplyTells
set_option linter.unusedVariables false
set_option linter.unusedSimpArgs false

def FeedP (w : World) (Ao : Option Addr) (no co : Nat) (y : List Int) (o2 : Bool) (z : Int) (e : Ending) (w' : World) : Prop :=
  ∃ A c, e = .returned (.tuple #[.agg #[.slice A y.length c, .bool o2, .slice Ao no co], .int .i64 z]) ∧ Kd.R (Kd.int .u8) 5 w' w.heap.size (fun _ => True) (.slice A y.length c) y ∧ Below w.heap.size w w'
structure FeedSt (w W : World) (r r1 : Nat) (vi vo : Value) (ov ob : Bool) (inn b row : List Int) (v6 : Value) (i lost : Nat) : Prop where
  below : Below w.heap.size w W
  x : W.heap[r]? = some (.cells #[vi, .bool ob, vo] 47 (0, 0))
  y : W.heap[r1]? = some (.cells z47 47 (0, 0))
  own : Kd.R (Kd.int .u8) 5 W w.heap.size (fun _ => True) v6 row
  eq : row = inn ++ b.take (i - lost)
  ob : ob = (ov || decide (0 < lost))
  le : lost ≤ i
  cnt : i - lost = min i (256 - inn.length)
  len : row.length = inn.length + (i - lost)

set_option maxHeartbeats 4000000 in
set_option maxRecDepth 100000 in
theorem rFeed_calls (Ai : Option Addr) (ci : Nat) (inn : List Int) (ov : Bool) (Ao : Option Addr) (no co : Nat) (B : Option Addr) (cb : Nat) (b : List Int) (w : World) (hC : Kd.C (Kd.int .u8) w Ai inn.length inn) (hin : inn.length ≤ 256) (hB : Kd.C (Kd.int .u8) w B b.length b)
    (z : Int) (hz : z = (b.length : Int) - min b.length (256 - inn.length)) (y : List Int) (hy : inn ++ b.take (256 - inn.length) = y) (o2 : Bool) (ho2 : (ov || decide (0 < z)) = o2) :
    Calls Try.prog 25 #[.agg #[.slice Ai inn.length ci, .bool ov, .slice Ao no co], .slice B b.length cb] w (FeedP w Ao no co y o2 z) := by
  obtain ⟨w1, w2, r, r1, hr, hw1, hr1, hw2, hrr, H⟩ := two47 w (.slice Ai inn.length ci) (.bool ov) (.slice Ao no co)
  have x0 : w2.cell? ⟨r, 0, none⟩ = some (.slice Ai inn.length ci) := blk_cell H.out.1 0
  have HRR := Aside0.mk (And.intro hr (And.intro hrr (show r1 ≠ r by omega)))
  have H0 := Aside0.mk (And.intro (Kd.C_below hC H.out.2.2.1) (And.intro hB hin))
  have HZ := Aside0.mk (And.intro hz (And.intro hy ho2))
  have hbl : (b.length : Int) ≤ 9223372036854775807 := by have := hB.2.1; omega
  clear hrr hC hB hz hy ho2
  go_enter Try.func25, Try.ntmps25
  go_wp2_with (first
    | ((with_reducible refine gate_builtin (b := .append) (xs := #[.tmp 9, .tmp 11]) rfl ?_); at_builtin; refine Kd.R_append_rows (Kd.int .u8) (w0 := w2) w.heap.size rfl (.tmp 9) (.tmp 11) 22 5 (.int .u8 0) 1 rfl Try.underlying22 info5 rfl (by decide) (by decide) (.slice none 0 0) ([] : List Int) inn Ai inn.length ci (fun _ => True) (fun _ => False) rfl rfl (Kd.R_nil _ _ _ _ _) H0.out.1 (fun _ _ h => h) (fun _ h => h.elim) (fun k hk => trivial) (Below.refl _ _) (by have := H.out.2.2.2; have := HRR.out.1; omega) ?aL ?_; (case aL => have := H0.out.2.2; simp; omega); intro v12 w3 ho hb hg hat; rw [List.nil_append] at ho; have HS : Aside0 (FeedSt w w3 r r1 (.slice Ai inn.length ci) (.slice Ao no co) ov ov inn b inn v12 0 0) := ⟨H.out.2.2.1.trans hb, blk_grown H.out.1 hg (by simp [Value.ownBlock]), blk_grown H.out.2.1 hg (by simp [Value.ownBlock]), ho, by simp, by simp, Nat.le_refl _, by simp, by simp⟩; clear ho hb hg hat)
    | fail)
  clear hr hw1 hr1 hw2 x0
  go_loopg [6, 7, 8] b.length (fun kq v6 v7 v8 w' => ∃ (i lost : Nat) (row : List Int) (ob : Bool), v8 = .int .i64 i ∧ v7 = .int .i64 lost ∧ i + kq = b.length ∧ Aside0 (FeedSt w w' r r1 (.slice Ai inn.length ci) (.slice Ao no co) ov ob inn b row v6 i lost))
  case atStart => exact ⟨0, 0, inn, ov, rfl, rfl, by omega, HS⟩
  case round =>
    obtain ⟨i, lost, row, ob, rfl, rfl, hi, HO⟩ := hrel
    clear HS
    obtain ⟨A6, c6, e6⟩ := Kd.R_slice HO.out.own
    subst e6
    cases gk with
    | zero =>
      have hib : (b.length : Int) ≤ i := by omega
      have x0 : wr.cell? ⟨r, 0, none⟩ = some (.slice Ai inn.length ci) := blk_cell HO.out.x 0
      have x1 : wr.cell? ⟨r, 1, none⟩ = some (.bool ob) := blk_cell HO.out.x 1
      have x2 : wr.cell? ⟨r, 2, none⟩ = some (.slice Ao no co) := blk_cell HO.out.x 2
      have s0 : wr.frozen? ⟨r, 0, none⟩ = false := blk_frozen HO.out.x 0
      have y0 : wr.cell? ⟨r1, 0, none⟩ = some (.slice none 0 0) := blk_cell HO.out.y 0
      have y1 : wr.cell? ⟨r1, 1, none⟩ = some (.bool false) := blk_cell HO.out.y 1
      have y2 : wr.cell? ⟨r1, 2, none⟩ = some (.slice none 0 0) := blk_cell HO.out.y 2
      have t0 : wr.frozen? ⟨r1, 0, none⟩ = false := blk_frozen HO.out.y 0
      have t1 : wr.frozen? ⟨r1, 1, none⟩ = false := blk_frozen HO.out.y 1
      have t2 : wr.frozen? ⟨r1, 2, none⟩ = false := blk_frozen HO.out.y 2
      have hne : r1 ≠ r := HRR.out.2.2
      have HI := Aside0.mk hi
      clear hi
      go_wp2_with fail
      refine bodyPost_ret (results_ct rfl _ _ r1 47 #[.slice A6 row.length c6, .bool ob, .slice Ao no co] (0, 0) _ rfl (put47 (blk_far HO.out.y HRR.out.2.2 _) rfl _ _ _) Try.underlying47 rfl (by kernel_rfl)) rfl ?_
      have hy := HO.out.eq
      have hc := HO.out.cnt
      have hle := HO.out.le
      have h1 := HI.out
      have h2 := H0.out.2.2
      have hz := HZ.out.1
      have hrow : row = y := by
        rw [HO.out.eq, ← HZ.out.2.1]
        congr 1
        rw [List.take_eq_take_iff]
        omega
      have hlz : (lost : Int) = z := by omega
      have hob : ob = o2 := by
        rw [HO.out.ob, ← HZ.out.2.2]
        congr 1
        exact decide_eq_decide.2 (by omega)
      subst hrow hob
      refine ⟨A6, c6, by rw [← hlz]; rfl, ?_, ?_⟩
      · have z1 := blk_far HO.out.y (p := ⟨r, 0, none⟩) HRR.out.2.2 (.slice A6 row.length c6)
        exact Kd.R_set (Kd.R_set (Kd.R_set (Kd.R_set HO.out.own HO.out.x (by decide) 0 _) z1 (by decide) 0 _) (blk_set z1 0 _) (by decide) 1 _) (blk_set (blk_set z1 0 _) 1 _) (by decide) 2 _
      · have := put47_below (r1 := r1) HRR.out.1 (HO.out.below.setCell (p := ⟨r, 0, none⟩) (Nat.le_of_eq HRR.out.1) (.slice A6 row.length c6)) (by have := HRR.out; omega) (.slice A6 row.length c6) (.bool ob) (.slice Ao no co)
        rwa [← HRR.out.1] at this ⊢
    | succ gk =>
      have hlt : (i : Int) < b.length := by omega
      have hi0 : (0 : Int) ≤ i := by omega
      obtain ⟨ad, rfl, hx⟩ := Kd.at_int H0.out.2.1 i hi0 hlt
      rw [Int.toNat_natCast] at hx
      have HX := Aside0.mk hx
      have HI := Aside0.mk hi
      have q0 := pw_cell_below HO.out.below hx
      obtain ⟨u, hu⟩ : ∃ u, rd b i = u := ⟨_, rfl⟩
      rw [hu] at q0
      have HU := Aside0.mk hu
      clear hx hi hu
      by_cases hroom : row.length < 256
      · have hroom' : (row.length : Int) < 256 := by omega
        have HRM := Aside0.mk hroom
        clear hroom
        go_wp2_with (first
          | ((with_reducible refine gate_builtin (b := .append) (xs := #[.tmp 22, .tmp 27]) rfl ?_); at_builtin; refine Kd.R_append (Kd.int .u8) (w0 := w) w.heap.size rfl (.tmp 22) (.tmp 27) 22 5 (.int .u8 0) 1 rfl Try.underlying22 info5 rfl (by decide) (by decide) (.slice A6 row.length c6) row u [.int .u8 u] (fun _ => True) (fun _ => False) rfl rfl rfl (fun _ hk => hk.elim) (fun _ _ => trivial) HO.out.own HO.out.below HO.out.below.size ?aL ?_; (case aL => have := HRM.out; omega); intro v28 w4 ho hb hg hat; have HS4 := Aside0.mk (And.intro ho (And.intro hb (And.intro (blk_grown HO.out.x hg (Kd.R_ne HO.out.own HO.out.x (by decide))) (blk_grown HO.out.y hg (Kd.R_ne HO.out.own HO.out.y (by decide)))))); clear ho hb hg hat)
          | fail)
        go_roundg gk
        case measure => omega
        case rel =>
          have h1 := HO.out.cnt
          have h2 := HO.out.len
          have h3 := HRM.out
          have h4 := HO.out.le
          refine ⟨i + 1, lost, row ++ [u], ob, by rfl, by rfl, by have := HI.out; omega, ⟨HS4.out.2.1, HS4.out.2.2.1, HS4.out.2.2.2, HS4.out.1, ?_, HO.out.ob, by omega, by omega, by rw [List.length_append, List.length_singleton]; omega⟩⟩
          have e : lost = 0 := by omega
          subst e
          rw [HO.out.eq, ← HU.out, List.append_assoc]
          congr 1
          have e2 : rd b i = b[i]'(by omega) := by unfold rd; rw [Int.toNat_natCast, List.getD_eq_getElem?_getD, List.getElem?_eq_getElem (by omega)]; rfl
          rw [e2, Nat.sub_zero, Nat.sub_zero, List.take_succ_eq_append_getElem (by omega)]
      · have hroom' : (256 : Int) ≤ row.length := by omega
        have s1 : wr.frozen? ⟨r, 1, none⟩ = false := blk_frozen HO.out.x 1
        have x1 : wr.cell? ⟨r, 1, none⟩ = some (.bool ob) := blk_cell HO.out.x 1
        have hlost : (lost : Int) ≤ 9223372036854775806 := by have := HO.out.le; omega
        have hlost0 : (0 : Int) ≤ lost := by omega
        have HRM := Aside0.mk hroom
        clear hroom
        go_wp2_with fail
        go_roundg gk
        case measure => omega
        case rel =>
          have h1 := HO.out.cnt
          have h2 := HO.out.len
          have h3 := HRM.out
          have h4 := HO.out.le
          have h5 := H0.out.2.2
          clear hlost hlost0 hbl
          have hst : FeedSt w (wr.setCell ⟨r, 1, none⟩ (.bool true)) r r1 (.slice Ai inn.length ci) (.slice Ao no co) ov true inn b row (.slice A6 row.length c6) (i + 1) (lost + 1) := by
            refine ⟨?_, ?_, ?_, ?_, ?_, ?_, ?_, ?_, ?_⟩
            · exact HO.out.below.setCell (p := ⟨r, 1, none⟩) (Nat.le_of_eq HRR.out.1) _
            · exact blk_set HO.out.x 1 _
            · exact blk_far HO.out.y (p := ⟨r, 1, none⟩) HRR.out.2.2 _
            · exact Kd.R_set HO.out.own HO.out.x (by decide) 1 _
            · rw [HO.out.eq, Nat.add_sub_add_right]
            · simp
            · omega
            · omega
            · omega
          refine ⟨i + 1, lost + 1, row, true, ?_, ?_, ?_, ⟨hst⟩⟩
          · rfl
          · rfl
          · have := HI.out; omega
end Go.Proofs.Ytkfninhbbcfdcaa.Giv
