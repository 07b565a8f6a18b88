/- '==' of commands; which numbers may be. -/
import Derived.Test.YtfaicipochceeaaGForms
import Derived.Test.YtfaicipochceeaaWEqStruct
import Derived.StillTailTactics
namespace Go.Proofs.Ytfaicipochceeaa.Giv
open Go.RowKit Go.Proofs.YtfaicipochceeaaW.PrintWords Go.Proofs.YtfaicipochceeaaW.PrintLast Go.Proofs.YtfaicipochceeaaW.PrintMore
set_option linter.unusedVariables false
set_option linter.unusedSimpArgs false
theorem eqA23 (d : Nat) (w : World) (x0 y0 : Int) (x1 y1 : Int) :
    (Op.equalIn (d + 2) 23 (.agg #[.int .i64 x0, .int .i64 x1]) (.agg #[.int .i64 y0, .int .i64 y1])).run Try.prog w = .ok (x0 == y0 && (x1 == y1)) w := by
  refine eqA_of Try.underlying23 (by kernel_rfl) ?_
  refine eqf_cons (by rfl) (by go_simp; rfl) (by go_simp; rfl) (by go_simp) ?_
  exact eqf_last (by rfl) (by go_simp; rfl) (by go_simp; rfl) (by go_simp)
theorem eqA26 (d : Nat) (w : World) (x0 y0 : Int) (x1 y1 : Int) (x2 y2 : Int) :
    (Op.equalIn (d + 2) 26 (.agg #[.int .i64 x0, .int .u64 x1, .int .i64 x2]) (.agg #[.int .i64 y0, .int .u64 y1, .int .i64 y2])).run Try.prog w = .ok (x0 == y0 && (x1 == y1 && (x2 == y2))) w := by
  refine eqA_of Try.underlying26 (by kernel_rfl) ?_
  refine eqf_cons (by rfl) (by go_simp; rfl) (by go_simp; rfl) (by go_simp) ?_
  refine eqf_cons (by rfl) (by go_simp; rfl) (by go_simp; rfl) (by go_simp) ?_
  exact eqf_last (by rfl) (by go_simp; rfl) (by go_simp; rfl) (by go_simp)
theorem eqA28 (d : Nat) (w : World) (x0 y0 : Int) (x1 y1 : ByteArray) (x2 y2 : ByteArray) (x3 y3 : Int) (x4 y4 : Int) (x5 y5 : Int) (x6 y6 : Int) (x7 y7 : Int) (x8 y8 : Int) (x9 y9 : Int) (x10 y10 : Int) (x11 y11 : Int) (x12 y12 : Int) (x13 y13 : Int) (x14 y14 : Int) (x15 y15 : Int) (x16 y16 : Int) (x17 y17 : Int) (x18 y18 : Int) (x19 y19 : Int) (x20 y20 : Int) (x21 y21 : Int) :
    (Op.equalIn (d + 3) 28 (.agg #[.int .i64 x0, .string x1, .string x2, .int .i64 x3, .int .i64 x4, .int .i64 x5, .int .i64 x6, .int .i64 x7, .int .i64 x8, .int .i64 x9, .int .u64 x10, .int .i64 x11, .int .u64 x12, .int .i64 x13, .int .i64 x14, .int .u64 x15, .int .i64 x16, .int .i64 x17, .int .i64 x18, .int .i64 x19, .int .u64 x20, .int .u64 x21]) (.agg #[.int .i64 y0, .string y1, .string y2, .int .i64 y3, .int .i64 y4, .int .i64 y5, .int .i64 y6, .int .i64 y7, .int .i64 y8, .int .i64 y9, .int .u64 y10, .int .i64 y11, .int .u64 y12, .int .i64 y13, .int .i64 y14, .int .u64 y15, .int .i64 y16, .int .i64 y17, .int .i64 y18, .int .i64 y19, .int .u64 y20, .int .u64 y21])).run Try.prog w = .ok (x0 == y0 && (x1.toList == y1.toList && (x2.toList == y2.toList && ((x3 == y3 && (x4 == y4)) && (x5 == y5 && (x6 == y6 && (x7 == y7 && (x8 == y8 && (x9 == y9 && (x10 == y10 && ((x11 == y11 && (x12 == y12 && (x13 == y13))) && ((x14 == y14 && (x15 == y15 && (x16 == y16))) && (x17 == y17 && (x18 == y18 && (x19 == y19 && (x20 == y20 && (x21 == y21))))))))))))))))) w := by
  refine eqA_of Try.underlying28 (by kernel_rfl) ?_
  refine eqf_cons (by rfl) (by go_simp; rfl) (by go_simp; rfl) (by go_simp) ?_
  refine eqf_cons (by rfl) (by go_simp; rfl) (by go_simp; rfl) (by go_simp) ?_
  refine eqf_cons (by rfl) (by go_simp; rfl) (by go_simp; rfl) (by go_simp) ?_
  refine eqf_cons (by rfl) (by go_simp) (by go_simp) (eqA23 (d + 0) w _ _ _ _) ?_
  refine eqf_cons (by rfl) (by go_simp; rfl) (by go_simp; rfl) (by go_simp) ?_
  refine eqf_cons (by rfl) (by go_simp; rfl) (by go_simp; rfl) (by go_simp) ?_
  refine eqf_cons (by rfl) (by go_simp; rfl) (by go_simp; rfl) (by go_simp) ?_
  refine eqf_cons (by rfl) (by go_simp; rfl) (by go_simp; rfl) (by go_simp) ?_
  refine eqf_cons (by rfl) (by go_simp; rfl) (by go_simp; rfl) (by go_simp) ?_
  refine eqf_cons (by rfl) (by go_simp; rfl) (by go_simp; rfl) (by go_simp) ?_
  refine eqf_cons (by rfl) (by go_simp) (by go_simp) (eqA26 (d + 0) w _ _ _ _ _ _) ?_
  refine eqf_cons (by rfl) (by go_simp) (by go_simp) (eqA26 (d + 0) w _ _ _ _ _ _) ?_
  refine eqf_cons (by rfl) (by go_simp; rfl) (by go_simp; rfl) (by go_simp) ?_
  refine eqf_cons (by rfl) (by go_simp; rfl) (by go_simp; rfl) (by go_simp) ?_
  refine eqf_cons (by rfl) (by go_simp; rfl) (by go_simp; rfl) (by go_simp) ?_
  refine eqf_cons (by rfl) (by go_simp; rfl) (by go_simp; rfl) (by go_simp) ?_
  exact eqf_last (by rfl) (by go_simp; rfl) (by go_simp; rfl) (by go_simp)
def eqC (a b : Cmd) : Bool := a.op == b.op && (a.name.toList == b.name.toList && (a.text.toList == b.text.toList && ((a.rl == b.rl && (a.rs == b.rs)) && (a.la == b.la && (a.wh == b.wh && (a.sl == b.sl && (a.di == b.di && (a.co == b.co && (a.am == b.am && ((a.gc == b.gc && (a.ga == b.ga && (a.gi == b.gi))) && ((a.wc == b.wc && (a.wa == b.wa && (a.wi == b.wi))) && (a.si == b.si && (a.ba == b.ba && (a.qu == b.qu && (a.qt == b.qt && (a.pr == b.pr))))))))))))))))
theorem eq28 (a b : Cmd) (w : World) : (Go.binOp .eql 28 (.agg (cells a)) (.agg (cells b))).run Try.prog w = .ok (.bool (eqC a b)) w := by
  have h := eqA28 9997 w a.op b.op a.name b.name a.text b.text a.rl b.rl a.rs b.rs a.la b.la a.wh b.wh a.sl b.sl a.di b.di a.co b.co a.am b.am a.gc b.gc a.ga b.ga a.gi b.gi a.wc b.wc a.wa b.wa a.wi b.wi a.si b.si a.ba b.ba a.qu b.qu a.qt b.qt a.pr b.pr
  have h2 : (Op.equalIn Op.maxDepth 28 (.agg (cells a)) (.agg (cells b))).run Try.prog w = .ok (eqC a b) w := h
  simp [Go.binOp, Op.equal, h2]
theorem str_eq {x y : ByteArray} : (x.toList == y.toList) = true ↔ x = y := by
  rw [beq_iff_eq, ByteArray.toList_eq, ByteArray.toList_eq]
  constructor
  · intro h; obtain ⟨⟨x⟩⟩ := x; obtain ⟨⟨y⟩⟩ := y; simp only at h; rw [h]
  · rintro rfl; rfl
theorem str_inj2 {x y : ByteArray} (h : x.toList = y.toList) : x = y := str_eq.1 (by rw [h]; exact beq_self_eq_true _)
theorem eqC_iff (a b : Cmd) : eqC a b = true ↔ a = b := by
  unfold eqC
  simp only [Bool.and_eq_true, str_eq, beq_iff_eq]
  constructor
  · intro h
    obtain ⟨a0, a1, a2, a3, a4, a5, a6, a7, a8, a9, a10, a11, a12, a13, a14, a15, a16, a17, a18, a19, a20, a21⟩ := a
    obtain ⟨b0, b1, b2, b3, b4, b5, b6, b7, b8, b9, b10, b11, b12, b13, b14, b15, b16, b17, b18, b19, b20, b21⟩ := b
    simp only at h
    obtain ⟨h0, h1, h2, ⟨h3, h4⟩, h5, h6, h7, h8, h9, h10, ⟨h11, h12, h13⟩, ⟨h14, h15, h16⟩, h17, h18, h19, h20, h21⟩ := h
    have e1 := str_inj2 h1
    have e2 := str_inj2 h2
    clear h1 h2
    subst h0 e1 e2 h3 h4 h5 h6 h7 h8 h9 h10 h11 h12 h13 h14 h15 h16 h17 h18 h19 h20 h21
    rfl
  · rintro rfl; simp
def smallL (c : Cmd) : List Int := [c.rl, c.rs, c.la, c.wh, c.sl, c.di, c.co, c.si, c.ba, c.qu, c.gc, c.wc]
def isB (n least : Int) : Bool := decide (least ≤ n) && decide (n ≤ 127)
def fitsC (c : Cmd) : Bool := (smallL c).all (isB · 0) && (isB c.gi (-1) && (isB c.wi (-1) && (decide (c.name.size ≤ 12) && decide (c.text.size ≤ 40))))
theorem is_calls (n least : Int) (w : World) : Calls Try.prog 41 #[.int .i64 n, .int .i64 least] w fun e w' => e = .returned (.bool (isB n least)) ∧ w = w' := by
  by_cases h : least ≤ n
  · have hd : isB n least = decide (n ≤ 127) := by unfold isB; simp [h]
    rw [hd]
    clear hd
    go_enter Try.func41, Try.ntmps41
    go_wp2_with fail
    go_ret
    exact ⟨rfl, rfl⟩
  · have hd : isB n least = false := by unfold isB; simp [h]
    rw [hd]
    have h2 : decide (least ≤ n) = false := by simpa using h
    clear hd h
    go_enter Try.func41, Try.ntmps41
    go_wp2_with fail
    go_ret
    exact ⟨rfl, rfl⟩
set_option maxHeartbeats 8000000 in
set_option maxRecDepth 100000 in
theorem fits_calls (b : Nat) (c : Cmd) (w : World) (h : w.heap[b]? = some (.cells (cells c) 28 (0, 0))) (x : Bool) (hx : fitsC c = x) : Calls Try.prog 20 #[.pointer (some ⟨b, 0, none⟩)] w fun e w' => e = .returned (.bool x) ∧ Below w.heap.size w w' := by
  have H := Aside0.mk h
  have HX := Aside0.mk hx
  clear hx
  have x3 : w.cell? ⟨b, 3, none⟩ = some (.int .i64 c.rl) := cell_of h 3
  have x4 : w.cell? ⟨b, 4, none⟩ = some (.int .i64 c.rs) := cell_of h 4
  have x5 : w.cell? ⟨b, 5, none⟩ = some (.int .i64 c.la) := cell_of h 5
  have x6 : w.cell? ⟨b, 6, none⟩ = some (.int .i64 c.wh) := cell_of h 6
  have x7 : w.cell? ⟨b, 7, none⟩ = some (.int .i64 c.sl) := cell_of h 7
  have x8 : w.cell? ⟨b, 8, none⟩ = some (.int .i64 c.di) := cell_of h 8
  have x9 : w.cell? ⟨b, 9, none⟩ = some (.int .i64 c.co) := cell_of h 9
  have x17 : w.cell? ⟨b, 17, none⟩ = some (.int .i64 c.si) := cell_of h 17
  have x18 : w.cell? ⟨b, 18, none⟩ = some (.int .i64 c.ba) := cell_of h 18
  have x19 : w.cell? ⟨b, 19, none⟩ = some (.int .i64 c.qu) := cell_of h 19
  have x11 : w.cell? ⟨b, 11, none⟩ = some (.int .i64 c.gc) := cell_of h 11
  have x14 : w.cell? ⟨b, 14, none⟩ = some (.int .i64 c.wc) := cell_of h 14
  clear h
  go_enter Try.func20, Try.ntmps20
  go_wp2_with fail
  go_still_tail 52, (by kernel_rfl)
  change wpList _ _ _ _ _ w.drew
  have hb2 := below_drew (Below.refl w.heap.size w)
  have H2 := Aside0.mk (blk_below H.out hb2)
  obtain ⟨w2, hw2⟩ : ∃ w2, w.drew = w2 := ⟨_, rfl⟩
  rw [hw2] at hb2 H2 ⊢
  have HB2 := Aside0.mk hb2
  clear hw2 hb2 H x3 x4 x5 x6 x7 x8 x9 x17 x18 x19 x11 x14
  go_wp2_with fail
  have hC := C_new (W := w2) (e := 3) (fr := (0, 0)) (arr := #[.int .i64 c.rl, .int .i64 c.rs, .int .i64 c.la, .int .i64 c.wh, .int .i64 c.sl, .int .i64 c.di, .int .i64 c.co, .int .i64 c.si, .int .i64 c.ba, .int .i64 c.qu, .int .i64 c.gc, .int .i64 c.wc]) (smallL c) rfl (show 12 ≤ 9223372036854775807 by decide)
  have hB3 := below_alloc (Below.refl w2.heap.size w2) (.cells #[.int .i64 c.rl, .int .i64 c.rs, .int .i64 c.la, .int .i64 c.wh, .int .i64 c.sl, .int .i64 c.di, .int .i64 c.co, .int .i64 c.si, .int .i64 c.ba, .int .i64 c.qu, .int .i64 c.gc, .int .i64 c.wc] 3)
  have hlen : (smallL c).length = 12 := rfl
  obtain ⟨g, hg⟩ : ∃ g, w2.heap.size = g := ⟨_, rfl⟩
  obtain ⟨w3, hw3⟩ : ∃ w3, w2.alloc (.cells #[.int .i64 c.rl, .int .i64 c.rs, .int .i64 c.la, .int .i64 c.wh, .int .i64 c.sl, .int .i64 c.di, .int .i64 c.co, .int .i64 c.si, .int .i64 c.ba, .int .i64 c.qu, .int .i64 c.gc, .int .i64 c.wc] 3) = w3 := ⟨_, rfl⟩
  rw [hlen] at hC
  rw [hw3] at hB3 hC ⊢
  rw [hg] at hC ⊢
  obtain ⟨xs, hxs⟩ : ∃ xs, smallL c = xs := ⟨_, rfl⟩
  rw [hxs] at hC hlen
  have HC3 := Aside0.mk (And.intro hC hlen)
  have H3 := Aside0.mk (blk_below H2.out hB3)
  have HB3 := Aside0.mk (below_step HB2.out hB3)
  obtain ⟨b1, hb1⟩ : ∃ b1, isB c.gi (-1) = b1 := ⟨_, rfl⟩
  obtain ⟨b2, hb2⟩ : ∃ b2, isB c.wi (-1) = b2 := ⟨_, rfl⟩
  have HF : Aside0 (x = (xs.all (isB · 0) && (b1 && (b2 && (decide (c.name.size ≤ 12) && decide (c.text.size ≤ 40)))))) := ⟨by rw [← HX.out, ← hxs, ← hb1, ← hb2]; rfl⟩
  have HBB := Aside0.mk (And.intro hb1 hb2)
  clear hw3 hg hB3 hC hlen hxs hb1 hb2 H2 HB2 HX
  go_loopg [62] 12 (fun kq v62 w' => ∃ (i : Nat), v62 = .int .i64 i ∧ i + kq = 12 ∧ Aside0 ((xs.drop i).all (isB · 0) = xs.all (isB · 0)) ∧ Aside0 (Below w3.heap.size w3 w'))
  case atStart => exact ⟨0, rfl, by omega, ⟨rfl⟩, ⟨Below.refl _ _⟩⟩
  case round =>
    obtain ⟨i, rfl, hi, HI, HB⟩ := hrel
    cases gk with
    | zero =>
      have hge : (12 : Int) ≤ i := by omega
      have HF2 : Aside0 (x = (b1 && (b2 && (decide (c.name.size ≤ 12) && decide (c.text.size ≤ 40))))) := ⟨by
        rw [HF.out, ← HI.out, List.drop_of_length_le (by have := HC3.out.2; omega)]; rfl⟩
      have HB4 := Aside0.mk (below_step HB3.out HB.out)
      have H4 := Aside0.mk (blk_below H3.out HB.out)
      have y13 : wr.cell? ⟨b, 13, none⟩ = some (.int .i64 c.gi) := cell_of H4.out 13
      have y16 : wr.cell? ⟨b, 16, none⟩ = some (.int .i64 c.wi) := cell_of H4.out 16
      have y1 : wr.cell? ⟨b, 1, none⟩ = some (.string c.name) := cell_of H4.out 1
      have y2 : wr.cell? ⟨b, 2, none⟩ = some (.string c.text) := cell_of H4.out 2
      clear hi HI
      go_wp2_with fail
      refine (is_calls _ _ _).mono ?_
      rintro e w' ⟨rfl, rfl⟩
      rw [HBB.out.1]
      cases b1 with
      | false =>
        go_wp2_with fail
        go_ret
        exact ⟨by rw [HF2.out]; rfl, HB4.out⟩
      | true =>
        go_wp2_with fail
        refine (is_calls _ _ _).mono ?_
        rintro e w' ⟨rfl, rfl⟩
        rw [HBB.out.2]
        cases b2 with
        | false =>
          go_wp2_with fail
          go_ret
          exact ⟨by rw [HF2.out]; rfl, HB4.out⟩
        | true =>
          by_cases h12 : c.name.size ≤ 12
          · have h12' : (c.name.size : Int) ≤ 12 := by omega
            have HF3 : Aside0 (x = decide (c.text.size ≤ 40)) := ⟨by rw [HF2.out]; simp [h12]⟩
            clear h12
            by_cases h40 : c.text.size ≤ 40
            · have h40' : (c.text.size : Int) ≤ 40 := by omega
              have HF4 : Aside0 (x = true) := ⟨by rw [HF3.out]; simp [h40]⟩
              clear h40
              go_wp2_with fail
              go_ret
              exact ⟨by rw [HF4.out]; rfl, HB4.out⟩
            · have h40' : decide ((c.text.size : Int) ≤ 40) = false := decide_eq_false (by omega)
              have HF4 : Aside0 (x = false) := ⟨by rw [HF3.out]; simp [h40]⟩
              have h40n : (40 : Int) < c.text.size := by omega
              clear h40
              go_wp2_with fail
              go_ret
              exact ⟨by rw [HF4.out]; rfl, HB4.out⟩
          · have h12' : decide ((c.name.size : Int) ≤ 12) = false := decide_eq_false (by omega)
            have HF4 : Aside0 (x = false) := ⟨by rw [HF2.out]; simp [h12]⟩
            have h12n : (12 : Int) < c.name.size := by omega
            clear h12
            go_wp2_with fail
            go_ret
            exact ⟨by rw [HF4.out]; rfl, HB4.out⟩
    | succ k =>
      have hlt : (i : Int) < 12 := by omega
      have hi0 : (0 : Int) ≤ i := by omega
      obtain ⟨ad, ead, hx⟩ := Kd.at_int (Kd.C_below HC3.out.1 HB.out) i hi0 hlt
      cases ead
      rw [Int.toNat_natCast, show Addr.add ⟨g, 0, none⟩ i = ⟨g, i, none⟩ by simp only [Addr.add, Nat.zero_add]; split <;> simp_all] at hx
      obtain ⟨z, hz⟩ : ∃ z, rd xs i = z := ⟨_, rfl⟩
      rw [hz] at hx
      obtain ⟨t, ht⟩ : ∃ t, isB z 0 = t := ⟨_, rfl⟩
      have HT : Aside0 (isB z 0 = t ∧ (xs.drop i).all (isB · 0) = (t && (xs.drop (i + 1)).all (isB · 0))) := ⟨ht, by
        have h1 := drop_rd xs i hi0 (by have := HC3.out.2; omega)
        rw [Int.toNat_natCast, hz, show ((i : Int) + 1).toNat = i + 1 by omega] at h1
        rw [h1, List.all_cons, ht]⟩
      have HIK := Aside0.mk hi
      clear ht hz hi
      go_wp2_with fail
      refine (is_calls _ _ _).mono ?_
      rintro e w' ⟨rfl, rfl⟩
      rw [HT.out.1]
      cases t with
      | false =>
        have HF4 : Aside0 (x = false) := ⟨by rw [HF.out, ← HI.out, HT.out.2]; rfl⟩
        have HB4 := Aside0.mk (below_step HB3.out HB.out)
        go_wp2_with fail
        go_ret
        exact ⟨by rw [HF4.out]; rfl, HB4.out⟩
      | true =>
        go_wp2_with fail
        go_roundg k
        case measure => omega
        case rel => exact ⟨i + 1, by rfl, by have := HIK.out; omega, ⟨by rw [← HI.out, HT.out.2]; rfl⟩, HB⟩
end Go.Proofs.Ytfaicipochceeaa.Giv
