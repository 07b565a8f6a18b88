/- The laws of purses: what their texts come to. -/
import Derived.Test.YtcfibadhikohfaaHCoin
namespace Go.Proofs.Ytcfibadhikohfaa.Giv
open Go.RowKit Go.Proofs.YtcfibadhikohfaaW.PrintWords Go.Proofs.YtcfibadhikohfaaW.PrintMore
set_option linter.unusedVariables false
set_option linter.unusedSimpArgs false

/-- A call that hands back four numbers and an error, in any world: all that the next one asks of what lay there. -/
theorem blk_at1 {w w1 : World} {a : Obj} (hb : Below (w.alloc a).heap.size (w.alloc a) w1) : w1.heap[w.heap.size]? = some a := blk_below (blk_new w a) hb

set_option maxHeartbeats 4000000 in
set_option maxRecDepth 100000 in
theorem purses_law (p0 p1 p2 p3 n : Nat) (c : Int) (b0 : p0 < 18446744073709551616) (b1 : p1 < 18446744073709551616) (b2 : p2 < 18446744073709551616) (b3 : p3 < 18446744073709551616) (bn : n < 18446744073709551616) (w : World) :
    Calls Try.prog 8 #[.agg #[.int .u64 p0, .int .u64 p1, .int .u64 p2, .int .u64 p3], .int .i64 c, .int .u64 n] w fun e w' => e = .returned (.bool true) ∧ Below w.heap.size w w' := by
  obtain ⟨q0, q1, q2, q3, er, hq⟩ : ∃ q0 q1 q2 q3 er, chg plusN p0 p1 p2 p3 c n = (q0, q1, q2, q3, er) := ⟨_, _, _, _, _, rfl⟩
  obtain ⟨r0, r1, r2, r3, es, hr⟩ : ∃ q0 q1 q2 q3 er, chg minusN p0 p1 p2 p3 c n = (q0, q1, q2, q3, er) := ⟨_, _, _, _, _, rfl⟩
  have H1 := Lib.hid (fun w => give_calls b0 b1 b2 b3 bn hq w)
  have H2 := Lib.hid (fun w => refGive_calls b0 b1 b2 b3 bn hq w)
  have H3 := Lib.hid (fun w => take_calls b0 b1 b2 b3 bn hr w)
  have H4 := Lib.hid (fun w => refTake_calls b0 b1 b2 b3 bn hr w)
  clear b0 b1 b2 b3 bn hq hr
  have heq := eq4
  go_enter Try.func8, Try.ntmps8
  go_wp2_with fail
  refine (H1.out _).mono ?_
  rintro e w1 ⟨rfl, hb1⟩
  have hk := blk_at1 hb1
  obtain ⟨⟨hc0, hc1, hc2, hc3⟩, _⟩ := cells4 hk
  have HK1 := Aside0.mk hk
  have hl1 := blk_lt hk
  have HB1 := Aside0.mk (below_step (below_alloc (Below.refl w.heap.size w) _) hb1)
  clear hk hb1
  go_wp2_with fail
  refine (H2.out _).mono ?_
  rintro e w2 ⟨rfl, hb2⟩
  clear hc0 hc1 hc2 hc3
  have hk := blk_below (blk_alloc HK1.out _) hb2
  have hm := blk_at1 hb2
  obtain ⟨⟨hc0, hc1, hc2, hc3⟩, _⟩ := cells4 hk
  have HK2 := Aside0.mk hk
  have hl2 := blk_lt hk
  have HM2 := Aside0.mk hm
  have HB2 := Aside0.mk (below_step (below_alloc HB1.out _) hb2)
  clear hk hm hb2 HK1 HB1
  go_wp2_with fail
  refine (H3.out _).mono ?_
  rintro e w3 ⟨rfl, hb3⟩
  clear hc0 hc1 hc2 hc3
  have hk := blk_below (blk_alloc HK2.out _) hb3
  have hm := blk_below (blk_alloc HM2.out _) hb3
  have ho := blk_at1 hb3
  obtain ⟨⟨hc0, hc1, hc2, hc3⟩, _⟩ := cells4 hk
  have HK3 := Aside0.mk hk
  have hl3 := blk_lt hk
  have HM3 := Aside0.mk hm
  have HO3 := Aside0.mk ho
  have HB3 := Aside0.mk (below_step (below_alloc HB2.out _) hb3)
  clear hk hm ho hb3 HK2 HM2 HB2
  go_wp2_with fail
  refine (H4.out _).mono ?_
  rintro e w4 ⟨rfl, hb4⟩
  clear hc0 hc1 hc2 hc3
  have hm := blk_below (blk_alloc HM3.out _) hb4
  have ho := blk_below (blk_alloc HO3.out _) hb4
  have hp := blk_at1 hb4
  obtain ⟨⟨hm0, hm1, hm2, hm3⟩, _⟩ := cells4 hm
  obtain ⟨⟨ho0, ho1, ho2, ho3⟩, _⟩ := cells4 ho
  obtain ⟨⟨hp0, hp1, hp2, hp3⟩, _⟩ := cells4 hp
  have HM4 := Aside0.mk hm
  have HL2 := blk_lt hm
  have HL3 := blk_lt ho
  have HL4 := blk_lt hp
  have HO4 := Aside0.mk ho
  have HP4 := Aside0.mk hp
  have HB4 := Aside0.mk (below_step (below_alloc HB3.out _) hb4)
  clear hm ho hp hb4 HK3 HM3 HO3 HB3
  go_wp2_with fail
  refine (alive13 _).mono ?_
  rintro e w5 ⟨rfl, hb5⟩
  clear hm0 hm1 hm2 hm3 ho0 ho1 ho2 ho3 hp0 hp1 hp2 hp3
  have hm := blk_below (blk_alloc HM4.out _) hb5
  have ho := blk_below (blk_alloc HO4.out _) hb5
  have hp := blk_below (blk_alloc HP4.out _) hb5
  have hr := blk_at1 hb5
  obtain ⟨⟨hm0, hm1, hm2, hm3⟩, _⟩ := cells4 hm
  obtain ⟨⟨ho0, ho1, ho2, ho3⟩, _⟩ := cells4 ho
  obtain ⟨⟨hp0, hp1, hp2, hp3⟩, _⟩ := cells4 hp
  obtain ⟨⟨hr0, hr1, hr2, hr3⟩, _⟩ := cells4 hr
  have HB5 := Aside0.mk (below_step (below_alloc HB4.out _) hb5)
  clear hm ho hp hr hb5
  go_wp2_with fail
  go_ret
  exact ⟨rfl, HB5.out⟩
theorem coinPurses (x0 x1 x2 x3 n c : Int) (u0 : (Lit.int .u64 x0).wf = true) (u1 : (Lit.int .u64 x1).wf = true) (u2 : (Lit.int .u64 x2).wf = true) (u3 : (Lit.int .u64 x3).wf = true) (un : (Lit.int .u64 n).wf = true) (w : World) :
    Calls Try.prog 8 #[.agg #[.int .u64 x0, .int .u64 x1, .int .u64 x2, .int .u64 x3], .int .i64 c, .int .u64 n] w fun e w' => e = .returned (.bool true) ∧ Below w.heap.size w w' := by
  obtain ⟨p0, rfl, b0⟩ := u64_of u0
  obtain ⟨p1, rfl, b1⟩ := u64_of u1
  obtain ⟨p2, rfl, b2⟩ := u64_of u2
  obtain ⟨p3, rfl, b3⟩ := u64_of u3
  obtain ⟨n, rfl, bn⟩ := u64_of un
  exact purses_law p0 p1 p2 p3 n c b0 b1 b2 b3 bn w
end Go.Proofs.Ytcfibadhikohfaa.Giv
