/- What frame.Take, and its reference's, come to. -/
import Derived.Test.YtkfninhbbcfdcaaGFrame
namespace Go.Proofs.Ytkfninhbbcfdcaa.Giv
open Go.RowKit Go.Proofs.YtkfninhbbcfdcaaW.PrintWords Go.Proofs.YtkfninhbbcfdcaaW.PrintLast Go.Proofs.YtkfninhbbcfdcaaW.PrintMore
set_option linter.unusedVariables false
set_option linter.unusedSimpArgs false

theorem short_at {w : World} {A : Option Addr} {l : List Int} (n c : Nat) (h : Kd.C (Kd.int .u8) w A n l) (hn : n = l.length) (hc : n ≤ c) (hb : bytesOk l) (s : Nat) (hs : shortN l = s) :
    Calls Try.prog 52 #[.slice A n c] w fun e w' => e = .returned (.int .u16 (s : Nat)) ∧ Drawn0 w w' := by
  subst hn
  exact sum_Short.calls A c l (s : Int) w h hc (by rw [← hs]; exact if_pos hb)

set_option maxHeartbeats 4000000 in
set_option maxRecDepth 100000 in
theorem Take_long (A0 : Option Addr) (c0 : Nat) (l : List Int) (a1 : Int) (w : World) (hr0 : Kd.C (Kd.int .u8) w A0 l.length l) (hc0 : l.length ≤ c0) (hb0 : bytesOk l)
    (n1 : Nat) (hn1 : n1 < 256) (m : Int) (hm : limI a1 = m) (h1 : numV (takeL l 0 1) 0 = n1) (hf : fauL l 0 1 = 0) (hgt : (n1 : Int) > m) :
    Calls Try.prog 15 #[.slice A0 l.length c0, .int .i64 a1] w fun e w' => e = .returned (.tuple #[.slice none 0 0, .int .i64 1, .int .i64 13]) ∧ Below w.heap.size w w' := by
  have HR := Aside0.mk hr0
  have HC := Aside0.mk hc0
  have HB := Aside0.mk hb0
  have HM := Aside0.mk hm
  have H1 := Aside0.mk h1
  have HF := Aside0.mk hf
  clear hr0 hc0 hb0 hm h1 hf
  go_enter Try.func15, Try.ntmps15
  go_wp2_with fail
  refine (From_calls A0 l c0 _ HR.out HC.out).mono ?_
  obtain ⟨g, hg⟩ : ∃ g, w.heap.size = g := ⟨_, rfl⟩
  have HG := Aside0.mk hg
  rw [hg]
  clear hg
  rintro e w1 ⟨rfl, hS⟩
  have HS := Aside0.mk hS
  clear hS
  go_wp2_with fail
  refine (SNum_calls w _ g l 0 1 HB.out HS.out).mono ?_
  rintro e w2 ⟨rfl, hS, hK⟩
  rw [fit1, HF.out] at hS
  rw [fit1, H1.out]
  clear HS
  have HS := Aside0.mk hS
  clear hS hK
  go_wp2_with fail
  refine (Fault_St HS.out).mono ?_
  rintro e w3 ⟨rfl, rfl⟩
  go_wp2_with fail
  refine (limit_calls _ _).mono ?_
  rintro e w3 ⟨rfl, rfl⟩
  rw [HM.out]
  go_wp2_with fail
  go_ret3
  exact ⟨rfl, HS.out.below⟩
/-- Behind Take_long. -/
theorem fit_lit2 : (fitI 2).toNat = 2 := fit2
set_option maxHeartbeats 8000000 in
set_option maxRecDepth 100000 in
theorem Take_short_ok (A0 : Option Addr) (c0 : Nat) (l : List Int) (a1 : Int) (w : World) (hr0 : Kd.C (Kd.int .u8) w A0 l.length l) (hc0 : l.length ≤ c0) (hb0 : bytesOk l)
    (n1 : Nat) (l1 : List Int) (f1 : Int) (body l2 : List Int) (f2 : Int) (k2 : Nat) (l3 : List Int) (f3 : Int)
    (hn1 : n1 < 256) (m : Int) (hm : limI a1 = m) (h1 : numV (takeL l 0 1) 0 = n1) (g1 : restL l 0 1 = l1) (i1 : fauL l 0 1 = f1)
    (h2 : takeL l1 f1 n1 = body) (g2 : restL l1 f1 n1 = l2) (i2 : fauL l1 f1 n1 = f2) (h3 : numV (takeL l2 f2 2) 0 = k2) (g3 : restL l2 f2 2 = l3) (i3 : fauL l2 f2 2 = f3)
    (hlm : ¬ (n1 : Int) > m) (hf1 : f1 = 0) (hf3 : (f3 == 0) = false) :
    Calls Try.prog 15 #[.slice A0 l.length c0, .int .i64 a1] w fun e w' => e = .returned (.tuple #[.slice none 0 0, .int .i64 0, .int .i64 12]) ∧ Below w.heap.size w w' := by
  subst hf1
  have HR := Aside0.mk hr0
  have HC := Aside0.mk hc0
  have HB := Aside0.mk hb0
  have HM := Aside0.mk hm
  have HB1 : Aside0 (bytesOk l1) := ⟨by rw [← g1]; exact restL_ok hb0⟩
  have HB2 : Aside0 (bytesOk l2) := ⟨by rw [← g2]; exact restL_ok HB1.out⟩
  have H1 := Aside0.mk (And.intro h1 (And.intro g1 i1))
  have H2 := Aside0.mk (And.intro h2 (And.intro g2 i2))
  have H3 := Aside0.mk (And.intro h3 (And.intro g3 i3))
  clear hr0 hc0 hb0 hm h1 g1 i1 h2 g2 i2 h3 g3 i3
  have hf3' : (f3 != 0) = true := by simp [bne, hf3]
  clear hf3
  go_enter Try.func15, Try.ntmps15
  go_wp2_with fail
  refine (From_calls A0 l c0 _ HR.out HC.out).mono ?_
  obtain ⟨g, hg⟩ : ∃ g, w.heap.size = g := ⟨_, rfl⟩
  have HG := Aside0.mk hg
  rw [hg]
  clear hg
  rintro e w1 ⟨rfl, hS⟩
  have HS := Aside0.mk hS
  clear hS
  go_wp2_with fail
  refine (SNum_calls w _ g l 0 1 HB.out HS.out).mono ?_
  rintro e w2 ⟨rfl, hS, hK⟩
  rw [fit1, H1.out.2.1, H1.out.2.2] at hS
  rw [fit1, H1.out.1]
  clear HS
  have HS := Aside0.mk hS
  clear hS hK
  go_wp2_with fail
  refine (Fault_St HS.out).mono ?_
  rintro e w3 ⟨rfl, rfl⟩
  go_wp2_with fail
  refine (limit_calls _ _).mono ?_
  rintro e w3 ⟨rfl, rfl⟩
  rw [HM.out]
  go_wp2_with fail
  refine (Take_calls w _ g l1 0 n1 (by omega) HS.out).mono ?_
  rintro e w3 ⟨v3, rfl, hR, hS, hK⟩
  rw [Int.toNat_natCast, H2.out.1] at hR
  rw [Int.toNat_natCast, H2.out.2.1, H2.out.2.2] at hS
  have HRB := Aside0.mk (And.intro hR (And.intro HS.out.lt hK.keep.1))
  clear HS
  have HS := Aside0.mk hS
  clear hS hK hR
  go_wp2_with fail
  refine (SNum_calls w _ g l2 f2 2 HB2.out HS.out).mono ?_
  rintro e w4 ⟨rfl, hS, hK⟩
  rw [fit2, H3.out.2.1, H3.out.2.2] at hS
  rw [fit2, H3.out.1]
  clear HS
  have HS := Aside0.mk hS
  have HRB4 := Aside0.mk (And.intro (R_keep1 HRB.out.1 hK HRB.out.2.1) HRB.out.2.1)
  clear hS hK HRB
  go_wp2_with fail
  refine (Fault_St HS.out).mono ?_
  rintro e w5 ⟨rfl, rfl⟩
  go_wp2_with fail
  go_ret3
  exact ⟨rfl, HS.out.below⟩
set_option maxHeartbeats 8000000 in
set_option maxRecDepth 100000 in
theorem Take_short_no (A0 : Option Addr) (c0 : Nat) (l : List Int) (a1 : Int) (w : World) (hr0 : Kd.C (Kd.int .u8) w A0 l.length l) (hc0 : l.length ≤ c0) (hb0 : bytesOk l)
    (n1 : Nat) (l1 : List Int) (f1 : Int) (body l2 : List Int) (f2 : Int) (k2 : Nat) (l3 : List Int) (f3 : Int)
    (hn1 : n1 < 256) (m : Int) (hm : limI a1 = m) (h1 : numV (takeL l 0 1) 0 = n1) (g1 : restL l 0 1 = l1) (i1 : fauL l 0 1 = f1)
    (h2 : takeL l1 f1 n1 = body) (g2 : restL l1 f1 n1 = l2) (i2 : fauL l1 f1 n1 = f2) (h3 : numV (takeL l2 f2 2) 0 = k2) (g3 : restL l2 f2 2 = l3) (i3 : fauL l2 f2 2 = f3)
    (hf1 : (f1 == 0) = false) (hf3 : (f3 == 0) = false) :
    Calls Try.prog 15 #[.slice A0 l.length c0, .int .i64 a1] w fun e w' => e = .returned (.tuple #[.slice none 0 0, .int .i64 0, .int .i64 12]) ∧ Below w.heap.size w w' := by
  have HR := Aside0.mk hr0
  have HC := Aside0.mk hc0
  have HB := Aside0.mk hb0
  have HM := Aside0.mk hm
  have HB1 : Aside0 (bytesOk l1) := ⟨by rw [← g1]; exact restL_ok hb0⟩
  have HB2 : Aside0 (bytesOk l2) := ⟨by rw [← g2]; exact restL_ok HB1.out⟩
  have H1 := Aside0.mk (And.intro h1 (And.intro g1 i1))
  have H2 := Aside0.mk (And.intro h2 (And.intro g2 i2))
  have H3 := Aside0.mk (And.intro h3 (And.intro g3 i3))
  clear hr0 hc0 hb0 hm h1 g1 i1 h2 g2 i2 h3 g3 i3
  have hf3' : (f3 != 0) = true := by simp [bne, hf3]
  clear hf3
  go_enter Try.func15, Try.ntmps15
  go_wp2_with fail
  refine (From_calls A0 l c0 _ HR.out HC.out).mono ?_
  obtain ⟨g, hg⟩ : ∃ g, w.heap.size = g := ⟨_, rfl⟩
  have HG := Aside0.mk hg
  rw [hg]
  clear hg
  rintro e w1 ⟨rfl, hS⟩
  have HS := Aside0.mk hS
  clear hS
  go_wp2_with fail
  refine (SNum_calls w _ g l 0 1 HB.out HS.out).mono ?_
  rintro e w2 ⟨rfl, hS, hK⟩
  rw [fit1, H1.out.2.1, H1.out.2.2] at hS
  rw [fit1, H1.out.1]
  clear HS
  have HS := Aside0.mk hS
  clear hS hK
  go_wp2_with fail
  refine (Fault_St HS.out).mono ?_
  rintro e w3 ⟨rfl, rfl⟩
  go_wp2_with fail
  refine (Take_calls w _ g l1 f1 n1 (by omega) HS.out).mono ?_
  rintro e w3 ⟨v3, rfl, hR, hS, hK⟩
  rw [Int.toNat_natCast, H2.out.1] at hR
  rw [Int.toNat_natCast, H2.out.2.1, H2.out.2.2] at hS
  have HRB := Aside0.mk (And.intro hR (And.intro HS.out.lt hK.keep.1))
  clear HS
  have HS := Aside0.mk hS
  clear hS hK hR
  go_wp2_with fail
  refine (SNum_calls w _ g l2 f2 2 HB2.out HS.out).mono ?_
  rintro e w4 ⟨rfl, hS, hK⟩
  rw [fit2, H3.out.2.1, H3.out.2.2] at hS
  rw [fit2, H3.out.1]
  clear HS
  have HS := Aside0.mk hS
  have HRB4 := Aside0.mk (And.intro (R_keep1 HRB.out.1 hK HRB.out.2.1) HRB.out.2.1)
  clear hS hK HRB
  go_wp2_with fail
  refine (Fault_St HS.out).mono ?_
  rintro e w5 ⟨rfl, rfl⟩
  go_wp2_with fail
  go_ret3
  exact ⟨rfl, HS.out.below⟩
set_option maxHeartbeats 8000000 in
set_option maxRecDepth 100000 in
theorem Take_sum (A0 : Option Addr) (c0 : Nat) (l : List Int) (a1 : Int) (w : World) (hr0 : Kd.C (Kd.int .u8) w A0 l.length l) (hc0 : l.length ≤ c0) (hb0 : bytesOk l)
    (n1 : Nat) (l1 : List Int) (f1 : Int) (body l2 : List Int) (f2 : Int) (k2 : Nat) (l3 : List Int) (f3 : Int)
    (hn1 : n1 < 256) (m : Int) (hm : limI a1 = m) (h1 : numV (takeL l 0 1) 0 = n1) (g1 : restL l 0 1 = l1) (i1 : fauL l 0 1 = f1)
    (h2 : takeL l1 f1 n1 = body) (g2 : restL l1 f1 n1 = l2) (i2 : fauL l1 f1 n1 = f2) (h3 : numV (takeL l2 f2 2) 0 = k2) (g3 : restL l2 f2 2 = l3) (i3 : fauL l2 f2 2 = f3)
    (hlm : ¬ (n1 : Int) > m) (hf1 : f1 = 0) (hf2 : f2 = 0) (hf3 : f3 = 0) (hlen : l.length = l3.length + (n1 + 3)) (hmx : (l.length : Int) ≤ 9223372036854775807) (hbt : bytesOk (l.take (n1 + 1))) (s : Nat) (hs : shortN (l.take (n1 + 1)) = s) (hs2 : s < 65536) (hk2 : k2 < 65536) (heq : ¬ k2 = s) :
    Calls Try.prog 15 #[.slice A0 l.length c0, .int .i64 a1] w fun e w' => ∃ v, e = .returned (.tuple #[v, .int .i64 (n1 + 3), .int .i64 14]) ∧ Kd.R (Kd.int .u8) 5 w' w.heap.size (fun _ => True) v [] ∧ Below w.heap.size w w' := by
  subst hf1 hf2 hf3
  have HT := Aside0.mk (And.intro (C_take1 hr0 (m := n1 + 1) (by omega)) (And.intro (by omega : n1 + 1 ≤ c0) (And.intro hbt hs)))
  have HLEN := Aside0.mk hlen
  clear hlen hbt hs
  have HR := Aside0.mk hr0
  have HC := Aside0.mk hc0
  have HB := Aside0.mk hb0
  have HM := Aside0.mk hm
  have HB1 : Aside0 (bytesOk l1) := ⟨by rw [← g1]; exact restL_ok hb0⟩
  have HB2 : Aside0 (bytesOk l2) := ⟨by rw [← g2]; exact restL_ok HB1.out⟩
  have H1 := Aside0.mk (And.intro h1 (And.intro g1 i1))
  have H2 := Aside0.mk (And.intro h2 (And.intro g2 i2))
  have H3 := Aside0.mk (And.intro h3 (And.intro g3 i3))
  clear hr0 hc0 hb0 hm h1 g1 i1 h2 g2 i2 h3 g3 i3
  go_enter Try.func15, Try.ntmps15
  go_wp2_with fail
  refine (From_calls A0 l c0 _ HR.out HC.out).mono ?_
  obtain ⟨g, hg⟩ : ∃ g, w.heap.size = g := ⟨_, rfl⟩
  have HG := Aside0.mk hg
  rw [hg]
  clear hg
  rintro e w1 ⟨rfl, hS⟩
  have HS := Aside0.mk hS
  clear hS
  go_wp2_with fail
  refine (SNum_calls w _ g l 0 1 HB.out HS.out).mono ?_
  rintro e w2 ⟨rfl, hS, hK⟩
  rw [fit1, H1.out.2.1, H1.out.2.2] at hS
  rw [fit1, H1.out.1]
  clear HS
  have HS := Aside0.mk hS
  clear hS hK
  go_wp2_with fail
  refine (Fault_St HS.out).mono ?_
  rintro e w3 ⟨rfl, rfl⟩
  go_wp2_with fail
  refine (limit_calls _ _).mono ?_
  rintro e w3 ⟨rfl, rfl⟩
  rw [HM.out]
  go_wp2_with fail
  refine (Take_calls w _ g l1 0 n1 (by omega) HS.out).mono ?_
  rintro e w3 ⟨v3, rfl, hR, hS, hK⟩
  rw [Int.toNat_natCast, H2.out.1] at hR
  rw [Int.toNat_natCast, H2.out.2.1, H2.out.2.2] at hS
  have HRB := Aside0.mk (And.intro hR (And.intro HS.out.lt hK.keep.1))
  clear HS
  have HS := Aside0.mk hS
  clear hS hK hR
  go_wp2_with fail
  refine (SNum_calls w _ g l2 0 2 HB2.out HS.out).mono ?_
  rintro e w4 ⟨rfl, hS, hK⟩
  rw [fit2, H3.out.2.1, H3.out.2.2] at hS
  rw [fit2, H3.out.1]
  clear HS
  have HS := Aside0.mk hS
  have HRB4 := Aside0.mk (And.intro (R_keep1 HRB.out.1 hK HRB.out.2.1) HRB.out.2.1)
  clear hS hK HRB
  go_wp2_with fail
  refine (Fault_St HS.out).mono ?_
  rintro e w5 ⟨rfl, rfl⟩
  go_wp2_with fail
  refine (Left_St HS.out).mono ?_
  rintro e w5 ⟨rfl, rfl⟩
  rw [show leftI 0 l3.length = (l3.length : Int) from if_pos rfl]
  have hsz : (l.length : Int) - (l3.length : Int) = (n1 : Int) + 3 := by have := HLEN.out; omega
  have hls : l3.length ≤ l.length := by have := HLEN.out; omega
  have hc43 : n1 + 1 ≤ c0 := HT.out.2.1
  go_wp2_with fail
  refine (short_at _ _ (Kd.C_below HT.out.1 HS.out.below) (by rw [List.length_take]; have := HLEN.out; omega) HT.out.2.1 HT.out.2.2.1 _ HT.out.2.2.2).mono ?_
  rintro e w5 ⟨rfl, hd⟩
  have HR5 := Aside0.mk (Kd.R_below HRB4.out.1 hd.below)
  have HB5 := Aside0.mk (below_step HS.out.below hd.below)
  clear hd
  go_wp2_with fail
  go_ret3
  exact ⟨_, rfl, Kd.R_nil _ _ _ _ _, HB5.out⟩
set_option maxHeartbeats 8000000 in
set_option maxRecDepth 100000 in
theorem Take_good (A0 : Option Addr) (c0 : Nat) (l : List Int) (a1 : Int) (w : World) (hr0 : Kd.C (Kd.int .u8) w A0 l.length l) (hc0 : l.length ≤ c0) (hb0 : bytesOk l)
    (n1 : Nat) (l1 : List Int) (f1 : Int) (body l2 : List Int) (f2 : Int) (k2 : Nat) (l3 : List Int) (f3 : Int)
    (hn1 : n1 < 256) (m : Int) (hm : limI a1 = m) (h1 : numV (takeL l 0 1) 0 = n1) (g1 : restL l 0 1 = l1) (i1 : fauL l 0 1 = f1)
    (h2 : takeL l1 f1 n1 = body) (g2 : restL l1 f1 n1 = l2) (i2 : fauL l1 f1 n1 = f2) (h3 : numV (takeL l2 f2 2) 0 = k2) (g3 : restL l2 f2 2 = l3) (i3 : fauL l2 f2 2 = f3)
    (hlm : ¬ (n1 : Int) > m) (hf1 : f1 = 0) (hf2 : f2 = 0) (hf3 : f3 = 0) (hlen : l.length = l3.length + (n1 + 3)) (hmx : (l.length : Int) ≤ 9223372036854775807) (hbt : bytesOk (l.take (n1 + 1))) (s : Nat) (hs : shortN (l.take (n1 + 1)) = s) (hs2 : s < 65536) (hk2 : k2 < 65536) (heq : k2 = s) :
    Calls Try.prog 15 #[.slice A0 l.length c0, .int .i64 a1] w fun e w' => ∃ v, e = .returned (.tuple #[v, .int .i64 (n1 + 3), .int .i64 0]) ∧ Kd.R (Kd.int .u8) 5 w' w.heap.size (fun _ => True) v body ∧ Below w.heap.size w w' := by
  subst hf1 hf2 hf3
  have HT := Aside0.mk (And.intro (C_take1 hr0 (m := n1 + 1) (by omega)) (And.intro (by omega : n1 + 1 ≤ c0) (And.intro hbt hs)))
  have HLEN := Aside0.mk hlen
  clear hlen hbt hs
  have HR := Aside0.mk hr0
  have HC := Aside0.mk hc0
  have HB := Aside0.mk hb0
  have HM := Aside0.mk hm
  have HB1 : Aside0 (bytesOk l1) := ⟨by rw [← g1]; exact restL_ok hb0⟩
  have HB2 : Aside0 (bytesOk l2) := ⟨by rw [← g2]; exact restL_ok HB1.out⟩
  have H1 := Aside0.mk (And.intro h1 (And.intro g1 i1))
  have H2 := Aside0.mk (And.intro h2 (And.intro g2 i2))
  have H3 := Aside0.mk (And.intro h3 (And.intro g3 i3))
  clear hr0 hc0 hb0 hm h1 g1 i1 h2 g2 i2 h3 g3 i3
  go_enter Try.func15, Try.ntmps15
  go_wp2_with fail
  refine (From_calls A0 l c0 _ HR.out HC.out).mono ?_
  obtain ⟨g, hg⟩ : ∃ g, w.heap.size = g := ⟨_, rfl⟩
  have HG := Aside0.mk hg
  rw [hg]
  clear hg
  rintro e w1 ⟨rfl, hS⟩
  have HS := Aside0.mk hS
  clear hS
  go_wp2_with fail
  refine (SNum_calls w _ g l 0 1 HB.out HS.out).mono ?_
  rintro e w2 ⟨rfl, hS, hK⟩
  rw [fit1, H1.out.2.1, H1.out.2.2] at hS
  rw [fit1, H1.out.1]
  clear HS
  have HS := Aside0.mk hS
  clear hS hK
  go_wp2_with fail
  refine (Fault_St HS.out).mono ?_
  rintro e w3 ⟨rfl, rfl⟩
  go_wp2_with fail
  refine (limit_calls _ _).mono ?_
  rintro e w3 ⟨rfl, rfl⟩
  rw [HM.out]
  go_wp2_with fail
  refine (Take_calls w _ g l1 0 n1 (by omega) HS.out).mono ?_
  rintro e w3 ⟨v3, rfl, hR, hS, hK⟩
  rw [Int.toNat_natCast, H2.out.1] at hR
  rw [Int.toNat_natCast, H2.out.2.1, H2.out.2.2] at hS
  have HRB := Aside0.mk (And.intro hR (And.intro HS.out.lt hK.keep.1))
  clear HS
  have HS := Aside0.mk hS
  clear hS hK hR
  go_wp2_with fail
  refine (SNum_calls w _ g l2 0 2 HB2.out HS.out).mono ?_
  rintro e w4 ⟨rfl, hS, hK⟩
  rw [fit2, H3.out.2.1, H3.out.2.2] at hS
  rw [fit2, H3.out.1]
  clear HS
  have HS := Aside0.mk hS
  have HRB4 := Aside0.mk (And.intro (R_keep1 HRB.out.1 hK HRB.out.2.1) HRB.out.2.1)
  clear hS hK HRB
  go_wp2_with fail
  refine (Fault_St HS.out).mono ?_
  rintro e w5 ⟨rfl, rfl⟩
  go_wp2_with fail
  refine (Left_St HS.out).mono ?_
  rintro e w5 ⟨rfl, rfl⟩
  rw [show leftI 0 l3.length = (l3.length : Int) from if_pos rfl]
  have hsz : (l.length : Int) - (l3.length : Int) = (n1 : Int) + 3 := by have := HLEN.out; omega
  have hls : l3.length ≤ l.length := by have := HLEN.out; omega
  have hc43 : n1 + 1 ≤ c0 := HT.out.2.1
  go_wp2_with fail
  refine (short_at _ _ (Kd.C_below HT.out.1 HS.out.below) (by rw [List.length_take]; have := HLEN.out; omega) HT.out.2.1 HT.out.2.2.1 _ HT.out.2.2.2).mono ?_
  rintro e w5 ⟨rfl, hd⟩
  have HR5 := Aside0.mk (Kd.R_below HRB4.out.1 hd.below)
  have HB5 := Aside0.mk (below_step HS.out.below hd.below)
  clear hd
  go_wp2_with fail
  go_ret3
  exact ⟨_, rfl, Kd.R_lower HR5.out (by have := HRB4.out.2; have := HG.out; omega), HB5.out⟩
end Go.Proofs.Ytkfninhbbcfdcaa.Giv
