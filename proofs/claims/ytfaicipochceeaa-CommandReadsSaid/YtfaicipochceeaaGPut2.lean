/- A command's fields as bytes: put. -/
import Derived.Test.YtfaicipochceeaaGPut
namespace Go.Proofs.Ytfaicipochceeaa.Giv
open Go.Lib Go.RowKit Go.Proofs.YtfaicipochceeaaW.PrintWords Go.Proofs.YtfaicipochceeaaW.PrintLast Go.Proofs.YtfaicipochceeaaW.PrintMore
set_option linter.unusedVariables false
set_option linter.unusedSimpArgs false
structure OkC (c : Cmd) : Prop where
  name : c.name.size ≤ 12
  text : c.text.size ≤ 40
  rl : 0 ≤ c.rl ∧ c.rl ≤ 127
  rs : 0 ≤ c.rs ∧ c.rs ≤ 127
  la : 0 ≤ c.la ∧ c.la ≤ 127
  wh : 0 ≤ c.wh ∧ c.wh ≤ 127
  sl : 0 ≤ c.sl ∧ c.sl ≤ 127
  di : 0 ≤ c.di ∧ c.di ≤ 127
  co : 0 ≤ c.co ∧ c.co ≤ 127
  am : 0 ≤ c.am ∧ c.am < 18446744073709551616
  gc : 0 ≤ c.gc ∧ c.gc ≤ 127
  ga : 0 ≤ c.ga ∧ c.ga < 18446744073709551616
  gi : -1 ≤ c.gi ∧ c.gi ≤ 127
  wc : 0 ≤ c.wc ∧ c.wc ≤ 127
  wa : 0 ≤ c.wa ∧ c.wa < 18446744073709551616
  wi : -1 ≤ c.wi ∧ c.wi ≤ 127
  si : 0 ≤ c.si ∧ c.si ≤ 127
  ba : 0 ≤ c.ba ∧ c.ba ≤ 127
  qu : 0 ≤ c.qu ∧ c.qu ≤ 127
  qt : 0 ≤ c.qt ∧ c.qt < 18446744073709551616
  pr : 0 ≤ c.pr ∧ c.pr < 18446744073709551616
/-- Of the numbers of 64 bits. -/
def U64C (c : Cmd) : Prop := (0 ≤ c.am ∧ c.am < 18446744073709551616) ∧ (0 ≤ c.ga ∧ c.ga < 18446744073709551616) ∧ (0 ≤ c.wa ∧ c.wa < 18446744073709551616) ∧ (0 ≤ c.qt ∧ c.qt < 18446744073709551616) ∧ (0 ≤ c.pr ∧ c.pr < 18446744073709551616)
theorem isB_iff {n k : Int} (h : isB n k = true) : k ≤ n ∧ n ≤ 127 := by unfold isB at h; simpa using h
theorem okC_of {c : Cmd} (h : fitsC c = true) (hu : U64C c) : OkC c := by
  unfold fitsC smallL at h
  simp only [List.all_cons, List.all_nil, Bool.and_true, Bool.and_eq_true, decide_eq_true_eq] at h
  obtain ⟨⟨h1, h2, h3, h4, h5, h6, h7, h8, h9, h10, h11, h12⟩, hg, hw, hn, ht⟩ := h
  obtain ⟨u1, u2, u3, u4, u5⟩ := hu
  exact ⟨hn, ht, isB_iff h1, isB_iff h2, isB_iff h3, isB_iff h4, isB_iff h5, isB_iff h6, isB_iff h7, u1, isB_iff h11, u2, isB_iff hg, isB_iff h12, u3, isB_iff hw, isB_iff h8, isB_iff h9, isB_iff h10, u4, u5⟩
def putB (c : Cmd) : Nat → List Int
  | 1 => textB c.name
  | 2 => textB c.text
  | 3 => beB 1 c.rl.toNat ++ beB 1 c.rs.toNat
  | 4 => beB 1 c.la.toNat
  | 5 => beB 1 c.wh.toNat
  | 6 => beB 1 c.sl.toNat
  | 7 => beB 1 c.di.toNat
  | 8 => beB 1 c.co.toNat
  | 9 => beB 8 c.am.toNat
  | 10 => partB c.gc c.ga c.gi
  | 11 => partB c.wc c.wa c.wi
  | 12 => beB 1 c.si.toNat
  | 13 => beB 1 c.ba.toNat
  | 14 => beB 1 c.qu.toNat
  | 15 => beB 8 c.qt.toNat
  | 16 => beB 8 c.pr.toNat
  | _ => []
set_option maxHeartbeats 4000000 in
set_option maxRecDepth 100000 in
theorem put1 (A0 : Option Addr) (c0 : Nat) (l0 : List Int) (b : Nat) (c : Cmd) (w : World) (hC : Kd.C (Kd.int .u8) w A0 l0.length l0) (hc : l0.length ≤ c0) (hl : l0.length + 300 < 140737488355328) (hb : w.heap[b]? = some (.cells (cells c) 28 (0, 0))) (ho : OkC c) :
    Calls Try.prog 25 #[.slice A0 l0.length c0, .pointer (some ⟨b, 0, none⟩), .int .i32 110] w (FreshB w (l0 ++ putB c 1)) := by
  have H := Aside0.mk (And.intro hC (And.intro hc hl))
  obtain ⟨s, hs⟩ : ∃ s, c.name = s := ⟨_, rfl⟩
  have hsz : s.size ≤ 255 := by rw [← hs]; have := ho.name; omega
  have HSZ := Aside0.mk hsz
  have x1 : w.cell? ⟨b, 1, none⟩ = some (.string s) := by rw [← hs]; exact cell_of hb 1
  have hput : putB c 1 = textB s := by rw [← hs]; rfl
  rw [hput]
  obtain ⟨m, hm⟩ : ∃ m, l0 ++ textB s = m := ⟨_, rfl⟩
  rw [hm]
  have HM := Aside0.mk hm
  clear hm
  have HOK := Aside0.mk (And.intro ho hb)
  clear hC hc hl hput ho hb  hs hsz
  go_enter Try.func25, Try.ntmps25
  go_wp2_with fail
  refine (number_calls b 1 _ (by decide) (by decide)).mono ?_
  rintro e w' ⟨rfl, rfl⟩
  rw [show numP b 1 = none from rfl]
  go_wp2_with fail
  refine (amount_calls b 1 _ (by decide) (by decide)).mono ?_
  rintro e w' ⟨rfl, rfl⟩
  rw [show amoP b 1 = none from rfl]
  go_wp2_with fail
  refine (part_calls b 1 _ (by decide) (by decide)).mono ?_
  rintro e w' ⟨rfl, rfl⟩
  rw [show parP b 1 = none from rfl]
  go_wp2_with fail
  refine (Text_calls A0 c0 l0 s w H.out.1 H.out.2.1 HSZ.out (by have := H.out.2.2; omega)).mono ?_
  rintro e w' ⟨v, rfl, hR, hB⟩
  rw [HM.out] at hR
  obtain ⟨A1, c1, rfl⟩ := Kd.R_slice hR
  have HR := Aside0.mk (And.intro hR hB)
  clear hR hB
  go_wp2_with fail
  go_ret
  exact ⟨A1, c1, rfl, HR.out.1, HR.out.2⟩
set_option maxHeartbeats 4000000 in
set_option maxRecDepth 100000 in
theorem put2 (A0 : Option Addr) (c0 : Nat) (l0 : List Int) (b : Nat) (c : Cmd) (w : World) (hC : Kd.C (Kd.int .u8) w A0 l0.length l0) (hc : l0.length ≤ c0) (hl : l0.length + 300 < 140737488355328) (hb : w.heap[b]? = some (.cells (cells c) 28 (0, 0))) (ho : OkC c) :
    Calls Try.prog 25 #[.slice A0 l0.length c0, .pointer (some ⟨b, 0, none⟩), .int .i32 116] w (FreshB w (l0 ++ putB c 2)) := by
  have H := Aside0.mk (And.intro hC (And.intro hc hl))
  obtain ⟨s, hs⟩ : ∃ s, c.text = s := ⟨_, rfl⟩
  have hsz : s.size ≤ 255 := by rw [← hs]; have := ho.text; omega
  have HSZ := Aside0.mk hsz
  have x2 : w.cell? ⟨b, 2, none⟩ = some (.string s) := by rw [← hs]; exact cell_of hb 2
  have hput : putB c 2 = textB s := by rw [← hs]; rfl
  rw [hput]
  obtain ⟨m, hm⟩ : ∃ m, l0 ++ textB s = m := ⟨_, rfl⟩
  rw [hm]
  have HM := Aside0.mk hm
  clear hm
  have HOK := Aside0.mk (And.intro ho hb)
  clear hC hc hl hput ho hb  hs hsz
  go_enter Try.func25, Try.ntmps25
  go_wp2_with fail
  refine (number_calls b 2 _ (by decide) (by decide)).mono ?_
  rintro e w' ⟨rfl, rfl⟩
  rw [show numP b 2 = none from rfl]
  go_wp2_with fail
  refine (amount_calls b 2 _ (by decide) (by decide)).mono ?_
  rintro e w' ⟨rfl, rfl⟩
  rw [show amoP b 2 = none from rfl]
  go_wp2_with fail
  refine (part_calls b 2 _ (by decide) (by decide)).mono ?_
  rintro e w' ⟨rfl, rfl⟩
  rw [show parP b 2 = none from rfl]
  go_wp2_with fail
  refine (Text_calls A0 c0 l0 s w H.out.1 H.out.2.1 HSZ.out (by have := H.out.2.2; omega)).mono ?_
  rintro e w' ⟨v, rfl, hR, hB⟩
  rw [HM.out] at hR
  obtain ⟨A1, c1, rfl⟩ := Kd.R_slice hR
  have HR := Aside0.mk (And.intro hR hB)
  clear hR hB
  go_wp2_with fail
  go_ret
  exact ⟨A1, c1, rfl, HR.out.1, HR.out.2⟩
set_option maxHeartbeats 4000000 in
set_option maxRecDepth 100000 in
theorem put3 (A0 : Option Addr) (c0 : Nat) (l0 : List Int) (b : Nat) (c : Cmd) (w : World) (hC : Kd.C (Kd.int .u8) w A0 l0.length l0) (hc : l0.length ≤ c0) (hl : l0.length + 300 < 140737488355328) (hb : w.heap[b]? = some (.cells (cells c) 28 (0, 0))) (ho : OkC c) :
    Calls Try.prog 25 #[.slice A0 l0.length c0, .pointer (some ⟨b, 0, none⟩), .int .i32 114] w (FreshB w (l0 ++ putB c 3)) := by
  have H := Aside0.mk (And.intro hC (And.intro hc hl))
  obtain ⟨n_rl, hn_rl⟩ : ∃ n : Nat, c.rl = n := Int.eq_ofNat_of_zero_le ho.rl.1
  have hle_rl := ho.rl.2
  have x3 : w.cell? ⟨b, 3, none⟩ = some (.int .i64 n_rl) := by rw [← hn_rl]; exact cell_of hb 3
  rw [hn_rl] at hle_rl
  obtain ⟨n_rs, hn_rs⟩ : ∃ n : Nat, c.rs = n := Int.eq_ofNat_of_zero_le ho.rs.1
  have hle_rs := ho.rs.2
  have x4 : w.cell? ⟨b, 4, none⟩ = some (.int .i64 n_rs) := by rw [← hn_rs]; exact cell_of hb 4
  rw [hn_rs] at hle_rs
  have hput : putB c 3 = beB 1 n_rl ++ beB 1 n_rs := by show beB 1 c.rl.toNat ++ beB 1 c.rs.toNat = _; rw [hn_rl, hn_rs]; rfl
  rw [hput]
  obtain ⟨m, hm⟩ : ∃ m, l0 ++ (beB 1 n_rl ++ beB 1 n_rs) = m := ⟨_, rfl⟩
  rw [hm]
  have HM := Aside0.mk hm
  clear hm
  have HOK := Aside0.mk (And.intro ho hb)
  clear hC hc hl hput ho hb hn_rl hn_rs
  go_enter Try.func25, Try.ntmps25
  go_wp2_with fail
  refine (number_calls b 3 _ (by decide) (by decide)).mono ?_
  rintro e w' ⟨rfl, rfl⟩
  rw [show numP b 3 = none from rfl]
  go_wp2_with fail
  refine (amount_calls b 3 _ (by decide) (by decide)).mono ?_
  rintro e w' ⟨rfl, rfl⟩
  rw [show amoP b 3 = none from rfl]
  go_wp2_with fail
  refine (part_calls b 3 _ (by decide) (by decide)).mono ?_
  rintro e w' ⟨rfl, rfl⟩
  rw [show parP b 3 = none from rfl]
  go_wp2_with fail
  have q3 := fun (W' : World) (h_ : Below w.heap.size w W') => pw_cell_below h_ x3
  have q4 := fun (W' : World) (h_ : Below w.heap.size w W') => pw_cell_below h_ x4
  have hw1 : IntKind.u64.wrap (n_rl : Int) = n_rl := by rw [IntKind.wrap_u64]; omega
  have hw2 : IntKind.u64.wrap (n_rs : Int) = n_rs := by rw [IntKind.wrap_u64]; omega
  have HLR := Aside0.mk (And.intro hle_rl hle_rs)
  have N1 := Aside0.mk (fun (W' : World) (h_ : Below w.heap.size w W') => Num_at (w := W') (A0 := A0) (l0 := l0) l0.length c0 (Kd.C_below H.out.1 h_) rfl H.out.2.1 (n_rl : Int) n_rl rfl (by have := HLR.out.1; omega) 1 1 rfl (by have := H.out.2.2; omega) (l0 ++ beB 1 n_rl) rfl)
  clear x3 x4
  go_region_held3 (fun w' => Below w.heap.size w w') (first | assumption | exact Below.refl _ _ | exact below_step (by assumption) (by assumption) | exact below_step (by assumption) (Drawn0.below (by assumption)) | exact below_drew (by assumption) | exact below_drew (Below.refl _ _)) (first
    | (go_at_call 42; ((with_reducible refine (N1.out _ (by first | assumption | exact below_drew (Below.refl _ _))).mono ?_); rintro e w2 ⟨A1, c1, rfl, hR1, hB1⟩; have hS2 : Below w.heap.size w w2 := (by first | exact below_step (below_drew (Below.refl _ _)) hB1 | exact below_step (by assumption) hB1); have N2 := Aside0.mk (fun (W' : World) (h_ : Below w2.heap.size w2 W') => Num_at (w := W') (A0 := A1) (l0 := l0 ++ beB 1 n_rl) (l0 ++ beB 1 n_rl).length c1 (Kd.C_below (Kd.R_reads' hR1).2.2 h_) rfl (Kd.R_reads' hR1).2.1 (n_rs : Int) n_rs rfl (by have := HLR.out.2; omega) 1 1 rfl (by have := H.out.2.2; rw [List.length_append, beB_length]; omega) m (by rw [← HM.out, List.append_assoc])); clear hR1 hB1; obtain ⟨m1, hm1⟩ : ∃ m, (l0 ++ beB 1 n_rl).length = m := ⟨_, rfl⟩; rw [hm1] at N2 ⊢; clear hm1))
    | (go_at_call 42; ((with_reducible refine (N2.out _ (by first | exact Below.refl _ _ | assumption | exact below_drew (Below.refl _ _))).mono ?_); rintro e w3 ⟨A2, c2, rfl, hR2, hB2⟩; have HR2 := Aside0.mk hR2; have hS3 : Below w.heap.size w w3 := below_step hS2 (by first | exact hB2 | exact below_step (below_drew (Below.refl _ _)) hB2); clear hR2 hB2)))
  have HS3 := Aside0.mk (And.intro hS3 hS2)
  clear q3 q4 hw1 hw2 hS2 hS3
  go_wp2_with fail
  go_ret
  exact ⟨A2, c2, rfl, Kd.R_lower HR2.out HS3.out.2.size, HS3.out.1⟩
set_option maxHeartbeats 4000000 in
set_option maxRecDepth 100000 in
theorem put4 (A0 : Option Addr) (c0 : Nat) (l0 : List Int) (b : Nat) (c : Cmd) (w : World) (hC : Kd.C (Kd.int .u8) w A0 l0.length l0) (hc : l0.length ≤ c0) (hl : l0.length + 300 < 140737488355328) (hb : w.heap[b]? = some (.cells (cells c) 28 (0, 0))) (ho : OkC c) :
    Calls Try.prog 25 #[.slice A0 l0.length c0, .pointer (some ⟨b, 0, none⟩), .int .i32 108] w (FreshB w (l0 ++ putB c 4)) := by
  have H := Aside0.mk (And.intro hC (And.intro hc hl))
  obtain ⟨n_la, hn_la⟩ : ∃ n : Nat, c.la = n := Int.eq_ofNat_of_zero_le ho.la.1
  have hle_la := ho.la.2
  have x5 : w.cell? ⟨b, 5, none⟩ = some (.int .i64 n_la) := by rw [← hn_la]; exact cell_of hb 5
  rw [hn_la] at hle_la
  have hput : putB c 4 = beB 1 n_la := by show beB 1 c.la.toNat = _; rw [hn_la]; rfl
  rw [hput]
  obtain ⟨m, hm⟩ : ∃ m, l0 ++ beB 1 n_la = m := ⟨_, rfl⟩
  rw [hm]
  have HM := Aside0.mk hm
  clear hm
  have HOK := Aside0.mk (And.intro ho hb)
  clear hC hc hl hput ho hb hn_la
  go_enter Try.func25, Try.ntmps25
  go_wp2_with fail
  refine (number_calls b 4 _ (by decide) (by decide)).mono ?_
  rintro e w' ⟨rfl, rfl⟩
  rw [show numP b 4 = some ⟨b, 5, none⟩ from rfl]
  go_wp2_with fail
  refine (number_calls b 4 _ (by decide) (by decide)).mono ?_
  rintro e w' ⟨rfl, rfl⟩
  rw [show numP b 4 = some ⟨b, 5, none⟩ from rfl]
  go_wp2_with fail
  refine (Num_at l0.length c0 H.out.1 rfl H.out.2.1 _ n_la rfl (by omega) 1 1 rfl (by have := H.out.2.2; omega) m HM.out).mono ?_
  rintro e w' ⟨A1, c1, rfl, hR, hB⟩
  have HR := Aside0.mk (And.intro hR hB)
  clear hR hB
  go_wp2_with fail
  go_ret
  exact ⟨A1, c1, rfl, HR.out.1, HR.out.2⟩
set_option maxHeartbeats 4000000 in
set_option maxRecDepth 100000 in
theorem put5 (A0 : Option Addr) (c0 : Nat) (l0 : List Int) (b : Nat) (c : Cmd) (w : World) (hC : Kd.C (Kd.int .u8) w A0 l0.length l0) (hc : l0.length ≤ c0) (hl : l0.length + 300 < 140737488355328) (hb : w.heap[b]? = some (.cells (cells c) 28 (0, 0))) (ho : OkC c) :
    Calls Try.prog 25 #[.slice A0 l0.length c0, .pointer (some ⟨b, 0, none⟩), .int .i32 119] w (FreshB w (l0 ++ putB c 5)) := by
  have H := Aside0.mk (And.intro hC (And.intro hc hl))
  obtain ⟨n_wh, hn_wh⟩ : ∃ n : Nat, c.wh = n := Int.eq_ofNat_of_zero_le ho.wh.1
  have hle_wh := ho.wh.2
  have x6 : w.cell? ⟨b, 6, none⟩ = some (.int .i64 n_wh) := by rw [← hn_wh]; exact cell_of hb 6
  rw [hn_wh] at hle_wh
  have hput : putB c 5 = beB 1 n_wh := by show beB 1 c.wh.toNat = _; rw [hn_wh]; rfl
  rw [hput]
  obtain ⟨m, hm⟩ : ∃ m, l0 ++ beB 1 n_wh = m := ⟨_, rfl⟩
  rw [hm]
  have HM := Aside0.mk hm
  clear hm
  have HOK := Aside0.mk (And.intro ho hb)
  clear hC hc hl hput ho hb hn_wh
  go_enter Try.func25, Try.ntmps25
  go_wp2_with fail
  refine (number_calls b 5 _ (by decide) (by decide)).mono ?_
  rintro e w' ⟨rfl, rfl⟩
  rw [show numP b 5 = some ⟨b, 6, none⟩ from rfl]
  go_wp2_with fail
  refine (number_calls b 5 _ (by decide) (by decide)).mono ?_
  rintro e w' ⟨rfl, rfl⟩
  rw [show numP b 5 = some ⟨b, 6, none⟩ from rfl]
  go_wp2_with fail
  refine (Num_at l0.length c0 H.out.1 rfl H.out.2.1 _ n_wh rfl (by omega) 1 1 rfl (by have := H.out.2.2; omega) m HM.out).mono ?_
  rintro e w' ⟨A1, c1, rfl, hR, hB⟩
  have HR := Aside0.mk (And.intro hR hB)
  clear hR hB
  go_wp2_with fail
  go_ret
  exact ⟨A1, c1, rfl, HR.out.1, HR.out.2⟩
set_option maxHeartbeats 4000000 in
set_option maxRecDepth 100000 in
theorem put6 (A0 : Option Addr) (c0 : Nat) (l0 : List Int) (b : Nat) (c : Cmd) (w : World) (hC : Kd.C (Kd.int .u8) w A0 l0.length l0) (hc : l0.length ≤ c0) (hl : l0.length + 300 < 140737488355328) (hb : w.heap[b]? = some (.cells (cells c) 28 (0, 0))) (ho : OkC c) :
    Calls Try.prog 25 #[.slice A0 l0.length c0, .pointer (some ⟨b, 0, none⟩), .int .i32 115] w (FreshB w (l0 ++ putB c 6)) := by
  have H := Aside0.mk (And.intro hC (And.intro hc hl))
  obtain ⟨n_sl, hn_sl⟩ : ∃ n : Nat, c.sl = n := Int.eq_ofNat_of_zero_le ho.sl.1
  have hle_sl := ho.sl.2
  have x7 : w.cell? ⟨b, 7, none⟩ = some (.int .i64 n_sl) := by rw [← hn_sl]; exact cell_of hb 7
  rw [hn_sl] at hle_sl
  have hput : putB c 6 = beB 1 n_sl := by show beB 1 c.sl.toNat = _; rw [hn_sl]; rfl
  rw [hput]
  obtain ⟨m, hm⟩ : ∃ m, l0 ++ beB 1 n_sl = m := ⟨_, rfl⟩
  rw [hm]
  have HM := Aside0.mk hm
  clear hm
  have HOK := Aside0.mk (And.intro ho hb)
  clear hC hc hl hput ho hb hn_sl
  go_enter Try.func25, Try.ntmps25
  go_wp2_with fail
  refine (number_calls b 6 _ (by decide) (by decide)).mono ?_
  rintro e w' ⟨rfl, rfl⟩
  rw [show numP b 6 = some ⟨b, 7, none⟩ from rfl]
  go_wp2_with fail
  refine (number_calls b 6 _ (by decide) (by decide)).mono ?_
  rintro e w' ⟨rfl, rfl⟩
  rw [show numP b 6 = some ⟨b, 7, none⟩ from rfl]
  go_wp2_with fail
  refine (Num_at l0.length c0 H.out.1 rfl H.out.2.1 _ n_sl rfl (by omega) 1 1 rfl (by have := H.out.2.2; omega) m HM.out).mono ?_
  rintro e w' ⟨A1, c1, rfl, hR, hB⟩
  have HR := Aside0.mk (And.intro hR hB)
  clear hR hB
  go_wp2_with fail
  go_ret
  exact ⟨A1, c1, rfl, HR.out.1, HR.out.2⟩
set_option maxHeartbeats 4000000 in
set_option maxRecDepth 100000 in
theorem put7 (A0 : Option Addr) (c0 : Nat) (l0 : List Int) (b : Nat) (c : Cmd) (w : World) (hC : Kd.C (Kd.int .u8) w A0 l0.length l0) (hc : l0.length ≤ c0) (hl : l0.length + 300 < 140737488355328) (hb : w.heap[b]? = some (.cells (cells c) 28 (0, 0))) (ho : OkC c) :
    Calls Try.prog 25 #[.slice A0 l0.length c0, .pointer (some ⟨b, 0, none⟩), .int .i32 100] w (FreshB w (l0 ++ putB c 7)) := by
  have H := Aside0.mk (And.intro hC (And.intro hc hl))
  obtain ⟨n_di, hn_di⟩ : ∃ n : Nat, c.di = n := Int.eq_ofNat_of_zero_le ho.di.1
  have hle_di := ho.di.2
  have x8 : w.cell? ⟨b, 8, none⟩ = some (.int .i64 n_di) := by rw [← hn_di]; exact cell_of hb 8
  rw [hn_di] at hle_di
  have hput : putB c 7 = beB 1 n_di := by show beB 1 c.di.toNat = _; rw [hn_di]; rfl
  rw [hput]
  obtain ⟨m, hm⟩ : ∃ m, l0 ++ beB 1 n_di = m := ⟨_, rfl⟩
  rw [hm]
  have HM := Aside0.mk hm
  clear hm
  have HOK := Aside0.mk (And.intro ho hb)
  clear hC hc hl hput ho hb hn_di
  go_enter Try.func25, Try.ntmps25
  go_wp2_with fail
  refine (number_calls b 7 _ (by decide) (by decide)).mono ?_
  rintro e w' ⟨rfl, rfl⟩
  rw [show numP b 7 = some ⟨b, 8, none⟩ from rfl]
  go_wp2_with fail
  refine (number_calls b 7 _ (by decide) (by decide)).mono ?_
  rintro e w' ⟨rfl, rfl⟩
  rw [show numP b 7 = some ⟨b, 8, none⟩ from rfl]
  go_wp2_with fail
  refine (Num_at l0.length c0 H.out.1 rfl H.out.2.1 _ n_di rfl (by omega) 1 1 rfl (by have := H.out.2.2; omega) m HM.out).mono ?_
  rintro e w' ⟨A1, c1, rfl, hR, hB⟩
  have HR := Aside0.mk (And.intro hR hB)
  clear hR hB
  go_wp2_with fail
  go_ret
  exact ⟨A1, c1, rfl, HR.out.1, HR.out.2⟩
set_option maxHeartbeats 4000000 in
set_option maxRecDepth 100000 in
theorem put8 (A0 : Option Addr) (c0 : Nat) (l0 : List Int) (b : Nat) (c : Cmd) (w : World) (hC : Kd.C (Kd.int .u8) w A0 l0.length l0) (hc : l0.length ≤ c0) (hl : l0.length + 300 < 140737488355328) (hb : w.heap[b]? = some (.cells (cells c) 28 (0, 0))) (ho : OkC c) :
    Calls Try.prog 25 #[.slice A0 l0.length c0, .pointer (some ⟨b, 0, none⟩), .int .i32 99] w (FreshB w (l0 ++ putB c 8)) := by
  have H := Aside0.mk (And.intro hC (And.intro hc hl))
  obtain ⟨n_co, hn_co⟩ : ∃ n : Nat, c.co = n := Int.eq_ofNat_of_zero_le ho.co.1
  have hle_co := ho.co.2
  have x9 : w.cell? ⟨b, 9, none⟩ = some (.int .i64 n_co) := by rw [← hn_co]; exact cell_of hb 9
  rw [hn_co] at hle_co
  have hput : putB c 8 = beB 1 n_co := by show beB 1 c.co.toNat = _; rw [hn_co]; rfl
  rw [hput]
  obtain ⟨m, hm⟩ : ∃ m, l0 ++ beB 1 n_co = m := ⟨_, rfl⟩
  rw [hm]
  have HM := Aside0.mk hm
  clear hm
  have HOK := Aside0.mk (And.intro ho hb)
  clear hC hc hl hput ho hb hn_co
  go_enter Try.func25, Try.ntmps25
  go_wp2_with fail
  refine (number_calls b 8 _ (by decide) (by decide)).mono ?_
  rintro e w' ⟨rfl, rfl⟩
  rw [show numP b 8 = some ⟨b, 9, none⟩ from rfl]
  go_wp2_with fail
  refine (number_calls b 8 _ (by decide) (by decide)).mono ?_
  rintro e w' ⟨rfl, rfl⟩
  rw [show numP b 8 = some ⟨b, 9, none⟩ from rfl]
  go_wp2_with fail
  refine (Num_at l0.length c0 H.out.1 rfl H.out.2.1 _ n_co rfl (by omega) 1 1 rfl (by have := H.out.2.2; omega) m HM.out).mono ?_
  rintro e w' ⟨A1, c1, rfl, hR, hB⟩
  have HR := Aside0.mk (And.intro hR hB)
  clear hR hB
  go_wp2_with fail
  go_ret
  exact ⟨A1, c1, rfl, HR.out.1, HR.out.2⟩
set_option maxHeartbeats 4000000 in
set_option maxRecDepth 100000 in
theorem put9 (A0 : Option Addr) (c0 : Nat) (l0 : List Int) (b : Nat) (c : Cmd) (w : World) (hC : Kd.C (Kd.int .u8) w A0 l0.length l0) (hc : l0.length ≤ c0) (hl : l0.length + 300 < 140737488355328) (hb : w.heap[b]? = some (.cells (cells c) 28 (0, 0))) (ho : OkC c) :
    Calls Try.prog 25 #[.slice A0 l0.length c0, .pointer (some ⟨b, 0, none⟩), .int .i32 97] w (FreshB w (l0 ++ putB c 9)) := by
  have H := Aside0.mk (And.intro hC (And.intro hc hl))
  obtain ⟨n_am, hn_am⟩ : ∃ n : Nat, c.am = n := Int.eq_ofNat_of_zero_le ho.am.1
  have hle_am := ho.am.2
  have x10 : w.cell? ⟨b, 10, none⟩ = some (.int .u64 n_am) := by rw [← hn_am]; exact cell_of hb 10
  rw [hn_am] at hle_am
  have hput : putB c 9 = beB 8 n_am := by show beB 8 c.am.toNat = _; rw [hn_am]; rfl
  rw [hput]
  obtain ⟨m, hm⟩ : ∃ m, l0 ++ beB 8 n_am = m := ⟨_, rfl⟩
  rw [hm]
  have HM := Aside0.mk hm
  clear hm
  have HLE_am := Aside0.mk hle_am
  clear hle_am
  have HOK := Aside0.mk (And.intro ho hb)
  clear hC hc hl hput ho hb hn_am
  go_enter Try.func25, Try.ntmps25
  go_wp2_with fail
  refine (number_calls b 9 _ (by decide) (by decide)).mono ?_
  rintro e w' ⟨rfl, rfl⟩
  rw [show numP b 9 = none from rfl]
  go_wp2_with fail
  refine (amount_calls b 9 _ (by decide) (by decide)).mono ?_
  rintro e w' ⟨rfl, rfl⟩
  rw [show amoP b 9 = some ⟨b, 10, none⟩ from rfl]
  go_wp2_with fail
  refine (amount_calls b 9 _ (by decide) (by decide)).mono ?_
  rintro e w' ⟨rfl, rfl⟩
  rw [show amoP b 9 = some ⟨b, 10, none⟩ from rfl]
  go_wp2_with fail
  refine (Num_at l0.length c0 H.out.1 rfl H.out.2.1 _ n_am rfl (by have := HLE_am.out; omega) 8 8 rfl (by have := H.out.2.2; omega) m HM.out).mono ?_
  rintro e w' ⟨A1, c1, rfl, hR, hB⟩
  have HR := Aside0.mk (And.intro hR hB)
  clear hR hB
  go_wp2_with fail
  go_ret
  exact ⟨A1, c1, rfl, HR.out.1, HR.out.2⟩
set_option maxHeartbeats 4000000 in
set_option maxRecDepth 100000 in
theorem put10 (A0 : Option Addr) (c0 : Nat) (l0 : List Int) (b : Nat) (c : Cmd) (w : World) (hC : Kd.C (Kd.int .u8) w A0 l0.length l0) (hc : l0.length ≤ c0) (hl : l0.length + 300 < 140737488355328) (hb : w.heap[b]? = some (.cells (cells c) 28 (0, 0))) (ho : OkC c) :
    Calls Try.prog 25 #[.slice A0 l0.length c0, .pointer (some ⟨b, 0, none⟩), .int .i32 103] w (FreshB w (l0 ++ putB c 10)) := by
  have H := Aside0.mk (And.intro hC (And.intro hc hl))
  have x11 : w.cell? ⟨b, 11, none⟩ = some (.int .i64 c.gc) := cell_of hb 11
  have x12 : w.cell? ⟨b, 12, none⟩ = some (.int .u64 c.ga) := cell_of hb 12
  have x13 : w.cell? ⟨b, 13, none⟩ = some (.int .i64 c.gi) := cell_of hb 13
  have hput : putB c 10 = partB c.gc c.ga c.gi := rfl
  rw [hput]
  obtain ⟨m, hm⟩ : ∃ m, l0 ++ partB c.gc c.ga c.gi = m := ⟨_, rfl⟩
  rw [hm]
  have HM := Aside0.mk hm
  clear hm
  have HOK := Aside0.mk (And.intro ho hb)
  clear hC hc hl hput ho hb 
  go_enter Try.func25, Try.ntmps25
  go_wp2_with fail
  refine (number_calls b 10 _ (by decide) (by decide)).mono ?_
  rintro e w' ⟨rfl, rfl⟩
  rw [show numP b 10 = none from rfl]
  go_wp2_with fail
  refine (amount_calls b 10 _ (by decide) (by decide)).mono ?_
  rintro e w' ⟨rfl, rfl⟩
  rw [show amoP b 10 = none from rfl]
  go_wp2_with fail
  refine (part_calls b 10 _ (by decide) (by decide)).mono ?_
  rintro e w' ⟨rfl, rfl⟩
  rw [show parP b 10 = some ⟨b, 11, none⟩ from rfl]
  go_wp2_with fail
  refine (part_calls b 10 _ (by decide) (by decide)).mono ?_
  rintro e w' ⟨rfl, rfl⟩
  rw [show parP b 10 = some ⟨b, 11, none⟩ from rfl]
  go_wp2_with fail
  refine (putPart_calls A0 c0 l0 c.gc c.ga c.gi w H.out.1 H.out.2.1 (by have := H.out.2.2; omega) HOK.out.1.gc HOK.out.1.ga HOK.out.1.gi).mono ?_
  rw [HM.out]
  rintro e w' ⟨A1, c1, rfl, hR, hB⟩
  have HR := Aside0.mk (And.intro hR hB)
  clear hR hB
  go_wp2_with fail
  go_ret
  exact ⟨A1, c1, rfl, HR.out.1, HR.out.2⟩
set_option maxHeartbeats 4000000 in
set_option maxRecDepth 100000 in
theorem put11 (A0 : Option Addr) (c0 : Nat) (l0 : List Int) (b : Nat) (c : Cmd) (w : World) (hC : Kd.C (Kd.int .u8) w A0 l0.length l0) (hc : l0.length ≤ c0) (hl : l0.length + 300 < 140737488355328) (hb : w.heap[b]? = some (.cells (cells c) 28 (0, 0))) (ho : OkC c) :
    Calls Try.prog 25 #[.slice A0 l0.length c0, .pointer (some ⟨b, 0, none⟩), .int .i32 118] w (FreshB w (l0 ++ putB c 11)) := by
  have H := Aside0.mk (And.intro hC (And.intro hc hl))
  have x14 : w.cell? ⟨b, 14, none⟩ = some (.int .i64 c.wc) := cell_of hb 14
  have x15 : w.cell? ⟨b, 15, none⟩ = some (.int .u64 c.wa) := cell_of hb 15
  have x16 : w.cell? ⟨b, 16, none⟩ = some (.int .i64 c.wi) := cell_of hb 16
  have hput : putB c 11 = partB c.wc c.wa c.wi := rfl
  rw [hput]
  obtain ⟨m, hm⟩ : ∃ m, l0 ++ partB c.wc c.wa c.wi = m := ⟨_, rfl⟩
  rw [hm]
  have HM := Aside0.mk hm
  clear hm
  have HOK := Aside0.mk (And.intro ho hb)
  clear hC hc hl hput ho hb 
  go_enter Try.func25, Try.ntmps25
  go_wp2_with fail
  refine (number_calls b 11 _ (by decide) (by decide)).mono ?_
  rintro e w' ⟨rfl, rfl⟩
  rw [show numP b 11 = none from rfl]
  go_wp2_with fail
  refine (amount_calls b 11 _ (by decide) (by decide)).mono ?_
  rintro e w' ⟨rfl, rfl⟩
  rw [show amoP b 11 = none from rfl]
  go_wp2_with fail
  refine (part_calls b 11 _ (by decide) (by decide)).mono ?_
  rintro e w' ⟨rfl, rfl⟩
  rw [show parP b 11 = some ⟨b, 14, none⟩ from rfl]
  go_wp2_with fail
  refine (part_calls b 11 _ (by decide) (by decide)).mono ?_
  rintro e w' ⟨rfl, rfl⟩
  rw [show parP b 11 = some ⟨b, 14, none⟩ from rfl]
  go_wp2_with fail
  refine (putPart_calls A0 c0 l0 c.wc c.wa c.wi w H.out.1 H.out.2.1 (by have := H.out.2.2; omega) HOK.out.1.wc HOK.out.1.wa HOK.out.1.wi).mono ?_
  rw [HM.out]
  rintro e w' ⟨A1, c1, rfl, hR, hB⟩
  have HR := Aside0.mk (And.intro hR hB)
  clear hR hB
  go_wp2_with fail
  go_ret
  exact ⟨A1, c1, rfl, HR.out.1, HR.out.2⟩
set_option maxHeartbeats 4000000 in
set_option maxRecDepth 100000 in
theorem put12 (A0 : Option Addr) (c0 : Nat) (l0 : List Int) (b : Nat) (c : Cmd) (w : World) (hC : Kd.C (Kd.int .u8) w A0 l0.length l0) (hc : l0.length ≤ c0) (hl : l0.length + 300 < 140737488355328) (hb : w.heap[b]? = some (.cells (cells c) 28 (0, 0))) (ho : OkC c) :
    Calls Try.prog 25 #[.slice A0 l0.length c0, .pointer (some ⟨b, 0, none⟩), .int .i32 105] w (FreshB w (l0 ++ putB c 12)) := by
  have H := Aside0.mk (And.intro hC (And.intro hc hl))
  obtain ⟨n_si, hn_si⟩ : ∃ n : Nat, c.si = n := Int.eq_ofNat_of_zero_le ho.si.1
  have hle_si := ho.si.2
  have x17 : w.cell? ⟨b, 17, none⟩ = some (.int .i64 n_si) := by rw [← hn_si]; exact cell_of hb 17
  rw [hn_si] at hle_si
  have hput : putB c 12 = beB 1 n_si := by show beB 1 c.si.toNat = _; rw [hn_si]; rfl
  rw [hput]
  obtain ⟨m, hm⟩ : ∃ m, l0 ++ beB 1 n_si = m := ⟨_, rfl⟩
  rw [hm]
  have HM := Aside0.mk hm
  clear hm
  have HOK := Aside0.mk (And.intro ho hb)
  clear hC hc hl hput ho hb hn_si
  go_enter Try.func25, Try.ntmps25
  go_wp2_with fail
  refine (number_calls b 12 _ (by decide) (by decide)).mono ?_
  rintro e w' ⟨rfl, rfl⟩
  rw [show numP b 12 = some ⟨b, 17, none⟩ from rfl]
  go_wp2_with fail
  refine (number_calls b 12 _ (by decide) (by decide)).mono ?_
  rintro e w' ⟨rfl, rfl⟩
  rw [show numP b 12 = some ⟨b, 17, none⟩ from rfl]
  go_wp2_with fail
  refine (Num_at l0.length c0 H.out.1 rfl H.out.2.1 _ n_si rfl (by omega) 1 1 rfl (by have := H.out.2.2; omega) m HM.out).mono ?_
  rintro e w' ⟨A1, c1, rfl, hR, hB⟩
  have HR := Aside0.mk (And.intro hR hB)
  clear hR hB
  go_wp2_with fail
  go_ret
  exact ⟨A1, c1, rfl, HR.out.1, HR.out.2⟩
set_option maxHeartbeats 4000000 in
set_option maxRecDepth 100000 in
theorem put13 (A0 : Option Addr) (c0 : Nat) (l0 : List Int) (b : Nat) (c : Cmd) (w : World) (hC : Kd.C (Kd.int .u8) w A0 l0.length l0) (hc : l0.length ≤ c0) (hl : l0.length + 300 < 140737488355328) (hb : w.heap[b]? = some (.cells (cells c) 28 (0, 0))) (ho : OkC c) :
    Calls Try.prog 25 #[.slice A0 l0.length c0, .pointer (some ⟨b, 0, none⟩), .int .i32 98] w (FreshB w (l0 ++ putB c 13)) := by
  have H := Aside0.mk (And.intro hC (And.intro hc hl))
  obtain ⟨n_ba, hn_ba⟩ : ∃ n : Nat, c.ba = n := Int.eq_ofNat_of_zero_le ho.ba.1
  have hle_ba := ho.ba.2
  have x18 : w.cell? ⟨b, 18, none⟩ = some (.int .i64 n_ba) := by rw [← hn_ba]; exact cell_of hb 18
  rw [hn_ba] at hle_ba
  have hput : putB c 13 = beB 1 n_ba := by show beB 1 c.ba.toNat = _; rw [hn_ba]; rfl
  rw [hput]
  obtain ⟨m, hm⟩ : ∃ m, l0 ++ beB 1 n_ba = m := ⟨_, rfl⟩
  rw [hm]
  have HM := Aside0.mk hm
  clear hm
  have HOK := Aside0.mk (And.intro ho hb)
  clear hC hc hl hput ho hb hn_ba
  go_enter Try.func25, Try.ntmps25
  go_wp2_with fail
  refine (number_calls b 13 _ (by decide) (by decide)).mono ?_
  rintro e w' ⟨rfl, rfl⟩
  rw [show numP b 13 = some ⟨b, 18, none⟩ from rfl]
  go_wp2_with fail
  refine (number_calls b 13 _ (by decide) (by decide)).mono ?_
  rintro e w' ⟨rfl, rfl⟩
  rw [show numP b 13 = some ⟨b, 18, none⟩ from rfl]
  go_wp2_with fail
  refine (Num_at l0.length c0 H.out.1 rfl H.out.2.1 _ n_ba rfl (by omega) 1 1 rfl (by have := H.out.2.2; omega) m HM.out).mono ?_
  rintro e w' ⟨A1, c1, rfl, hR, hB⟩
  have HR := Aside0.mk (And.intro hR hB)
  clear hR hB
  go_wp2_with fail
  go_ret
  exact ⟨A1, c1, rfl, HR.out.1, HR.out.2⟩
set_option maxHeartbeats 4000000 in
set_option maxRecDepth 100000 in
theorem put14 (A0 : Option Addr) (c0 : Nat) (l0 : List Int) (b : Nat) (c : Cmd) (w : World) (hC : Kd.C (Kd.int .u8) w A0 l0.length l0) (hc : l0.length ≤ c0) (hl : l0.length + 300 < 140737488355328) (hb : w.heap[b]? = some (.cells (cells c) 28 (0, 0))) (ho : OkC c) :
    Calls Try.prog 25 #[.slice A0 l0.length c0, .pointer (some ⟨b, 0, none⟩), .int .i32 113] w (FreshB w (l0 ++ putB c 14)) := by
  have H := Aside0.mk (And.intro hC (And.intro hc hl))
  obtain ⟨n_qu, hn_qu⟩ : ∃ n : Nat, c.qu = n := Int.eq_ofNat_of_zero_le ho.qu.1
  have hle_qu := ho.qu.2
  have x19 : w.cell? ⟨b, 19, none⟩ = some (.int .i64 n_qu) := by rw [← hn_qu]; exact cell_of hb 19
  rw [hn_qu] at hle_qu
  have hput : putB c 14 = beB 1 n_qu := by show beB 1 c.qu.toNat = _; rw [hn_qu]; rfl
  rw [hput]
  obtain ⟨m, hm⟩ : ∃ m, l0 ++ beB 1 n_qu = m := ⟨_, rfl⟩
  rw [hm]
  have HM := Aside0.mk hm
  clear hm
  have HOK := Aside0.mk (And.intro ho hb)
  clear hC hc hl hput ho hb hn_qu
  go_enter Try.func25, Try.ntmps25
  go_wp2_with fail
  refine (number_calls b 14 _ (by decide) (by decide)).mono ?_
  rintro e w' ⟨rfl, rfl⟩
  rw [show numP b 14 = some ⟨b, 19, none⟩ from rfl]
  go_wp2_with fail
  refine (number_calls b 14 _ (by decide) (by decide)).mono ?_
  rintro e w' ⟨rfl, rfl⟩
  rw [show numP b 14 = some ⟨b, 19, none⟩ from rfl]
  go_wp2_with fail
  refine (Num_at l0.length c0 H.out.1 rfl H.out.2.1 _ n_qu rfl (by omega) 1 1 rfl (by have := H.out.2.2; omega) m HM.out).mono ?_
  rintro e w' ⟨A1, c1, rfl, hR, hB⟩
  have HR := Aside0.mk (And.intro hR hB)
  clear hR hB
  go_wp2_with fail
  go_ret
  exact ⟨A1, c1, rfl, HR.out.1, HR.out.2⟩
set_option maxHeartbeats 4000000 in
set_option maxRecDepth 100000 in
theorem put15 (A0 : Option Addr) (c0 : Nat) (l0 : List Int) (b : Nat) (c : Cmd) (w : World) (hC : Kd.C (Kd.int .u8) w A0 l0.length l0) (hc : l0.length ≤ c0) (hl : l0.length + 300 < 140737488355328) (hb : w.heap[b]? = some (.cells (cells c) 28 (0, 0))) (ho : OkC c) :
    Calls Try.prog 25 #[.slice A0 l0.length c0, .pointer (some ⟨b, 0, none⟩), .int .i32 107] w (FreshB w (l0 ++ putB c 15)) := by
  have H := Aside0.mk (And.intro hC (And.intro hc hl))
  obtain ⟨n_qt, hn_qt⟩ : ∃ n : Nat, c.qt = n := Int.eq_ofNat_of_zero_le ho.qt.1
  have hle_qt := ho.qt.2
  have x20 : w.cell? ⟨b, 20, none⟩ = some (.int .u64 n_qt) := by rw [← hn_qt]; exact cell_of hb 20
  rw [hn_qt] at hle_qt
  have hput : putB c 15 = beB 8 n_qt := by show beB 8 c.qt.toNat = _; rw [hn_qt]; rfl
  rw [hput]
  obtain ⟨m, hm⟩ : ∃ m, l0 ++ beB 8 n_qt = m := ⟨_, rfl⟩
  rw [hm]
  have HM := Aside0.mk hm
  clear hm
  have HLE_qt := Aside0.mk hle_qt
  clear hle_qt
  have HOK := Aside0.mk (And.intro ho hb)
  clear hC hc hl hput ho hb hn_qt
  go_enter Try.func25, Try.ntmps25
  go_wp2_with fail
  refine (number_calls b 15 _ (by decide) (by decide)).mono ?_
  rintro e w' ⟨rfl, rfl⟩
  rw [show numP b 15 = none from rfl]
  go_wp2_with fail
  refine (amount_calls b 15 _ (by decide) (by decide)).mono ?_
  rintro e w' ⟨rfl, rfl⟩
  rw [show amoP b 15 = some ⟨b, 20, none⟩ from rfl]
  go_wp2_with fail
  refine (amount_calls b 15 _ (by decide) (by decide)).mono ?_
  rintro e w' ⟨rfl, rfl⟩
  rw [show amoP b 15 = some ⟨b, 20, none⟩ from rfl]
  go_wp2_with fail
  refine (Num_at l0.length c0 H.out.1 rfl H.out.2.1 _ n_qt rfl (by have := HLE_qt.out; omega) 8 8 rfl (by have := H.out.2.2; omega) m HM.out).mono ?_
  rintro e w' ⟨A1, c1, rfl, hR, hB⟩
  have HR := Aside0.mk (And.intro hR hB)
  clear hR hB
  go_wp2_with fail
  go_ret
  exact ⟨A1, c1, rfl, HR.out.1, HR.out.2⟩
set_option maxHeartbeats 4000000 in
set_option maxRecDepth 100000 in
theorem put16 (A0 : Option Addr) (c0 : Nat) (l0 : List Int) (b : Nat) (c : Cmd) (w : World) (hC : Kd.C (Kd.int .u8) w A0 l0.length l0) (hc : l0.length ≤ c0) (hl : l0.length + 300 < 140737488355328) (hb : w.heap[b]? = some (.cells (cells c) 28 (0, 0))) (ho : OkC c) :
    Calls Try.prog 25 #[.slice A0 l0.length c0, .pointer (some ⟨b, 0, none⟩), .int .i32 112] w (FreshB w (l0 ++ putB c 16)) := by
  have H := Aside0.mk (And.intro hC (And.intro hc hl))
  obtain ⟨n_pr, hn_pr⟩ : ∃ n : Nat, c.pr = n := Int.eq_ofNat_of_zero_le ho.pr.1
  have hle_pr := ho.pr.2
  have x21 : w.cell? ⟨b, 21, none⟩ = some (.int .u64 n_pr) := by rw [← hn_pr]; exact cell_of hb 21
  rw [hn_pr] at hle_pr
  have hput : putB c 16 = beB 8 n_pr := by show beB 8 c.pr.toNat = _; rw [hn_pr]; rfl
  rw [hput]
  obtain ⟨m, hm⟩ : ∃ m, l0 ++ beB 8 n_pr = m := ⟨_, rfl⟩
  rw [hm]
  have HM := Aside0.mk hm
  clear hm
  have HLE_pr := Aside0.mk hle_pr
  clear hle_pr
  have HOK := Aside0.mk (And.intro ho hb)
  clear hC hc hl hput ho hb hn_pr
  go_enter Try.func25, Try.ntmps25
  go_wp2_with fail
  refine (number_calls b 16 _ (by decide) (by decide)).mono ?_
  rintro e w' ⟨rfl, rfl⟩
  rw [show numP b 16 = none from rfl]
  go_wp2_with fail
  refine (amount_calls b 16 _ (by decide) (by decide)).mono ?_
  rintro e w' ⟨rfl, rfl⟩
  rw [show amoP b 16 = some ⟨b, 21, none⟩ from rfl]
  go_wp2_with fail
  refine (amount_calls b 16 _ (by decide) (by decide)).mono ?_
  rintro e w' ⟨rfl, rfl⟩
  rw [show amoP b 16 = some ⟨b, 21, none⟩ from rfl]
  go_wp2_with fail
  refine (Num_at l0.length c0 H.out.1 rfl H.out.2.1 _ n_pr rfl (by have := HLE_pr.out; omega) 8 8 rfl (by have := H.out.2.2; omega) m HM.out).mono ?_
  rintro e w' ⟨A1, c1, rfl, hR, hB⟩
  have HR := Aside0.mk (And.intro hR hB)
  clear hR hB
  go_wp2_with fail
  go_ret
  exact ⟨A1, c1, rfl, HR.out.1, HR.out.2⟩
theorem put_calls (f : Nat) (h1 : 1 ≤ f) (h2 : f ≤ 16) (A0 : Option Addr) (c0 : Nat) (l0 : List Int) (b : Nat) (c : Cmd) (w : World) (hC : Kd.C (Kd.int .u8) w A0 l0.length l0) (hc : l0.length ≤ c0) (hl : l0.length + 300 < 140737488355328) (hb : w.heap[b]? = some (.cells (cells c) 28 (0, 0))) (ho : OkC c) :
    Calls Try.prog 25 #[.slice A0 l0.length c0, .pointer (some ⟨b, 0, none⟩), .int .i32 (signOf f)] w (FreshB w (l0 ++ putB c f)) := by
  have hf : f = 1 ∨ f = 2 ∨ f = 3 ∨ f = 4 ∨ f = 5 ∨ f = 6 ∨ f = 7 ∨ f = 8 ∨ f = 9 ∨ f = 10 ∨ f = 11 ∨ f = 12 ∨ f = 13 ∨ f = 14 ∨ f = 15 ∨ f = 16 := by omega
  clear h1 h2
  rcases hf with rfl | rfl | rfl | rfl | rfl | rfl | rfl | rfl | rfl | rfl | rfl | rfl | rfl | rfl | rfl | rfl
  · exact put1 A0 c0 l0 b c w hC hc hl hb ho
  · exact put2 A0 c0 l0 b c w hC hc hl hb ho
  · exact put3 A0 c0 l0 b c w hC hc hl hb ho
  · exact put4 A0 c0 l0 b c w hC hc hl hb ho
  · exact put5 A0 c0 l0 b c w hC hc hl hb ho
  · exact put6 A0 c0 l0 b c w hC hc hl hb ho
  · exact put7 A0 c0 l0 b c w hC hc hl hb ho
  · exact put8 A0 c0 l0 b c w hC hc hl hb ho
  · exact put9 A0 c0 l0 b c w hC hc hl hb ho
  · exact put10 A0 c0 l0 b c w hC hc hl hb ho
  · exact put11 A0 c0 l0 b c w hC hc hl hb ho
  · exact put12 A0 c0 l0 b c w hC hc hl hb ho
  · exact put13 A0 c0 l0 b c w hC hc hl hb ho
  · exact put14 A0 c0 l0 b c w hC hc hl hb ho
  · exact put15 A0 c0 l0 b c w hC hc hl hb ho
  · exact put16 A0 c0 l0 b c w hC hc hl hb ho
end Go.Proofs.Ytfaicipochceeaa.Giv
