/- What must come of fixed calls of the package line. -/
import Derived.Test.YtkfninhbbcfdcaaGLine3
namespace Go.Proofs.Ytkfninhbbcfdcaa.Giv
open Go.RowKit Go.Proofs.YtkfninhbbcfdcaaW.PrintWords Go.Proofs.YtkfninhbbcfdcaaW.PrintLast Go.Proofs.YtkfninhbbcfdcaaW.PrintMore Go.Proofs.Ytkfninhbbcfdcaa.PReplyTells
set_option linter.unusedVariables false
set_option linter.unusedSimpArgs false

def uSaid : Value := .agg #[.int .i64 2, .int .i64 0, .int .i64 0, .slice none 0 0]
def uFail : Value := .agg #[.int .i64 5, .int .i64 0, .int .i64 14, .slice none 0 0]
def xs8 : List S49 := List.replicate 7 ⟨2, 0, 0, []⟩ ++ [⟨5, 0, 14, []⟩]
theorem OutV_none (w : World) (a b c : Int) : OutV w ⟨a, b, c, []⟩ (.agg #[.int .i64 a, .int .i64 b, .int .i64 c, .slice none 0 0]) := ⟨none, 0, rfl, Nat.le_refl _, Kd.C_nil _ _⟩
theorem xs8_q (w : World) : QR w xs8 (List.replicate 7 uSaid ++ [.agg #[.int .i64 5, .int .i64 0, .int .i64 14, .slice none 0 0]]) := by
  have h1 := OutV_none w 2 0 0
  have h2 := OutV_none w 5 0 14
  exact ⟨h1, h1, h1, h1, h1, h1, h1, h2, trivial⟩
theorem New_k (w : World) : Calls Try.prog 21 #[] w fun e w' => ∃ g c, e = .returned (.pointer (some ⟨g, 0, none⟩)) ∧ w.heap.size ≤ g ∧ w.heap.size ≤ c ∧ LnS w' w.heap.size g c (.slice none 0 0) [] false [] ∧ Below w.heap.size w w' := by
  refine (New_calls w).mono ?_
  rintro e w' ⟨rfl, h, hb⟩
  exact ⟨_, _, rfl, by omega, Nat.le_refl _, h, hb⟩
theorem wr_ab60 : wrapB [97, 98] 60 = [2, 97, 98, 147, 91] ∧ wrapE [97, 98] 60 = 0 := by decide +kernel
theorem tk_2 : tk [2, 97] 60 = ([], 0, 12) := by decide +kernel
theorem tk_5 : tk [2, 97, 98, 147, 91] 60 = ([97, 98], ((5 : Nat) : Int), 0) := by decide +kernel

set_option maxHeartbeats 8000000 in
set_option maxRecDepth 100000 in
theorem alive35_calls (w : World) : Calls Try.prog 34 #[] w fun e w' => e = .returned (.bool true) ∧ Below w.heap.size w w' := by
  have kc := fun (w : World) (C : Array Value) (n c : Nat) => Lib.run_convert_bytes_const (P := Try.prog) w 22 5 C n c Try.underlying22 Try.underlying5
  go_enter Try.func34, Try.ntmps34
  go_wp2_with fail
  refine (New_k w).mono ?_
  rintro e w1 ⟨g, c, rfl, hg, hc, h1, hb1⟩
  have H1 := Aside0.mk h1
  have HB1 := Aside0.mk hb1
  have HG := Aside0.mk (And.intro hg hc)
  clear hg hc h1 hb1
  go_wp2_with fail
  refine (wrap_at (l := [97, 98]) 2 _ (C_new [97, 98] rfl (by decide)) rfl (by decide) ab_ok 60 [2, 97, 98, 147, 91] 0 wr_ab60).mono ?_
  rintro e w2 ⟨A1, c1, rfl, hR1, hB1⟩
  have hb2 := below_step (below_alloc (Below.refl w1.heap.size w1) _) hB1
  have hLK := LnK.start (H1.out.below hb2)
  have HLT := Aside0.mk H1.out.lt
  have HRF := Aside0.mk (Kd.R_mono (ok' := fun k => ¬ lineB g c (.slice none 0 0) k) (Kd.R_bound hR1) (fun k hk e => by
    have h2 := hk.2.1
    have h3 := HLT.out
    simp only [World.size_alloc] at h2
    rcases e with e | e | e
    · omega
    · omega
    · cases e))
  have hc5 : 5 ≤ c1 := (Kd.R_reads' hR1).2.1
  obtain ⟨gf, cf, ef, _⟩ := Kd.R_form hR1 (by decide)
  injection ef with e1 _ e3
  subst e1
  rw [e3] at hc5
  have HB2 := Aside0.mk (below_step HB1.out hb2)
  have HLK := Aside0.mk hLK
  clear hR1 hB1 hb2 hLK H1 HB1 HLT
  go_wp2_with fail
  have hC2 : Kd.C (Kd.int .u8) w2 (some ⟨gf, 0, none⟩) 2 [2, 97] := C_take1 (xs := [2, 97, 98, 147, 91]) (m := 2) (HLK.out.C_own HRF.out (fun k hk => hk)) (by decide)
  have hcf : 2 ≤ cf := by omega
  refine (Feed_k HLK.out (Nat.zero_le _) (some ⟨gf, 0, none⟩) 2 cf [2, 97] hC2 rfl hcf 0 rfl [2, 97] rfl false rfl).mono ?_
  rintro e w3 ⟨v3, rfl, h3⟩
  have H3 := Aside0.mk h3
  clear HLK h3
  go_wp2_with fail
  refine (Holds_at H3.out.ln).mono ?_
  rintro e w' ⟨rfl, rfl⟩
  go_wp2_with fail
  refine (NextS_k H3.out (by unfold bytesOk; decide) [] 0 tk_2).mono ?_
  rintro e w4 ⟨rfl, h4⟩
  have H4 := Aside0.mk h4
  clear H3 h4
  go_wp2_with fail
  have hC3 : Kd.C (Kd.int .u8) w4 (some ⟨gf, 2, none⟩) 3 [98, 147, 91] := by
    have h := C_drop1 (xs := [2, 97, 98, 147, 91]) (m := 2) (c := cf) (H4.out.C_own HRF.out (fun k hk => hk)) (by decide) (by simpa using hc5)
    rw [if_neg (by omega)] at h
    exact h
  have hcf3 : 3 ≤ cf - 2 := by omega
  refine (Feed_k H4.out (show 2 ≤ 256 by omega) (some ⟨gf, 2, none⟩) 3 (cf - 2) [98, 147, 91] hC3 rfl hcf3 0 rfl [2, 97, 98, 147, 91] rfl false rfl).mono ?_
  rintro e w5 ⟨v5, rfl, h5⟩
  have H5 := Aside0.mk h5
  clear H4 h5 hC3 hcf3 hC2 hcf HRF
  go_wp2_with fail
  have hok5 : bytesOk [2, 97, 98, 147, 91] := by unfold bytesOk; decide
  refine (NextF_k H5.out (show 5 ≤ 256 by omega) hok5 [97, 98] 5 0 tk_5 (by decide) (Nat.le_refl 5) [] rfl).mono ?_
  rintro e w6 ⟨Ax, cx, v6, rfl, hRb, h6⟩
  have HLT6 := Aside0.mk h6.ln.lt
  have HB6 := Aside0.mk (h6.keep.below HB2.out (fun k hk => by
    have := HG.out
    rcases hk with e | e | e
    · omega
    · omega
    · cases e))
  have HRB := Aside0.mk hRb
  have HV6 := Aside0.mk (Kd.R_base h6.ln.row)
  have H6 := Aside0.mk (LnK.start h6.ln)
  clear H5 hRb h6 HB2 hok5
  go_wp2_with (first
    | ((with_reducible refine gate_dst (N := 61) rfl ?_); refine Kd.R_make (Kd.int .u8) (w0 := w6) w6.heap.size 5 rfl (N := 61) rfl 22 (.const (.int .i64 300)) (.const (.int .i64 300)) rfl 300 rfl rfl Try.underlying22 (.int .u8 0) 1 info5 rfl (by decide) (by decide) 0 (ok := fun _ => True) (okp := fun _ => True) rfl (fun _ h => h) trivial (by omega) (by decide) (Below.refl _ _) (Nat.le_refl _) ?_; intro v61 w7 ho hb hg hnew; obtain ⟨zs, hz⟩ : ∃ zs, List.replicate (300 : Int).toNat (0 : Int) = zs := ⟨_, rfl⟩; rw [hz] at ho; have HZ := Aside0.mk hz; have HB7 := Aside0.mk hb; obtain ⟨A61, c61, e61⟩ := Kd.R_slice ho; subst e61; have HO := Aside0.mk ho; clear ho hb hg hnew hz)
    | fail)
  have hzl : zs.length = 300 := by rw [← HZ.out]; rfl
  obtain ⟨y8, hy8⟩ : ∃ y, ([] : List Int) ++ zs.take (256 - ([] : List Int).length) = y := ⟨_, rfl⟩
  have HRO := Aside0.mk (Kd.R_reads' HO.out)
  refine (Feed_k (H6.out.below HB7.out) (Nat.zero_le _) A61 zs.length c61 zs HRO.out.2.2 rfl HRO.out.2.1 44 (by rw [hzl]; rfl) y8 hy8 true rfl).mono ?_
  rintro e w8 ⟨v8, rfl, h8⟩
  have H8 := Aside0.mk h8
  clear h8 H6 HRO HO hy8 hzl HZ HB7
  go_wp2_with fail
  refine (NextO_k H8.out).mono ?_
  rintro e w9 ⟨rfl, h9⟩
  have H9 := Aside0.mk h9
  clear h9 H8
  go_wp2_with fail
  go_loopg [14] 7 (fun kq v14 w' => ∃ (j : Nat), v14 = .int .i64 j ∧ j + kq = 7 ∧ Aside0 (LnK (lineB g c v6) w6 w' w.heap.size g c (.slice none 0 0) [] false (List.replicate j uSaid)))
  case atStart => exact ⟨0, rfl, by omega, H9⟩
  case round =>
    obtain ⟨j, rfl, hj, HL⟩ := hrel
    clear H9
    cases gk with
    | succ gk =>
      have hlt : (j : Int) < 7 := by omega
      have HJ := Aside0.mk hj
      clear hj
      go_wp2_with fail
      refine (TellY_k HL.out 2 0 0 (.slice none 0 0) ⟨_, _, _, rfl⟩ (by rw [List.length_replicate]; omega) (fun _ => by rw [List.length_replicate]; omega)).mono ?_
      rintro e w10 ⟨rfl, h10⟩
      rw [show List.replicate j uSaid ++ [.agg #[.int .i64 2, .int .i64 0, .int .i64 0, .slice none 0 0]] = List.replicate (j + 1) uSaid by rw [List.replicate_succ']; rfl] at h10
      have H10 := Aside0.mk h10
      clear h10 HL
      go_wp2_with fail
      go_roundg gk
      case measure => omega
      case rel => exact ⟨j + 1, by rfl, by have := HJ.out; omega, H10⟩
    | zero =>
      obtain rfl : j = 7 := by omega
      clear hj
      go_wp2_with fail
      refine (TellN_k HL.out 2 0 0 (.slice none 0 0) ⟨_, _, _, rfl⟩ (by rw [if_pos (by decide)]; simp)).mono ?_
      rintro e w10 ⟨rfl, h10⟩
      have H10 := Aside0.mk h10
      clear h10 HL
      go_wp2_with fail
      refine (TellY_k H10.out 5 0 14 (.slice none 0 0) ⟨_, _, _, rfl⟩ (by simp) (fun h => by cases h)).mono ?_
      rintro e w11 ⟨rfl, h11⟩
      have H11 := Aside0.mk h11
      clear h11 H10
      go_wp2_with fail
      refine (TellN_k H11.out 1 3 0 (.slice none 0 0) ⟨_, _, _, rfl⟩ (by rw [if_neg (by decide)]; simp)).mono ?_
      rintro e w12 ⟨rfl, h12⟩
      have H12 := Aside0.mk h12
      clear h12 H11
      go_wp2_with fail
      refine (Release_k H12.out w6 xs8 (xs8_q w6) 10 8 rfl (by decide)).mono ?_
      rintro e w13 ⟨A13, m13, rfl, hR, h13⟩
      rw [show (xs8.take 8).length = 8 from rfl]
      have H13 := Aside0.mk h13
      rw [show (List.replicate 7 uSaid ++ [(.agg #[.int .i64 5, .int .i64 0, .int .i64 14, .slice none 0 0] : Value)]).drop 8 = [] from rfl] at H13
      clear h13 H12 hR
      have hs := Kd.C_string (P := Try.prog) (c := cx) (n := 2) Try.underlying22 Try.underlying5 Try.underlying9 (H13.out.C_own HRB.out (fun k hk => hk))
      rw [show strOfNums [97, 98] = (ByteArray.mk #[97, 98]) from by decide +kernel] at hs
      go_wp2_with fail
      refine (Next_nil _).mono ?_
      rintro e w' ⟨rfl, rfl⟩
      go_wp2_with fail
      refine (Holds_at H13.out.ln).mono ?_
      rintro e w' ⟨rfl, rfl⟩
      go_wp2_with fail
      refine (Waits_at H13.out.ln).mono ?_
      rintro e w' ⟨rfl, rfl⟩
      go_wp2_with fail
      refine (Feed_nil _ _ _ _).mono ?_
      rintro e w' ⟨rfl, rfl⟩
      go_wp2_with fail
      refine (Tell_nil _ _ _ _ _ _ _).mono ?_
      rintro e w14 ⟨rfl, hb14⟩
      have HB14 := Aside0.mk (below_step (H13.out.keep.below HB6.out (fun k hk => by
        have := HG.out
        rcases hk with e | e | e
        · omega
        · omega
        · exact HV6.out k e.symm)) hb14)
      have H14 := Aside0.mk (H13.out.below hb14)
      clear hb14 H13 hs
      go_wp2_with fail
      refine (Made_nil _).mono ?_
      rintro e w' ⟨rfl, rfl⟩
      go_wp2_with fail
      refine (Made_at H14.out.ln).mono ?_
      rintro e w' ⟨rfl, rfl⟩
      go_wp2_with fail
      refine (Release_nil _ _).mono ?_
      rintro e w' ⟨rfl, rfl⟩
      go_wp2_with fail
      go_ret
      exact ⟨rfl, HB14.out⟩
end Go.Proofs.Ytkfninhbbcfdcaa.Giv
