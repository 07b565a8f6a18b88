/- The law FrameBack: what its text comes to. -/
import Derived.Test.YtkfninhbbcfdcaaGAllS
import Derived.Test.YtkfninhbbcfdcaaGPl
namespace Go.Proofs.Ytkfninhbbcfdcaa.Giv
open Go.RowKit Go.Proofs.YtkfninhbbcfdcaaW.PrintWords Go.Proofs.YtkfninhbbcfdcaaW.PrintLast Go.Proofs.YtkfninhbbcfdcaaW.PrintMore
set_option linter.unusedVariables false
set_option linter.unusedSimpArgs false

theorem info3 : (Try.prog.info? 3).map (fun i => (i.zero, i.size, i.bytes)) = some (some (.int .i64 0), 1, 8) := by kernel_rfl
/-- A list of bytes' slices that came in, held in rows of the call's own. -/
def FX (w : World) : Kd (List Int) := Kd.fixed (Kd.slice 5 (Kd.int .u8)) w
theorem FX_C {w0 w : World} {A : Option Addr} {n : Nat} {xs : List (List Int)} (h : (FX w0).C w A n xs) (hb : Below w0.heap.size w0 w) : Kd.C (Kd.slice 5 (Kd.int .u8)) w A n xs :=
  ReadsRow.imp_ h (Below.refl _ _) (fun _ _ hp => (Kd.slice 5 (Kd.int .u8)).K_below hb hp)
abbrev AllT : Nat → Prop := fun _ => True
theorem ne_ty {a b : Nat} (h : a ≠ b) : ∀ q, q ∈ [a] → q ≠ b := fun q hq => by rw [List.mem_singleton.1 hq]; exact h

set_option maxHeartbeats 16000000 in
set_option maxRecDepth 100000 in
theorem frameBack_law (A0 : Option Addr) (c0 : Nat) (l : List (List Int)) (cut : Int) (w : World) (hr0 : Kd.C (Kd.slice 5 (Kd.int .u8)) w A0 l.length l) (hc0 : l.length ≤ c0) (hb0 : ∀ x ∈ l, bytesOk x) :
    Calls Try.prog 4 #[.slice A0 l.length c0, .int .i64 cut] w fun e w' => e = .returned (.bool true) ∧ Below w.heap.size w w' := by
  have hlen : (l.length : Int) ≤ 9223372036854775807 := by have := hr0.2.1; omega
  have H0 := Aside0.mk (And.intro hr0 (And.intro hc0 hb0))
  clear hr0 hc0 hb0
  obtain ⟨N, hN⟩ : ∃ N, min l.length 20 = N := ⟨_, rfl⟩
  have HN : Aside0 (N ≤ l.length ∧ N ≤ 20 ∧ (N = l.length ∨ N = 20)) := ⟨by omega⟩
  clear hN
  go_enter Try.func4, Try.ntmps4
  go_wp2_with fail
  go_loopg [5, 6, 7, 8] N (fun kq v5 v6 v7 v8 w' => ∃ (p : Nat), v8 = .int .i64 p ∧ p + kq = N ∧ Aside0 (Kd.R (Kd.int .u8) 5 w' w.heap.size AllT v5 (framesB (keepL l p))) ∧ Aside0 (Kd.R (Kd.int .i64) 3 w' w.heap.size AllT v6 (endsL (keepL l p))) ∧ Aside0 (Kd.R (FX w) 22 w' w.heap.size AllT v7 (keepL l p)) ∧ Aside0 (Below w.heap.size w w'))
  case atStart => exact ⟨0, rfl, by omega, ⟨Kd.R_nil _ _ _ _ _⟩, ⟨Kd.R_nil _ _ _ _ _⟩, ⟨Kd.R_nil _ _ _ _ _⟩, ⟨Below.refl _ _⟩⟩
  case round =>
    obtain ⟨p, rfl, hp, H5, H6, H7, HB⟩ := hrel
    obtain ⟨A5, c5, e5⟩ := Kd.R_slice H5.out
    obtain ⟨A6, c6, e6⟩ := Kd.R_slice H6.out
    obtain ⟨A7, c7, e7⟩ := Kd.R_slice H7.out
    subst e5 e6 e7
    obtain ⟨K, hK⟩ : ∃ K, keepL l p = K := ⟨_, rfl⟩
    rw [hK] at H5 H6 H7
    rw [hK]
    have HKL : Aside0 (K.length ≤ 20 ∧ (∀ x ∈ K, x.length ≤ 255) ∧ (∀ x ∈ K, bytesOk x)) := ⟨by rw [← hK]; exact ⟨by have := keepL_le l p; have := HN.out; omega, fun x hx => (keepL_mem hx).2, fun x hx => H0.out.2.2 x (keepL_mem hx).1⟩⟩
    have HK := Aside0.mk hK
    clear hK
    obtain ⟨b, hb⟩ : ∃ b, framesB K = b := ⟨_, rfl⟩
    obtain ⟨en, hen⟩ : ∃ b, endsL K = b := ⟨_, rfl⟩
    rw [hb] at H5
    rw [hen] at H6
    rw [hb, hen]
    have HBE := Aside0.mk (And.intro hb hen)
    clear hb hen
    cases gk with
    | zero =>
      have hz : p = l.length ∨ p = 20 ∧ (20 : Int) < l.length := by have := HN.out; omega
      have HALL : Aside0 (frame_All.f b 255 = some (K, 0)) := ⟨by
        unfold frame_All.f
        have h1 := framesB_le K HKL.out.2.1
        have h2 := HKL.out.1
        have h3 := HN.out
        have h4 := all_kept HKL.out.2.1
        have h5 : bytesOk (framesB K) := framesB_ok HKL.out.2.2
        rw [HBE.out.1] at h1 h4 h5
        rw [if_pos ⟨h5, by omega⟩, h4]⟩
      rcases hz with hz | ⟨hz, h20⟩
      all_goals
        subst hz
        clear hp
        go_wp2_with fail
        refine (frame_All.calls A5 c5 b 255 K 0 _ (Kd.R_reads' H5.out).2.2 (Kd.R_reads' H5.out).2.1 HALL.out).mono ?_
        rintro e w1 ⟨v1, rfl, hR1, hB1⟩
        obtain ⟨B1, d1, e1⟩ := Kd.R_slice hR1
        subst e1
        have n5 := Aside0.mk (Kd.R_below H5.out hB1)
        have n6 := Aside0.mk (Kd.R_below H6.out hB1)
        have n7 := Aside0.mk (Kd.R_below H7.out hB1)
        have nB := Aside0.mk (below_step HB.out hB1)
        have nC := Aside0.mk (Kd.R_reads' hR1).2.2
        clear H5 H6 H7 HB hR1 hB1
        go_wp2_with fail
        refine (Same_calls B1 d1 K A7 c7 _ nC.out (FX_C (Kd.R_reads' n7.out).2.2 nB.out)).mono ?_
        rintro e w2 ⟨rfl, hB2⟩
        have m5 := Aside0.mk (Kd.C_below (Kd.R_reads' n5.out).2.2 hB2)
        have m6 := Aside0.mk (Kd.C_below (Kd.R_reads' n6.out).2.2 hB2)
        have m7 := Aside0.mk (Kd.C_below (FX_C (Kd.R_reads' n7.out).2.2 nB.out) hB2)
        have mc := Aside0.mk (Kd.R_reads' n5.out).2.1
        have mB := Aside0.mk (below_step nB.out hB2)
        clear n5 n6 n7 nB hB2 nC
        have hcut : cut < 0 ∨ (0 ≤ cut ∧ (b.length : Int) ≤ cut) ∨ ∃ m : Nat, cut = m ∧ (m : Int) < b.length := by
          by_cases h1 : cut < 0
          · exact .inl h1
          · by_cases h2 : (b.length : Int) ≤ cut
            · exact .inr (.inl ⟨by omega, h2⟩)
            · exact .inr (.inr ⟨cut.toNat, by omega, by omega⟩)
        rcases hcut with hcut | ⟨hc1, hc2⟩ | ⟨m, rfl, hm⟩
        · go_wp2_with fail
          refine (alive_calls _).mono ?_
          rintro e w3 ⟨rfl, hB3⟩
          have kB := Aside0.mk (below_step mB.out hB3)
          clear hB3
          go_wp2_with fail
          go_ret
          exact ⟨rfl, kB.out⟩
        · go_wp2_with fail
          refine (alive_calls _).mono ?_
          rintro e w3 ⟨rfl, hB3⟩
          have kB := Aside0.mk (below_step mB.out hB3)
          clear hB3
          go_wp2_with fail
          go_ret
          exact ⟨rfl, kB.out⟩
        · have hm0 : (0 : Int) ≤ m := by omega
          have hdm : ¬ b.length ≤ m := by omega
          have hdd : decide (b.length ≤ m) = false := decide_eq_false hdm
          have hdz : decide ((m : Int) < 0) = false := decide_eq_false (by omega)
          go_wp2_with fail
          go_loopg [13, 14] K.length (fun kq v13 v14 w' => ∃ (i at_ : Nat), v13 = .int .i64 at_ ∧ v14 = .int .i64 i ∧ i + kq = K.length ∧ Aside0 (at_ = (framesB (K.take i)).length) ∧ at_ ≤ m ∧ Aside0 (Below w2.heap.size w2 w'))
          case atStart => exact ⟨0, 0, rfl, rfl, by omega, ⟨by simp [framesB]⟩, by omega, ⟨Below.refl _ _⟩⟩
          case round =>
            obtain ⟨i, at_, rfl, rfl, hi, HAT, ham, HB⟩ := hrel
            cases gk with
            | zero =>
              exfalso
              have e0 : i = K.length := by omega
              subst e0
              have h1 := HAT.out
              rw [List.take_length, HBE.out.1] at h1
              omega
            | succ k =>
              have hiK : i < K.length := by omega
              obtain ⟨x, hx⟩ : ∃ x, rdL K i = x := ⟨_, rfl⟩
              have hxl : x.length ≤ 255 := by rw [← hx]; exact HKL.out.2.1 _ (rdL_mem hiK)
              have he1 : ((framesB (K.take (i + 1))).length : Int) = (at_ : Int) + ((x.length : Int) + 3) := by
                have h1 := congrArg List.length (framesB_take_succ hiK)
                rw [List.length_append, ← HAT.out, frameB_length, hx] at h1
                omega
              have hac : at_ < c5 := by have := mc.out; omega
              have hmc : m ≤ c5 := by have := mc.out; omega
              have hlo : (0 : Int) ≤ at_ := by omega
              have hmid := Kd.C_mid (lo := at_) (hi := m) m5.out ham (by omega) mc.out
              rw [if_neg (by omega)] at hmid
              obtain ⟨ad5, rfl, hz5⟩ := Kd.at_int m5.out 0 (by omega) (by omega)
              obtain ⟨s, hs⟩ : ∃ s, (b.take m).drop at_ = s := ⟨_, rfl⟩
              have hsl : s.length = m - at_ := by rw [← hs, List.length_drop, List.length_take]; omega
              rw [hs] at hmid
              replace hmid : Kd.C (Kd.int .u8) w2 (some (ad5.add at_)) s.length s := by simpa [Kd.int, Kd.scalar] using hmid
              have hsb : bytesOk s := by
                rw [← hs, ← HBE.out.1]
                exact fun y hy => framesB_ok HKL.out.2.2 y (List.mem_of_mem_take (List.mem_of_mem_drop hy))
              have HS := Aside0.mk (And.intro hmid (And.intro hsl (And.intro hsb hs)))
              obtain ⟨ad6, rfl, hy⟩ := Kd.at_int (Kd.C_below m6.out HB.out) i (by omega) (by have := congrArg List.length HBE.out.2; rw [endsL_len] at this; omega)
              rw [Int.toNat_natCast, ← HBE.out.2, rd_endsL hiK, he1] at hy
              have henl : (i : Int) < en.length := by have := congrArg List.length HBE.out.2; rw [endsL_len] at this; omega
              have hi0 : (0 : Int) ≤ i := by omega
              have hi20 : (i : Int) ≤ 20 := by have := HKL.out.1; omega
              have HI := Aside0.mk hi
              have HX := Aside0.mk (And.intro hx (And.intro hxl he1))
              clear hmid hsl hsb hs hx hxl hi hz5 he1
              have hmx : (at_ : Int) ≤ 9223372036854775000 ∧ (b.length : Int) ≤ 9223372036854775807 := ⟨by have h1 := framesB_le K HKL.out.2.1; have := HKL.out.1; rw [HBE.out.1] at h1; omega, by have := m5.out.2.1; omega⟩
              have HMX := Aside0.mk hmx
              clear hmx
              by_cases hle : (at_ : Int) + ((x.length : Int) + 3) ≤ m
              · have htk : tk s 255 = (x, (x.length : Int) + 3, 0) := by
                  have h := mid_ok (K := K) (i := i) (m := m) hiK (by have := HX.out.2.2; omega) (by rw [HX.out.1]; exact HX.out.2.1)
                  rw [← HAT.out, HBE.out.1, HS.out.2.2.2, HX.out.1] at h
                  exact h
                have HTK := Aside0.mk htk
                obtain ⟨ad7, B7, d7, rfl, hz0, hd7, hC7⟩ := at_L m7.out i (by omega) (by omega)
                rw [HX.out.1] at hz0 hd7 hC7
                rw [Int.toNat_natCast] at hz0
                have HZ := Aside0.mk (And.intro hz0 hC7)
                clear htk hz0 hC7
                go_wp2_with fail
                refine (take_at (m - at_) (c5 - at_) (Kd.C_below (HS.out.2.1 ▸ HS.out.1) HB.out) HS.out.2.1.symm (by omega) HS.out.2.2.1 255 x (x.length + 3) 0 HTK.out).mono ?_
                rintro e w3 ⟨B3, d3, rfl, hR3, hB3⟩
                have K3 := Aside0.mk (below_step HB.out hB3)
                have R3 := Aside0.mk (Kd.R_reads' hR3).2.2
                have HY := Aside0.mk (pw_cell_below hB3 hy)
                clear hR3 hB3 hy HB
                have s0 := fun (W' : World) (h_ : Below w3.heap.size w3 W') => Kd.C_string (P := Try.prog) (A := B3) (c := d3) Try.underlying22 Try.underlying5 Try.underlying9 (Kd.C_below R3.out h_)
                have s1 := fun (W' : World) (h_ : Below w3.heap.size w3 W') => Kd.C_string (P := Try.prog) (A := B7) (c := d7) Try.underlying22 Try.underlying5 Try.underlying9 (Kd.C_below HZ.out.2 (below_step K3.out h_))
                have q0 := fun (W' : World) (h_ : Below w3.heap.size w3 W') => pw_cell_below h_ HY.out
                have q1 := fun (W' : World) (h_ : Below w3.heap.size w3 W') => pw_cell_below (below_step K3.out h_) HZ.out.1
                have hwr : IntKind.i64.wrap ((at_ : Int) + ((x.length : Int) + 3)) = (at_ : Int) + ((x.length : Int) + 3) := by rw [IntKind.wrap_i64]; have := HMX.out; have := HX.out.2.1; omega
                go_wp2_with fail
                go_region_held3 (fun w' => Below w3.heap.size w3 w') (first | assumption | exact Below.refl _ _ | exact below_step (by assumption) (by assumption) | exact below_step (by assumption) (Drawn0.below (by assumption)) | exact below_drew (by assumption) | exact below_drew (Below.refl _ _)) (fail)
                rename_i hHeld
                have hy4 := pw_cell_below hHeld HY.out
                have K4 := Aside0.mk (below_step K3.out hHeld)
                clear hHeld s0 s1 q0 q1 hwr
                go_wp2_with fail
                go_roundg k
                case measure => omega
                case rel => exact ⟨i + 1, at_ + (x.length + 3), by go_num, by rfl, by have := HI.out; omega, ⟨by have := HX.out.2.2; omega⟩, by omega, K4⟩
              · have htk : tk s 255 = ([], 0, 12) := by
                  have h := mid_short (K := K) (i := i) (m := m) hiK (by rw [← HAT.out]; exact ham) (by have := HX.out.2.2; omega) (by rw [HX.out.1]; exact HX.out.2.1)
                  rw [← HAT.out, HBE.out.1, HS.out.2.2.2] at h
                  exact h
                have HTK := Aside0.mk htk
                clear htk
                go_wp2_with fail
                refine (take_at (m - at_) (c5 - at_) (Kd.C_below (HS.out.2.1 ▸ HS.out.1) HB.out) HS.out.2.1.symm (by omega) HS.out.2.2.1 255 [] 0 12 HTK.out).mono ?_
                rintro e w3 ⟨B3, d3, rfl, hR3, hB3⟩
                have K3 := Aside0.mk (below_step mB.out (below_step HB.out hB3))
                clear hR3 hB3 hy HB
                go_wp2_with fail
                refine (alive_calls _).mono ?_
                rintro e w4 ⟨rfl, hB4⟩
                have K4 := Aside0.mk (below_step K3.out hB4)
                clear hB4
                go_wp2_with fail
                go_ret
                exact ⟨rfl, K4.out⟩
    | succ k =>
      have hlt : (p : Int) < l.length := by have := HN.out; omega
      have hlt2 : (p : Int) < 20 := by have := HN.out; omega
      obtain ⟨ad, B0, d0, rfl, hx0, hd0, hC0⟩ := at_L H0.out.1 p (by omega) hlt
      obtain ⟨x, hx⟩ : ∃ x, rdL l p = x := ⟨_, rfl⟩
      have hxb : bytesOk x := by rw [← hx]; exact H0.out.2.2 _ (rdL_mem (by omega))
      rw [hx] at hx0 hd0 hC0
      rw [Int.toNat_natCast] at hx0
      have HX := Aside0.mk (And.intro hx (And.intro hxb hC0))
      have HXC := Aside0.mk hx0
      have hxr := pw_cell_below HB.out hx0
      clear hx hxb hC0 hx0
      by_cases hxl : x.length ≤ 255
      · have hw : wrapB x 255 = frameB x ∧ wrapE x 255 = 0 := ⟨if_neg (show ¬ _ > (255 : Int) by omega), if_neg (show ¬ _ > (255 : Int) by omega)⟩
        obtain ⟨f, hf⟩ : ∃ f, frameB x = f := ⟨_, rfl⟩
        rw [hf] at hw
        obtain ⟨b2, hb2⟩ : ∃ b2, b ++ f = b2 := ⟨_, rfl⟩
        have HW := Aside0.mk hw
        have HKS : Aside0 (keepL l (p + 1) = K ++ [x] ∧ framesB (K ++ [x]) = b2 ∧ endsL (K ++ [x]) = en ++ [(b2.length : Int)]) := ⟨by
          have e1 : framesB (K ++ [x]) = b2 := by rw [framesB_append, HBE.out.1, ← hb2, ← hf]; simp [framesB]
          refine ⟨by rw [← HK.out, ← HX.out.1]; exact keepL_yes (by omega) (by rw [HX.out.1]; exact hxl), e1, ?_⟩
          rw [endsL_snoc, e1, HBE.out.2]⟩
        have HL : Aside0 (b.length + f.length ≤ 6000 ∧ en.length ≤ 20 ∧ K.length ≤ 20) := ⟨by
          have h1 := framesB_le K HKL.out.2.1
          rw [HBE.out.1] at h1
          have h2 := congrArg List.length HBE.out.2
          rw [endsL_len] at h2
          have h3 := congrArg List.length hf
          rw [frameB_length] at h3
          have := HKL.out.1
          have := HN.out
          omega⟩
        have HB2 := Aside0.mk hb2
        clear hw hf hxl hb2
        go_wp2_with fail
        refine (wrap_at _ d0 (Kd.C_below HX.out.2.2 HB.out) rfl hd0 HX.out.2.1 255 f 0 HW.out).mono ?_
        rintro e w1 ⟨B1, d1, rfl, hR1, hB1⟩
        have n5 := Aside0.mk (Kd.R_below H5.out hB1)
        have n6 := Aside0.mk (Kd.R_below H6.out hB1)
        have n7 := Aside0.mk (Kd.R_below H7.out hB1)
        have nB := Aside0.mk (below_step HB.out hB1)
        have HC1 := Aside0.mk (Kd.R_reads' hR1).2.2
        clear H5 H6 H7 HB hR1 hB1 hxr
        go_wp2_with (first
          | ((with_reducible refine gate_builtin (b := .append) (xs := #[.tmp 47, .tmp 48]) rfl ?_); at_builtin; refine Kd.R_append_rows (Kd.int .u8) (w0 := w) w.heap.size rfl (.tmp 47) (.tmp 48) 22 5 (.int .u8 0) 1 rfl Try.underlying22 info5 rfl (by decide) (by omega) (.slice A5 b.length c5) b f _ _ _ AllT (fun _ => False) rfl rfl ?aO ?aR (fun _ _ h => h) (fun _ h => h.elim) ?aF ?aB ?aS ?aL ?_; (case aR => exact HC1.out); (case aB => exact nB.out); (case aF => exact (fun _ _ => trivial)); (case aO => exact n5.out); (case aS => exact (below_size nB.out)); (case aL => have := HL.out; omega); intro v49 w49 ho hb hg hat; rw [HB2.out] at ho; have m6 := Aside0.mk (Kd.R_over n6.out n5.out (ne_ty (by decide)) hg); have m7 := Aside0.mk (Kd.R_over n7.out n5.out (ne_ty (by decide)) hg); have m5 := Aside0.mk ho; have mB := Aside0.mk hb; clear n5 n6 n7 nB ho hb hg hat; obtain ⟨A5', c5', e5⟩ := Kd.R_slice m5.out; subst e5)
          | ((with_reducible refine gate_builtin (b := .append) (xs := #[.tmp 50, .tmp 53]) rfl ?_); at_builtin; refine Kd.R_append (Kd.int .i64) (w0 := w) w.heap.size rfl (.tmp 50) (.tmp 53) 34 3 (.int .i64 0) 8 rfl Try.underlying34 info3 rfl (by decide) (by decide) (.slice A6 en.length c6) en (b2.length : Int) [.int .i64 (b2.length : Int)] AllT (fun k => some k ≠ (.slice A6 en.length c6 : Value).ownBlock) rfl rfl rfl (fun k hk => ⟨trivial, hk⟩) (fun _ _ => trivial) m6.out mB.out mB.out.size ?aL ?_; (case aL => have := HL.out; omega); intro v54 w54 ho hb hg hat; have p5 := Aside0.mk (Kd.R_over m5.out m6.out (ne_ty (by decide)) hg); have p7 := Aside0.mk (Kd.R_over m7.out m6.out (ne_ty (by decide)) hg); have p6 := Aside0.mk ho; have pB := Aside0.mk hb; have hx54 := pw_cell_below pB.out HXC.out; clear m5 m6 m7 mB ho hb hg hat)
          | ((with_reducible refine gate_builtin (b := .append) (xs := #[.tmp 55, .tmp 60]) rfl ?_); at_builtin; refine Kd.R_append (FX w) (w0 := w) w.heap.size rfl (.tmp 55) (.tmp 60) 28 22 (.slice none 0 0) 24 rfl Try.underlying28 info22 rfl Nat.one_pos (by decide) (.slice A7 K.length c7) K x [.slice B0 x.length d0] AllT (fun k => some k ≠ (.slice A7 K.length c7 : Value).ownBlock) rfl rfl ⟨B0, d0, rfl, hd0, HX.out.2.2⟩ (fun k hk => ⟨trivial, hk⟩) (fun _ _ => trivial) p7.out pB.out pB.out.size ?aL ?_; (case aL => have := HL.out; omega); intro v61 w61 ho hb hg hat; have q5 := Aside0.mk (Kd.R_over p5.out p7.out (ne_ty (by decide)) hg); have q6 := Aside0.mk (Kd.R_over p6.out p7.out (ne_ty (by decide)) hg); have q7 := Aside0.mk ho; have qB := Aside0.mk hb; clear p5 p6 p7 pB hx54 ho hb hg hat)
          | fail)
        go_roundg k
        case measure => omega
        case rel => exact ⟨p + 1, by rfl, by omega, ⟨by rw [HKS.out.1, HKS.out.2.1]; exact q5.out⟩, ⟨by rw [HKS.out.1, HKS.out.2.2]; exact q6.out⟩, ⟨by rw [HKS.out.1]; exact q7.out⟩, qB⟩
      · have hw : wrapB x 255 = [] ∧ wrapE x 255 = 13 := ⟨if_pos (show _ > (255 : Int) by omega), if_pos (show _ > (255 : Int) by omega)⟩
        have HW := Aside0.mk hw
        have HKS : Aside0 (keepL l (p + 1) = K) := ⟨by rw [← HK.out]; exact keepL_no (by omega) (by rw [HX.out.1]; exact hxl)⟩
        have hxl2 : (255 : Int) < x.length := by omega
        clear hw hxl
        go_wp2_with fail
        refine (wrap_at _ d0 (Kd.C_below HX.out.2.2 HB.out) rfl hd0 HX.out.2.1 255 [] 13 HW.out).mono ?_
        rintro e w1 ⟨B1, d1, rfl, hR1, hB1⟩
        have n5 := Aside0.mk (Kd.R_below H5.out hB1)
        have n6 := Aside0.mk (Kd.R_below H6.out hB1)
        have n7 := Aside0.mk (Kd.R_below H7.out hB1)
        have nB := Aside0.mk (below_step HB.out hB1)
        have hx1 := pw_cell_below hB1 hxr
        clear H5 H6 H7 HB hR1 hB1 hxr
        go_wp2_with fail
        go_roundg k
        case measure => omega
        case rel => exact ⟨p + 1, by rfl, by omega, ⟨by rw [HKS.out, HBE.out.1]; exact n5.out⟩, ⟨by rw [HKS.out, HBE.out.2]; exact n6.out⟩, ⟨by rw [HKS.out]; exact n7.out⟩, nB⟩
end Go.Proofs.Ytkfninhbbcfdcaa.Giv
