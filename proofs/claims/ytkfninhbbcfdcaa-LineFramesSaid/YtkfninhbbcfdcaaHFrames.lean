/- The law LineFrames: what its text comes to. -/
import Derived.Test.YtkfninhbbcfdcaaGLine4
import Derived.Test.YtkfninhbbcfdcaaHBackW
import Derived.Deep.CutRange
namespace Go.Proofs.Ytkfninhbbcfdcaa.Giv
open Go.RowKit Go.Proofs.YtkfninhbbcfdcaaW.PrintWords Go.Proofs.YtkfninhbbcfdcaaW.PrintLast Go.Proofs.YtkfninhbbcfdcaaW.PrintMore Go.Proofs.Ytkfninhbbcfdcaa.PReplyTells
set_option linter.unusedVariables false
set_option linter.unusedSimpArgs false

/-- A row away from a line's blocks stays so behind each of its functions. -/
theorem R_lineStep {W W1 : World} {g c : Nat} {v v1 : Value} {α : Type} {d : Kd α} {e b : Nat} {Pk : Nat → Prop} {u : Value} {xs : List α} (hlt : g < W.heap.size ∧ c < W.heap.size)
    (hr : d.R e W b (fun k => Pk k ∧ ¬ lineB g c v k) u xs) (hk : KeepL W W1 (lineB g c v)) (ho : ∀ j, v1.ownBlock = some j → v.ownBlock = some j ∨ W.heap.size ≤ j) :
    d.R e W1 b (fun k => Pk k ∧ ¬ lineB g c v1 k) u xs := by
  refine Kd.R_kept (Kd.R_mono (Kd.R_bound hr) (fun k hk => (show (Pk k ∧ ¬ lineB g c v1 k) ∧ ¬ lineB g c v k from ⟨⟨hk.1.1, fun h => ?_⟩, hk.1.2⟩))) hk.kept (fun k hk => hk.2) |> fun z => Kd.R_mono z (fun k hk => hk.1)
  have h2 := hk.2.2.1
  rcases h with h | h | h
  · exact hk.1.2 (.inl h)
  · exact hk.1.2 (.inr (.inl h))
  · rcases ho k h.symm with h3 | h3
    · exact hk.1.2 (.inr (.inr h3.symm))
    · omega

/-- The same over several steps, from the world w2 on. -/
theorem LnK.rowStep {w2 W : World} {b0 g c : Nat} {v v1 : Value} {inn : List Int} {ov : Bool} {q : List Value} (h : LnK (Giv.lineB g c v) w2 W b0 g c v1 inn ov q) {α : Type} {d : Kd α} {e b : Nat} {Pk : Nat → Prop} {u : Value} {xs : List α}
    (hr : d.R e w2 b (fun k => Pk k ∧ ¬ Giv.lineB g c v k) u xs) : d.R e W b (fun k => Pk k ∧ ¬ Giv.lineB g c v1 k) u xs := by
  refine Kd.R_kept (Kd.R_mono (Kd.R_bound hr) (fun k hk => (show (Pk k ∧ ¬ Giv.lineB g c v1 k) ∧ ¬ Giv.lineB g c v k from ⟨⟨hk.1.1, fun h1 => ?_⟩, hk.1.2⟩))) h.keep.kept (fun k hk => hk.2) |> fun z => Kd.R_mono z (fun k hk => hk.1)
  have h2 := hk.2.2.1
  rcases h.lineB k h1 with h3 | h3
  · exact hk.1.2 h3
  · omega

structure RFr (w W : World) (g c : Nat) (v v6 v7 : Value) (p : Nat) (K : List (List Int)) : Prop where
  below : Below w.heap.size w W
  ln : LnS W w.heap.size g c v [] false []
  rt : Kd.R (Kd.slice 5 (Kd.int .u8)) 22 W w.heap.size (fun k => some k ≠ v7.ownBlock ∧ ¬ lineB g c v k) v6 K
  rs : Kd.R (FX w) 22 W w.heap.size (fun k => some k ≠ v6.ownBlock ∧ ¬ lineB g c v k) v7 K
  len : K.length ≤ p

set_option maxHeartbeats 8000000 in
set_option maxRecDepth 100000 in
theorem lineFrames_law (A0 : Option Addr) (c0 : Nat) (l : List (List Int)) (A1 : Option Addr) (c1 : Nat) (ns : List Int) (w : World)
    (hC0 : Kd.C (Kd.slice 5 (Kd.int .u8)) w A0 l.length l) (hc0 : l.length ≤ c0) (hb0 : ∀ x ∈ l, bytesOk x) (hC1 : Kd.C (Kd.int .i64) w A1 ns.length ns) (hc1 : ns.length ≤ c1) :
    Calls Try.prog 7 #[.slice A0 l.length c0, .slice A1 ns.length c1] w fun e w' => e = .returned (.bool true) ∧ Below w.heap.size w w' := by
  have H0 := Aside0.mk (And.intro hC0 (And.intro hc0 hb0))
  have H1 := Aside0.mk (And.intro hC1 hc1)
  clear hC0 hc0 hb0 hC1 hc1
  obtain ⟨M, hM⟩ : ∃ M, min l.length 20 = M := ⟨_, rfl⟩
  go_enter Try.func7, Try.ntmps7
  go_wp2_with fail
  refine (New_k w).mono ?_
  rintro e w1 ⟨g, c, rfl, hg, hc, h1, hb1⟩
  have HL := Aside0.mk h1
  have HB1 := Aside0.mk hb1
  have HG := Aside0.mk (And.intro hg hc)
  clear hg hc h1 hb1
  go_wp2_with fail
  go_loopg [6, 7, 8] M (fun kq v6 v7 v8 w' => ∃ (p : Nat) (v : Value) (K : List (List Int)), v8 = .int .i64 p ∧ p + kq = M ∧ Aside0 (RFr w w' g c v v6 v7 p K))
  case atStart => exact ⟨0, _, [], rfl, by omega, ⟨HB1.out, HL.out, Kd.R_nil _ _ _ _ _, Kd.R_nil _ _ _ _ _, Nat.le_refl _⟩⟩
  case round =>
    obtain ⟨p, v, K, rfl, hp, HO⟩ := hrel
    clear HL HB1
    obtain ⟨A6, c6, e6⟩ := Kd.R_slice HO.out.rt
    subst e6
    obtain ⟨A7, c7, e7⟩ := Kd.R_slice HO.out.rs
    subst e7
    cases gk with
    | zero =>
      obtain ⟨wo, rfl⟩ : ∃ wo : World, wo = wr := ⟨_, rfl⟩
      have HTR := Aside0.mk (Kd.R_reads' HO.out.rt)
      have HSR := Aside0.mk (FX_C (Kd.R_reads' HO.out.rs).2.2 HO.out.below)
      have HB := Aside0.mk HO.out.below
      have HL := Aside0.mk HO.out.ln
      have hK20 : (K.length : Int) ≤ 20 := by have := HO.out.len; omega
      have hend : (l.length : Int) ≤ p ∨ ((p : Int) < l.length ∧ (20 : Int) ≤ p ∧ decide ((p : Int) < 20) = false) := by
        by_cases h1 : (l.length : Int) ≤ p
        · exact .inl h1
        · exact .inr ⟨by omega, by omega, decide_eq_false (by omega)⟩
      clear hp hM HO
      rcases hend with he | ⟨he, he2, he3⟩
      all_goals
        go_wp2_with fail
        go_loopg [18] K.length (fun kq v18 w' => ∃ (j : Nat), v18 = .int .i64 j ∧ j + kq = K.length ∧ Aside0 (Below wo.heap.size wo w'))
        case atStart => exact ⟨0, rfl, by omega, ⟨Below.refl _ _⟩⟩
        case round =>
          obtain ⟨j, rfl, hj, HBJ⟩ := hrel
          cases gk with
          | zero =>
            obtain rfl : j = K.length := by omega
            clear hj
            go_wp2_with fail
            refine (alive35_calls _).mono ?_
            rintro e w3 ⟨rfl, hb3⟩
            have HL3 := Aside0.mk (HL.out.below (below_step HBJ.out hb3))
            have HB3 := Aside0.mk (below_step HB.out (below_step HBJ.out hb3))
            clear hb3
            go_wp2_with fail
            refine (Holds_at HL3.out).mono ?_
            rintro e w' ⟨rfl, rfl⟩
            go_wp2_with fail
            go_ret
            exact ⟨rfl, HB3.out⟩
          | succ gk =>
            have hjK : (j : Int) < K.length := by omega
            have hj0 : (0 : Int) ≤ j := by omega
            obtain ⟨ad6, B6, d6, rfl, hz6, hd6, hC6⟩ := at_L HTR.out.2.2 j hj0 hjK
            obtain ⟨ad7, B7, d7, rfl, hz7, hd7, hC7⟩ := at_L HSR.out j hj0 hjK
            obtain ⟨x, hx⟩ : ∃ x, rdL K j = x := ⟨_, rfl⟩
            rw [hx] at hz6 hC6 hz7 hC7
            rw [Int.toNat_natCast] at hz6 hz7
            have HZ := Aside0.mk (And.intro hz6 (And.intro hC6 (And.intro hz7 hC7)))
            have HJ := Aside0.mk hj
            clear hz6 hC6 hz7 hC7 hx hd6 hd7 hj
            have s0 := fun (W' : World) (h_ : Below wr.heap.size wr W') => Kd.C_string (P := Try.prog) (A := B6) (c := d6) Try.underlying22 Try.underlying5 Try.underlying9 (Kd.C_below HZ.out.2.1 (below_step HBJ.out h_))
            have s1 := fun (W' : World) (h_ : Below wr.heap.size wr W') => Kd.C_string (P := Try.prog) (A := B7) (c := d7) Try.underlying22 Try.underlying5 Try.underlying9 (Kd.C_below HZ.out.2.2.2 (below_step HBJ.out h_))
            have q0 := fun (W' : World) (h_ : Below wr.heap.size wr W') => pw_cell_below (below_step HBJ.out h_) HZ.out.1
            have q1 := fun (W' : World) (h_ : Below wr.heap.size wr W') => pw_cell_below (below_step HBJ.out h_) HZ.out.2.2.1
            go_wp2_with fail
            go_region_held3 (fun w' => Below wr.heap.size wr w') (first | assumption | exact Below.refl _ _ | exact below_step (by assumption) (by assumption) | exact below_step (by assumption) (Drawn0.below (by assumption)) | exact below_drew (by assumption) | exact below_drew (Below.refl _ _)) (fail)
            rename_i hHeld
            have HB4 := Aside0.mk (below_step HBJ.out hHeld)
            clear hHeld s0 s1 q0 q1
            go_wp2_with fail
            go_roundg gk
            case measure => omega
            case rel => exact ⟨j + 1, by rfl, by have := HJ.out; omega, HB4⟩
    | succ gk =>
      have hlt : (p : Int) < l.length := by omega
      have hlt6 : (p : Int) < 20 := by omega
      have hp0 : (0 : Int) ≤ p := by omega
      obtain ⟨ad, A3, c3, rfl, q0, l3, g3⟩ := at_L H0.out.1 p hp0 hlt
      rw [Int.toNat_natCast] at q0
      have hbx : bytesOk (rdL l p) := H0.out.2.2 _ (rdL_mem (by omega))
      obtain ⟨x, hx⟩ : ∃ x, rdL l p = x := ⟨_, rfl⟩
      rw [hx] at q0 l3 g3 hbx
      have HX := Aside0.mk (And.intro l3 (And.intro g3 (And.intro hbx q0)))
      have HP0 := Aside0.mk hp
      have q1 := pw_cell_below HO.out.below HX.out.2.2.2
      obtain ⟨f, er, hf⟩ : ∃ f er, wrapB x 60 = f ∧ wrapE x 60 = er := ⟨_, _, rfl, rfl⟩
      have HF := Aside0.mk hf
      clear q0 l3 g3 hbx hx hp hf
      go_wp2_with fail
      refine (wrap_at x.length c3 (Kd.C_below HX.out.2.1 HO.out.below) rfl HX.out.1 HX.out.2.2.1 60 f er HF.out).mono ?_
      rintro e w2 ⟨A9, c9, rfl, hR, hB⟩
      have HB2 := Aside0.mk (below_step HO.out.below hB)
      have HL2 := Aside0.mk (HO.out.ln.below hB)
      have HT2 := Aside0.mk (Kd.R_below HO.out.rt hB)
      have HS2 := Aside0.mk (Kd.R_below HO.out.rs hB)
      have HLT := Aside0.mk HO.out.ln.lt
      have HKL := Aside0.mk HO.out.len
      have HRF := Aside0.mk (Kd.R_mono (ok' := fun k => (some k ≠ (.slice A6 K.length c6 : Value).ownBlock ∧ some k ≠ (.slice A7 K.length c7 : Value).ownBlock) ∧ ¬ lineB g c v k) (Kd.R_bound hR) (fun k hk => by
        have h2 := hk.2.1
        have h3 := HLT.out
        refine ⟨⟨fun e => ?_, fun e => ?_⟩, fun e => ?_⟩
        · have := Kd.R_lt HO.out.rt k e.symm; omega
        · have := Kd.R_lt HO.out.rs k e.symm; omega
        · rcases e with e | e | e
          · omega
          · omega
          · have := h3.2.2 k e.symm; omega))
      have HFC := Aside0.mk (Kd.R_reads' hR).2.1
      have q2 := pw_cell_below HB2.out HX.out.2.2.2
      clear hR hB HO q1
      by_cases her : er = 0
      · subst her
        have hlen : x.length ≤ 60 := by
          have := HF.out.2
          unfold wrapE at this
          split at this
          · cases this
          · rename_i h
            have e : limI 60 = 60 := by decide
            rw [e] at h
            omega
        have hff : f = frameB x := by
          rw [← HF.out.1]
          unfold wrapB
          have e : limI 60 = 60 := by decide
          rw [e, if_neg (by omega)]
        have HFF := Aside0.mk (And.intro hlen hff)
        have HFL : Aside0 (f.length = x.length + 3) := ⟨by rw [hff, frameB_length]⟩
        clear hlen hff
        go_upto_region 13 with (first
          | ((with_reducible refine gate_builtin (b := .append) (xs := #[.tmp 42, .tmp 47]) rfl ?_); at_builtin; refine Kd.R_append (FX w) (w0 := w) w.heap.size rfl (.tmp 42) (.tmp 47) 28 22 (.slice none 0 0) 24 rfl Try.underlying28 info22 rfl (show 0 < 1 by decide) (by decide) (.slice A7 K.length c7) K x [.slice A3 x.length c3] (fun k => some k ≠ (.slice A6 K.length c6 : Value).ownBlock ∧ ¬ lineB g c v k) (fun _ => False) rfl rfl ⟨A3, c3, rfl, HX.out.1, HX.out.2.1⟩ (fun k hk => hk.elim) (fun k hk => ⟨Kd.fresh' (Kd.R_lt HT2.out) k hk, fun e => by have h3 := HL2.out.lt; rcases e with e | e | e; (exact absurd h3.1 (by omega)); (exact absurd h3.2.1 (by omega)); (exact absurd (h3.2.2 k e.symm) (by omega))⟩) HS2.out HB2.out HB2.out.size ?aL ?_; (case aL => have := HKL.out; omega); intro v48 w3 ho hb hg hat; have HS3 := Aside0.mk ho; have HB3 := Aside0.mk hb; have HG3 := Aside0.mk (And.intro hg hat); clear ho hb hg hat)
          | fail)
        go_cut [59] from 22 to 103 (fun v59 wx => ∃ b : Bool, v59 = .bool b ∧ (b = true → (p : Int) < ns.length ∧ 0 < rd ns p) ∧ wx = w3)
        case first =>
          by_cases hs : (p : Int) < ns.length
          · obtain ⟨ad1, rfl, r0⟩ := Kd.at_int H1.out.1 p hp0 hs
            rw [Int.toNat_natCast] at r0
            have r3 := pw_cell_below HB3.out r0
            clear r0
            go_wp2_with fail
            go_meet
            exact ⟨_, rfl, fun h => ⟨hs, by simpa using h⟩, rfl⟩
          · have hs' : (ns.length : Int) ≤ p := by omega
            go_wp2_with fail
            go_meet
            exact ⟨false, rfl, (fun h => by cases h), rfl⟩
        case rest =>
          obtain ⟨b, rfl, hb59, rfl⟩ := hcut
          go_upto_if 59 with fail
          go_cut [11] from 22 to 103 (fun v11 wx => ∃ k : Nat, v11 = .int .i64 k ∧ k < x.length + 3 ∧ wx = wc)
          case first =>
            cases b with
            | false =>
              go_wp2_with fail
              go_meet
              exact ⟨0, rfl, by omega, rfl⟩
            | true =>
              obtain ⟨hs, hz0⟩ := hb59 rfl
              obtain ⟨ad1, rfl, r0⟩ := Kd.at_int H1.out.1 p hp0 hs
              rw [Int.toNat_natCast] at r0
              have r3 := pw_cell_below HB3.out r0
              obtain ⟨z, hz⟩ : ∃ z, rd ns p = z := ⟨_, rfl⟩
              rw [hz] at r3 hz0
              have hfp : (0 : Int) < f.length := by have := HFL.out; omega
              have hfn : (f.length : Int) ≠ 0 := by omega
              clear r0 hz
              go_wp2_with fail
              go_meet
              refine ⟨(z % (f.length : Int)).toNat, ?_, ?_, rfl⟩
              · rw [Int.toNat_of_nonneg (Int.emod_nonneg _ hfn)]
              · have h1 := Int.emod_lt_of_pos z hfp
                have h2 := Int.emod_nonneg z hfn
                have := HFL.out
                omega
          case rest =>
            obtain ⟨k, rfl, hk, rfl⟩ := hcut
            obtain ⟨A8, c8, e8⟩ := Kd.R_slice HS3.out
            subst e8
            have HL3 := Aside0.mk (LnK.start (HL2.out.grownR HS2.out (by decide) HG3.out.1))
            have HRF3 := Aside0.mk (Kd.R_over HRF.out HS2.out (ne_ty (by decide)) HG3.out.1)
            have HT3 := Aside0.mk (Kd.R_after (ok := fun k => ¬ lineB g c v k) (Kd.R_mono HT2.out (fun k hk => ⟨hk.2, hk.1⟩)) HG3.out.1 HG3.out.2)
            have HVB := Aside0.mk (Kd.R_base HL2.out.row)
            clear HL2 HS2 HRF HT2 HG3 HB2 hb59
            have HK0 : Aside0 (k ≤ f.length ∧ f.length ≤ 63 ∧ f.length ≤ c9) := ⟨by have := HFL.out; omega, by have := HFL.out; have := HFF.out.1; omega, HFC.out⟩
            have HFB : Aside0 (bytesOk f) := ⟨by rw [HFF.out.2]; exact frameB_ok HX.out.2.2.1⟩
            obtain ⟨y, hy⟩ : ∃ y, f.take k = y := ⟨_, rfl⟩
            have hyl : k = y.length := by rw [← hy, List.length_take]; have := HK0.out.1; omega
            have hyb : bytesOk y := by rw [← hy]; exact fun u hu => HFB.out u (List.mem_of_mem_take hu)
            have htk : tk y 60 = ([], 0, 12) := by
              have e : limI 60 = 60 := by decide
              have h1 := HFF.out.1
              rw [← hy, HFF.out.2]
              exact tk_cut x 60 k (by rw [e]; omega) hk
            have hC0 : Kd.C (Kd.int .u8) wc A9 k y := by rw [← hy]; exact C_take1 (HL3.out.C_own HRF3.out (fun k hk => hk.2)) HK0.out.1
            have hz0 : (0 : Int) = (y.length : Int) - ↑(min y.length (256 - ([] : List Int).length)) := by have := HK0.out; rw [← hyl]; simp; omega
            have hyy : [] ++ y.take (256 - ([] : List Int).length) = y := by rw [List.nil_append, List.take_of_length_le]; have := HK0.out; rw [← hyl]; simp; omega
            have hkc : k ≤ c9 := by have := HK0.out; omega
            have hkf : k ≤ f.length := HK0.out.1
            have hkl : (k : Int) ≤ f.length := by omega
            have hkl0 : (0 : Int) ≤ k := by omega
            have HY := Aside0.mk (And.intro hyl (And.intro hyb (And.intro htk (And.intro hC0 (And.intro hz0 (And.intro hyy hy))))))
            have HKX := Aside0.mk hk
            clear hyl hyb htk hC0 hz0 hyy hy hk
            go_wp2_with fail
            refine (Feed_k HL3.out (Nat.zero_le _) A9 k c9 y HY.out.2.2.2.1 HY.out.1 hkc 0 HY.out.2.2.2.2.1 y HY.out.2.2.2.2.2.1 false rfl).mono ?_
            rintro e w4 ⟨v4, rfl, hl4⟩
            have HL4 := Aside0.mk hl4
            clear hl4
            go_wp2_with fail
            refine (NextS_k HL4.out HY.out.2.1 [] 0 HY.out.2.2.1).mono ?_
            rintro e w5 ⟨rfl, hl5⟩
            have HL5 := Aside0.mk hl5
            clear hl5
            obtain ⟨A', hif⟩ : ∃ A', (if c9 = k then A9 else Option.map (fun x => x.add k) A9) = A' := ⟨_, rfl⟩
            obtain ⟨u, hu⟩ : ∃ u, f.drop k = u := ⟨_, rfl⟩
            have hul : f.length - k = u.length := by rw [← hu, List.length_drop]
            have hyu : y ++ u = f := by rw [← HY.out.2.2.2.2.2.2, ← hu, List.take_append_drop]
            have hD := C_drop1 (HL5.out.C_own HRF3.out (fun k hk => hk.2)) HK0.out.1 HK0.out.2.2
            rw [hif, hu] at hD
            have hule : u.length ≤ 63 := by have := HK0.out.2.1; omega
            have hyle : y.length ≤ 63 := by have h1 := HY.out.1; have := HK0.out; omega
            have hyf : y.length + u.length = f.length := by rw [← List.length_append, hyu]
            have hz1 : (0 : Int) = (u.length : Int) - ↑(min u.length (256 - y.length)) := by have := HK0.out.2.1; omega
            have hyy1 : y ++ u.take (256 - y.length) = f := by rw [List.take_of_length_le (by omega)]; exact hyu
            have hcc : f.length - k ≤ c9 - k := by have := HK0.out.2.2; omega
            have HD := Aside0.mk (And.intro hD (And.intro hul (And.intro hcc (And.intro hz1 (And.intro hyy1 (show y.length ≤ 256 by omega))))))
            have htf : tk f 60 = (x, (f.length : Int), 0) := by
              have e : limI 60 = 60 := by decide
              have h1 := HFF.out.1
              have h2 := tk_frame x [] 60 (by rw [e]; omega)
              rw [List.append_nil, ← HFF.out.2] at h2
              rw [h2]
              have := HFL.out
              congr 2
              omega
            have HTF := Aside0.mk htf
            clear hu hul hyu hD hule hyle hyf hz1 hyy1 hcc htf
            go_wp2_with fail
            refine (Feed_k HL5.out HD.out.2.2.2.2.2 A' (f.length - k) (c9 - k) u HD.out.1 HD.out.2.1 HD.out.2.2.1 0 HD.out.2.2.2.1 f HD.out.2.2.2.2.1 false rfl).mono ?_
            rintro e w6 ⟨v6, rfl, hl6⟩
            have HL6 := Aside0.mk hl6
            clear hl6
            go_wp2_with fail
            refine (NextF_k HL6.out (by have := HK0.out.2.1; omega) HFB.out x f.length 0 HTF.out (by decide) (Nat.le_refl _) [] (List.drop_length ..)).mono ?_
            rintro e w7 ⟨Ax, cx, v7, rfl, hR7, hl7⟩
            have HL7 := Aside0.mk hl7
            have HT7 := Aside0.mk (hl7.rowStep (Kd.R_mono HT3.out (fun k hk => ⟨hk.2, hk.1⟩)))
            have HS7 := Aside0.mk (hl7.rowStep HS3.out)
            have HB7 := Aside0.mk (hl7.keep.below HB3.out (fun k hk => by
              have := HG.out
              rcases hk with e | e | e
              · omega
              · omega
              · exact HVB.out k e.symm))
            have HP := Aside0.mk (Kd.R_lower (Kd.R_mono (ok' := fun k => (some k ≠ (.slice A8 (K ++ [x]).length c8 : Value).ownBlock ∧ ¬ lineB g c v7 k) ∧ some k ≠ (.slice A6 K.length c6 : Value).ownBlock) (Kd.R_bound hR7) (fun k hk => by
              have h1 := hk.2.1
              have h2 := HL6.out.keep.kept.1
              refine ⟨⟨fun e => ?_, hk.1⟩, fun e => ?_⟩
              · have := Kd.R_lt HS3.out k e.symm; omega
              · have := Kd.R_lt HT3.out k e.symm; omega)) (Nat.le_trans HB3.out.size HL6.out.keep.kept.1))
            clear hl7 hR7 HT3 HS3 HL6 HL5 HL4 HL3 HRF3
            go_wp2_with (first
              | ((with_reducible refine gate_builtin (b := .append) (xs := #[.tmp 100, .tmp 102]) rfl ?_); at_builtin; refine Kd.R_append (Kd.slice 5 (Kd.int .u8)) (w0 := w) w.heap.size rfl (.tmp 100) (.tmp 102) 28 22 (.slice none 0 0) 24 rfl Try.underlying28 info22 rfl (show 0 < 1 by decide) (by decide) (.slice A6 K.length c6) K x [.slice Ax x.length cx] (fun k => some k ≠ (.slice A8 (K ++ [x]).length c8 : Value).ownBlock ∧ ¬ lineB g c v7 k) (fun k => (some k ≠ (.slice A8 (K ++ [x]).length c8 : Value).ownBlock ∧ ¬ lineB g c v7 k) ∧ some k ≠ (.slice A6 K.length c6 : Value).ownBlock) rfl rfl ⟨.slice Ax x.length cx, rfl, HP.out⟩ (fun k hk => hk) (fun k hk => ⟨Kd.fresh' (Kd.R_lt HS7.out) k hk, fun e => by have h3 := HL7.out.ln.lt; rcases e with e | e | e; (exact absurd h3.1 (by omega)); (exact absurd h3.2.1 (by omega)); (exact absurd (h3.2.2 k e.symm) (by omega))⟩) HT7.out HB7.out HB7.out.size ?aL ?_; (case aL => have := HKL.out; omega); intro v103 w8 ho hb hg hat; have HT8 := Aside0.mk ho; have HB8 := Aside0.mk hb; have HG8 := Aside0.mk (And.intro hg hat); clear ho hb hg hat)
              | fail)
            go_roundg gk
            case measure => omega
            case rel =>
              refine ⟨p + 1, v7, K ++ [x], by rfl, by have := HP0.out; omega, ⟨HB8.out, HL7.out.ln.grownR HT7.out (by decide) HG8.out.1, ?_, ?_, by rw [List.length_append]; exact Nat.succ_le_succ HKL.out⟩⟩
              · have := HT8.out
                rw [List.length_append] at this
                exact this
              · have := Kd.R_mono (Kd.R_after (ok := fun k => ¬ lineB g c v7 k) (Kd.R_mono HS7.out (fun k hk => ⟨hk.2, hk.1⟩)) HG8.out.1 HG8.out.2) (fun k hk => (show some k ≠ v103.ownBlock ∧ ¬ lineB g c v7 k from ⟨hk.2, hk.1⟩))
                rw [List.length_append] at this
                exact this
      · have her' : (er == 0) = false := by simpa using her
        go_wp2_with fail
        go_roundg gk
        case measure => omega
        case rel => exact ⟨p + 1, v, K, by rfl, by have := HP0.out; omega, ⟨HB2.out, HL2.out, HT2.out, HS2.out, Nat.le_succ_of_le HKL.out⟩⟩
end Go.Proofs.Ytkfninhbbcfdcaa.Giv
