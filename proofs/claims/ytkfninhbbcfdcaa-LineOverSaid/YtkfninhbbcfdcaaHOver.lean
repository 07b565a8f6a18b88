/- The law LineOver: what its text comes to. -/
import Derived.Test.YtkfninhbbcfdcaaGAlive35
namespace Go.Proofs.Ytkfninhbbcfdcaa.Giv
open Go.RowKit Go.Proofs.YtkfninhbbcfdcaaW.PrintWords Go.Proofs.YtkfninhbbcfdcaaW.PrintLast Go.Proofs.YtkfninhbbcfdcaaW.PrintMore Go.Proofs.Ytkfninhbbcfdcaa.PReplyTells
set_option linter.unusedVariables false
set_option linter.unusedSimpArgs false

set_option maxHeartbeats 8000000 in
set_option maxRecDepth 100000 in
theorem lineOver_law (A0 : Option Addr) (c0 : Nat) (l0 : List Int) (a1 : Int) (A2 : Option Addr) (c2 : Nat) (l2 : List Int) (w : World)
    (hC0 : Kd.C (Kd.int .u8) w A0 l0.length l0) (hc0 : l0.length ≤ c0) (hb0 : bytesOk l0) (hC2 : Kd.C (Kd.int .u8) w A2 l2.length l2) (hc2 : l2.length ≤ c2) (hb2 : bytesOk l2) :
    Calls Try.prog 9 #[.slice A0 l0.length c0, .int .i64 a1, .slice A2 l2.length c2] w fun e w' => e = .returned (.bool true) ∧ Below w.heap.size w w' := by
  have H0 := Aside0.mk (And.intro hC0 (And.intro hc0 hb0))
  have H2 := Aside0.mk (And.intro hC2 (And.intro hc2 hb2))
  clear hC0 hc0 hb0 hC2 hc2 hb2
  obtain ⟨f, er, hf⟩ : ∃ f er, wrapB l2 60 = f ∧ wrapE l2 60 = er := ⟨_, _, rfl, rfl⟩
  have HF := Aside0.mk hf
  clear hf
  go_enter Try.func9, Try.ntmps9
  go_wp2_with fail
  refine (New_k w).mono ?_
  rintro e w1 ⟨g, c, rfl, hg, hc, h1, hb1⟩
  have H1 := Aside0.mk h1
  have HB1 := Aside0.mk hb1
  have HG := Aside0.mk (And.intro hg hc)
  clear hg hc h1 hb1
  go_wp2_with fail
  refine (wrap_at l2.length c2 (Kd.C_below H2.out.1 HB1.out) rfl H2.out.2.1 H2.out.2.2 60 f er HF.out).mono ?_
  rintro e w2 ⟨A3, c3, rfl, hR, hB⟩
  have HLT := Aside0.mk H1.out.lt
  have HRF := Aside0.mk (Kd.R_mono (ok' := fun k => ¬ lineB g c (.slice none 0 0) k) (Kd.R_bound hR) (fun k hk e => by
    have h2 := hk.2.1
    have h3 := HLT.out
    rcases e with e | e | e
    · omega
    · omega
    · cases e))
  have HFC := Aside0.mk (Kd.R_reads' hR).2.1
  have HB2 := Aside0.mk (below_step HB1.out hB)
  have HK := Aside0.mk (LnK.start (H1.out.below hB))
  clear hR hB H1 HB1 HLT
  by_cases hall : er = 0 ∧ 1 ≤ a1 ∧ a1 ≤ 1000
  · obtain ⟨rfl, h1, h2⟩ := hall
    obtain ⟨k, rfl⟩ := Int.eq_ofNat_of_zero_le (show 0 ≤ a1 by omega)
    have hw43 : wrap64 (256 + (k : Int)) = 256 + k := by unfold wrap64; omega
    have hn1 : decide ((k : Int) < 1) = false := by simp; omega
    have hn2 : decide ((1000 : Int) < k) = false := by simp; omega
    go_wp2_with (first
      | ((with_reducible refine gate_dst (N := 44) rfl ?_); refine Kd.R_make (Kd.int .u8) (w0 := w2) w2.heap.size 5 rfl (N := 44) rfl 22 (.tmp 43) (.tmp 43) rfl (256 + (k : Int)) rfl rfl Try.underlying22 (.int .u8 0) 1 info5 rfl (by decide) (by decide) 0 (ok := fun _ => True) (okp := fun _ => True) rfl (fun _ h => h) trivial (by omega) (by omega) (Below.refl _ _) (Nat.le_refl _) ?_; intro v44 w3 ho hb hg hnew; obtain ⟨zs, hz⟩ : ∃ zs, List.replicate (256 + (k : Int)).toNat (0 : Int) = zs := ⟨_, rfl⟩; rw [hz] at ho; have HZ := Aside0.mk hz; have HB3 := Aside0.mk hb; obtain ⟨A44, c44, e44⟩ := Kd.R_slice ho; subst e44; have HO := Aside0.mk ho; clear ho hb hg hnew hz)
      | fail)
    have hzl : zs.length = 256 + k := by rw [← HZ.out, List.length_replicate]; omega
    obtain ⟨y, hy⟩ : ∃ y, ([] : List Int) ++ zs.take (256 - ([] : List Int).length) = y := ⟨_, rfl⟩
    have hyl : y.length = 256 := by rw [← hy, List.nil_append, List.length_take, List.length_nil]; omega
    have HRO := Aside0.mk (Kd.R_reads' HO.out)
    refine (Feed_k (HK.out.below HB3.out) (Nat.zero_le _) A44 zs.length c44 zs HRO.out.2.2 rfl HRO.out.2.1 (k : Int) (by rw [hzl, List.length_nil]; omega) y hy true (by simp; omega)).mono ?_
    rintro e w4 ⟨v4, rfl, h4⟩
    have H4 := Aside0.mk h4
    clear h4 HK HRO HO hy hzl HZ HB3
    go_wp2_with fail
    have hHolds := Holds_at H4.out.ln
    rw [hyl] at hHolds
    refine hHolds.mono ?_
    rintro e w' ⟨rfl, rfl⟩
    clear hHolds
    have HYL := Aside0.mk hyl
    clear hyl
    have hS : ∀ k, lineB g c (.slice none 0 0) k → w.heap.size ≤ k := fun k hk => by
      have := HG.out
      rcases hk with e | e | e
      · omega
      · omega
      · cases e
    have HS := Aside0.mk hS
    clear hS
    go_wp2_with fail
    refine (Feed_k H4.out (by rw [HYL.out]; exact Nat.le_refl _) A0 l0.length c0 l0 (H4.out.C_came H0.out.1 HB2.out HS.out) rfl H0.out.2.1 (l0.length : Int) (by rw [HYL.out]; omega) y (by rw [HYL.out]; simp) true rfl).mono ?_
    rintro e w5 ⟨v5, rfl, h5⟩
    have H5 := Aside0.mk h5
    clear h5 H4
    go_wp2_with fail
    refine (NextO_k H5.out).mono ?_
    rintro e w6 ⟨rfl, h6⟩
    have H6 := Aside0.mk h6
    clear h6 H5
    go_wp2_with fail
    refine (Holds_at H6.out.ln).mono ?_
    rintro e w' ⟨rfl, rfl⟩
    go_wp2_with fail
    refine (NextS_k H6.out (fun x hx => by cases hx) [] 0 rfl).mono ?_
    rintro e w7 ⟨rfl, h7⟩
    have H7 := Aside0.mk h7
    clear h7 H6
    have hlen : l2.length ≤ 60 := by
      have := HF.out.2
      unfold wrapE at this
      split at this
      · cases this
      · rename_i h
        have e : limI 60 = 60 := by decide
        rw [e] at h
        omega
    have hff : f = frameB l2 := by
      rw [← HF.out.1]
      unfold wrapB
      have e : limI 60 = 60 := by decide
      rw [e, if_neg (by omega)]
    have hfl : f.length = l2.length + 3 := by rw [hff, frameB_length]
    have HFF := Aside0.mk (And.intro hlen (And.intro hff hfl))
    have hCf := H7.out.C_own HRF.out (fun k hk => hk)
    clear hlen hff hfl
    go_wp2_with fail
    refine (Feed_k H7.out (Nat.zero_le _) A3 f.length c3 f hCf rfl HFC.out 0 (by have := HFF.out; simp only [List.length_nil]; omega) f (by rw [List.nil_append]; exact List.take_of_length_le (by have := HFF.out; simp only [List.length_nil]; omega)) false rfl).mono ?_
    rintro e w8 ⟨v8, rfl, h8⟩
    have H8 := Aside0.mk h8
    clear h8 H7 hCf HRF
    go_wp2_with fail
    have hT : tk f 60 = (l2, ((l2.length + 3 : Nat) : Int), 0) := by
      have h := tk_frame l2 [] 60 (by have e : limI 60 = 60 := by decide
                                      have := HFF.out
                                      rw [e]
                                      omega)
      rw [List.append_nil, ← HFF.out.2.1] at h
      rw [h]
      rfl
    refine (NextF_k H8.out (by have := HFF.out; omega) (by rw [HFF.out.2.1]; exact frameB_ok H2.out.2.2) l2 (l2.length + 3) 0 hT (by decide) (by have := HFF.out; omega) [] (by apply List.drop_eq_nil_of_le; have := HFF.out; omega)).mono ?_
    rintro e w9 ⟨A9, c9, v9, rfl, hR9, h9⟩
    have HR9 := Aside0.mk hR9
    have H9 := Aside0.mk h9
    clear hR9 h9 H8 hT
    go_wp2_with fail
    refine (alive35_calls _).mono ?_
    rintro e w10 ⟨rfl, hb10⟩
    have HB10 := Aside0.mk (below_step (H9.out.keep.below HB2.out HS.out) hb10)
    have s1 := Kd.C_string (P := Try.prog) (c := c9) Try.underlying22 Try.underlying5 Try.underlying9 (Kd.R_reads' (Kd.R_below HR9.out hb10)).2.2
    have s2 := Kd.C_string (P := Try.prog) (c := c2) Try.underlying22 Try.underlying5 Try.underlying9 (Kd.C_below (H9.out.C_came H2.out.1 HB2.out HS.out) hb10)
    clear hb10
    go_wp2_with fail
    go_ret
    exact ⟨rfl, HB10.out⟩
  · by_cases her : er = 0
    · subst her
      by_cases h1 : a1 < 1
      · go_wp2_with fail
        refine (alive35_calls _).mono ?_
        rintro e w3 ⟨rfl, hb⟩
        have HB3 := Aside0.mk (below_step HB2.out hb)
        clear hb
        go_wp2_with fail
        go_ret
        exact ⟨rfl, HB3.out⟩
      · have h2 : (1000 : Int) < a1 := by omega
        go_wp2_with fail
        refine (alive35_calls _).mono ?_
        rintro e w3 ⟨rfl, hb⟩
        have HB3 := Aside0.mk (below_step HB2.out hb)
        clear hb
        go_wp2_with fail
        go_ret
        exact ⟨rfl, HB3.out⟩
    · have her' : (er == 0) = false := by simpa using her
      go_wp2_with fail
      refine (alive35_calls _).mono ?_
      rintro e w3 ⟨rfl, hb⟩
      have HB3 := Aside0.mk (below_step HB2.out hb)
      clear hb
      go_wp2_with fail
      go_ret
      exact ⟨rfl, HB3.out⟩
end Go.Proofs.Ytkfninhbbcfdcaa.Giv
