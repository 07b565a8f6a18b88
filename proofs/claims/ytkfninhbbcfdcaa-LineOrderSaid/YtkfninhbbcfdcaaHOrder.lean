/- The law LineOrder: what its text comes to. -/
import Derived.Test.YtkfninhbbcfdcaaGLine4
import Derived.Deep.CutRange
namespace Go.Proofs.Ytkfninhbbcfdcaa.Giv
open Go.RowKit Go.Proofs.YtkfninhbbcfdcaaW.PrintWords Go.Proofs.YtkfninhbbcfdcaaW.PrintLast Go.Proofs.YtkfninhbbcfdcaaW.PrintMore Go.Proofs.Ytkfninhbbcfdcaa.PReplyTells
set_option linter.unusedVariables false
set_option linter.unusedSimpArgs false

/-- The loop's state: what was told is what went out and what waits. -/
structure ROrd (w W : World) (g c : Nat) (v6 v7 : Value) (p : Nat) (told out rest : List S49) (q : List Value) : Prop where
  below : Below w.heap.size w W
  ln : LnS W w.heap.size g c (.slice none 0 0) [] false q
  qr : QR w rest q
  eq : told = out ++ rest
  rt : Kd.R (FO w) 49 W w.heap.size (fun k => some k ≠ v7.ownBlock) v6 told
  ro : Kd.R (FO w) 49 W w.heap.size (fun k => some k ≠ v6.ownBlock) v7 out
  len : told.length ≤ p
  few : rest.length ≤ 8

/-- Telling, either way. -/
theorem Tell_b {W : World} {b0 g c : Nat} {v : Value} {inn : List Int} {ov : Bool} {q : List Value} (h : LnS W b0 g c v inn ov q) (k p er : Int) (A : Option Addr) (n m : Nat) :
    Calls Try.prog 28 #[.pointer (some ⟨g, 0, none⟩), .agg #[.int .i64 k, .int .i64 p, .int .i64 er, .slice A n m]] W fun e w' => ∃ b : Bool, e = .returned (.bool b) ∧ (b = true → q.length < 8) ∧
      LnS w' b0 g c v inn ov (if b = true then q ++ [.agg #[.int .i64 k, .int .i64 p, .int .i64 er, .slice A n m]] else q) ∧ KeepL W w' (lineB g c v) := by
  by_cases hroom : q.length < 8 ∧ (keepsO k = true → q.length < 7)
  · refine (Tell_yes h k p er _ ⟨_, _, _, rfl⟩ hroom.1 hroom.2).mono ?_
    rintro e w' ⟨rfl, h1, hk⟩
    exact ⟨true, rfl, fun _ => hroom.1, by rw [if_pos rfl]; exact h1, hk⟩
  · refine (Tell_no h k p er _ ⟨_, _, _, rfl⟩ ?_).mono ?_
    · split
      · rename_i h; simp only [h, forall_const] at hroom; omega
      · rename_i h; simp only [h, false_implies, and_true] at hroom; simp at hroom; omega
    rintro e w' ⟨rfl, hB⟩
    exact ⟨false, rfl, (fun h => by cases h), (by rw [if_neg (by simp)]; exact h.below hB), KeepL.of_below hB _⟩

set_option maxHeartbeats 8000000 in
set_option maxRecDepth 100000 in
theorem lineOrder_law (A0 : Option Addr) (c0 : Nat) (l : List S49) (A1 : Option Addr) (c1 : Nat) (ns : List Int) (w : World)
    (hC0 : Kd.C k49 w A0 l.length l) (hc0 : l.length ≤ c0) (hC1 : Kd.C (Kd.int .i64) w A1 ns.length ns) (hc1 : ns.length ≤ c1) :
    Calls Try.prog 8 #[.slice A0 l.length c0, .slice A1 ns.length c1] w fun e w' => e = .returned (.bool true) ∧ Below w.heap.size w w' := by
  have H0 := Aside0.mk (And.intro hC0 hc0)
  have H1 := Aside0.mk (And.intro hC1 hc1)
  clear hC0 hc0 hC1 hc1
  obtain ⟨M, hM⟩ : ∃ M, min l.length 60 = M := ⟨_, rfl⟩
  go_enter Try.func8, Try.ntmps8
  go_wp2_with fail
  refine (New_k w).mono ?_
  rintro e w1 ⟨g, c, rfl, hg, hc, h1, hb1⟩
  have HL := Aside0.mk h1
  have HB1 := Aside0.mk hb1
  have HG := Aside0.mk (And.intro hg hc)
  clear hg hc h1 hb1
  go_wp2_with fail
  go_loopg [6, 7, 8] M (fun kq v6 v7 v8 w' => ∃ (p : Nat) (told out rest : List S49) (q : List Value), v8 = .int .i64 p ∧ p + kq = M ∧ Aside0 (ROrd w w' g c v6 v7 p told out rest q))
  case atStart => exact ⟨0, [], [], [], [], rfl, by omega, ⟨HB1.out, HL.out, trivial, rfl, Kd.R_nil _ _ _ _ _, Kd.R_nil _ _ _ _ _, Nat.le_refl _, Nat.zero_le _⟩⟩
  case round =>
    obtain ⟨p, told, out, rest, q, rfl, hp, HO⟩ := hrel
    clear HL HB1
    cases gk with
    | zero =>
      obtain ⟨A6, c6, e6⟩ := Kd.R_slice HO.out.rt
      subst e6
      obtain ⟨A7, c7, e7⟩ := Kd.R_slice HO.out.ro
      subst e7
      have hS : ∀ k, lineB g c (.slice none 0 0) k → w.heap.size ≤ k := fun k hk => by
        have := HG.out
        rcases hk with e | e | e
        · omega
        · omega
        · cases e
      have HS := Aside0.mk hS
      have hty : ∀ p, p ∈ 49 :: (FO w).E → p ≠ 42 ∧ p ≠ 5 := by intro p hp; simp [FO, Kd.fixed] at hp; subst hp; decide
      have HT := Aside0.mk hty
      clear hty hS
      have hend : (l.length : Int) ≤ p ∨ ((p : Int) < l.length ∧ (60 : Int) ≤ p) := by omega
      have hp60 : p ≤ 60 := by omega
      clear hp hM
      rcases hend with he | ⟨he, he2⟩
      · go_wp2_with fail
        refine (Release_at HO.out.ln w rest HO.out.qr 100 rest.length (by have := HO.out.few; unfold takeN; omega) (by have := HO.out.few; omega)).mono ?_
        rintro e w4 ⟨A4, m4, rfl, hR⟩
        rw [List.take_length, show q.drop rest.length = [] by rw [HO.out.qr.len, List.drop_length]] at hR
        rw [List.take_length]
        have HR4 := Aside0.mk hR
        have HB4 := Aside0.mk (hR.keep.below HO.out.below HS.out)
        have HT4 := Aside0.mk (R_keepL HO.out.ln HO.out.rt HT.out hR.keep)
        have HO4 := Aside0.mk (R_keepL HO.out.ln HO.out.ro HT.out hR.keep)
        have HX : Aside0 (out ++ rest = told ∧ told.length ≤ 100 ∧ out.length + rest.length ≤ 100) := ⟨HO.out.eq.symm, by have := HO.out.len; omega, by have h1 := congrArg List.length HO.out.eq; rw [List.length_append] at h1; have := HO.out.len; omega⟩
        clear hR HO
        go_wp2_with (first
          | ((with_reducible refine gate_builtin (b := .append) (xs := #[.tmp 64, .tmp 66]) rfl ?_); at_builtin; refine Kd.R_append_rows (FO w) (w0 := w) w.heap.size rfl (.tmp 64) (.tmp 66) 45 49 (.agg #[.int .i64 0, .int .i64 0, .int .i64 0, .slice none 0 0]) 48 rfl Try.underlying45 info49 rfl (show 0 < 4 by decide) (by decide) (.slice A7 out.length c7) out rest A4 rest.length m4 (fun k => some k ≠ (.slice A6 told.length c6 : Value).ownBlock) (fun _ => False) rfl rfl HO4.out (Kd.R_reads' HR4.out.row).2.2 (fun _ _ h => h) (fun _ h => h.elim) (fun k hk => Kd.fresh' (Kd.R_lt HT4.out) k hk) HB4.out HB4.out.size ?aL ?_; (case aL => have := HX.out.2.2; omega); intro v67 w5 ho hb hg hat; rw [HX.out.1] at ho; obtain ⟨A8, c8, e8⟩ := Kd.R_slice ho; subst e8; have HO5 := Aside0.mk ho; have HB5 := Aside0.mk hb; have HG5 := Aside0.mk (And.intro hg hat); clear ho hb hg hat)
          | fail)
        refine (alive35_calls _).mono ?_
        rintro e w6 ⟨rfl, hb6⟩
        have HL6 := Aside0.mk ((HR4.out.ln.grownR HO4.out (by decide) HG5.out.1).below hb6)
        have HT6 := Aside0.mk (Kd.R_below (Kd.R_after (ok := fun _ => True) (Kd.R_mono HT4.out (fun k hk => ⟨trivial, hk⟩)) HG5.out.1 HG5.out.2) hb6)
        have HO6 := Aside0.mk (Kd.R_below HO5.out hb6)
        have HB6 := Aside0.mk (below_step HB5.out hb6)
        clear hb6
        go_wp2_with fail
        refine (Waits_at HL6.out).mono ?_
        rintro e w' ⟨rfl, rfl⟩
        go_wp2_with fail
        refine (SameAll_at A6 told.length c6 _ A8 told.length c8 told (FO_C (Kd.R_reads' HT6.out).2.2 HB6.out) rfl (Kd.R_reads' HT6.out).2.1 (FO_C (Kd.R_reads' HO6.out).2.2 HB6.out) rfl (Kd.R_reads' HO6.out).2.1 (by have := HX.out.2.1; omega)).mono ?_
        rintro e w7 ⟨rfl, hb7⟩
        have HB7 := Aside0.mk (below_step HB6.out hb7)
        clear hb7
        go_wp2_with fail
        go_ret
        exact ⟨rfl, HB7.out⟩
      · go_wp2_with fail
        refine (Release_at HO.out.ln w rest HO.out.qr 100 rest.length (by have := HO.out.few; unfold takeN; omega) (by have := HO.out.few; omega)).mono ?_
        rintro e w4 ⟨A4, m4, rfl, hR⟩
        rw [List.take_length, show q.drop rest.length = [] by rw [HO.out.qr.len, List.drop_length]] at hR
        rw [List.take_length]
        have HR4 := Aside0.mk hR
        have HB4 := Aside0.mk (hR.keep.below HO.out.below HS.out)
        have HT4 := Aside0.mk (R_keepL HO.out.ln HO.out.rt HT.out hR.keep)
        have HO4 := Aside0.mk (R_keepL HO.out.ln HO.out.ro HT.out hR.keep)
        have HX : Aside0 (out ++ rest = told ∧ told.length ≤ 100 ∧ out.length + rest.length ≤ 100) := ⟨HO.out.eq.symm, by have := HO.out.len; omega, by have h1 := congrArg List.length HO.out.eq; rw [List.length_append] at h1; have := HO.out.len; omega⟩
        clear hR HO
        go_wp2_with (first
          | ((with_reducible refine gate_builtin (b := .append) (xs := #[.tmp 64, .tmp 66]) rfl ?_); at_builtin; refine Kd.R_append_rows (FO w) (w0 := w) w.heap.size rfl (.tmp 64) (.tmp 66) 45 49 (.agg #[.int .i64 0, .int .i64 0, .int .i64 0, .slice none 0 0]) 48 rfl Try.underlying45 info49 rfl (show 0 < 4 by decide) (by decide) (.slice A7 out.length c7) out rest A4 rest.length m4 (fun k => some k ≠ (.slice A6 told.length c6 : Value).ownBlock) (fun _ => False) rfl rfl HO4.out (Kd.R_reads' HR4.out.row).2.2 (fun _ _ h => h) (fun _ h => h.elim) (fun k hk => Kd.fresh' (Kd.R_lt HT4.out) k hk) HB4.out HB4.out.size ?aL ?_; (case aL => have := HX.out.2.2; omega); intro v67 w5 ho hb hg hat; rw [HX.out.1] at ho; obtain ⟨A8, c8, e8⟩ := Kd.R_slice ho; subst e8; have HO5 := Aside0.mk ho; have HB5 := Aside0.mk hb; have HG5 := Aside0.mk (And.intro hg hat); clear ho hb hg hat)
          | fail)
        refine (alive35_calls _).mono ?_
        rintro e w6 ⟨rfl, hb6⟩
        have HL6 := Aside0.mk ((HR4.out.ln.grownR HO4.out (by decide) HG5.out.1).below hb6)
        have HT6 := Aside0.mk (Kd.R_below (Kd.R_after (ok := fun _ => True) (Kd.R_mono HT4.out (fun k hk => ⟨trivial, hk⟩)) HG5.out.1 HG5.out.2) hb6)
        have HO6 := Aside0.mk (Kd.R_below HO5.out hb6)
        have HB6 := Aside0.mk (below_step HB5.out hb6)
        clear hb6
        go_wp2_with fail
        refine (Waits_at HL6.out).mono ?_
        rintro e w' ⟨rfl, rfl⟩
        go_wp2_with fail
        refine (SameAll_at A6 told.length c6 _ A8 told.length c8 told (FO_C (Kd.R_reads' HT6.out).2.2 HB6.out) rfl (Kd.R_reads' HT6.out).2.1 (FO_C (Kd.R_reads' HO6.out).2.2 HB6.out) rfl (Kd.R_reads' HO6.out).2.1 (by have := HX.out.2.1; omega)).mono ?_
        rintro e w7 ⟨rfl, hb7⟩
        have HB7 := Aside0.mk (below_step HB6.out hb7)
        clear hb7
        go_wp2_with fail
        go_ret
        exact ⟨rfl, HB7.out⟩
    | succ gk =>
      obtain ⟨A6, c6, e6⟩ := Kd.R_slice HO.out.rt
      subst e6
      obtain ⟨A7, c7, e7⟩ := Kd.R_slice HO.out.ro
      subst e7
      have hlt : (p : Int) < l.length := by omega
      have hlt6 : (p : Int) < 60 := by omega
      have hp0 : (0 : Int) ≤ p := by omega
      obtain ⟨ad, A3, c3, rfl, q0, q1, q2, q3, l3, g3⟩ := at_T49 H0.out.1 p hp0 hlt
      rw [Int.toNat_natCast] at q0 q1 q2 q3
      obtain ⟨y, hy⟩ : ∃ y, rd_T49 l p = y := ⟨_, rfl⟩
      rw [hy] at q0 q1 q2 q3 l3 g3
      have HY := Aside0.mk (And.intro l3 g3)
      have HQ := Aside0.mk (And.intro q0 (And.intro q1 (And.intro q2 q3)))
      clear q0 q1 q2 q3 l3 g3 hy
      have q0 := pw_cell_below HO.out.below HQ.out.1
      have q1 := pw_cell_below HO.out.below HQ.out.2.1
      have q2 := pw_cell_below HO.out.below HQ.out.2.2.1
      have q3 := pw_cell_below HO.out.below HQ.out.2.2.2
      have HP := Aside0.mk hp
      clear hp
      go_wp2_with fail
      clear q0 q1 q2 q3
      have hS : ∀ k, lineB g c (.slice none 0 0) k → w.heap.size ≤ k := fun k hk => by
        have := HG.out
        rcases hk with e | e | e
        · omega
        · omega
        · cases e
      have HS := Aside0.mk hS
      clear hS
      have hty : ∀ p, p ∈ 49 :: (FO w).E → p ≠ 42 ∧ p ≠ 5 := by intro p hp; simp [FO, Kd.fixed] at hp; subst hp; decide
      have HT := Aside0.mk hty
      clear hty
      refine (Tell_b HO.out.ln y.f0 y.f1 y.f2 A3 y.f3.length c3).mono ?_
      rintro e w2 ⟨b, rfl, hq8, hl2, hk2⟩
      have hB2 := hk2.below HO.out.below HS.out
      have HB2 := Aside0.mk hB2
      have HL2 := Aside0.mk hl2
      have HT2 := Aside0.mk (R_keepL HO.out.ln HO.out.rt HT.out hk2)
      have HU2 := Aside0.mk (R_keepL HO.out.ln HO.out.ro HT.out hk2)
      have HE := Aside0.mk (And.intro HO.out.eq (And.intro HO.out.len (And.intro HO.out.few (And.intro HO.out.qr hq8))))
      clear hB2 hl2 hk2 HO hq8
      have q0 := pw_cell_below HB2.out HQ.out.1
      have q1 := pw_cell_below HB2.out HQ.out.2.1
      have q2 := pw_cell_below HB2.out HQ.out.2.2.1
      have q3 := pw_cell_below HB2.out HQ.out.2.2.2
      go_upto_if 28 with fail
      go_cut [6] from 13 to 63 (fun v6 wx => Aside0 (∃ told2 rest2 q2, ROrd w wx g c v6 (.slice A7 out.length c7) (p + 1) told2 out rest2 q2))
      case first =>
        cases b with
        | true =>
          have HL3 := Aside0.mk (show LnS w2 w.heap.size g c (.slice none 0 0) [] false (q ++ [.agg #[.int .i64 y.f0, .int .i64 y.f1, .int .i64 y.f2, .slice A3 y.f3.length c3]]) by have := HL2.out; rwa [if_pos rfl] at this)
          clear HL2
          go_wp2_with (first
            | ((with_reducible refine gate_builtin (b := .append) (xs := #[.tmp 29, .tmp 34]) rfl ?_); at_builtin; refine Kd.R_append (FO w) (w0 := w) w.heap.size rfl (.tmp 29) (.tmp 34) 45 49 (.agg #[.int .i64 0, .int .i64 0, .int .i64 0, .slice none 0 0]) 48 rfl Try.underlying45 info49 rfl (show 0 < 4 by decide) (by decide) (.slice A6 told.length c6) told y [.int .i64 y.f0, .int .i64 y.f1, .int .i64 y.f2, .slice A3 y.f3.length c3] (fun k => some k ≠ (.slice A7 out.length c7 : Value).ownBlock) (fun _ => False) rfl rfl (k49_mk _ y HY.out.1 HY.out.2) (fun k hk => hk.elim) (fun k hk => Kd.fresh' (Kd.R_lt HU2.out) k hk) HT2.out HB2.out HB2.out.size ?aL ?_; (case aL => have := HE.out.2.1; omega); intro v35 w3 ho hb hg hat; have HO3 := Aside0.mk ho; have HB3 := Aside0.mk hb; have HG3 := Aside0.mk (And.intro hg hat); clear ho hb hg hat)
            | fail)
          go_meet
          exact ⟨told ++ [y], rest ++ [y], _, HB3.out, HL3.out.grownR HT2.out (by decide) HG3.out.1, QR.snoc ⟨A3, c3, rfl, HY.out.1, HY.out.2⟩ HE.out.2.2.2.1, by rw [HE.out.1, List.append_assoc], HO3.out,
            Kd.R_mono (Kd.R_after (ok := fun _ => True) (Kd.R_mono HU2.out (fun k hk => ⟨trivial, hk⟩)) HG3.out.1 HG3.out.2) (fun k hk => hk.2),
            by rw [List.length_append]; exact Nat.succ_le_succ HE.out.2.1, by have h1 := HE.out.2.2.2.2 (by first | rfl | trivial); have h2 := HE.out.2.2.2.1.len; rw [List.length_append, List.length_singleton]; omega⟩
        | false =>
          have HL3 := Aside0.mk (show LnS w2 w.heap.size g c (.slice none 0 0) [] false q by have := HL2.out; rwa [if_neg (by simp)] at this)
          clear HL2
          go_wp2_with fail
          go_meet
          exact ⟨told, rest, q, HB2.out, HL3.out, HE.out.2.2.2.1, HE.out.1, HT2.out, HU2.out, Nat.le_succ_of_le HE.out.2.1, HE.out.2.2.1⟩
      case rest =>
        obtain ⟨told2, rest2, q2, hcut⟩ := hcut.out
        have HC := Aside0.mk hcut
        clear hcut
        have HP1 : Aside0 (p + 1 + gk = M) := ⟨by have := HP.out; omega⟩
        have hq9 : (q2.length : Int) ≤ 8 := by have h1 := HC.out.qr.len; have h2 := HC.out.few; omega
        by_cases hs : (p : Int) < ns.length
        · obtain ⟨ad1, rfl, r0⟩ := Kd.at_int H1.out.1 p hp0 hs
          rw [Int.toNat_natCast] at r0
          have r1 := pw_cell_below HC.out.below r0
          obtain ⟨z, hz⟩ : ∃ z, rd ns p = z := ⟨_, rfl⟩
          rw [hz] at r0 r1
          have HR0 := Aside0.mk r0
          clear r0 hz
          go_wp2_with fail
          refine (Waits_at HC.out.ln).mono ?_
          rintro e w' ⟨rfl, rfl⟩
          go_wp2_with fail
          obtain ⟨T, hT⟩ : ∃ T, takeN z rest2.length = T := ⟨_, rfl⟩
          refine (Release_at HC.out.ln w rest2 HC.out.qr z T hT (by have := HC.out.few; omega)).mono ?_
          rintro e w4 ⟨A4, m4, rfl, hR⟩
          obtain ⟨more, hmore⟩ : ∃ m, rest2.take T = m := ⟨_, rfl⟩
          rw [hmore] at hR ⊢
          have hml : more.length = T := by rw [← hmore, List.length_take]; unfold takeN at hT; omega
          have hz2 : (more.length : Int) = 0 ∨ (0 < (more.length : Int) ∧ (more.length : Int) ≤ z) := by unfold takeN at hT; omega
          have HR4 := Aside0.mk hR
          have HB4 := Aside0.mk (hR.keep.below HC.out.below HS.out)
          have HT4 := Aside0.mk (R_keepL HC.out.ln HC.out.rt HT.out hR.keep)
          have HO4 := Aside0.mk (R_keepL HC.out.ln HC.out.ro HT.out hR.keep)
          have HX : Aside0 (rest2.take T = more ∧ out.length + more.length ≤ 70) := ⟨hmore, by
            have h1 := congrArg List.length HC.out.eq
            have h2 := HC.out.len
            have h3 := HC.out.few
            rw [List.length_append] at h1
            unfold takeN at hT
            omega⟩
          clear hR hmore hml hT
          rcases hz2 with hz2 | ⟨hz2, hz3⟩
          · have r4 := pw_cell_below HB4.out HR0.out
            go_wp2_with (first
              | ((with_reducible refine gate_builtin (b := .append) (xs := #[.tmp 61, .tmp 62]) rfl ?_); at_builtin; refine Kd.R_append_rows (FO w) (w0 := w) w.heap.size rfl (.tmp 61) (.tmp 62) 45 49 (.agg #[.int .i64 0, .int .i64 0, .int .i64 0, .slice none 0 0]) 48 rfl Try.underlying45 info49 rfl (show 0 < 4 by decide) (by decide) (.slice A7 out.length c7) out more A4 more.length m4 (fun k => some k ≠ u6.ownBlock) (fun _ => False) rfl rfl HO4.out (Kd.R_reads' HR4.out.row).2.2 (fun _ _ h => h) (fun _ h => h.elim) (fun k hk => Kd.fresh' (Kd.R_lt HT4.out) k hk) HB4.out HB4.out.size ?aL ?_; (case aL => have := HX.out.2; omega); intro v63 w5 ho hb hg hat; have HO5 := Aside0.mk ho; have HB5 := Aside0.mk hb; have HG5 := Aside0.mk (And.intro hg hat); clear ho hb hg hat)
              | fail)
            go_roundg gk
            case measure => omega
            case rel =>
              refine ⟨p + 1, told2, out ++ more, rest2.drop T, q2.drop T, by rfl, HP1.out, ⟨HB5.out, HR4.out.ln.grownR HO4.out (by decide) HG5.out.1, HC.out.qr.drop T, ?_, Kd.R_mono (Kd.R_after (ok := fun _ => True) (Kd.R_mono HT4.out (fun k hk => ⟨trivial, hk⟩)) HG5.out.1 HG5.out.2) (fun k hk => hk.2), HO5.out, HC.out.len, ?_⟩⟩
              · rw [HC.out.eq, ← HX.out.1, List.append_assoc, List.take_append_drop]
              · rw [List.length_drop]; have := HC.out.few; omega
          · have r4 := pw_cell_below HB4.out HR0.out
            go_wp2_with (first
              | ((with_reducible refine gate_builtin (b := .append) (xs := #[.tmp 61, .tmp 62]) rfl ?_); at_builtin; refine Kd.R_append_rows (FO w) (w0 := w) w.heap.size rfl (.tmp 61) (.tmp 62) 45 49 (.agg #[.int .i64 0, .int .i64 0, .int .i64 0, .slice none 0 0]) 48 rfl Try.underlying45 info49 rfl (show 0 < 4 by decide) (by decide) (.slice A7 out.length c7) out more A4 more.length m4 (fun k => some k ≠ u6.ownBlock) (fun _ => False) rfl rfl HO4.out (Kd.R_reads' HR4.out.row).2.2 (fun _ _ h => h) (fun _ h => h.elim) (fun k hk => Kd.fresh' (Kd.R_lt HT4.out) k hk) HB4.out HB4.out.size ?aL ?_; (case aL => have := HX.out.2; omega); intro v63 w5 ho hb hg hat; have HO5 := Aside0.mk ho; have HB5 := Aside0.mk hb; have HG5 := Aside0.mk (And.intro hg hat); clear ho hb hg hat)
              | fail)
            go_roundg gk
            case measure => omega
            case rel =>
              refine ⟨p + 1, told2, out ++ more, rest2.drop T, q2.drop T, by rfl, HP1.out, ⟨HB5.out, HR4.out.ln.grownR HO4.out (by decide) HG5.out.1, HC.out.qr.drop T, ?_, Kd.R_mono (Kd.R_after (ok := fun _ => True) (Kd.R_mono HT4.out (fun k hk => ⟨trivial, hk⟩)) HG5.out.1 HG5.out.2) (fun k hk => hk.2), HO5.out, HC.out.len, ?_⟩⟩
              · rw [HC.out.eq, ← HX.out.1, List.append_assoc, List.take_append_drop]
              · rw [List.length_drop]; have := HC.out.few; omega
        · have hs' : (ns.length : Int) ≤ p := by omega
          go_wp2_with fail
          refine (Waits_at HC.out.ln).mono ?_
          rintro e w' ⟨rfl, rfl⟩
          go_wp2_with fail
          go_roundg gk
          case measure => omega
          case rel => exact ⟨p + 1, told2, out, rest2, q2, by rfl, HP1.out, HC⟩
end Go.Proofs.Ytkfninhbbcfdcaa.Giv
