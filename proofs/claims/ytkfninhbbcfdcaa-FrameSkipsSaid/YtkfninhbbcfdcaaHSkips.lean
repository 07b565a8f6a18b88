/- The law FrameSkips: what its text comes to. -/
import Derived.Test.YtkfninhbbcfdcaaGAlive
import Derived.Test.YtkfninhbbcfdcaaGPlain
namespace Go.Proofs.Ytkfninhbbcfdcaa.Giv
open Go.RowKit Go.Proofs.YtkfninhbbcfdcaaW.PrintWords Go.Proofs.YtkfninhbbcfdcaaW.PrintLast Go.Proofs.YtkfninhbbcfdcaaW.PrintMore
set_option linter.unusedVariables false
set_option linter.unusedSimpArgs false

def jk (l : List Int) : List Int := l.map fun x => 61 + x % 195
theorem jk_len (l : List Int) : (jk l).length = l.length := by simp [jk]
theorem jk_snoc (l : List Int) (p : Nat) (h : p < l.length) : jk (l.take p) ++ [61 + rd l p % 195] = jk (l.take (p + 1)) := by
  unfold jk
  rw [List.take_succ_eq_append_getElem h]
  rw [List.map_append]
  simp [rd, List.getD_eq_getElem?_getD, List.getElem?_eq_getElem h]
theorem rd_ok {l : List Int} (h : bytesOk l) (i : Int) : 0 ≤ rd l i ∧ rd l i < 256 := by
  unfold rd
  rw [List.getD_eq_getElem?_getD]
  cases hg : l[i.toNat]? with
  | none => simp
  | some x => exact h x (List.mem_of_getElem? hg)

theorem C_of_R' {w : World} {base : Nat} {ok : Nat → Prop} {A : Option Addr} {n c : Nat} {xs : List Int} (h : Kd.R (Kd.int .u8) 5 w base ok (.slice A n c) xs) : Kd.C (Kd.int .u8) w A xs.length xs := (Kd.R_reads' h).2.2
theorem jk_take (l : List Int) : jk (l.take l.length) = jk l := by rw [List.take_length]
theorem jk_ok (l : List Int) : ∀ y ∈ jk l, 61 ≤ y ∧ y < 256 := by
  intro y hy
  simp only [jk, List.mem_map] at hy
  obtain ⟨x, _, rfl⟩ := hy
  omega
theorem jk_tail {l f t : List Int} {i : Nat} (hi : i < l.length) (h : t = (jk l).drop i ++ f) : tk t 60 = ([], 1, 13) ∧ t.drop 1 = (jk l).drop (i + 1) ++ f ∧ 1 ≤ t.length := by
  have hi' : i < (jk l).length := by rw [jk_len]; exact hi
  rw [List.drop_eq_getElem_cons hi'] at h
  subst h
  exact ⟨tk_junk _ _ (jk_ok l _ (List.getElem_mem hi')).1, rfl, by simp only [List.cons_append, List.length_cons]; omega⟩
theorem skips_f {l f : List Int} (h : wrapB l 60 = f ∧ wrapE l 60 = 0) : f = frameB l ∧ l.length ≤ 60 ∧ f.length = l.length + 3 ∧ tk f 60 = (l, (f.length : Int), 0) := by
  obtain ⟨rfl, h2⟩ := h
  unfold wrapE at h2
  split at h2
  · cases h2
  · rename_i hn
    have hw : wrapB l 60 = frameB l := if_neg hn
    have e := tk_frame l [] 60 hn
    rw [List.append_nil] at e
    rw [hw]
    have hlim : limI 60 = 60 := rfl
    exact ⟨rfl, by omega, frameB_length l, by rw [e, frameB_length]; rfl⟩

set_option maxHeartbeats 8000000 in
set_option maxRecDepth 100000 in
theorem skips_out (A0 : Option Addr) (c0 : Nat) (l0 : List Int) (A1 : Option Addr) (n1 c1 : Nat) (w : World) (hr0 : Kd.C (Kd.int .u8) w A0 l0.length l0) (hc0 : l0.length ≤ c0) (hb0 : bytesOk l0) (h : wrapE l0 60 ≠ 0 ∨ wrapE l0 60 = 0 ∧ 100 < n1) :
    Calls Try.prog 5 #[.slice A0 l0.length c0, .slice A1 n1 c1] w fun e w' => e = .returned (.bool true) ∧ Below w.heap.size w w' := by
  have H0 := Aside0.mk (And.intro hr0 (And.intro hc0 hb0))
  obtain ⟨f, hf⟩ : ∃ f, wrapB l0 60 = f := ⟨_, rfl⟩
  obtain ⟨fe, hfe⟩ : ∃ f, wrapE l0 60 = f := ⟨_, rfl⟩
  rw [hfe] at h
  have HF := Aside0.mk (And.intro hf hfe)
  clear hr0 hc0 hb0 hf hfe
  rcases h with h | ⟨h, h1⟩
  · have h' : ¬ fe = 0 := h
    clear h
    go_enter Try.func5, Try.ntmps5
    go_wp2_with fail
    refine (wrap_at _ c0 H0.out.1 rfl H0.out.2.1 H0.out.2.2 60 f fe HF.out).mono ?_
    rintro e w1 ⟨B1, d1, rfl, hR1, hB1⟩
    have K1 := Aside0.mk hB1
    clear hR1 hB1
    go_wp2_with fail
    refine (alive_calls _).mono ?_
    rintro e w2 ⟨rfl, hB2⟩
    have K2 := Aside0.mk (below_step K1.out hB2)
    clear hB2
    go_wp2_with fail
    go_ret
    exact ⟨rfl, K2.out⟩
  · subst h
    go_enter Try.func5, Try.ntmps5
    go_wp2_with fail
    refine (wrap_at _ c0 H0.out.1 rfl H0.out.2.1 H0.out.2.2 60 f 0 HF.out).mono ?_
    rintro e w1 ⟨B1, d1, rfl, hR1, hB1⟩
    have K1 := Aside0.mk hB1
    clear hR1 hB1
    go_wp2_with fail
    refine (alive_calls _).mono ?_
    rintro e w2 ⟨rfl, hB2⟩
    have K2 := Aside0.mk (below_step K1.out hB2)
    clear hB2
    go_wp2_with fail
    go_ret
    exact ⟨rfl, K2.out⟩

set_option maxHeartbeats 8000000 in
set_option maxRecDepth 100000 in
theorem skips_in (A0 : Option Addr) (c0 : Nat) (l0 : List Int) (A1 : Option Addr) (c1 : Nat) (l1 : List Int) (w : World) (hr0 : Kd.C (Kd.int .u8) w A0 l0.length l0) (hc0 : l0.length ≤ c0) (hb0 : bytesOk l0)
    (hr1 : Kd.C (Kd.int .u8) w A1 l1.length l1) (hc1 : l1.length ≤ c1) (hb1 : bytesOk l1) (hf : wrapE l0 60 = 0) (hn : l1.length ≤ 100) :
    Calls Try.prog 5 #[.slice A0 l0.length c0, .slice A1 l1.length c1] w fun e w' => e = .returned (.bool true) ∧ Below w.heap.size w w' := by
  have H0 := Aside0.mk (And.intro hr0 (And.intro hc0 hb0))
  have H1 := Aside0.mk (And.intro hr1 (And.intro hc1 hb1))
  obtain ⟨f, hff⟩ : ∃ f, wrapB l0 60 = f := ⟨_, rfl⟩
  have HF := Aside0.mk (And.intro hff hf)
  clear hr0 hc0 hb0 hr1 hc1 hb1 hf hff
  have hn0 : (l1.length : Int) ≤ 100 := by omega
  go_enter Try.func5, Try.ntmps5
  go_wp2_with fail
  refine (wrap_at _ c0 H0.out.1 rfl H0.out.2.1 H0.out.2.2 60 f 0 HF.out).mono ?_
  rintro e w1 ⟨B1, d1, rfl, hR1, hB1⟩
  have R1 := Aside0.mk (Kd.R_reads' hR1).2.2
  have K1 := Aside0.mk hB1
  clear hR1 hB1
  go_wp2_with fail
  go_loopg [7, 8] l1.length (fun kq v7 v8 w' => ∃ (p : Nat), v8 = .int .i64 p ∧ p + kq = l1.length ∧ Aside0 (Kd.R (Kd.int .u8) 5 w' w1.heap.size (fun _ => True) v7 (jk (l1.take p))) ∧ Aside0 (Below w1.heap.size w1 w'))
  case atStart => exact ⟨0, rfl, by omega, ⟨Kd.R_nil _ _ _ _ _⟩, ⟨Below.refl _ _⟩⟩
  case round =>
    obtain ⟨p, rfl, hp, HR, HB⟩ := hrel
    cases gk with
    | zero =>
      have e0 : p = l1.length := by omega
      subst e0
      clear hp
      obtain ⟨A7, c7, e7⟩ := Kd.R_slice HR.out
      subst e7
      rw [jk_take] at HR
      rw [jk_take]
      obtain ⟨a, ha⟩ : ∃ a, jk l1 = a := ⟨_, rfl⟩
      rw [ha] at HR
      rw [ha]
      have hal : a.length = l1.length := by rw [← ha, jk_len]
      have HA := Aside0.mk (And.intro ha hal)
      obtain ⟨hfb, hl60, hfl, hft⟩ := skips_f HF.out
      have HFF := Aside0.mk (And.intro hfb (And.intro hl60 (And.intro hfl hft)))
      have HN := Aside0.mk hn
      clear ha hal hfb hl60 hfl hft
      go_wp2_with (first
        | ((with_reducible refine gate_builtin (b := .append) (xs := #[.tmp 47, .tmp 48]) rfl ?_); at_builtin; refine Kd.R_append_rows (Kd.int .u8) (w0 := w1) w1.heap.size rfl (.tmp 47) (.tmp 48) 22 5 (.int .u8 0) 1 rfl Try.underlying22 info5 rfl (by decide) (by omega) (.slice A7 a.length c7) a f _ _ _ (fun _ => True) (fun _ => False) rfl rfl ?aO ?aR (fun _ _ h => h) (fun _ h => h.elim) ?aF ?aB ?aS ?aL ?_; (case aR => exact (Kd.C_below R1.out HB.out)); (case aB => exact HB.out); (case aF => exact (fun _ _ => trivial)); (case aO => exact HR.out); (case aS => exact (below_size HB.out)); (case aL => have := HA.out; have := HFF.out; have := HN.out; omega); intro v27 w27 ho hb hg hat; clear HB HR; have HB := Aside0.mk hb; have HR := Aside0.mk ho; clear ho hb hg hat)
        | fail)
      obtain ⟨af, haf⟩ : ∃ x, a ++ f = x := ⟨_, rfl⟩
      rw [haf] at HR
      have HAF := Aside0.mk haf
      clear haf
      obtain ⟨A8, c8, e8⟩ := Kd.R_slice HR.out
      subst e8
      have HT : Aside0 (bytesOk af) := ⟨by
        rw [← HAF.out, ← HA.out.1, HFF.out.1]
        exact bytesOk_app (fun y hy => by have := jk_ok l1 y hy; omega) (frameB_ok H0.out.2.2)⟩
      obtain ⟨_, hcp, hC⟩ := Kd.R_reads' HR.out
      have HC := Aside0.mk (And.intro hC hcp)
      have KB := Aside0.mk (below_step K1.out HB.out)
      clear hC hcp HR HB
      go_loopg [7, 10] a.length (fun kq v7 v10 w' => ∃ (i : Nat) (A : Option Addr) (t : List Int) (c : Nat), v7 = .slice A t.length c ∧ v10 = .int .i64 i ∧ i + kq = a.length ∧ Aside0 (Kd.C (Kd.int .u8) w27 A t.length t ∧ t.length ≤ c ∧ bytesOk t ∧ t = a.drop i ++ f) ∧ Aside0 (Below w27.heap.size w27 w'))
      case atStart => exact ⟨0, _, af, _, rfl, rfl, by omega, ⟨HC.out.1, HC.out.2, HT.out, HAF.out.symm⟩, ⟨Below.refl _ _⟩⟩
      case round =>
        clear HT HC
        obtain ⟨i, A, t, c, rfl, rfl, hi, HS, HB⟩ := hrel
        cases gk with
        | zero =>
          have e0 : i = a.length := by omega
          subst e0
          clear hi
          have e1 : t = f := by rw [HS.out.2.2.2, List.drop_length, List.nil_append]
          subst e1
          go_wp2_with fail
          refine (take_at _ c (Kd.C_below HS.out.1 HB.out) rfl HS.out.2.1 HS.out.2.2.1 60 l0 t.length 0 HFF.out.2.2.2).mono ?_
          rintro e w3 ⟨B3, d3, rfl, hR3, hB3⟩
          have R3 := Aside0.mk (C_of_R' hR3)
          have K3 := Aside0.mk (below_step HB.out hB3)
          clear hR3 hB3
          go_wp2_with fail
          refine (alive_calls _).mono ?_
          rintro e w4 ⟨rfl, hB4⟩
          have K4 := Aside0.mk (below_step KB.out (below_step K3.out hB4))
          have s1 := Kd.C_string (P := Try.prog) (A := B3) (c := d3) Try.underlying22 Try.underlying5 Try.underlying9 (Kd.C_below R3.out hB4)
          have s2 := Kd.C_string (P := Try.prog) (A := A0) (c := c0) Try.underlying22 Try.underlying5 Try.underlying9 (Kd.C_below H0.out.1 K4.out)
          clear hB4
          go_wp2_with fail
          go_ret
          exact ⟨rfl, K4.out⟩
        | succ k =>
          have hi2 : i < l1.length := by have := HA.out; omega
          obtain ⟨htk, hdr, ht1⟩ := jk_tail (f := f) (t := t) hi2 (by rw [HS.out.2.2.2, HA.out.1])
          have hcut := C_drop1 (m := 1) (c := c) HS.out.1 ht1 HS.out.2.1
          have hc1 : 3 ≤ c := by have := HS.out.2.1; have := congrArg List.length HS.out.2.2.2; rw [List.length_append] at this; have := HFF.out.2.2.1; omega
          rw [if_neg (by omega)] at hcut
          obtain ⟨ad, rfl, _⟩ := Kd.at_int HS.out.1 0 (by omega) (by omega)
          have hcut : Kd.C (Kd.int .u8) w27 (some ⟨ad.block, ad.off + 1, none⟩) (t.length - 1) (t.drop 1) := hcut
          have HK := Aside0.mk (And.intro htk (And.intro hdr hcut))
          clear htk hdr hcut
          go_wp2_with fail
          refine (take_at _ c (Kd.C_below HS.out.1 HB.out) rfl HS.out.2.1 HS.out.2.2.1 60 [] 1 13 HK.out.1).mono ?_
          rintro e w3 ⟨B3, d3, rfl, hR3, hB3⟩
          have K3 := Aside0.mk (below_step HB.out hB3)
          clear hR3 hB3
          go_wp2_with fail
          go_roundg k
          case measure => omega
          case rel => exact ⟨i + 1, some ⟨ad.block, ad.off + 1, none⟩, t.drop 1, c - 1, by rw [List.length_drop], by rfl, by omega, ⟨by rw [List.length_drop]; exact HK.out.2.2, by rw [List.length_drop]; have := HS.out.2.1; omega, fun y hy => HS.out.2.2.1 y (List.mem_of_mem_drop hy), by rw [HK.out.2.1, HA.out.1]⟩, K3⟩
    | succ k =>
      have hlt : (p : Int) < l1.length := by omega
      obtain ⟨ad, rfl, hx⟩ := Kd.at_int (Kd.C_below H1.out.1 (below_step K1.out HB.out)) p (by omega) hlt
      have hxb := rd_ok H1.out.2.2 p
      have HS := Aside0.mk (jk_snoc l1 p (by omega))
      obtain ⟨x, hxe⟩ : ∃ x, rd l1 p = x := ⟨_, rfl⟩
      rw [hxe] at hx hxb HS
      rw [Int.toNat_natCast] at hx
      clear hxe
      obtain ⟨A7, c7, e7⟩ := Kd.R_slice HR.out
      subst e7
      obtain ⟨a, ha⟩ : ∃ a, jk (l1.take p) = a := ⟨_, rfl⟩
      rw [ha] at HR HS
      have HL := Aside0.mk (show a.length + 1 ≤ 100 by rw [← ha, jk_len, List.length_take]; omega)
      rw [ha]
      clear ha
      go_wp2_with (first
        | ((with_reducible refine gate_dst (N := 43) rfl ?_); refine Kd.R_lit (Kd.int .u8) _ 5 ?hg (N := 43) ?hd (xs := ([61 + x % 195] : List Int)) (inner := [.int .u8 (61 + x % 195)]) (ok := fun _ => True) (okp := fun _ => True) ?hr ?hp (fun _ hk => hk) trivial (Below.refl _ _) (Nat.le_refl _) (by simp) ?_; (case hd => rfl); (case hg => rfl); (case hr => first | (go_simp; done) | (go_simp; rfl)); (case hp => exact (Reps.one (show Kd.M (Kd.int .u8) _ _ _ (61 + x % 195) [.int .u8 (61 + x % 195)] from rfl) (Reps.none _ _))); intro v26 w26 ho26 hb hg_ hnew_; clear hg_ hnew_; (have n0_ := Aside0.mk (Kd.R_elder' HR.out (Kd.R_base ho26) hb)); (have n1_ := Aside0.mk (Kd.R_lower (Kd.R_new' ho26 (Kd.R_lt HR.out)) (below_size HB.out))); (have n2_ := Aside0.mk (below_step HB.out hb)); clear HR; clear HB; have HR := n0_; have HO26 := n1_; have HB := n2_; clear n0_ n1_ n2_; clear hb ho26; obtain ⟨A26, c26, e26⟩ := Kd.R_slice HO26.out; subst e26)
        | ((with_reducible refine gate_builtin (b := .append) (xs := #[.tmp 36, .tmp 43]) rfl ?_); at_builtin; refine Kd.R_append_rows (Kd.int .u8) (w0 := w1) w1.heap.size rfl (.tmp 36) (.tmp 43) 22 5 (.int .u8 0) 1 rfl Try.underlying22 info5 rfl (by decide) (by omega) (.slice A7 a.length c7) a ([61 + x % 195] : List Int) _ _ _ (fun k_ => some k_ ≠ (.slice A26 1 c26 : Value).ownBlock) (fun _ => False) rfl rfl ?aO ?aR (fun _ _ h => h) (fun _ h => h.elim) ?aF ?aB ?aS ?aL ?_; (case aR => exact (Kd.R_reads' HO26.out).2.2); (case aB => exact HB.out); (case aF => exact (fun k_ hk => Kd.fresh' (Kd.R_lt HO26.out) k_ hk)); (case aO => exact Kd.R_mono HR.out (fun _ hk => hk.2)); (case aS => exact (below_size HB.out)); (case aL => have := HL.out; simp; omega); intro v27 w27 ho hb hg hat; clear HO26 HB HR; have HB := Aside0.mk hb; have HR := Aside0.mk ho; clear ho hb hg hat)
        | fail)
      go_roundg k
      case measure => omega
      case rel => exact ⟨p + 1, by rfl, by omega, ⟨by rw [← HS.out]; exact Kd.R_mono HR.out (fun _ _ => trivial)⟩, HB⟩

theorem frameSkips_law (A0 : Option Addr) (c0 : Nat) (l0 : List Int) (A1 : Option Addr) (c1 : Nat) (l1 : List Int) (w : World) (hr0 : Kd.C (Kd.int .u8) w A0 l0.length l0) (hc0 : l0.length ≤ c0) (hb0 : bytesOk l0)
    (hr1 : Kd.C (Kd.int .u8) w A1 l1.length l1) (hc1 : l1.length ≤ c1) (hb1 : bytesOk l1) :
    Calls Try.prog 5 #[.slice A0 l0.length c0, .slice A1 l1.length c1] w fun e w' => e = .returned (.bool true) ∧ Below w.heap.size w w' := by
  by_cases h : wrapE l0 60 = 0
  · by_cases h1 : l1.length ≤ 100
    · exact skips_in A0 c0 l0 A1 c1 l1 w hr0 hc0 hb0 hr1 hc1 hb1 h h1
    · exact skips_out A0 c0 l0 A1 l1.length c1 w hr0 hc0 hb0 (.inr ⟨h, by omega⟩)
  · exact skips_out A0 c0 l0 A1 l1.length c1 w hr0 hc0 hb0 (.inl h)
end Go.Proofs.Ytkfninhbbcfdcaa.Giv
