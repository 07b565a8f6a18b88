/- frame.All. -/
import Derived.Test.YtkfninhbbcfdcaaGRTake
namespace Go.Proofs.Ytkfninhbbcfdcaa.Giv
open Go.RowKit Go.Proofs.YtkfninhbbcfdcaaW.PrintWords Go.Proofs.YtkfninhbbcfdcaaW.PrintLast Go.Proofs.YtkfninhbbcfdcaaW.PrintMore
set_option linter.unusedVariables false
set_option linter.unusedSimpArgs false

theorem info22 : (Try.prog.info? 22).map (fun i => (i.zero, i.size, i.bytes)) = some (some (.slice none 0 0), 1, 24) := by kernel_rfl

/-- All frames of bytes, with fuel. -/
def allG : Nat → List Int → Int → List (List Int) × Int
  | 0, _, _ => ([], 0)
  | k + 1, b, a => if b = [] then ([], 0) else if (tk b a).2.2 = 0 then
      (if (allG k (b.drop (tk b a).2.1.toNat) a).2 = 0 then ((tk b a).1 :: (allG k (b.drop (tk b a).2.1.toNat) a).1, 0) else ([], (allG k (b.drop (tk b a).2.1.toNat) a).2))
    else ([], (tk b a).2.2)
def comb (acc : List (List Int)) (r : List (List Int) × Int) : List (List Int) × Int := if r.2 = 0 then (acc ++ r.1, 0) else ([], r.2)
theorem tk_ok {b : List Int} {a : Int} (h : (tk b a).2.2 = 0) : ∃ m : Nat, (tk b a).2.1 = m ∧ 3 ≤ m ∧ m ≤ b.length ∧ (tk b a).1.length + 3 = m := by
  cases b with
  | nil => simp [tk] at h
  | cons x t =>
    simp only [tk] at h ⊢
    split at h
    · simp at h
    · rename_i h1
      split at h
      · simp at h
      · rename_i h2
        split at h
        · rename_i h3
          rw [if_neg h1, if_neg h2, if_pos h3]
          exact ⟨x.toNat + 3, by simp, by omega, by simp; omega, by rw [List.length_take]; omega⟩
        · simp at h
theorem comb_step {acc : List (List Int)} {k : Nat} {b : List Int} {a : Int} {F : List (List Int) × Int} {m : Nat} (hne : b ≠ []) (h0 : (tk b a).2.2 = 0) (hm : (tk b a).2.1 = m) (h : comb acc (allG (k + 1) b a) = F) :
    comb (acc ++ [(tk b a).1]) (allG k (b.drop m) a) = F := by
  rw [← h]
  simp only [allG]
  rw [if_neg hne, if_pos h0, hm, Int.toNat_natCast]
  unfold comb
  by_cases hr : (allG k (b.drop m) a).2 = 0
  · rw [if_pos hr, if_pos hr]; simp
  · rw [if_neg hr, if_neg hr, if_neg hr]
theorem comb_bad {acc : List (List Int)} {k : Nat} {b : List Int} {a : Int} {F : List (List Int) × Int} (hne : b ≠ []) (h0 : (tk b a).2.2 ≠ 0) (h : comb acc (allG (k + 1) b a) = F) : F = ([], (tk b a).2.2) := by
  rw [← h]
  simp only [allG]
  rw [if_neg hne, if_neg h0]
  unfold comb
  rw [if_neg h0]
theorem comb_nil {acc : List (List Int)} {k : Nat} {a : Int} {F : List (List Int) × Int} (h : comb acc (allG k [] a) = F) : F = (acc, 0) := by
  rw [← h]
  cases k <;> simp [allG, comb]

theorem allG_bad (k : Nat) (b : List Int) (a : Int) (h : (allG k b a).2 ≠ 0) : (allG k b a).1 = [] := by
  cases k with
  | zero => rfl
  | succ k =>
    simp only [allG] at h ⊢
    by_cases h1 : b = []
    · rw [if_pos h1]
    · rw [if_neg h1] at h ⊢
      by_cases h2 : (tk b a).2.2 = 0
      · rw [if_pos h2] at h ⊢
        by_cases h3 : (allG k (b.drop (tk b a).2.1.toNat) a).2 = 0
        · rw [if_pos h3] at h; exact absurd rfl h
        · rw [if_neg h3]
      · rw [if_neg h2]
theorem comb_start (k : Nat) (b : List Int) (a : Int) : comb [] (allG k b a) = allG k b a := by
  unfold comb
  by_cases h : (allG k b a).2 = 0
  · rw [if_pos h, List.nil_append, ← h]
  · rw [if_neg h, ← allG_bad k b a h]

set_option maxHeartbeats 8000000 in
set_option maxRecDepth 100000 in
theorem All_calls (A0 : Option Addr) (c0 : Nat) (l : List Int) (a1 : Int) (w : World) (hr0 : Kd.C (Kd.int .u8) w A0 l.length l) (hc0 : l.length ≤ c0) (hb0 : bytesOk l) (hL : l.length * 8 ≤ 140737488355328) :
    Calls Try.prog 17 #[.slice A0 l.length c0, .int .i64 a1] w fun e w' => ∃ v, e = .returned (.tuple #[v, .int .i64 (allG l.length l a1).2]) ∧ Kd.R (Kd.slice 5 (Kd.int .u8)) 22 w' w.heap.size (fun _ => True) v (allG l.length l a1).1 ∧ Below w.heap.size w w' := by
  obtain ⟨F, hF⟩ : ∃ F, allG l.length l a1 = F := ⟨_, rfl⟩
  have HI : Aside0 (comb [] (allG l.length l a1) = F) := ⟨by rw [← hF]; exact comb_start _ _ _⟩
  rw [hF]
  have HL := Aside0.mk hL
  have H0 := Aside0.mk (And.intro hr0 (And.intro hc0 hb0))
  clear hF hr0 hc0 hb0 hL
  go_enter Try.func17, Try.ntmps17
  go_wp2_with fail
  go_step3
  go_wp2_with fail
  go_step3
  go_wp2_with fail
  go_loopg [0, 6] l.length (fun kq v0 v6 w' => ∃ (A : Option Addr) (b : List Int) (c : Nat) (acc : List (List Int)), v0 = .slice A b.length c ∧ b.length ≤ kq ∧ Aside0 (Kd.C (Kd.int .u8) w A b.length b ∧ b.length ≤ c ∧ bytesOk b ∧ acc.length * 3 + b.length ≤ l.length) ∧ Aside0 (Kd.R (Kd.slice 5 (Kd.int .u8)) 22 w' w.heap.size (fun _ => True) v6 acc) ∧ Aside0 (Below w.heap.size w w') ∧ Aside0 (comb acc (allG kq b a1) = F))
  case atStart => exact ⟨_, l, _, [], rfl, Nat.le_refl _, ⟨H0.out.1, H0.out.2.1, H0.out.2.2, by simp⟩, ⟨Kd.R_nil _ _ _ _ _⟩, ⟨Below.refl _ _⟩, HI⟩
  case round =>
    clear HI H0
    obtain ⟨A, b, c, acc, rfl, hk, HS, HR, HB, HI⟩ := hrel
    by_cases hne : b = []
    · subst hne
      have HF := Aside0.mk (comb_nil HI.out)
      clear HI
      go_wp2_with fail
      rw [Exit.noGoto_ret]
      go_ret2
      exact ⟨_, by rw [HF.out]; rfl, by rw [HF.out]; exact HR.out, HB.out⟩
    · have hb1 : 1 ≤ b.length := by cases b; exact absurd rfl hne; simp
      obtain ⟨k, hk1⟩ : ∃ k, gk = k + 1 := ⟨gk - 1, by omega⟩
      subst hk1
      obtain ⟨T, hT⟩ : ∃ T, tk b a1 = T := ⟨_, rfl⟩
      have HT := Aside0.mk hT
      have HNE := Aside0.mk hne
      clear hT hne
      go_wp2_with fail
      refine (frame_Take A c b a1 _ (Kd.C_below HS.out.1 HB.out) HS.out.2.1 HS.out.2.2.1).mono ?_
      rintro e w1 ⟨v1, rfl, hR1, hB1⟩
      rw [HT.out] at hR1
      rw [HT.out]
      obtain ⟨x, n, er⟩ := T
      simp only at hR1 ⊢
      by_cases her : er = 0
      · subst her
        obtain ⟨m, hm, hm3, hml, hmx⟩ := tk_ok (b := b) (a := a1) (by rw [HT.out])
        rw [HT.out] at hm hmx
        simp only at hm hmx
        subst hm
        obtain ⟨Ax, cx, ex⟩ := Kd.R_slice hR1
        subst ex
        obtain ⟨A', hif⟩ : ∃ A', (if c = m then A else Option.map (fun x => x.add m) A) = A' := ⟨_, rfl⟩
        have hD := C_drop1 HS.out.1 hml HS.out.2.1
        rw [hif] at hD
        have HD := Aside0.mk hD
        have HI2 := Aside0.mk (comb_step (m := m) HNE.out (by rw [HT.out]) (by rw [HT.out]) HI.out)
        rw [HT.out] at HI2
        have HX := Aside0.mk (And.intro hm3 (And.intro hml hmx))
        have hmc : m ≤ c := by have := HS.out.2.1; omega
        obtain ⟨A6, c6, e6⟩ := Kd.R_slice HR.out
        subst e6
        have HR2 := Aside0.mk (Kd.R_below HR.out hB1)
        have HP := Aside0.mk (Kd.R_lower (Kd.R_mono (Kd.R_new' hR1 (Kd.R_lt HR.out)) (fun _ hk => hk.2)) HB.out.size)
        have HB2 := Aside0.mk (below_step HB.out hB1)
        clear hD HI hm3 hR1 hB1 HR HB hmx
        go_wp2_with (first
          | ((with_reducible refine gate_builtin (b := .append) (xs := #[.tmp 24, .tmp 26]) rfl ?_); at_builtin; refine Kd.R_append (Kd.slice 5 (Kd.int .u8)) (w0 := w) w.heap.size rfl (.tmp 24) (.tmp 26) 28 22 (.slice none 0 0) 24 rfl Try.underlying28 info22 rfl (by decide) (by decide) (.slice A6 acc.length c6) acc x [.slice Ax x.length cx] (fun _ => True) (fun k => some k ≠ (.slice A6 acc.length c6 : Value).ownBlock) rfl rfl ⟨.slice Ax x.length cx, rfl, HP.out⟩ (fun k hk => ⟨trivial, hk⟩) (fun _ _ => trivial) HR2.out HB2.out HB2.out.size ?aL ?_; (case aL => have := HS.out.2.2.2; have := HL.out; have := HX.out; omega); intro v27 w27 ho hb hg hat; clear HR2 HB2; have HR3 := Aside0.mk ho; have HB3 := Aside0.mk hb; clear ho hb hg hat)
          | fail)
        go_roundg k
        case measure => omega
        case rel =>
          refine ⟨A', b.drop m, c - m, acc ++ [x], by rw [List.length_drop], by rw [List.length_drop]; have := HX.out; omega, ⟨by rw [List.length_drop]; exact HD.out, by rw [List.length_drop]; have := HS.out.2.1; omega, fun y hy => HS.out.2.2.1 y (List.mem_of_mem_drop hy), ?_⟩, HR3, HB3, HI2⟩
          rw [List.length_append, List.length_drop, List.length_singleton]
          have := HS.out.2.2.2
          have := HX.out
          omega
      · have HF := Aside0.mk (comb_bad HNE.out (by rw [HT.out]; exact her) HI.out)
        have her' : (er == 0) = false := by simpa using her
        have HB2 := Aside0.mk (below_step HB.out hB1)
        have HTE : Aside0 ((tk b a1).2.2 = er) := ⟨by rw [HT.out]⟩
        clear HI hR1 hB1 her
        go_wp2_with fail
        rw [Exit.noGoto_ret]
        go_ret2
        exact ⟨_, by rw [HF.out, HTE.out]; rfl, by rw [HF.out]; exact Kd.R_nil _ _ _ _ _, HB2.out⟩
end Go.Proofs.Ytkfninhbbcfdcaa.Giv
