/- rialtoref25.All. -/
import Derived.Test.YtkfninhbbcfdcaaGAll
namespace Go.Proofs.Ytkfninhbbcfdcaa.Giv
open Go.RowKit Go.Proofs.YtkfninhbbcfdcaaW.PrintWords Go.Proofs.YtkfninhbbcfdcaaW.PrintLast Go.Proofs.YtkfninhbbcfdcaaW.PrintMore
set_option linter.unusedVariables false
set_option linter.unusedSimpArgs false

theorem rtake_at {w0 w : World} (hB0 : Below w0.heap.size w0 w) {A : Option Addr} {l : List Int} (n c : Nat) (h : Kd.C (Kd.int .u8) w0 A n l) (hn : n = l.length) (hc : n ≤ c) (hb : bytesOk l) (a : Int) (x : List Int) (m er : Int) (hT : tk l a = (x, m, er)) :
    Calls Try.prog 16 #[.slice A n c, .int .i64 a] w fun e w' => (∃ A1 c1, e = .returned (.tuple #[.slice A1 x.length c1, .int .i64 m, .int .i64 er]) ∧ Kd.C (Kd.int .u8) w0 A1 x.length x ∧ x.length ≤ c1) ∧ Below w.heap.size w w' := by
  subst hn
  have := ref_Take A c l a w0 w hB0 h hc hb
  rw [hT] at this
  exact this

/-- A row's element: bytes that read in a fixed world. -/
def Rs (w : World) (x : List Int) (cs : List Value) : Prop := ∃ A c, cs = [.slice A x.length c] ∧ x.length ≤ c ∧ Kd.C (Kd.int .u8) w A x.length x

theorem C_back {w w1 : World} {A : Option Addr} {x : List Int} (h : Kd.C (Kd.int .u8) w A x.length x) (hb : Below w.heap.size w w1) : Kd.C (Kd.int .u8) w1 A x.length x := Kd.C_below h hb

set_option maxHeartbeats 8000000 in
set_option maxRecDepth 100000 in
theorem rAll_calls (A0 : Option Addr) (c0 : Nat) (l : List Int) (a1 : Int) (w : World) (hr0 : Kd.C (Kd.int .u8) w A0 l.length l) (hc0 : l.length ≤ c0) (hb0 : bytesOk l) (hL : l.length * 8 ≤ 140737488355328) :
    Calls Try.prog 18 #[.slice A0 l.length c0, .int .i64 a1] w fun e w' => ∃ v, e = .returned (.tuple #[v, .int .i64 (allG l.length l a1).2]) ∧ OwnRow (Rs w) 22 1 w' w.heap.size v (allG l.length l a1).1 ∧ Below w.heap.size w w' := by
  obtain ⟨F, hF⟩ : ∃ F, allG l.length l a1 = F := ⟨_, rfl⟩
  have HI : Aside0 (comb [] (allG l.length (l.drop 0) a1) = F) := ⟨by rw [← hF]; exact comb_start _ _ _⟩
  rw [hF]
  have hlen : (l.length : Int) ≤ 9223372036854775807 := by have := hr0.2.1; omega
  have HL := Aside0.mk hL
  have H0 := Aside0.mk (And.intro hr0 (And.intro hc0 hb0))
  clear hF hr0 hb0 hL
  go_enter Try.func18, Try.ntmps18
  go_wp2_with fail
  go_loopg [6, 7] l.length (fun kq v6 v7 w' => ∃ (p : Nat) (acc : List (List Int)), v7 = .int .i64 p ∧ p ≤ l.length ∧ l.length ≤ p + kq ∧ Aside0 (acc.length * 3 ≤ p) ∧ Aside0 (OwnRow (Rs w) 22 1 w' w.heap.size v6 acc) ∧ Aside0 (Below w.heap.size w w') ∧ Aside0 (comb acc (allG kq (l.drop p) a1) = F))
  case atStart => exact ⟨0, [], rfl, by omega, by omega, ⟨by simp⟩, ⟨OwnRow.none_ _ _ _ _ _⟩, ⟨Below.refl _ _⟩, HI⟩
  case round =>
    clear HI
    obtain ⟨p, acc, rfl, hp, hk, HS, HR, HB, HI⟩ := hrel
    by_cases hlt : p < l.length
    · obtain ⟨k, hk1⟩ : ∃ k, gk = k + 1 := ⟨gk - 1, by omega⟩
      subst hk1
      obtain ⟨x, n, er, hT⟩ : ∃ x n er, tk (l.drop p) a1 = (x, n, er) := ⟨_, _, _, rfl⟩
      have HT := Aside0.mk hT
      have HNE : Aside0 (l.drop p ≠ []) := ⟨fun h => by have := congrArg List.length h; simp only [List.length_drop, List.length_nil] at this; omega⟩
      have hD := C_drop1 H0.out.1 (m := p) (c := c0) hp H0.out.2.1
      rw [if_neg (by omega)] at hD
      have HD := Aside0.mk hD
      have hpc : p ≤ c0 := by omega
      clear hT hD
      have HK := Aside0.mk (And.intro hp hk)
      clear hk
      go_wp2_with fail
      refine (rtake_at HB.out (l := l.drop p) (l.length - p) (c0 - p) HD.out (by rw [List.length_drop]) (by omega) (fun y hy => H0.out.2.2 y (List.mem_of_mem_drop hy)) a1 x n er HT.out).mono ?_
      rintro e w1 ⟨⟨A1, c1, rfl, hC1, hx1⟩, hB1⟩
      have HB2 := Aside0.mk (below_step HB.out hB1)
      have HR2 := Aside0.mk (OwnRow.below HR.out hB1)
      have HX1 := Aside0.mk (show Rs w x [.slice A1 x.length c1] from ⟨A1, c1, rfl, hx1, hC1⟩)
      clear hB1 hC1 hx1 HR HB
      by_cases her : er = 0
      · subst her
        obtain ⟨m, hm, hm3, hml, hmx⟩ := tk_ok (b := l.drop p) (a := a1) (by rw [HT.out])
        rw [HT.out] at hm hmx
        simp only at hm hmx
        subst hm
        have HI2 := Aside0.mk (comb_step (m := m) HNE.out (by rw [HT.out]) (by rw [HT.out]) HI.out)
        rw [HT.out, List.drop_drop] at HI2
        have HX := Aside0.mk (And.intro hm3 (And.intro hml hmx))
        have hpm : (p : Int) + (m : Int) ≤ 9223372036854775807 := by rw [List.length_drop] at hml; omega
        obtain ⟨A6, c6, e6, hc6⟩ := OwnRow.slice_ HR2.out
        subst e6
        clear HI hm3 hmx hml hc6
        go_wp2_with (first
          | ((with_reducible refine gate_builtin (b := .append) (xs := #[.tmp 27, .tmp 29]) rfl ?_); at_builtin; refine OwnRow.append (w0 := w) w.heap.size rfl (.tmp 27) (.tmp 29) 28 22 (.slice none 0 0) 1 24 rfl Try.underlying28 info22 rfl (by decide) (by decide) (.slice A6 acc.length c6) acc x [.slice A1 x.length c1] rfl rfl HX1.out rfl (fun u hu => by rw [List.mem_singleton.1 hu]; rfl) HR2.out HB2.out HB2.out.size ?aL ?_; (case aL => have h1 := HX.out; rw [List.length_drop] at h1; have := HS.out; have := HL.out; have := HK.out; omega); intro v30 w30 ho hb hg hat; clear HR2 HB2; have HR3 := Aside0.mk ho; have HB3 := Aside0.mk hb; clear ho hb hg hat)
          | fail)
        go_roundg k
        case measure => omega
        case rel =>
          have h1 := HX.out
          rw [List.length_drop] at h1
          have h2 := HK.out
          have h3 := HS.out
          exact ⟨p + m, acc ++ [x], by rfl, by omega, by omega, ⟨by rw [List.length_append, List.length_singleton]; omega⟩, HR3, HB3, HI2⟩
      · have HF := Aside0.mk (comb_bad HNE.out (by rw [HT.out]; exact her) HI.out)
        have her' : (er == 0) = false := by simpa using her
        have HTE : Aside0 ((tk (l.drop p) a1).2.2 = er) := ⟨by rw [HT.out]⟩
        clear HI her
        go_wp2_with fail
        try rw [Exit.noGoto_ret]
        go_ret2
        rw [HF.out, HTE.out]
        exact ⟨_, rfl, OwnRow.none_ _ _ _ _ _, HB2.out⟩
    · have e0 : l.drop p = [] := List.drop_eq_nil_of_le (by omega)
      have HF := Aside0.mk (comb_nil (acc := acc) (k := gk) (a := a1) (F := F) (by have h := HI.out; rw [e0] at h; exact h))
      clear HI e0
      go_wp2_with fail
      try rw [Exit.noGoto_ret]
      go_ret2
      rw [HF.out]
      exact ⟨_, rfl, HR.out, HB.out⟩
end Go.Proofs.Ytkfninhbbcfdcaa.Giv
