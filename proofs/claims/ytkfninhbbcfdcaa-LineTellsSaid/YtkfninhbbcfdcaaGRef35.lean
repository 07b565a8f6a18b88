/- What the reference's functions of a line come to. -/
import Derived.Test.YtkfninhbbcfdcaaGLine4
namespace Go.Proofs.Ytkfninhbbcfdcaa.Giv
open Go.RowKit Go.Proofs.YtkfninhbbcfdcaaW.PrintWords Go.Proofs.YtkfninhbbcfdcaaW.PrintLast Go.Proofs.YtkfninhbbcfdcaaW.PrintMore Go.Proofs.Ytkfninhbbcfdcaa.PReplyTells
set_option linter.unusedVariables false
set_option linter.unusedSimpArgs false

abbrev z47 : Array Value := #[.slice none 0 0, .bool false, .slice none 0 0]
/-- The two blocks that each function of the reference makes first. -/
theorem two47 (w : World) (a b c : Value) : ∃ w1 w2 r r1, w.heap.size = r ∧ w.alloc (.cells #[a, b, c] 47) = w1 ∧ w1.heap.size = r1 ∧ w1.alloc (.cells z47 47) = w2 ∧ r1 = r + 1 ∧
    Aside0 (w2.heap[r]? = some (.cells #[a, b, c] 47 (0, 0)) ∧ w2.heap[r1]? = some (.cells z47 47 (0, 0)) ∧ Below w.heap.size w w2 ∧ w2.heap.size = r + 2) := by
  refine ⟨_, _, _, _, rfl, rfl, rfl, rfl, by simp, ⟨blk_alloc (blk_new w _) _, ?_, below_alloc (below_alloc (Below.refl _ _) _) _, by simp⟩⟩
  exact blk_new _ _

/-- A result is laid into its block. -/
theorem put47 {W : World} {r1 : Nat} {cs : Array Value} (h : W.heap[r1]? = some (.cells cs 47 (0, 0))) (hs : cs.size = 3) (a b c : Value) :
    (((W.setCell ⟨r1, 0, none⟩ a).setCell ⟨r1, 1, none⟩ b).setCell ⟨r1, 2, none⟩ c).heap[r1]? = some (.cells #[a, b, c] 47 (0, 0)) := by
  have h3 := blk_set (blk_set (blk_set h 0 a) 1 b) 2 c
  rw [h3]
  congr 2
  obtain ⟨l⟩ := cs
  match l, hs with
  | [x, y, z], _ => rfl
theorem put47_below {w W : World} {r r1 : Nat} (hr : w.heap.size = r) (hb : Below w.heap.size w W) (h : r ≤ r1) (a b c : Value) :
    Below r w (((W.setCell ⟨r1, 0, none⟩ a).setCell ⟨r1, 1, none⟩ b).setCell ⟨r1, 2, none⟩ c) := by
  rw [hr] at hb
  exact ((hb.setCell (p := ⟨r1, 0, none⟩) h _).setCell (p := ⟨r1, 1, none⟩) h _).setCell (p := ⟨r1, 2, none⟩) h _

set_option maxHeartbeats 4000000 in
set_option maxRecDepth 100000 in
theorem rRelease_calls (Ai : Option Addr) (ni ci : Nat) (ov : Bool) (Ao : Option Addr) (L co : Nat) (hL : L ≤ co) (hb : L < 1000) (n : Int) (T : Nat) (hT : takeN n L = T) (w : World) :
    Calls Try.prog 31 #[.agg #[.slice Ai ni ci, .bool ov, .slice Ao L co], .int .i64 n] w fun e w' =>
      e = .returned (.tuple #[.agg #[.slice Ai ni ci, .bool ov, .slice (if co = T then Ao else Option.map (fun x => x.add (T * 4)) Ao) (L - T) (co - T)], .slice Ao T co]) ∧ Below w.heap.size w w' := by
  obtain ⟨w1, w2, r, r1, hr, hw1, hr1, hw2, hrr, H⟩ := two47 w (.slice Ai ni ci) (.bool ov) (.slice Ao L co)
  have x0 : w2.cell? ⟨r, 0, none⟩ = some (.slice Ai ni ci) := blk_cell H.out.1 0
  have x1 : w2.cell? ⟨r, 1, none⟩ = some (.bool ov) := blk_cell H.out.1 1
  have x2 : w2.cell? ⟨r, 2, none⟩ = some (.slice Ao L co) := blk_cell H.out.1 2
  have s2 : w2.frozen? ⟨r, 2, none⟩ = false := blk_frozen H.out.1 2
  have y0 : w2.cell? ⟨r1, 0, none⟩ = some (.slice none 0 0) := blk_cell H.out.2.1 0
  have y1 : w2.cell? ⟨r1, 1, none⟩ = some (.bool false) := blk_cell H.out.2.1 1
  have y2 : w2.cell? ⟨r1, 2, none⟩ = some (.slice none 0 0) := blk_cell H.out.2.1 2
  have t0 : w2.frozen? ⟨r1, 0, none⟩ = false := blk_frozen H.out.2.1 0
  have t1 : w2.frozen? ⟨r1, 1, none⟩ = false := blk_frozen H.out.2.1 1
  have t2 : w2.frozen? ⟨r1, 2, none⟩ = false := blk_frozen H.out.2.1 2
  have hne : r1 ≠ r := by omega
  have HRR := Aside0.mk (And.intro hr (And.intro hrr hne))
  clear hrr
  have hcase : (n < 0 ∧ T = 0) ∨ (0 ≤ n ∧ (L : Int) < n ∧ T = L) ∨ (0 ≤ n ∧ n ≤ L ∧ n = T ∧ T ≤ L) := by
    unfold takeN at hT
    omega
  clear hT
  have HF := fun (V : Value) => (show Aside0 (((((w2.setCell ⟨r, 2, none⟩ V).setCell ⟨r1, 0, none⟩ (.slice Ai ni ci)).setCell ⟨r1, 1, none⟩ (.bool ov)).setCell ⟨r1, 2, none⟩ V).heap[r1]? = some (.cells #[.slice Ai ni ci, .bool ov, V] 47 (0, 0)) ∧ Below r w ((((w2.setCell ⟨r, 2, none⟩ V).setCell ⟨r1, 0, none⟩ (.slice Ai ni ci)).setCell ⟨r1, 1, none⟩ (.bool ov)).setCell ⟨r1, 2, none⟩ V)) from
    ⟨put47 (blk_far H.out.2.1 HRR.out.2.2 V) rfl _ _ _, put47_below HRR.out.1 (H.out.2.2.1.setCell (p := ⟨r, 2, none⟩) (Nat.le_of_eq HRR.out.1) V) (by have := HRR.out; omega) _ _ _⟩)
  rcases hcase with ⟨h1, rfl⟩ | ⟨h1, h2, rfl⟩ | ⟨h1, h2, rfl, h3⟩
  all_goals
    go_enter Try.func31, Try.ntmps31
    go_wp2_with fail
    all_goals exact bodyPost_ret (results_ct rfl _ _ r1 47 #[.slice Ai ni ci, .bool ov, _] (0, 0) _ rfl (HF _).out.1 Try.underlying47 rfl (by kernel_rfl)) rfl ⟨rfl, (HF _).out.2⟩

theorem results_cttt {P : Program} {fn : Func} {p u v y : Tmp} {ty : TypeId} (h : fn.results = #[.cell p ty, .tmp u, .tmp v, .tmp y]) (tmps : Array Value) (w : World) (g : Nat) (t : TypeId) (cs : Array Value) (fr : Nat × Nat) (d : TypeDesc)
    (hp : tmps.getD p undef = .pointer (some ⟨g, 0, none⟩)) (hg : w.heap[g]? = some (.cells cs t fr))
    (hu : P.underlying ty = some d) (hd : (match d with | .struct _ | .array _ _ => true | _ => false) = true) (hi : (P.info? ty).map (·.size) = some cs.size) :
    (results fn tmps).run P w = .ok (.tuple #[.agg cs, tmps.getD u undef, tmps.getD v undef, tmps.getD y undef]) w := by
  have hp' : tmps[p]?.getD undef = .pointer (some ⟨g, 0, none⟩) := by simpa using hp
  simp [results, h, hp', asAddr, run_loadVar_row w g t ty cs fr d hg hu hd hi]
theorem rNext_over (Ai : Option Addr) (ni ci : Nat) (Ao : Option Addr) (no co : Nat) (w : World) :
    Calls Try.prog 27 #[.agg #[.slice Ai ni ci, .bool true, .slice Ao no co]] w fun e w' =>
      e = .returned (.tuple #[.agg #[.slice none 0 0, .bool false, .slice Ao no co], .slice none 0 0, .int .i64 18, .bool true]) ∧ Below w.heap.size w w' := by
  obtain ⟨w1, w2, r, r1, hr, hw1, hr1, hw2, hrr, H⟩ := two47 w (.slice Ai ni ci) (.bool true) (.slice Ao no co)
  have x0 : w2.cell? ⟨r, 0, none⟩ = some (.slice Ai ni ci) := blk_cell H.out.1 0
  have x1 : w2.cell? ⟨r, 1, none⟩ = some (.bool true) := blk_cell H.out.1 1
  have x2 : w2.cell? ⟨r, 2, none⟩ = some (.slice Ao no co) := blk_cell H.out.1 2
  have s0 : w2.frozen? ⟨r, 0, none⟩ = false := blk_frozen H.out.1 0
  have s1 : w2.frozen? ⟨r, 1, none⟩ = false := blk_frozen H.out.1 1
  have y0 : w2.cell? ⟨r1, 0, none⟩ = some (.slice none 0 0) := blk_cell H.out.2.1 0
  have y1 : w2.cell? ⟨r1, 1, none⟩ = some (.bool false) := blk_cell H.out.2.1 1
  have y2 : w2.cell? ⟨r1, 2, none⟩ = some (.slice none 0 0) := blk_cell H.out.2.1 2
  have t0 : w2.frozen? ⟨r1, 0, none⟩ = false := blk_frozen H.out.2.1 0
  have t1 : w2.frozen? ⟨r1, 1, none⟩ = false := blk_frozen H.out.2.1 1
  have t2 : w2.frozen? ⟨r1, 2, none⟩ = false := blk_frozen H.out.2.1 2
  have hne : r1 ≠ r := by omega
  have HRR := Aside0.mk (And.intro hr (And.intro hrr hne))
  clear hrr
  have HF : Aside0 ((((((w2.setCell ⟨r, 0, none⟩ (.slice none 0 0)).setCell ⟨r, 1, none⟩ (.bool false)).setCell ⟨r1, 0, none⟩ (.slice none 0 0)).setCell ⟨r1, 1, none⟩ (.bool false)).setCell ⟨r1, 2, none⟩ (.slice Ao no co)).heap[r1]? = some (.cells #[.slice none 0 0, .bool false, .slice Ao no co] 47 (0, 0)) ∧
      Below r w (((((w2.setCell ⟨r, 0, none⟩ (.slice none 0 0)).setCell ⟨r, 1, none⟩ (.bool false)).setCell ⟨r1, 0, none⟩ (.slice none 0 0)).setCell ⟨r1, 1, none⟩ (.bool false)).setCell ⟨r1, 2, none⟩ (.slice Ao no co))) :=
    ⟨put47 (blk_far (blk_far H.out.2.1 HRR.out.2.2 _) HRR.out.2.2 _) rfl _ _ _, put47_below HRR.out.1 ((H.out.2.2.1.setCell (p := ⟨r, 0, none⟩) (Nat.le_of_eq HRR.out.1) _).setCell (p := ⟨r, 1, none⟩) (Nat.le_of_eq HRR.out.1) _) (by have := HRR.out; omega) _ _ _⟩
  go_enter Try.func27, Try.ntmps27
  go_wp2_with fail
  exact bodyPost_ret (results_cttt rfl _ _ r1 47 #[.slice none 0 0, .bool false, .slice Ao no co] (0, 0) _ rfl HF.out.1 Try.underlying47 rfl (by kernel_rfl)) rfl ⟨rfl, by rw [hr]; exact HF.out.2⟩
/-- What the reference's Next answers where there is no more than bytes. -/
def NextP (w : World) (Ai : Option Addr) (ci : Nat) (inn : List Int) (Ao : Option Addr) (no co : Nat) (x : List Int) (n : Nat) (er : Int) (e : Ending) (w' : World) : Prop :=
  Below w.heap.size w w' ∧ (if er = 12 then e = .returned (.tuple #[.agg #[.slice Ai inn.length ci, .bool false, .slice Ao no co], .slice none 0 0, .int .i64 0, .bool false])
    else ∃ A1 c1 A', e = .returned (.tuple #[.agg #[.slice A' (inn.length - n) (ci - n), .bool false, .slice Ao no co], .slice A1 x.length c1, .int .i64 er, .bool true]) ∧ Kd.C (Kd.int .u8) w A1 x.length x ∧ x.length ≤ c1 ∧
      ∀ W, Kd.C (Kd.int .u8) W Ai inn.length inn → Kd.C (Kd.int .u8) W A' (inn.length - n) (inn.drop n))
set_option maxHeartbeats 4000000 in
set_option maxRecDepth 100000 in
theorem rNext_in (Ai : Option Addr) (ci : Nat) (inn : List Int) (Ao : Option Addr) (no co : Nat) (w : World) (hC : Kd.C (Kd.int .u8) w Ai inn.length inn) (hc : inn.length ≤ ci) (hb : bytesOk inn) (x : List Int) (n : Nat) (er : Int) (hT : tk inn 60 = (x, (n : Int), er)) (hn : n ≤ inn.length) :
    Calls Try.prog 27 #[.agg #[.slice Ai inn.length ci, .bool false, .slice Ao no co]] w (NextP w Ai ci inn Ao no co x n er) := by
  obtain ⟨w1, w2, r, r1, hr, hw1, hr1, hw2, hrr, H⟩ := two47 w (.slice Ai inn.length ci) (.bool false) (.slice Ao no co)
  have x0 : w2.cell? ⟨r, 0, none⟩ = some (.slice Ai inn.length ci) := blk_cell H.out.1 0
  have x1 : w2.cell? ⟨r, 1, none⟩ = some (.bool false) := blk_cell H.out.1 1
  have hne : r1 ≠ r := by omega
  have HRR := Aside0.mk (And.intro hr (And.intro hrr hne))
  have H0 := Aside0.mk (And.intro hC (And.intro hc (And.intro hb (And.intro hT hn))))
  clear hrr hC hc hb hT hn
  go_enter Try.func27, Try.ntmps27
  go_wp2_with fail
  refine (rtake_at H.out.2.2.1 inn.length ci H0.out.1 rfl H0.out.2.1 H0.out.2.2.1 60 x n er H0.out.2.2.2.1).mono ?_
  rintro e w3 ⟨⟨A1, c1, rfl, hC1, hl1⟩, hB3⟩
  have HX := Aside0.mk (And.intro hC1 hl1)
  have HB := Aside0.mk (And.intro (blk_below H.out.1 hB3) (And.intro (blk_below H.out.2.1 hB3) (below_step H.out.2.2.1 hB3)))
  clear hC1 hl1 hB3 x0 x1 H
  have x0 : w3.cell? ⟨r, 0, none⟩ = some (.slice Ai inn.length ci) := blk_cell HB.out.1 0
  have x1 : w3.cell? ⟨r, 1, none⟩ = some (.bool false) := blk_cell HB.out.1 1
  have x2 : w3.cell? ⟨r, 2, none⟩ = some (.slice Ao no co) := blk_cell HB.out.1 2
  have s0 : w3.frozen? ⟨r, 0, none⟩ = false := blk_frozen HB.out.1 0
  have y0 : w3.cell? ⟨r1, 0, none⟩ = some (.slice none 0 0) := blk_cell HB.out.2.1 0
  have y1 : w3.cell? ⟨r1, 1, none⟩ = some (.bool false) := blk_cell HB.out.2.1 1
  have y2 : w3.cell? ⟨r1, 2, none⟩ = some (.slice none 0 0) := blk_cell HB.out.2.1 2
  have t0 : w3.frozen? ⟨r1, 0, none⟩ = false := blk_frozen HB.out.2.1 0
  have t1 : w3.frozen? ⟨r1, 1, none⟩ = false := blk_frozen HB.out.2.1 1
  have t2 : w3.frozen? ⟨r1, 2, none⟩ = false := blk_frozen HB.out.2.1 2
  by_cases her : er = 12
  · subst her
    have HF : Aside0 ((((w3.setCell ⟨r1, 0, none⟩ (.slice Ai inn.length ci)).setCell ⟨r1, 1, none⟩ (.bool false)).setCell ⟨r1, 2, none⟩ (.slice Ao no co)).heap[r1]? = some (.cells #[.slice Ai inn.length ci, .bool false, .slice Ao no co] 47 (0, 0)) ∧
        Below r w (((w3.setCell ⟨r1, 0, none⟩ (.slice Ai inn.length ci)).setCell ⟨r1, 1, none⟩ (.bool false)).setCell ⟨r1, 2, none⟩ (.slice Ao no co))) :=
      ⟨put47 HB.out.2.1 rfl _ _ _, put47_below HRR.out.1 HB.out.2.2 (by have := HRR.out; omega) _ _ _⟩
    go_wp2_with fail
    exact bodyPost_ret (results_cttt rfl _ _ r1 47 #[.slice Ai inn.length ci, .bool false, .slice Ao no co] (0, 0) _ rfl HF.out.1 Try.underlying47 rfl (by kernel_rfl)) rfl ⟨by rw [hr]; exact HF.out.2, by rw [if_pos rfl]; rfl⟩
  · have her' : (er == 12) = false := by simpa using her
    obtain ⟨A', hif⟩ : ∃ A', (if ci = n then Ai else Option.map (fun x => x.add n) Ai) = A' := ⟨_, rfl⟩
    have hcn : n ≤ inn.length := H0.out.2.2.2.2
    have hnc : n ≤ ci := by have := H0.out.2.1; omega
    have HER := Aside0.mk her
    have HIF := Aside0.mk (show ∀ W, Kd.C (Kd.int .u8) W Ai inn.length inn → Kd.C (Kd.int .u8) W A' (inn.length - n) (inn.drop n) from fun W h => by
      have := C_drop1 h hcn H0.out.2.1
      rwa [hif] at this)
    clear her
    have HF := fun (V : Value) => (show Aside0 (((((w3.setCell ⟨r, 0, none⟩ V).setCell ⟨r1, 0, none⟩ V).setCell ⟨r1, 1, none⟩ (.bool false)).setCell ⟨r1, 2, none⟩ (.slice Ao no co)).heap[r1]? = some (.cells #[V, .bool false, .slice Ao no co] 47 (0, 0)) ∧
        Below r w ((((w3.setCell ⟨r, 0, none⟩ V).setCell ⟨r1, 0, none⟩ V).setCell ⟨r1, 1, none⟩ (.bool false)).setCell ⟨r1, 2, none⟩ (.slice Ao no co))) from
      ⟨put47 (blk_far HB.out.2.1 HRR.out.2.2 V) rfl _ _ _, put47_below HRR.out.1 (HB.out.2.2.setCell (p := ⟨r, 0, none⟩) (Nat.le_of_eq HRR.out.1) V) (by have := HRR.out; omega) _ _ _⟩)
    go_wp2_with fail
    exact bodyPost_ret (results_cttt rfl _ _ r1 47 #[_, .bool false, .slice Ao no co] (0, 0) _ rfl (HF _).out.1 Try.underlying47 rfl (by kernel_rfl)) rfl ⟨by rw [hr]; exact (HF _).out.2, by rw [if_neg HER.out]; exact ⟨A1, c1, A', rfl, HX.out.1, HX.out.2, HIF.out⟩⟩

/-- The three blocks that the reference's Tell makes first. -/
theorem three47 (w : World) (a b c k p er d : Value) : ∃ w1 w2 w3 r r1 r2, w.heap.size = r ∧ w.alloc (.cells #[a, b, c] 47) = w1 ∧ w1.heap.size = r1 ∧ w1.alloc (.cells #[k, p, er, d] 49) = w2 ∧ w2.heap.size = r2 ∧ w2.alloc (.cells z47 47) = w3 ∧ (r1 = r + 1 ∧ r2 = r + 2) ∧
    Aside0 (w3.heap[r]? = some (.cells #[a, b, c] 47 (0, 0)) ∧ w3.heap[r1]? = some (.cells #[k, p, er, d] 49 (0, 0)) ∧ w3.heap[r2]? = some (.cells z47 47 (0, 0)) ∧ Below w.heap.size w w3) := by
  refine ⟨_, _, _, _, _, _, rfl, rfl, rfl, rfl, rfl, rfl, by simp, ⟨blk_alloc (blk_alloc (blk_new w _) _) _, blk_alloc (blk_new _ _) _, blk_new _ _, below_alloc (below_alloc (below_alloc (Below.refl _ _) _) _) _⟩⟩
set_option maxHeartbeats 4000000 in
set_option maxRecDepth 100000 in
theorem rTell_no (Ai : Option Addr) (ni ci : Nat) (ov : Bool) (Ao : Option Addr) (L co : Nat) (k p er : Int) (D : Option Addr) (n m : Nat) (w : World) (hk : if keepsO k = true then 7 ≤ L else 8 ≤ L) :
    Calls Try.prog 29 #[.agg #[.slice Ai ni ci, .bool ov, .slice Ao L co], .agg #[.int .i64 k, .int .i64 p, .int .i64 er, .slice D n m]] w fun e w' =>
      e = .returned (.tuple #[.agg #[.slice Ai ni ci, .bool ov, .slice Ao L co], .bool false]) ∧ Below w.heap.size w w' := by
  obtain ⟨w1, w2, w3, r, r1, r2, hr, hw1, hr1, hw2, hr2, hw3, hrr, H⟩ := three47 w (.slice Ai ni ci) (.bool ov) (.slice Ao L co) (.int .i64 k) (.int .i64 p) (.int .i64 er) (.slice D n m)
  have x0 : w3.cell? ⟨r, 0, none⟩ = some (.slice Ai ni ci) := blk_cell H.out.1 0
  have x1 : w3.cell? ⟨r, 1, none⟩ = some (.bool ov) := blk_cell H.out.1 1
  have x2 : w3.cell? ⟨r, 2, none⟩ = some (.slice Ao L co) := blk_cell H.out.1 2
  have u0 : w3.cell? ⟨r1, 0, none⟩ = some (.int .i64 k) := blk_cell H.out.2.1 0
  have y0 : w3.cell? ⟨r2, 0, none⟩ = some (.slice none 0 0) := blk_cell H.out.2.2.1 0
  have y1 : w3.cell? ⟨r2, 1, none⟩ = some (.bool false) := blk_cell H.out.2.2.1 1
  have y2 : w3.cell? ⟨r2, 2, none⟩ = some (.slice none 0 0) := blk_cell H.out.2.2.1 2
  have t0 : w3.frozen? ⟨r2, 0, none⟩ = false := blk_frozen H.out.2.2.1 0
  have t1 : w3.frozen? ⟨r2, 1, none⟩ = false := blk_frozen H.out.2.2.1 1
  have t2 : w3.frozen? ⟨r2, 2, none⟩ = false := blk_frozen H.out.2.2.1 2
  have HRR := Aside0.mk (And.intro hr hrr)
  clear hrr
  have HF : Aside0 ((((w3.setCell ⟨r2, 0, none⟩ (.slice Ai ni ci)).setCell ⟨r2, 1, none⟩ (.bool ov)).setCell ⟨r2, 2, none⟩ (.slice Ao L co)).heap[r2]? = some (.cells #[.slice Ai ni ci, .bool ov, .slice Ao L co] 47 (0, 0)) ∧
      Below r w (((w3.setCell ⟨r2, 0, none⟩ (.slice Ai ni ci)).setCell ⟨r2, 1, none⟩ (.bool ov)).setCell ⟨r2, 2, none⟩ (.slice Ao L co))) :=
    ⟨put47 H.out.2.2.1 rfl _ _ _, put47_below HRR.out.1 H.out.2.2.2 (by have := HRR.out; omega) _ _ _⟩
  have hcase : (k = 1 ∧ (8 : Int) ≤ L) ∨ (k = 5 ∧ (8 : Int) ≤ L) ∨ ((k == 1) = false ∧ (k == 5) = false ∧ (7 : Int) ≤ L) := by
    unfold keepsO at hk
    by_cases h1 : k = 1
    · subst h1; simp at hk; exact .inl ⟨rfl, by omega⟩
    · by_cases h5 : k = 5
      · subst h5; simp at hk; exact .inr (.inl ⟨rfl, by omega⟩)
      · simp [h1, h5] at hk; exact .inr (.inr ⟨by simpa using h1, by simpa using h5, by omega⟩)
  clear hk
  rcases hcase with ⟨rfl, h8⟩ | ⟨rfl, h8⟩ | ⟨h1, h5, h7⟩
  all_goals
    go_enter Try.func29, Try.ntmps29
    go_wp2_with fail
    exact bodyPost_ret (results_ct rfl _ _ r2 47 #[.slice Ai ni ci, .bool ov, .slice Ao L co] (0, 0) _ rfl HF.out.1 Try.underlying47 rfl (by kernel_rfl)) rfl ⟨rfl, by rw [hr]; exact HF.out.2⟩
def TellP (wq w : World) (Ai : Option Addr) (ni ci : Nat) (ov : Bool) (xs : List S49) (e : Ending) (w' : World) : Prop :=
  ∃ A c, e = .returned (.tuple #[.agg #[.slice Ai ni ci, .bool ov, .slice A xs.length c], .bool true]) ∧ Kd.R (FO wq) 49 w' w.heap.size (fun _ => True) (.slice A xs.length c) xs ∧ Below w.heap.size w w'
theorem tellP_of {wq w W : World} {Ai : Option Addr} {ni ci : Nat} {ov : Bool} {xs : List S49} {y : S49} {A : Option Addr} {c r r2 : Nat} {cs : Array Value} {e : Ending}
    (h : Kd.R (FO wq) 49 W w.heap.size (fun _ => True) (.slice A (xs ++ [y]).length c) (xs ++ [y])) (hb : Below w.heap.size w W) (hr : w.heap.size = r) (hr1 : r ≤ r) (hr2 : r ≤ r2)
    (hx : W.heap[r]? = some (.cells cs 47 (0, 0))) (hy : W.heap[r2]? = some (.cells z47 47 (0, 0))) (hne : r2 ≠ r) (he : e = .returned (.tuple #[.agg #[.slice Ai ni ci, .bool ov, .slice A (xs.length + 1) c], .bool true])) :
    TellP wq w Ai ni ci ov (xs ++ [y]) e ((((W.setCell ⟨r, 2, none⟩ (.slice A (xs.length + 1) c)).setCell ⟨r2, 0, none⟩ (.slice Ai ni ci)).setCell ⟨r2, 1, none⟩ (.bool ov)).setCell ⟨r2, 2, none⟩ (.slice A (xs.length + 1) c)) := by
  refine ⟨A, c, by rw [he, List.length_append]; rfl, ?_, ?_⟩
  · have ht : ∀ q, q ∈ 49 :: (FO wq).E → q ≠ 47 := by intro p hp; simp [FO, Kd.fixed] at hp; subst hp; decide
    have h1 := Kd.R_set h hx ht 2 (.slice A (xs.length + 1) c)
    have y1 := blk_far hy (p := ⟨r, 2, none⟩) hne (.slice A (xs.length + 1) c)
    exact Kd.R_set (Kd.R_set (Kd.R_set h1 y1 ht 0 _) (blk_set y1 0 _) ht 1 _) (blk_set (blk_set y1 0 _) 1 _) ht 2 _
  · have := put47_below (r1 := r2) hr (hb.setCell (p := ⟨r, 2, none⟩) (Nat.le_of_eq hr) (.slice A (xs.length + 1) c)) hr2 (.slice Ai ni ci) (.bool ov) (.slice A (xs.length + 1) c)
    rwa [← hr] at this ⊢
set_option maxHeartbeats 4000000 in
set_option maxRecDepth 100000 in
theorem rTell_yes (wq : World) (Ai : Option Addr) (ni ci : Nat) (ov : Bool) (Ao : Option Addr) (co : Nat) (xs : List S49) (k p er : Int) (dd : List Int) (D : Option Addr) (m : Nat) (w : World) (hk : if keepsO k = true then xs.length < 7 else xs.length < 8)
    (hC : Kd.C (FO wq) w Ao xs.length xs) (hm : dd.length ≤ m) (hD : Kd.C (Kd.int .u8) wq D dd.length dd) :
    Calls Try.prog 29 #[.agg #[.slice Ai ni ci, .bool ov, .slice Ao xs.length co], .agg #[.int .i64 k, .int .i64 p, .int .i64 er, .slice D dd.length m]] w (TellP wq w Ai ni ci ov (xs ++ [⟨k, p, er, dd⟩])) := by
  obtain ⟨w1, w2, w3, r, r1, r2, hr, hw1, hr1, hw2, hr2, hw3, hrr, H⟩ := three47 w (.slice Ai ni ci) (.bool ov) (.slice Ao xs.length co) (.int .i64 k) (.int .i64 p) (.int .i64 er) (.slice D dd.length m)
  have x0 : w3.cell? ⟨r, 0, none⟩ = some (.slice Ai ni ci) := blk_cell H.out.1 0
  have x1 : w3.cell? ⟨r, 1, none⟩ = some (.bool ov) := blk_cell H.out.1 1
  have x2 : w3.cell? ⟨r, 2, none⟩ = some (.slice Ao xs.length co) := blk_cell H.out.1 2
  have u0 : w3.cell? ⟨r1, 0, none⟩ = some (.int .i64 k) := blk_cell H.out.2.1 0
  have HRR := Aside0.mk (And.intro hr (And.intro hrr.1 (And.intro hrr.2 (show r2 ≠ r by omega))))
  have H0 := Aside0.mk (And.intro (Kd.C_below hC H.out.2.2.2) (And.intro hm hD))
  clear hrr hC hm hD
  have hcase : (k = 1 ∧ (xs.length : Int) < 8) ∨ (k = 5 ∧ (xs.length : Int) < 8) ∨ ((k == 1) = false ∧ (k == 5) = false ∧ (xs.length : Int) < 7) := by
    unfold keepsO at hk
    by_cases h1 : k = 1
    · subst h1; simp at hk; exact .inl ⟨rfl, by omega⟩
    · by_cases h5 : k = 5
      · subst h5; simp at hk; exact .inr (.inl ⟨rfl, by omega⟩)
      · simp [h1, h5] at hk; exact .inr (.inr ⟨by simpa using h1, by simpa using h5, by omega⟩)
  have HL : Aside0 (xs.length < 8) := ⟨by rcases hcase with h | h | h <;> omega⟩
  clear hk
  rcases hcase with ⟨rfl, h8⟩ | ⟨rfl, h8⟩ | ⟨h1, h5, h7⟩
  · go_enter Try.func29, Try.ntmps29
    go_wp2_with (first
      | ((with_reducible refine gate_builtin (b := .append) (xs := #[.tmp 22, .tmp 24]) rfl ?_); at_builtin; refine Kd.R_append_rows (FO wq) (w0 := w3) w.heap.size rfl (.tmp 22) (.tmp 24) 45 49 (.agg #[.int .i64 0, .int .i64 0, .int .i64 0, .slice none 0 0]) 48 rfl Try.underlying45 info49 rfl (show 0 < 4 by decide) (by decide) (.slice none 0 0) ([] : List S49) xs Ao xs.length co (fun _ => True) (fun _ => False) rfl rfl (Kd.R_nil _ _ _ _ _) H0.out.1 (fun _ _ h => h) (fun _ h => h.elim) (fun k hk => trivial) (Below.refl _ _) (by have := H.out.2.2.2.size; omega) ?aL ?_; (case aL => have := HL.out; simp; omega); intro v25 w5 ho hb hg hat; rw [List.nil_append] at ho; obtain ⟨A8, c8, e8⟩ := Kd.R_slice ho; subst e8; have HO5 := Aside0.mk ho; have HB5 := Aside0.mk hb; have HX5 := Aside0.mk (blk_grown H.out.1 hg (by simp [Value.ownBlock])); have HY5 := Aside0.mk (blk_grown H.out.2.2.1 hg (by simp [Value.ownBlock])); have HU5 := Aside0.mk (blk_grown H.out.2.1 hg (by simp [Value.ownBlock])); have v0 : w5.cell? ⟨r1, 0, none⟩ = some (.int .i64 1) := blk_cell HU5.out 0; have v1 : w5.cell? ⟨r1, 1, none⟩ = some (.int .i64 p) := blk_cell HU5.out 1; have v2 : w5.cell? ⟨r1, 2, none⟩ = some (.int .i64 er) := blk_cell HU5.out 2; have v3 : w5.cell? ⟨r1, 3, none⟩ = some (.slice D dd.length m) := blk_cell HU5.out 3; clear ho hb hg hat)
      | ((with_reducible refine gate_builtin (b := .append) (xs := #[.tmp 26, .tmp 28]) rfl ?_); at_builtin; refine Kd.R_append (FO wq) (w0 := w3) w.heap.size rfl (.tmp 26) (.tmp 28) 45 49 (.agg #[.int .i64 0, .int .i64 0, .int .i64 0, .slice none 0 0]) 48 rfl Try.underlying45 info49 rfl (show 0 < 4 by decide) (by decide) (.slice A8 xs.length c8) xs ⟨1, p, er, dd⟩ [.int .i64 1, .int .i64 p, .int .i64 er, .slice D dd.length m] (fun _ => True) (fun _ => False) rfl rfl (k49_mk _ ⟨1, p, er, dd⟩ H0.out.2.1 H0.out.2.2) (fun k hk => hk.elim) (fun k hk => trivial) HO5.out HB5.out (by have := H.out.2.2.2.size; have := HB5.out.size; omega) ?aL ?_; (case aL => have := HL.out; omega); intro v29 w6 ho hb hg hat; obtain ⟨A9, c9, e9⟩ := Kd.R_slice ho; subst e9; have HO6 := Aside0.mk ho; have HB6 := Aside0.mk hb; have HX6 := Aside0.mk (blk_grown HX5.out hg (Kd.R_ne HO5.out HX5.out (by decide))); have HY6 := Aside0.mk (blk_grown HY5.out hg (Kd.R_ne HO5.out HY5.out (by decide))); have q0 : w6.cell? ⟨r, 0, none⟩ = some (.slice Ai ni ci) := blk_cell HX6.out 0; have q1 : w6.cell? ⟨r, 1, none⟩ = some (.bool ov) := blk_cell HX6.out 1; have q2 : w6.cell? ⟨r, 2, none⟩ = some (.slice Ao xs.length co) := blk_cell HX6.out 2; have s2 : w6.frozen? ⟨r, 2, none⟩ = false := blk_frozen HX6.out 2; have y0 : w6.cell? ⟨r2, 0, none⟩ = some (.slice none 0 0) := blk_cell HY6.out 0; have y1 : w6.cell? ⟨r2, 1, none⟩ = some (.bool false) := blk_cell HY6.out 1; have y2 : w6.cell? ⟨r2, 2, none⟩ = some (.slice none 0 0) := blk_cell HY6.out 2; have t0 : w6.frozen? ⟨r2, 0, none⟩ = false := blk_frozen HY6.out 0; have t1 : w6.frozen? ⟨r2, 1, none⟩ = false := blk_frozen HY6.out 1; have t2 : w6.frozen? ⟨r2, 2, none⟩ = false := blk_frozen HY6.out 2; have hne : r2 ≠ r := HRR.out.2.2.2; clear ho hb hg hat v0 v1 v2 v3)
      | fail)
    refine bodyPost_ret (results_ct rfl _ _ r2 47 #[.slice Ai ni ci, .bool ov, .slice A9 (xs.length + 1) c9] (0, 0) _ rfl (put47 (blk_far HY6.out HRR.out.2.2.2 _) rfl _ _ _) Try.underlying47 rfl (by kernel_rfl)) rfl ?_
    exact tellP_of HO6.out (H.out.2.2.2.trans HB6.out) HRR.out.1 (Nat.le_of_eq rfl) (by have := HRR.out; omega) HX6.out HY6.out HRR.out.2.2.2 rfl
  · go_enter Try.func29, Try.ntmps29
    go_wp2_with (first
      | ((with_reducible refine gate_builtin (b := .append) (xs := #[.tmp 22, .tmp 24]) rfl ?_); at_builtin; refine Kd.R_append_rows (FO wq) (w0 := w3) w.heap.size rfl (.tmp 22) (.tmp 24) 45 49 (.agg #[.int .i64 0, .int .i64 0, .int .i64 0, .slice none 0 0]) 48 rfl Try.underlying45 info49 rfl (show 0 < 4 by decide) (by decide) (.slice none 0 0) ([] : List S49) xs Ao xs.length co (fun _ => True) (fun _ => False) rfl rfl (Kd.R_nil _ _ _ _ _) H0.out.1 (fun _ _ h => h) (fun _ h => h.elim) (fun k hk => trivial) (Below.refl _ _) (by have := H.out.2.2.2.size; omega) ?aL ?_; (case aL => have := HL.out; simp; omega); intro v25 w5 ho hb hg hat; rw [List.nil_append] at ho; obtain ⟨A8, c8, e8⟩ := Kd.R_slice ho; subst e8; have HO5 := Aside0.mk ho; have HB5 := Aside0.mk hb; have HX5 := Aside0.mk (blk_grown H.out.1 hg (by simp [Value.ownBlock])); have HY5 := Aside0.mk (blk_grown H.out.2.2.1 hg (by simp [Value.ownBlock])); have HU5 := Aside0.mk (blk_grown H.out.2.1 hg (by simp [Value.ownBlock])); have v0 : w5.cell? ⟨r1, 0, none⟩ = some (.int .i64 5) := blk_cell HU5.out 0; have v1 : w5.cell? ⟨r1, 1, none⟩ = some (.int .i64 p) := blk_cell HU5.out 1; have v2 : w5.cell? ⟨r1, 2, none⟩ = some (.int .i64 er) := blk_cell HU5.out 2; have v3 : w5.cell? ⟨r1, 3, none⟩ = some (.slice D dd.length m) := blk_cell HU5.out 3; clear ho hb hg hat)
      | ((with_reducible refine gate_builtin (b := .append) (xs := #[.tmp 26, .tmp 28]) rfl ?_); at_builtin; refine Kd.R_append (FO wq) (w0 := w3) w.heap.size rfl (.tmp 26) (.tmp 28) 45 49 (.agg #[.int .i64 0, .int .i64 0, .int .i64 0, .slice none 0 0]) 48 rfl Try.underlying45 info49 rfl (show 0 < 4 by decide) (by decide) (.slice A8 xs.length c8) xs ⟨5, p, er, dd⟩ [.int .i64 5, .int .i64 p, .int .i64 er, .slice D dd.length m] (fun _ => True) (fun _ => False) rfl rfl (k49_mk _ ⟨5, p, er, dd⟩ H0.out.2.1 H0.out.2.2) (fun k hk => hk.elim) (fun k hk => trivial) HO5.out HB5.out (by have := H.out.2.2.2.size; have := HB5.out.size; omega) ?aL ?_; (case aL => have := HL.out; omega); intro v29 w6 ho hb hg hat; obtain ⟨A9, c9, e9⟩ := Kd.R_slice ho; subst e9; have HO6 := Aside0.mk ho; have HB6 := Aside0.mk hb; have HX6 := Aside0.mk (blk_grown HX5.out hg (Kd.R_ne HO5.out HX5.out (by decide))); have HY6 := Aside0.mk (blk_grown HY5.out hg (Kd.R_ne HO5.out HY5.out (by decide))); have q0 : w6.cell? ⟨r, 0, none⟩ = some (.slice Ai ni ci) := blk_cell HX6.out 0; have q1 : w6.cell? ⟨r, 1, none⟩ = some (.bool ov) := blk_cell HX6.out 1; have q2 : w6.cell? ⟨r, 2, none⟩ = some (.slice Ao xs.length co) := blk_cell HX6.out 2; have s2 : w6.frozen? ⟨r, 2, none⟩ = false := blk_frozen HX6.out 2; have y0 : w6.cell? ⟨r2, 0, none⟩ = some (.slice none 0 0) := blk_cell HY6.out 0; have y1 : w6.cell? ⟨r2, 1, none⟩ = some (.bool false) := blk_cell HY6.out 1; have y2 : w6.cell? ⟨r2, 2, none⟩ = some (.slice none 0 0) := blk_cell HY6.out 2; have t0 : w6.frozen? ⟨r2, 0, none⟩ = false := blk_frozen HY6.out 0; have t1 : w6.frozen? ⟨r2, 1, none⟩ = false := blk_frozen HY6.out 1; have t2 : w6.frozen? ⟨r2, 2, none⟩ = false := blk_frozen HY6.out 2; have hne : r2 ≠ r := HRR.out.2.2.2; clear ho hb hg hat v0 v1 v2 v3)
      | fail)
    refine bodyPost_ret (results_ct rfl _ _ r2 47 #[.slice Ai ni ci, .bool ov, .slice A9 (xs.length + 1) c9] (0, 0) _ rfl (put47 (blk_far HY6.out HRR.out.2.2.2 _) rfl _ _ _) Try.underlying47 rfl (by kernel_rfl)) rfl ?_
    exact tellP_of HO6.out (H.out.2.2.2.trans HB6.out) HRR.out.1 (Nat.le_of_eq rfl) (by have := HRR.out; omega) HX6.out HY6.out HRR.out.2.2.2 rfl
  · go_enter Try.func29, Try.ntmps29
    go_wp2_with (first
      | ((with_reducible refine gate_builtin (b := .append) (xs := #[.tmp 22, .tmp 24]) rfl ?_); at_builtin; refine Kd.R_append_rows (FO wq) (w0 := w3) w.heap.size rfl (.tmp 22) (.tmp 24) 45 49 (.agg #[.int .i64 0, .int .i64 0, .int .i64 0, .slice none 0 0]) 48 rfl Try.underlying45 info49 rfl (show 0 < 4 by decide) (by decide) (.slice none 0 0) ([] : List S49) xs Ao xs.length co (fun _ => True) (fun _ => False) rfl rfl (Kd.R_nil _ _ _ _ _) H0.out.1 (fun _ _ h => h) (fun _ h => h.elim) (fun k hk => trivial) (Below.refl _ _) (by have := H.out.2.2.2.size; omega) ?aL ?_; (case aL => have := HL.out; simp; omega); intro v25 w5 ho hb hg hat; rw [List.nil_append] at ho; obtain ⟨A8, c8, e8⟩ := Kd.R_slice ho; subst e8; have HO5 := Aside0.mk ho; have HB5 := Aside0.mk hb; have HX5 := Aside0.mk (blk_grown H.out.1 hg (by simp [Value.ownBlock])); have HY5 := Aside0.mk (blk_grown H.out.2.2.1 hg (by simp [Value.ownBlock])); have HU5 := Aside0.mk (blk_grown H.out.2.1 hg (by simp [Value.ownBlock])); have v0 : w5.cell? ⟨r1, 0, none⟩ = some (.int .i64 k) := blk_cell HU5.out 0; have v1 : w5.cell? ⟨r1, 1, none⟩ = some (.int .i64 p) := blk_cell HU5.out 1; have v2 : w5.cell? ⟨r1, 2, none⟩ = some (.int .i64 er) := blk_cell HU5.out 2; have v3 : w5.cell? ⟨r1, 3, none⟩ = some (.slice D dd.length m) := blk_cell HU5.out 3; clear ho hb hg hat)
      | ((with_reducible refine gate_builtin (b := .append) (xs := #[.tmp 26, .tmp 28]) rfl ?_); at_builtin; refine Kd.R_append (FO wq) (w0 := w3) w.heap.size rfl (.tmp 26) (.tmp 28) 45 49 (.agg #[.int .i64 0, .int .i64 0, .int .i64 0, .slice none 0 0]) 48 rfl Try.underlying45 info49 rfl (show 0 < 4 by decide) (by decide) (.slice A8 xs.length c8) xs ⟨k, p, er, dd⟩ [.int .i64 k, .int .i64 p, .int .i64 er, .slice D dd.length m] (fun _ => True) (fun _ => False) rfl rfl (k49_mk _ ⟨k, p, er, dd⟩ H0.out.2.1 H0.out.2.2) (fun k hk => hk.elim) (fun k hk => trivial) HO5.out HB5.out (by have := H.out.2.2.2.size; have := HB5.out.size; omega) ?aL ?_; (case aL => have := HL.out; omega); intro v29 w6 ho hb hg hat; obtain ⟨A9, c9, e9⟩ := Kd.R_slice ho; subst e9; have HO6 := Aside0.mk ho; have HB6 := Aside0.mk hb; have HX6 := Aside0.mk (blk_grown HX5.out hg (Kd.R_ne HO5.out HX5.out (by decide))); have HY6 := Aside0.mk (blk_grown HY5.out hg (Kd.R_ne HO5.out HY5.out (by decide))); have q0 : w6.cell? ⟨r, 0, none⟩ = some (.slice Ai ni ci) := blk_cell HX6.out 0; have q1 : w6.cell? ⟨r, 1, none⟩ = some (.bool ov) := blk_cell HX6.out 1; have q2 : w6.cell? ⟨r, 2, none⟩ = some (.slice Ao xs.length co) := blk_cell HX6.out 2; have s2 : w6.frozen? ⟨r, 2, none⟩ = false := blk_frozen HX6.out 2; have y0 : w6.cell? ⟨r2, 0, none⟩ = some (.slice none 0 0) := blk_cell HY6.out 0; have y1 : w6.cell? ⟨r2, 1, none⟩ = some (.bool false) := blk_cell HY6.out 1; have y2 : w6.cell? ⟨r2, 2, none⟩ = some (.slice none 0 0) := blk_cell HY6.out 2; have t0 : w6.frozen? ⟨r2, 0, none⟩ = false := blk_frozen HY6.out 0; have t1 : w6.frozen? ⟨r2, 1, none⟩ = false := blk_frozen HY6.out 1; have t2 : w6.frozen? ⟨r2, 2, none⟩ = false := blk_frozen HY6.out 2; have hne : r2 ≠ r := HRR.out.2.2.2; clear ho hb hg hat v0 v1 v2 v3)
      | fail)
    refine bodyPost_ret (results_ct rfl _ _ r2 47 #[.slice Ai ni ci, .bool ov, .slice A9 (xs.length + 1) c9] (0, 0) _ rfl (put47 (blk_far HY6.out HRR.out.2.2.2 _) rfl _ _ _) Try.underlying47 rfl (by kernel_rfl)) rfl ?_
    exact tellP_of HO6.out (H.out.2.2.2.trans HB6.out) HRR.out.1 (Nat.le_of_eq rfl) (by have := HRR.out; omega) HX6.out HY6.out HRR.out.2.2.2 rfl
end Go.Proofs.Ytkfninhbbcfdcaa.Giv
