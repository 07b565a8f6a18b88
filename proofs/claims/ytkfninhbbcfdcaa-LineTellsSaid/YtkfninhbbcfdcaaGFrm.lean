/- Texts of this session's own, put together (merge.py): What the functions of the package wire come to. What the scans of the package wire come to. What the functions of the package frame, and of its reference, come to. What frame.Take, and its reference's, come to. frame.Take, joined. -/
import Derived.Test.YtkfninhbbcfdcaaPFrameTellsx0
import Derived.Test.YtkfninhbbcfdcaaGBase
namespace Go.Proofs.Ytkfninhbbcfdcaa.Giv
open Go.RowKit Go.Proofs.YtkfninhbbcfdcaaW.PrintWords Go.Proofs.YtkfninhbbcfdcaaW.PrintLast Go.Proofs.YtkfninhbbcfdcaaW.PrintMore
set_option linter.unusedVariables false
set_option linter.unusedSimpArgs false
theorem info5 : (Try.prog.info? 5).map (fun i => (i.zero, i.size, i.bytes)) = some (some (.int .u8 0), 1, 1) := by kernel_rfl

theorem own_calls (A0 : Option Addr) (n c : Nat) (w : World) (hc : n ≤ c) : Calls Try.prog 63 #[.slice A0 n c] w fun e w' => e = .returned (.slice A0 n n) ∧ w = w' := by
  go_enter Try.func63, Try.ntmps63
  go_wp2_with fail
  go_ret
  exact ⟨by simp, rfl⟩

def fitI (a : Int) : Int := if a < 1 then 1 else if 8 < a then 8 else a
theorem fitI_bd (a : Int) : 1 ≤ fitI a ∧ fitI a ≤ 8 := by unfold fitI; split <;> (try split) <;> omega
section
attribute [local go_sem] max2_int min2_int max_two min_two
theorem fit_calls (a0 : Int) (w : World) : Calls Try.prog 64 #[.int .i64 a0] w fun e w' => e = .returned (.int .i64 (fitI a0)) ∧ w = w' := by
  go_enter Try.func64, Try.ntmps64
  go_wp2
  all_goals go_ret
  all_goals refine ⟨?_, rfl⟩
  all_goals simp [fitI]
  all_goals grind
end

/-- The low k bytes of n, the highest first. -/
def beB : Nat → Nat → List Int
  | 0, _ => []
  | k + 1, n => ((n / 256 ^ k % 256 : Nat) : Int) :: beB k n
theorem beB_length (k n : Nat) : (beB k n).length = k := by
  induction k with
  | zero => rfl
  | succ k ih => simp [beB, ih]

theorem byte_shr (n : Nat) (i : Nat) : ((n : Int) / 2 ^ (8 * i)) % 256 = ((n / 256 ^ i % 256 : Nat) : Int) := by
  rw [show (2 : Int) ^ (8 * i) = ((256 ^ i : Nat) : Int) by rw [Int.pow_mul]; simp]
  omega
theorem beB_step {x l : List Int} {g q n : Nat} (h : x ++ beB (g + 1) n = l ++ beB q n) : (x ++ [((n : Int) / 2 ^ (8 * g)) % 256]) ++ beB g n = l ++ beB q n := by
  rw [byte_shr, List.append_assoc, ← h]; rfl

set_option maxHeartbeats 4000000 in
set_option maxRecDepth 100000 in
theorem Num_calls (A0 : Option Addr) (c0 : Nat) (l0 : List Int) (n : Nat) (size : Int) (w : World) (hr0 : Kd.C (Kd.int .u8) w A0 l0.length l0) (hc0 : l0.length ≤ c0) (hn : n < 18446744073709551616) (hl : l0.length + 8 < 140737488355328) :
    Calls Try.prog 51 #[.slice A0 l0.length c0, .int .u64 n, .int .i64 size] w fun e w' => ∃ v, e = .returned v ∧ Kd.R (Kd.int .u8) 5 w' w.heap.size (fun _ => True) v (l0 ++ beB (fitI size).toNat n) ∧ Below w.heap.size w w' := by
  have HR := Aside0.mk hr0
  have HC := Aside0.mk hc0
  have HN := Aside0.mk hn
  have HL := Aside0.mk hl
  have HB := Aside0.mk (Below.refl w.heap.size w)
  obtain ⟨q, hq⟩ : ∃ q : Nat, (q : Int) = fitI size ∧ 1 ≤ q ∧ q ≤ 8 := ⟨(fitI size).toNat, by have := fitI_bd size; omega, by have := fitI_bd size; omega, by have := fitI_bd size; omega⟩
  obtain ⟨hq0, hq1, hq2⟩ := hq
  have HQ := Aside0.mk hq0
  have HT : Aside0 (l0 ++ beB q n = l0 ++ beB (fitI size).toNat n) := ⟨by rw [← HQ.out]; rfl⟩
  clear hr0 hc0 hn hl hq0
  go_enter Try.func51, Try.ntmps51
  go_wp2_with (first
    | ((with_reducible refine gate_dst (N := 9) rfl ?_); refine Kd.R_lit (Kd.int .u8) _ 5 ?hg (N := 9) ?hd (xs := ([] : List Int)) (inner := []) (ok := fun _ => True) (okp := fun _ => True) ?hr ?hp (fun _ hk => hk) trivial (Below.refl _ _) (Nat.le_refl _) (by simp) ?_; (case hd => rfl); (case hg => rfl); (case hr => first | (go_simp; done) | (go_simp; rfl)); (case hp => exact (Reps.none _ _)); intro v9 w9 ho9 hb hg_ hnew_; clear hg_ hnew_; have HO9 := Aside0.mk (Kd.R_lower ho9 (below_size HB.out)); have HB9 := Aside0.mk (below_step HB.out hb); clear hb ho9; obtain ⟨A9, c9, e9⟩ := Kd.R_slice HO9.out; subst e9)
    | fail)
  refine (own_calls A0 l0.length c0 _ HC.out).mono ?_
  rintro e w1 ⟨rfl, rfl⟩
  go_wp2_with (first
    | ((with_reducible refine gate_builtin (b := .append) (xs := #[.tmp 9, .tmp 11]) rfl ?_); at_builtin; refine Kd.R_append_rows (Kd.int .u8) (w0 := w) w.heap.size rfl (.tmp 9) (.tmp 11) 22 5 (.int .u8 0) 1 rfl Try.underlying22 info5 rfl (by decide) (by omega) (.slice A9 0 c9) ([] : List Int) l0 _ _ _ (fun _ => True) (fun _ => False) rfl rfl ?aO ?aR (fun _ _ h => h) (fun _ h => h.elim) ?aF ?aB ?aS ?aL ?_; (case aR => exact (Kd.C_below HR.out HB9.out)); (case aB => exact HB9.out); (case aF => exact (fun _ _ => trivial)); (case aO => exact HO9.out); (case aS => exact (below_size HB9.out)); (case aL => have := HL.out; simp; omega); intro v12 w10 ho hb hg hat; rw [List.nil_append] at ho; clear HB HO9 HB9; have HB := Aside0.mk hb; have HO := Aside0.mk ho; clear ho hb hg hat; obtain ⟨A12, c12, e12⟩ := Kd.R_slice HO.out; subst e12)
    | fail)
  refine (fit_calls _ _).mono ?_
  rintro e w2 ⟨rfl, rfl⟩
  rw [← HQ.out]
  go_wp2
  clear HR HC
  go_loopg [7, 8] q (fun kq v7 v8 w' => ∃ (x7 : List Int), v8 = .int .i64 ((kq : Int) - 1) ∧ Aside0 (Kd.R (Kd.int .u8) 5 w' w.heap.size (fun _ => True) v7 x7) ∧ Aside0 (Below w.heap.size w w') ∧ Aside0 (x7 ++ beB kq n = l0 ++ beB q n) ∧ kq ≤ q)
  case atStart => exact ⟨_, rfl, HO, HB, ⟨rfl⟩, Nat.le_refl _⟩
  case round =>
    clear HB HO
    obtain ⟨x7, rfl, HO, HB, HX, hk⟩ := hrel
    obtain ⟨A7, c7, e7⟩ := Kd.R_slice HO.out
    subst e7
    cases gk with
    | zero =>
      clear hk hq1 hq2
      have HX' : Aside0 (x7 = l0 ++ beB (fitI size).toNat n) := ⟨by rw [← HT.out, ← HX.out]; exact (List.append_nil _).symm⟩
      clear HX HT
      go_wp2
      go_ret
      exact ⟨_, rfl, by rw [← HX'.out]; exact HO.out, HB.out⟩
    | succ g =>
      have hg7 : g ≤ 7 := by omega
      have hx7 : x7.length + 1 < 140737488355328 := by
        have := congrArg List.length HX.out
        simp only [List.length_append, beB_length] at this
        have := HL.out
        omega
      have HX7 := Aside0.mk hx7
      have HY : Aside0 (g ≤ q) := ⟨by omega⟩
      clear hg7
      have hg7 : g ≤ 7 := by omega
      clear hx7 hk hq1 hq2
      have HX2 := Aside0.mk (beB_step HX.out)
      clear HX
      go_wp2_with (first
        | ((with_reducible refine gate_dst (N := 26) rfl ?_); refine Kd.R_lit (Kd.int .u8) _ 5 ?hg (N := 26) ?hd (xs := ([((n : Int) / 2 ^ (8 * g)) % 256] : List Int)) (inner := [.int .u8 (((n : Int) / 2 ^ (8 * g)) % 256)]) (ok := fun _ => True) (okp := fun _ => True) ?hr ?hp (fun _ hk => hk) trivial (Below.refl _ _) (Nat.le_refl _) (by simp) ?_; (case hd => rfl); (case hg => rfl); (case hr => first | (go_simp; done) | (go_simp; rfl)); (case hp => exact (Reps.one (show Kd.M (Kd.int .u8) _ _ _ (((n : Int) / 2 ^ (8 * g)) % 256) [.int .u8 (((n : Int) / 2 ^ (8 * g)) % 256)] from rfl) (Reps.none _ _))); intro v26 w26 ho26 hb hg_ hnew_; clear hg_ hnew_; (have n0_ := Aside0.mk (Kd.R_elder' HO.out (Kd.R_base ho26) hb)); (have n1_ := Aside0.mk (Kd.R_lower (Kd.R_new' ho26 (Kd.R_lt HO.out)) (below_size HB.out))); (have n2_ := Aside0.mk (below_step HB.out hb)); clear HO; clear HB; have HO := n0_; have HO26 := n1_; have HB := n2_; clear n0_ n1_ n2_; clear hb ho26; obtain ⟨A26, c26, e26⟩ := Kd.R_slice HO26.out; subst e26)
        | ((with_reducible refine gate_builtin (b := .append) (xs := #[.tmp 20, .tmp 26]) rfl ?_); at_builtin; refine Kd.R_append_rows (Kd.int .u8) (w0 := w) w.heap.size rfl (.tmp 20) (.tmp 26) 22 5 (.int .u8 0) 1 rfl Try.underlying22 info5 rfl (by decide) (by omega) (.slice A7 x7.length c7) x7 ([((n : Int) / 2 ^ (8 * g)) % 256] : List Int) _ _ _ (fun k_ => some k_ ≠ (.slice A26 1 c26 : Value).ownBlock) (fun _ => False) rfl rfl ?aO ?aR (fun _ _ h => h) (fun _ h => h.elim) ?aF ?aB ?aS ?aL ?_; (case aR => exact (Kd.R_reads' HO26.out).2.2); (case aB => exact HB.out); (case aF => exact (fun k_ hk => Kd.fresh' (Kd.R_lt HO26.out) k_ hk)); (case aO => exact Kd.R_mono HO.out (fun _ hk => hk.2)); (case aS => exact (below_size HB.out)); (case aL => have := HX7.out; simp; omega); intro v27 w27 ho hb hg hat; clear HO26 HB HO; have HB := Aside0.mk hb; have HO := Aside0.mk ho; clear ho hb hg hat)
        | fail)
      go_roundg g
      case measure => omega
      case rel => exact ⟨_, rfl, ⟨Kd.R_mono HO.out (fun _ _ => trivial)⟩, HB, HX2, by have := HY.out; omega⟩
end Go.Proofs.Ytkfninhbbcfdcaa.Giv

namespace Go.Proofs.Ytkfninhbbcfdcaa.Giv
open Go.RowKit Go.Proofs.YtkfninhbbcfdcaaW.PrintWords Go.Proofs.YtkfninhbbcfdcaaW.PrintLast Go.Proofs.YtkfninhbbcfdcaaW.PrintMore
set_option linter.unusedVariables false
set_option linter.unusedSimpArgs false

/-- All but one block (number g) stays. -/
structure Keep1 (w w' : World) (g : Nat) : Prop where
  keep : KeepBut w w' g none
  os : w'.os = w.os
  tape : w'.tape = w.tape
  output : w'.output = w.output
theorem Keep1.refl (w : World) (g : Nat) : Keep1 w w g := ⟨KeepBut.refl w g none, rfl, rfl, rfl⟩
theorem Keep1.trans {a b c : World} {g : Nat} (h : Keep1 a b g) (k : Keep1 b c g) : Keep1 a c g :=
  ⟨h.keep.trans k.keep (.inl rfl), k.os.trans h.os, k.tape.trans h.tape, k.output.trans h.output⟩
theorem Keep1.of_below {w w1 : World} (h : Below w.heap.size w w1) (g : Nat) : Keep1 w w1 g := ⟨KeepBut.of_below h g none, h.os, h.tape, h.output⟩
theorem Keep1.set (w : World) (g i : Nat) (u : Value) : Keep1 w (w.setCell ⟨g, i, none⟩ u) g := ⟨(KeepBut.refl w g none).set_ i u, rfl, rfl, rfl⟩
theorem Keep1.below {w0 w w1 : World} {g : Nat} (h : Keep1 w w1 g) (hb : Below w0.heap.size w0 w) (hg : w0.heap.size ≤ g) : Below w0.heap.size w0 w1 := by
  refine hb.trans ⟨h.os, h.tape, h.output, h.keep.1, fun k hk => ?_⟩
  exact h.keep.2 k (by have := hb.size; omega) (by omega) (by simp)

abbrev blkOf (A : Option Addr) (n c : Nat) (f : Int) : Obj := .cells #[.slice A n c, .int .i64 f, .bool true] 102 (0, 0)
/-- A scan that is block g: what is left, and the fault. -/
structure St (w0 w : World) (g : Nat) (l : List Int) (f : Int) : Prop where
  below : Below w0.heap.size w0 w
  lo : w0.heap.size ≤ g
  blk : ∃ A c, w.heap[g]? = some (blkOf A l.length c f) ∧ Kd.C (Kd.int .u8) w0 A l.length l ∧ l.length ≤ c

theorem From_calls (A : Option Addr) (l : List Int) (c : Nat) (w : World) (h : Kd.C (Kd.int .u8) w A l.length l) (hc : l.length ≤ c) :
    Calls Try.prog 55 #[.slice A l.length c] w fun e w' => e = .returned (.pointer (some ⟨w.heap.size, 0, none⟩)) ∧ St w w' w.heap.size l 0 := by
  have HR := Aside0.mk h
  have HC := Aside0.mk hc
  clear h hc
  go_enter Try.func55, Try.ntmps55
  go_wp2_with fail
  refine (own_calls A l.length c _ HC.out).mono ?_
  rintro e w1 ⟨rfl, rfl⟩
  go_wp2_with fail
  go_ret
  exact ⟨rfl, below_alloc (Below.refl _ _) _, Nat.le_refl _, A, l.length, blk_new _ _, HR.out, Nat.le_refl _⟩

theorem Fault_calls (g : Nat) (A : Option Addr) (n c : Nat) (f : Int) (w : World) (h : w.heap[g]? = some (blkOf A n c f)) :
    Calls Try.prog 57 #[.pointer (some ⟨g, 0, none⟩)] w fun e w' => e = .returned (.int .i64 f) ∧ w = w' := by
  have h0 : w.cell? ⟨g, 1, none⟩ = some (.int .i64 f) := blk_cell h 1
  have h1 : w.cell? ⟨g, 2, none⟩ = some (.bool true) := blk_cell h 2
  clear h
  go_enter Try.func57, Try.ntmps57
  go_wp2_with fail
  go_ret
  exact ⟨rfl, rfl⟩
theorem fine_calls (g : Nat) (A : Option Addr) (n c : Nat) (f : Int) (w : World) (h : w.heap[g]? = some (blkOf A n c f)) :
    Calls Try.prog 68 #[.pointer (some ⟨g, 0, none⟩)] w fun e w' => e = .returned (.bool (f == 0)) ∧ w = w' := by
  have H := Aside0.mk h
  clear h
  go_enter Try.func68, Try.ntmps68
  go_wp2_with fail
  refine (Fault_calls g A n c f _ H.out).mono ?_
  rintro e w1 ⟨rfl, rfl⟩
  go_wp2_with fail
  go_ret
  exact ⟨rfl, rfl⟩
def leftI (f : Int) (n : Nat) : Int := if f = 0 then n else 0
theorem Left_calls (g : Nat) (A : Option Addr) (n c : Nat) (f : Int) (w : World) (h : w.heap[g]? = some (blkOf A n c f)) :
    Calls Try.prog 59 #[.pointer (some ⟨g, 0, none⟩)] w fun e w' => e = .returned (.int .i64 (leftI f n)) ∧ w = w' := by
  have h0 : w.cell? ⟨g, 0, none⟩ = some (.slice A n c) := blk_cell h 0
  have H := Aside0.mk h
  clear h
  by_cases hf : f = 0
  · subst hf
    go_enter Try.func59, Try.ntmps59
    go_wp2_with fail
    refine (fine_calls g A n c 0 _ H.out).mono ?_
    rintro e w1 ⟨rfl, rfl⟩
    go_wp2_with fail
    go_ret
    exact ⟨rfl, rfl⟩
  · have hf' : (f == 0) = false := by simpa using hf
    have HL : Aside0 (leftI f n = 0) := ⟨if_neg hf⟩
    have HF' := Aside0.mk hf'
    clear hf hf'
    go_enter Try.func59, Try.ntmps59
    go_wp2_with fail
    refine (fine_calls g A n c f _ H.out).mono ?_
    rintro e w1 ⟨rfl, rfl⟩
    rw [HF'.out]
    go_wp2_with fail
    go_ret
    exact ⟨by rw [HL.out]; rfl, rfl⟩

def ruleF (ok : Bool) (f er : Int) : Int := if ok then f else if f = 0 then er else f
theorem Rule_calls (g : Nat) (A : Option Addr) (n c : Nat) (f er : Int) (ok : Bool) (w : World) (h : w.heap[g]? = some (blkOf A n c f)) :
    Calls Try.prog 67 #[.pointer (some ⟨g, 0, none⟩), .bool ok, .int .i64 er] w fun e w' => e = .returned (.tuple #[]) ∧ w'.heap[g]? = some (blkOf A n c (ruleF ok f er)) ∧ Keep1 w w' g := by
  have H := Aside0.mk h
  have hfr : w.frozen? ⟨g, 1, none⟩ = false := blk_frozen h 1
  have h1 : w.cell? ⟨g, 1, none⟩ = some (.int .i64 f) := blk_cell h 1
  clear h
  cases ok with
  | true =>
    go_enter Try.func67, Try.ntmps67
    go_wp2_with fail
    go_end0
    exact ⟨rfl, H.out, Keep1.refl _ _⟩
  | false =>
    by_cases hf : f = 0
    · subst hf
      go_enter Try.func67, Try.ntmps67
      go_wp2_with fail
      refine (fine_calls g A n c 0 _ H.out).mono ?_
      rintro e w1 ⟨rfl, rfl⟩
      go_wp2_with fail
      go_end0
      exact ⟨rfl, blk_set H.out 1 _, Keep1.set _ _ _ _⟩
    · have hf' : (f == 0) = false := by simpa using hf
      have HF := Aside0.mk hf
      have HF' := Aside0.mk hf'
      clear hf hf'
      go_enter Try.func67, Try.ntmps67
      go_wp2_with fail
      refine (fine_calls g A n c f _ H.out).mono ?_
      rintro e w1 ⟨rfl, rfl⟩
      rw [HF'.out]
      go_wp2_with fail
      go_end0
      exact ⟨rfl, by rw [show ruleF false f er = f by unfold ruleF; rw [if_neg (by decide), if_neg HF.out]]; exact H.out, Keep1.refl _ _⟩

theorem C_drop1 {w : World} {A : Option Addr} {c m : Nat} {xs : List Int} (h : Kd.C (Kd.int .u8) w A xs.length xs) (hm : m ≤ xs.length) (hc : xs.length ≤ c) :
    Kd.C (Kd.int .u8) w (if c = m then A else Option.map (fun x => x.add m) A) (xs.length - m) (xs.drop m) := by
  have := Kd.C_drop h hm hc
  rw [List.length_drop] at this
  simpa [Kd.int, Kd.scalar] using this
theorem C_take1 {w : World} {A : Option Addr} {m : Nat} {xs : List Int} (h : Kd.C (Kd.int .u8) w A xs.length xs) (hm : m ≤ xs.length) : Kd.C (Kd.int .u8) w A m (xs.take m) := by
  have := Kd.C_take h hm
  rwa [List.length_take, Nat.min_eq_left hm] at this

set_option maxHeartbeats 4000000 in
set_option maxRecDepth 100000 in
theorem Take_ok (w0 w : World) (g : Nat) (l : List Int) (k : Int) (m : Nat) (hk : k = m ∨ k < 0 ∧ m = 0) (hm : m ≤ l.length) (hl : m < 140737488355328) (h : St w0 w g l 0) :
    Calls Try.prog 58 #[.pointer (some ⟨g, 0, none⟩), .int .i64 k] w fun e w' => ∃ v, e = .returned v ∧ Kd.R (Kd.int .u8) 5 w' w.heap.size (fun _ => True) v (l.take m) ∧ St w0 w' g (l.drop m) 0 ∧ Keep1 w w' g := by
  obtain ⟨hB, hlo, A, c, hblk, hC, hc⟩ := h
  obtain ⟨A', hif⟩ : ∃ A', (if c = m then A else Option.map (fun x => x.add m) A) = A' := ⟨_, rfl⟩
  have hD := C_drop1 hC hm hc
  rw [hif] at hD
  have h0 : w.cell? ⟨g, 0, none⟩ = some (.slice A l.length c) := blk_cell hblk 0
  have hfr : w.frozen? ⟨g, 0, none⟩ = false := blk_frozen hblk 0
  have HBK := Aside0.mk hblk
  have HB := Aside0.mk hB
  have HLO := Aside0.mk hlo
  have HC := Aside0.mk (C_take1 hC hm)
  have HD := Aside0.mk hD
  have HL := Aside0.mk hl
  have HCC := Aside0.mk hc
  clear hblk hB hlo hC hD hl
  rcases hk with rfl | ⟨hk, rfl⟩
  ·
    clear h0 hfr
    go_enter Try.func58, Try.ntmps58
    go_wp2_with fail
    refine (Left_calls g A l.length c 0 _ HBK.out).mono ?_
    rintro e w1 ⟨rfl, rfl⟩
    rw [show leftI 0 l.length = (l.length : Int) from if_pos rfl]
    go_wp2_with fail
    refine (Rule_calls g A l.length c 0 12 true _ HBK.out).mono ?_
    rintro e w1 ⟨rfl, hb1, hk1⟩
    rw [show ruleF true 0 12 = 0 from rfl] at hb1
    have h0 : w1.cell? ⟨g, 0, none⟩ = some (.slice A l.length c) := blk_cell hb1 0
    have hfr : w1.frozen? ⟨g, 0, none⟩ = false := blk_frozen hb1 0
    have HB1 := Aside0.mk hb1
    have HK1 := Aside0.mk hk1
    clear hb1 hk1 HBK
    go_wp2_with fail
    refine (fine_calls g A l.length c 0 _ HB1.out).mono ?_
    rintro e w2 ⟨rfl, rfl⟩
    go_wp2_with (first
      | ((with_reducible refine gate_dst (N := 32) rfl ?_); refine Kd.R_lit (Kd.int .u8) _ 5 ?hg (N := 32) ?hd (xs := ([] : List Int)) (inner := []) (ok := fun _ => True) (okp := fun _ => True) ?hr ?hp (fun _ hk => hk) trivial (Below.refl _ _) (Nat.le_refl _) (by simp) ?_; (case hd => rfl); (case hg => rfl); (case hr => first | (go_simp; done) | (go_simp; rfl)); (case hp => exact (Reps.none _ _)); intro v32 w32 ho32 hb hg_ hnew_; clear hg_ hnew_; have HO32 := Aside0.mk ho32; have HB32 := Aside0.mk hb; clear hb ho32; obtain ⟨A32, c32, e32⟩ := Kd.R_slice HO32.out; subst e32)
      | ((with_reducible refine gate_builtin (b := .append) (xs := #[.tmp 32, .tmp 33]) rfl ?_); at_builtin; refine Kd.R_append_rows (Kd.int .u8) (w0 := (w1.setCell ⟨g, 0, none⟩ (.slice A' (l.length - m) (c - m)))) (w1.setCell ⟨g, 0, none⟩ (.slice A' (l.length - m) (c - m))).heap.size rfl (.tmp 32) (.tmp 33) 22 5 (.int .u8 0) 1 rfl Try.underlying22 info5 rfl (by decide) (by omega) (.slice A32 0 c32) ([] : List Int) (l.take m) _ _ _ (fun _ => True) (fun _ => False) rfl rfl ?aO ?aR (fun _ _ h => h) (fun _ h => h.elim) ?aF ?aB ?aS ?aL ?_; (case aR => exact (Kd.C_below HC.out (((HK1.out.trans (Keep1.set _ _ _ _)).trans (Keep1.of_below HB32.out _)).below HB.out HLO.out))); (case aB => exact HB32.out); (case aF => exact (fun _ _ => trivial)); (case aO => exact HO32.out); (case aS => exact (below_size HB32.out)); (case aL => have := HL.out; simp <;> omega); intro v34 w34 ho hb hg hat; rw [List.nil_append] at ho; clear HO32 HB32; have HB34 := Aside0.mk hb; have HO := Aside0.mk ho; clear ho hb hg hat)
      | fail)
    go_ret
    have HKS : Keep1 w w34 g := (HK1.out.trans (Keep1.set _ _ _ _)).trans (Keep1.of_below HB34.out _)
    refine ⟨_, rfl, Kd.R_lower HO.out (HK1.out.trans (Keep1.set _ _ _ _)).keep.1, ⟨HKS.below HB.out HLO.out, HLO.out, A', (c - m), ?_, ?_, ?_⟩, HKS⟩
    · rw [List.length_drop]; exact blk_below (blk_set HB1.out 0 _) HB34.out
    · rw [List.length_drop]; exact HD.out
    · rw [List.length_drop]; have := HCC.out; omega
  ·
    clear h0 hfr
    have hA : A = A' := by rw [← hif]; cases A <;> simp [Addr.add]
    subst hA
    clear hif
    go_enter Try.func58, Try.ntmps58
    go_wp2_with fail
    refine (Left_calls g A l.length c 0 _ HBK.out).mono ?_
    rintro e w1 ⟨rfl, rfl⟩
    rw [show leftI 0 l.length = (l.length : Int) from if_pos rfl]
    go_wp2_with fail
    refine (Rule_calls g A l.length c 0 12 true _ HBK.out).mono ?_
    rintro e w1 ⟨rfl, hb1, hk1⟩
    rw [show ruleF true 0 12 = 0 from rfl] at hb1
    have h0 : w1.cell? ⟨g, 0, none⟩ = some (.slice A l.length c) := blk_cell hb1 0
    have hfr : w1.frozen? ⟨g, 0, none⟩ = false := blk_frozen hb1 0
    have HB1 := Aside0.mk hb1
    have HK1 := Aside0.mk hk1
    clear hb1 hk1 HBK
    go_wp2_with fail
    refine (fine_calls g A l.length c 0 _ HB1.out).mono ?_
    rintro e w2 ⟨rfl, rfl⟩
    go_wp2_with (first
      | ((with_reducible refine gate_dst (N := 32) rfl ?_); refine Kd.R_lit (Kd.int .u8) _ 5 ?hg (N := 32) ?hd (xs := ([] : List Int)) (inner := []) (ok := fun _ => True) (okp := fun _ => True) ?hr ?hp (fun _ hk => hk) trivial (Below.refl _ _) (Nat.le_refl _) (by simp) ?_; (case hd => rfl); (case hg => rfl); (case hr => first | (go_simp; done) | (go_simp; rfl)); (case hp => exact (Reps.none _ _)); intro v32 w32 ho32 hb hg_ hnew_; clear hg_ hnew_; have HO32 := Aside0.mk ho32; have HB32 := Aside0.mk hb; clear hb ho32; obtain ⟨A32, c32, e32⟩ := Kd.R_slice HO32.out; subst e32)
      | ((with_reducible refine gate_builtin (b := .append) (xs := #[.tmp 32, .tmp 33]) rfl ?_); at_builtin; refine Kd.R_append_rows (Kd.int .u8) (w0 := (w1.setCell ⟨g, 0, none⟩ (.slice A l.length c))) (w1.setCell ⟨g, 0, none⟩ (.slice A l.length c)).heap.size rfl (.tmp 32) (.tmp 33) 22 5 (.int .u8 0) 1 rfl Try.underlying22 info5 rfl (by decide) (by omega) (.slice A32 0 c32) ([] : List Int) ([] : List Int) _ _ _ (fun _ => True) (fun _ => False) rfl rfl ?aO ?aR (fun _ _ h => h) (fun _ h => h.elim) ?aF ?aB ?aS ?aL ?_; (case aR => exact (Kd.C_below (show Kd.C (Kd.int .u8) w0 A 0 [] from ⟨rfl, by decide, fun h => absurd h (by decide)⟩) (((HK1.out.trans (Keep1.set _ _ _ _)).trans (Keep1.of_below HB32.out _)).below HB.out HLO.out))); (case aB => exact HB32.out); (case aF => exact (fun _ _ => trivial)); (case aO => exact HO32.out); (case aS => exact (below_size HB32.out)); (case aL => have := HL.out; simp <;> omega); intro v34 w34 ho hb hg hat; rw [List.nil_append] at ho; clear HO32 HB32; have HB34 := Aside0.mk hb; have HO := Aside0.mk ho; clear ho hb hg hat)
      | fail)
    go_ret
    have HKS : Keep1 w w34 g := (HK1.out.trans (Keep1.set _ _ _ _)).trans (Keep1.of_below HB34.out _)
    refine ⟨_, rfl, Kd.R_lower HO.out (HK1.out.trans (Keep1.set _ _ _ _)).keep.1, ⟨HKS.below HB.out HLO.out, HLO.out, A, c, ?_, ?_, ?_⟩, HKS⟩
    · rw [List.length_drop]; exact blk_below (blk_set HB1.out 0 _) HB34.out
    · rw [List.length_drop]; exact HD.out
    · rw [List.length_drop]; have := HCC.out; omega

set_option maxHeartbeats 2000000 in
set_option maxRecDepth 100000 in
theorem Take_short (w0 w : World) (g : Nat) (l : List Int) (m : Nat) (hm : l.length < m) (h : St w0 w g l 0) :
    Calls Try.prog 58 #[.pointer (some ⟨g, 0, none⟩), .int .i64 m] w fun e w' => e = .returned (.slice none 0 0) ∧ St w0 w' g l 12 ∧ Keep1 w w' g := by
  obtain ⟨hB, hlo, A, c, hblk, hC, hc⟩ := h
  have HBK := Aside0.mk hblk
  have HB := Aside0.mk hB
  have HLO := Aside0.mk hlo
  have HC := Aside0.mk hC
  have HCC := Aside0.mk hc
  clear hblk hB hlo hC hc
  go_enter Try.func58, Try.ntmps58
  go_wp2_with fail
  refine (Left_calls g A l.length c 0 _ HBK.out).mono ?_
  rintro e w1 ⟨rfl, rfl⟩
  rw [show leftI 0 l.length = (l.length : Int) from if_pos rfl]
  go_wp2_with fail
  rw [show decide (m ≤ l.length) = false from decide_eq_false (by omega)]
  refine (Rule_calls g A l.length c 0 12 false _ HBK.out).mono ?_
  rintro e w1 ⟨rfl, hb1, hk1⟩
  rw [show ruleF false 0 12 = 12 from rfl] at hb1
  have HB1 := Aside0.mk hb1
  have HK1 := Aside0.mk hk1
  clear hb1 hk1 HBK
  go_wp2_with fail
  refine (fine_calls g A l.length c 12 _ HB1.out).mono ?_
  rintro e w2 ⟨rfl, rfl⟩
  go_wp2_with fail
  go_ret
  exact ⟨rfl, ⟨HK1.out.below HB.out HLO.out, HLO.out, A, c, HB1.out, HC.out, HCC.out⟩, HK1.out⟩

set_option maxHeartbeats 2000000 in
set_option maxRecDepth 100000 in
theorem Take_bad (w0 w : World) (g : Nat) (l : List Int) (k f : Int) (hf : f ≠ 0) (h : St w0 w g l f) :
    Calls Try.prog 58 #[.pointer (some ⟨g, 0, none⟩), .int .i64 k] w fun e w' => e = .returned (.slice none 0 0) ∧ St w0 w' g l f ∧ Keep1 w w' g := by
  obtain ⟨hB, hlo, A, c, hblk, hC, hc⟩ := h
  have HBK := Aside0.mk hblk
  have HB := Aside0.mk hB
  have HLO := Aside0.mk hlo
  have HC := Aside0.mk hC
  have HCC := Aside0.mk hc
  have HL : Aside0 (leftI f l.length = 0) := ⟨if_neg hf⟩
  have HR : Aside0 (∀ b, ruleF b f 12 = f) := ⟨fun b => by unfold ruleF; rw [if_neg hf]; split <;> rfl⟩
  have HF : Aside0 ((f == 0) = false) := ⟨by simpa using hf⟩
  clear hblk hB hlo hC hc hf
  by_cases hk : k ≤ 0
  all_goals go_enter Try.func58, Try.ntmps58
  all_goals go_wp2_with fail
  all_goals refine (Left_calls g A l.length c f _ HBK.out).mono ?_
  all_goals rintro e w1 ⟨rfl, rfl⟩
  all_goals rw [HL.out]
  all_goals go_wp2_with fail
  all_goals refine (Rule_calls g A l.length c f 12 _ _ HBK.out).mono ?_
  all_goals rintro e w1 ⟨rfl, hb1, hk1⟩
  all_goals rw [HR.out] at hb1
  all_goals have HB1 := Aside0.mk hb1
  all_goals have HK1 := Aside0.mk hk1
  all_goals clear hb1 hk1 HBK
  all_goals go_wp2_with fail
  all_goals refine (fine_calls g A l.length c f _ HB1.out).mono ?_
  all_goals rintro e w2 ⟨rfl, rfl⟩
  all_goals rw [HF.out]
  all_goals go_wp2_with fail
  all_goals go_ret
  all_goals exact ⟨rfl, ⟨HK1.out.below HB.out HLO.out, HLO.out, A, c, HB1.out, HC.out, HCC.out⟩, HK1.out⟩

def takeL (l : List Int) (f : Int) (m : Nat) : List Int := if f = 0 ∧ m ≤ l.length then l.take m else []
def restL (l : List Int) (f : Int) (m : Nat) : List Int := if f = 0 ∧ m ≤ l.length then l.drop m else l
def fauL (l : List Int) (f : Int) (m : Nat) : Int := if f = 0 then if m ≤ l.length then 0 else 12 else f
theorem Take_calls (w0 w : World) (g : Nat) (l : List Int) (f k : Int) (hl : k < 140737488355328) (h : St w0 w g l f) :
    Calls Try.prog 58 #[.pointer (some ⟨g, 0, none⟩), .int .i64 k] w fun e w' => ∃ v, e = .returned v ∧ Kd.R (Kd.int .u8) 5 w' w.heap.size (fun _ => True) v (takeL l f k.toNat) ∧ St w0 w' g (restL l f k.toNat) (fauL l f k.toNat) ∧ Keep1 w w' g := by
  by_cases hf : f = 0
  · subst hf
    by_cases hm : k.toNat ≤ l.length
    · refine (Take_ok w0 w g l k k.toNat (by omega) hm (by omega) h).mono ?_
      rintro e w' ⟨v, rfl, hR, hS, hK⟩
      refine ⟨v, rfl, ?_, ?_, hK⟩
      · unfold takeL; rw [if_pos ⟨rfl, hm⟩]; exact hR
      · unfold restL fauL; rw [if_pos ⟨rfl, hm⟩, if_pos rfl, if_pos hm]; exact hS
    · have hk : k = (k.toNat : Int) := by omega
      have := Take_short w0 w g l k.toNat (by omega) h
      rw [← hk] at this
      refine this.mono ?_
      rintro e w' ⟨rfl, hS, hK⟩
      refine ⟨_, rfl, ?_, ?_, hK⟩
      · unfold takeL; rw [if_neg (fun x => hm x.2)]; exact Kd.R_nil _ _ _ _ _
      · unfold restL fauL; rw [if_neg (fun x => hm x.2), if_pos rfl, if_neg hm]; exact hS
  · refine (Take_bad w0 w g l k f hf h).mono ?_
    rintro e w' ⟨rfl, hS, hK⟩
    refine ⟨_, rfl, ?_, ?_, hK⟩
    · unfold takeL; rw [if_neg (fun x => hf x.1)]; exact Kd.R_nil _ _ _ _ _
    · unfold restL fauL; rw [if_neg (fun x => hf x.1), if_neg hf]; exact hS

theorem rd_byte {l : List Int} (h : bytesOk l) (k : Int) (h0 : 0 ≤ k) (h1 : k < l.length) : 0 ≤ rd l k ∧ rd l k < 256 := by
  have := h (rd l k) (by
    have h' : k.toNat < l.length := by omega
    unfold rd; simp [List.getD_eq_getElem?_getD, List.getElem?_eq_getElem h'])
  exact this
def numV : List Int → Nat → Nat
  | [], n => n
  | b :: l, n => numV l ((n * 256 + b.toNat) % 18446744073709551616)
theorem num_or (n b : Nat) (hb : b < 256) : Go.bits .or .u64 (((n * 256) % 18446744073709551616 : Nat) : Int) (b : Int) = (((n * 256 + b) % 18446744073709551616 : Nat) : Int) := by
  have hw : ∀ n : Int, 0 ≤ n → n < 2 ^ 64 → IntKind.u64.wrap n = n := fun n h0 h1 => by
    rw [show IntKind.u64.wrap n = n % 18446744073709551616 by simp [IntKind.wrap, IntKind.bits, IntKind.signed]]
    exact Int.emod_eq_of_lt h0 h1
  rw [bits_join .u64 64 (by decide) hw 8 (((n * 256) % 18446744073709551616 : Nat) : Int) (b : Int) (by omega) (by omega) (by omega) (by omega) (by omega) (by omega)]
  omega
theorem num_step (x : Nat) (b : Int) (h : 0 ≤ b ∧ b < 256) : Go.bits .or .u64 (IntKind.u64.wrap ((x : Int) * 256)) (IntKind.u64.wrap b) = (((x * 256 + b.toNat) % 18446744073709551616 : Nat) : Int) := by
  have e : ∀ n : Int, IntKind.u64.wrap n = n % 18446744073709551616 := fun n => by simp [IntKind.wrap, IntKind.bits, IntKind.signed]
  rw [e, e, ← num_or x b.toNat (by omega)]
  congr 1
  omega

set_option maxHeartbeats 4000000 in
set_option maxRecDepth 100000 in
theorem SNum_calls (w0 w : World) (g : Nat) (l : List Int) (f size : Int) (hb : bytesOk l) (h : St w0 w g l f) :
    Calls Try.prog 56 #[.pointer (some ⟨g, 0, none⟩), .int .i64 size] w fun e w' => e = .returned (.int .u64 (numV (takeL l f (fitI size).toNat) 0 : Nat)) ∧ St w0 w' g (restL l f (fitI size).toNat) (fauL l f (fitI size).toNat) ∧ Keep1 w w' g := by
  have HBB := Aside0.mk hb
  have HS := Aside0.mk h
  obtain ⟨q, hq⟩ : ∃ q : Int, fitI size = q := ⟨_, rfl⟩
  rw [hq]
  have HQ := Aside0.mk hq
  have HQ8 : Aside0 (q < 140737488355328) := ⟨by have := (fitI_bd size).2; omega⟩
  clear hb h hq
  go_enter Try.func56, Try.ntmps56
  go_wp2_with fail
  refine (fit_calls _ _).mono ?_
  rintro e w1 ⟨rfl, rfl⟩
  rw [HQ.out]
  go_wp2_with fail
  refine (Take_calls w0 _ g l f q HQ8.out HS.out).mono ?_
  rintro e w1 ⟨v, rfl, hR, hS, hK⟩
  obtain ⟨A, c, rfl⟩ := Kd.R_slice hR
  have hC := (Kd.R_reads' hR).2.2
  have hcl := (Kd.R_reads' hR).2.1
  generalize htk : takeL l f q.toNat = tk at *
  have HTB : Aside0 (bytesOk tk) := ⟨by rw [← htk]; unfold takeL; split; exact fun x hx => HBB.out x (List.mem_of_mem_take hx); exact fun x hx => absurd hx (by simp)⟩
  have HTK := Aside0.mk htk
  clear htk HS
  have HC := Aside0.mk hC
  have HS := Aside0.mk (And.intro hS hK)
  have hlt : (tk.length : Int) ≤ 9223372036854775807 := by have := hC.2.1; omega
  clear hC hS hK hR hcl
  go_wp2_with fail
  go_loopg [5, 13] tk.length (fun kq v5 v13 w' => ∃ (x : Nat) (k : Int), 0 ≤ k ∧ k + kq = tk.length ∧ v5 = .int .u64 x ∧ v13 = .int .i64 k ∧ Aside0 (numV (tk.drop k.toNat) x = numV tk 0) ∧ w' = w1)
  case atStart => exact ⟨0, 0, by omega, by omega, rfl, rfl, ⟨rfl⟩, rfl⟩
  case round =>
    obtain ⟨x, k, hk0, hk, rfl, rfl, HX, rfl⟩ := hrel
    by_cases hlt2 : k < tk.length
    · have hg : ∃ g, gk = g + 1 := ⟨gk - 1, by omega⟩
      obtain ⟨gg, rfl⟩ := hg
      obtain ⟨ad, ead, hx⟩ := Kd.at_int HC.out (k : Int) (by omega) (by omega)
      cases ead
      have HT := Aside0.mk (drop_rd tk k hk0 hlt2)
      have HK := Aside0.mk hk
      clear hk
      have HS1 := Aside0.mk (num_step x (rd tk k) (rd_byte HTB.out k hk0 hlt2))
      go_wp2_with fail
      go_roundg gg
      case measure => omega
      case rel => exact ⟨(x * 256 + (rd tk k).toNat) % 18446744073709551616, k + 1, by omega, by have := HK.out; omega, by rw [HS1.out], rfl, ⟨by rw [← HX.out, HT.out]; rfl⟩, rfl⟩
    · have hX : numV tk 0 = x := by have := HX.out; rw [List.drop_eq_nil_of_le (by omega)] at this; exact this.symm
      have HX2 := Aside0.mk hX
      clear HX hX
      go_wp2_with fail
      go_ret
      exact ⟨by rw [HTK.out, HX2.out]; rfl, HS.out.1, HS.out.2⟩

theorem Fault_St {w0 w : World} {g : Nat} {l : List Int} {f : Int} (h : St w0 w g l f) : Calls Try.prog 57 #[.pointer (some ⟨g, 0, none⟩)] w fun e w' => e = .returned (.int .i64 f) ∧ w = w' := by
  obtain ⟨_, _, A, c, hb, _⟩ := h
  exact Fault_calls g A l.length c f w hb
theorem Left_St {w0 w : World} {g : Nat} {l : List Int} {f : Int} (h : St w0 w g l f) : Calls Try.prog 59 #[.pointer (some ⟨g, 0, none⟩)] w fun e w' => e = .returned (.int .i64 (leftI f l.length)) ∧ w = w' := by
  obtain ⟨_, _, A, c, hb, _⟩ := h
  exact Left_calls g A l.length c f w hb
theorem R_keep1 {w w1 : World} {g base : Nat} {v : Value} {xs : List Int} (h : Kd.R (Kd.int .u8) 5 w base (fun _ => True) v xs) (hk : Keep1 w w1 g) (hg : g < base) : Kd.R (Kd.int .u8) 5 w1 base (fun _ => True) v xs :=
  Kd.R_mono (Kd.R_keep (Kd.R_bound h) hk.keep (fun k ho => by have := ho.2.1; omega)) (fun _ _ => trivial)
theorem St.lt {w0 w : World} {g : Nat} {l : List Int} {f : Int} (h : St w0 w g l f) : g < w.heap.size := by
  obtain ⟨_, _, A, c, hb, _⟩ := h
  exact blk_lt hb
theorem restL_ok {l : List Int} {f : Int} {m : Nat} (h : bytesOk l) : bytesOk (restL l f m) := by
  unfold restL; split
  · exact fun x hx => h x (List.mem_of_mem_drop hx)
  · exact h
end Go.Proofs.Ytkfninhbbcfdcaa.Giv

namespace Go.Proofs.Ytkfninhbbcfdcaa.Giv
open Go.RowKit Go.Proofs.YtkfninhbbcfdcaaW.PrintWords Go.Proofs.YtkfninhbbcfdcaaW.PrintLast Go.Proofs.YtkfninhbbcfdcaaW.PrintMore
set_option linter.unusedVariables false
set_option linter.unusedSimpArgs false

def limI (a : Int) : Int := if a < 0 then 0 else if 255 < a then 255 else a
theorem limI_bd (a : Int) : 0 ≤ limI a ∧ limI a ≤ 255 := by unfold limI; split <;> (try split) <;> omega
section
attribute [local go_sem] max2_int min2_int max_two min_two
theorem limit_calls (a0 : Int) (w : World) : Calls Try.prog 50 #[.int .i64 a0] w fun e w' => e = .returned (.int .i64 (limI a0)) ∧ w = w' := by
  go_enter Try.func50, Try.ntmps50
  go_wp2
  all_goals go_ret
  all_goals refine ⟨?_, rfl⟩
  all_goals simp [limI]
  all_goals grind
end
theorem rlimit_calls (a0 : Int) (w : World) : Calls Try.prog 53 #[.int .i64 a0] w fun e w' => e = .returned (.int .i64 (limI a0)) ∧ w = w' := by
  by_cases h0 : a0 < 0
  · have HF : Aside0 (limI a0 = 0) := ⟨if_pos h0⟩
    go_enter Try.func53, Try.ntmps53
    go_wp2_with fail
    go_ret
    exact ⟨by rw [HF.out]; rfl, rfl⟩
  · by_cases h1 : 255 < a0
    · have HF : Aside0 (limI a0 = 255) := ⟨by unfold limI; rw [if_neg h0, if_pos h1]⟩
      go_enter Try.func53, Try.ntmps53
      go_wp2_with fail
      go_ret
      exact ⟨by rw [HF.out]; rfl, rfl⟩
    · have HF : Aside0 (limI a0 = a0) := ⟨by unfold limI; rw [if_neg h0, if_neg h1]⟩
      go_enter Try.func53, Try.ntmps53
      go_wp2_with fail
      go_ret
      exact ⟨by rw [HF.out]; rfl, rfl⟩

theorem fit1 : (fitI 1).toNat = 1 := by decide
theorem fit2 : (fitI 2).toNat = 2 := by decide
/-- The frame of bytes. -/
def frameB (b : List Int) : List Int := (beB 1 b.length ++ b) ++ beB 2 (shortN (beB 1 b.length ++ b))
def wrapB (b : List Int) (most : Int) : List Int := if (b.length : Int) > limI most then [] else frameB b
def wrapE (b : List Int) (most : Int) : Int := if (b.length : Int) > limI most then 13 else 0
theorem frameB_length (b : List Int) : (frameB b).length = b.length + 3 := by simp [frameB, beB_length]; omega
theorem beB_ok (k n : Nat) : bytesOk (beB k n) := by
  induction k with
  | zero => intro x hx; simp [beB] at hx
  | succ k ih =>
    intro x hx
    rcases List.mem_cons.1 hx with rfl | hx
    · constructor <;> omega
    · exact ih x hx
theorem bytesOk_app {a b : List Int} (ha : bytesOk a) (hb : bytesOk b) : bytesOk (a ++ b) := fun x hx => (List.mem_append.1 hx).elim (ha x) (hb x)
theorem frameB_ok {b : List Int} (hb : bytesOk b) : bytesOk (frameB b) := bytesOk_app (bytesOk_app (beB_ok _ _) hb) (beB_ok _ _)

set_option maxHeartbeats 4000000 in
set_option maxRecDepth 100000 in
theorem Wrap_calls (A0 : Option Addr) (c0 : Nat) (l0 : List Int) (a1 : Int) (w : World) (hr0 : Kd.C (Kd.int .u8) w A0 l0.length l0) (hc0 : l0.length ≤ c0) (hb0 : bytesOk l0) :
    Calls Try.prog 13 #[.slice A0 l0.length c0, .int .i64 a1] w fun e w' => ∃ v, e = .returned (.tuple #[v, .int .i64 (wrapE l0 a1)]) ∧ Kd.R (Kd.int .u8) 5 w' w.heap.size (fun _ => True) v (wrapB l0 a1) ∧ Below w.heap.size w w' := by
  have hlim := limI_bd a1
  have HR := Aside0.mk hr0
  have HC := Aside0.mk hc0
  have HB := Aside0.mk hb0
  have hlen : (l0.length : Int) ≤ 9223372036854775807 := by have := hr0.2.1; omega
  clear hr0 hc0 hb0
  by_cases hgt : (l0.length : Int) > limI a1
  · have HE : Aside0 (wrapE l0 a1 = 13 ∧ wrapB l0 a1 = []) := ⟨if_pos hgt, if_pos hgt⟩
    obtain ⟨m, hm⟩ : ∃ m : Int, limI a1 = m := ⟨_, rfl⟩
    rw [hm] at hgt hlim
    have HM := Aside0.mk hm
    clear hm
    go_enter Try.func13, Try.ntmps13
    go_wp2_with fail
    refine (limit_calls _ _).mono ?_
    rintro e w1 ⟨rfl, rfl⟩
    rw [HM.out]
    go_wp2_with fail
    go_ret2
    exact ⟨_, by rw [HE.out.1]; rfl, by rw [HE.out.2]; exact Kd.R_nil _ _ _ _ _, Below.refl _ _⟩
  · have HE : Aside0 (wrapE l0 a1 = 0 ∧ wrapB l0 a1 = frameB l0) := ⟨if_neg hgt, if_neg hgt⟩
    obtain ⟨m, hm⟩ : ∃ m : Int, limI a1 = m := ⟨_, rfl⟩
    rw [hm] at hgt hlim
    have HM := Aside0.mk hm
    clear hm
    have hl255 : l0.length ≤ 255 := by omega
    obtain ⟨y, hy⟩ : ∃ y : List Int, beB 1 l0.length = y := ⟨_, rfl⟩
    obtain ⟨f, hf⟩ : ∃ f : List Int, y ++ l0 = f := ⟨_, rfl⟩
    have HYL : Aside0 (y.length = 1 ∧ f.length ≤ 256) := ⟨by rw [← hy, beB_length], by rw [← hf, ← hy, List.length_append, beB_length]; omega⟩
    have HFB : Aside0 (bytesOk f) := ⟨by rw [← hf, ← hy]; exact bytesOk_app (beB_ok _ _) HB.out⟩
    have HEF : Aside0 (f ++ beB 2 (shortN f) = wrapB l0 a1) := ⟨by rw [HE.out.2, ← hf, ← hy]; rfl⟩
    have hs := shortN_lt f
    obtain ⟨s, hse⟩ : ∃ s : Nat, shortN f = s := ⟨_, rfl⟩
    rw [hse] at HEF hs
    have HSE := Aside0.mk hse
    have HY := Aside0.mk hy
    have HF := Aside0.mk hf
    clear hy hf hse
    go_enter Try.func13, Try.ntmps13
    go_wp2_with fail
    refine (limit_calls _ _).mono ?_
    rintro e w1 ⟨rfl, rfl⟩
    rw [HM.out]
    go_wp2_with fail
    refine (Num_calls none 0 [] l0.length 1 _ (C_nil _ _) (Nat.le_refl _) (by omega) (by simp)).mono ?_
    rintro e w1 ⟨v1, rfl, hR1, hB1⟩
    rw [List.nil_append, fit1, HY.out] at hR1
    have H1 := Aside0.mk hR1
    have HB1 := Aside0.mk hB1
    obtain ⟨A1, c1, rfl⟩ := Kd.R_slice hR1
    clear hR1 hB1
    go_wp2_with (first
      | ((with_reducible refine gate_builtin (b := .append) (xs := #[.tmp 15, .tmp 16]) rfl ?_); at_builtin; refine Kd.R_append_rows (Kd.int .u8) (w0 := w) w.heap.size rfl (.tmp 15) (.tmp 16) 22 5 (.int .u8 0) 1 rfl Try.underlying22 info5 rfl (by decide) (by omega) (.slice A1 y.length c1) y l0 _ _ _ (fun _ => True) (fun _ => False) rfl rfl ?aO ?aR (fun _ _ h => h) (fun _ h => h.elim) ?aF ?aB ?aS ?aL ?_; (case aR => exact (Kd.C_below HR.out HB1.out)); (case aB => exact HB1.out); (case aF => exact (fun _ _ => trivial)); (case aO => exact H1.out); (case aS => exact (below_size HB1.out)); (case aL => have := HYL.out; omega); intro v17 w17 ho hb hg hat; rw [HF.out] at ho; clear H1 HB1; have HB2 := Aside0.mk hb; have H2 := Aside0.mk ho; clear ho hb hg hat; obtain ⟨A2, c2, e2⟩ := Kd.R_slice H2.out; subst e2)
      | fail)
    refine (sum_Short.calls A2 c2 f (s : Int) _ (Kd.R_reads' H2.out).2.2 (Kd.R_reads' H2.out).2.1 (by rw [← HSE.out]; exact if_pos HFB.out)).mono ?_
    rintro e w3 ⟨rfl, hd⟩
    have H3 := Aside0.mk (Kd.R_below H2.out hd.below)
    have HB3 := Aside0.mk (below_step HB2.out hd.below)
    clear hd H2 HB2
    go_wp2_with fail
    refine (Num_calls A2 c2 f s 2 _ (Kd.R_reads' H3.out).2.2 (Kd.R_reads' H3.out).2.1 (by omega) (by have := HYL.out; omega)).mono ?_
    rintro e w4 ⟨v4, rfl, hR4, hB4⟩
    rw [fit2, HEF.out] at hR4
    have H4 := Aside0.mk (And.intro hR4 hB4)
    clear hR4 hB4
    go_wp2_with fail
    go_ret2
    exact ⟨_, by rw [HE.out.1]; rfl, Kd.R_lower H4.out.1 HB3.out.size, below_step HB3.out H4.out.2⟩

set_option maxHeartbeats 4000000 in
set_option maxRecDepth 100000 in
theorem rWrap_calls (A0 : Option Addr) (c0 : Nat) (l0 : List Int) (a1 : Int) (w : World) (hr0 : Kd.C (Kd.int .u8) w A0 l0.length l0) (hc0 : l0.length ≤ c0) (hb0 : bytesOk l0) :
    Calls Try.prog 14 #[.slice A0 l0.length c0, .int .i64 a1] w fun e w' => ∃ v, e = .returned (.tuple #[v, .int .i64 (wrapE l0 a1)]) ∧ Kd.R (Kd.int .u8) 5 w' w.heap.size (fun _ => True) v (wrapB l0 a1) ∧ Below w.heap.size w w' := by
  have hlim := limI_bd a1
  have HR := Aside0.mk hr0
  have HC := Aside0.mk hc0
  have HB := Aside0.mk hb0
  have hlen : (l0.length : Int) ≤ 9223372036854775807 := by have := hr0.2.1; omega
  clear hr0 hc0 hb0
  by_cases hgt : (l0.length : Int) > limI a1
  · have HE : Aside0 (wrapE l0 a1 = 13 ∧ wrapB l0 a1 = []) := ⟨if_pos hgt, if_pos hgt⟩
    obtain ⟨m, hm⟩ : ∃ m : Int, limI a1 = m := ⟨_, rfl⟩
    rw [hm] at hgt hlim
    have HM := Aside0.mk hm
    clear hm
    go_enter Try.func14, Try.ntmps14
    go_wp2_with fail
    refine (rlimit_calls _ _).mono ?_
    rintro e w1 ⟨rfl, rfl⟩
    rw [HM.out]
    go_wp2_with fail
    go_ret2
    exact ⟨_, by rw [HE.out.1]; rfl, by rw [HE.out.2]; exact Kd.R_nil _ _ _ _ _, Below.refl _ _⟩
  · have HE : Aside0 (wrapE l0 a1 = 0 ∧ wrapB l0 a1 = frameB l0) := ⟨if_neg hgt, if_neg hgt⟩
    obtain ⟨m, hm⟩ : ∃ m : Int, limI a1 = m := ⟨_, rfl⟩
    rw [hm] at hgt hlim
    have HM := Aside0.mk hm
    clear hm
    have hl255 : l0.length ≤ 255 := by omega
    obtain ⟨y, hy⟩ : ∃ y : List Int, beB 1 l0.length = y := ⟨_, rfl⟩
    have hy2 : [(l0.length : Int)] = y := by rw [← hy]; simp [beB]; omega
    obtain ⟨f, hf⟩ : ∃ f : List Int, y ++ l0 = f := ⟨_, rfl⟩
    have HYL : Aside0 (y.length = 1 ∧ f.length ≤ 256) := ⟨by rw [← hy, beB_length], by rw [← hf, ← hy, List.length_append, beB_length]; omega⟩
    have HFB : Aside0 (bytesOk f) := ⟨by rw [← hf, ← hy]; exact bytesOk_app (beB_ok _ _) HB.out⟩
    have HEF : Aside0 (f ++ beB 2 (shortN f) = wrapB l0 a1) := ⟨by rw [HE.out.2, ← hf, ← hy]; rfl⟩
    have hs := shortN_lt f
    obtain ⟨s, hse⟩ : ∃ s : Nat, shortN f = s := ⟨_, rfl⟩
    rw [hse] at HEF hs
    have HSE := Aside0.mk hse
    have HY := Aside0.mk hy2
    have HF := Aside0.mk hf
    clear hy hf hse hy2
    go_enter Try.func14, Try.ntmps14
    go_wp2_with fail
    refine (rlimit_calls _ _).mono ?_
    rintro e w1 ⟨rfl, rfl⟩
    rw [HM.out]
    have HB0 := Aside0.mk (Below.refl w.heap.size w)
    go_wp2_with (first
      | ((with_reducible refine gate_dst (N := 16) rfl ?_); refine Kd.R_lit (Kd.int .u8) _ 5 ?hg (N := 16) ?hd (xs := ([(l0.length : Int)] : List Int)) (inner := [.int .u8 (l0.length : Int)]) (ok := fun _ => True) (okp := fun _ => True) ?hr ?hp (fun _ hk => hk) trivial (Below.refl _ _) (Nat.le_refl _) (by simp) ?_; (case hd => rfl); (case hg => rfl); (case hr => first | (go_simp; done) | (go_simp; rfl)); (case hp => exact (Reps.one (show Kd.M (Kd.int .u8) _ _ _ (l0.length : Int) [.int .u8 (l0.length : Int)] from rfl) (Reps.none _ _))); intro v16 w16 ho hb hg_ hnew_; clear hg_ hnew_; rw [HY.out] at ho; have H1 := Aside0.mk ho; have HB1 := Aside0.mk hb; clear HB0; clear hb ho; obtain ⟨A1, c1, e1⟩ := Kd.R_slice H1.out; subst e1)
      | ((with_reducible refine gate_builtin (b := .append) (xs := #[.tmp 17, .tmp 18]) rfl ?_); at_builtin; refine Kd.R_append_rows (Kd.int .u8) (w0 := w) w.heap.size rfl (.tmp 17) (.tmp 18) 22 5 (.int .u8 0) 1 rfl Try.underlying22 info5 rfl (by decide) (by omega) (.slice A1 y.length c1) y l0 _ _ _ (fun _ => True) (fun _ => False) rfl rfl ?aO ?aR (fun _ _ h => h) (fun _ h => h.elim) ?aF ?aB ?aS ?aL ?_; (case aR => exact (Kd.C_below HR.out HB1.out)); (case aB => exact HB1.out); (case aF => exact (fun _ _ => trivial)); (case aO => exact H1.out); (case aS => exact (below_size HB1.out)); (case aL => have := HYL.out; omega); intro v17 w17 ho hb hg hat; rw [HF.out] at ho; clear H1 HB1; have HB2 := Aside0.mk hb; have H2 := Aside0.mk ho; clear ho hb hg hat; obtain ⟨A2, c2, e2⟩ := Kd.R_slice H2.out; subst e2)
      | fail)
    refine (rialtoref04_Short.calls A2 c2 f (s : Int) _ (Kd.R_reads' H2.out).2.2 (Kd.R_reads' H2.out).2.1 (by rw [← HSE.out]; exact if_pos ⟨HFB.out, by have := HYL.out; omega⟩)).mono ?_
    rintro e w3 ⟨rfl, hd⟩
    have H3 := Aside0.mk (Kd.R_below H2.out hd.below)
    have HB3 := Aside0.mk (below_step HB2.out hd.below)
    clear hd H2 HB2
    have HZ : Aside0 ([(s : Int) / 256, (s : Int) % 256] = beB 2 s) := ⟨by simp [beB]; omega⟩
    obtain ⟨z, hz⟩ : ∃ z : List Int, beB 2 s = z := ⟨_, rfl⟩
    have HZL : Aside0 (z.length = 2) := ⟨by rw [← hz, beB_length]⟩
    rw [hz] at HZ HEF
    clear hz
    go_wp2_with (first
      | ((with_reducible refine gate_dst (N := 29) rfl ?_); refine Kd.R_lit (Kd.int .u8) _ 5 ?hg (N := 29) ?hd (xs := ([(s : Int) / 256, (s : Int) % 256] : List Int)) (inner := [.int .u8 ((s : Int) / 256), .int .u8 ((s : Int) % 256)]) (ok := fun _ => True) (okp := fun _ => True) ?hr ?hp (fun _ hk => hk) trivial (Below.refl _ _) (Nat.le_refl _) (by simp) ?_; (case hd => rfl); (case hg => rfl); (case hr => first | (go_simp; done) | (go_simp; rfl)); (case hp => exact (Reps.one (show Kd.M (Kd.int .u8) _ _ _ ((s : Int) / 256) [.int .u8 ((s : Int) / 256)] from rfl) (Reps.one (show Kd.M (Kd.int .u8) _ _ _ ((s : Int) % 256) [.int .u8 ((s : Int) % 256)] from rfl) (Reps.none _ _)))); intro v29 w29 ho29 hb hg_ hnew_; clear hg_ hnew_; rw [HZ.out] at ho29; (have n0_ := Aside0.mk (Kd.R_elder' H3.out (Kd.R_base ho29) hb)); (have n1_ := Aside0.mk (Kd.R_lower (Kd.R_new' ho29 (Kd.R_lt H3.out)) (below_size HB3.out))); (have n2_ := Aside0.mk (below_step HB3.out hb)); clear H3; clear HB3; have H3 := n0_; have HO29 := n1_; have HB3 := n2_; clear n0_ n1_ n2_; clear hb ho29; obtain ⟨A29, c29, e29⟩ := Kd.R_slice HO29.out; subst e29)
      | ((with_reducible refine gate_builtin (b := .append) (xs := #[.tmp 22, .tmp 29]) rfl ?_); at_builtin; refine Kd.R_append_rows (Kd.int .u8) (w0 := w) w.heap.size rfl (.tmp 22) (.tmp 29) 22 5 (.int .u8 0) 1 rfl Try.underlying22 info5 rfl (by decide) (by omega) (.slice A2 f.length c2) f z _ _ _ (fun k_ => some k_ ≠ (.slice A29 z.length c29 : Value).ownBlock) (fun _ => False) rfl rfl ?aO ?aR (fun _ _ h => h) (fun _ h => h.elim) ?aF ?aB ?aS ?aL ?_; (case aR => exact (Kd.R_reads' HO29.out).2.2); (case aB => exact HB3.out); (case aF => exact (fun k_ hk => Kd.fresh' (Kd.R_lt HO29.out) k_ hk)); (case aO => exact Kd.R_mono H3.out (fun _ hk => hk.2)); (case aS => exact (below_size HB3.out)); (case aL => have := HYL.out; have := HZL.out; omega); intro v30 w30 ho hb hg hat; rw [HEF.out] at ho; clear HO29 HB3 H3; have HB4 := Aside0.mk hb; have H4 := Aside0.mk ho; clear ho hb hg hat)
      | fail)
    go_ret2
    exact ⟨_, by rw [HE.out.1]; rfl, Kd.R_mono H4.out (fun _ _ => trivial), HB4.out⟩
end Go.Proofs.Ytkfninhbbcfdcaa.Giv

namespace Go.Proofs.Ytkfninhbbcfdcaa.Giv
open Go.RowKit Go.Proofs.YtkfninhbbcfdcaaW.PrintWords Go.Proofs.YtkfninhbbcfdcaaW.PrintLast Go.Proofs.YtkfninhbbcfdcaaW.PrintMore
set_option linter.unusedVariables false
set_option linter.unusedSimpArgs false

theorem short_at {w : World} {A : Option Addr} {l : List Int} (n c : Nat) (h : Kd.C (Kd.int .u8) w A n l) (hn : n = l.length) (hc : n ≤ c) (hb : bytesOk l) (s : Nat) (hs : shortN l = s) :
    Calls Try.prog 52 #[.slice A n c] w fun e w' => e = .returned (.int .u16 (s : Nat)) ∧ Drawn0 w w' := by
  subst hn
  exact sum_Short.calls A c l (s : Int) w h hc (by rw [← hs]; exact if_pos hb)

set_option maxHeartbeats 4000000 in
set_option maxRecDepth 100000 in
theorem Take_long (A0 : Option Addr) (c0 : Nat) (l : List Int) (a1 : Int) (w : World) (hr0 : Kd.C (Kd.int .u8) w A0 l.length l) (hc0 : l.length ≤ c0) (hb0 : bytesOk l)
    (n1 : Nat) (hn1 : n1 < 256) (m : Int) (hm : limI a1 = m) (h1 : numV (takeL l 0 1) 0 = n1) (hf : fauL l 0 1 = 0) (hgt : (n1 : Int) > m) :
    Calls Try.prog 15 #[.slice A0 l.length c0, .int .i64 a1] w fun e w' => e = .returned (.tuple #[.slice none 0 0, .int .i64 1, .int .i64 13]) ∧ Below w.heap.size w w' := by
  have HR := Aside0.mk hr0
  have HC := Aside0.mk hc0
  have HB := Aside0.mk hb0
  have HM := Aside0.mk hm
  have H1 := Aside0.mk h1
  have HF := Aside0.mk hf
  clear hr0 hc0 hb0 hm h1 hf
  go_enter Try.func15, Try.ntmps15
  go_wp2_with fail
  refine (From_calls A0 l c0 _ HR.out HC.out).mono ?_
  obtain ⟨g, hg⟩ : ∃ g, w.heap.size = g := ⟨_, rfl⟩
  have HG := Aside0.mk hg
  rw [hg]
  clear hg
  rintro e w1 ⟨rfl, hS⟩
  have HS := Aside0.mk hS
  clear hS
  go_wp2_with fail
  refine (SNum_calls w _ g l 0 1 HB.out HS.out).mono ?_
  rintro e w2 ⟨rfl, hS, hK⟩
  rw [fit1, HF.out] at hS
  rw [fit1, H1.out]
  clear HS
  have HS := Aside0.mk hS
  clear hS hK
  go_wp2_with fail
  refine (Fault_St HS.out).mono ?_
  rintro e w3 ⟨rfl, rfl⟩
  go_wp2_with fail
  refine (limit_calls _ _).mono ?_
  rintro e w3 ⟨rfl, rfl⟩
  rw [HM.out]
  go_wp2_with fail
  go_ret3
  exact ⟨rfl, HS.out.below⟩
/-- Behind Take_long. -/
theorem fit_lit2 : (fitI 2).toNat = 2 := fit2
set_option maxHeartbeats 8000000 in
set_option maxRecDepth 100000 in
theorem Take_short_ok (A0 : Option Addr) (c0 : Nat) (l : List Int) (a1 : Int) (w : World) (hr0 : Kd.C (Kd.int .u8) w A0 l.length l) (hc0 : l.length ≤ c0) (hb0 : bytesOk l)
    (n1 : Nat) (l1 : List Int) (f1 : Int) (body l2 : List Int) (f2 : Int) (k2 : Nat) (l3 : List Int) (f3 : Int)
    (hn1 : n1 < 256) (m : Int) (hm : limI a1 = m) (h1 : numV (takeL l 0 1) 0 = n1) (g1 : restL l 0 1 = l1) (i1 : fauL l 0 1 = f1)
    (h2 : takeL l1 f1 n1 = body) (g2 : restL l1 f1 n1 = l2) (i2 : fauL l1 f1 n1 = f2) (h3 : numV (takeL l2 f2 2) 0 = k2) (g3 : restL l2 f2 2 = l3) (i3 : fauL l2 f2 2 = f3)
    (hlm : ¬ (n1 : Int) > m) (hf1 : f1 = 0) (hf3 : (f3 == 0) = false) :
    Calls Try.prog 15 #[.slice A0 l.length c0, .int .i64 a1] w fun e w' => e = .returned (.tuple #[.slice none 0 0, .int .i64 0, .int .i64 12]) ∧ Below w.heap.size w w' := by
  subst hf1
  have HR := Aside0.mk hr0
  have HC := Aside0.mk hc0
  have HB := Aside0.mk hb0
  have HM := Aside0.mk hm
  have HB1 : Aside0 (bytesOk l1) := ⟨by rw [← g1]; exact restL_ok hb0⟩
  have HB2 : Aside0 (bytesOk l2) := ⟨by rw [← g2]; exact restL_ok HB1.out⟩
  have H1 := Aside0.mk (And.intro h1 (And.intro g1 i1))
  have H2 := Aside0.mk (And.intro h2 (And.intro g2 i2))
  have H3 := Aside0.mk (And.intro h3 (And.intro g3 i3))
  clear hr0 hc0 hb0 hm h1 g1 i1 h2 g2 i2 h3 g3 i3
  have hf3' : (f3 != 0) = true := by simp [bne, hf3]
  clear hf3
  go_enter Try.func15, Try.ntmps15
  go_wp2_with fail
  refine (From_calls A0 l c0 _ HR.out HC.out).mono ?_
  obtain ⟨g, hg⟩ : ∃ g, w.heap.size = g := ⟨_, rfl⟩
  have HG := Aside0.mk hg
  rw [hg]
  clear hg
  rintro e w1 ⟨rfl, hS⟩
  have HS := Aside0.mk hS
  clear hS
  go_wp2_with fail
  refine (SNum_calls w _ g l 0 1 HB.out HS.out).mono ?_
  rintro e w2 ⟨rfl, hS, hK⟩
  rw [fit1, H1.out.2.1, H1.out.2.2] at hS
  rw [fit1, H1.out.1]
  clear HS
  have HS := Aside0.mk hS
  clear hS hK
  go_wp2_with fail
  refine (Fault_St HS.out).mono ?_
  rintro e w3 ⟨rfl, rfl⟩
  go_wp2_with fail
  refine (limit_calls _ _).mono ?_
  rintro e w3 ⟨rfl, rfl⟩
  rw [HM.out]
  go_wp2_with fail
  refine (Take_calls w _ g l1 0 n1 (by omega) HS.out).mono ?_
  rintro e w3 ⟨v3, rfl, hR, hS, hK⟩
  rw [Int.toNat_natCast, H2.out.1] at hR
  rw [Int.toNat_natCast, H2.out.2.1, H2.out.2.2] at hS
  have HRB := Aside0.mk (And.intro hR (And.intro HS.out.lt hK.keep.1))
  clear HS
  have HS := Aside0.mk hS
  clear hS hK hR
  go_wp2_with fail
  refine (SNum_calls w _ g l2 f2 2 HB2.out HS.out).mono ?_
  rintro e w4 ⟨rfl, hS, hK⟩
  rw [fit2, H3.out.2.1, H3.out.2.2] at hS
  rw [fit2, H3.out.1]
  clear HS
  have HS := Aside0.mk hS
  have HRB4 := Aside0.mk (And.intro (R_keep1 HRB.out.1 hK HRB.out.2.1) HRB.out.2.1)
  clear hS hK HRB
  go_wp2_with fail
  refine (Fault_St HS.out).mono ?_
  rintro e w5 ⟨rfl, rfl⟩
  go_wp2_with fail
  go_ret3
  exact ⟨rfl, HS.out.below⟩
set_option maxHeartbeats 8000000 in
set_option maxRecDepth 100000 in
theorem Take_short_no (A0 : Option Addr) (c0 : Nat) (l : List Int) (a1 : Int) (w : World) (hr0 : Kd.C (Kd.int .u8) w A0 l.length l) (hc0 : l.length ≤ c0) (hb0 : bytesOk l)
    (n1 : Nat) (l1 : List Int) (f1 : Int) (body l2 : List Int) (f2 : Int) (k2 : Nat) (l3 : List Int) (f3 : Int)
    (hn1 : n1 < 256) (m : Int) (hm : limI a1 = m) (h1 : numV (takeL l 0 1) 0 = n1) (g1 : restL l 0 1 = l1) (i1 : fauL l 0 1 = f1)
    (h2 : takeL l1 f1 n1 = body) (g2 : restL l1 f1 n1 = l2) (i2 : fauL l1 f1 n1 = f2) (h3 : numV (takeL l2 f2 2) 0 = k2) (g3 : restL l2 f2 2 = l3) (i3 : fauL l2 f2 2 = f3)
    (hf1 : (f1 == 0) = false) (hf3 : (f3 == 0) = false) :
    Calls Try.prog 15 #[.slice A0 l.length c0, .int .i64 a1] w fun e w' => e = .returned (.tuple #[.slice none 0 0, .int .i64 0, .int .i64 12]) ∧ Below w.heap.size w w' := by
  have HR := Aside0.mk hr0
  have HC := Aside0.mk hc0
  have HB := Aside0.mk hb0
  have HM := Aside0.mk hm
  have HB1 : Aside0 (bytesOk l1) := ⟨by rw [← g1]; exact restL_ok hb0⟩
  have HB2 : Aside0 (bytesOk l2) := ⟨by rw [← g2]; exact restL_ok HB1.out⟩
  have H1 := Aside0.mk (And.intro h1 (And.intro g1 i1))
  have H2 := Aside0.mk (And.intro h2 (And.intro g2 i2))
  have H3 := Aside0.mk (And.intro h3 (And.intro g3 i3))
  clear hr0 hc0 hb0 hm h1 g1 i1 h2 g2 i2 h3 g3 i3
  have hf3' : (f3 != 0) = true := by simp [bne, hf3]
  clear hf3
  go_enter Try.func15, Try.ntmps15
  go_wp2_with fail
  refine (From_calls A0 l c0 _ HR.out HC.out).mono ?_
  obtain ⟨g, hg⟩ : ∃ g, w.heap.size = g := ⟨_, rfl⟩
  have HG := Aside0.mk hg
  rw [hg]
  clear hg
  rintro e w1 ⟨rfl, hS⟩
  have HS := Aside0.mk hS
  clear hS
  go_wp2_with fail
  refine (SNum_calls w _ g l 0 1 HB.out HS.out).mono ?_
  rintro e w2 ⟨rfl, hS, hK⟩
  rw [fit1, H1.out.2.1, H1.out.2.2] at hS
  rw [fit1, H1.out.1]
  clear HS
  have HS := Aside0.mk hS
  clear hS hK
  go_wp2_with fail
  refine (Fault_St HS.out).mono ?_
  rintro e w3 ⟨rfl, rfl⟩
  go_wp2_with fail
  refine (Take_calls w _ g l1 f1 n1 (by omega) HS.out).mono ?_
  rintro e w3 ⟨v3, rfl, hR, hS, hK⟩
  rw [Int.toNat_natCast, H2.out.1] at hR
  rw [Int.toNat_natCast, H2.out.2.1, H2.out.2.2] at hS
  have HRB := Aside0.mk (And.intro hR (And.intro HS.out.lt hK.keep.1))
  clear HS
  have HS := Aside0.mk hS
  clear hS hK hR
  go_wp2_with fail
  refine (SNum_calls w _ g l2 f2 2 HB2.out HS.out).mono ?_
  rintro e w4 ⟨rfl, hS, hK⟩
  rw [fit2, H3.out.2.1, H3.out.2.2] at hS
  rw [fit2, H3.out.1]
  clear HS
  have HS := Aside0.mk hS
  have HRB4 := Aside0.mk (And.intro (R_keep1 HRB.out.1 hK HRB.out.2.1) HRB.out.2.1)
  clear hS hK HRB
  go_wp2_with fail
  refine (Fault_St HS.out).mono ?_
  rintro e w5 ⟨rfl, rfl⟩
  go_wp2_with fail
  go_ret3
  exact ⟨rfl, HS.out.below⟩
set_option maxHeartbeats 8000000 in
set_option maxRecDepth 100000 in
theorem Take_sum (A0 : Option Addr) (c0 : Nat) (l : List Int) (a1 : Int) (w : World) (hr0 : Kd.C (Kd.int .u8) w A0 l.length l) (hc0 : l.length ≤ c0) (hb0 : bytesOk l)
    (n1 : Nat) (l1 : List Int) (f1 : Int) (body l2 : List Int) (f2 : Int) (k2 : Nat) (l3 : List Int) (f3 : Int)
    (hn1 : n1 < 256) (m : Int) (hm : limI a1 = m) (h1 : numV (takeL l 0 1) 0 = n1) (g1 : restL l 0 1 = l1) (i1 : fauL l 0 1 = f1)
    (h2 : takeL l1 f1 n1 = body) (g2 : restL l1 f1 n1 = l2) (i2 : fauL l1 f1 n1 = f2) (h3 : numV (takeL l2 f2 2) 0 = k2) (g3 : restL l2 f2 2 = l3) (i3 : fauL l2 f2 2 = f3)
    (hlm : ¬ (n1 : Int) > m) (hf1 : f1 = 0) (hf2 : f2 = 0) (hf3 : f3 = 0) (hlen : l.length = l3.length + (n1 + 3)) (hmx : (l.length : Int) ≤ 9223372036854775807) (hbt : bytesOk (l.take (n1 + 1))) (s : Nat) (hs : shortN (l.take (n1 + 1)) = s) (hs2 : s < 65536) (hk2 : k2 < 65536) (heq : ¬ k2 = s) :
    Calls Try.prog 15 #[.slice A0 l.length c0, .int .i64 a1] w fun e w' => ∃ v, e = .returned (.tuple #[v, .int .i64 (n1 + 3), .int .i64 14]) ∧ Kd.R (Kd.int .u8) 5 w' w.heap.size (fun _ => True) v [] ∧ Below w.heap.size w w' := by
  subst hf1 hf2 hf3
  have HT := Aside0.mk (And.intro (C_take1 hr0 (m := n1 + 1) (by omega)) (And.intro (by omega : n1 + 1 ≤ c0) (And.intro hbt hs)))
  have HLEN := Aside0.mk hlen
  clear hlen hbt hs
  have HR := Aside0.mk hr0
  have HC := Aside0.mk hc0
  have HB := Aside0.mk hb0
  have HM := Aside0.mk hm
  have HB1 : Aside0 (bytesOk l1) := ⟨by rw [← g1]; exact restL_ok hb0⟩
  have HB2 : Aside0 (bytesOk l2) := ⟨by rw [← g2]; exact restL_ok HB1.out⟩
  have H1 := Aside0.mk (And.intro h1 (And.intro g1 i1))
  have H2 := Aside0.mk (And.intro h2 (And.intro g2 i2))
  have H3 := Aside0.mk (And.intro h3 (And.intro g3 i3))
  clear hr0 hc0 hb0 hm h1 g1 i1 h2 g2 i2 h3 g3 i3
  go_enter Try.func15, Try.ntmps15
  go_wp2_with fail
  refine (From_calls A0 l c0 _ HR.out HC.out).mono ?_
  obtain ⟨g, hg⟩ : ∃ g, w.heap.size = g := ⟨_, rfl⟩
  have HG := Aside0.mk hg
  rw [hg]
  clear hg
  rintro e w1 ⟨rfl, hS⟩
  have HS := Aside0.mk hS
  clear hS
  go_wp2_with fail
  refine (SNum_calls w _ g l 0 1 HB.out HS.out).mono ?_
  rintro e w2 ⟨rfl, hS, hK⟩
  rw [fit1, H1.out.2.1, H1.out.2.2] at hS
  rw [fit1, H1.out.1]
  clear HS
  have HS := Aside0.mk hS
  clear hS hK
  go_wp2_with fail
  refine (Fault_St HS.out).mono ?_
  rintro e w3 ⟨rfl, rfl⟩
  go_wp2_with fail
  refine (limit_calls _ _).mono ?_
  rintro e w3 ⟨rfl, rfl⟩
  rw [HM.out]
  go_wp2_with fail
  refine (Take_calls w _ g l1 0 n1 (by omega) HS.out).mono ?_
  rintro e w3 ⟨v3, rfl, hR, hS, hK⟩
  rw [Int.toNat_natCast, H2.out.1] at hR
  rw [Int.toNat_natCast, H2.out.2.1, H2.out.2.2] at hS
  have HRB := Aside0.mk (And.intro hR (And.intro HS.out.lt hK.keep.1))
  clear HS
  have HS := Aside0.mk hS
  clear hS hK hR
  go_wp2_with fail
  refine (SNum_calls w _ g l2 0 2 HB2.out HS.out).mono ?_
  rintro e w4 ⟨rfl, hS, hK⟩
  rw [fit2, H3.out.2.1, H3.out.2.2] at hS
  rw [fit2, H3.out.1]
  clear HS
  have HS := Aside0.mk hS
  have HRB4 := Aside0.mk (And.intro (R_keep1 HRB.out.1 hK HRB.out.2.1) HRB.out.2.1)
  clear hS hK HRB
  go_wp2_with fail
  refine (Fault_St HS.out).mono ?_
  rintro e w5 ⟨rfl, rfl⟩
  go_wp2_with fail
  refine (Left_St HS.out).mono ?_
  rintro e w5 ⟨rfl, rfl⟩
  rw [show leftI 0 l3.length = (l3.length : Int) from if_pos rfl]
  have hsz : (l.length : Int) - (l3.length : Int) = (n1 : Int) + 3 := by have := HLEN.out; omega
  have hls : l3.length ≤ l.length := by have := HLEN.out; omega
  have hc43 : n1 + 1 ≤ c0 := HT.out.2.1
  go_wp2_with fail
  refine (short_at _ _ (Kd.C_below HT.out.1 HS.out.below) (by rw [List.length_take]; have := HLEN.out; omega) HT.out.2.1 HT.out.2.2.1 _ HT.out.2.2.2).mono ?_
  rintro e w5 ⟨rfl, hd⟩
  have HR5 := Aside0.mk (Kd.R_below HRB4.out.1 hd.below)
  have HB5 := Aside0.mk (below_step HS.out.below hd.below)
  clear hd
  go_wp2_with fail
  go_ret3
  exact ⟨_, rfl, Kd.R_nil _ _ _ _ _, HB5.out⟩
set_option maxHeartbeats 8000000 in
set_option maxRecDepth 100000 in
theorem Take_good (A0 : Option Addr) (c0 : Nat) (l : List Int) (a1 : Int) (w : World) (hr0 : Kd.C (Kd.int .u8) w A0 l.length l) (hc0 : l.length ≤ c0) (hb0 : bytesOk l)
    (n1 : Nat) (l1 : List Int) (f1 : Int) (body l2 : List Int) (f2 : Int) (k2 : Nat) (l3 : List Int) (f3 : Int)
    (hn1 : n1 < 256) (m : Int) (hm : limI a1 = m) (h1 : numV (takeL l 0 1) 0 = n1) (g1 : restL l 0 1 = l1) (i1 : fauL l 0 1 = f1)
    (h2 : takeL l1 f1 n1 = body) (g2 : restL l1 f1 n1 = l2) (i2 : fauL l1 f1 n1 = f2) (h3 : numV (takeL l2 f2 2) 0 = k2) (g3 : restL l2 f2 2 = l3) (i3 : fauL l2 f2 2 = f3)
    (hlm : ¬ (n1 : Int) > m) (hf1 : f1 = 0) (hf2 : f2 = 0) (hf3 : f3 = 0) (hlen : l.length = l3.length + (n1 + 3)) (hmx : (l.length : Int) ≤ 9223372036854775807) (hbt : bytesOk (l.take (n1 + 1))) (s : Nat) (hs : shortN (l.take (n1 + 1)) = s) (hs2 : s < 65536) (hk2 : k2 < 65536) (heq : k2 = s) :
    Calls Try.prog 15 #[.slice A0 l.length c0, .int .i64 a1] w fun e w' => ∃ v, e = .returned (.tuple #[v, .int .i64 (n1 + 3), .int .i64 0]) ∧ Kd.R (Kd.int .u8) 5 w' w.heap.size (fun _ => True) v body ∧ Below w.heap.size w w' := by
  subst hf1 hf2 hf3
  have HT := Aside0.mk (And.intro (C_take1 hr0 (m := n1 + 1) (by omega)) (And.intro (by omega : n1 + 1 ≤ c0) (And.intro hbt hs)))
  have HLEN := Aside0.mk hlen
  clear hlen hbt hs
  have HR := Aside0.mk hr0
  have HC := Aside0.mk hc0
  have HB := Aside0.mk hb0
  have HM := Aside0.mk hm
  have HB1 : Aside0 (bytesOk l1) := ⟨by rw [← g1]; exact restL_ok hb0⟩
  have HB2 : Aside0 (bytesOk l2) := ⟨by rw [← g2]; exact restL_ok HB1.out⟩
  have H1 := Aside0.mk (And.intro h1 (And.intro g1 i1))
  have H2 := Aside0.mk (And.intro h2 (And.intro g2 i2))
  have H3 := Aside0.mk (And.intro h3 (And.intro g3 i3))
  clear hr0 hc0 hb0 hm h1 g1 i1 h2 g2 i2 h3 g3 i3
  go_enter Try.func15, Try.ntmps15
  go_wp2_with fail
  refine (From_calls A0 l c0 _ HR.out HC.out).mono ?_
  obtain ⟨g, hg⟩ : ∃ g, w.heap.size = g := ⟨_, rfl⟩
  have HG := Aside0.mk hg
  rw [hg]
  clear hg
  rintro e w1 ⟨rfl, hS⟩
  have HS := Aside0.mk hS
  clear hS
  go_wp2_with fail
  refine (SNum_calls w _ g l 0 1 HB.out HS.out).mono ?_
  rintro e w2 ⟨rfl, hS, hK⟩
  rw [fit1, H1.out.2.1, H1.out.2.2] at hS
  rw [fit1, H1.out.1]
  clear HS
  have HS := Aside0.mk hS
  clear hS hK
  go_wp2_with fail
  refine (Fault_St HS.out).mono ?_
  rintro e w3 ⟨rfl, rfl⟩
  go_wp2_with fail
  refine (limit_calls _ _).mono ?_
  rintro e w3 ⟨rfl, rfl⟩
  rw [HM.out]
  go_wp2_with fail
  refine (Take_calls w _ g l1 0 n1 (by omega) HS.out).mono ?_
  rintro e w3 ⟨v3, rfl, hR, hS, hK⟩
  rw [Int.toNat_natCast, H2.out.1] at hR
  rw [Int.toNat_natCast, H2.out.2.1, H2.out.2.2] at hS
  have HRB := Aside0.mk (And.intro hR (And.intro HS.out.lt hK.keep.1))
  clear HS
  have HS := Aside0.mk hS
  clear hS hK hR
  go_wp2_with fail
  refine (SNum_calls w _ g l2 0 2 HB2.out HS.out).mono ?_
  rintro e w4 ⟨rfl, hS, hK⟩
  rw [fit2, H3.out.2.1, H3.out.2.2] at hS
  rw [fit2, H3.out.1]
  clear HS
  have HS := Aside0.mk hS
  have HRB4 := Aside0.mk (And.intro (R_keep1 HRB.out.1 hK HRB.out.2.1) HRB.out.2.1)
  clear hS hK HRB
  go_wp2_with fail
  refine (Fault_St HS.out).mono ?_
  rintro e w5 ⟨rfl, rfl⟩
  go_wp2_with fail
  refine (Left_St HS.out).mono ?_
  rintro e w5 ⟨rfl, rfl⟩
  rw [show leftI 0 l3.length = (l3.length : Int) from if_pos rfl]
  have hsz : (l.length : Int) - (l3.length : Int) = (n1 : Int) + 3 := by have := HLEN.out; omega
  have hls : l3.length ≤ l.length := by have := HLEN.out; omega
  have hc43 : n1 + 1 ≤ c0 := HT.out.2.1
  go_wp2_with fail
  refine (short_at _ _ (Kd.C_below HT.out.1 HS.out.below) (by rw [List.length_take]; have := HLEN.out; omega) HT.out.2.1 HT.out.2.2.1 _ HT.out.2.2.2).mono ?_
  rintro e w5 ⟨rfl, hd⟩
  have HR5 := Aside0.mk (Kd.R_below HRB4.out.1 hd.below)
  have HB5 := Aside0.mk (below_step HS.out.below hd.below)
  clear hd
  go_wp2_with fail
  go_ret3
  exact ⟨_, rfl, Kd.R_lower HR5.out (by have := HRB4.out.2; have := HG.out; omega), HB5.out⟩
end Go.Proofs.Ytkfninhbbcfdcaa.Giv

namespace Go.Proofs.Ytkfninhbbcfdcaa.Giv
open Go.RowKit Go.Proofs.YtkfninhbbcfdcaaW.PrintWords Go.Proofs.YtkfninhbbcfdcaaW.PrintLast Go.Proofs.YtkfninhbbcfdcaaW.PrintMore
set_option linter.unusedVariables false
set_option linter.unusedSimpArgs false

/-- What stands at the front of bytes: the body, how many bytes, the error. -/
def tk : List Int → Int → List Int × Int × Int
  | [], _ => ([], 0, 12)
  | x :: t, a => if x > limI a then ([], 1, 13) else if t.length < x.toNat + 2 then ([], 0, 12)
    else if frameB (t.take x.toNat) = (x :: t).take (x.toNat + 3) then (t.take x.toNat, (x.toNat : Int) + 3, 0) else ([], (x.toNat : Int) + 3, 14)

theorem two_bytes {p q : Int} (hp : 0 ≤ p ∧ p < 256) (hq : 0 ≤ q ∧ q < 256) {s : Nat} (hs : s < 65536) : numV [p, q] 0 = s ↔ beB 2 s = [p, q] := by
  simp only [numV, beB, List.cons.injEq, and_true]
  omega
theorem numV_two_lt {p q : Int} (hp : 0 ≤ p ∧ p < 256) (hq : 0 ≤ q ∧ q < 256) : numV [p, q] 0 < 65536 := by
  simp only [numV]
  omega
theorem len_two {l : List Int} (h : l.length = 2) : ∃ p q, l = [p, q] := by
  match l, h with
  | [p, q], _ => exact ⟨p, q, rfl⟩
theorem frame_iff {x : Int} {t : List Int} (hx : 0 ≤ x ∧ x < 256) (ht : bytesOk t) (hl : x.toNat + 2 ≤ t.length) :
    frameB (t.take x.toNat) = (x :: t).take (x.toNat + 3) ↔ numV ((t.drop x.toNat).take 2) 0 = shortN ((x :: t).take (x.toNat + 1)) := by
  have h2 : ((t.drop x.toNat).take 2).length = 2 := by rw [List.length_take, List.length_drop]; omega
  have hok : bytesOk ((t.drop x.toNat).take 2) := fun y hy => ht y (List.mem_of_mem_drop (List.mem_of_mem_take hy))
  obtain ⟨p, q, hpq⟩ := len_two h2
  have hlt : (t.take x.toNat).length = x.toNat := by rw [List.length_take]; omega
  have e1 : beB 1 (t.take x.toNat).length = [x] := by rw [hlt]; simp [beB]; omega
  have e2 : (x :: t).take (x.toNat + 3) = ([x] ++ t.take x.toNat) ++ [p, q] := by
    rw [List.take_succ_cons, ← hpq, List.take_add]
    rfl
  have e3 : (x :: t).take (x.toNat + 1) = [x] ++ t.take x.toNat := by rw [List.take_succ_cons]; rfl
  unfold frameB
  rw [e1, e2, e3, List.append_right_inj, hpq, two_bytes (hok p (by rw [hpq]; simp)) (hok q (by rw [hpq]; simp)) (shortN_lt _)]

theorem frame_Take (A0 : Option Addr) (c0 : Nat) (l : List Int) (a1 : Int) (w : World) (hr0 : Kd.C (Kd.int .u8) w A0 l.length l) (hc0 : l.length ≤ c0) (hb0 : bytesOk l) :
    Calls Try.prog 15 #[.slice A0 l.length c0, .int .i64 a1] w fun e w' => ∃ v, e = .returned (.tuple #[v, .int .i64 (tk l a1).2.1, .int .i64 (tk l a1).2.2]) ∧ Kd.R (Kd.int .u8) 5 w' w.heap.size (fun _ => True) v (tk l a1).1 ∧ Below w.heap.size w w' := by
  cases l with
  | nil =>
    refine (Take_short_no A0 c0 [] a1 w hr0 hc0 hb0 0 [] 12 [] [] 12 0 [] 12 (by omega) _ rfl rfl rfl rfl rfl rfl rfl rfl rfl rfl (by decide) (by decide)).mono ?_
    rintro e w' ⟨rfl, hB⟩
    exact ⟨_, rfl, Kd.R_nil _ _ _ _ _, hB⟩
  | cons x t =>
    have hx := hb0 x (by simp)
    have ht : bytesOk t := fun y hy => hb0 y (by simp [hy])
    have hmx : (((x :: t).length : Nat) : Int) ≤ 9223372036854775807 := by have := hr0.2.1; omega
    have hN : numV (takeL (x :: t) 0 1) 0 = x.toNat := by simp [takeL, numV]; omega
    have hR : restL (x :: t) 0 1 = t := by simp [restL]
    have hF : fauL (x :: t) 0 1 = 0 := by simp [fauL]
    have hxn : ((x.toNat : Nat) : Int) = x := by omega
    by_cases hgt : x > limI a1
    · have e : tk (x :: t) a1 = ([], 1, 13) := by simp only [tk]; rw [if_pos hgt]
      rw [e]
      refine (Take_long A0 c0 (x :: t) a1 w hr0 hc0 hb0 x.toNat (by omega) _ rfl hN hF (by omega)).mono ?_
      rintro e w' ⟨rfl, hB⟩
      exact ⟨_, rfl, Kd.R_nil _ _ _ _ _, hB⟩
    · by_cases hsh : t.length < x.toNat + 2
      · have e : tk (x :: t) a1 = ([], 0, 12) := by simp only [tk]; rw [if_neg hgt, if_pos hsh]
        rw [e]
        refine (Take_short_ok A0 c0 (x :: t) a1 w hr0 hc0 hb0 x.toNat t 0 _ _ _ _ _ _ (by omega) _ rfl hN hR hF rfl rfl rfl rfl rfl rfl (by omega) rfl ?_).mono ?_
        · by_cases hn : x.toNat ≤ t.length
          · have e2 : fauL t 0 x.toNat = 0 := by simp [fauL, hn]
            have e3 : restL t 0 x.toNat = t.drop x.toNat := by simp [restL, hn]
            have e4 : ¬ 2 ≤ (t.drop x.toNat).length := by rw [List.length_drop]; omega
            rw [e2, e3]; unfold fauL; rw [if_pos rfl, if_neg e4]; rfl
          · have e2 : fauL t 0 x.toNat = 12 := by simp [fauL, hn]
            rw [e2]; rfl
        rintro e w' ⟨rfl, hB⟩
        exact ⟨_, rfl, Kd.R_nil _ _ _ _ _, hB⟩
      · have hn : x.toNat ≤ t.length := by omega
        have e1 : takeL t 0 x.toNat = t.take x.toNat := by simp [takeL, hn]
        have e2 : restL t 0 x.toNat = t.drop x.toNat := by simp [restL, hn]
        have e3 : fauL t 0 x.toNat = 0 := by simp [fauL, hn]
        have hd : 2 ≤ (t.drop x.toNat).length := by rw [List.length_drop]; omega
        have e4 : takeL (t.drop x.toNat) 0 2 = (t.drop x.toNat).take 2 := by unfold takeL; rw [if_pos ⟨rfl, hd⟩]
        have e5 : restL (t.drop x.toNat) 0 2 = (t.drop x.toNat).drop 2 := by unfold restL; rw [if_pos ⟨rfl, hd⟩]
        have e6 : fauL (t.drop x.toNat) 0 2 = 0 := by unfold fauL; rw [if_pos rfl, if_pos hd]
        have hlen : (x :: t).length = ((t.drop x.toNat).drop 2).length + (x.toNat + 3) := by simp only [List.length_cons, List.length_drop]; omega
        have hk2 : numV ((t.drop x.toNat).take 2) 0 < 65536 := by
          obtain ⟨p, q, hpq⟩ := len_two (l := (t.drop x.toNat).take 2) (by rw [List.length_take]; omega)
          have hok : bytesOk ((t.drop x.toNat).take 2) := fun y hy => ht y (List.mem_of_mem_drop (List.mem_of_mem_take hy))
          rw [hpq]
          exact numV_two_lt (hok p (by rw [hpq]; simp)) (hok q (by rw [hpq]; simp))
        have hbt : bytesOk ((x :: t).take (x.toNat + 1)) := fun y hy => hb0 y (List.mem_of_mem_take hy)
        have hiff := frame_iff hx ht (by omega)
        by_cases hfr : frameB (t.take x.toNat) = (x :: t).take (x.toNat + 3)
        · have e : tk (x :: t) a1 = (t.take x.toNat, (x.toNat : Int) + 3, 0) := by simp only [tk]; rw [if_neg hgt, if_neg hsh, if_pos hfr]
          rw [e]
          exact Take_good A0 c0 (x :: t) a1 w hr0 hc0 hb0 x.toNat t 0 _ _ 0 _ _ 0 (by omega) _ rfl hN hR hF e1 e2 e3 (by rw [e4]) e5 e6 (by omega) rfl rfl rfl hlen hmx hbt _ rfl (shortN_lt _) hk2 (hiff.1 hfr)
        · have e : tk (x :: t) a1 = ([], (x.toNat : Int) + 3, 14) := by simp only [tk]; rw [if_neg hgt, if_neg hsh, if_neg hfr]
          rw [e]
          exact Take_sum A0 c0 (x :: t) a1 w hr0 hc0 hb0 x.toNat t 0 _ _ 0 _ _ 0 (by omega) _ rfl hN hR hF e1 e2 e3 (by rw [e4]) e5 e6 (by omega) rfl rfl rfl hlen hmx hbt _ rfl (shortN_lt _) hk2 (fun h => hfr (hiff.2 h))
end Go.Proofs.Ytkfninhbbcfdcaa.Giv
