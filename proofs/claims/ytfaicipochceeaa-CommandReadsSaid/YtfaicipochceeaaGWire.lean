/- The package wire: numbers as bytes, scans. -/
import Derived.Deep.Draws
import Derived.Deep.AppendLies
import Derived.Maps.AppendAt
import Derived.Laws.BytesArg
import Derived.Laws.MakeOwn
import Derived.Laws.OwnMore
import Derived.Deep.OwnRows
import Derived.Tactics
import Derived.Lib.ConvBytes
import Derived.Laws.Slices
import Derived.BigQuiet
import Derived.WideLaws
import Derived.Deep.DeepCutAuto
import Derived.Deep.CutBlock
import Derived.Deep.RegionHeld3
import Derived.Laws.Rows
import Derived.Lib.AppendStr
import Derived.ArgAppend
import Derived.Laws.IdiomCopy
import Derived.OrdersHeld
import Derived.Test.YtfaicipochceeaaWTab
import Derived.Test.YtfaicipochceeaaWQPut
import Derived.Test.YtfaicipochceeaaWApart
import Derived.Test.YtfaicipochceeaaWArr
import Derived.Test.YtfaicipochceeaaWZeros
import Derived.Test.YtfaicipochceeaaWFoot
import Derived.Test.YtfaicipochceeaaWKept
import Derived.Test.YtfaicipochceeaaWShare
import Derived.Test.YtfaicipochceeaaWN
import Derived.Test.YtfaicipochceeaaWFootNe
import Derived.Test.YtfaicipochceeaaWAt
import Derived.Test.YtfaicipochceeaaWEqStruct
import Derived.Test.YtfaicipochceeaaWRepsOne
import Derived.Test.YtfaicipochceeaaWInv
import Derived.Test.YtfaicipochceeaaWInvWords
import Derived.Test.YtfaicipochceeaaWGuard
import Derived.Test.YtfaicipochceeaaWNEv
import Derived.Test.YtfaicipochceeaaProg
import Derived.Below
import Derived.OwnWalk
import Derived.WalkKit
import Derived.KernelRfl
import Derived.RowKit3
import Derived.Deep.LoopGhost
import Derived.Deep.QuietTactic
import Derived.Laws.BitsLemmas
import Derived.RowKit
import Derived.Lib.SlBytesConst
import Derived.Test.YtfaicipochceeaaWWords
import Derived.Test.YtfaicipochceeaaWLast
import Derived.Test.YtfaicipochceeaaWFour
import Derived.Test.YtfaicipochceeaaWMore
namespace Go.Proofs.Ytfaicipochceeaa.Giv
open Go.RowKit Go.Proofs.YtfaicipochceeaaW.PrintWords Go.Proofs.YtfaicipochceeaaW.PrintLast Go.Proofs.YtfaicipochceeaaW.PrintMore
set_option linter.unusedVariables false
set_option linter.unusedSimpArgs false
theorem drop_rd (l : List Int) (k : Int) (h0 : 0 ≤ k) (h : k < l.length) : l.drop k.toNat = rd l k :: l.drop (k + 1).toNat := by
  have h' : k.toNat < l.length := by omega
  rw [List.drop_eq_getElem_cons h', show (k + 1).toNat = k.toNat + 1 by omega]
  congr 1
  unfold rd
  simp [List.getD_eq_getElem?_getD, List.getElem?_eq_getElem h']
/-- Each is a byte. -/
def bytesOk (l : List Int) : Prop := ∀ x ∈ l, 0 ≤ x ∧ x < 256
instance (l : List Int) : Decidable (bytesOk l) := inferInstanceAs (Decidable (∀ x ∈ l, 0 ≤ x ∧ x < 256))
theorem bytes_of {l : List Int} (h : ∀ x ∈ l, (Lit.int .u8 x).wf = true) : bytesOk l := fun x hx => by
  have h := h x hx
  simp only [Lit.wf, Bool.and_eq_true, decide_eq_true_eq] at h
  have e1 : IntKind.u8.min = 0 := rfl
  have e2 : IntKind.u8.max = 255 := rfl
  omega
/-- A block that is known whole, its elements whole numbers, as a row that is read (whatever its mark). -/
theorem C_of_block {k : IntKind} {W : World} {g : Nat} {arr : Array Value} {e : TypeId} {fr : Nat × Nat} (xs : List Int) (h : W.heap[g]? = some (.cells arr e fr)) (ha : arr.toList = xs.map (Value.int k)) (hl : xs.length ≤ 9223372036854775807) :
    Kd.C (Kd.int k) W (some ⟨g, 0, none⟩) xs.length xs := by
  refine Kd.C_of_reads (enc := Value.int k) (d := (0 : Int)) (h1 := fun _ => rfl) ⟨rfl, hl, fun _ => ⟨_, rfl, fun j hj => ?_⟩⟩
  rw [show Addr.add ⟨g, 0, none⟩ j = ⟨g, j, none⟩ by simp only [Addr.add, Nat.zero_add]; split <;> simp_all, cell_of_row W g j arr e fr h, ← Array.getElem?_toList, ha, List.getElem?_map, List.getElem?_eq_getElem hj]
  simp [List.getD_eq_getElem?_getD, List.getElem?_eq_getElem hj]
/-- The same of the block that was laid last. -/
theorem C_new {k : IntKind} {W : World} {arr : Array Value} {e : TypeId} {fr : Nat × Nat} (xs : List Int) (ha : arr.toList = xs.map (Value.int k)) (hl : xs.length ≤ 9223372036854775807) :
    Kd.C (Kd.int k) (W.alloc (.cells arr e fr)) (some ⟨W.heap.size, 0, none⟩) xs.length xs := C_of_block xs (blk_new _ _) ha hl

theorem C_nil {k : IntKind} (W : World) (A : Option Addr) : Kd.C (Kd.int k) W A 0 [] := ⟨rfl, by decide, fun h => absurd h (by decide)⟩

theorem info5 : (Try.prog.info? 5).map (fun i => (i.zero, i.size, i.bytes)) = some (some (.int .u8 0), 1, 1) := by kernel_rfl

theorem own_calls (A0 : Option Addr) (n c : Nat) (w : World) (hc : n ≤ c) : Calls Try.prog 48 #[.slice A0 n c] w fun e w' => e = .returned (.slice A0 n n) ∧ w = w' := by
  go_enter Try.func48, Try.ntmps48
  go_wp2_with fail
  go_ret
  exact ⟨by simp, rfl⟩

def fitI (a : Int) : Int := if a < 1 then 1 else if 8 < a then 8 else a
theorem fitI_bd (a : Int) : 1 ≤ fitI a ∧ fitI a ≤ 8 := by unfold fitI; split <;> (try split) <;> omega
section
attribute [local go_sem] max2_int min2_int max_two min_two
theorem fit_calls (a0 : Int) (w : World) : Calls Try.prog 50 #[.int .i64 a0] w fun e w' => e = .returned (.int .i64 (fitI a0)) ∧ w = w' := by
  go_enter Try.func50, Try.ntmps50
  go_wp2
  all_goals go_ret
  all_goals refine ⟨?_, rfl⟩
  all_goals simp [fitI]
  all_goals grind
end

/-- The low k bytes of n, the highest first. -/
def beB : Nat → Nat → List Int
  | 0, _ => []
  | k + 1, n => ((n / 256 ^ k % 256 : Nat) : Int) :: beB k n
theorem beB_length (k n : Nat) : (beB k n).length = k := by
  induction k with
  | zero => rfl
  | succ k ih => simp [beB, ih]

theorem byte_shr (n : Nat) (i : Nat) : ((n : Int) / 2 ^ (8 * i)) % 256 = ((n / 256 ^ i % 256 : Nat) : Int) := by
  rw [show (2 : Int) ^ (8 * i) = ((256 ^ i : Nat) : Int) by rw [Int.pow_mul]; simp]
  omega
theorem beB_step {x l : List Int} {g q n : Nat} (h : x ++ beB (g + 1) n = l ++ beB q n) : (x ++ [((n : Int) / 2 ^ (8 * g)) % 256]) ++ beB g n = l ++ beB q n := by
  rw [byte_shr, List.append_assoc, ← h]; rfl

set_option maxHeartbeats 4000000 in
set_option maxRecDepth 100000 in
theorem Num_calls (A0 : Option Addr) (c0 : Nat) (l0 : List Int) (n : Nat) (size : Int) (w : World) (hr0 : Kd.C (Kd.int .u8) w A0 l0.length l0) (hc0 : l0.length ≤ c0) (hn : n < 18446744073709551616) (hl : l0.length + 8 < 140737488355328) :
    Calls Try.prog 42 #[.slice A0 l0.length c0, .int .u64 n, .int .i64 size] w fun e w' => ∃ v, e = .returned v ∧ Kd.R (Kd.int .u8) 5 w' w.heap.size (fun _ => True) v (l0 ++ beB (fitI size).toNat n) ∧ Below w.heap.size w w' := by
  have HR := Aside0.mk hr0
  have HC := Aside0.mk hc0
  have HN := Aside0.mk hn
  have HL := Aside0.mk hl
  have HB := Aside0.mk (Below.refl w.heap.size w)
  obtain ⟨q, hq⟩ : ∃ q : Nat, (q : Int) = fitI size ∧ 1 ≤ q ∧ q ≤ 8 := ⟨(fitI size).toNat, by have := fitI_bd size; omega, by have := fitI_bd size; omega, by have := fitI_bd size; omega⟩
  obtain ⟨hq0, hq1, hq2⟩ := hq
  have HQ := Aside0.mk hq0
  have HT : Aside0 (l0 ++ beB q n = l0 ++ beB (fitI size).toNat n) := ⟨by rw [← HQ.out]; rfl⟩
  clear hr0 hc0 hn hl hq0
  go_enter Try.func42, Try.ntmps42
  go_wp2_with (first
    | ((with_reducible refine gate_dst (N := 9) rfl ?_); refine Kd.R_lit (Kd.int .u8) _ 5 ?hg (N := 9) ?hd (xs := ([] : List Int)) (inner := []) (ok := fun _ => True) (okp := fun _ => True) ?hr ?hp (fun _ hk => hk) trivial (Below.refl _ _) (Nat.le_refl _) (by simp) ?_; (case hd => rfl); (case hg => rfl); (case hr => first | (go_simp; done) | (go_simp; rfl)); (case hp => exact (Reps.none _ _)); intro v9 w9 ho9 hb hg_ hnew_; clear hg_ hnew_; have HO9 := Aside0.mk (Kd.R_lower ho9 (below_size HB.out)); have HB9 := Aside0.mk (below_step HB.out hb); clear hb ho9; obtain ⟨A9, c9, e9⟩ := Kd.R_slice HO9.out; subst e9)
    | fail)
  refine (own_calls A0 l0.length c0 _ HC.out).mono ?_
  rintro e w1 ⟨rfl, rfl⟩
  go_wp2_with (first
    | ((with_reducible refine gate_builtin (b := .append) (xs := #[.tmp 9, .tmp 11]) rfl ?_); at_builtin; refine Kd.R_append_rows (Kd.int .u8) (w0 := w) w.heap.size rfl (.tmp 9) (.tmp 11) 31 5 (.int .u8 0) 1 rfl Try.underlying31 info5 rfl (by decide) (by omega) (.slice A9 0 c9) ([] : List Int) l0 _ _ _ (fun _ => True) (fun _ => False) rfl rfl ?aO ?aR (fun _ _ h => h) (fun _ h => h.elim) ?aF ?aB ?aS ?aL ?_; (case aR => exact (Kd.C_below HR.out HB9.out)); (case aB => exact HB9.out); (case aF => exact (fun _ _ => trivial)); (case aO => exact HO9.out); (case aS => exact (below_size HB9.out)); (case aL => have := HL.out; simp; omega); intro v12 w10 ho hb hg hat; rw [List.nil_append] at ho; clear HB HO9 HB9; have HB := Aside0.mk hb; have HO := Aside0.mk ho; clear ho hb hg hat; obtain ⟨A12, c12, e12⟩ := Kd.R_slice HO.out; subst e12)
    | fail)
  refine (fit_calls _ _).mono ?_
  rintro e w2 ⟨rfl, rfl⟩
  rw [← HQ.out]
  go_wp2
  clear HR HC
  go_loopg [7, 8] q (fun kq v7 v8 w' => ∃ (x7 : List Int), v8 = .int .i64 ((kq : Int) - 1) ∧ Aside0 (Kd.R (Kd.int .u8) 5 w' w.heap.size (fun _ => True) v7 x7) ∧ Aside0 (Below w.heap.size w w') ∧ Aside0 (x7 ++ beB kq n = l0 ++ beB q n) ∧ kq ≤ q)
  case atStart => exact ⟨_, rfl, HO, HB, ⟨rfl⟩, Nat.le_refl _⟩
  case round =>
    clear HB HO
    obtain ⟨x7, rfl, HO, HB, HX, hk⟩ := hrel
    obtain ⟨A7, c7, e7⟩ := Kd.R_slice HO.out
    subst e7
    cases gk with
    | zero =>
      clear hk hq1 hq2
      have HX' : Aside0 (x7 = l0 ++ beB (fitI size).toNat n) := ⟨by rw [← HT.out, ← HX.out]; exact (List.append_nil _).symm⟩
      clear HX HT
      go_wp2
      go_ret
      exact ⟨_, rfl, by rw [← HX'.out]; exact HO.out, HB.out⟩
    | succ g =>
      have hg7 : g ≤ 7 := by omega
      have hx7 : x7.length + 1 < 140737488355328 := by
        have := congrArg List.length HX.out
        simp only [List.length_append, beB_length] at this
        have := HL.out
        omega
      have HX7 := Aside0.mk hx7
      have HY : Aside0 (g ≤ q) := ⟨by omega⟩
      clear hg7
      have hg7 : g ≤ 7 := by omega
      clear hx7 hk hq1 hq2
      have HX2 := Aside0.mk (beB_step HX.out)
      clear HX
      go_wp2_with (first
        | ((with_reducible refine gate_dst (N := 26) rfl ?_); refine Kd.R_lit (Kd.int .u8) _ 5 ?hg (N := 26) ?hd (xs := ([((n : Int) / 2 ^ (8 * g)) % 256] : List Int)) (inner := [.int .u8 (((n : Int) / 2 ^ (8 * g)) % 256)]) (ok := fun _ => True) (okp := fun _ => True) ?hr ?hp (fun _ hk => hk) trivial (Below.refl _ _) (Nat.le_refl _) (by simp) ?_; (case hd => rfl); (case hg => rfl); (case hr => first | (go_simp; done) | (go_simp; rfl)); (case hp => exact (Reps.one (show Kd.M (Kd.int .u8) _ _ _ (((n : Int) / 2 ^ (8 * g)) % 256) [.int .u8 (((n : Int) / 2 ^ (8 * g)) % 256)] from rfl) (Reps.none _ _))); intro v26 w26 ho26 hb hg_ hnew_; clear hg_ hnew_; (have n0_ := Aside0.mk (Kd.R_elder' HO.out (Kd.R_base ho26) hb)); (have n1_ := Aside0.mk (Kd.R_lower (Kd.R_new' ho26 (Kd.R_lt HO.out)) (below_size HB.out))); (have n2_ := Aside0.mk (below_step HB.out hb)); clear HO; clear HB; have HO := n0_; have HO26 := n1_; have HB := n2_; clear n0_ n1_ n2_; clear hb ho26; obtain ⟨A26, c26, e26⟩ := Kd.R_slice HO26.out; subst e26)
        | ((with_reducible refine gate_builtin (b := .append) (xs := #[.tmp 20, .tmp 26]) rfl ?_); at_builtin; refine Kd.R_append_rows (Kd.int .u8) (w0 := w) w.heap.size rfl (.tmp 20) (.tmp 26) 31 5 (.int .u8 0) 1 rfl Try.underlying31 info5 rfl (by decide) (by omega) (.slice A7 x7.length c7) x7 ([((n : Int) / 2 ^ (8 * g)) % 256] : List Int) _ _ _ (fun k_ => some k_ ≠ (.slice A26 1 c26 : Value).ownBlock) (fun _ => False) rfl rfl ?aO ?aR (fun _ _ h => h) (fun _ h => h.elim) ?aF ?aB ?aS ?aL ?_; (case aR => exact (Kd.R_reads' HO26.out).2.2); (case aB => exact HB.out); (case aF => exact (fun k_ hk => Kd.fresh' (Kd.R_lt HO26.out) k_ hk)); (case aO => exact Kd.R_mono HO.out (fun _ hk => hk.2)); (case aS => exact (below_size HB.out)); (case aL => have := HX7.out; simp; omega); intro v27 w27 ho hb hg hat; clear HO26 HB HO; have HB := Aside0.mk hb; have HO := Aside0.mk ho; clear ho hb hg hat)
        | fail)
      go_roundg g
      case measure => omega
      case rel => exact ⟨_, rfl, ⟨Kd.R_mono HO.out (fun _ _ => trivial)⟩, HB, HX2, by have := HY.out; omega⟩
end Go.Proofs.Ytfaicipochceeaa.Giv

namespace Go.Proofs.Ytfaicipochceeaa.Giv
open Go.RowKit Go.Proofs.YtfaicipochceeaaW.PrintWords Go.Proofs.YtfaicipochceeaaW.PrintLast Go.Proofs.YtfaicipochceeaaW.PrintMore
set_option linter.unusedVariables false
set_option linter.unusedSimpArgs false

/-- All but one block (number g) stays. -/
structure Keep1 (w w' : World) (g : Nat) : Prop where
  keep : KeepBut w w' g none
  os : w'.os = w.os
  tape : w'.tape = w.tape
  output : w'.output = w.output
theorem Keep1.refl (w : World) (g : Nat) : Keep1 w w g := ⟨KeepBut.refl w g none, rfl, rfl, rfl⟩
theorem Keep1.trans {a b c : World} {g : Nat} (h : Keep1 a b g) (k : Keep1 b c g) : Keep1 a c g :=
  ⟨h.keep.trans k.keep (.inl rfl), k.os.trans h.os, k.tape.trans h.tape, k.output.trans h.output⟩
theorem Keep1.of_below {w w1 : World} (h : Below w.heap.size w w1) (g : Nat) : Keep1 w w1 g := ⟨KeepBut.of_below h g none, h.os, h.tape, h.output⟩
theorem Keep1.set (w : World) (g i : Nat) (u : Value) : Keep1 w (w.setCell ⟨g, i, none⟩ u) g := ⟨(KeepBut.refl w g none).set_ i u, rfl, rfl, rfl⟩
theorem Keep1.below {w0 w w1 : World} {g : Nat} (h : Keep1 w w1 g) (hb : Below w0.heap.size w0 w) (hg : w0.heap.size ≤ g) : Below w0.heap.size w0 w1 := by
  refine hb.trans ⟨h.os, h.tape, h.output, h.keep.1, fun k hk => ?_⟩
  exact h.keep.2 k (by have := hb.size; omega) (by omega) (by simp)

abbrev blkOf (A : Option Addr) (n c : Nat) (f : Int) : Obj := .cells #[.slice A n c, .int .i64 f, .bool true] 82 (0, 0)
/-- A scan that is block g: what is left, and the fault. -/
structure St (w0 w : World) (g : Nat) (l : List Int) (f : Int) : Prop where
  below : Below w0.heap.size w0 w
  lo : w0.heap.size ≤ g
  blk : ∃ A c, w.heap[g]? = some (blkOf A l.length c f) ∧ Kd.C (Kd.int .u8) w0 A l.length l ∧ l.length ≤ c

theorem From_calls (A : Option Addr) (l : List Int) (c : Nat) (w : World) (h : Kd.C (Kd.int .u8) w A l.length l) (hc : l.length ≤ c) :
    Calls Try.prog 29 #[.slice A l.length c] w fun e w' => e = .returned (.pointer (some ⟨w.heap.size, 0, none⟩)) ∧ St w w' w.heap.size l 0 := by
  have HR := Aside0.mk h
  have HC := Aside0.mk hc
  clear h hc
  go_enter Try.func29, Try.ntmps29
  go_wp2_with fail
  refine (own_calls A l.length c _ HC.out).mono ?_
  rintro e w1 ⟨rfl, rfl⟩
  go_wp2_with fail
  go_ret
  exact ⟨rfl, below_alloc (Below.refl _ _) _, Nat.le_refl _, A, l.length, blk_new _ _, HR.out, Nat.le_refl _⟩

theorem Fault_calls (g : Nat) (A : Option Addr) (n c : Nat) (f : Int) (w : World) (h : w.heap[g]? = some (blkOf A n c f)) :
    Calls Try.prog 32 #[.pointer (some ⟨g, 0, none⟩)] w fun e w' => e = .returned (.int .i64 f) ∧ w = w' := by
  have h0 : w.cell? ⟨g, 1, none⟩ = some (.int .i64 f) := blk_cell h 1
  have h1 : w.cell? ⟨g, 2, none⟩ = some (.bool true) := blk_cell h 2
  clear h
  go_enter Try.func32, Try.ntmps32
  go_wp2_with fail
  go_ret
  exact ⟨rfl, rfl⟩
theorem fine_calls (g : Nat) (A : Option Addr) (n c : Nat) (f : Int) (w : World) (h : w.heap[g]? = some (blkOf A n c f)) :
    Calls Try.prog 51 #[.pointer (some ⟨g, 0, none⟩)] w fun e w' => e = .returned (.bool (f == 0)) ∧ w = w' := by
  have H := Aside0.mk h
  clear h
  go_enter Try.func51, Try.ntmps51
  go_wp2_with fail
  refine (Fault_calls g A n c f _ H.out).mono ?_
  rintro e w1 ⟨rfl, rfl⟩
  go_wp2_with fail
  go_ret
  exact ⟨rfl, rfl⟩
def leftI (f : Int) (n : Nat) : Int := if f = 0 then n else 0
theorem Left_calls (g : Nat) (A : Option Addr) (n c : Nat) (f : Int) (w : World) (h : w.heap[g]? = some (blkOf A n c f)) :
    Calls Try.prog 54 #[.pointer (some ⟨g, 0, none⟩)] w fun e w' => e = .returned (.int .i64 (leftI f n)) ∧ w = w' := by
  have h0 : w.cell? ⟨g, 0, none⟩ = some (.slice A n c) := blk_cell h 0
  have H := Aside0.mk h
  clear h
  by_cases hf : f = 0
  · subst hf
    go_enter Try.func54, Try.ntmps54
    go_wp2_with fail
    refine (fine_calls g A n c 0 _ H.out).mono ?_
    rintro e w1 ⟨rfl, rfl⟩
    go_wp2_with fail
    go_ret
    exact ⟨rfl, rfl⟩
  · have hf' : (f == 0) = false := by simpa using hf
    have HL : Aside0 (leftI f n = 0) := ⟨if_neg hf⟩
    have HF' := Aside0.mk hf'
    clear hf hf'
    go_enter Try.func54, Try.ntmps54
    go_wp2_with fail
    refine (fine_calls g A n c f _ H.out).mono ?_
    rintro e w1 ⟨rfl, rfl⟩
    rw [HF'.out]
    go_wp2_with fail
    go_ret
    exact ⟨by rw [HL.out]; rfl, rfl⟩

def ruleF (ok : Bool) (f er : Int) : Int := if ok then f else if f = 0 then er else f
theorem Rule_calls (g : Nat) (A : Option Addr) (n c : Nat) (f er : Int) (ok : Bool) (w : World) (h : w.heap[g]? = some (blkOf A n c f)) :
    Calls Try.prog 31 #[.pointer (some ⟨g, 0, none⟩), .bool ok, .int .i64 er] w fun e w' => e = .returned (.tuple #[]) ∧ w'.heap[g]? = some (blkOf A n c (ruleF ok f er)) ∧ Keep1 w w' g := by
  have H := Aside0.mk h
  have hfr : w.frozen? ⟨g, 1, none⟩ = false := blk_frozen h 1
  have h1 : w.cell? ⟨g, 1, none⟩ = some (.int .i64 f) := blk_cell h 1
  clear h
  cases ok with
  | true =>
    go_enter Try.func31, Try.ntmps31
    go_wp2_with fail
    go_end0
    exact ⟨rfl, H.out, Keep1.refl _ _⟩
  | false =>
    by_cases hf : f = 0
    · subst hf
      go_enter Try.func31, Try.ntmps31
      go_wp2_with fail
      refine (fine_calls g A n c 0 _ H.out).mono ?_
      rintro e w1 ⟨rfl, rfl⟩
      go_wp2_with fail
      go_end0
      exact ⟨rfl, blk_set H.out 1 _, Keep1.set _ _ _ _⟩
    · have hf' : (f == 0) = false := by simpa using hf
      have HF := Aside0.mk hf
      have HF' := Aside0.mk hf'
      clear hf hf'
      go_enter Try.func31, Try.ntmps31
      go_wp2_with fail
      refine (fine_calls g A n c f _ H.out).mono ?_
      rintro e w1 ⟨rfl, rfl⟩
      rw [HF'.out]
      go_wp2_with fail
      go_end0
      exact ⟨rfl, by rw [show ruleF false f er = f by unfold ruleF; rw [if_neg (by decide), if_neg HF.out]]; exact H.out, Keep1.refl _ _⟩

theorem C_drop1 {w : World} {A : Option Addr} {c m : Nat} {xs : List Int} (h : Kd.C (Kd.int .u8) w A xs.length xs) (hm : m ≤ xs.length) (hc : xs.length ≤ c) :
    Kd.C (Kd.int .u8) w (if c = m then A else Option.map (fun x => x.add m) A) (xs.length - m) (xs.drop m) := by
  have := Kd.C_drop h hm hc
  rw [List.length_drop] at this
  simpa [Kd.int, Kd.scalar] using this
theorem C_take1 {w : World} {A : Option Addr} {m : Nat} {xs : List Int} (h : Kd.C (Kd.int .u8) w A xs.length xs) (hm : m ≤ xs.length) : Kd.C (Kd.int .u8) w A m (xs.take m) := by
  have := Kd.C_take h hm
  rwa [List.length_take, Nat.min_eq_left hm] at this

set_option maxHeartbeats 4000000 in
set_option maxRecDepth 100000 in
theorem Take_ok (w0 w : World) (g : Nat) (l : List Int) (k : Int) (m : Nat) (hk : k = m ∨ k < 0 ∧ m = 0) (hm : m ≤ l.length) (hl : m < 140737488355328) (h : St w0 w g l 0) :
    Calls Try.prog 49 #[.pointer (some ⟨g, 0, none⟩), .int .i64 k] w fun e w' => ∃ v, e = .returned v ∧ Kd.R (Kd.int .u8) 5 w' w.heap.size (fun _ => True) v (l.take m) ∧ St w0 w' g (l.drop m) 0 ∧ Keep1 w w' g := by
  obtain ⟨hB, hlo, A, c, hblk, hC, hc⟩ := h
  obtain ⟨A', hif⟩ : ∃ A', (if c = m then A else Option.map (fun x => x.add m) A) = A' := ⟨_, rfl⟩
  have hD := C_drop1 hC hm hc
  rw [hif] at hD
  have h0 : w.cell? ⟨g, 0, none⟩ = some (.slice A l.length c) := blk_cell hblk 0
  have hfr : w.frozen? ⟨g, 0, none⟩ = false := blk_frozen hblk 0
  have HBK := Aside0.mk hblk
  have HB := Aside0.mk hB
  have HLO := Aside0.mk hlo
  have HC := Aside0.mk (C_take1 hC hm)
  have HD := Aside0.mk hD
  have HL := Aside0.mk hl
  have HCC := Aside0.mk hc
  clear hblk hB hlo hC hD hl
  rcases hk with rfl | ⟨hk, rfl⟩
  ·
    clear h0 hfr
    go_enter Try.func49, Try.ntmps49
    go_wp2_with fail
    refine (Left_calls g A l.length c 0 _ HBK.out).mono ?_
    rintro e w1 ⟨rfl, rfl⟩
    rw [show leftI 0 l.length = (l.length : Int) from if_pos rfl]
    go_wp2_with fail
    refine (Rule_calls g A l.length c 0 12 true _ HBK.out).mono ?_
    rintro e w1 ⟨rfl, hb1, hk1⟩
    rw [show ruleF true 0 12 = 0 from rfl] at hb1
    have h0 : w1.cell? ⟨g, 0, none⟩ = some (.slice A l.length c) := blk_cell hb1 0
    have hfr : w1.frozen? ⟨g, 0, none⟩ = false := blk_frozen hb1 0
    have HB1 := Aside0.mk hb1
    have HK1 := Aside0.mk hk1
    clear hb1 hk1 HBK
    go_wp2_with fail
    refine (fine_calls g A l.length c 0 _ HB1.out).mono ?_
    rintro e w2 ⟨rfl, rfl⟩
    go_wp2_with (first
      | ((with_reducible refine gate_dst (N := 32) rfl ?_); refine Kd.R_lit (Kd.int .u8) _ 5 ?hg (N := 32) ?hd (xs := ([] : List Int)) (inner := []) (ok := fun _ => True) (okp := fun _ => True) ?hr ?hp (fun _ hk => hk) trivial (Below.refl _ _) (Nat.le_refl _) (by simp) ?_; (case hd => rfl); (case hg => rfl); (case hr => first | (go_simp; done) | (go_simp; rfl)); (case hp => exact (Reps.none _ _)); intro v32 w32 ho32 hb hg_ hnew_; clear hg_ hnew_; have HO32 := Aside0.mk ho32; have HB32 := Aside0.mk hb; clear hb ho32; obtain ⟨A32, c32, e32⟩ := Kd.R_slice HO32.out; subst e32)
      | ((with_reducible refine gate_builtin (b := .append) (xs := #[.tmp 32, .tmp 33]) rfl ?_); at_builtin; refine Kd.R_append_rows (Kd.int .u8) (w0 := (w1.setCell ⟨g, 0, none⟩ (.slice A' (l.length - m) (c - m)))) (w1.setCell ⟨g, 0, none⟩ (.slice A' (l.length - m) (c - m))).heap.size rfl (.tmp 32) (.tmp 33) 31 5 (.int .u8 0) 1 rfl Try.underlying31 info5 rfl (by decide) (by omega) (.slice A32 0 c32) ([] : List Int) (l.take m) _ _ _ (fun _ => True) (fun _ => False) rfl rfl ?aO ?aR (fun _ _ h => h) (fun _ h => h.elim) ?aF ?aB ?aS ?aL ?_; (case aR => exact (Kd.C_below HC.out (((HK1.out.trans (Keep1.set _ _ _ _)).trans (Keep1.of_below HB32.out _)).below HB.out HLO.out))); (case aB => exact HB32.out); (case aF => exact (fun _ _ => trivial)); (case aO => exact HO32.out); (case aS => exact (below_size HB32.out)); (case aL => have := HL.out; simp <;> omega); intro v34 w34 ho hb hg hat; rw [List.nil_append] at ho; clear HO32 HB32; have HB34 := Aside0.mk hb; have HO := Aside0.mk ho; clear ho hb hg hat)
      | fail)
    go_ret
    have HKS : Keep1 w w34 g := (HK1.out.trans (Keep1.set _ _ _ _)).trans (Keep1.of_below HB34.out _)
    refine ⟨_, rfl, Kd.R_lower HO.out (HK1.out.trans (Keep1.set _ _ _ _)).keep.1, ⟨HKS.below HB.out HLO.out, HLO.out, A', (c - m), ?_, ?_, ?_⟩, HKS⟩
    · rw [List.length_drop]; exact blk_below (blk_set HB1.out 0 _) HB34.out
    · rw [List.length_drop]; exact HD.out
    · rw [List.length_drop]; have := HCC.out; omega
  ·
    clear h0 hfr
    have hA : A = A' := by rw [← hif]; cases A <;> simp [Addr.add]
    subst hA
    clear hif
    go_enter Try.func49, Try.ntmps49
    go_wp2_with fail
    refine (Left_calls g A l.length c 0 _ HBK.out).mono ?_
    rintro e w1 ⟨rfl, rfl⟩
    rw [show leftI 0 l.length = (l.length : Int) from if_pos rfl]
    go_wp2_with fail
    refine (Rule_calls g A l.length c 0 12 true _ HBK.out).mono ?_
    rintro e w1 ⟨rfl, hb1, hk1⟩
    rw [show ruleF true 0 12 = 0 from rfl] at hb1
    have h0 : w1.cell? ⟨g, 0, none⟩ = some (.slice A l.length c) := blk_cell hb1 0
    have hfr : w1.frozen? ⟨g, 0, none⟩ = false := blk_frozen hb1 0
    have HB1 := Aside0.mk hb1
    have HK1 := Aside0.mk hk1
    clear hb1 hk1 HBK
    go_wp2_with fail
    refine (fine_calls g A l.length c 0 _ HB1.out).mono ?_
    rintro e w2 ⟨rfl, rfl⟩
    go_wp2_with (first
      | ((with_reducible refine gate_dst (N := 32) rfl ?_); refine Kd.R_lit (Kd.int .u8) _ 5 ?hg (N := 32) ?hd (xs := ([] : List Int)) (inner := []) (ok := fun _ => True) (okp := fun _ => True) ?hr ?hp (fun _ hk => hk) trivial (Below.refl _ _) (Nat.le_refl _) (by simp) ?_; (case hd => rfl); (case hg => rfl); (case hr => first | (go_simp; done) | (go_simp; rfl)); (case hp => exact (Reps.none _ _)); intro v32 w32 ho32 hb hg_ hnew_; clear hg_ hnew_; have HO32 := Aside0.mk ho32; have HB32 := Aside0.mk hb; clear hb ho32; obtain ⟨A32, c32, e32⟩ := Kd.R_slice HO32.out; subst e32)
      | ((with_reducible refine gate_builtin (b := .append) (xs := #[.tmp 32, .tmp 33]) rfl ?_); at_builtin; refine Kd.R_append_rows (Kd.int .u8) (w0 := (w1.setCell ⟨g, 0, none⟩ (.slice A l.length c))) (w1.setCell ⟨g, 0, none⟩ (.slice A l.length c)).heap.size rfl (.tmp 32) (.tmp 33) 31 5 (.int .u8 0) 1 rfl Try.underlying31 info5 rfl (by decide) (by omega) (.slice A32 0 c32) ([] : List Int) ([] : List Int) _ _ _ (fun _ => True) (fun _ => False) rfl rfl ?aO ?aR (fun _ _ h => h) (fun _ h => h.elim) ?aF ?aB ?aS ?aL ?_; (case aR => exact (Kd.C_below (show Kd.C (Kd.int .u8) w0 A 0 [] from ⟨rfl, by decide, fun h => absurd h (by decide)⟩) (((HK1.out.trans (Keep1.set _ _ _ _)).trans (Keep1.of_below HB32.out _)).below HB.out HLO.out))); (case aB => exact HB32.out); (case aF => exact (fun _ _ => trivial)); (case aO => exact HO32.out); (case aS => exact (below_size HB32.out)); (case aL => have := HL.out; simp <;> omega); intro v34 w34 ho hb hg hat; rw [List.nil_append] at ho; clear HO32 HB32; have HB34 := Aside0.mk hb; have HO := Aside0.mk ho; clear ho hb hg hat)
      | fail)
    go_ret
    have HKS : Keep1 w w34 g := (HK1.out.trans (Keep1.set _ _ _ _)).trans (Keep1.of_below HB34.out _)
    refine ⟨_, rfl, Kd.R_lower HO.out (HK1.out.trans (Keep1.set _ _ _ _)).keep.1, ⟨HKS.below HB.out HLO.out, HLO.out, A, c, ?_, ?_, ?_⟩, HKS⟩
    · rw [List.length_drop]; exact blk_below (blk_set HB1.out 0 _) HB34.out
    · rw [List.length_drop]; exact HD.out
    · rw [List.length_drop]; have := HCC.out; omega

set_option maxHeartbeats 2000000 in
set_option maxRecDepth 100000 in
theorem Take_short (w0 w : World) (g : Nat) (l : List Int) (m : Nat) (hm : l.length < m) (h : St w0 w g l 0) :
    Calls Try.prog 49 #[.pointer (some ⟨g, 0, none⟩), .int .i64 m] w fun e w' => e = .returned (.slice none 0 0) ∧ St w0 w' g l 12 ∧ Keep1 w w' g := by
  obtain ⟨hB, hlo, A, c, hblk, hC, hc⟩ := h
  have HBK := Aside0.mk hblk
  have HB := Aside0.mk hB
  have HLO := Aside0.mk hlo
  have HC := Aside0.mk hC
  have HCC := Aside0.mk hc
  clear hblk hB hlo hC hc
  go_enter Try.func49, Try.ntmps49
  go_wp2_with fail
  refine (Left_calls g A l.length c 0 _ HBK.out).mono ?_
  rintro e w1 ⟨rfl, rfl⟩
  rw [show leftI 0 l.length = (l.length : Int) from if_pos rfl]
  go_wp2_with fail
  rw [show decide (m ≤ l.length) = false from decide_eq_false (by omega)]
  refine (Rule_calls g A l.length c 0 12 false _ HBK.out).mono ?_
  rintro e w1 ⟨rfl, hb1, hk1⟩
  rw [show ruleF false 0 12 = 12 from rfl] at hb1
  have HB1 := Aside0.mk hb1
  have HK1 := Aside0.mk hk1
  clear hb1 hk1 HBK
  go_wp2_with fail
  refine (fine_calls g A l.length c 12 _ HB1.out).mono ?_
  rintro e w2 ⟨rfl, rfl⟩
  go_wp2_with fail
  go_ret
  exact ⟨rfl, ⟨HK1.out.below HB.out HLO.out, HLO.out, A, c, HB1.out, HC.out, HCC.out⟩, HK1.out⟩

set_option maxHeartbeats 2000000 in
set_option maxRecDepth 100000 in
theorem Take_bad (w0 w : World) (g : Nat) (l : List Int) (k f : Int) (hf : f ≠ 0) (h : St w0 w g l f) :
    Calls Try.prog 49 #[.pointer (some ⟨g, 0, none⟩), .int .i64 k] w fun e w' => e = .returned (.slice none 0 0) ∧ St w0 w' g l f ∧ Keep1 w w' g := by
  obtain ⟨hB, hlo, A, c, hblk, hC, hc⟩ := h
  have HBK := Aside0.mk hblk
  have HB := Aside0.mk hB
  have HLO := Aside0.mk hlo
  have HC := Aside0.mk hC
  have HCC := Aside0.mk hc
  have HL : Aside0 (leftI f l.length = 0) := ⟨if_neg hf⟩
  have HR : Aside0 (∀ b, ruleF b f 12 = f) := ⟨fun b => by unfold ruleF; rw [if_neg hf]; split <;> rfl⟩
  have HF : Aside0 ((f == 0) = false) := ⟨by simpa using hf⟩
  clear hblk hB hlo hC hc hf
  by_cases hk : k ≤ 0
  all_goals go_enter Try.func49, Try.ntmps49
  all_goals go_wp2_with fail
  all_goals refine (Left_calls g A l.length c f _ HBK.out).mono ?_
  all_goals rintro e w1 ⟨rfl, rfl⟩
  all_goals rw [HL.out]
  all_goals go_wp2_with fail
  all_goals refine (Rule_calls g A l.length c f 12 _ _ HBK.out).mono ?_
  all_goals rintro e w1 ⟨rfl, hb1, hk1⟩
  all_goals rw [HR.out] at hb1
  all_goals have HB1 := Aside0.mk hb1
  all_goals have HK1 := Aside0.mk hk1
  all_goals clear hb1 hk1 HBK
  all_goals go_wp2_with fail
  all_goals refine (fine_calls g A l.length c f _ HB1.out).mono ?_
  all_goals rintro e w2 ⟨rfl, rfl⟩
  all_goals rw [HF.out]
  all_goals go_wp2_with fail
  all_goals go_ret
  all_goals exact ⟨rfl, ⟨HK1.out.below HB.out HLO.out, HLO.out, A, c, HB1.out, HC.out, HCC.out⟩, HK1.out⟩

def takeL (l : List Int) (f : Int) (m : Nat) : List Int := if f = 0 ∧ m ≤ l.length then l.take m else []
def restL (l : List Int) (f : Int) (m : Nat) : List Int := if f = 0 ∧ m ≤ l.length then l.drop m else l
def fauL (l : List Int) (f : Int) (m : Nat) : Int := if f = 0 then if m ≤ l.length then 0 else 12 else f
theorem Take_calls (w0 w : World) (g : Nat) (l : List Int) (f k : Int) (hl : k < 140737488355328) (h : St w0 w g l f) :
    Calls Try.prog 49 #[.pointer (some ⟨g, 0, none⟩), .int .i64 k] w fun e w' => ∃ v, e = .returned v ∧ Kd.R (Kd.int .u8) 5 w' w.heap.size (fun _ => True) v (takeL l f k.toNat) ∧ St w0 w' g (restL l f k.toNat) (fauL l f k.toNat) ∧ Keep1 w w' g := by
  by_cases hf : f = 0
  · subst hf
    by_cases hm : k.toNat ≤ l.length
    · refine (Take_ok w0 w g l k k.toNat (by omega) hm (by omega) h).mono ?_
      rintro e w' ⟨v, rfl, hR, hS, hK⟩
      refine ⟨v, rfl, ?_, ?_, hK⟩
      · unfold takeL; rw [if_pos ⟨rfl, hm⟩]; exact hR
      · unfold restL fauL; rw [if_pos ⟨rfl, hm⟩, if_pos rfl, if_pos hm]; exact hS
    · have hk : k = (k.toNat : Int) := by omega
      have := Take_short w0 w g l k.toNat (by omega) h
      rw [← hk] at this
      refine this.mono ?_
      rintro e w' ⟨rfl, hS, hK⟩
      refine ⟨_, rfl, ?_, ?_, hK⟩
      · unfold takeL; rw [if_neg (fun x => hm x.2)]; exact Kd.R_nil _ _ _ _ _
      · unfold restL fauL; rw [if_neg (fun x => hm x.2), if_pos rfl, if_neg hm]; exact hS
  · refine (Take_bad w0 w g l k f hf h).mono ?_
    rintro e w' ⟨rfl, hS, hK⟩
    refine ⟨_, rfl, ?_, ?_, hK⟩
    · unfold takeL; rw [if_neg (fun x => hf x.1)]; exact Kd.R_nil _ _ _ _ _
    · unfold restL fauL; rw [if_neg (fun x => hf x.1), if_neg hf]; exact hS

theorem rd_byte {l : List Int} (h : bytesOk l) (k : Int) (h0 : 0 ≤ k) (h1 : k < l.length) : 0 ≤ rd l k ∧ rd l k < 256 := by
  have := h (rd l k) (by
    have h' : k.toNat < l.length := by omega
    unfold rd; simp [List.getD_eq_getElem?_getD, List.getElem?_eq_getElem h'])
  exact this
def numV : List Int → Nat → Nat
  | [], n => n
  | b :: l, n => numV l ((n * 256 + b.toNat) % 18446744073709551616)
theorem num_or (n b : Nat) (hb : b < 256) : Go.bits .or .u64 (((n * 256) % 18446744073709551616 : Nat) : Int) (b : Int) = (((n * 256 + b) % 18446744073709551616 : Nat) : Int) := by
  have hw : ∀ n : Int, 0 ≤ n → n < 2 ^ 64 → IntKind.u64.wrap n = n := fun n h0 h1 => by
    rw [show IntKind.u64.wrap n = n % 18446744073709551616 by simp [IntKind.wrap, IntKind.bits, IntKind.signed]]
    exact Int.emod_eq_of_lt h0 h1
  rw [bits_join .u64 64 (by decide) hw 8 (((n * 256) % 18446744073709551616 : Nat) : Int) (b : Int) (by omega) (by omega) (by omega) (by omega) (by omega) (by omega)]
  omega
theorem num_step (x : Nat) (b : Int) (h : 0 ≤ b ∧ b < 256) : Go.bits .or .u64 (IntKind.u64.wrap ((x : Int) * 256)) (IntKind.u64.wrap b) = (((x * 256 + b.toNat) % 18446744073709551616 : Nat) : Int) := by
  have e : ∀ n : Int, IntKind.u64.wrap n = n % 18446744073709551616 := fun n => by simp [IntKind.wrap, IntKind.bits, IntKind.signed]
  rw [e, e, ← num_or x b.toNat (by omega)]
  congr 1
  omega

set_option maxHeartbeats 4000000 in
set_option maxRecDepth 100000 in
theorem SNum_calls (w0 w : World) (g : Nat) (l : List Int) (f size : Int) (hb : bytesOk l) (h : St w0 w g l f) :
    Calls Try.prog 30 #[.pointer (some ⟨g, 0, none⟩), .int .i64 size] w fun e w' => e = .returned (.int .u64 (numV (takeL l f (fitI size).toNat) 0 : Nat)) ∧ St w0 w' g (restL l f (fitI size).toNat) (fauL l f (fitI size).toNat) ∧ Keep1 w w' g := by
  have HBB := Aside0.mk hb
  have HS := Aside0.mk h
  obtain ⟨q, hq⟩ : ∃ q : Int, fitI size = q := ⟨_, rfl⟩
  rw [hq]
  have HQ := Aside0.mk hq
  have HQ8 : Aside0 (q < 140737488355328) := ⟨by have := (fitI_bd size).2; omega⟩
  clear hb h hq
  go_enter Try.func30, Try.ntmps30
  go_wp2_with fail
  refine (fit_calls _ _).mono ?_
  rintro e w1 ⟨rfl, rfl⟩
  rw [HQ.out]
  go_wp2_with fail
  refine (Take_calls w0 _ g l f q HQ8.out HS.out).mono ?_
  rintro e w1 ⟨v, rfl, hR, hS, hK⟩
  obtain ⟨A, c, rfl⟩ := Kd.R_slice hR
  have hC := (Kd.R_reads' hR).2.2
  have hcl := (Kd.R_reads' hR).2.1
  generalize htk : takeL l f q.toNat = tk at *
  have HTB : Aside0 (bytesOk tk) := ⟨by rw [← htk]; unfold takeL; split; exact fun x hx => HBB.out x (List.mem_of_mem_take hx); exact fun x hx => absurd hx (by simp)⟩
  have HTK := Aside0.mk htk
  clear htk HS
  have HC := Aside0.mk hC
  have HS := Aside0.mk (And.intro hS hK)
  have hlt : (tk.length : Int) ≤ 9223372036854775807 := by have := hC.2.1; omega
  clear hC hS hK hR hcl
  go_wp2_with fail
  go_loopg [5, 13] tk.length (fun kq v5 v13 w' => ∃ (x : Nat) (k : Int), 0 ≤ k ∧ k + kq = tk.length ∧ v5 = .int .u64 x ∧ v13 = .int .i64 k ∧ Aside0 (numV (tk.drop k.toNat) x = numV tk 0) ∧ w' = w1)
  case atStart => exact ⟨0, 0, by omega, by omega, rfl, rfl, ⟨rfl⟩, rfl⟩
  case round =>
    obtain ⟨x, k, hk0, hk, rfl, rfl, HX, rfl⟩ := hrel
    by_cases hlt2 : k < tk.length
    · have hg : ∃ g, gk = g + 1 := ⟨gk - 1, by omega⟩
      obtain ⟨gg, rfl⟩ := hg
      obtain ⟨ad, ead, hx⟩ := Kd.at_int HC.out (k : Int) (by omega) (by omega)
      cases ead
      have HT := Aside0.mk (drop_rd tk k hk0 hlt2)
      have HK := Aside0.mk hk
      clear hk
      have HS1 := Aside0.mk (num_step x (rd tk k) (rd_byte HTB.out k hk0 hlt2))
      go_wp2_with fail
      go_roundg gg
      case measure => omega
      case rel => exact ⟨(x * 256 + (rd tk k).toNat) % 18446744073709551616, k + 1, by omega, by have := HK.out; omega, by rw [HS1.out], rfl, ⟨by rw [← HX.out, HT.out]; rfl⟩, rfl⟩
    · have hX : numV tk 0 = x := by have := HX.out; rw [List.drop_eq_nil_of_le (by omega)] at this; exact this.symm
      have HX2 := Aside0.mk hX
      clear HX hX
      go_wp2_with fail
      go_ret
      exact ⟨by rw [HTK.out, HX2.out]; rfl, HS.out.1, HS.out.2⟩

theorem Fault_St {w0 w : World} {g : Nat} {l : List Int} {f : Int} (h : St w0 w g l f) : Calls Try.prog 32 #[.pointer (some ⟨g, 0, none⟩)] w fun e w' => e = .returned (.int .i64 f) ∧ w = w' := by
  obtain ⟨_, _, A, c, hb, _⟩ := h
  exact Fault_calls g A l.length c f w hb
theorem Left_St {w0 w : World} {g : Nat} {l : List Int} {f : Int} (h : St w0 w g l f) : Calls Try.prog 54 #[.pointer (some ⟨g, 0, none⟩)] w fun e w' => e = .returned (.int .i64 (leftI f l.length)) ∧ w = w' := by
  obtain ⟨_, _, A, c, hb, _⟩ := h
  exact Left_calls g A l.length c f w hb
theorem R_keep1 {w w1 : World} {g base : Nat} {v : Value} {xs : List Int} (h : Kd.R (Kd.int .u8) 5 w base (fun _ => True) v xs) (hk : Keep1 w w1 g) (hg : g < base) : Kd.R (Kd.int .u8) 5 w1 base (fun _ => True) v xs :=
  Kd.R_mono (Kd.R_keep (Kd.R_bound h) hk.keep (fun k ho => by have := ho.2.1; omega)) (fun _ _ => trivial)
theorem St.lt {w0 w : World} {g : Nat} {l : List Int} {f : Int} (h : St w0 w g l f) : g < w.heap.size := by
  obtain ⟨_, _, A, c, hb, _⟩ := h
  exact blk_lt hb
theorem restL_ok {l : List Int} {f : Int} {m : Nat} (h : bytesOk l) : bytesOk (restL l f m) := by
  unfold restL; split
  · exact fun x hx => h x (List.mem_of_mem_drop hx)
  · exact h
end Go.Proofs.Ytfaicipochceeaa.Giv
