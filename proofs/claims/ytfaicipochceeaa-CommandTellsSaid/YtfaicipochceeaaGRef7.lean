/- The reference: texts; what a put hands on. -/
import Derived.Test.YtfaicipochceeaaGRNum
import Derived.Test.YtfaicipochceeaaGRef5
import Derived.Test.YtfaicipochceeaaGBytes
namespace Go.Proofs.Ytfaicipochceeaa.Giv
open Go.Lib Go.RowKit Go.Proofs.YtfaicipochceeaaW.PrintWords Go.Proofs.YtfaicipochceeaaW.PrintLast Go.Proofs.YtfaicipochceeaaW.PrintMore
set_option linter.unusedVariables false
set_option linter.unusedSimpArgs false
theorem rNum_at {w : World} {A0 : Option Addr} {l0 : List Int} (n0 c0 : Nat) (h : Kd.C (Kd.int .u8) w A0 n0 l0) (hn0 : n0 = l0.length) (hc0 : n0 ≤ c0) (v : Int) (n : Nat) (hv : v = n) (hn : n < 18446744073709551616) (size : Int) (k : Nat) (hk : (fitI size).toNat = k) (hl : l0.length + 8 < 140737488355328) (m : List Int) (hm : l0 ++ beB k n = m) :
    Calls Try.prog 47 #[.slice A0 n0 c0, .int .u64 v, .int .i64 size] w (FreshB w m) := by
  subst hn0 hv hk hm
  refine (rNum_calls A0 c0 l0 n size w h hc0 hn hl).mono ?_
  rintro e w' ⟨u, rfl, hR, hB⟩
  obtain ⟨A, c, rfl⟩ := Kd.R_slice hR
  exact ⟨A, c, rfl, hR, hB⟩
set_option maxHeartbeats 4000000 in
set_option maxRecDepth 100000 in
theorem rText_calls (A0 : Option Addr) (c0 : Nat) (l0 : List Int) (s : ByteArray) (w : World) (hr0 : Kd.C (Kd.int .u8) w A0 l0.length l0) (hc0 : l0.length ≤ c0) (hs : s.size ≤ 255) (hl : l0.length + 300 < 140737488355328) (m : List Int) (hm : l0 ++ textB s = m) :
    Calls Try.prog 45 #[.slice A0 l0.length c0, .string s] w (FreshB w m) := by
  have H := Aside0.mk (And.intro hr0 (And.intro hc0 (And.intro hs hl)))
  have hsi : ¬ (255 : Int) < s.size := by omega
  have hs2 : (s.size : Int) ≤ 255 := by omega
  obtain ⟨l1, hl1⟩ : ∃ l1, l0 ++ beB 1 s.size = l1 := ⟨_, rfl⟩
  have HL1 : Aside0 (l1 ++ bytesOf s = m ∧ l1.length = l0.length + 1) := ⟨by
    rw [← hl1, ← hm]
    refine ⟨by rw [List.append_assoc]; rfl, ?_⟩
    rw [List.length_append, beB_length]⟩
  have HE := Aside0.mk hl1
  clear hr0 hc0 hs hl hl1 hm
  go_enter Try.func45, Try.ntmps45
  go_wp2_with fail
  refine (rNum_at l0.length c0 H.out.1 rfl H.out.2.1 _ s.size rfl (by have := H.out.2.2.1; omega) 1 1 rfl (by have := H.out.2.2.2; omega) l1 HE.out).mono ?_
  rintro e w1 ⟨A1, c1, rfl, hR, hB⟩
  have HR := Aside0.mk hR
  have HB := Aside0.mk hB
  clear hR hB
  go_wp2_with (first
    | ((with_reducible refine gate_builtin (b := .append) (xs := #[.tmp 16, .tmp 17]) rfl ?_); at_builtin; refine R_append_str (w0 := w) w.heap.size rfl (.tmp 16) (.tmp 17) 31 9 rfl Try.underlying31 Try.underlying9 info5 (.slice A1 l1.length c1) l1 s rfl rfl HR.out HB.out HB.out.size ?aL ?_; (case aL => have := HL1.out.2; have := H.out.2.2; omega); intro v16 w2 ho hb hg; rw [HL1.out.1] at ho; obtain ⟨A2, c2, e2⟩ := Kd.R_slice ho; subst e2; have HO := Aside0.mk ho; have HB2 := Aside0.mk hb; clear ho hb hg)
    | fail)
  go_ret
  exact ⟨A2, c2, rfl, HO.out, HB2.out⟩
theorem grown_refl (w : World) (o : Option Nat) : w.grownBy w o := ⟨rfl, rfl, rfl, Nat.le_refl _, fun _ _ _ => rfl⟩
theorem grown_of_below {w w' : World} (o : Option Nat) (h : Below w.heap.size w w') : w.grownBy w' o := ⟨h.os, h.tape, h.output, h.size, fun k hk _ => h.block k hk⟩
theorem grown_trans {a w w' : World} {row : Option Nat} (h : a.grownBy w row) (k : w.grownBy w' row) : a.grownBy w' row :=
  ⟨k.os.trans h.os, k.tape.trans h.tape, k.output.trans h.output, Nat.le_trans h.size k.size, fun i hi hr => (k.block i (Nat.lt_of_lt_of_le hi h.size) hr).trans (h.block i hi hr)⟩
/-- What a put hands on: a row of ours, in the old place or in a new one. -/
def PutR (w0 w : World) (o : Option Nat) (l : List Int) (e : Ending) (w' : World) : Prop := ∃ A c, e = .returned (.slice A l.length c) ∧ Kd.R (Kd.int .u8) 5 w' w0.heap.size (fun _ => True) (.slice A l.length c) l ∧ Below w0.heap.size w0 w' ∧ w.grownBy w' o
theorem PutR.of_fresh {w0 w w1 : World} {o : Option Nat} {l : List Int} {e : Ending} {w' : World} (h : FreshB w1 l e w') (hb1 : Below w.heap.size w w1) (hB : Below w0.heap.size w0 w) : PutR w0 w o l e w' := by
  obtain ⟨A, c, rfl, hR, hb⟩ := h
  have h1 := below_step hb1 hb
  exact ⟨A, c, rfl, Kd.R_lower hR (Nat.le_trans hB.size hb1.size), below_step hB h1, grown_of_below o h1⟩
theorem byte_beB {n : Int} (h : 0 ≤ n ∧ n ≤ 127) : [byteN n] = beB 1 n.toNat := by
  unfold byteN
  rw [if_neg (by omega)]
  simp [beB]
  omega
theorem item_beB {g : Int} (h : -1 ≤ g ∧ g ≤ 127) : [byteN g] = beB 1 (itemN g) := by
  unfold byteN itemN
  by_cases h0 : g < 0
  · rw [if_pos h0, if_pos h0]; rfl
  · rw [if_neg h0, if_neg h0]
    simp [beB]
    omega
/-- What a put walks over: the row, a command's block. -/
structure PB (w0 w W : World) (r : Nat) (c : Cmd) (o : Option Nat) (v : Value) (l : List Int) : Prop where
  row : Kd.R (Kd.int .u8) 5 W w0.heap.size (fun _ => True) v l
  below : Below w0.heap.size w0 W
  grown : w.grownBy W o
  blk : W.heap[r]? = some (.cells (cells c) 28 (0, 0))
theorem PB.step {w0 w W W1 : World} {r : Nat} {c : Cmd} {o : Option Nat} {v : Value} {l : List Int} (h : PB w0 w W r c o v l) (hb : Below W.heap.size W W1) : PB w0 w W1 r c o v l :=
  ⟨Kd.R_below h.row hb, below_step h.below hb, grown_trans h.grown (grown_of_below o hb), blk_below h.blk hb⟩
/-- A command boxed. -/
theorem PB.box {w0 w : World} {c : Cmd} {v : Value} {l : List Int} (hR : Kd.R (Kd.int .u8) 5 w w0.heap.size (fun _ => True) v l) (hB : Below w0.heap.size w0 w) : PB w0 w (w.alloc (.cells (cells c) 28)) w.heap.size c v.ownBlock v l :=
  ⟨Kd.R_below hR (below_alloc (Below.refl _ _) _), below_step hB (below_alloc (Below.refl _ _) _), grown_of_below _ (below_alloc (Below.refl _ _) _), blk_new _ _⟩
theorem PB.put {w0 w W : World} {r : Nat} {c : Cmd} {o : Option Nat} {A : Option Addr} {n cc : Nat} {l : List Int} (h : PB w0 w W r c o (.slice A n cc) l) (hn : n = l.length) : PutR w0 w o l (.returned (.slice A n cc)) W := by
  subst hn
  exact ⟨A, cc, rfl, h.row, h.below, h.grown⟩
end Go.Proofs.Ytfaicipochceeaa.Giv
