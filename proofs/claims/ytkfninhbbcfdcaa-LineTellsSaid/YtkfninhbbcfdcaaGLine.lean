/- What the functions of the package line come to. -/
import Derived.Test.YtkfninhbbcfdcaaGSel
import Derived.Test.YtkfninhbbcfdcaaGPl
import Derived.Test.YtkfninhbbcfdcaaWKept
import Derived.Laws.Rows
namespace Go.Proofs.Ytkfninhbbcfdcaa.Giv
open Go.RowKit Go.Proofs.YtkfninhbbcfdcaaW.PrintWords Go.Proofs.YtkfninhbbcfdcaaW.PrintLast Go.Proofs.YtkfninhbbcfdcaaW.PrintMore
set_option linter.unusedVariables false
set_option linter.unusedSimpArgs false

abbrev lineO (v : Value) (ov : Bool) (c : Nat) : Obj := .cells #[v, .bool ov, .chan (some c)] 42 (0, 0)
/-- A line that is block g, its queue block c: v the slice that keeps what came in. -/
structure LnS (W : World) (b0 g c : Nat) (v : Value) (inn : List Int) (ov : Bool) (q : List Value) : Prop where
  blk : W.heap[g]? = some (lineO v ov c)
  row : Kd.R (Kd.int .u8) 5 W b0 (fun _ => True) v inn
  chan : ∃ s r, W.heap[c]? = some (.chan 8 q.toArray false s r false)
  lo : b0 ≤ W.heap.size
/-- All but some blocks stays. -/
structure KeepL (w w' : World) (S : Nat → Prop) : Prop where
  kept : Kept w w' S
  os : w'.os = w.os
  tape : w'.tape = w.tape
  output : w'.output = w.output
theorem KeepL.refl (w : World) (S : Nat → Prop) : KeepL w w S := ⟨Kept.refl w S, rfl, rfl, rfl⟩
theorem KeepL.of_below {w w1 : World} (h : Below w.heap.size w w1) (S : Nat → Prop) : KeepL w w1 S := ⟨Kept.of_below h S, h.os, h.tape, h.output⟩
theorem KeepL.then_ {w w1 w2 : World} {S T : Nat → Prop} (h : KeepL w w1 S) (k : KeepL w1 w2 T) (hs : ∀ k, T k → S k ∨ w.heap.size ≤ k) : KeepL w w2 S :=
  ⟨h.kept.then_ k.kept hs, k.os.trans h.os, k.tape.trans h.tape, k.output.trans h.output⟩
theorem KeepL.below {w0 w w1 : World} {S : Nat → Prop} (h : KeepL w w1 S) (hb : Below w0.heap.size w0 w) (hs : ∀ k, S k → w0.heap.size ≤ k) : Below w0.heap.size w0 w1 :=
  hb.trans ⟨h.os, h.tape, h.output, h.kept.1, fun k hk => h.kept.2 k (by have := hb.size; omega) (fun hS => by have := hs k hS; omega)⟩
theorem KeepL.grown {w w1 : World} {row : Option Nat} {S : Nat → Prop} (h : w.grownBy w1 row) (hs : ∀ k, row = some k → S k) : KeepL w w1 S :=
  ⟨⟨h.size, fun i hi hn => h.block i hi (fun e => hn (hs i e.symm))⟩, h.os, h.tape, h.output⟩
theorem KeepL.set (w : World) (p : Addr) (u : Value) {S : Nat → Prop} (hs : S p.block) : KeepL w (w.setCell p u) S :=
  ⟨⟨by simp [World.setCell], fun i hi hn => Below.heap_setCell w p u i (fun e => hn (e ▸ hs))⟩, rfl, rfl, rfl⟩
theorem KeepL.chan (w : World) (c cap : Nat) (buf : Array Value) (cl : Bool) (s r : Nat) (tm : Bool) {S : Nat → Prop} (hs : S c) : KeepL w (w.setChan c cap buf cl s r tm) S :=
  ⟨⟨by simp [World.setChan], fun i hi hn => by
    have hne : c ≠ i := by rintro rfl; exact hn hs
    simp only [World.setChan]; rw [Array.getElem?_setIfInBounds_ne hne]⟩, rfl, rfl, rfl⟩
/-- The blocks that a line's own functions may write. -/
abbrev lineB (g c : Nat) (v : Value) (k : Nat) : Prop := k = g ∨ k = c ∨ some k = v.ownBlock

theorem LnS.below {W W1 : World} {b0 g c : Nat} {v : Value} {inn : List Int} {ov : Bool} {q : List Value} (h : LnS W b0 g c v inn ov q) (hb : Below W.heap.size W W1) : LnS W1 b0 g c v inn ov q := by
  obtain ⟨s, r, hc⟩ := h.chan
  exact ⟨blk_below h.blk hb, Kd.R_below h.row hb, ⟨s, r, blk_below hc hb⟩, Nat.le_trans h.lo hb.size⟩

theorem bytes49 : (Try.prog.info? 49).map (·.bytes) = some 48 := by kernel_rfl
theorem zero49 : (Try.prog.info? 49).map (·.zero) = some (some (.agg #[.int .i64 0, .int .i64 0, .int .i64 0, .slice none 0 0])) := by kernel_rfl
theorem mkChan (w : World) : (Instr.makeChan 40 (.int .i64 8)).run Try.prog w = .ok (.chan (some w.heap.size)) (w.alloc (.chan 8 #[] false 0 0 false)) := by
  obtain ⟨i, hi, hb⟩ := Option.map_eq_some_iff.1 bytes49
  simpa using Go.Conc.run_makeChan (P := Try.prog) (w := w) Try.underlying40 hi .i64 8 (by omega) (by rw [hb]; omega)

theorem New_calls (w : World) : Calls Try.prog 21 #[] w fun e w' => e = .returned (.pointer (some ⟨w.heap.size + 1, 0, none⟩)) ∧ LnS w' w.heap.size (w.heap.size + 1) w.heap.size (.slice none 0 0) [] false [] ∧ Below w.heap.size w w' := by
  have hmc := mkChan
  go_enter Try.func21, Try.ntmps21
  go_wp2_with fail
  go_ret
  refine ⟨rfl, ⟨?_, Kd.R_nil _ _ _ _ _, ⟨0, 0, ?_⟩, ?_⟩, below_alloc (below_alloc (Below.refl _ _) _) _⟩
  · have := blk_new (w.alloc (.chan 8 #[] false 0 0 false)) (lineO (.slice none 0 0) false w.heap.size)
    simpa using this
  · exact blk_alloc (blk_new w _) _
  · simp; omega

theorem chan_ne (W : World) (c : Option Nat) : (Go.binOp .neq 40 (.chan c) (.chan none)).run Try.prog W = .ok (.bool c.isSome) W := by
  have he : (Op.equalIn Op.maxDepth 40 (.chan c) (.chan none)).run Try.prog W = .ok (!c.isSome) W := by
    rw [show Op.maxDepth = (Op.maxDepth - 1) + 1 from rfl]
    cases c <;> simp [Op.equalIn, run_underlying Try.underlying40]
  simp [Go.binOp, Op.equal, he]
set_option maxRecDepth 100000 in
theorem Made_at {W : World} {b0 g c : Nat} {v : Value} {inn : List Int} {ov : Bool} {q : List Value} (h : LnS W b0 g c v inn ov q) :
    Calls Try.prog 22 #[.pointer (some ⟨g, 0, none⟩)] W fun e w' => e = .returned (.bool true) ∧ W = w' := by
  have x2 : W.cell? ⟨g, 2, none⟩ = some (.chan (some c)) := blk_cell h.blk 2
  have hne := chan_ne W (some c)
  clear h
  go_enter Try.func22, Try.ntmps22
  go_wp2_with fail
  go_ret
  exact ⟨rfl, rfl⟩
theorem Made_nil (W : World) : Calls Try.prog 22 #[.pointer none] W fun e w' => e = .returned (.bool false) ∧ W = w' := by
  go_enter Try.func22, Try.ntmps22
  go_wp2_with fail
  go_ret
  exact ⟨rfl, rfl⟩
set_option maxRecDepth 100000 in
theorem Made_zero {W : World} {g : Nat} {v : Value} {ov : Bool} (h : W.heap[g]? = some (.cells #[v, .bool ov, .chan none] 42 (0, 0))) :
    Calls Try.prog 22 #[.pointer (some ⟨g, 0, none⟩)] W fun e w' => e = .returned (.bool false) ∧ W = w' := by
  have x2 : W.cell? ⟨g, 2, none⟩ = some (.chan none) := blk_cell h 2
  have hne := chan_ne W none
  clear h
  go_enter Try.func22, Try.ntmps22
  go_wp2_with fail
  go_ret
  exact ⟨rfl, rfl⟩

theorem Holds_at {W : World} {b0 g c : Nat} {v : Value} {inn : List Int} {ov : Bool} {q : List Value} (h : LnS W b0 g c v inn ov q) :
    Calls Try.prog 33 #[.pointer (some ⟨g, 0, none⟩)] W fun e w' => e = .returned (.int .i64 inn.length) ∧ W = w' := by
  obtain ⟨A, cp, rfl⟩ := Kd.R_slice h.row
  have H := Aside0.mk h
  have x0 : W.cell? ⟨g, 0, none⟩ = some (.slice A inn.length cp) := blk_cell h.blk 0
  clear h
  go_enter Try.func33, Try.ntmps33
  go_wp2_with fail
  refine (Made_at H.out).mono ?_
  rintro e w' ⟨rfl, rfl⟩
  go_wp2_with fail
  go_ret
  exact ⟨rfl, rfl⟩
theorem Waits_at {W : World} {b0 g c : Nat} {v : Value} {inn : List Int} {ov : Bool} {q : List Value} (h : LnS W b0 g c v inn ov q) :
    Calls Try.prog 24 #[.pointer (some ⟨g, 0, none⟩)] W fun e w' => e = .returned (.int .i64 q.length) ∧ W = w' := by
  have H := Aside0.mk h
  have x2 : W.cell? ⟨g, 2, none⟩ = some (.chan (some c)) := blk_cell h.blk 2
  obtain ⟨s, r, hch⟩ := h.chan
  have hlen := fun ty => Go.Conc.run_len_chan (P := Try.prog) 40 ty Try.underlying40 hch
  clear h hch
  go_enter Try.func24, Try.ntmps24
  go_wp2_with fail
  refine (Made_at H.out).mono ?_
  rintro e w' ⟨rfl, rfl⟩
  go_wp2_with fail
  go_ret
  exact ⟨by simp [goInt], rfl⟩
theorem Waits_zero {W : World} {g : Nat} {v : Value} {ov : Bool} (h : W.heap[g]? = some (.cells #[v, .bool ov, .chan none] 42 (0, 0))) :
    Calls Try.prog 24 #[.pointer (some ⟨g, 0, none⟩)] W fun e w' => e = .returned (.int .i64 0) ∧ W = w' := by
  go_enter Try.func24, Try.ntmps24
  go_wp2_with fail
  refine (Made_zero h).mono ?_
  rintro e w' ⟨rfl, rfl⟩
  go_wp2_with fail
  go_ret
  exact ⟨rfl, rfl⟩
set_option maxRecDepth 100000 in
theorem kept_at (k p er : Int) (d : Value) (w : World) :
    Calls Try.prog 60 #[.agg #[.int .i64 k, .int .i64 p, .int .i64 er, d]] w fun e w' => e = .returned (.bool (!(k == 1) && !(k == 5))) ∧ Below w.heap.size w w' := by
  obtain ⟨r, hr⟩ : ∃ r, w.heap.size = r := ⟨_, rfl⟩
  have hB := below_alloc (Below.refl w.heap.size w) (.cells #[.int .i64 k, .int .i64 p, .int .i64 er, d] 49)
  have hx := blk_new w (.cells #[.int .i64 k, .int .i64 p, .int .i64 er, d] 49)
  obtain ⟨w1, hw1⟩ : ∃ w1, w.alloc (.cells #[.int .i64 k, .int .i64 p, .int .i64 er, d] 49) = w1 := ⟨_, rfl⟩
  rw [hw1] at hB hx
  rw [hr] at hx
  have x0 : w1.cell? ⟨r, 0, none⟩ = some (.int .i64 k) := blk_cell hx 0
  have HB := Aside0.mk hB
  clear hx hB
  go_enter Try.func60, Try.ntmps60
  go_wp2_with fail
  all_goals go_ret
  all_goals refine ⟨?_, HB.out⟩
  all_goals simp_all
  all_goals rfl

theorem LnS.c_own {W : World} {b0 g c : Nat} {v : Value} {inn : List Int} {ov : Bool} {q : List Value} (h : LnS W b0 g c v inn ov q) : some c ≠ v.ownBlock := fun e => by
  obtain ⟨s, r, hc⟩ := h.chan
  obtain ⟨cells, hx⟩ := Kd.R_typed h.row c e.symm
  rw [hc] at hx
  cases hx
theorem LnS.cg {W : World} {b0 g c : Nat} {v : Value} {inn : List Int} {ov : Bool} {q : List Value} (h : LnS W b0 g c v inn ov q) : c ≠ g := by
  rintro rfl
  obtain ⟨s, r, hc⟩ := h.chan
  have := h.blk
  rw [hc] at this
  cases this
theorem chan_set {w : World} {c : Nat} {o : Obj} (h : w.heap[c]? = some o) (p : Addr) (hp : c ≠ p.block) (u : Value) : (w.setCell p u).heap[c]? = some o := (Below.heap_setCell w p u c hp).trans h
/-- Both small fields stored. -/
theorem LnS.store {W w9 : World} {b0 g c : Nat} {v v9 : Value} {inn y : List Int} {ov : Bool} {q : List Value} (h : LnS W b0 g c v inn ov q) (hg : W.grownBy w9 v.ownBlock)
    (HO : Kd.R (Kd.int .u8) 5 w9 b0 (fun _ => True) v9 y) (o2 : Bool) :
    LnS ((w9.setCell ⟨g, 0, none⟩ v9).setCell ⟨g, 1, none⟩ (.bool o2)) b0 g c v9 y o2 q ∧ KeepL W ((w9.setCell ⟨g, 0, none⟩ v9).setCell ⟨g, 1, none⟩ (.bool o2)) (lineB g c v) := by
  have hb9 : w9.heap[g]? = some (lineO v ov c) := blk_grown h.blk hg (Kd.R_ne h.row h.blk (by decide))
  have hb10 := blk_set hb9 0 v9
  obtain ⟨s, r, hc⟩ := h.chan
  refine ⟨⟨?_, Kd.R_set (Kd.R_set HO hb9 (by decide) 0 v9) hb10 (by decide) 1 _, ⟨s, r, ?_⟩, ?_⟩, ?_⟩
  · exact blk_set hb10 1 _
  · exact chan_set (chan_set (blk_grown hc hg h.c_own) _ h.cg _) _ h.cg _
  · have := h.lo
    have := hg.size
    simp [World.setCell]
    omega
  · exact (KeepL.grown hg (fun k hk => .inr (.inr hk.symm))).then_ ((KeepL.set w9 ⟨g, 0, none⟩ v9 (S := lineB g c v) (.inl rfl)).then_ (KeepL.set _ ⟨g, 1, none⟩ _ (S := lineB g c v) (.inl rfl)) (fun _ hk => .inl hk)) (fun _ hk => .inl hk)

section
attribute [local go_sem] max2_int min2_int max_two min_two
set_option maxHeartbeats 4000000 in
set_option maxRecDepth 100000 in
theorem Feed_at {W : World} {b0 g c : Nat} {v : Value} {inn : List Int} {ov : Bool} {q : List Value} (h : LnS W b0 g c v inn ov q) (hin : inn.length ≤ 256)
    (B : Option Addr) (m cb : Nat) (b : List Int) (hb : Kd.C (Kd.int .u8) W B m b) (hm : m = b.length) (hmc : m ≤ cb) (k : Nat) (hk : k = min b.length (256 - inn.length)) (z : Int) (hz : z = (b.length : Int) - k) (o2 : Bool) (ho2 : o2 = (ov || decide (0 < z))) :
    Calls Try.prog 23 #[.pointer (some ⟨g, 0, none⟩), .slice B m cb] W fun e w' => ∃ v', e = .returned (.int .i64 z) ∧ LnS w' b0 g c v' (inn ++ b.take k) o2 q ∧ KeepL W w' (lineB g c v) ∧ (v'.ownBlock = v.ownBlock ∨ ∃ j, v'.ownBlock = some j ∧ W.heap.size ≤ j) := by
  obtain ⟨A, cp, rfl⟩ := Kd.R_slice h.row
  have H := Aside0.mk h
  have HBB := Aside0.mk hb
  have x0 : W.cell? ⟨g, 0, none⟩ = some (.slice A inn.length cp) := blk_cell h.blk 0
  have x1 : W.cell? ⟨g, 1, none⟩ = some (.bool ov) := blk_cell h.blk 1
  have hkm : (if 256 - (inn.length : Int) < (m : Int) then 256 - (inn.length : Int) else (m : Int)) = (k : Int) := by
    split <;> omega
  have hkn : k ≤ m := by omega
  have hki : (k : Int) ≤ m := by omega
  have hk0 : (0 : Int) ≤ k := by omega
  have hkc : (k : Int) ≤ cb := by omega
  have HZ := Aside0.mk (And.intro hm (And.intro hk (And.intro hz ho2)))
  have HIN := Aside0.mk (And.intro hin hmc)
  clear h hb hm hk hz ho2 hin
  go_enter Try.func23, Try.ntmps23
  go_wp2_with fail
  refine (Made_at H.out).mono ?_
  rintro e w' ⟨rfl, rfl⟩
  go_wp2_with fail
  obtain ⟨y, hy⟩ : ∃ y, inn ++ b.take k = y := ⟨_, rfl⟩
  have HY := Aside0.mk hy
  clear hy
  have HROW : Aside0 (Kd.C (Kd.int .u8) W B k (b.take k)) := ⟨C_take1 (by have := HBB.out; rw [HZ.out.1] at this; exact this) (by have := HZ.out.1; omega)⟩
  refine start_ (n := 12) (S := fun w' => w'.cell? ⟨g, 0, none⟩ = some (.slice A inn.length cp)) (ds := [11]) #[false, false, false, false, false, false, false, false, false, false, false, false] (by kernel_rfl) rfl rfl (x0) (fun hHeld => ?_)
  refine pure_ (i := 0) (N := some 21) (v := ?_) (a' := ?_) #[true, false, false, false, false, false, false, false, false, false, false, false] rfl rfl (by kernel_rfl) (fun _ _ _ h => h) (Or.inl ⟨by rfl, ?_⟩) ?_ ?_
  rotate_left
  · intro w'
    go_simp
    with_reducible rfl
  rotate_left
  · simp only [Act.put, List.setIfInBounds_toArray, List.set_cons_zero, List.set_cons_succ, i64_w, i32_w]
    rfl
  refine pure_ (i := 1) (N := some 22) (v := ?_) (a' := ?_) #[true, true, false, false, false, false, false, false, false, false, false, false] rfl rfl (by kernel_rfl) (fun _ _ _ h => h) (Or.inl ⟨by rfl, ?_⟩) ?_ ?_
  rotate_left
  · intro w'
    go_simp
    with_reducible rfl
  rotate_left
  · simp only [Act.put, List.setIfInBounds_toArray, List.set_cons_zero, List.set_cons_succ, i64_w, i32_w]
    rfl
  refine pure_ (i := 2) (N := some 23) (v := ?_) (a' := ?_) #[true, true, true, false, false, false, false, false, false, false, false, false] rfl rfl (by kernel_rfl) (fun _ _ _ h => h) (Or.inl ⟨by rfl, ?_⟩) ?_ ?_
  rotate_left
  · intro w'
    go_simp
    with_reducible rfl
  rotate_left
  · simp only [Act.put, List.setIfInBounds_toArray, List.set_cons_zero, List.set_cons_succ, i64_w, i32_w]
    rfl
  refine pure_ (i := 3) (N := some 24) (v := ?_) (a' := ?_) #[true, true, true, true, false, false, false, false, false, false, false, false] rfl rfl (by kernel_rfl) (fun _ _ _ h => h) (Or.inl ⟨by rfl, ?_⟩) ?_ ?_
  rotate_left
  · intro w'
    go_simp
    with_reducible rfl
  rotate_left
  · simp only [Act.put, List.setIfInBounds_toArray, List.set_cons_zero, List.set_cons_succ, i64_w, i32_w]
    rfl
  refine pure_ (i := 5) (N := some 26) (v := ?_) (a' := ?_) #[true, true, true, true, false, true, false, false, false, false, false, false] rfl rfl (by kernel_rfl) (fun _ _ _ h => h) (Or.inl ⟨by rfl, ?_⟩) ?_ ?_
  rotate_left
  · intro w'
    go_simp
    with_reducible rfl
  rotate_left
  · simp only [Act.put, List.setIfInBounds_toArray, List.set_cons_zero, List.set_cons_succ, i64_w, i32_w]
    rfl
  refine pure_ (i := 6) (N := some 27) (v := ?_) (a' := ?_) #[true, true, true, true, false, true, true, false, false, false, false, false] rfl rfl (by kernel_rfl) (fun _ _ _ h => h) (Or.inl ⟨by rfl, ?_⟩) ?_ ?_
  rotate_left
  · intro w'
    go_simp
    with_reducible rfl
  rotate_left
  · simp only [Act.put, List.setIfInBounds_toArray, List.set_cons_zero, List.set_cons_succ, i64_w, i32_w]
    rfl
  refine pure_ (i := 7) (N := some 28) (v := ?_) (a' := ?_) #[true, true, true, true, false, true, true, true, false, false, false, false] rfl rfl (by kernel_rfl) (fun _ _ _ h => h) (Or.inl ⟨by rfl, ?_⟩) ?_ ?_
  rotate_left
  · intro w'
    go_simp
    with_reducible rfl
  rotate_left
  · simp only [Act.put, List.setIfInBounds_toArray, List.set_cons_zero, List.set_cons_succ, i64_w, i32_w]
    rfl
  refine take_ (i := 4) (N := some 25) (v := ?_) (a' := ?_) #[true, true, true, true, true, true, true, true, false, false, false, false] rfl rfl (by kernel_rfl) (fun _ _ _ h => h) (Or.inl ⟨by rfl, ?_⟩) hHeld ?_ ?_
  rotate_left
  · intro w' s0
    go_simp
    with_reducible rfl
  rotate_left
  · simp only [Act.put, List.setIfInBounds_toArray, List.set_cons_zero, List.set_cons_succ, i64_w, i32_w]
    rfl
  refine one_ (i := 8) (N := some 29) #[true, true, true, true, true, true, true, true, true, false, false, false] rfl rfl (by kernel_rfl) (by decide) (fun K hK => ?_)
  refine Kd.R_append_rows_step (Kd.int .u8) (w0 := W.drew) b0 (by rfl) (.tmp 25) (.tmp 28) 22 5 (.int .u8 0) 1 (by rfl) Try.underlying22 info5 rfl (by decide) (by decide) (.slice A inn.length cp) inn (b.take k) B k cb (fun _ => True) (fun _ => False) (by rfl) (by rfl) (Kd.R_drew H.out.row) (Kd.C_drew HROW.out) (fun _ _ hx => hx) (fun _ hk => hk.elim) (fun _ _ => trivial) (Below.refl b0 W.drew) H.out.lo ?hl ?_
  case hl => have := HZ.out.2.1; have := HIN.out.1; omega
  intro v9 w9 HO HB9 hg hat
  rw [HY.out] at HO
  obtain ⟨A9, c9, e9⟩ := Kd.R_slice HO
  subst e9
  have HG := Aside0.mk hg
  have HAT := Aside0.mk hat
  have HO9 := Aside0.mk HO
  have HBK := Aside0.mk (blk_grown (show W.drew.heap[g]? = _ from H.out.blk) hg (Kd.R_ne H.out.row H.out.blk (by decide)))
  clear HO HB9 hg hat hHeld
  refine hK.out _ _ (blk_cell HBK.out 0) (fun hHeld => ?_)
  clear hK K
  refine norm_ (a' := ?_) ?_ ?_
  rotate_left
  · show Act.put _ (some 29) _ = _
    simp only [Act.put, List.setIfInBounds_toArray, List.set_cons_zero, List.set_cons_succ, i64_w, i32_w]
    rfl
  refine pure_ (i := 9) (N := some 30) (v := ?_) (a' := ?_) #[true, true, true, true, true, true, true, true, true, true, false, false] rfl rfl (by kernel_rfl) (fun _ _ _ h => h) (Or.inl ⟨by rfl, ?_⟩) ?_ ?_
  rotate_left
  · intro w'
    go_simp
    with_reducible rfl
  rotate_left
  · simp only [Act.put, List.setIfInBounds_toArray, List.set_cons_zero, List.set_cons_succ, i64_w, i32_w]
    rfl
  refine pure_ (i := 10) (N := some 31) (v := ?_) (a' := ?_) #[true, true, true, true, true, true, true, true, true, true, true, false] rfl rfl (by kernel_rfl) (fun _ _ _ h => h) (Or.inl ⟨by rfl, ?_⟩) ?_ ?_
  rotate_left
  · intro w'
    go_simp
    with_reducible rfl
  rotate_left
  · simp only [Act.put, List.setIfInBounds_toArray, List.set_cons_zero, List.set_cons_succ, i64_w, i32_w]
    rfl
  refine last_ (i := 11) (N := none) #[true, true, true, true, true, true, true, true, true, true, true, true] rfl rfl (by kernel_rfl) (by decide) (fun K hK => ?_)
  have f0 := blk_frozen HBK.out 0
  refine skip_ (w1 := ?_) (by rfl) rfl ?_ ?_
  rotate_left
  · go_simp
    rfl
  refine hK.out _ _ ?_
  clear hK K
  refine done_ (by kernel_rfl) ?_
  obtain ⟨w10, hw10⟩ : ∃ w10, w9.setCell ⟨g, 0, none⟩ (.slice A9 y.length c9) = w10 := ⟨_, rfl⟩
  rw [hw10]
  have HBK10 : Aside0 (w10.heap[g]? = some (lineO (.slice A9 y.length c9) ov c)) := ⟨by rw [← hw10]; exact blk_set HBK.out 0 _⟩
  have HW10 := Aside0.mk hw10
  have HBE : Aside0 (m = b.length ∧ z = (m : Int) - k) := ⟨HZ.out.1, by have := HZ.out.1; have := HZ.out.2.2.1; omega⟩
  have hz : (m : Int) - k = z := HBE.out.2.symm
  have c1 : w10.cell? ⟨g, 1, none⟩ = some (.bool ov) := blk_cell HBK10.out 1
  have f1 := blk_frozen HBK10.out 1
  clear hw10 f0 hkm hkn hki hk0 hkc x0 x1 HBE
  have hwz : wrap64 z = z := by
    have := HBB.out.2.1
    have := HZ.out.2.1
    have := HZ.out.1
    unfold wrap64
    omega
  have HF := Aside0.mk (H.out.store ⟨HG.out.os, HG.out.tape, HG.out.output, HG.out.size, HG.out.block⟩ HO9.out o2)
  rw [HW10.out] at HF
  have HO2 := Aside0.mk HZ.out.2.2.2
  clear HBK HG HO9 HW10 HROW HBB HIN HZ H HBK10 hHeld
  rcases ov with _ | _
  · go_wp2_with fail
    go_ret
    refine ⟨_, (by show Ending.returned (.int .i64 (wrap64 z)) = _; rw [hwz]), ?_, ?_, HAT.out⟩
    · have := HF.out.1
      rw [HO2.out] at this
      rw [HO2.out, HY.out]
      simpa using this
    · have := HF.out.2
      rw [HO2.out] at this
      simpa using this
  · go_wp2_with fail
    go_ret
    refine ⟨_, (by show Ending.returned (.int .i64 (wrap64 z)) = _; rw [hwz]), ?_, ?_, HAT.out⟩
    · have := HF.out.1
      rw [HO2.out] at this
      rw [HO2.out, HY.out]
      simpa using this
    · have := HF.out.2
      rw [HO2.out] at this
      simpa using this
end

theorem Feed_nil (W : World) (B : Option Addr) (m cb : Nat) : Calls Try.prog 23 #[.pointer none, .slice B m cb] W fun e w' => e = .returned (.int .i64 m) ∧ W = w' := by
  go_enter Try.func23, Try.ntmps23
  go_wp2_with fail
  refine (Made_nil _).mono ?_
  rintro e w' ⟨rfl, rfl⟩
  go_wp2_with fail
  go_ret
  exact ⟨rfl, rfl⟩
theorem Feed_zero {W : World} {g : Nat} {v : Value} {ov : Bool} (h : W.heap[g]? = some (.cells #[v, .bool ov, .chan none] 42 (0, 0))) (B : Option Addr) (m cb : Nat) :
    Calls Try.prog 23 #[.pointer (some ⟨g, 0, none⟩), .slice B m cb] W fun e w' => e = .returned (.int .i64 m) ∧ W = w' := by
  go_enter Try.func23, Try.ntmps23
  go_wp2_with fail
  refine (Made_zero h).mono ?_
  rintro e w' ⟨rfl, rfl⟩
  go_wp2_with fail
  go_ret
  exact ⟨rfl, rfl⟩
set_option maxRecDepth 100000 in
theorem Next_nil (W : World) : Calls Try.prog 26 #[.pointer none] W fun e w' => e = .returned (.tuple #[.slice none 0 0, .int .i64 11, .bool false]) ∧ W = w' := by
  go_enter Try.func26, Try.ntmps26
  go_wp2_with fail
  refine (Made_nil _).mono ?_
  rintro e w' ⟨rfl, rfl⟩
  go_wp2_with fail
  go_ret3
  exact ⟨rfl, rfl⟩
set_option maxRecDepth 100000 in
theorem Next_over {W : World} {b0 g c : Nat} {v : Value} {inn : List Int} {q : List Value} (h : LnS W b0 g c v inn true q) :
    Calls Try.prog 26 #[.pointer (some ⟨g, 0, none⟩)] W fun e w' => e = .returned (.tuple #[.slice none 0 0, .int .i64 18, .bool true]) ∧ LnS w' b0 g c (.slice none 0 0) [] false q ∧ KeepL W w' (lineB g c v) := by
  have HF := Aside0.mk (h.store (World.grownBy.refl W _) (Kd.R_nil _ _ _ b0 _) false)
  obtain ⟨A, cp, rfl⟩ := Kd.R_slice h.row
  have H := Aside0.mk h
  have x0 : W.cell? ⟨g, 0, none⟩ = some (.slice A inn.length cp) := blk_cell h.blk 0
  have x1 : W.cell? ⟨g, 1, none⟩ = some (.bool true) := blk_cell h.blk 1
  have f0 := blk_frozen h.blk 0
  have hb1 := blk_set h.blk 0 (.slice none 0 0)
  obtain ⟨w1, hw1⟩ : ∃ w1, W.setCell ⟨g, 0, none⟩ (.slice none 0 0) = w1 := ⟨_, rfl⟩
  rw [hw1] at hb1 HF
  have y1 : w1.cell? ⟨g, 1, none⟩ = some (.bool true) := blk_cell hb1 1
  have f1 := blk_frozen hb1 1
  clear h hb1
  go_enter Try.func26, Try.ntmps26
  go_wp2_with fail
  refine (Made_at H.out).mono ?_
  rintro e w' ⟨rfl, rfl⟩
  go_wp2_with fail
  go_ret3
  exact ⟨rfl, HF.out⟩
set_option maxRecDepth 100000 in
theorem Next_short {W : World} {b0 g c : Nat} {v : Value} {inn : List Int} {q : List Value} (h : LnS W b0 g c v inn false q) (hb : bytesOk inn) (x : List Int) (n : Int) (hT : tk inn 60 = (x, n, 12)) :
    Calls Try.prog 26 #[.pointer (some ⟨g, 0, none⟩)] W fun e w' => e = .returned (.tuple #[.slice none 0 0, .int .i64 0, .bool false]) ∧ Below W.heap.size W w' := by
  obtain ⟨A, cp, rfl⟩ := Kd.R_slice h.row
  have H := Aside0.mk h
  have HT := Aside0.mk (And.intro hb hT)
  have x0 : W.cell? ⟨g, 0, none⟩ = some (.slice A inn.length cp) := blk_cell h.blk 0
  have x1 : W.cell? ⟨g, 1, none⟩ = some (.bool false) := blk_cell h.blk 1
  clear h hb hT
  go_enter Try.func26, Try.ntmps26
  go_wp2_with fail
  refine (Made_at H.out).mono ?_
  rintro e w' ⟨rfl, rfl⟩
  go_wp2_with fail
  refine (take_at (l := inn) inn.length cp (Kd.R_reads' H.out.row).2.2 rfl (Kd.R_reads' H.out.row).2.1 HT.out.1 60 x n 12 HT.out.2).mono ?_
  rintro e w' ⟨A1, c1, rfl, hR, hB⟩
  have HB := Aside0.mk hB
  clear hR hB
  go_wp2_with fail
  go_ret3
  exact ⟨rfl, HB.out⟩

theorem LnS.store1 {w : World} {b0 g c : Nat} {v v9 : Value} {inn y : List Int} {ov : Bool} {q : List Value} (h : LnS w b0 g c v inn ov q)
    (HO : Kd.R (Kd.int .u8) 5 w b0 (fun _ => True) v9 y) :
    LnS (w.setCell ⟨g, 0, none⟩ v9) b0 g c v9 y ov q ∧ KeepL w (w.setCell ⟨g, 0, none⟩ v9) (lineB g c v) := by
  obtain ⟨s, r, hc⟩ := h.chan
  refine ⟨⟨blk_set h.blk 0 v9, Kd.R_set HO h.blk (by decide) 0 v9, ⟨s, r, chan_set hc _ h.cg _⟩, ?_⟩, KeepL.set w ⟨g, 0, none⟩ v9 (S := lineB g c v) (.inl rfl)⟩
  have := h.lo
  simp [World.setCell]
  omega

set_option maxHeartbeats 4000000 in
set_option maxRecDepth 100000 in
theorem Next_frame {W : World} {b0 g c : Nat} {v : Value} {inn : List Int} {q : List Value} (h : LnS W b0 g c v inn false q) (hin : inn.length ≤ 256) (hb : bytesOk inn) (x : List Int) (n : Nat) (er : Int) (hT : tk inn 60 = (x, (n : Int), er)) (her : er ≠ 12) (hn : n ≤ inn.length) :
    Calls Try.prog 26 #[.pointer (some ⟨g, 0, none⟩)] W fun e w' => ∃ Ax cx v', e = .returned (.tuple #[.slice Ax x.length cx, .int .i64 er, .bool true]) ∧ Kd.R (Kd.int .u8) 5 w' W.heap.size (fun k => some k ≠ v'.ownBlock) (.slice Ax x.length cx) x ∧
      LnS w' b0 g c v' (inn.drop n) false q ∧ KeepL W w' (lineB g c v) ∧ (∀ j, v'.ownBlock = some j → W.heap.size ≤ j) := by
  obtain ⟨A, cp, rfl⟩ := Kd.R_slice h.row
  have H := Aside0.mk h
  have HT := Aside0.mk (And.intro hb hT)
  have HIN := Aside0.mk hin
  have hcn : n ≤ cp := by have := (Kd.R_reads' h.row).2.1; omega
  have HN := Aside0.mk hn
  have x0 : W.cell? ⟨g, 0, none⟩ = some (.slice A inn.length cp) := blk_cell h.blk 0
  have x1 : W.cell? ⟨g, 1, none⟩ = some (.bool false) := blk_cell h.blk 1
  have her' : (er == 12) = false := by simpa using her
  clear h hb hT hin
  go_enter Try.func26, Try.ntmps26
  go_wp2_with fail
  refine (Made_at H.out).mono ?_
  rintro e w' ⟨rfl, rfl⟩
  go_wp2_with fail
  refine (take_at (l := inn) inn.length cp (Kd.R_reads' H.out.row).2.2 rfl (Kd.R_reads' H.out.row).2.1 HT.out.1 60 x n er HT.out.2).mono ?_
  rintro e w1 ⟨Ax, cx, rfl, hR, hB⟩
  obtain ⟨y, hy⟩ : ∃ y, inn.drop n = y := ⟨_, rfl⟩
  have HY := Aside0.mk hy
  have hyl : inn.length - n = y.length := by rw [← hy, List.length_drop]
  obtain ⟨A', hif⟩ : ∃ A', (if cp = n then A else Option.map (fun x => x.add n) A) = A' := ⟨_, rfl⟩
  have hD := C_drop1 (Kd.R_reads' (H.out.below hB).row).2.2 HN.out (Kd.R_reads' H.out.row).2.1
  rw [hif, hy, hyl] at hD
  have HYL : Aside0 (y.length ≤ 256) := ⟨by have := HIN.out; omega⟩
  clear hy
  have HD := Aside0.mk hD
  have H1 := Aside0.mk (H.out.below hB)
  have HR := Aside0.mk hR
  have HB := Aside0.mk hB
  clear x0 x1 hD hR hB
  have x0 : w1.cell? ⟨g, 0, none⟩ = some (.slice A inn.length cp) := blk_cell H1.out.blk 0
  go_wp2_with (first
    | ((with_reducible refine gate_dst (N := 35) rfl ?_); refine Kd.R_lit (Kd.int .u8) _ 5 ?hg (N := 35) ?hd (xs := ([] : List Int)) (inner := []) (ok := fun _ => True) (okp := fun _ => True) ?hr ?hp (fun _ hk => hk) trivial (Below.refl _ _) (Nat.le_refl _) (by simp) ?_; (case hd => rfl); (case hg => rfl); (case hr => first | (go_simp; done) | (go_simp; rfl)); (case hp => exact (Reps.none _ _)); intro v35 w35 ho35 hb hg_ hnew_; clear hg_ hnew_; have HO35 := Aside0.mk ho35; have HB35 := Aside0.mk hb; clear hb ho35; obtain ⟨A35, c35, e35⟩ := Kd.R_slice HO35.out; subst e35; have x0b : w35.cell? ⟨g, 0, none⟩ = some (.slice A inn.length cp) := blk_cell (H1.out.below HB35.out).blk 0)
    | ((with_reducible refine gate_builtin (b := .append) (xs := #[.tmp 35, .tmp 41]) rfl ?_); at_builtin; refine Kd.R_append_rows (Kd.int .u8) (w0 := w1) w1.heap.size rfl (.tmp 35) (.tmp 41) 22 5 (.int .u8 0) 1 rfl Try.underlying22 info5 rfl (by decide) (by omega) (.slice A35 0 c35) ([] : List Int) y _ _ _ (fun _ => True) (fun _ => False) rfl rfl ?aO ?aR (fun _ _ h => h) (fun _ h => h.elim) ?aF ?aB ?aS ?aL ?_; (case aR => exact (Kd.C_below HD.out HB35.out)); (case aB => exact HB35.out); (case aF => exact (fun _ _ => trivial)); (case aO => exact HO35.out); (case aS => exact (below_size HB35.out)); (case aL => have := HYL.out; simp <;> omega); intro v42 w42 ho hb hg hat; rw [List.nil_append] at ho; obtain ⟨A42, c42, e42⟩ := Kd.R_slice ho; subst e42; have H2 := Aside0.mk (H1.out.below hb); have x0c : w42.cell? ⟨g, 0, none⟩ = some (.slice A inn.length cp) := blk_cell H2.out.blk 0; have f0c := blk_frozen H2.out.blk 0; have HB42 := Aside0.mk hb; have HO := Aside0.mk ho; clear HO35 HB35 x0b ho hb hg hat)
    | fail)
  go_ret3
  have hs := H2.out.store1 (Kd.R_lower HO.out H1.out.lo)
  have hbase : ∀ j, (Value.slice A42 y.length c42).ownBlock = some j → w1.heap.size ≤ j := Kd.R_base HO.out
  refine ⟨Ax, cx, _, rfl, ?_, ?_, ?_, fun j hj => Nat.le_trans HB.out.size (hbase j hj)⟩
  · refine Kd.R_set (Kd.R_below (Kd.R_mono (Kd.R_bound HR.out) (fun k hk e => ?_)) HB42.out) H2.out.blk (by decide) 0 _
    have := hbase k e.symm
    have := hk.2.2.1
    omega
  · rw [HY.out]; exact hs.1
  · exact (KeepL.of_below (below_step HB.out HB42.out) _).then_ hs.2 (fun _ hk => .inl hk)
end Go.Proofs.Ytkfninhbbcfdcaa.Giv
