/- What telling a line, and releasing what waits, come to. -/
import Derived.Test.YtkfninhbbcfdcaaGLine
import Derived.Test.YtkfninhbbcfdcaaGRepM
namespace Go.Proofs.Ytkfninhbbcfdcaa.Giv
open Go.RowKit Go.Proofs.YtkfninhbbcfdcaaW.PrintWords Go.Proofs.YtkfninhbbcfdcaaW.PrintLast Go.Proofs.YtkfninhbbcfdcaaW.PrintMore Go.Proofs.Ytkfninhbbcfdcaa.PReplyTells
set_option linter.unusedVariables false
set_option linter.unusedSimpArgs false

theorem chan_lt {w : World} {c : Nat} {o : Obj} (h : w.heap[c]? = some o) : c < w.heap.size := blk_lt h
/-- What waits, told anew. -/
theorem LnS.send {W : World} {b0 g c : Nat} {v : Value} {inn : List Int} {ov : Bool} {q : List Value} (h : LnS W b0 g c v inn ov q) (q' : List Value) (s r : Nat) :
    LnS (W.setChan c 8 q'.toArray false s r false) b0 g c v inn ov q' ∧ KeepL W (W.setChan c 8 q'.toArray false s r false) (lineB g c v) := by
  have hk : KeepL W (W.setChan c 8 q'.toArray false s r false) (fun k => k = c) := KeepL.chan W c 8 q'.toArray false s r false rfl
  obtain ⟨s0, r0, hc⟩ := h.chan
  refine ⟨⟨blk_kept h.blk hk.kept (fun e => h.cg e.symm), ?_, ⟨s, r, Go.Conc.heap_setChan W c 8 q'.toArray false s r false (blk_lt hc)⟩, ?_⟩, ?_⟩
  · refine Kd.R_kept (Kd.R_tight rfl h.row) hk.kept (fun k hk e => h.c_own ?_) |> fun z => Kd.R_mono z (fun _ _ => trivial)
    rw [← e]; exact hk
  · have := h.lo
    have := hk.kept.1
    omega
  · exact ⟨⟨hk.kept.1, fun i hi hn => hk.kept.2 i hi (fun e => hn (.inr (.inl e)))⟩, hk.os, hk.tape, hk.output⟩

def keepsO (k : Int) : Bool := !(k == 1) && !(k == 5)
set_option maxHeartbeats 4000000 in
set_option maxRecDepth 100000 in
theorem Tell_yes {W : World} {b0 g c : Nat} {v : Value} {inn : List Int} {ov : Bool} {q : List Value} (h : LnS W b0 g c v inn ov q) (k p er : Int) (d : Value) (hd : ∃ A n m, d = .slice A n m) (hq : q.length < 8) (hk : keepsO k = true → q.length < 7) :
    Calls Try.prog 28 #[.pointer (some ⟨g, 0, none⟩), .agg #[.int .i64 k, .int .i64 p, .int .i64 er, d]] W fun e w' => e = .returned (.bool true) ∧ LnS w' b0 g c v inn ov (q ++ [.agg #[.int .i64 k, .int .i64 p, .int .i64 er, d]]) ∧ KeepL W w' (lineB g c v) := by
  obtain ⟨A, n, m, rfl⟩ := hd
  obtain ⟨r3, hr⟩ : ∃ r, W.heap.size = r := ⟨_, rfl⟩
  have hB := below_alloc (Below.refl W.heap.size W) (.cells #[.int .i64 k, .int .i64 p, .int .i64 er, .slice A n m] 49)
  have hx := blk_new W (.cells #[.int .i64 k, .int .i64 p, .int .i64 er, .slice A n m] 49)
  obtain ⟨w1, hw1⟩ : ∃ w1, W.alloc (.cells #[.int .i64 k, .int .i64 p, .int .i64 er, .slice A n m] 49) = w1 := ⟨_, rfl⟩
  rw [hw1] at hB hx
  rw [hr] at hx
  have H1 := Aside0.mk (h.below hB)
  have HX := Aside0.mk hx
  have HB := Aside0.mk hB
  obtain ⟨kb, hkb⟩ : ∃ kb, keepsO k = kb := ⟨_, rfl⟩
  have HQ := Aside0.mk (And.intro hq hk)
  have HKB := Aside0.mk hkb
  have x0 : w1.cell? ⟨r3, 0, none⟩ = some (.int .i64 k) := blk_cell hx 0
  have x1 : w1.cell? ⟨r3, 1, none⟩ = some (.int .i64 p) := blk_cell hx 1
  have x2 : w1.cell? ⟨r3, 2, none⟩ = some (.int .i64 er) := blk_cell hx 2
  have x3 : w1.cell? ⟨r3, 3, none⟩ = some (.slice A n m) := blk_cell hx 3
  clear h hB hx hkb hq hk
  go_enter Try.func28, Try.ntmps28
  refine wp_seq_k (fun K0 h0 => ?_)
  have HK0 := Aside0.mk h0
  clear h0
  go_wp2_with fail
  clear hr
  refine HK0.out _ _ ?_
  clear HK0 K0
  refine wp_seq_k (fun K1 h1 => ?_)
  have HK1 := Aside0.mk h1
  clear h1
  go_wp2_with fail
  refine (Made_at H1.out).mono ?_
  rintro e w' ⟨rfl, rfl⟩
  go_wp2_with fail
  refine (kept_at k p er (.slice A n m) _).mono ?_
  rintro e w2 ⟨rfl, hB2⟩
  rw [show (!(k == 1) && !(k == 5)) = kb from HKB.out]
  have H2 := Aside0.mk (H1.out.below hB2)
  have HX2 := Aside0.mk (blk_below HX.out hB2)
  have HB2 := Aside0.mk (below_step HB.out hB2)
  clear hB2 H1 HX HB x0 x1 x2 x3
  have x0 : w2.cell? ⟨r3, 0, none⟩ = some (.int .i64 k) := blk_cell HX2.out 0
  have x1 : w2.cell? ⟨r3, 1, none⟩ = some (.int .i64 p) := blk_cell HX2.out 1
  have x2 : w2.cell? ⟨r3, 2, none⟩ = some (.int .i64 er) := blk_cell HX2.out 2
  have x3 : w2.cell? ⟨r3, 3, none⟩ = some (.slice A n m) := blk_cell HX2.out 3
  have y2 : w2.cell? ⟨g, 2, none⟩ = some (.chan (some c)) := blk_cell H2.out.blk 2
  obtain ⟨s, r, hch⟩ := H2.out.chan
  have HCH := Aside0.mk hch
  have HF := Aside0.mk (H2.out.send (q ++ [.agg #[.int .i64 k, .int .i64 p, .int .i64 er, .slice A n m]]) (s + 1) r)
  clear hch hw1
  cases kb with
  | true =>
    have hq7 : (q.length : Int) < 7 := by have := HQ.out.2 HKB.out; omega
    have hq7' : decide (7 ≤ (q.length : Int)) = false := by simp; omega
    go_wp2_with fail
    refine (Waits_at H2.out).mono ?_
    rintro e w' ⟨rfl, rfl⟩
    go_wp2_with fail
    refine HK1.out _ _ ?_
    clear HK1 K1
    refine wp_seq_k (fun K2 h2 => ?_)
    have HK2 := Aside0.mk h2
    clear h2
    refine wp_seq_k (fun K3 h3 => ?_)
    have HK3 := Aside0.mk h3
    clear h3
    go_wp2_with fail
    refine HK3.out _ _ ?_
    clear HK3 K3
    refine wp_seq_k (fun K4 h4 => ?_)
    have HK4 := Aside0.mk h4
    clear h4
    refine wp_send_room rfl rfl rfl rfl rfl zero49 HCH.out (by have := HQ.out.1; simpa using this) ?_
    clear x0 x1 x2 x3 y2
    go_wp2_with fail
    refine HK4.out _ _ ?_
    clear HK4 K4
    go_wp2_with fail
    go_ret
    exact ⟨rfl, HF.out.1, (KeepL.of_below HB2.out _).then_ HF.out.2 (fun _ hk => .inl hk)⟩
  | false =>
    go_wp2_with fail
    refine HK1.out _ _ ?_
    clear HK1 K1
    refine wp_seq_k (fun K2 h2 => ?_)
    have HK2 := Aside0.mk h2
    clear h2
    refine wp_seq_k (fun K3 h3 => ?_)
    have HK3 := Aside0.mk h3
    clear h3
    go_wp2_with fail
    refine HK3.out _ _ ?_
    clear HK3 K3
    refine wp_seq_k (fun K4 h4 => ?_)
    have HK4 := Aside0.mk h4
    clear h4
    refine wp_send_room rfl rfl rfl rfl rfl zero49 HCH.out (by have := HQ.out.1; simpa using this) ?_
    clear x0 x1 x2 x3 y2
    go_wp2_with fail
    refine HK4.out _ _ ?_
    clear HK4 K4
    go_wp2_with fail
    go_ret
    exact ⟨rfl, HF.out.1, (KeepL.of_below HB2.out _).then_ HF.out.2 (fun _ hk => .inl hk)⟩
set_option maxHeartbeats 4000000 in
set_option maxRecDepth 100000 in
theorem Tell_no {W : World} {b0 g c : Nat} {v : Value} {inn : List Int} {ov : Bool} {q : List Value} (h : LnS W b0 g c v inn ov q) (k p er : Int) (d : Value) (hd : ∃ A n m, d = .slice A n m) (hk : if keepsO k = true then 7 ≤ q.length else 8 ≤ q.length) :
    Calls Try.prog 28 #[.pointer (some ⟨g, 0, none⟩), .agg #[.int .i64 k, .int .i64 p, .int .i64 er, d]] W fun e w' => e = .returned (.bool false) ∧ Below W.heap.size W w' := by
  obtain ⟨A, n, m, rfl⟩ := hd
  obtain ⟨r3, hr⟩ : ∃ r, W.heap.size = r := ⟨_, rfl⟩
  have hB := below_alloc (Below.refl W.heap.size W) (.cells #[.int .i64 k, .int .i64 p, .int .i64 er, .slice A n m] 49)
  have hx := blk_new W (.cells #[.int .i64 k, .int .i64 p, .int .i64 er, .slice A n m] 49)
  obtain ⟨w1, hw1⟩ : ∃ w1, W.alloc (.cells #[.int .i64 k, .int .i64 p, .int .i64 er, .slice A n m] 49) = w1 := ⟨_, rfl⟩
  rw [hw1] at hB hx
  rw [hr] at hx
  have H1 := Aside0.mk (h.below hB)
  have HX := Aside0.mk hx
  have HB := Aside0.mk hB
  obtain ⟨kb, hkb⟩ : ∃ kb, keepsO k = kb := ⟨_, rfl⟩
  have HQ := Aside0.mk hk
  have HKB := Aside0.mk hkb
  have x0 : w1.cell? ⟨r3, 0, none⟩ = some (.int .i64 k) := blk_cell hx 0
  have x1 : w1.cell? ⟨r3, 1, none⟩ = some (.int .i64 p) := blk_cell hx 1
  have x2 : w1.cell? ⟨r3, 2, none⟩ = some (.int .i64 er) := blk_cell hx 2
  have x3 : w1.cell? ⟨r3, 3, none⟩ = some (.slice A n m) := blk_cell hx 3
  clear h hB hx hkb hk
  go_enter Try.func28, Try.ntmps28
  refine wp_seq_k (fun K0 h0 => ?_)
  have HK0 := Aside0.mk h0
  clear h0
  go_wp2_with fail
  clear hr
  refine HK0.out _ _ ?_
  clear HK0 K0
  refine wp_seq_k (fun K1 h1 => ?_)
  have HK1 := Aside0.mk h1
  clear h1
  go_wp2_with fail
  refine (Made_at H1.out).mono ?_
  rintro e w' ⟨rfl, rfl⟩
  go_wp2_with fail
  refine (kept_at k p er (.slice A n m) _).mono ?_
  rintro e w2 ⟨rfl, hB2⟩
  rw [show (!(k == 1) && !(k == 5)) = kb from HKB.out]
  have H2 := Aside0.mk (H1.out.below hB2)
  have HX2 := Aside0.mk (blk_below HX.out hB2)
  have HB2 := Aside0.mk (below_step HB.out hB2)
  clear hB2 H1 HX HB x0 x1 x2 x3
  have x0 : w2.cell? ⟨r3, 0, none⟩ = some (.int .i64 k) := blk_cell HX2.out 0
  have x1 : w2.cell? ⟨r3, 1, none⟩ = some (.int .i64 p) := blk_cell HX2.out 1
  have x2 : w2.cell? ⟨r3, 2, none⟩ = some (.int .i64 er) := blk_cell HX2.out 2
  have x3 : w2.cell? ⟨r3, 3, none⟩ = some (.slice A n m) := blk_cell HX2.out 3
  have y2 : w2.cell? ⟨g, 2, none⟩ = some (.chan (some c)) := blk_cell H2.out.blk 2
  obtain ⟨s, r, hch⟩ := H2.out.chan
  have HCH := Aside0.mk hch
  clear hch hw1
  cases kb with
  | true =>
    have hq7 : (7 : Int) ≤ q.length := by have := HQ.out; rw [if_pos HKB.out] at this; omega
    have hq7' : decide (7 ≤ (q.length : Int)) = true := by simpa using hq7
    go_wp2_with fail
    refine (Waits_at H2.out).mono ?_
    rintro e w' ⟨rfl, rfl⟩
    go_wp2_with fail
    go_ret
    exact ⟨rfl, HB2.out⟩
  | false =>
    go_wp2_with fail
    refine HK1.out _ _ ?_
    clear HK1 K1
    refine wp_seq_k (fun K2 h2 => ?_)
    have HK2 := Aside0.mk h2
    clear h2
    refine wp_seq_k (fun K3 h3 => ?_)
    have HK3 := Aside0.mk h3
    clear h3
    go_wp2_with fail
    refine HK3.out _ _ ?_
    clear HK3 K3
    refine wp_seq_k (fun K4 h4 => ?_)
    have HK4 := Aside0.mk h4
    clear h4
    refine wp_send_full rfl rfl rfl rfl rfl zero49 HCH.out (by have := HQ.out; rw [if_neg (by rw [HKB.out]; simp)] at this; simpa using this) ?_
    clear x0 x1 x2 x3 y2
    go_wp2_with fail
    refine HK4.out _ _ ?_
    clear HK4 K4
    go_wp2_with fail
    refine HK2.out _ _ ?_
    go_wp2_with fail
    go_ret
    exact ⟨rfl, HB2.out⟩

theorem KeepL.belowN {W w w1 : World} {S : Nat → Prop} (h : KeepL W w S) (hb : Below W.heap.size w w1) : KeepL W w1 S :=
  ⟨⟨Nat.le_trans h.kept.1 hb.size, fun i hi hn => (hb.block i hi).trans (h.kept.2 i hi hn)⟩, hb.os.trans h.os, hb.tape.trans h.tape, hb.output.trans h.output⟩
theorem LnS.belowN {N : Nat} {w w1 : World} {b0 g c : Nat} {v : Value} {inn : List Int} {ov : Bool} {q : List Value} (h : LnS w b0 g c v inn ov q) (hg : g < N) (hc : c < N) (hv : ∀ k, v.ownBlock = some k → k < N) (hb : Below N w w1) : LnS w1 b0 g c v inn ov q := by
  obtain ⟨s, r, hch⟩ := h.chan
  refine ⟨(hb.block g hg).trans h.blk, ?_, ⟨s, r, (hb.block c hc).trans hch⟩, Nat.le_trans h.lo hb.size⟩
  exact Kd.R_mono (Kd.R_step (Kd.R_tight rfl h.row) (fun k ho _ => hb.block k (hv k ho.symm))) (fun _ _ => trivial)
theorem LnS.lt {w : World} {b0 g c : Nat} {v : Value} {inn : List Int} {ov : Bool} {q : List Value} (h : LnS w b0 g c v inn ov q) : g < w.heap.size ∧ c < w.heap.size ∧ ∀ k, v.ownBlock = some k → k < w.heap.size := by
  obtain ⟨s, r, hc⟩ := h.chan
  exact ⟨blk_lt h.blk, blk_lt hc, Kd.R_lt h.row⟩
section
variable {P : Program} {Q : Exit → Act → World → Prop} {a : Act} {w : World} {id : Nat} {ops : Array Oper} {o : Oper} {rest : List Oper} {c cap s r e : Nat} {u z : Value} {qs : List Value} {tc : Operand}
theorem wp_recv_cons (hl : ops.toList = o :: rest) (hg : o.guard = none) (hop : o.op = .select #[{ chan := tc, send := none, elem := e }] false) (hc : a.eval tc = .chan (some c)) (hz : (P.info? e).map (·.zero) = some (some z))
    (hch : w.heap[c]? = some (.chan cap (u :: qs).toArray false s r false))
    (h : wpList P ops Q rest (a.put o.dst (.tuple #[goInt 0, .bool true, u])) (w.setChan c cap qs.toArray false s (r + 1) false)) : (Code.region id ops false).wp P Q a w :=
  wp_recv_some hl hg hop hc hz hch (by simp) (by simpa using h)
end
/-- What waits in a queue: outs whose data lie in an elder world. -/
def OutV (w0 : World) (x : S49) (u : Value) : Prop := ∃ A n, u = .agg #[.int .i64 x.f0, .int .i64 x.f1, .int .i64 x.f2, .slice A x.f3.length n] ∧ x.f3.length ≤ n ∧ Kd.C (Kd.int .u8) w0 A x.f3.length x.f3
def QR (w0 : World) : List S49 → List Value → Prop
  | [], [] => True
  | x :: xs, u :: q => OutV w0 x u ∧ QR w0 xs q
  | _, _ => False
theorem QR.len {w0 : World} : ∀ {xs : List S49} {q : List Value}, QR w0 xs q → xs.length = q.length
  | [], [], _ => rfl
  | x :: xs, u :: q, h => by simp only [List.length_cons, QR.len h.2]
  | [], _ :: _, h => h.elim
  | _ :: _, [], h => h.elim
theorem QR.drop {w0 : World} : ∀ {xs : List S49} {q : List Value} (j : Nat), QR w0 xs q → QR w0 (xs.drop j) (q.drop j)
  | xs, q, 0, h => by simpa using h
  | [], [], _ + 1, _ => trivial
  | x :: xs, u :: q, j + 1, h => by simpa using QR.drop j h.2
  | [], _ :: _, _ + 1, h => h.elim
  | _ :: _, [], _ + 1, h => h.elim
theorem QR.snoc {w0 : World} {x : S49} {u : Value} (hx : OutV w0 x u) : ∀ {xs : List S49} {q : List Value}, QR w0 xs q → QR w0 (xs ++ [x]) (q ++ [u])
  | [], [], _ => ⟨hx, trivial⟩
  | y :: xs, v :: q, h => ⟨h.1, QR.snoc hx h.2⟩
  | [], _ :: _, h => h.elim
  | _ :: _, [], h => h.elim
theorem QR.at {w0 : World} {xs : List S49} {q : List Value} (h : QR w0 xs q) {j : Nat} (hj : j < xs.length) : ∃ u, q.drop j = u :: q.drop (j + 1) ∧ OutV w0 xs[j] u := by
  have h1 := h.drop j
  have hlen := h.len
  have hj2 : j < q.length := by omega
  rw [List.drop_eq_getElem_cons hj, List.drop_eq_getElem_cons hj2] at h1
  exact ⟨q[j], List.drop_eq_getElem_cons hj2, h1.1⟩
structure RelSt (W w : World) (wq : World) (b0 g c : Nat) (v : Value) (inn : List Int) (ov : Bool) (q : List Value) (xs : List S49) (v5 : Value) : Prop where
  ln : LnS w b0 g c v inn ov q
  keep : KeepL W w (lineB g c v)
  row : Kd.R (FO wq) 49 w W.heap.size (fun _ => True) v5 xs
def takeN (n : Int) (m : Nat) : Nat := min n.toNat m

set_option maxHeartbeats 4000000 in
set_option maxRecDepth 100000 in
theorem Release_at {W : World} {b0 g c : Nat} {v : Value} {inn : List Int} {ov : Bool} {q : List Value} (h : LnS W b0 g c v inn ov q) (wq : World) (xs : List S49) (hq : QR wq xs q) (n : Int) (T : Nat) (hT : takeN n xs.length = T) (hl : xs.length < 1000) :
    Calls Try.prog 30 #[.pointer (some ⟨g, 0, none⟩), .int .i64 n] W fun e w' => ∃ A m, e = .returned (.slice A (xs.take T).length m) ∧ RelSt W w' wq b0 g c v inn ov (q.drop T) (xs.take T) (.slice A (xs.take T).length m) := by
  have HLT := Aside0.mk h.lt
  have H := Aside0.mk h
  have HQ := Aside0.mk (And.intro hq (And.intro hT hl))
  clear h hq hT hl
  go_enter Try.func30, Try.ntmps30
  go_wp2_with fail
  go_step3
  go_wp2_with fail
  refine (Made_at H.out).mono ?_
  rintro e w' ⟨rfl, rfl⟩
  go_wp2_with fail
  go_step3
  go_wp2_with fail
  go_loopg [5] T (fun kq v5 w' => ∃ (j : Nat), j + kq = T ∧ Aside0 (RelSt W w' wq b0 g c v inn ov (q.drop j) (xs.take j) v5))
  case atStart => exact ⟨0, by omega, ⟨H.out, KeepL.refl _ _, Kd.R_nil _ _ _ _ _⟩⟩
  case round =>
    obtain ⟨j, hj, HS⟩ := hrel
    have hjx : j ≤ xs.length := by have := HQ.out.2.1; unfold takeN at this; omega
    obtain ⟨A5, c5, e5⟩ := Kd.R_slice HS.out.row
    have hlj : (xs.take j).length = j := by rw [List.length_take]; omega
    rw [hlj] at e5
    subst e5
    have y2 : wr.cell? ⟨g, 2, none⟩ = some (.chan (some c)) := blk_cell HS.out.ln.blk 2
    have HLJ := Aside0.mk (And.intro hlj hjx)
    refine wp_seq_k (fun K1 h1 => ?_)
    have HK1 := Aside0.mk h1
    clear h1 hlj hjx
    cases gk with
    | zero =>
      obtain rfl : j = T := by omega
      by_cases hn : (j : Int) < n
      · have hnil : q.drop j = [] := by
          have h1 := HQ.out.1.len
          have h2 := HQ.out.2.1
          unfold takeN at h2
          exact List.drop_eq_nil_of_le (by omega)
        obtain ⟨s, r, hch⟩ := HS.out.ln.chan
        rw [hnil] at hch
        have HCH := Aside0.mk hch
        clear hch hnil hj
        go_wp2_with fail
        refine HK1.out _ _ ?_
        clear HK1 K1
        refine wp_block ?_
        refine wp_seq_k (fun K2 h2 => ?_)
        have HK2 := Aside0.mk h2
        clear h2
        go_wp2_with fail
        refine HK2.out _ _ ?_
        clear HK2 K2
        refine wp_seq_k (fun K3 h3 => ?_)
        have HK3 := Aside0.mk h3
        clear h3
        refine wp_recv_none rfl rfl rfl rfl zero49 HCH.out ?_
        go_wp2_with fail
        refine HK3.out _ _ ?_
        clear HK3 K3
        go_wp2_with fail
        rw [Exit.noGoto_ret]
        go_ret
        refine ⟨A5, c5, by rw [HLJ.out.1]; rfl, ?_⟩
        rw [HLJ.out.1]
        exact HS.out
      · have hn' : n ≤ j := by omega
        clear hn hj
        go_wp2_with fail
        rw [Exit.noGoto_ret]
        go_ret
        refine ⟨A5, c5, by rw [HLJ.out.1]; rfl, ?_⟩
        rw [HLJ.out.1]
        exact HS.out
    | succ gk =>
      have hjl : j < xs.length := by have := HQ.out.2.1; unfold takeN at this; omega
      have hjn : (j : Int) < n := by have := HQ.out.2.1; unfold takeN at this; omega
      obtain ⟨u, hdrop, Ad, m, rfl, hm, hCd⟩ := HQ.out.1.at hjl
      obtain ⟨y, hy⟩ : ∃ y, xs[j] = y := ⟨_, rfl⟩
      rw [hy] at hm hCd hdrop
      have HY := Aside0.mk (show xs.take (j + 1) = xs.take j ++ [y] by rw [List.take_succ_eq_append_getElem hjl, hy])
      have HD := Aside0.mk (And.intro hm hCd)
      obtain ⟨s, r, hch⟩ := HS.out.ln.chan
      rw [hdrop] at hch
      have HCH := Aside0.mk hch
      have HJ := Aside0.mk (And.intro hj (And.intro hjl hjn))
      have HF := Aside0.mk (HS.out.ln.send (q.drop (j + 1)) s (r + 1))
      obtain ⟨w1, hw1⟩ : ∃ w1, wr.setChan c 8 (q.drop (j + 1)).toArray false s (r + 1) false = w1 := ⟨_, rfl⟩
      rw [hw1] at HF
      have HK := Aside0.mk (HS.out.keep.then_ HF.out.2 (fun _ hk => .inl hk))
      clear hch hdrop hj hjl hm hCd hy
      go_wp2_with fail
      refine HK1.out _ _ ?_
      clear HK1 K1
      refine wp_block ?_
      refine wp_seq_k (fun K2 h2 => ?_)
      have HK2 := Aside0.mk h2
      clear h2
      go_wp2_with fail
      refine HK2.out _ _ ?_
      clear HK2 K2
      refine wp_seq_k (fun K3 h3 => ?_)
      have HK3 := Aside0.mk h3
      clear h3
      refine wp_recv_cons rfl rfl rfl rfl zero49 HCH.out ?_
      rw [hw1]
      go_wp2_with fail
      refine HK3.out _ _ ?_
      clear HK3 K3
      refine wp_block ?_
      refine wp_cond_true rfl ?_
      refine wp_seq_k (fun K4 h4 => ?_)
      have HK4 := Aside0.mk h4
      clear h4
      obtain ⟨r6, hr6⟩ : ∃ r, w1.heap.size = r := ⟨_, rfl⟩
      have hx := blk_new w1 (.cells #[.int .i64 0, .int .i64 0, .int .i64 0, .slice none 0 0] 49)
      have hb := below_alloc (Below.refl w1.heap.size w1) (.cells #[.int .i64 0, .int .i64 0, .int .i64 0, .slice none 0 0] 49)
      obtain ⟨w2, hw2⟩ : ∃ w2, w1.alloc (.cells #[.int .i64 0, .int .i64 0, .int .i64 0, .slice none 0 0] 49) = w2 := ⟨_, rfl⟩
      rw [hw2] at hx hb
      have HB2 := Aside0.mk hb
      rw [hr6] at hx
      have c0 : w2.cell? ⟨r6, 0, none⟩ = some (.int .i64 0) := blk_cell hx 0
      have c1 : w2.cell? ⟨r6, 1, none⟩ = some (.int .i64 0) := blk_cell hx 1
      have c2 : w2.cell? ⟨r6, 2, none⟩ = some (.int .i64 0) := blk_cell hx 2
      have c3 : w2.cell? ⟨r6, 3, none⟩ = some (.slice none 0 0) := blk_cell hx 3
      have s0 := blk_frozen hx 0
      have s1 := blk_frozen hx 1
      have s2 := blk_frozen hx 2
      have s3 := blk_frozen hx 3
      have HX := Aside0.mk hx
      clear hx hb hw1
      go_wp2_with fail
      have hx3 : ((((w2.setCell ⟨r6, 0, none⟩ (.int .i64 y.f0)).setCell ⟨r6, 1, none⟩ (.int .i64 y.f1)).setCell ⟨r6, 2, none⟩ (.int .i64 y.f2)).setCell ⟨r6, 3, none⟩ (.slice Ad y.f3.length m)).heap[r6]? = some (.cells #[.int .i64 y.f0, .int .i64 y.f1, .int .i64 y.f2, .slice Ad y.f3.length m] 49 (0, 0)) :=
        blk_set (blk_set (blk_set (blk_set HX.out 0 _) 1 _) 2 _) 3 _
      have hb3 := ((((HB2.out.setCell (p := ⟨r6, 0, none⟩) (Nat.le_of_eq hr6) (.int .i64 y.f0)).setCell (p := ⟨r6, 1, none⟩) (Nat.le_of_eq hr6) (.int .i64 y.f1)).setCell (p := ⟨r6, 2, none⟩) (Nat.le_of_eq hr6) (.int .i64 y.f2)).setCell (p := ⟨r6, 3, none⟩) (Nat.le_of_eq hr6) (.slice Ad y.f3.length m))
      obtain ⟨w3, hw3⟩ : ∃ w3, ((((w2.setCell ⟨r6, 0, none⟩ (.int .i64 y.f0)).setCell ⟨r6, 1, none⟩ (.int .i64 y.f1)).setCell ⟨r6, 2, none⟩ (.int .i64 y.f2)).setCell ⟨r6, 3, none⟩ (.slice Ad y.f3.length m)) = w3 := ⟨_, rfl⟩
      rw [hw3] at hx3 hb3 ⊢
      have hrow1 : Kd.R (FO wq) 49 w1 W.heap.size (fun _ => True) (.slice A5 j c5) (xs.take j) := by
        have h1 := HS.out.row
        refine Kd.R_mono (Kd.R_kept (Kd.R_bound h1) HF.out.2.kept (fun k hk e => ?_)) (fun _ _ => trivial)
        have h2 := hk.2.1
        have h3 := HLT.out
        rcases e with e | e | e
        · omega
        · omega
        · have := h3.2.2 k e.symm
          omega
      have HL3 := Aside0.mk (HF.out.1.below hb3)
      have HK3 := Aside0.mk (HK.out.then_ (KeepL.of_below hb3 (fun _ => False)) (fun _ hk => hk.elim))
      have HR3 := Aside0.mk (Kd.R_below hrow1 hb3)
      have d0 : w3.cell? ⟨r6, 0, none⟩ = some (.int .i64 y.f0) := blk_cell hx3 0
      have d1 : w3.cell? ⟨r6, 1, none⟩ = some (.int .i64 y.f1) := blk_cell hx3 1
      have d2 : w3.cell? ⟨r6, 2, none⟩ = some (.int .i64 y.f2) := blk_cell hx3 2
      have d3 : w3.cell? ⟨r6, 3, none⟩ = some (.slice Ad y.f3.length m) := blk_cell hx3 3
      clear c0 c1 c2 c3 s0 s1 s2 s3 hx3 hb3 hrow1 hw2 HX HB2 HF HK HCH HS y2 hr6
      refine HK4.out _ _ ?_
      clear HK4 K4
      go_wp2_with (first
        | ((with_reducible refine gate_builtin (b := .append) (xs := #[.tmp 23, .tmp 25]) rfl ?_); at_builtin; refine Kd.R_append (FO wq) (w0 := w3) W.heap.size rfl (.tmp 23) (.tmp 25) 45 49 (.agg #[.int .i64 0, .int .i64 0, .int .i64 0, .slice none 0 0]) 48 rfl Try.underlying45 info49 rfl (show 0 < 4 by decide) (by decide) (.slice A5 j c5) (xs.take j) y [.int .i64 y.f0, .int .i64 y.f1, .int .i64 y.f2, .slice Ad y.f3.length m] (fun _ => True) (fun k => some k ≠ (.slice A5 j c5 : Value).ownBlock) rfl rfl (k49_mk _ y HD.out.1 HD.out.2) (fun k hk => ⟨trivial, hk⟩) (fun _ _ => trivial) HR3.out (Below.refl _ _) HK3.out.kept.1 ?aL ?_; (case aL => have := HQ.out.2.2; have := HLJ.out.1; have := HLJ.out.2; omega); intro v26 w5 ho hb hg hat; have HO := Aside0.mk ho; have HB5 := Aside0.mk hb; clear HR3 ho hb hg hat)
        | fail)
      go_roundg gk
      case measure => omega
      case rel => exact ⟨j + 1, by have := HJ.out.1; omega, ⟨HL3.out.belowN HLT.out.1 HLT.out.2.1 HLT.out.2.2 HB5.out, HK3.out.belowN HB5.out, by rw [HY.out]; exact HO.out⟩⟩
end Go.Proofs.Ytkfninhbbcfdcaa.Giv
