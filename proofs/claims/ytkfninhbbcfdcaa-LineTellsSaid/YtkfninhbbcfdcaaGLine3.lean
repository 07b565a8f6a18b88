/- A line over time: its functions, told from an elder world on. -/
import Derived.Test.YtkfninhbbcfdcaaGLine2
namespace Go.Proofs.Ytkfninhbbcfdcaa.Giv
open Go.RowKit Go.Proofs.YtkfninhbbcfdcaaW.PrintWords Go.Proofs.YtkfninhbbcfdcaaW.PrintLast Go.Proofs.YtkfninhbbcfdcaaW.PrintMore Go.Proofs.Ytkfninhbbcfdcaa.PReplyTells
set_option linter.unusedVariables false
set_option linter.unusedSimpArgs false

/-- A line at W; from w2 on only the blocks S (and newer ones) were written; its row is one of these. -/
structure LnK (S : Nat → Prop) (w2 W : World) (b0 g c : Nat) (v : Value) (inn : List Int) (ov : Bool) (q : List Value) : Prop where
  ln : LnS W b0 g c v inn ov q
  keep : KeepL w2 W S
  own : ∀ j, v.ownBlock = some j → S j ∨ w2.heap.size ≤ j
  sg : S g
  sc : S c
theorem LnK.start {W : World} {b0 g c : Nat} {v : Value} {inn : List Int} {ov : Bool} {q : List Value} (h : LnS W b0 g c v inn ov q) : LnK (lineB g c v) W W b0 g c v inn ov q :=
  ⟨h, KeepL.refl _ _, fun j hj => .inl (.inr (.inr hj.symm)), .inl rfl, .inr (.inl rfl)⟩
theorem LnK.below {S : Nat → Prop} {w2 W W1 : World} {b0 g c : Nat} {v : Value} {inn : List Int} {ov : Bool} {q : List Value} (h : LnK S w2 W b0 g c v inn ov q) (hb : Below W.heap.size W W1) : LnK S w2 W1 b0 g c v inn ov q :=
  ⟨h.ln.below hb, h.keep.then_ (KeepL.of_below hb (fun _ => False)) (fun _ hk => hk.elim), h.own, h.sg, h.sc⟩
theorem LnK.lineB {S : Nat → Prop} {w2 W : World} {b0 g c : Nat} {v : Value} {inn : List Int} {ov : Bool} {q : List Value} (h : LnK S w2 W b0 g c v inn ov q) (k : Nat) (hk : lineB g c v k) : S k ∨ w2.heap.size ≤ k := by
  rcases hk with rfl | rfl | hk
  · exact .inl h.sg
  · exact .inl h.sc
  · exact h.own k hk.symm
theorem LnK.step {S : Nat → Prop} {w2 W W1 : World} {b0 g c : Nat} {v v1 : Value} {inn inn1 : List Int} {ov ov1 : Bool} {q q1 : List Value} (h : LnK S w2 W b0 g c v inn ov q) (h1 : LnS W1 b0 g c v1 inn1 ov1 q1) (hk : KeepL W W1 (Giv.lineB g c v))
    (ho : ∀ j, v1.ownBlock = some j → v.ownBlock = some j ∨ W.heap.size ≤ j) : LnK S w2 W1 b0 g c v1 inn1 ov1 q1 :=
  ⟨h1, h.keep.then_ hk h.lineB, fun j hj => (ho j hj).elim (h.own j) (fun e => .inr (Nat.le_trans h.keep.kept.1 e)), h.sg, h.sc⟩

theorem Feed_k {S : Nat → Prop} {w2 W : World} {b0 g c : Nat} {v : Value} {inn : List Int} {ov : Bool} {q : List Value} (h : LnK S w2 W b0 g c v inn ov q) (hin : inn.length ≤ 256)
    (B : Option Addr) (m cb : Nat) (b : List Int) (hb : Kd.C (Kd.int .u8) W B m b) (hm : m = b.length) (hmc : m ≤ cb) (z : Int) (hz : z = (b.length : Int) - min b.length (256 - inn.length)) (y : List Int) (hy : inn ++ b.take (256 - inn.length) = y) (o2 : Bool) (ho2 : (ov || decide (0 < z)) = o2) :
    Calls Try.prog 23 #[.pointer (some ⟨g, 0, none⟩), .slice B m cb] W fun e w' => ∃ v', e = .returned (.int .i64 z) ∧ LnK S w2 w' b0 g c v' y o2 q := by
  have hy2 : inn ++ b.take (min b.length (256 - inn.length)) = y := by rw [← hy]; congr 1; rw [List.take_eq_take_iff]; omega
  refine (Feed_at h.ln hin B m cb b hb hm hmc _ rfl z (by omega) o2 ho2.symm).mono ?_
  rintro e w' ⟨v', rfl, h1, hk, ho⟩
  rw [hy2] at h1
  exact ⟨v', rfl, h.step h1 hk (fun j hj => ho.elim (fun e => .inl (by rw [← e]; exact hj)) (fun ⟨i, e1, e2⟩ => .inr (by rw [hj] at e1; injection e1 with e1; omega)))⟩
theorem NextO_k {S : Nat → Prop} {w2 W : World} {b0 g c : Nat} {v : Value} {inn : List Int} {q : List Value} (h : LnK S w2 W b0 g c v inn true q) :
    Calls Try.prog 26 #[.pointer (some ⟨g, 0, none⟩)] W fun e w' => e = .returned (.tuple #[.slice none 0 0, .int .i64 18, .bool true]) ∧ LnK S w2 w' b0 g c (.slice none 0 0) [] false q := by
  refine (Next_over h.ln).mono ?_
  rintro e w' ⟨rfl, h1, hk⟩
  exact ⟨rfl, h.step h1 hk (fun j hj => by cases hj)⟩
theorem NextS_k {S : Nat → Prop} {w2 W : World} {b0 g c : Nat} {v : Value} {inn : List Int} {q : List Value} (h : LnK S w2 W b0 g c v inn false q) (hb : bytesOk inn) (x : List Int) (n : Int) (hT : tk inn 60 = (x, n, 12)) :
    Calls Try.prog 26 #[.pointer (some ⟨g, 0, none⟩)] W fun e w' => e = .returned (.tuple #[.slice none 0 0, .int .i64 0, .bool false]) ∧ LnK S w2 w' b0 g c v inn false q := by
  refine (Next_short h.ln hb x n hT).mono ?_
  rintro e w' ⟨rfl, hB⟩
  exact ⟨rfl, h.below hB⟩
theorem NextF_k {S : Nat → Prop} {w2 W : World} {b0 g c : Nat} {v : Value} {inn : List Int} {q : List Value} (h : LnK S w2 W b0 g c v inn false q) (hin : inn.length ≤ 256) (hb : bytesOk inn) (x : List Int) (n : Nat) (er : Int) (hT : tk inn 60 = (x, (n : Int), er)) (her : er ≠ 12) (hn : n ≤ inn.length) (y : List Int) (hy : inn.drop n = y) :
    Calls Try.prog 26 #[.pointer (some ⟨g, 0, none⟩)] W fun e w' => ∃ Ax cx v', e = .returned (.tuple #[.slice Ax x.length cx, .int .i64 er, .bool true]) ∧ Kd.R (Kd.int .u8) 5 w' W.heap.size (fun k => ¬ Giv.lineB g c v' k) (.slice Ax x.length cx) x ∧ LnK S w2 w' b0 g c v' y false q := by
  subst hy
  refine (Next_frame h.ln hin hb x n er hT her hn).mono ?_
  rintro e w' ⟨Ax, cx, v', rfl, hR, h1, hk, ho⟩
  have hlt := h.ln.lt
  refine ⟨Ax, cx, v', rfl, Kd.R_mono (Kd.R_bound hR) (fun k hk e => ?_), h.step h1 hk (fun j hj => .inr (ho j hj))⟩
  have h2 := hk.2.1
  rcases e with e | e | e
  · omega
  · omega
  · exact hk.1 e
theorem TellY_k {S : Nat → Prop} {w2 W : World} {b0 g c : Nat} {v : Value} {inn : List Int} {ov : Bool} {q : List Value} (h : LnK S w2 W b0 g c v inn ov q) (k p er : Int) (d : Value) (hd : ∃ A n m, d = .slice A n m) (hq : q.length < 8) (hk : keepsO k = true → q.length < 7) :
    Calls Try.prog 28 #[.pointer (some ⟨g, 0, none⟩), .agg #[.int .i64 k, .int .i64 p, .int .i64 er, d]] W fun e w' => e = .returned (.bool true) ∧ LnK S w2 w' b0 g c v inn ov (q ++ [.agg #[.int .i64 k, .int .i64 p, .int .i64 er, d]]) := by
  refine (Tell_yes h.ln k p er d hd hq hk).mono ?_
  rintro e w' ⟨rfl, h1, hk⟩
  exact ⟨rfl, h.step h1 hk (fun j hj => .inl hj)⟩
theorem TellN_k {S : Nat → Prop} {w2 W : World} {b0 g c : Nat} {v : Value} {inn : List Int} {ov : Bool} {q : List Value} (h : LnK S w2 W b0 g c v inn ov q) (k p er : Int) (d : Value) (hd : ∃ A n m, d = .slice A n m) (hk : if keepsO k = true then 7 ≤ q.length else 8 ≤ q.length) :
    Calls Try.prog 28 #[.pointer (some ⟨g, 0, none⟩), .agg #[.int .i64 k, .int .i64 p, .int .i64 er, d]] W fun e w' => e = .returned (.bool false) ∧ LnK S w2 w' b0 g c v inn ov q := by
  refine (Tell_no h.ln k p er d hd hk).mono ?_
  rintro e w' ⟨rfl, hB⟩
  exact ⟨rfl, h.below hB⟩
theorem Release_k {S : Nat → Prop} {w2 W : World} {b0 g c : Nat} {v : Value} {inn : List Int} {ov : Bool} {q : List Value} (h : LnK S w2 W b0 g c v inn ov q) (wq : World) (xs : List S49) (hq : QR wq xs q) (n : Int) (T : Nat) (hT : takeN n xs.length = T) (hl : xs.length < 1000) :
    Calls Try.prog 30 #[.pointer (some ⟨g, 0, none⟩), .int .i64 n] W fun e w' => ∃ A m, e = .returned (.slice A (xs.take T).length m) ∧ Kd.R (FO wq) 49 w' W.heap.size (fun k => ¬ Giv.lineB g c v k) (.slice A (xs.take T).length m) (xs.take T) ∧ LnK S w2 w' b0 g c v inn ov (q.drop T) := by
  refine (Release_at h.ln wq xs hq n T hT hl).mono ?_
  rintro e w' ⟨A, m, rfl, h1⟩
  have hlt := h.ln.lt
  refine ⟨A, m, rfl, Kd.R_mono (Kd.R_bound h1.row) (fun k hk e => ?_), h.step h1.ln h1.keep (fun j hj => .inl hj)⟩
  have h2 := hk.2.1
  rcases e with e | e | e
  · omega
  · omega
  · have := hlt.2.2 k e.symm
    omega
/-- What is read at w2 and lies in none of the line's blocks. -/
theorem LnK.C_own {S : Nat → Prop} {w2 W : World} {b0 g c : Nat} {v : Value} {inn : List Int} {ov : Bool} {q : List Value} (h : LnK S w2 W b0 g c v inn ov q) {α : Type} {d : Kd α} {e base n m : Nat} {ok : Nat → Prop} {A : Option Addr} {xs : List α} (hr : d.R e w2 base ok (.slice A n m) xs) (hok : ∀ k, ok k → ¬ S k) : d.C W A n xs :=
  Kd.C_kept_own hr hok W h.keep.kept
theorem LnK.C_came {S : Nat → Prop} {w0 w2 W : World} {b0 g c : Nat} {v : Value} {inn : List Int} {ov : Bool} {q : List Value} (h : LnK S w2 W b0 g c v inn ov q) {n : Nat} {A : Option Addr} {xs : List Int} (hr : Kd.C (Kd.int .u8) w0 A n xs) (hb : Below w0.heap.size w0 w2) (hS : ∀ k, S k → w0.heap.size ≤ k) : Kd.C (Kd.int .u8) W A n xs :=
  Kd.C_kept_came (Kd.heap_int _) hr hb hS W h.keep.kept

set_option maxRecDepth 100000 in
theorem Tell_nil (W : World) (k p er : Int) (A : Option Addr) (n m : Nat) : Calls Try.prog 28 #[.pointer none, .agg #[.int .i64 k, .int .i64 p, .int .i64 er, .slice A n m]] W fun e w' => e = .returned (.bool false) ∧ Below W.heap.size W w' := by
  have hB := below_alloc (Below.refl W.heap.size W) (.cells #[.int .i64 k, .int .i64 p, .int .i64 er, .slice A n m] 49)
  obtain ⟨r3, hr⟩ : ∃ r, W.heap.size = r := ⟨_, rfl⟩
  obtain ⟨w1, hw1⟩ : ∃ w1, W.alloc (.cells #[.int .i64 k, .int .i64 p, .int .i64 er, .slice A n m] 49) = w1 := ⟨_, rfl⟩
  rw [hw1] at hB
  have HB := Aside0.mk hB
  clear hB
  go_enter Try.func28, Try.ntmps28
  go_wp2_with fail
  refine (Made_nil _).mono ?_
  rintro e w' ⟨rfl, rfl⟩
  go_wp2_with fail
  go_ret
  exact ⟨rfl, HB.out⟩
set_option maxRecDepth 100000 in
theorem Release_nil (W : World) (n : Int) : Calls Try.prog 30 #[.pointer none, .int .i64 n] W fun e w' => e = .returned (.slice none 0 0) ∧ W = w' := by
  go_enter Try.func30, Try.ntmps30
  go_wp2_with fail
  go_step3
  go_wp2_with fail
  refine (Made_nil _).mono ?_
  rintro e w' ⟨rfl, rfl⟩
  go_wp2_with fail
  rw [Exit.noGoto_ret]
  go_ret
  exact ⟨rfl, rfl⟩
end Go.Proofs.Ytkfninhbbcfdcaa.Giv
