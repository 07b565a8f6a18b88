/- A command's fields out of bytes: get. -/
import Derived.Test.YtfaicipochceeaaGBytes
namespace Go.Proofs.Ytfaicipochceeaa.Giv
open Go.Lib Go.RowKit Go.Proofs.YtfaicipochceeaaW.PrintWords Go.Proofs.YtfaicipochceeaaW.PrintLast Go.Proofs.YtfaicipochceeaaW.PrintMore
set_option linter.unusedVariables false
set_option linter.unusedSimpArgs false
def itemI (n : Nat) : Int := if n = 255 then -1 else n
theorem item_calls (n : Nat) (hn : n < 256) (w : World) : Calls Try.prog 52 #[.int .u64 n] w fun e w' => e = .returned (.int .i64 (itemI n)) ∧ w = w' := by
  have hn2 : (n : Int) ≤ 255 := by omega
  by_cases h : n = 255
  · subst h
    go_enter Try.func52, Try.ntmps52
    go_wp2_with fail
    go_ret
    exact ⟨rfl, rfl⟩
  · have h1 : ((n : Int) == 255) = false := by simp; omega
    have h2 : itemI n = n := if_neg h
    rw [h2]
    clear h2 h
    go_enter Try.func52, Try.ntmps52
    go_wp2_with fail
    go_ret
    exact ⟨rfl, rfl⟩
theorem SNum_at {w0 w : World} {g : Nat} {x : Sc} (size : Int) (k : Nat) (hk : (fitI size).toNat = k) (hb : bytesOk x.1) (h : St w0 w g x.1 x.2) (n : Nat) (y : Sc) (hy : scNum x k = (n, y)) :
    Calls Try.prog 30 #[.pointer (some ⟨g, 0, none⟩), .int .i64 size] w fun e w' => e = .returned (.int .u64 n) ∧ St w0 w' g y.1 y.2 ∧ Keep1 w w' g := by
  subst hk
  have := SNum_calls w0 w g x.1 x.2 size hb h
  unfold scNum at hy
  injection hy with h1 h2
  subst h1 h2
  exact this
theorem scNum_ok {x : Sc} {k n : Nat} {y : Sc} (hb : bytesOk x.1) (hy : scNum x k = (n, y)) : bytesOk y.1 := by
  unfold scNum at hy
  injection hy with h1 h2
  subst h2
  exact restL_ok hb
theorem scNum_lt1 {x : Sc} {n : Nat} {y : Sc} (hb : bytesOk x.1) (hy : scNum x 1 = (n, y)) : n < 256 := by
  unfold scNum at hy
  injection hy with h1 h2
  subst h1
  refine numV_one (takeL_ok hb) ?_
  unfold takeL
  split
  · rw [List.length_take]; omega
  · exact Nat.zero_le _
theorem scText_ok {x : Sc} {k : Int} {t : List Int} {y : Sc} (hb : bytesOk x.1) (hy : scText x k = (t, y)) : bytesOk y.1 := by
  unfold scText at hy
  injection hy with h1 h2
  subst h2
  exact restL_ok (restL_ok hb)
theorem St.set {w0 w : World} {g b : Nat} {l : List Int} {f : Int} (h : St w0 w g l f) (hne : b ≠ g) (hlo : w0.heap.size ≤ b) (i : Nat) (u : Value) : St w0 (w.setCell ⟨b, i, none⟩ u) g l f := by
  obtain ⟨hb, hl, A, c, hblk, hC, hc⟩ := h
  exact ⟨hb.setCell (p := ⟨b, i, none⟩) hlo u, hl, A, c, blk_far hblk (p := ⟨b, i, none⟩) (fun e => hne e.symm) u, hC, hc⟩
abbrev gbS (g b : Nat) (k : Nat) : Prop := k = g ∨ k = b
theorem Kept.k1 {w W W2 : World} {g b : Nat} (h : Kept w W (gbS g b)) (k : Keep1 W W2 g) : Kept w W2 (gbS g b) := Kept.of_keep h k.keep (.inl (.inl rfl))
theorem Kept.cb {w W : World} {g b : Nat} (h : Kept w W (gbS g b)) (i : Nat) (u : Value) : Kept w (W.setCell ⟨b, i, none⟩ u) (gbS g b) := Kept.setCell h (p := ⟨b, i, none⟩) (.inl (.inr rfl)) u
theorem blk_k1 {W W2 : World} {g b : Nat} {o : Obj} (h : W.heap[b]? = some o) (k : Keep1 W W2 g) (hne : b ≠ g) : W2.heap[b]? = some o := (k.keep.2 b (blk_lt h) hne (by simp)).trans h
def getC (a : Cmd) (x : Sc) : Nat → Cmd × Sc
  | 1 => let y := scText x 12; ({ a with name := strOfNums y.1 }, y.2)
  | 2 => let y := scText x 40; ({ a with text := strOfNums y.1 }, y.2)
  | 3 => let y := scNum x 1; let z := scNum y.2 1; ({ a with rl := y.1, rs := z.1 }, z.2)
  | 4 => let y := scNum x 1; ({ a with la := y.1 }, y.2)
  | 5 => let y := scNum x 1; ({ a with wh := y.1 }, y.2)
  | 6 => let y := scNum x 1; ({ a with sl := y.1 }, y.2)
  | 7 => let y := scNum x 1; ({ a with di := y.1 }, y.2)
  | 8 => let y := scNum x 1; ({ a with co := y.1 }, y.2)
  | 9 => let y := scNum x 8; ({ a with am := y.1 }, y.2)
  | 10 => let y := scNum x 1; let z := scNum y.2 8; let u := scNum z.2 1; ({ a with gc := y.1, ga := z.1, gi := itemI u.1 }, u.2)
  | 11 => let y := scNum x 1; let z := scNum y.2 8; let u := scNum z.2 1; ({ a with wc := y.1, wa := z.1, wi := itemI u.1 }, u.2)
  | 12 => let y := scNum x 1; ({ a with si := y.1 }, y.2)
  | 13 => let y := scNum x 1; ({ a with ba := y.1 }, y.2)
  | 14 => let y := scNum x 1; ({ a with qu := y.1 }, y.2)
  | 15 => let y := scNum x 8; ({ a with qt := y.1 }, y.2)
  | 16 => let y := scNum x 8; ({ a with pr := y.1 }, y.2)
  | _ => (a, x)
set_option maxHeartbeats 4000000 in
set_option maxRecDepth 100000 in
theorem get1 (w0 w : World) (g b : Nat) (a : Cmd) (x : Sc) (hx : bytesOk x.1) (h : St w0 w g x.1 x.2) (hb : w.heap[b]? = some (.cells (cells a) 28 (0, 0))) (hne : b ≠ g) (hlo : w0.heap.size ≤ b) :
    Calls Try.prog 33 #[.pointer (some ⟨g, 0, none⟩), .pointer (some ⟨b, 0, none⟩), .int .i32 110] w fun e w' => e = .returned (.tuple #[]) ∧ St w0 w' g (getC a x 1).2.1 (getC a x 1).2.2 ∧ w'.heap[b]? = some (.cells (cells (getC a x 1).1) 28 (0, 0)) ∧ Kept w w' (gbS g b) := by
  have H := Aside0.mk (And.intro hx (And.intro h (And.intro hb (And.intro hne hlo))))
  obtain ⟨⟨t, x1⟩, h1⟩ : ∃ y, scText x 12 = y := ⟨_, rfl⟩
  have HG : Aside0 (getC a x 1 = ({ a with name := strOfNums t }, x1)) := ⟨by show (_, _) = _; rw [h1]⟩
  have H1 := Aside0.mk h1
  clear h1
  clear hx h hb hne hlo
  go_enter Try.func33, Try.ntmps33
  go_wp2_with fail
  refine (number_calls b 1 _ (by decide) (by decide)).mono ?_
  rintro e w' ⟨rfl, rfl⟩
  rw [show numP b 1 = none from rfl]
  go_wp2_with fail
  refine (amount_calls b 1 _ (by decide) (by decide)).mono ?_
  rintro e w' ⟨rfl, rfl⟩
  rw [show amoP b 1 = none from rfl]
  go_wp2_with fail
  refine (part_calls b 1 _ (by decide) (by decide)).mono ?_
  rintro e w' ⟨rfl, rfl⟩
  rw [show parP b 1 = none from rfl]
  go_wp2_with fail
  refine (SText_calls w0 w g x 12 H.out.1 H.out.2.1 t x1 H1.out).mono ?_
  rintro e v1 ⟨rfl, hS, hK⟩
  have S1 := Aside0.mk (And.intro hS (And.intro (blk_k1 H.out.2.2.1 hK H.out.2.2.2.1) (Kept.k1 (Kept.refl w (gbS g b)) hK)))
  clear hS hK
  have c1 : v1.cell? ⟨b, 1, none⟩ = some (.string a.name) := blk_cell S1.out.2.1 1
  have z1 : v1.frozen? ⟨b, 1, none⟩ = false := blk_frozen S1.out.2.1 1
  go_wp2_with fail
  go_end0
  rw [HG.out]
  exact ⟨rfl, (St.set S1.out.1 H.out.2.2.2.1 H.out.2.2.2.2 1 (.string (strOfNums t))), (blk_set S1.out.2.1 1 (.string (strOfNums t))), (Kept.cb S1.out.2.2 1 (.string (strOfNums t)))⟩
set_option maxHeartbeats 4000000 in
set_option maxRecDepth 100000 in
theorem get2 (w0 w : World) (g b : Nat) (a : Cmd) (x : Sc) (hx : bytesOk x.1) (h : St w0 w g x.1 x.2) (hb : w.heap[b]? = some (.cells (cells a) 28 (0, 0))) (hne : b ≠ g) (hlo : w0.heap.size ≤ b) :
    Calls Try.prog 33 #[.pointer (some ⟨g, 0, none⟩), .pointer (some ⟨b, 0, none⟩), .int .i32 116] w fun e w' => e = .returned (.tuple #[]) ∧ St w0 w' g (getC a x 2).2.1 (getC a x 2).2.2 ∧ w'.heap[b]? = some (.cells (cells (getC a x 2).1) 28 (0, 0)) ∧ Kept w w' (gbS g b) := by
  have H := Aside0.mk (And.intro hx (And.intro h (And.intro hb (And.intro hne hlo))))
  obtain ⟨⟨t, x1⟩, h1⟩ : ∃ y, scText x 40 = y := ⟨_, rfl⟩
  have HG : Aside0 (getC a x 2 = ({ a with text := strOfNums t }, x1)) := ⟨by show (_, _) = _; rw [h1]⟩
  have H1 := Aside0.mk h1
  clear h1
  clear hx h hb hne hlo
  go_enter Try.func33, Try.ntmps33
  go_wp2_with fail
  refine (number_calls b 2 _ (by decide) (by decide)).mono ?_
  rintro e w' ⟨rfl, rfl⟩
  rw [show numP b 2 = none from rfl]
  go_wp2_with fail
  refine (amount_calls b 2 _ (by decide) (by decide)).mono ?_
  rintro e w' ⟨rfl, rfl⟩
  rw [show amoP b 2 = none from rfl]
  go_wp2_with fail
  refine (part_calls b 2 _ (by decide) (by decide)).mono ?_
  rintro e w' ⟨rfl, rfl⟩
  rw [show parP b 2 = none from rfl]
  go_wp2_with fail
  refine (SText_calls w0 w g x 40 H.out.1 H.out.2.1 t x1 H1.out).mono ?_
  rintro e v1 ⟨rfl, hS, hK⟩
  have S1 := Aside0.mk (And.intro hS (And.intro (blk_k1 H.out.2.2.1 hK H.out.2.2.2.1) (Kept.k1 (Kept.refl w (gbS g b)) hK)))
  clear hS hK
  have c1 : v1.cell? ⟨b, 2, none⟩ = some (.string a.text) := blk_cell S1.out.2.1 2
  have z1 : v1.frozen? ⟨b, 2, none⟩ = false := blk_frozen S1.out.2.1 2
  go_wp2_with fail
  go_end0
  rw [HG.out]
  exact ⟨rfl, (St.set S1.out.1 H.out.2.2.2.1 H.out.2.2.2.2 2 (.string (strOfNums t))), (blk_set S1.out.2.1 2 (.string (strOfNums t))), (Kept.cb S1.out.2.2 2 (.string (strOfNums t)))⟩
set_option maxHeartbeats 4000000 in
set_option maxRecDepth 100000 in
theorem get3 (w0 w : World) (g b : Nat) (a : Cmd) (x : Sc) (hx : bytesOk x.1) (h : St w0 w g x.1 x.2) (hb : w.heap[b]? = some (.cells (cells a) 28 (0, 0))) (hne : b ≠ g) (hlo : w0.heap.size ≤ b) :
    Calls Try.prog 33 #[.pointer (some ⟨g, 0, none⟩), .pointer (some ⟨b, 0, none⟩), .int .i32 114] w fun e w' => e = .returned (.tuple #[]) ∧ St w0 w' g (getC a x 3).2.1 (getC a x 3).2.2 ∧ w'.heap[b]? = some (.cells (cells (getC a x 3).1) 28 (0, 0)) ∧ Kept w w' (gbS g b) := by
  have H := Aside0.mk (And.intro hx (And.intro h (And.intro hb (And.intro hne hlo))))
  obtain ⟨⟨n1, x1_⟩, h1⟩ : ∃ y, scNum x 1 = y := ⟨_, rfl⟩
  have o1 := scNum_ok hx h1
  have lt1 := scNum_lt1 hx h1
  obtain ⟨⟨n2, x2_⟩, h2⟩ : ∃ y, scNum x1_ 1 = y := ⟨_, rfl⟩
  have o2 := scNum_ok o1 h2
  have lt2 := scNum_lt1 o1 h2
  have HG : Aside0 (getC a x 3 = ({ a with rl := n1, rs := n2 }, x2_)) := ⟨by simp only [getC, h1, h2]⟩
  have l1 : (n1 : Int) ≤ 255 := by omega
  have H1 := Aside0.mk (And.intro h1 (And.intro o1 lt1))
  clear lt1
  clear h1 o1
  have l2 : (n2 : Int) ≤ 255 := by omega
  have H2 := Aside0.mk (And.intro h2 (And.intro o2 lt2))
  clear lt2
  clear h2 o2
  clear hx h hb hne hlo
  go_enter Try.func33, Try.ntmps33
  go_wp2_with fail
  refine (number_calls b 3 _ (by decide) (by decide)).mono ?_
  rintro e w' ⟨rfl, rfl⟩
  rw [show numP b 3 = none from rfl]
  go_wp2_with fail
  refine (amount_calls b 3 _ (by decide) (by decide)).mono ?_
  rintro e w' ⟨rfl, rfl⟩
  rw [show amoP b 3 = none from rfl]
  go_wp2_with fail
  refine (part_calls b 3 _ (by decide) (by decide)).mono ?_
  rintro e w' ⟨rfl, rfl⟩
  rw [show parP b 3 = none from rfl]
  go_wp2_with fail
  refine (SNum_at 1 1 rfl H.out.1 H.out.2.1 n1 x1_ H1.out.1).mono ?_
  rintro e v1 ⟨rfl, hS, hK⟩
  have S1 := Aside0.mk (And.intro hS (And.intro (blk_k1 H.out.2.2.1 hK H.out.2.2.2.1) (Kept.k1 (Kept.refl w (gbS g b)) hK)))
  clear hS hK
  have c1 : v1.cell? ⟨b, 3, none⟩ = some (.int .i64 a.rl) := blk_cell S1.out.2.1 3
  have z1 : v1.frozen? ⟨b, 3, none⟩ = false := blk_frozen S1.out.2.1 3
  go_wp2_with fail
  have T1 := Aside0.mk (And.intro (St.set S1.out.1 H.out.2.2.2.1 H.out.2.2.2.2 3 (.int .i64 n1)) (And.intro (blk_set S1.out.2.1 3 (.int .i64 n1)) (Kept.cb S1.out.2.2 3 (.int .i64 n1))))
  obtain ⟨u1, hu1⟩ : ∃ u, v1.setCell ⟨b, 3, none⟩ (.int .i64 n1) = u := ⟨_, rfl⟩
  rw [hu1] at T1 ⊢
  clear hu1 c1 z1
  refine (SNum_at 1 1 rfl H1.out.2.1 T1.out.1 n2 x2_ H2.out.1).mono ?_
  rintro e v2 ⟨rfl, hS, hK⟩
  have S2 := Aside0.mk (And.intro hS (And.intro (blk_k1 T1.out.2.1 hK H.out.2.2.2.1) (Kept.k1 T1.out.2.2 hK)))
  clear hS hK
  have c2 : v2.cell? ⟨b, 4, none⟩ = some (.int .i64 a.rs) := blk_cell S2.out.2.1 4
  have z2 : v2.frozen? ⟨b, 4, none⟩ = false := blk_frozen S2.out.2.1 4
  go_wp2_with fail
  go_end0
  rw [HG.out]
  exact ⟨rfl, (St.set S2.out.1 H.out.2.2.2.1 H.out.2.2.2.2 4 (.int .i64 n2)), (blk_set S2.out.2.1 4 (.int .i64 n2)), (Kept.cb S2.out.2.2 4 (.int .i64 n2))⟩
set_option maxHeartbeats 4000000 in
set_option maxRecDepth 100000 in
theorem get4 (w0 w : World) (g b : Nat) (a : Cmd) (x : Sc) (hx : bytesOk x.1) (h : St w0 w g x.1 x.2) (hb : w.heap[b]? = some (.cells (cells a) 28 (0, 0))) (hne : b ≠ g) (hlo : w0.heap.size ≤ b) :
    Calls Try.prog 33 #[.pointer (some ⟨g, 0, none⟩), .pointer (some ⟨b, 0, none⟩), .int .i32 108] w fun e w' => e = .returned (.tuple #[]) ∧ St w0 w' g (getC a x 4).2.1 (getC a x 4).2.2 ∧ w'.heap[b]? = some (.cells (cells (getC a x 4).1) 28 (0, 0)) ∧ Kept w w' (gbS g b) := by
  have H := Aside0.mk (And.intro hx (And.intro h (And.intro hb (And.intro hne hlo))))
  obtain ⟨⟨n1, x1_⟩, h1⟩ : ∃ y, scNum x 1 = y := ⟨_, rfl⟩
  have o1 := scNum_ok hx h1
  have lt1 := scNum_lt1 hx h1
  have HG : Aside0 (getC a x 4 = ({ a with la := n1 }, x1_)) := ⟨by simp only [getC, h1]⟩
  have l1 : (n1 : Int) ≤ 255 := by omega
  have H1 := Aside0.mk (And.intro h1 (And.intro o1 lt1))
  clear lt1
  clear h1 o1
  clear hx h hb hne hlo
  go_enter Try.func33, Try.ntmps33
  go_wp2_with fail
  refine (number_calls b 4 _ (by decide) (by decide)).mono ?_
  rintro e w' ⟨rfl, rfl⟩
  rw [show numP b 4 = some ⟨b, 5, none⟩ from rfl]
  go_wp2_with fail
  refine (number_calls b 4 _ (by decide) (by decide)).mono ?_
  rintro e w' ⟨rfl, rfl⟩
  rw [show numP b 4 = some ⟨b, 5, none⟩ from rfl]
  go_wp2_with fail
  refine (SNum_at 1 1 rfl H.out.1 H.out.2.1 n1 x1_ H1.out.1).mono ?_
  rintro e v1 ⟨rfl, hS, hK⟩
  have S1 := Aside0.mk (And.intro hS (And.intro (blk_k1 H.out.2.2.1 hK H.out.2.2.2.1) (Kept.k1 (Kept.refl w (gbS g b)) hK)))
  clear hS hK
  have c1 : v1.cell? ⟨b, 5, none⟩ = some (.int .i64 a.la) := blk_cell S1.out.2.1 5
  have z1 : v1.frozen? ⟨b, 5, none⟩ = false := blk_frozen S1.out.2.1 5
  go_wp2_with fail
  go_end0
  rw [HG.out]
  exact ⟨rfl, (St.set S1.out.1 H.out.2.2.2.1 H.out.2.2.2.2 5 (.int .i64 n1)), (blk_set S1.out.2.1 5 (.int .i64 n1)), (Kept.cb S1.out.2.2 5 (.int .i64 n1))⟩
set_option maxHeartbeats 4000000 in
set_option maxRecDepth 100000 in
theorem get5 (w0 w : World) (g b : Nat) (a : Cmd) (x : Sc) (hx : bytesOk x.1) (h : St w0 w g x.1 x.2) (hb : w.heap[b]? = some (.cells (cells a) 28 (0, 0))) (hne : b ≠ g) (hlo : w0.heap.size ≤ b) :
    Calls Try.prog 33 #[.pointer (some ⟨g, 0, none⟩), .pointer (some ⟨b, 0, none⟩), .int .i32 119] w fun e w' => e = .returned (.tuple #[]) ∧ St w0 w' g (getC a x 5).2.1 (getC a x 5).2.2 ∧ w'.heap[b]? = some (.cells (cells (getC a x 5).1) 28 (0, 0)) ∧ Kept w w' (gbS g b) := by
  have H := Aside0.mk (And.intro hx (And.intro h (And.intro hb (And.intro hne hlo))))
  obtain ⟨⟨n1, x1_⟩, h1⟩ : ∃ y, scNum x 1 = y := ⟨_, rfl⟩
  have o1 := scNum_ok hx h1
  have lt1 := scNum_lt1 hx h1
  have HG : Aside0 (getC a x 5 = ({ a with wh := n1 }, x1_)) := ⟨by simp only [getC, h1]⟩
  have l1 : (n1 : Int) ≤ 255 := by omega
  have H1 := Aside0.mk (And.intro h1 (And.intro o1 lt1))
  clear lt1
  clear h1 o1
  clear hx h hb hne hlo
  go_enter Try.func33, Try.ntmps33
  go_wp2_with fail
  refine (number_calls b 5 _ (by decide) (by decide)).mono ?_
  rintro e w' ⟨rfl, rfl⟩
  rw [show numP b 5 = some ⟨b, 6, none⟩ from rfl]
  go_wp2_with fail
  refine (number_calls b 5 _ (by decide) (by decide)).mono ?_
  rintro e w' ⟨rfl, rfl⟩
  rw [show numP b 5 = some ⟨b, 6, none⟩ from rfl]
  go_wp2_with fail
  refine (SNum_at 1 1 rfl H.out.1 H.out.2.1 n1 x1_ H1.out.1).mono ?_
  rintro e v1 ⟨rfl, hS, hK⟩
  have S1 := Aside0.mk (And.intro hS (And.intro (blk_k1 H.out.2.2.1 hK H.out.2.2.2.1) (Kept.k1 (Kept.refl w (gbS g b)) hK)))
  clear hS hK
  have c1 : v1.cell? ⟨b, 6, none⟩ = some (.int .i64 a.wh) := blk_cell S1.out.2.1 6
  have z1 : v1.frozen? ⟨b, 6, none⟩ = false := blk_frozen S1.out.2.1 6
  go_wp2_with fail
  go_end0
  rw [HG.out]
  exact ⟨rfl, (St.set S1.out.1 H.out.2.2.2.1 H.out.2.2.2.2 6 (.int .i64 n1)), (blk_set S1.out.2.1 6 (.int .i64 n1)), (Kept.cb S1.out.2.2 6 (.int .i64 n1))⟩
set_option maxHeartbeats 4000000 in
set_option maxRecDepth 100000 in
theorem get6 (w0 w : World) (g b : Nat) (a : Cmd) (x : Sc) (hx : bytesOk x.1) (h : St w0 w g x.1 x.2) (hb : w.heap[b]? = some (.cells (cells a) 28 (0, 0))) (hne : b ≠ g) (hlo : w0.heap.size ≤ b) :
    Calls Try.prog 33 #[.pointer (some ⟨g, 0, none⟩), .pointer (some ⟨b, 0, none⟩), .int .i32 115] w fun e w' => e = .returned (.tuple #[]) ∧ St w0 w' g (getC a x 6).2.1 (getC a x 6).2.2 ∧ w'.heap[b]? = some (.cells (cells (getC a x 6).1) 28 (0, 0)) ∧ Kept w w' (gbS g b) := by
  have H := Aside0.mk (And.intro hx (And.intro h (And.intro hb (And.intro hne hlo))))
  obtain ⟨⟨n1, x1_⟩, h1⟩ : ∃ y, scNum x 1 = y := ⟨_, rfl⟩
  have o1 := scNum_ok hx h1
  have lt1 := scNum_lt1 hx h1
  have HG : Aside0 (getC a x 6 = ({ a with sl := n1 }, x1_)) := ⟨by simp only [getC, h1]⟩
  have l1 : (n1 : Int) ≤ 255 := by omega
  have H1 := Aside0.mk (And.intro h1 (And.intro o1 lt1))
  clear lt1
  clear h1 o1
  clear hx h hb hne hlo
  go_enter Try.func33, Try.ntmps33
  go_wp2_with fail
  refine (number_calls b 6 _ (by decide) (by decide)).mono ?_
  rintro e w' ⟨rfl, rfl⟩
  rw [show numP b 6 = some ⟨b, 7, none⟩ from rfl]
  go_wp2_with fail
  refine (number_calls b 6 _ (by decide) (by decide)).mono ?_
  rintro e w' ⟨rfl, rfl⟩
  rw [show numP b 6 = some ⟨b, 7, none⟩ from rfl]
  go_wp2_with fail
  refine (SNum_at 1 1 rfl H.out.1 H.out.2.1 n1 x1_ H1.out.1).mono ?_
  rintro e v1 ⟨rfl, hS, hK⟩
  have S1 := Aside0.mk (And.intro hS (And.intro (blk_k1 H.out.2.2.1 hK H.out.2.2.2.1) (Kept.k1 (Kept.refl w (gbS g b)) hK)))
  clear hS hK
  have c1 : v1.cell? ⟨b, 7, none⟩ = some (.int .i64 a.sl) := blk_cell S1.out.2.1 7
  have z1 : v1.frozen? ⟨b, 7, none⟩ = false := blk_frozen S1.out.2.1 7
  go_wp2_with fail
  go_end0
  rw [HG.out]
  exact ⟨rfl, (St.set S1.out.1 H.out.2.2.2.1 H.out.2.2.2.2 7 (.int .i64 n1)), (blk_set S1.out.2.1 7 (.int .i64 n1)), (Kept.cb S1.out.2.2 7 (.int .i64 n1))⟩
set_option maxHeartbeats 4000000 in
set_option maxRecDepth 100000 in
theorem get7 (w0 w : World) (g b : Nat) (a : Cmd) (x : Sc) (hx : bytesOk x.1) (h : St w0 w g x.1 x.2) (hb : w.heap[b]? = some (.cells (cells a) 28 (0, 0))) (hne : b ≠ g) (hlo : w0.heap.size ≤ b) :
    Calls Try.prog 33 #[.pointer (some ⟨g, 0, none⟩), .pointer (some ⟨b, 0, none⟩), .int .i32 100] w fun e w' => e = .returned (.tuple #[]) ∧ St w0 w' g (getC a x 7).2.1 (getC a x 7).2.2 ∧ w'.heap[b]? = some (.cells (cells (getC a x 7).1) 28 (0, 0)) ∧ Kept w w' (gbS g b) := by
  have H := Aside0.mk (And.intro hx (And.intro h (And.intro hb (And.intro hne hlo))))
  obtain ⟨⟨n1, x1_⟩, h1⟩ : ∃ y, scNum x 1 = y := ⟨_, rfl⟩
  have o1 := scNum_ok hx h1
  have lt1 := scNum_lt1 hx h1
  have HG : Aside0 (getC a x 7 = ({ a with di := n1 }, x1_)) := ⟨by simp only [getC, h1]⟩
  have l1 : (n1 : Int) ≤ 255 := by omega
  have H1 := Aside0.mk (And.intro h1 (And.intro o1 lt1))
  clear lt1
  clear h1 o1
  clear hx h hb hne hlo
  go_enter Try.func33, Try.ntmps33
  go_wp2_with fail
  refine (number_calls b 7 _ (by decide) (by decide)).mono ?_
  rintro e w' ⟨rfl, rfl⟩
  rw [show numP b 7 = some ⟨b, 8, none⟩ from rfl]
  go_wp2_with fail
  refine (number_calls b 7 _ (by decide) (by decide)).mono ?_
  rintro e w' ⟨rfl, rfl⟩
  rw [show numP b 7 = some ⟨b, 8, none⟩ from rfl]
  go_wp2_with fail
  refine (SNum_at 1 1 rfl H.out.1 H.out.2.1 n1 x1_ H1.out.1).mono ?_
  rintro e v1 ⟨rfl, hS, hK⟩
  have S1 := Aside0.mk (And.intro hS (And.intro (blk_k1 H.out.2.2.1 hK H.out.2.2.2.1) (Kept.k1 (Kept.refl w (gbS g b)) hK)))
  clear hS hK
  have c1 : v1.cell? ⟨b, 8, none⟩ = some (.int .i64 a.di) := blk_cell S1.out.2.1 8
  have z1 : v1.frozen? ⟨b, 8, none⟩ = false := blk_frozen S1.out.2.1 8
  go_wp2_with fail
  go_end0
  rw [HG.out]
  exact ⟨rfl, (St.set S1.out.1 H.out.2.2.2.1 H.out.2.2.2.2 8 (.int .i64 n1)), (blk_set S1.out.2.1 8 (.int .i64 n1)), (Kept.cb S1.out.2.2 8 (.int .i64 n1))⟩
set_option maxHeartbeats 4000000 in
set_option maxRecDepth 100000 in
theorem get8 (w0 w : World) (g b : Nat) (a : Cmd) (x : Sc) (hx : bytesOk x.1) (h : St w0 w g x.1 x.2) (hb : w.heap[b]? = some (.cells (cells a) 28 (0, 0))) (hne : b ≠ g) (hlo : w0.heap.size ≤ b) :
    Calls Try.prog 33 #[.pointer (some ⟨g, 0, none⟩), .pointer (some ⟨b, 0, none⟩), .int .i32 99] w fun e w' => e = .returned (.tuple #[]) ∧ St w0 w' g (getC a x 8).2.1 (getC a x 8).2.2 ∧ w'.heap[b]? = some (.cells (cells (getC a x 8).1) 28 (0, 0)) ∧ Kept w w' (gbS g b) := by
  have H := Aside0.mk (And.intro hx (And.intro h (And.intro hb (And.intro hne hlo))))
  obtain ⟨⟨n1, x1_⟩, h1⟩ : ∃ y, scNum x 1 = y := ⟨_, rfl⟩
  have o1 := scNum_ok hx h1
  have lt1 := scNum_lt1 hx h1
  have HG : Aside0 (getC a x 8 = ({ a with co := n1 }, x1_)) := ⟨by simp only [getC, h1]⟩
  have l1 : (n1 : Int) ≤ 255 := by omega
  have H1 := Aside0.mk (And.intro h1 (And.intro o1 lt1))
  clear lt1
  clear h1 o1
  clear hx h hb hne hlo
  go_enter Try.func33, Try.ntmps33
  go_wp2_with fail
  refine (number_calls b 8 _ (by decide) (by decide)).mono ?_
  rintro e w' ⟨rfl, rfl⟩
  rw [show numP b 8 = some ⟨b, 9, none⟩ from rfl]
  go_wp2_with fail
  refine (number_calls b 8 _ (by decide) (by decide)).mono ?_
  rintro e w' ⟨rfl, rfl⟩
  rw [show numP b 8 = some ⟨b, 9, none⟩ from rfl]
  go_wp2_with fail
  refine (SNum_at 1 1 rfl H.out.1 H.out.2.1 n1 x1_ H1.out.1).mono ?_
  rintro e v1 ⟨rfl, hS, hK⟩
  have S1 := Aside0.mk (And.intro hS (And.intro (blk_k1 H.out.2.2.1 hK H.out.2.2.2.1) (Kept.k1 (Kept.refl w (gbS g b)) hK)))
  clear hS hK
  have c1 : v1.cell? ⟨b, 9, none⟩ = some (.int .i64 a.co) := blk_cell S1.out.2.1 9
  have z1 : v1.frozen? ⟨b, 9, none⟩ = false := blk_frozen S1.out.2.1 9
  go_wp2_with fail
  go_end0
  rw [HG.out]
  exact ⟨rfl, (St.set S1.out.1 H.out.2.2.2.1 H.out.2.2.2.2 9 (.int .i64 n1)), (blk_set S1.out.2.1 9 (.int .i64 n1)), (Kept.cb S1.out.2.2 9 (.int .i64 n1))⟩
set_option maxHeartbeats 4000000 in
set_option maxRecDepth 100000 in
theorem get9 (w0 w : World) (g b : Nat) (a : Cmd) (x : Sc) (hx : bytesOk x.1) (h : St w0 w g x.1 x.2) (hb : w.heap[b]? = some (.cells (cells a) 28 (0, 0))) (hne : b ≠ g) (hlo : w0.heap.size ≤ b) :
    Calls Try.prog 33 #[.pointer (some ⟨g, 0, none⟩), .pointer (some ⟨b, 0, none⟩), .int .i32 97] w fun e w' => e = .returned (.tuple #[]) ∧ St w0 w' g (getC a x 9).2.1 (getC a x 9).2.2 ∧ w'.heap[b]? = some (.cells (cells (getC a x 9).1) 28 (0, 0)) ∧ Kept w w' (gbS g b) := by
  have H := Aside0.mk (And.intro hx (And.intro h (And.intro hb (And.intro hne hlo))))
  obtain ⟨⟨n1, x1_⟩, h1⟩ : ∃ y, scNum x 8 = y := ⟨_, rfl⟩
  have o1 := scNum_ok hx h1
  have HG : Aside0 (getC a x 9 = ({ a with am := n1 }, x1_)) := ⟨by simp only [getC, h1]⟩
  have H1 := Aside0.mk (And.intro h1 o1)
  clear h1 o1
  clear hx h hb hne hlo
  go_enter Try.func33, Try.ntmps33
  go_wp2_with fail
  refine (number_calls b 9 _ (by decide) (by decide)).mono ?_
  rintro e w' ⟨rfl, rfl⟩
  rw [show numP b 9 = none from rfl]
  go_wp2_with fail
  refine (amount_calls b 9 _ (by decide) (by decide)).mono ?_
  rintro e w' ⟨rfl, rfl⟩
  rw [show amoP b 9 = some ⟨b, 10, none⟩ from rfl]
  go_wp2_with fail
  refine (amount_calls b 9 _ (by decide) (by decide)).mono ?_
  rintro e w' ⟨rfl, rfl⟩
  rw [show amoP b 9 = some ⟨b, 10, none⟩ from rfl]
  go_wp2_with fail
  refine (SNum_at 8 8 rfl H.out.1 H.out.2.1 n1 x1_ H1.out.1).mono ?_
  rintro e v1 ⟨rfl, hS, hK⟩
  have S1 := Aside0.mk (And.intro hS (And.intro (blk_k1 H.out.2.2.1 hK H.out.2.2.2.1) (Kept.k1 (Kept.refl w (gbS g b)) hK)))
  clear hS hK
  have c1 : v1.cell? ⟨b, 10, none⟩ = some (.int .u64 a.am) := blk_cell S1.out.2.1 10
  have z1 : v1.frozen? ⟨b, 10, none⟩ = false := blk_frozen S1.out.2.1 10
  go_wp2_with fail
  go_end0
  rw [HG.out]
  exact ⟨rfl, (St.set S1.out.1 H.out.2.2.2.1 H.out.2.2.2.2 10 (.int .u64 n1)), (blk_set S1.out.2.1 10 (.int .u64 n1)), (Kept.cb S1.out.2.2 10 (.int .u64 n1))⟩
set_option maxHeartbeats 4000000 in
set_option maxRecDepth 100000 in
theorem get10 (w0 w : World) (g b : Nat) (a : Cmd) (x : Sc) (hx : bytesOk x.1) (h : St w0 w g x.1 x.2) (hb : w.heap[b]? = some (.cells (cells a) 28 (0, 0))) (hne : b ≠ g) (hlo : w0.heap.size ≤ b) :
    Calls Try.prog 33 #[.pointer (some ⟨g, 0, none⟩), .pointer (some ⟨b, 0, none⟩), .int .i32 103] w fun e w' => e = .returned (.tuple #[]) ∧ St w0 w' g (getC a x 10).2.1 (getC a x 10).2.2 ∧ w'.heap[b]? = some (.cells (cells (getC a x 10).1) 28 (0, 0)) ∧ Kept w w' (gbS g b) := by
  have H := Aside0.mk (And.intro hx (And.intro h (And.intro hb (And.intro hne hlo))))
  obtain ⟨⟨n1, x1_⟩, h1⟩ : ∃ y, scNum x 1 = y := ⟨_, rfl⟩
  have o1 := scNum_ok hx h1
  have lt1 := scNum_lt1 hx h1
  obtain ⟨⟨n2, x2_⟩, h2⟩ : ∃ y, scNum x1_ 8 = y := ⟨_, rfl⟩
  have o2 := scNum_ok o1 h2
  obtain ⟨⟨n3, x3_⟩, h3⟩ : ∃ y, scNum x2_ 1 = y := ⟨_, rfl⟩
  have o3 := scNum_ok o2 h3
  have lt3 := scNum_lt1 o2 h3
  have HG : Aside0 (getC a x 10 = ({ a with gc := n1, ga := n2, gi := itemI n3 }, x3_)) := ⟨by simp only [getC, h1, h2, h3]⟩
  have l1 : (n1 : Int) ≤ 255 := by omega
  have H1 := Aside0.mk (And.intro h1 (And.intro o1 lt1))
  clear lt1
  clear h1 o1
  have H2 := Aside0.mk (And.intro h2 o2)
  clear h2 o2
  have l3 : (n3 : Int) ≤ 255 := by omega
  have H3 := Aside0.mk (And.intro h3 (And.intro o3 lt3))
  clear lt3
  clear h3 o3
  clear hx h hb hne hlo
  go_enter Try.func33, Try.ntmps33
  go_wp2_with fail
  refine (number_calls b 10 _ (by decide) (by decide)).mono ?_
  rintro e w' ⟨rfl, rfl⟩
  rw [show numP b 10 = none from rfl]
  go_wp2_with fail
  refine (amount_calls b 10 _ (by decide) (by decide)).mono ?_
  rintro e w' ⟨rfl, rfl⟩
  rw [show amoP b 10 = none from rfl]
  go_wp2_with fail
  refine (part_calls b 10 _ (by decide) (by decide)).mono ?_
  rintro e w' ⟨rfl, rfl⟩
  rw [show parP b 10 = some ⟨b, 11, none⟩ from rfl]
  go_wp2_with fail
  refine (part_calls b 10 _ (by decide) (by decide)).mono ?_
  rintro e w' ⟨rfl, rfl⟩
  rw [show parP b 10 = some ⟨b, 11, none⟩ from rfl]
  go_wp2_with fail
  refine (SNum_at 1 1 rfl H.out.1 H.out.2.1 n1 x1_ H1.out.1).mono ?_
  rintro e v1 ⟨rfl, hS, hK⟩
  have S1 := Aside0.mk (And.intro hS (And.intro (blk_k1 H.out.2.2.1 hK H.out.2.2.2.1) (Kept.k1 (Kept.refl w (gbS g b)) hK)))
  clear hS hK
  have c1 : v1.cell? ⟨b, 11, none⟩ = some (.int .i64 a.gc) := blk_cell S1.out.2.1 11
  have z1 : v1.frozen? ⟨b, 11, none⟩ = false := blk_frozen S1.out.2.1 11
  go_wp2_with fail
  have T1 := Aside0.mk (And.intro (St.set S1.out.1 H.out.2.2.2.1 H.out.2.2.2.2 11 (.int .i64 n1)) (And.intro (blk_set S1.out.2.1 11 (.int .i64 n1)) (Kept.cb S1.out.2.2 11 (.int .i64 n1))))
  obtain ⟨u1, hu1⟩ : ∃ u, v1.setCell ⟨b, 11, none⟩ (.int .i64 n1) = u := ⟨_, rfl⟩
  rw [hu1] at T1 ⊢
  clear hu1 c1 z1
  refine (SNum_at 8 8 rfl H1.out.2.1 T1.out.1 n2 x2_ H2.out.1).mono ?_
  rintro e v2 ⟨rfl, hS, hK⟩
  have S2 := Aside0.mk (And.intro hS (And.intro (blk_k1 T1.out.2.1 hK H.out.2.2.2.1) (Kept.k1 T1.out.2.2 hK)))
  clear hS hK
  have c2 : v2.cell? ⟨b, 12, none⟩ = some (.int .u64 a.ga) := blk_cell S2.out.2.1 12
  have z2 : v2.frozen? ⟨b, 12, none⟩ = false := blk_frozen S2.out.2.1 12
  go_wp2_with fail
  have T2 := Aside0.mk (And.intro (St.set S2.out.1 H.out.2.2.2.1 H.out.2.2.2.2 12 (.int .u64 n2)) (And.intro (blk_set S2.out.2.1 12 (.int .u64 n2)) (Kept.cb S2.out.2.2 12 (.int .u64 n2))))
  obtain ⟨u2, hu2⟩ : ∃ u, v2.setCell ⟨b, 12, none⟩ (.int .u64 n2) = u := ⟨_, rfl⟩
  rw [hu2] at T2 ⊢
  clear hu2 c2 z2
  refine (SNum_at 1 1 rfl H2.out.2 T2.out.1 n3 x3_ H3.out.1).mono ?_
  rintro e v3 ⟨rfl, hS, hK⟩
  have S3 := Aside0.mk (And.intro hS (And.intro (blk_k1 T2.out.2.1 hK H.out.2.2.2.1) (Kept.k1 T2.out.2.2 hK)))
  clear hS hK
  have c3 : v3.cell? ⟨b, 13, none⟩ = some (.int .i64 a.gi) := blk_cell S3.out.2.1 13
  have z3 : v3.frozen? ⟨b, 13, none⟩ = false := blk_frozen S3.out.2.1 13
  go_wp2_with fail
  refine (item_calls n3 (by have := H3.out.2.2; omega) _).mono ?_
  rintro e w' ⟨rfl, rfl⟩
  go_wp2_with fail
  go_end0
  rw [HG.out]
  exact ⟨rfl, (St.set S3.out.1 H.out.2.2.2.1 H.out.2.2.2.2 13 (.int .i64 (itemI n3))), (blk_set S3.out.2.1 13 (.int .i64 (itemI n3))), (Kept.cb S3.out.2.2 13 (.int .i64 (itemI n3)))⟩
set_option maxHeartbeats 4000000 in
set_option maxRecDepth 100000 in
theorem get11 (w0 w : World) (g b : Nat) (a : Cmd) (x : Sc) (hx : bytesOk x.1) (h : St w0 w g x.1 x.2) (hb : w.heap[b]? = some (.cells (cells a) 28 (0, 0))) (hne : b ≠ g) (hlo : w0.heap.size ≤ b) :
    Calls Try.prog 33 #[.pointer (some ⟨g, 0, none⟩), .pointer (some ⟨b, 0, none⟩), .int .i32 118] w fun e w' => e = .returned (.tuple #[]) ∧ St w0 w' g (getC a x 11).2.1 (getC a x 11).2.2 ∧ w'.heap[b]? = some (.cells (cells (getC a x 11).1) 28 (0, 0)) ∧ Kept w w' (gbS g b) := by
  have H := Aside0.mk (And.intro hx (And.intro h (And.intro hb (And.intro hne hlo))))
  obtain ⟨⟨n1, x1_⟩, h1⟩ : ∃ y, scNum x 1 = y := ⟨_, rfl⟩
  have o1 := scNum_ok hx h1
  have lt1 := scNum_lt1 hx h1
  obtain ⟨⟨n2, x2_⟩, h2⟩ : ∃ y, scNum x1_ 8 = y := ⟨_, rfl⟩
  have o2 := scNum_ok o1 h2
  obtain ⟨⟨n3, x3_⟩, h3⟩ : ∃ y, scNum x2_ 1 = y := ⟨_, rfl⟩
  have o3 := scNum_ok o2 h3
  have lt3 := scNum_lt1 o2 h3
  have HG : Aside0 (getC a x 11 = ({ a with wc := n1, wa := n2, wi := itemI n3 }, x3_)) := ⟨by simp only [getC, h1, h2, h3]⟩
  have l1 : (n1 : Int) ≤ 255 := by omega
  have H1 := Aside0.mk (And.intro h1 (And.intro o1 lt1))
  clear lt1
  clear h1 o1
  have H2 := Aside0.mk (And.intro h2 o2)
  clear h2 o2
  have l3 : (n3 : Int) ≤ 255 := by omega
  have H3 := Aside0.mk (And.intro h3 (And.intro o3 lt3))
  clear lt3
  clear h3 o3
  clear hx h hb hne hlo
  go_enter Try.func33, Try.ntmps33
  go_wp2_with fail
  refine (number_calls b 11 _ (by decide) (by decide)).mono ?_
  rintro e w' ⟨rfl, rfl⟩
  rw [show numP b 11 = none from rfl]
  go_wp2_with fail
  refine (amount_calls b 11 _ (by decide) (by decide)).mono ?_
  rintro e w' ⟨rfl, rfl⟩
  rw [show amoP b 11 = none from rfl]
  go_wp2_with fail
  refine (part_calls b 11 _ (by decide) (by decide)).mono ?_
  rintro e w' ⟨rfl, rfl⟩
  rw [show parP b 11 = some ⟨b, 14, none⟩ from rfl]
  go_wp2_with fail
  refine (part_calls b 11 _ (by decide) (by decide)).mono ?_
  rintro e w' ⟨rfl, rfl⟩
  rw [show parP b 11 = some ⟨b, 14, none⟩ from rfl]
  go_wp2_with fail
  refine (SNum_at 1 1 rfl H.out.1 H.out.2.1 n1 x1_ H1.out.1).mono ?_
  rintro e v1 ⟨rfl, hS, hK⟩
  have S1 := Aside0.mk (And.intro hS (And.intro (blk_k1 H.out.2.2.1 hK H.out.2.2.2.1) (Kept.k1 (Kept.refl w (gbS g b)) hK)))
  clear hS hK
  have c1 : v1.cell? ⟨b, 14, none⟩ = some (.int .i64 a.wc) := blk_cell S1.out.2.1 14
  have z1 : v1.frozen? ⟨b, 14, none⟩ = false := blk_frozen S1.out.2.1 14
  go_wp2_with fail
  have T1 := Aside0.mk (And.intro (St.set S1.out.1 H.out.2.2.2.1 H.out.2.2.2.2 14 (.int .i64 n1)) (And.intro (blk_set S1.out.2.1 14 (.int .i64 n1)) (Kept.cb S1.out.2.2 14 (.int .i64 n1))))
  obtain ⟨u1, hu1⟩ : ∃ u, v1.setCell ⟨b, 14, none⟩ (.int .i64 n1) = u := ⟨_, rfl⟩
  rw [hu1] at T1 ⊢
  clear hu1 c1 z1
  refine (SNum_at 8 8 rfl H1.out.2.1 T1.out.1 n2 x2_ H2.out.1).mono ?_
  rintro e v2 ⟨rfl, hS, hK⟩
  have S2 := Aside0.mk (And.intro hS (And.intro (blk_k1 T1.out.2.1 hK H.out.2.2.2.1) (Kept.k1 T1.out.2.2 hK)))
  clear hS hK
  have c2 : v2.cell? ⟨b, 15, none⟩ = some (.int .u64 a.wa) := blk_cell S2.out.2.1 15
  have z2 : v2.frozen? ⟨b, 15, none⟩ = false := blk_frozen S2.out.2.1 15
  go_wp2_with fail
  have T2 := Aside0.mk (And.intro (St.set S2.out.1 H.out.2.2.2.1 H.out.2.2.2.2 15 (.int .u64 n2)) (And.intro (blk_set S2.out.2.1 15 (.int .u64 n2)) (Kept.cb S2.out.2.2 15 (.int .u64 n2))))
  obtain ⟨u2, hu2⟩ : ∃ u, v2.setCell ⟨b, 15, none⟩ (.int .u64 n2) = u := ⟨_, rfl⟩
  rw [hu2] at T2 ⊢
  clear hu2 c2 z2
  refine (SNum_at 1 1 rfl H2.out.2 T2.out.1 n3 x3_ H3.out.1).mono ?_
  rintro e v3 ⟨rfl, hS, hK⟩
  have S3 := Aside0.mk (And.intro hS (And.intro (blk_k1 T2.out.2.1 hK H.out.2.2.2.1) (Kept.k1 T2.out.2.2 hK)))
  clear hS hK
  have c3 : v3.cell? ⟨b, 16, none⟩ = some (.int .i64 a.wi) := blk_cell S3.out.2.1 16
  have z3 : v3.frozen? ⟨b, 16, none⟩ = false := blk_frozen S3.out.2.1 16
  go_wp2_with fail
  refine (item_calls n3 (by have := H3.out.2.2; omega) _).mono ?_
  rintro e w' ⟨rfl, rfl⟩
  go_wp2_with fail
  go_end0
  rw [HG.out]
  exact ⟨rfl, (St.set S3.out.1 H.out.2.2.2.1 H.out.2.2.2.2 16 (.int .i64 (itemI n3))), (blk_set S3.out.2.1 16 (.int .i64 (itemI n3))), (Kept.cb S3.out.2.2 16 (.int .i64 (itemI n3)))⟩
set_option maxHeartbeats 4000000 in
set_option maxRecDepth 100000 in
theorem get12 (w0 w : World) (g b : Nat) (a : Cmd) (x : Sc) (hx : bytesOk x.1) (h : St w0 w g x.1 x.2) (hb : w.heap[b]? = some (.cells (cells a) 28 (0, 0))) (hne : b ≠ g) (hlo : w0.heap.size ≤ b) :
    Calls Try.prog 33 #[.pointer (some ⟨g, 0, none⟩), .pointer (some ⟨b, 0, none⟩), .int .i32 105] w fun e w' => e = .returned (.tuple #[]) ∧ St w0 w' g (getC a x 12).2.1 (getC a x 12).2.2 ∧ w'.heap[b]? = some (.cells (cells (getC a x 12).1) 28 (0, 0)) ∧ Kept w w' (gbS g b) := by
  have H := Aside0.mk (And.intro hx (And.intro h (And.intro hb (And.intro hne hlo))))
  obtain ⟨⟨n1, x1_⟩, h1⟩ : ∃ y, scNum x 1 = y := ⟨_, rfl⟩
  have o1 := scNum_ok hx h1
  have lt1 := scNum_lt1 hx h1
  have HG : Aside0 (getC a x 12 = ({ a with si := n1 }, x1_)) := ⟨by simp only [getC, h1]⟩
  have l1 : (n1 : Int) ≤ 255 := by omega
  have H1 := Aside0.mk (And.intro h1 (And.intro o1 lt1))
  clear lt1
  clear h1 o1
  clear hx h hb hne hlo
  go_enter Try.func33, Try.ntmps33
  go_wp2_with fail
  refine (number_calls b 12 _ (by decide) (by decide)).mono ?_
  rintro e w' ⟨rfl, rfl⟩
  rw [show numP b 12 = some ⟨b, 17, none⟩ from rfl]
  go_wp2_with fail
  refine (number_calls b 12 _ (by decide) (by decide)).mono ?_
  rintro e w' ⟨rfl, rfl⟩
  rw [show numP b 12 = some ⟨b, 17, none⟩ from rfl]
  go_wp2_with fail
  refine (SNum_at 1 1 rfl H.out.1 H.out.2.1 n1 x1_ H1.out.1).mono ?_
  rintro e v1 ⟨rfl, hS, hK⟩
  have S1 := Aside0.mk (And.intro hS (And.intro (blk_k1 H.out.2.2.1 hK H.out.2.2.2.1) (Kept.k1 (Kept.refl w (gbS g b)) hK)))
  clear hS hK
  have c1 : v1.cell? ⟨b, 17, none⟩ = some (.int .i64 a.si) := blk_cell S1.out.2.1 17
  have z1 : v1.frozen? ⟨b, 17, none⟩ = false := blk_frozen S1.out.2.1 17
  go_wp2_with fail
  go_end0
  rw [HG.out]
  exact ⟨rfl, (St.set S1.out.1 H.out.2.2.2.1 H.out.2.2.2.2 17 (.int .i64 n1)), (blk_set S1.out.2.1 17 (.int .i64 n1)), (Kept.cb S1.out.2.2 17 (.int .i64 n1))⟩
set_option maxHeartbeats 4000000 in
set_option maxRecDepth 100000 in
theorem get13 (w0 w : World) (g b : Nat) (a : Cmd) (x : Sc) (hx : bytesOk x.1) (h : St w0 w g x.1 x.2) (hb : w.heap[b]? = some (.cells (cells a) 28 (0, 0))) (hne : b ≠ g) (hlo : w0.heap.size ≤ b) :
    Calls Try.prog 33 #[.pointer (some ⟨g, 0, none⟩), .pointer (some ⟨b, 0, none⟩), .int .i32 98] w fun e w' => e = .returned (.tuple #[]) ∧ St w0 w' g (getC a x 13).2.1 (getC a x 13).2.2 ∧ w'.heap[b]? = some (.cells (cells (getC a x 13).1) 28 (0, 0)) ∧ Kept w w' (gbS g b) := by
  have H := Aside0.mk (And.intro hx (And.intro h (And.intro hb (And.intro hne hlo))))
  obtain ⟨⟨n1, x1_⟩, h1⟩ : ∃ y, scNum x 1 = y := ⟨_, rfl⟩
  have o1 := scNum_ok hx h1
  have lt1 := scNum_lt1 hx h1
  have HG : Aside0 (getC a x 13 = ({ a with ba := n1 }, x1_)) := ⟨by simp only [getC, h1]⟩
  have l1 : (n1 : Int) ≤ 255 := by omega
  have H1 := Aside0.mk (And.intro h1 (And.intro o1 lt1))
  clear lt1
  clear h1 o1
  clear hx h hb hne hlo
  go_enter Try.func33, Try.ntmps33
  go_wp2_with fail
  refine (number_calls b 13 _ (by decide) (by decide)).mono ?_
  rintro e w' ⟨rfl, rfl⟩
  rw [show numP b 13 = some ⟨b, 18, none⟩ from rfl]
  go_wp2_with fail
  refine (number_calls b 13 _ (by decide) (by decide)).mono ?_
  rintro e w' ⟨rfl, rfl⟩
  rw [show numP b 13 = some ⟨b, 18, none⟩ from rfl]
  go_wp2_with fail
  refine (SNum_at 1 1 rfl H.out.1 H.out.2.1 n1 x1_ H1.out.1).mono ?_
  rintro e v1 ⟨rfl, hS, hK⟩
  have S1 := Aside0.mk (And.intro hS (And.intro (blk_k1 H.out.2.2.1 hK H.out.2.2.2.1) (Kept.k1 (Kept.refl w (gbS g b)) hK)))
  clear hS hK
  have c1 : v1.cell? ⟨b, 18, none⟩ = some (.int .i64 a.ba) := blk_cell S1.out.2.1 18
  have z1 : v1.frozen? ⟨b, 18, none⟩ = false := blk_frozen S1.out.2.1 18
  go_wp2_with fail
  go_end0
  rw [HG.out]
  exact ⟨rfl, (St.set S1.out.1 H.out.2.2.2.1 H.out.2.2.2.2 18 (.int .i64 n1)), (blk_set S1.out.2.1 18 (.int .i64 n1)), (Kept.cb S1.out.2.2 18 (.int .i64 n1))⟩
set_option maxHeartbeats 4000000 in
set_option maxRecDepth 100000 in
theorem get14 (w0 w : World) (g b : Nat) (a : Cmd) (x : Sc) (hx : bytesOk x.1) (h : St w0 w g x.1 x.2) (hb : w.heap[b]? = some (.cells (cells a) 28 (0, 0))) (hne : b ≠ g) (hlo : w0.heap.size ≤ b) :
    Calls Try.prog 33 #[.pointer (some ⟨g, 0, none⟩), .pointer (some ⟨b, 0, none⟩), .int .i32 113] w fun e w' => e = .returned (.tuple #[]) ∧ St w0 w' g (getC a x 14).2.1 (getC a x 14).2.2 ∧ w'.heap[b]? = some (.cells (cells (getC a x 14).1) 28 (0, 0)) ∧ Kept w w' (gbS g b) := by
  have H := Aside0.mk (And.intro hx (And.intro h (And.intro hb (And.intro hne hlo))))
  obtain ⟨⟨n1, x1_⟩, h1⟩ : ∃ y, scNum x 1 = y := ⟨_, rfl⟩
  have o1 := scNum_ok hx h1
  have lt1 := scNum_lt1 hx h1
  have HG : Aside0 (getC a x 14 = ({ a with qu := n1 }, x1_)) := ⟨by simp only [getC, h1]⟩
  have l1 : (n1 : Int) ≤ 255 := by omega
  have H1 := Aside0.mk (And.intro h1 (And.intro o1 lt1))
  clear lt1
  clear h1 o1
  clear hx h hb hne hlo
  go_enter Try.func33, Try.ntmps33
  go_wp2_with fail
  refine (number_calls b 14 _ (by decide) (by decide)).mono ?_
  rintro e w' ⟨rfl, rfl⟩
  rw [show numP b 14 = some ⟨b, 19, none⟩ from rfl]
  go_wp2_with fail
  refine (number_calls b 14 _ (by decide) (by decide)).mono ?_
  rintro e w' ⟨rfl, rfl⟩
  rw [show numP b 14 = some ⟨b, 19, none⟩ from rfl]
  go_wp2_with fail
  refine (SNum_at 1 1 rfl H.out.1 H.out.2.1 n1 x1_ H1.out.1).mono ?_
  rintro e v1 ⟨rfl, hS, hK⟩
  have S1 := Aside0.mk (And.intro hS (And.intro (blk_k1 H.out.2.2.1 hK H.out.2.2.2.1) (Kept.k1 (Kept.refl w (gbS g b)) hK)))
  clear hS hK
  have c1 : v1.cell? ⟨b, 19, none⟩ = some (.int .i64 a.qu) := blk_cell S1.out.2.1 19
  have z1 : v1.frozen? ⟨b, 19, none⟩ = false := blk_frozen S1.out.2.1 19
  go_wp2_with fail
  go_end0
  rw [HG.out]
  exact ⟨rfl, (St.set S1.out.1 H.out.2.2.2.1 H.out.2.2.2.2 19 (.int .i64 n1)), (blk_set S1.out.2.1 19 (.int .i64 n1)), (Kept.cb S1.out.2.2 19 (.int .i64 n1))⟩
set_option maxHeartbeats 4000000 in
set_option maxRecDepth 100000 in
theorem get15 (w0 w : World) (g b : Nat) (a : Cmd) (x : Sc) (hx : bytesOk x.1) (h : St w0 w g x.1 x.2) (hb : w.heap[b]? = some (.cells (cells a) 28 (0, 0))) (hne : b ≠ g) (hlo : w0.heap.size ≤ b) :
    Calls Try.prog 33 #[.pointer (some ⟨g, 0, none⟩), .pointer (some ⟨b, 0, none⟩), .int .i32 107] w fun e w' => e = .returned (.tuple #[]) ∧ St w0 w' g (getC a x 15).2.1 (getC a x 15).2.2 ∧ w'.heap[b]? = some (.cells (cells (getC a x 15).1) 28 (0, 0)) ∧ Kept w w' (gbS g b) := by
  have H := Aside0.mk (And.intro hx (And.intro h (And.intro hb (And.intro hne hlo))))
  obtain ⟨⟨n1, x1_⟩, h1⟩ : ∃ y, scNum x 8 = y := ⟨_, rfl⟩
  have o1 := scNum_ok hx h1
  have HG : Aside0 (getC a x 15 = ({ a with qt := n1 }, x1_)) := ⟨by simp only [getC, h1]⟩
  have H1 := Aside0.mk (And.intro h1 o1)
  clear h1 o1
  clear hx h hb hne hlo
  go_enter Try.func33, Try.ntmps33
  go_wp2_with fail
  refine (number_calls b 15 _ (by decide) (by decide)).mono ?_
  rintro e w' ⟨rfl, rfl⟩
  rw [show numP b 15 = none from rfl]
  go_wp2_with fail
  refine (amount_calls b 15 _ (by decide) (by decide)).mono ?_
  rintro e w' ⟨rfl, rfl⟩
  rw [show amoP b 15 = some ⟨b, 20, none⟩ from rfl]
  go_wp2_with fail
  refine (amount_calls b 15 _ (by decide) (by decide)).mono ?_
  rintro e w' ⟨rfl, rfl⟩
  rw [show amoP b 15 = some ⟨b, 20, none⟩ from rfl]
  go_wp2_with fail
  refine (SNum_at 8 8 rfl H.out.1 H.out.2.1 n1 x1_ H1.out.1).mono ?_
  rintro e v1 ⟨rfl, hS, hK⟩
  have S1 := Aside0.mk (And.intro hS (And.intro (blk_k1 H.out.2.2.1 hK H.out.2.2.2.1) (Kept.k1 (Kept.refl w (gbS g b)) hK)))
  clear hS hK
  have c1 : v1.cell? ⟨b, 20, none⟩ = some (.int .u64 a.qt) := blk_cell S1.out.2.1 20
  have z1 : v1.frozen? ⟨b, 20, none⟩ = false := blk_frozen S1.out.2.1 20
  go_wp2_with fail
  go_end0
  rw [HG.out]
  exact ⟨rfl, (St.set S1.out.1 H.out.2.2.2.1 H.out.2.2.2.2 20 (.int .u64 n1)), (blk_set S1.out.2.1 20 (.int .u64 n1)), (Kept.cb S1.out.2.2 20 (.int .u64 n1))⟩
set_option maxHeartbeats 4000000 in
set_option maxRecDepth 100000 in
theorem get16 (w0 w : World) (g b : Nat) (a : Cmd) (x : Sc) (hx : bytesOk x.1) (h : St w0 w g x.1 x.2) (hb : w.heap[b]? = some (.cells (cells a) 28 (0, 0))) (hne : b ≠ g) (hlo : w0.heap.size ≤ b) :
    Calls Try.prog 33 #[.pointer (some ⟨g, 0, none⟩), .pointer (some ⟨b, 0, none⟩), .int .i32 112] w fun e w' => e = .returned (.tuple #[]) ∧ St w0 w' g (getC a x 16).2.1 (getC a x 16).2.2 ∧ w'.heap[b]? = some (.cells (cells (getC a x 16).1) 28 (0, 0)) ∧ Kept w w' (gbS g b) := by
  have H := Aside0.mk (And.intro hx (And.intro h (And.intro hb (And.intro hne hlo))))
  obtain ⟨⟨n1, x1_⟩, h1⟩ : ∃ y, scNum x 8 = y := ⟨_, rfl⟩
  have o1 := scNum_ok hx h1
  have HG : Aside0 (getC a x 16 = ({ a with pr := n1 }, x1_)) := ⟨by simp only [getC, h1]⟩
  have H1 := Aside0.mk (And.intro h1 o1)
  clear h1 o1
  clear hx h hb hne hlo
  go_enter Try.func33, Try.ntmps33
  go_wp2_with fail
  refine (number_calls b 16 _ (by decide) (by decide)).mono ?_
  rintro e w' ⟨rfl, rfl⟩
  rw [show numP b 16 = none from rfl]
  go_wp2_with fail
  refine (amount_calls b 16 _ (by decide) (by decide)).mono ?_
  rintro e w' ⟨rfl, rfl⟩
  rw [show amoP b 16 = some ⟨b, 21, none⟩ from rfl]
  go_wp2_with fail
  refine (amount_calls b 16 _ (by decide) (by decide)).mono ?_
  rintro e w' ⟨rfl, rfl⟩
  rw [show amoP b 16 = some ⟨b, 21, none⟩ from rfl]
  go_wp2_with fail
  refine (SNum_at 8 8 rfl H.out.1 H.out.2.1 n1 x1_ H1.out.1).mono ?_
  rintro e v1 ⟨rfl, hS, hK⟩
  have S1 := Aside0.mk (And.intro hS (And.intro (blk_k1 H.out.2.2.1 hK H.out.2.2.2.1) (Kept.k1 (Kept.refl w (gbS g b)) hK)))
  clear hS hK
  have c1 : v1.cell? ⟨b, 21, none⟩ = some (.int .u64 a.pr) := blk_cell S1.out.2.1 21
  have z1 : v1.frozen? ⟨b, 21, none⟩ = false := blk_frozen S1.out.2.1 21
  go_wp2_with fail
  go_end0
  rw [HG.out]
  exact ⟨rfl, (St.set S1.out.1 H.out.2.2.2.1 H.out.2.2.2.2 21 (.int .u64 n1)), (blk_set S1.out.2.1 21 (.int .u64 n1)), (Kept.cb S1.out.2.2 21 (.int .u64 n1))⟩
theorem get_calls (k : Nat) (h1 : 1 ≤ k) (h2 : k ≤ 16) (w0 w : World) (g b : Nat) (a : Cmd) (x : Sc) (hx : bytesOk x.1) (h : St w0 w g x.1 x.2) (hb : w.heap[b]? = some (.cells (cells a) 28 (0, 0))) (hne : b ≠ g) (hlo : w0.heap.size ≤ b) :
    Calls Try.prog 33 #[.pointer (some ⟨g, 0, none⟩), .pointer (some ⟨b, 0, none⟩), .int .i32 (signOf k)] w fun e w' => e = .returned (.tuple #[]) ∧ St w0 w' g (getC a x k).2.1 (getC a x k).2.2 ∧ w'.heap[b]? = some (.cells (cells (getC a x k).1) 28 (0, 0)) ∧ Kept w w' (gbS g b) := by
  have hf : k = 1 ∨ k = 2 ∨ k = 3 ∨ k = 4 ∨ k = 5 ∨ k = 6 ∨ k = 7 ∨ k = 8 ∨ k = 9 ∨ k = 10 ∨ k = 11 ∨ k = 12 ∨ k = 13 ∨ k = 14 ∨ k = 15 ∨ k = 16 := by omega
  clear h1 h2
  rcases hf with rfl | rfl | rfl | rfl | rfl | rfl | rfl | rfl | rfl | rfl | rfl | rfl | rfl | rfl | rfl | rfl
  · exact get1 w0 w g b a x hx h hb hne hlo
  · exact get2 w0 w g b a x hx h hb hne hlo
  · exact get3 w0 w g b a x hx h hb hne hlo
  · exact get4 w0 w g b a x hx h hb hne hlo
  · exact get5 w0 w g b a x hx h hb hne hlo
  · exact get6 w0 w g b a x hx h hb hne hlo
  · exact get7 w0 w g b a x hx h hb hne hlo
  · exact get8 w0 w g b a x hx h hb hne hlo
  · exact get9 w0 w g b a x hx h hb hne hlo
  · exact get10 w0 w g b a x hx h hb hne hlo
  · exact get11 w0 w g b a x hx h hb hne hlo
  · exact get12 w0 w g b a x hx h hb hne hlo
  · exact get13 w0 w g b a x hx h hb hne hlo
  · exact get14 w0 w g b a x hx h hb hne hlo
  · exact get15 w0 w g b a x hx h hb hne hlo
  · exact get16 w0 w g b a x hx h hb hne hlo
end Go.Proofs.Ytfaicipochceeaa.Giv
