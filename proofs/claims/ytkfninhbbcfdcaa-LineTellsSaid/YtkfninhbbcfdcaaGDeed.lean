/- Deeds at a line: how they read; the reference's line beside a line. -/
import Derived.Test.YtkfninhbbcfdcaaGRef35b
import Derived.Test.YtkfninhbbcfdcaaGOpen2
namespace Go.Proofs.Ytkfninhbbcfdcaa.Giv
open Go.RowKit Go.Proofs.YtkfninhbbcfdcaaW.PrintWords Go.Proofs.YtkfninhbbcfdcaaW.PrintLast Go.Proofs.YtkfninhbbcfdcaaW.PrintMore Go.Proofs.Ytkfninhbbcfdcaa.PReplyTells Go.ChangeShapes Go.WideShapes
set_option linter.unusedVariables false
set_option linter.unusedSimpArgs false

structure S51 where
  f0 : Int
  f1 : Int
  f2 : List Int
  f3 : S49
def z51 : S51 := ⟨0, 0, [], z49⟩
def k51 : Kd S51 := Kd.iso (Kd.pair (Kd.int .i64) (Kd.pair (Kd.int .i64) (Kd.pair (Kd.slice 5 (Kd.int .u8)) k49))) (fun x : S51 => (x.f0, x.f1, x.f2, x.f3))
theorem k51_open {w : World} {x : S51} {cs : List Value} (h : k51.K w x cs) : ∃ A2 c2 A3 c3, cs = [.int .i64 x.f0, .int .i64 x.f1, .slice A2 x.f2.length c2, .int .i64 x.f3.f0, .int .i64 x.f3.f1, .int .i64 x.f3.f2, .slice A3 x.f3.f3.length c3] ∧
    (x.f2.length ≤ c2 ∧ (Kd.int .u8).C w A2 x.f2.length x.f2) ∧ x.f3.f3.length ≤ c3 ∧ (Kd.int .u8).C w A3 x.f3.f3.length x.f3.f3 := by
  obtain ⟨_, _, rfl, rfl, ⟨_, _, rfl, rfl, ⟨_, _, rfl, ⟨A2, c2, rfl, l2, g2⟩, h3⟩⟩⟩ := h
  obtain ⟨A3, c3, rfl, l3, g3⟩ := k49_open h3
  exact ⟨A2, c2, A3, c3, rfl, ⟨l2, g2⟩, l3, g3⟩
def rd_T51 (xs : List S51) (i : Int) : S51 := xs.getD i.toNat z51
/-- Where a deed lies. -/
structure DeedAt (w : World) (a : Addr) (x : S51) (A2 : Option Addr) (c2 : Nat) (A3 : Option Addr) (c3 : Nat) : Prop where
  h0 : w.cell? a = some (.int .i64 x.f0)
  h1 : w.cell? ⟨a.block, a.off + 1, none⟩ = some (.int .i64 x.f1)
  h2 : w.cell? ⟨a.block, a.off + 2, none⟩ = some (.slice A2 x.f2.length c2)
  h3 : w.cell? ⟨a.block, a.off + 3, none⟩ = some (.int .i64 x.f3.f0)
  h4 : w.cell? ⟨a.block, a.off + 4, none⟩ = some (.int .i64 x.f3.f1)
  h5 : w.cell? ⟨a.block, a.off + 5, none⟩ = some (.int .i64 x.f3.f2)
  h6 : w.cell? ⟨a.block, a.off + 6, none⟩ = some (.slice A3 x.f3.f3.length c3)
  l2 : x.f2.length ≤ c2
  g2 : (Kd.int .u8).C w A2 x.f2.length x.f2
  l3 : x.f3.f3.length ≤ c3
  g3 : (Kd.int .u8).C w A3 x.f3.f3.length x.f3.f3
theorem at_T51 {w : World} {A : Option Addr} {n : Nat} {xs : List S51} (h : Kd.C k51 w A n xs) (i : Int) (h0 : 0 ≤ i) (h1 : i < n) : ∃ ad A2 c2 A3 c3, A = some ad ∧ DeedAt w (ad.add (i.toNat * 7)) (rd_T51 xs i) A2 c2 A3 c3 := by
  obtain ⟨ad, c, e, _, hK, hc0⟩ := Kd.C_get h z51 i h0 h1
  have hc : ∀ j u, c[j]? = some u → w.cell? (ad.add (i.toNat * 7 + j)) = some u := hc0
  obtain ⟨A2, c2, A3, c3, rfl, ⟨l2, g2⟩, l3, g3⟩ := k51_open hK
  exact ⟨ad, A2, c2, A3, c3, e, hc 0 _ rfl, by rw [← add_field _ _ 1 (by omega)]; exact hc 1 _ rfl, by rw [← add_field _ _ 2 (by omega)]; exact hc 2 _ rfl, by rw [← add_field _ _ 3 (by omega)]; exact hc 3 _ rfl,
    by rw [← add_field _ _ 4 (by omega)]; exact hc 4 _ rfl, by rw [← add_field _ _ 5 (by omega)]; exact hc 5 _ rfl, by rw [← add_field _ _ 6 (by omega)]; exact hc 6 _ rfl, l2, g2, l3, g3⟩
theorem opens_deed (w : World) : Opens Try.prog w 51 k51 (fun x => bytesOk x.f2 ∧ bytesOk x.f3.f3) :=
  opens_good (fun x (h : _ ∧ _ ∧ bytesOk x.f2 ∧ bytesOk x.f3.f3) => h.2.2) (opens_iso (fun x : S51 => (x.f0, x.f1, x.f2, x.f3)) (fun q => ⟨q.1, q.2.1, q.2.2.1, q.2.2.2⟩) (fun _ => rfl)
    (opens_struct4 Try.underlying51 (opens_int Try.underlying3 (by kernel_rfl)) (opens_int Try.underlying3 (by kernel_rfl)) (opens_bytes w) (opens_out w) rfl rfl rfl rfl (by kernel_rfl)))
theorem opens_deeds (w : World) : Opens Try.prog w 37 (Kd.slice 51 k51) (fun l => ∀ x ∈ l, bytesOk x.f2 ∧ bytesOk x.f3.f3) := opens_slice Try.underlying37 (by kernel_rfl) (opens_deed w)

/-- The reference's line, in block r, beside a line. -/
abbrev refB (g c r : Nat) (v : Value) (k : Nat) : Prop := k = r ∨ lineB g c v k
structure RSt (w W : World) (g c r : Nat) (v : Value) (Ai : Option Addr) (ci : Nat) (inn : List Int) (ov : Bool) (Ao : Option Addr) (co : Nat) (rest : List S49) : Prop where
  x : W.heap[r]? = some (.cells #[.slice Ai inn.length ci, .bool ov, .slice Ao rest.length co] 47 (0, 0))
  ki : ∀ W', Kept W W' (refB g c r v) → Kd.C (Kd.int .u8) W' Ai inn.length inn
  ko : ∀ W', Kept W W' (refB g c r v) → Kd.C (FO w) W' Ao rest.length rest
  li : inn.length ≤ ci
  lo : rest.length ≤ co
section
variable {w W W1 : World} {g c r b0 : Nat} {v v1 : Value} {Ai Ai1 : Option Addr} {ci ci1 : Nat} {inn inn1 innL : List Int} {ov ov1 ovL : Bool} {Ao Ao1 : Option Addr} {co co1 : Nat} {rest rest1 : List S49} {q : List Value}
theorem RSt.cin (h : RSt w W g c r v Ai ci inn ov Ao co rest) : Kd.C (Kd.int .u8) W Ai inn.length inn := h.ki W (Kept.refl _ _)
theorem RSt.cout (h : RSt w W g c r v Ai ci inn ov Ao co rest) : Kd.C (FO w) W Ao rest.length rest := h.ko W (Kept.refl _ _)
theorem RSt.below (h : RSt w W g c r v Ai ci inn ov Ao co rest) (hb : Below W.heap.size W W1) : RSt w W1 g c r v Ai ci inn ov Ao co rest :=
  ⟨blk_below h.x hb, Kd.C_kept_step h.ki (Kept.of_below hb _), Kd.C_kept_step h.ko (Kept.of_below hb _), h.li, h.lo⟩
theorem LnS.notr (h : LnS W b0 g c v innL ovL q) {cs : Array Value} (hx : W.heap[r]? = some (.cells cs 47 (0, 0))) : ¬ lineB g c v r := by
  rintro (e | e | e)
  · rw [e, h.blk] at hx
    injection hx with hx
    injection hx with _ hx _
    exact absurd hx (by decide)
  · obtain ⟨s, r', hc⟩ := h.chan
    rw [e, hc] at hx
    cases hx
  · exact Kd.R_ne h.row hx (by decide) e
theorem RSt.line (h : RSt w W g c r v Ai ci inn ov Ao co rest) (hl : LnS W b0 g c v innL ovL q) (hk : KeepL W W1 (lineB g c v)) (ho : ∀ j, v1.ownBlock = some j → v.ownBlock = some j ∨ W.heap.size ≤ j) : RSt w W1 g c r v1 Ai ci inn ov Ao co rest := by
  have hk1 : Kept W W1 (refB g c r v) := ⟨hk.kept.1, fun k hlt hn => hk.kept.2 k hlt (fun e => hn (.inr e))⟩
  have hs : ∀ k, refB g c r v1 k → refB g c r v k ∨ W.heap.size ≤ k := by
    rintro k (e | e | e | e)
    · exact .inl (.inl e)
    · exact .inl (.inr (.inl e))
    · exact .inl (.inr (.inr (.inl e)))
    · exact (ho k e.symm).elim (fun e2 => .inl (.inr (.inr (.inr e2.symm)))) .inr
  exact ⟨blk_kept h.x hk.kept (hl.notr h.x), Kd.C_kept_call h.ki hk1 hs, Kd.C_kept_call h.ko hk1 hs, h.li, h.lo⟩
/-- The reference's line is told anew. -/
theorem RSt.put (h : RSt w W g c r v Ai ci inn ov Ao co rest) (ki : ∀ W', Kept W W' (refB g c r v) → Kd.C (Kd.int .u8) W' Ai1 inn1.length inn1) (ko : ∀ W', Kept W W' (refB g c r v) → Kd.C (FO w) W' Ao1 rest1.length rest1)
    (li : inn1.length ≤ ci1) (lo : rest1.length ≤ co1) :
    RSt w (((W.setCell ⟨r, 0, none⟩ (.slice Ai1 inn1.length ci1)).setCell ⟨r, 1, none⟩ (.bool ov1)).setCell ⟨r, 2, none⟩ (.slice Ao1 rest1.length co1)) g c r v Ai1 ci1 inn1 ov1 Ao1 co1 rest1 := by
  have hk : Kept W (((W.setCell ⟨r, 0, none⟩ (.slice Ai1 inn1.length ci1)).setCell ⟨r, 1, none⟩ (.bool ov1)).setCell ⟨r, 2, none⟩ (.slice Ao1 rest1.length co1)) (refB g c r v) :=
    (((Kept.refl W _).setCell (p := ⟨r, 0, none⟩) (.inl (.inl rfl)) _).setCell (p := ⟨r, 1, none⟩) (.inl (.inl rfl)) _).setCell (p := ⟨r, 2, none⟩) (.inl (.inl rfl)) _
  exact ⟨put47 h.x rfl _ _ _, Kd.C_kept_step ki hk, Kd.C_kept_step ko hk, li, lo⟩
theorem LnS.far47 (h : LnS W b0 g c v innL ovL q) {cs : Array Value} (hx : W.heap[r]? = some (.cells cs 47 (0, 0))) (i : Nat) (u : Value) : LnS (W.setCell ⟨r, i, none⟩ u) b0 g c v innL ovL q := by
  have hn := h.notr hx
  obtain ⟨s, r', hc⟩ := h.chan
  refine ⟨blk_far h.blk (p := ⟨r, i, none⟩) (fun e => hn (.inl e.symm)) u, Kd.R_set h.row hx (by decide) i u, ⟨s, r', chan_set hc ⟨r, i, none⟩ (fun e => hn (.inr (.inl e.symm))) u⟩, ?_⟩
  have := h.lo
  simpa [World.setCell] using this
theorem LnS.put47 (h : LnS W b0 g c v innL ovL q) (hx : RSt w W g c r v Ai ci inn ov Ao co rest) (a b d : Value) : LnS (((W.setCell ⟨r, 0, none⟩ a).setCell ⟨r, 1, none⟩ b).setCell ⟨r, 2, none⟩ d) b0 g c v innL ovL q :=
  ((h.far47 hx.x 0 a).far47 (blk_set hx.x 0 a) 1 b).far47 (blk_set (blk_set hx.x 0 a) 1 b) 2 d
/-- A fresh row is apart from the reference's line and the line. -/
theorem LnS.fresh (h : LnS W b0 g c v innL ovL q) (hx : RSt w W g c r v Ai ci inn ov Ao co rest) {α : Type} {d : Kd α} {e n m : Nat} {A : Option Addr} {xs : List α} {ok : Nat → Prop} (hr : d.R e W1 W.heap.size ok (.slice A n m) xs) :
    ∀ W', Kept W1 W' (refB g c r v) → d.C W' A n xs := by
  have hlt := h.lt
  have hr2 := blk_lt hx.x
  refine Kd.C_kept_own (Kd.R_bound hr) (fun k hk e => ?_)
  have h2 := hk.2.1
  rcases e with e | e | e | e
  · omega
  · omega
  · omega
  · have := hlt.2.2 k e.symm; omega
/-- Bytes that are read lie in none of the reference's line's cells. -/
theorem RSt.apart (h : RSt w W g c r v Ai ci inn ov Ao co rest) {A : Option Addr} {n : Nat} {xs : List Int} (hr : Kd.C (Kd.int .u8) W A n xs) : ∀ W', Kept W W' (fun k => k = r) → Kd.C (Kd.int .u8) W' A n xs := by
  intro W' hk
  refine ⟨hr.1, hr.2.1, fun hp => ?_⟩
  obtain ⟨ad, e, hc⟩ := hr.2.2 hp
  refine ⟨ad, e, fun j p hj => ?_⟩
  obtain ⟨cs, h1, h2, h3⟩ := hc j p hj
  refine ⟨cs, h1, h2, fun i u hi => cell_kept (h3 i u hi) hk (fun e2 => ?_)⟩
  have h4 := h3 i u hi
  have hcs : cs = [.int .u8 p] := h2
  subst hcs
  have hu : u = .int .u8 p := by
    cases i with
    | zero => exact (Option.some.inj hi).symm
    | succ i => cases hi
  subst hu
  have e3 : (ad.add (j * (Kd.int .u8).sz + i)).block = r := e2
  revert h4
  unfold World.cell?
  rw [e3, h.x]
  intro h4
  simp at h4
  have h5 := List.mem_of_getElem? h4.2
  simp at h5
/-- All of the state of LineTells' loop. -/
structure TSt (w W : World) (g c r : Nat) (v : Value) (Ai : Option Addr) (ci : Nat) (inn : List Int) (ov : Bool) (Ao : Option Addr) (co : Nat) (rest : List S49) (q : List Value) : Prop where
  below : Below w.heap.size w W
  ln : LnS W w.heap.size g c v inn ov q
  rf : RSt w W g c r v Ai ci inn ov Ao co rest
  qr : QR w rest q
  few : inn.length ≤ 256 ∧ rest.length ≤ 8 ∧ bytesOk inn
  lo : w.heap.size ≤ g ∧ w.heap.size ≤ c ∧ w.heap.size ≤ r
theorem TSt.below1 (h : TSt w W g c r v Ai ci inn ov Ao co rest q) (hb : Below W.heap.size W W1) : TSt w W1 g c r v Ai ci inn ov Ao co rest q :=
  ⟨below_step h.below hb, h.ln.below hb, h.rf.below hb, h.qr, h.few, h.lo⟩
theorem lineB_lo (hl : LnS W w.heap.size g c v innL ovL q) (hg : w.heap.size ≤ g ∧ w.heap.size ≤ c ∧ w.heap.size ≤ r) : ∀ k, lineB g c v k → w.heap.size ≤ k := by
  rintro k (e | e | e)
  · omega
  · omega
  · exact Kd.R_base hl.row k e.symm
theorem TSt.of_put (hB : Below w.heap.size w W) (hl : LnS W w.heap.size g c v inn1 ov1 q) (h : RSt w W g c r v Ai ci inn ov Ao co rest) (hq : QR w rest1 q) (few : inn1.length ≤ 256 ∧ rest1.length ≤ 8 ∧ bytesOk inn1) (lo : w.heap.size ≤ g ∧ w.heap.size ≤ c ∧ w.heap.size ≤ r)
    (ki : ∀ W', Kept W W' (refB g c r v) → Kd.C (Kd.int .u8) W' Ai1 inn1.length inn1) (ko : ∀ W', Kept W W' (refB g c r v) → Kd.C (FO w) W' Ao1 rest1.length rest1) (li : inn1.length ≤ ci1) (lr : rest1.length ≤ co1) :
    TSt w (((W.setCell ⟨r, 0, none⟩ (.slice Ai1 inn1.length ci1)).setCell ⟨r, 1, none⟩ (.bool ov1)).setCell ⟨r, 2, none⟩ (.slice Ao1 rest1.length co1)) g c r v Ai1 ci1 inn1 ov1 Ao1 co1 rest1 q :=
  ⟨((hB.setCell (p := ⟨r, 0, none⟩) lo.2.2 _).setCell (p := ⟨r, 1, none⟩) lo.2.2 _).setCell (p := ⟨r, 2, none⟩) lo.2.2 _, hl.put47 h _ _ _, h.put ki ko li lr, hq, few, lo⟩
/-- A block of another kind is none of the line's. -/
theorem LnS.nott (h : LnS W b0 g c v innL ovL q) {t r2 : Nat} (ht : t ≠ 42 ∧ t ≠ 5) {cs : Array Value} (hx : W.heap[r2]? = some (.cells cs t (0, 0))) : ¬ lineB g c v r2 := by
  rintro (e | e | e)
  · rw [e, h.blk] at hx
    injection hx with hx
    injection hx with _ hx _
    exact ht.1 hx.symm
  · obtain ⟨s, r', hc⟩ := h.chan
    rw [e, hc] at hx
    cases hx
  · exact Kd.R_ne h.row hx (fun e2 => ht.2 e2.symm) e
end
theorem tk_n (b : List Int) (a : Int) : ∃ n : Nat, (tk b a).2.1 = n ∧ n ≤ b.length := by
  cases b with
  | nil => exact ⟨0, rfl, Nat.le_refl _⟩
  | cons x t =>
    have h : tk (x :: t) a = if x > limI a then ([], 1, 13) else if t.length < x.toNat + 2 then ([], 0, 12) else if frameB (t.take x.toNat) = (x :: t).take (x.toNat + 3) then (t.take x.toNat, (x.toNat : Int) + 3, 0) else ([], (x.toNat : Int) + 3, 14) := rfl
    rw [h, List.length_cons]
    by_cases h1 : x > limI a
    · rw [if_pos h1]; exact ⟨1, rfl, by omega⟩
    · rw [if_neg h1]
      by_cases h2 : t.length < x.toNat + 2
      · rw [if_pos h2]; exact ⟨0, rfl, by omega⟩
      · rw [if_neg h2]
        by_cases h3 : frameB (t.take x.toNat) = (x :: t).take (x.toNat + 3)
        · rw [if_pos h3]; exact ⟨x.toNat + 3, rfl, by omega⟩
        · rw [if_neg h3]; exact ⟨x.toNat + 3, rfl, by omega⟩
end Go.Proofs.Ytkfninhbbcfdcaa.Giv
