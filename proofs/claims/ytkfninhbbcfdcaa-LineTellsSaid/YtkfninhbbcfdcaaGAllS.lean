/- Texts of this session's own, put together (merge.py): rialtoref25.Take. frame.All. rialtoref25.All. rialtolaw10.Same. The contracts in the printer's form. The fixed bytes of alive. rialtolaw25.alive. -/
import Derived.Test.YtkfninhbbcfdcaaGFrm
import Derived.Deep.RegionHeld3
import Derived.BigQuiet
import Derived.Lib.Strings
namespace Go.Proofs.Ytkfninhbbcfdcaa.Giv
open Go.RowKit Go.Proofs.YtkfninhbbcfdcaaW.PrintWords Go.Proofs.YtkfninhbbcfdcaaW.PrintLast Go.Proofs.YtkfninhbbcfdcaaW.PrintMore
set_option linter.unusedVariables false
set_option linter.unusedSimpArgs false

theorem rwrap_at {w : World} {A : Option Addr} {l : List Int} (n c : Nat) (h : Kd.C (Kd.int .u8) w A n l) (hn : n = l.length) (hc : n ≤ c) (hb : bytesOk l) (a : Int) (f : List Int) (e0 : Int) (hf : wrapB l a = f) (he : wrapE l a = e0) :
    Calls Try.prog 14 #[.slice A n c, .int .i64 a] w fun e w' => ∃ v, e = .returned (.tuple #[v, .int .i64 e0]) ∧ Kd.R (Kd.int .u8) 5 w' w.heap.size (fun _ => True) v f ∧ Below w.heap.size w w' := by
  subst hn hf he
  exact rWrap_calls A c l a w h hc hb

set_option maxHeartbeats 4000000 in
set_option maxRecDepth 100000 in
theorem rTake_full (A0 : Option Addr) (c0 L : Nat) (a1 : Int) (w : World) (x : Int) (n : Nat) (hx : x = n) (hn : n < 256) (m : Int) (hm : limI a1 = m) (hlim : ¬ x > m) (hL : n + 3 ≤ L) (hc0 : L ≤ c0)
    (hmx : (L : Int) ≤ 9223372036854775807) (ad : Addr) (hA : A0 = some ad) (hcell : w.cell? ad = some (.int .u8 x))
    (A1 : Option Addr) (hif : (if c0 = 1 then A0 else Option.map (fun x => x.add 1) A0) = A1) (body hd : List Int) (hbody : Kd.C (Kd.int .u8) w A1 n body) (hbl : body.length = n) (hbb : bytesOk body)
    (hhd : Kd.C (Kd.int .u8) w A0 (n + 3) hd) (f : List Int) (hf : wrapB body 255 = f) (he : wrapE body 255 = 0) (b : Bool) (hb : ((strOfNums f).toList == (strOfNums hd).toList) = b) :
    Calls Try.prog 16 #[.slice A0 L c0, .int .i64 a1] w fun e w' => e = .returned (if b then .tuple #[.slice A1 n (c0 - 1), .int .i64 (n + 3), .int .i64 0] else .tuple #[.slice none 0 0, .int .i64 (n + 3), .int .i64 14]) ∧ Below w.heap.size w w' := by
  subst hA
  subst hx
  have e1 : A1 = some ⟨ad.block, ad.off + 1, none⟩ := by rw [← hif, if_neg (by omega)]; rfl
  subst e1
  clear hif
  have HM := Aside0.mk hm
  have HBD := Aside0.mk (And.intro hbody (And.intro hbl hbb))
  have HHD := Aside0.mk hhd
  have HF := Aside0.mk (And.intro hf he)
  have HBB := Aside0.mk hb
  clear hm hbody hbl hbb hhd hf he hb
  have hc1 : n + 1 ≤ c0 := by omega
  have hc3 : n + 3 ≤ c0 := by omega
  go_enter Try.func16, Try.ntmps16
  go_wp2_with fail
  refine (rlimit_calls _ _).mono ?_
  rintro e w1 ⟨rfl, rfl⟩
  rw [HM.out]
  go_wp2_with fail
  refine (rwrap_at n (c0 - 1) HBD.out.1 HBD.out.2.1.symm (by omega) HBD.out.2.2 255 f 0 HF.out.1 HF.out.2).mono ?_
  rintro e w1 ⟨v1, rfl, hR, hB⟩
  obtain ⟨Af, cf, rfl⟩ := Kd.R_slice hR
  have hRd := (Kd.R_reads' hR).2.2
  have c1 := fun (W' : World) (h_ : Below w1.heap.size w1 W') => Kd.C_string (P := Try.prog) (A := Af) (c := cf) Try.underlying22 Try.underlying5 Try.underlying9 (Kd.C_below hRd h_)
  have c2 := fun (W' : World) (h_ : Below w1.heap.size w1 W') => Kd.C_string (P := Try.prog) (A := some ad) (c := c0) Try.underlying22 Try.underlying5 Try.underlying9 (Kd.C_below HHD.out (below_step hB h_))
  have HB := Aside0.mk hB
  clear hR hRd hB
  have hw3 : IntKind.i64.wrap ((n : Int) + 3) = (n : Int) + 3 := by rw [IntKind.wrap_i64]; omega
  have hn3 : ((n : Int) + 3).toNat = n + 3 := by omega
  have hi1 : (0 : Int) ≤ (n : Int) + 3 := by omega
  have hi2 : (n : Int) + 3 ≤ (c0 : Int) := by omega
  cases b with
  | true =>
    go_wp2_with fail
    go_region_held3 (fun w' => Below w1.heap.size w1 w') (first | assumption | exact Below.refl _ _ | exact below_step (by assumption) (by assumption) | exact below_step (by assumption) (Drawn0.below (by assumption)) | exact below_drew (by assumption) | exact below_drew (Below.refl _ _)) (fail)
    rename_i hHeld
    have HH := Aside0.mk hHeld
    clear hHeld c1 c2 hw3 hn3 hi1 hi2
    rw [HBB.out]
    go_wp2_with fail
    go_ret3
    exact ⟨by simp, below_step HB.out HH.out⟩
  | false =>
    go_wp2_with fail
    go_region_held3 (fun w' => Below w1.heap.size w1 w') (first | assumption | exact Below.refl _ _ | exact below_step (by assumption) (by assumption) | exact below_step (by assumption) (Drawn0.below (by assumption)) | exact below_drew (by assumption) | exact below_drew (Below.refl _ _)) (fail)
    rename_i hHeld
    have HH := Aside0.mk hHeld
    clear hHeld c1 c2 hw3 hn3 hi1 hi2
    rw [HBB.out]
    go_wp2_with fail
    go_ret3
    exact ⟨by simp, below_step HB.out HH.out⟩

theorem map_inj : ∀ {a b : List Int}, bytesOk a → bytesOk b → a.map (fun n => UInt8.ofNat n.toNat) = b.map (fun n => UInt8.ofNat n.toNat) → a = b
  | [], [], _, _, _ => rfl
  | [], _ :: _, _, _, h => by simp at h
  | _ :: _, [], _, _, h => by simp at h
  | x :: a, y :: b, ha, hb, h => by
    simp only [List.map_cons, List.cons.injEq] at h
    have hx := ha x (List.mem_cons_self ..)
    have hy := hb y (List.mem_cons_self ..)
    have e : x = y := by
      have := congrArg UInt8.toNat h.1
      simp only [UInt8.toNat_ofNat'] at this
      omega
    rw [e, map_inj (fun z hz => ha z (List.mem_cons_of_mem _ hz)) (fun z hz => hb z (List.mem_cons_of_mem _ hz)) h.2]
theorem str_inj {a b : List Int} (ha : bytesOk a) (hb : bytesOk b) (h : (strOfNums a).toList = (strOfNums b).toList) : a = b := by
  rw [Lib.toList_data, Lib.toList_data] at h
  exact map_inj ha hb h

set_option maxHeartbeats 2000000 in
theorem rTake_nil (A0 : Option Addr) (c0 : Nat) (a1 : Int) (w : World) : Calls Try.prog 16 #[.slice A0 0 c0, .int .i64 a1] w fun e w' => e = .returned (.tuple #[.slice none 0 0, .int .i64 0, .int .i64 12]) ∧ w = w' := by
  go_enter Try.func16, Try.ntmps16
  go_wp2_with fail
  go_ret3
  exact ⟨rfl, rfl⟩
set_option maxHeartbeats 2000000 in
theorem rTake_early (A0 : Option Addr) (c0 L : Nat) (a1 : Int) (w : World) (x : Int) (n : Nat) (hx : x = n) (hn : n < 256) (m : Int) (hm : limI a1 = m) (hL : 1 ≤ L) (hc0 : L ≤ c0)
    (hmx : (L : Int) ≤ 9223372036854775807) (ad : Addr) (hA : A0 = some ad) (hcell : w.cell? ad = some (.int .u8 x)) (h : x > m ∨ L < n + 3) :
    Calls Try.prog 16 #[.slice A0 L c0, .int .i64 a1] w fun e w' => e = .returned (if x > m then .tuple #[.slice none 0 0, .int .i64 1, .int .i64 13] else .tuple #[.slice none 0 0, .int .i64 0, .int .i64 12]) ∧ w = w' := by
  subst hA
  subst hx
  have HM := Aside0.mk hm
  clear hm
  by_cases hgt : (n : Int) > m
  · have HE := Aside0.mk hgt
    clear h
    go_enter Try.func16, Try.ntmps16
    go_wp2_with fail
    refine (rlimit_calls _ _).mono ?_
    rintro e w1 ⟨rfl, rfl⟩
    rw [HM.out]
    go_wp2_with fail
    go_ret3
    first | exact ⟨rfl, rfl⟩ | exact ⟨by rw [if_pos (by have := HE.out; omega)]; rfl, rfl⟩
  · have hs : L < n + 3 := by omega
    have HE := Aside0.mk hgt
    clear h
    go_enter Try.func16, Try.ntmps16
    go_wp2_with fail
    refine (rlimit_calls _ _).mono ?_
    rintro e w1 ⟨rfl, rfl⟩
    rw [HM.out]
    go_wp2_with fail
    go_ret3
    first | exact ⟨rfl, rfl⟩ | exact ⟨by rw [if_neg (by have := HE.out; omega)]; rfl, rfl⟩

theorem ref_Take (A0 : Option Addr) (c0 : Nat) (l : List Int) (a1 : Int) (w0 w : World) (hB0 : Below w0.heap.size w0 w) (hr00 : Kd.C (Kd.int .u8) w0 A0 l.length l) (hc0 : l.length ≤ c0) (hb0 : bytesOk l) :
    Calls Try.prog 16 #[.slice A0 l.length c0, .int .i64 a1] w fun e w' => (∃ A1 c1, e = .returned (.tuple #[.slice A1 (tk l a1).1.length c1, .int .i64 (tk l a1).2.1, .int .i64 (tk l a1).2.2]) ∧ Kd.C (Kd.int .u8) w0 A1 (tk l a1).1.length (tk l a1).1 ∧ (tk l a1).1.length ≤ c1) ∧ Below w.heap.size w w' := by
  have hr0 := Kd.C_below hr00 hB0
  cases l with
  | nil =>
    refine (rTake_nil A0 c0 a1 w).mono ?_
    rintro e w' ⟨rfl, rfl⟩
    exact ⟨⟨none, 0, rfl, C_nil _ _, Nat.le_refl _⟩, Below.refl _ _⟩
  | cons x t =>
    have hx := hb0 x (by simp)
    have ht : bytesOk t := fun y hy => hb0 y (by simp [hy])
    have hmx : (((x :: t).length : Nat) : Int) ≤ 9223372036854775807 := by have := hr0.2.1; omega
    have hxn : x = ((x.toNat : Nat) : Int) := by omega
    have hl1 : (x :: t).length = t.length + 1 := List.length_cons
    obtain ⟨ad, hA, hcell⟩ := Kd.at_int hr0 0 (by omega) (by omega)
    have hcell : w.cell? ad = some (.int .u8 x) := by simpa [rd, Addr.add] using hcell
    by_cases hgt : x > limI a1
    · have e : tk (x :: t) a1 = ([], 1, 13) := by simp only [tk]; rw [if_pos hgt]
      rw [e]
      refine (rTake_early A0 c0 (x :: t).length a1 w x x.toNat hxn (by omega) _ rfl (by omega) hc0 hmx ad hA hcell (.inl hgt)).mono ?_
      rintro e w' ⟨rfl, rfl⟩
      rw [if_pos hgt]
      exact ⟨⟨none, 0, rfl, C_nil _ _, Nat.le_refl _⟩, Below.refl _ _⟩
    · by_cases hsh : t.length < x.toNat + 2
      · have e : tk (x :: t) a1 = ([], 0, 12) := by simp only [tk]; rw [if_neg hgt, if_pos hsh]
        rw [e]
        refine (rTake_early A0 c0 (x :: t).length a1 w x x.toNat hxn (by omega) _ rfl (by omega) hc0 hmx ad hA hcell (.inr (by omega))).mono ?_
        rintro e w' ⟨rfl, rfl⟩
        rw [if_neg hgt]
        exact ⟨⟨none, 0, rfl, C_nil _ _, Nat.le_refl _⟩, Below.refl _ _⟩
      · have hbl : (t.take x.toNat).length = x.toNat := by rw [List.length_take]; omega
        have hbb : bytesOk (t.take x.toNat) := fun y hy => ht y (List.mem_of_mem_take hy)
        have hl2 := (limI_bd a1)
        have hl255 : ¬ (((t.take x.toNat).length : Nat) : Int) > limI 255 := by rw [hbl]; show ¬ ((x.toNat : Nat) : Int) > 255; omega
        have hw : wrapB (t.take x.toNat) 255 = frameB (t.take x.toNat) := if_neg hl255
        have hwe : wrapE (t.take x.toNat) 255 = 0 := if_neg hl255
        obtain ⟨A1, hif⟩ : ∃ A1, (if c0 = 1 then A0 else Option.map (fun x => x.add 1) A0) = A1 := ⟨_, rfl⟩
        have hD := C_drop1 hr0 (m := 1) (c := c0) (by omega) hc0
        rw [hif] at hD
        have hD1 : Kd.C (Kd.int .u8) w A1 t.length t := hD
        have hB := C_take1 hD1 (m := x.toNat) (by omega)
        have hD0 := C_drop1 hr00 (m := 1) (c := c0) (by omega) hc0
        rw [hif] at hD0
        have hD01 : Kd.C (Kd.int .u8) w0 A1 t.length t := hD0
        have hB00 := C_take1 hD01 (m := x.toNat) (by omega)
        have hH := C_take1 hr0 (m := x.toNat + 3) (by omega)
        have hfo : bytesOk (frameB (t.take x.toNat)) := frameB_ok hbb
        have hho : bytesOk ((x :: t).take (x.toNat + 3)) := fun y hy => hb0 y (List.mem_of_mem_take hy)
        have base := fun b hb => rTake_full A0 c0 (x :: t).length a1 w x x.toNat hxn (by omega) _ rfl hgt (by omega) hc0 hmx ad hA hcell A1 hif (t.take x.toNat) _ hB hbl hbb hH _ hw hwe b hb
        by_cases hfr : frameB (t.take x.toNat) = (x :: t).take (x.toNat + 3)
        · have e : tk (x :: t) a1 = (t.take x.toNat, (x.toNat : Int) + 3, 0) := by simp only [tk]; rw [if_neg hgt, if_neg hsh, if_pos hfr]
          rw [e]
          refine (base true (by rw [hfr]; exact beq_self_eq_true _)).mono ?_
          rintro e w' ⟨rfl, hB'⟩
          exact ⟨⟨A1, c0 - 1, by rw [hbl]; rfl, by rw [hbl]; exact hB00, by rw [hbl]; omega⟩, hB'⟩
        · have e : tk (x :: t) a1 = ([], (x.toNat : Int) + 3, 14) := by simp only [tk]; rw [if_neg hgt, if_neg hsh, if_neg hfr]
          rw [e]
          refine (base false (beq_eq_false_iff_ne.2 fun h => hfr (str_inj hfo hho h))).mono ?_
          rintro e w' ⟨rfl, hB'⟩
          exact ⟨⟨none, 0, rfl, C_nil _ _, Nat.le_refl _⟩, hB'⟩
end Go.Proofs.Ytkfninhbbcfdcaa.Giv

namespace Go.Proofs.Ytkfninhbbcfdcaa.Giv
open Go.RowKit Go.Proofs.YtkfninhbbcfdcaaW.PrintWords Go.Proofs.YtkfninhbbcfdcaaW.PrintLast Go.Proofs.YtkfninhbbcfdcaaW.PrintMore
set_option linter.unusedVariables false
set_option linter.unusedSimpArgs false

theorem info22 : (Try.prog.info? 22).map (fun i => (i.zero, i.size, i.bytes)) = some (some (.slice none 0 0), 1, 24) := by kernel_rfl

/-- All frames of bytes, with fuel. -/
def allG : Nat → List Int → Int → List (List Int) × Int
  | 0, _, _ => ([], 0)
  | k + 1, b, a => if b = [] then ([], 0) else if (tk b a).2.2 = 0 then
      (if (allG k (b.drop (tk b a).2.1.toNat) a).2 = 0 then ((tk b a).1 :: (allG k (b.drop (tk b a).2.1.toNat) a).1, 0) else ([], (allG k (b.drop (tk b a).2.1.toNat) a).2))
    else ([], (tk b a).2.2)
def comb (acc : List (List Int)) (r : List (List Int) × Int) : List (List Int) × Int := if r.2 = 0 then (acc ++ r.1, 0) else ([], r.2)
theorem tk_ok {b : List Int} {a : Int} (h : (tk b a).2.2 = 0) : ∃ m : Nat, (tk b a).2.1 = m ∧ 3 ≤ m ∧ m ≤ b.length ∧ (tk b a).1.length + 3 = m := by
  cases b with
  | nil => simp [tk] at h
  | cons x t =>
    simp only [tk] at h ⊢
    split at h
    · simp at h
    · rename_i h1
      split at h
      · simp at h
      · rename_i h2
        split at h
        · rename_i h3
          rw [if_neg h1, if_neg h2, if_pos h3]
          exact ⟨x.toNat + 3, by simp, by omega, by simp; omega, by rw [List.length_take]; omega⟩
        · simp at h
theorem comb_step {acc : List (List Int)} {k : Nat} {b : List Int} {a : Int} {F : List (List Int) × Int} {m : Nat} (hne : b ≠ []) (h0 : (tk b a).2.2 = 0) (hm : (tk b a).2.1 = m) (h : comb acc (allG (k + 1) b a) = F) :
    comb (acc ++ [(tk b a).1]) (allG k (b.drop m) a) = F := by
  rw [← h]
  simp only [allG]
  rw [if_neg hne, if_pos h0, hm, Int.toNat_natCast]
  unfold comb
  by_cases hr : (allG k (b.drop m) a).2 = 0
  · rw [if_pos hr, if_pos hr]; simp
  · rw [if_neg hr, if_neg hr, if_neg hr]
theorem comb_bad {acc : List (List Int)} {k : Nat} {b : List Int} {a : Int} {F : List (List Int) × Int} (hne : b ≠ []) (h0 : (tk b a).2.2 ≠ 0) (h : comb acc (allG (k + 1) b a) = F) : F = ([], (tk b a).2.2) := by
  rw [← h]
  simp only [allG]
  rw [if_neg hne, if_neg h0]
  unfold comb
  rw [if_neg h0]
theorem comb_nil {acc : List (List Int)} {k : Nat} {a : Int} {F : List (List Int) × Int} (h : comb acc (allG k [] a) = F) : F = (acc, 0) := by
  rw [← h]
  cases k <;> simp [allG, comb]

theorem allG_bad (k : Nat) (b : List Int) (a : Int) (h : (allG k b a).2 ≠ 0) : (allG k b a).1 = [] := by
  cases k with
  | zero => rfl
  | succ k =>
    simp only [allG] at h ⊢
    by_cases h1 : b = []
    · rw [if_pos h1]
    · rw [if_neg h1] at h ⊢
      by_cases h2 : (tk b a).2.2 = 0
      · rw [if_pos h2] at h ⊢
        by_cases h3 : (allG k (b.drop (tk b a).2.1.toNat) a).2 = 0
        · rw [if_pos h3] at h; exact absurd rfl h
        · rw [if_neg h3]
      · rw [if_neg h2]
theorem comb_start (k : Nat) (b : List Int) (a : Int) : comb [] (allG k b a) = allG k b a := by
  unfold comb
  by_cases h : (allG k b a).2 = 0
  · rw [if_pos h, List.nil_append, ← h]
  · rw [if_neg h, ← allG_bad k b a h]

set_option maxHeartbeats 8000000 in
set_option maxRecDepth 100000 in
theorem All_calls (A0 : Option Addr) (c0 : Nat) (l : List Int) (a1 : Int) (w : World) (hr0 : Kd.C (Kd.int .u8) w A0 l.length l) (hc0 : l.length ≤ c0) (hb0 : bytesOk l) (hL : l.length * 8 ≤ 140737488355328) :
    Calls Try.prog 17 #[.slice A0 l.length c0, .int .i64 a1] w fun e w' => ∃ v, e = .returned (.tuple #[v, .int .i64 (allG l.length l a1).2]) ∧ Kd.R (Kd.slice 5 (Kd.int .u8)) 22 w' w.heap.size (fun _ => True) v (allG l.length l a1).1 ∧ Below w.heap.size w w' := by
  obtain ⟨F, hF⟩ : ∃ F, allG l.length l a1 = F := ⟨_, rfl⟩
  have HI : Aside0 (comb [] (allG l.length l a1) = F) := ⟨by rw [← hF]; exact comb_start _ _ _⟩
  rw [hF]
  have HL := Aside0.mk hL
  have H0 := Aside0.mk (And.intro hr0 (And.intro hc0 hb0))
  clear hF hr0 hc0 hb0 hL
  go_enter Try.func17, Try.ntmps17
  go_wp2_with fail
  go_step3
  go_wp2_with fail
  go_step3
  go_wp2_with fail
  go_loopg [0, 6] l.length (fun kq v0 v6 w' => ∃ (A : Option Addr) (b : List Int) (c : Nat) (acc : List (List Int)), v0 = .slice A b.length c ∧ b.length ≤ kq ∧ Aside0 (Kd.C (Kd.int .u8) w A b.length b ∧ b.length ≤ c ∧ bytesOk b ∧ acc.length * 3 + b.length ≤ l.length) ∧ Aside0 (Kd.R (Kd.slice 5 (Kd.int .u8)) 22 w' w.heap.size (fun _ => True) v6 acc) ∧ Aside0 (Below w.heap.size w w') ∧ Aside0 (comb acc (allG kq b a1) = F))
  case atStart => exact ⟨_, l, _, [], rfl, Nat.le_refl _, ⟨H0.out.1, H0.out.2.1, H0.out.2.2, by simp⟩, ⟨Kd.R_nil _ _ _ _ _⟩, ⟨Below.refl _ _⟩, HI⟩
  case round =>
    clear HI H0
    obtain ⟨A, b, c, acc, rfl, hk, HS, HR, HB, HI⟩ := hrel
    by_cases hne : b = []
    · subst hne
      have HF := Aside0.mk (comb_nil HI.out)
      clear HI
      go_wp2_with fail
      rw [Exit.noGoto_ret]
      go_ret2
      exact ⟨_, by rw [HF.out]; rfl, by rw [HF.out]; exact HR.out, HB.out⟩
    · have hb1 : 1 ≤ b.length := by cases b; exact absurd rfl hne; simp
      obtain ⟨k, hk1⟩ : ∃ k, gk = k + 1 := ⟨gk - 1, by omega⟩
      subst hk1
      obtain ⟨T, hT⟩ : ∃ T, tk b a1 = T := ⟨_, rfl⟩
      have HT := Aside0.mk hT
      have HNE := Aside0.mk hne
      clear hT hne
      go_wp2_with fail
      refine (frame_Take A c b a1 _ (Kd.C_below HS.out.1 HB.out) HS.out.2.1 HS.out.2.2.1).mono ?_
      rintro e w1 ⟨v1, rfl, hR1, hB1⟩
      rw [HT.out] at hR1
      rw [HT.out]
      obtain ⟨x, n, er⟩ := T
      simp only at hR1 ⊢
      by_cases her : er = 0
      · subst her
        obtain ⟨m, hm, hm3, hml, hmx⟩ := tk_ok (b := b) (a := a1) (by rw [HT.out])
        rw [HT.out] at hm hmx
        simp only at hm hmx
        subst hm
        obtain ⟨Ax, cx, ex⟩ := Kd.R_slice hR1
        subst ex
        obtain ⟨A', hif⟩ : ∃ A', (if c = m then A else Option.map (fun x => x.add m) A) = A' := ⟨_, rfl⟩
        have hD := C_drop1 HS.out.1 hml HS.out.2.1
        rw [hif] at hD
        have HD := Aside0.mk hD
        have HI2 := Aside0.mk (comb_step (m := m) HNE.out (by rw [HT.out]) (by rw [HT.out]) HI.out)
        rw [HT.out] at HI2
        have HX := Aside0.mk (And.intro hm3 (And.intro hml hmx))
        have hmc : m ≤ c := by have := HS.out.2.1; omega
        obtain ⟨A6, c6, e6⟩ := Kd.R_slice HR.out
        subst e6
        have HR2 := Aside0.mk (Kd.R_below HR.out hB1)
        have HP := Aside0.mk (Kd.R_lower (Kd.R_mono (Kd.R_new' hR1 (Kd.R_lt HR.out)) (fun _ hk => hk.2)) HB.out.size)
        have HB2 := Aside0.mk (below_step HB.out hB1)
        clear hD HI hm3 hR1 hB1 HR HB hmx
        go_wp2_with (first
          | ((with_reducible refine gate_builtin (b := .append) (xs := #[.tmp 24, .tmp 26]) rfl ?_); at_builtin; refine Kd.R_append (Kd.slice 5 (Kd.int .u8)) (w0 := w) w.heap.size rfl (.tmp 24) (.tmp 26) 28 22 (.slice none 0 0) 24 rfl Try.underlying28 info22 rfl (by decide) (by decide) (.slice A6 acc.length c6) acc x [.slice Ax x.length cx] (fun _ => True) (fun k => some k ≠ (.slice A6 acc.length c6 : Value).ownBlock) rfl rfl ⟨.slice Ax x.length cx, rfl, HP.out⟩ (fun k hk => ⟨trivial, hk⟩) (fun _ _ => trivial) HR2.out HB2.out HB2.out.size ?aL ?_; (case aL => have := HS.out.2.2.2; have := HL.out; have := HX.out; omega); intro v27 w27 ho hb hg hat; clear HR2 HB2; have HR3 := Aside0.mk ho; have HB3 := Aside0.mk hb; clear ho hb hg hat)
          | fail)
        go_roundg k
        case measure => omega
        case rel =>
          refine ⟨A', b.drop m, c - m, acc ++ [x], by rw [List.length_drop], by rw [List.length_drop]; have := HX.out; omega, ⟨by rw [List.length_drop]; exact HD.out, by rw [List.length_drop]; have := HS.out.2.1; omega, fun y hy => HS.out.2.2.1 y (List.mem_of_mem_drop hy), ?_⟩, HR3, HB3, HI2⟩
          rw [List.length_append, List.length_drop, List.length_singleton]
          have := HS.out.2.2.2
          have := HX.out
          omega
      · have HF := Aside0.mk (comb_bad HNE.out (by rw [HT.out]; exact her) HI.out)
        have her' : (er == 0) = false := by simpa using her
        have HB2 := Aside0.mk (below_step HB.out hB1)
        have HTE : Aside0 ((tk b a1).2.2 = er) := ⟨by rw [HT.out]⟩
        clear HI hR1 hB1 her
        go_wp2_with fail
        rw [Exit.noGoto_ret]
        go_ret2
        exact ⟨_, by rw [HF.out, HTE.out]; rfl, by rw [HF.out]; exact Kd.R_nil _ _ _ _ _, HB2.out⟩
end Go.Proofs.Ytkfninhbbcfdcaa.Giv

namespace Go.Proofs.Ytkfninhbbcfdcaa.Giv
open Go.RowKit Go.Proofs.YtkfninhbbcfdcaaW.PrintWords Go.Proofs.YtkfninhbbcfdcaaW.PrintLast Go.Proofs.YtkfninhbbcfdcaaW.PrintMore
set_option linter.unusedVariables false
set_option linter.unusedSimpArgs false

theorem rtake_at {w0 w : World} (hB0 : Below w0.heap.size w0 w) {A : Option Addr} {l : List Int} (n c : Nat) (h : Kd.C (Kd.int .u8) w0 A n l) (hn : n = l.length) (hc : n ≤ c) (hb : bytesOk l) (a : Int) (x : List Int) (m er : Int) (hT : tk l a = (x, m, er)) :
    Calls Try.prog 16 #[.slice A n c, .int .i64 a] w fun e w' => (∃ A1 c1, e = .returned (.tuple #[.slice A1 x.length c1, .int .i64 m, .int .i64 er]) ∧ Kd.C (Kd.int .u8) w0 A1 x.length x ∧ x.length ≤ c1) ∧ Below w.heap.size w w' := by
  subst hn
  have := ref_Take A c l a w0 w hB0 h hc hb
  rw [hT] at this
  exact this

/-- A row's element: bytes that read in a fixed world. -/
def Rs (w : World) (x : List Int) (cs : List Value) : Prop := ∃ A c, cs = [.slice A x.length c] ∧ x.length ≤ c ∧ Kd.C (Kd.int .u8) w A x.length x

theorem C_back {w w1 : World} {A : Option Addr} {x : List Int} (h : Kd.C (Kd.int .u8) w A x.length x) (hb : Below w.heap.size w w1) : Kd.C (Kd.int .u8) w1 A x.length x := Kd.C_below h hb

set_option maxHeartbeats 8000000 in
set_option maxRecDepth 100000 in
theorem rAll_calls (A0 : Option Addr) (c0 : Nat) (l : List Int) (a1 : Int) (w : World) (hr0 : Kd.C (Kd.int .u8) w A0 l.length l) (hc0 : l.length ≤ c0) (hb0 : bytesOk l) (hL : l.length * 8 ≤ 140737488355328) :
    Calls Try.prog 18 #[.slice A0 l.length c0, .int .i64 a1] w fun e w' => ∃ v, e = .returned (.tuple #[v, .int .i64 (allG l.length l a1).2]) ∧ OwnRow (Rs w) 22 1 w' w.heap.size v (allG l.length l a1).1 ∧ Below w.heap.size w w' := by
  obtain ⟨F, hF⟩ : ∃ F, allG l.length l a1 = F := ⟨_, rfl⟩
  have HI : Aside0 (comb [] (allG l.length (l.drop 0) a1) = F) := ⟨by rw [← hF]; exact comb_start _ _ _⟩
  rw [hF]
  have hlen : (l.length : Int) ≤ 9223372036854775807 := by have := hr0.2.1; omega
  have HL := Aside0.mk hL
  have H0 := Aside0.mk (And.intro hr0 (And.intro hc0 hb0))
  clear hF hr0 hb0 hL
  go_enter Try.func18, Try.ntmps18
  go_wp2_with fail
  go_loopg [6, 7] l.length (fun kq v6 v7 w' => ∃ (p : Nat) (acc : List (List Int)), v7 = .int .i64 p ∧ p ≤ l.length ∧ l.length ≤ p + kq ∧ Aside0 (acc.length * 3 ≤ p) ∧ Aside0 (OwnRow (Rs w) 22 1 w' w.heap.size v6 acc) ∧ Aside0 (Below w.heap.size w w') ∧ Aside0 (comb acc (allG kq (l.drop p) a1) = F))
  case atStart => exact ⟨0, [], rfl, by omega, by omega, ⟨by simp⟩, ⟨OwnRow.none_ _ _ _ _ _⟩, ⟨Below.refl _ _⟩, HI⟩
  case round =>
    clear HI
    obtain ⟨p, acc, rfl, hp, hk, HS, HR, HB, HI⟩ := hrel
    by_cases hlt : p < l.length
    · obtain ⟨k, hk1⟩ : ∃ k, gk = k + 1 := ⟨gk - 1, by omega⟩
      subst hk1
      obtain ⟨x, n, er, hT⟩ : ∃ x n er, tk (l.drop p) a1 = (x, n, er) := ⟨_, _, _, rfl⟩
      have HT := Aside0.mk hT
      have HNE : Aside0 (l.drop p ≠ []) := ⟨fun h => by have := congrArg List.length h; simp only [List.length_drop, List.length_nil] at this; omega⟩
      have hD := C_drop1 H0.out.1 (m := p) (c := c0) hp H0.out.2.1
      rw [if_neg (by omega)] at hD
      have HD := Aside0.mk hD
      have hpc : p ≤ c0 := by omega
      clear hT hD
      have HK := Aside0.mk (And.intro hp hk)
      clear hk
      go_wp2_with fail
      refine (rtake_at HB.out (l := l.drop p) (l.length - p) (c0 - p) HD.out (by rw [List.length_drop]) (by omega) (fun y hy => H0.out.2.2 y (List.mem_of_mem_drop hy)) a1 x n er HT.out).mono ?_
      rintro e w1 ⟨⟨A1, c1, rfl, hC1, hx1⟩, hB1⟩
      have HB2 := Aside0.mk (below_step HB.out hB1)
      have HR2 := Aside0.mk (OwnRow.below HR.out hB1)
      have HX1 := Aside0.mk (show Rs w x [.slice A1 x.length c1] from ⟨A1, c1, rfl, hx1, hC1⟩)
      clear hB1 hC1 hx1 HR HB
      by_cases her : er = 0
      · subst her
        obtain ⟨m, hm, hm3, hml, hmx⟩ := tk_ok (b := l.drop p) (a := a1) (by rw [HT.out])
        rw [HT.out] at hm hmx
        simp only at hm hmx
        subst hm
        have HI2 := Aside0.mk (comb_step (m := m) HNE.out (by rw [HT.out]) (by rw [HT.out]) HI.out)
        rw [HT.out, List.drop_drop] at HI2
        have HX := Aside0.mk (And.intro hm3 (And.intro hml hmx))
        have hpm : (p : Int) + (m : Int) ≤ 9223372036854775807 := by rw [List.length_drop] at hml; omega
        obtain ⟨A6, c6, e6, hc6⟩ := OwnRow.slice_ HR2.out
        subst e6
        clear HI hm3 hmx hml hc6
        go_wp2_with (first
          | ((with_reducible refine gate_builtin (b := .append) (xs := #[.tmp 27, .tmp 29]) rfl ?_); at_builtin; refine OwnRow.append (w0 := w) w.heap.size rfl (.tmp 27) (.tmp 29) 28 22 (.slice none 0 0) 1 24 rfl Try.underlying28 info22 rfl (by decide) (by decide) (.slice A6 acc.length c6) acc x [.slice A1 x.length c1] rfl rfl HX1.out rfl (fun u hu => by rw [List.mem_singleton.1 hu]; rfl) HR2.out HB2.out HB2.out.size ?aL ?_; (case aL => have h1 := HX.out; rw [List.length_drop] at h1; have := HS.out; have := HL.out; have := HK.out; omega); intro v30 w30 ho hb hg hat; clear HR2 HB2; have HR3 := Aside0.mk ho; have HB3 := Aside0.mk hb; clear ho hb hg hat)
          | fail)
        go_roundg k
        case measure => omega
        case rel =>
          have h1 := HX.out
          rw [List.length_drop] at h1
          have h2 := HK.out
          have h3 := HS.out
          exact ⟨p + m, acc ++ [x], by rfl, by omega, by omega, ⟨by rw [List.length_append, List.length_singleton]; omega⟩, HR3, HB3, HI2⟩
      · have HF := Aside0.mk (comb_bad HNE.out (by rw [HT.out]; exact her) HI.out)
        have her' : (er == 0) = false := by simpa using her
        have HTE : Aside0 ((tk (l.drop p) a1).2.2 = er) := ⟨by rw [HT.out]⟩
        clear HI her
        go_wp2_with fail
        try rw [Exit.noGoto_ret]
        go_ret2
        rw [HF.out, HTE.out]
        exact ⟨_, rfl, OwnRow.none_ _ _ _ _ _, HB2.out⟩
    · have e0 : l.drop p = [] := List.drop_eq_nil_of_le (by omega)
      have HF := Aside0.mk (comb_nil (acc := acc) (k := gk) (a := a1) (F := F) (by have h := HI.out; rw [e0] at h; exact h))
      clear HI e0
      go_wp2_with fail
      try rw [Exit.noGoto_ret]
      go_ret2
      rw [HF.out]
      exact ⟨_, rfl, HR.out, HB.out⟩
end Go.Proofs.Ytkfninhbbcfdcaa.Giv

namespace Go.Proofs.Ytkfninhbbcfdcaa.Giv
open Go.RowKit Go.Proofs.YtkfninhbbcfdcaaW.PrintWords Go.Proofs.YtkfninhbbcfdcaaW.PrintLast Go.Proofs.YtkfninhbbcfdcaaW.PrintMore
set_option linter.unusedVariables false
set_option linter.unusedSimpArgs false

def rdL (xs : List (List Int)) (i : Int) : List Int := xs.getD i.toNat []
theorem at_L {w : World} {A : Option Addr} {n : Nat} {xs : List (List Int)} (h : Kd.C (Kd.slice 5 (Kd.int .u8)) w A n xs) (i : Int) (h0 : 0 ≤ i) (h1 : i < n) : ∃ ad A0 c0, A = some ad ∧ w.cell? (ad.add i.toNat) = some (.slice A0 (rdL xs i).length c0) ∧ (rdL xs i).length ≤ c0 ∧ (Kd.int .u8).C w A0 (rdL xs i).length (rdL xs i) := by
  obtain ⟨ad, c, e, _, hK, hc0⟩ := Kd.C_get h ([] : List Int) i h0 h1
  have hc : ∀ j u, c[j]? = some u → w.cell? (ad.add (i.toNat * 1 + j)) = some u := hc0
  obtain ⟨A0, c0, rfl, l0, g0⟩ := hK
  exact ⟨ad, A0, c0, e, by have hq := hc 0 _ rfl; rwa [Nat.mul_one, Nat.add_zero] at hq, l0, g0⟩

set_option maxHeartbeats 8000000 in
set_option maxRecDepth 100000 in
/-- Equal lists are told equal. -/
theorem Same_calls (A0 : Option Addr) (c0 : Nat) (l : List (List Int)) (A1 : Option Addr) (c1 : Nat) (w : World) (h0 : Kd.C (Kd.slice 5 (Kd.int .u8)) w A0 l.length l) (h1 : Kd.C (Kd.slice 5 (Kd.int .u8)) w A1 l.length l) :
    Calls Try.prog 20 #[.slice A0 l.length c0, .slice A1 l.length c1] w fun e w' => e = .returned (.bool true) ∧ Below w.heap.size w w' := by
  have hlen : (l.length : Int) ≤ 9223372036854775807 := by have := h0.2.1; omega
  have H0 := Aside0.mk h0
  have H1 := Aside0.mk h1
  clear h0 h1
  go_enter Try.func20, Try.ntmps20
  go_wp2_with fail
  go_loopg [5] l.length (fun kq v5 w' => ∃ (p : Nat), v5 = .int .i64 p ∧ p + kq = l.length ∧ Aside0 (Below w.heap.size w w'))
  case atStart => exact ⟨0, rfl, by omega, ⟨Below.refl _ _⟩⟩
  case round =>
    obtain ⟨p, rfl, hp, HB⟩ := hrel
    cases gk with
    | zero =>
      have e0 : p = l.length := by omega
      subst e0
      clear hp
      go_wp2_with fail
      try rw [Exit.noGoto_ret]
      go_ret
      exact ⟨rfl, HB.out⟩
    | succ k =>
      have hlt : (p : Int) < l.length := by omega
      have hp0 : (0 : Int) ≤ p := by omega
      obtain ⟨ad, B0, d0, rfl, hx0, hd0, hC0⟩ := at_L H0.out p hp0 hlt
      obtain ⟨ae, B1, d1, rfl, hx1, hd1, hC1⟩ := at_L H1.out p hp0 hlt
      obtain ⟨x, hx⟩ : ∃ x, rdL l p = x := ⟨_, rfl⟩
      rw [hx] at hx0 hd0 hC0 hx1 hd1 hC1
      rw [Int.toNat_natCast] at hx0 hx1
      have hP := Aside0.mk hp
      clear hx hp
      have HC := Aside0.mk (And.intro hC0 hC1)
      have s0 := fun (W' : World) (h_ : Below wr.heap.size wr W') => Kd.C_string (P := Try.prog) (A := B0) (c := d0) Try.underlying22 Try.underlying5 Try.underlying9 (Kd.C_below HC.out.1 (below_step HB.out h_))
      have s1 := fun (W' : World) (h_ : Below wr.heap.size wr W') => Kd.C_string (P := Try.prog) (A := B1) (c := d1) Try.underlying22 Try.underlying5 Try.underlying9 (Kd.C_below HC.out.2 (below_step HB.out h_))
      have HX := Aside0.mk (And.intro hx0 hx1)
      have q0 := fun (W' : World) (h_ : Below wr.heap.size wr W') => pw_cell_below (below_step HB.out h_) HX.out.1
      have q1 := fun (W' : World) (h_ : Below wr.heap.size wr W') => pw_cell_below (below_step HB.out h_) HX.out.2
      clear hC0 hC1 hx0 hx1
      go_wp2_with fail
      go_region_held3 (fun w' => Below wr.heap.size wr w') (first | assumption | exact Below.refl _ _ | exact below_step (by assumption) (by assumption) | exact below_step (by assumption) (Drawn0.below (by assumption)) | exact below_drew (by assumption) | exact below_drew (Below.refl _ _)) (fail)
      rename_i hHeld
      have HB2 := Aside0.mk (below_step HB.out hHeld)
      clear hHeld s0 s1 q0 q1
      go_wp2_with fail
      go_roundg k
      case measure => omega
      case rel => exact ⟨p + 1, by rfl, by have := hP.out; omega, HB2⟩
end Go.Proofs.Ytkfninhbbcfdcaa.Giv

namespace Go.Proofs.Ytkfninhbbcfdcaa.Giv
open Go.RowKit Go.Proofs.YtkfninhbbcfdcaaW.PrintWords Go.Proofs.YtkfninhbbcfdcaaW.PrintLast Go.Proofs.YtkfninhbbcfdcaaW.PrintMore
set_option linter.unusedVariables false
def frame_Wrap.f (l0 : List Int) (a1 : Int) : Option (List Int × Int) := if bytesOk l0 then some (wrapB l0 a1, wrapE l0 a1) else none
theorem frame_Wrap.calls (A0 : Option Addr) (c0 : Nat) (l0 : List Int) (a1 : Int) (r1 : List Int) (r2 : Int) (w : World) (hr0 : Kd.C (Kd.int .u8) w A0 l0.length l0) (hc0 : l0.length ≤ c0) (h : frame_Wrap.f l0 a1 = some (r1, r2)) :
    Calls Try.prog 13 #[.slice A0 l0.length c0, .int .i64 a1] w fun e w' => ∃ v0_ : Value, e = .returned (.tuple #[v0_, .int .i64 r2]) ∧ Kd.R (Kd.int .u8) 5 w' w.heap.size (fun _ => True) v0_ r1 ∧ Below w.heap.size w w' := by
  unfold frame_Wrap.f at h
  split at h
  · rename_i hb
    simp only [Option.some.injEq, Prod.mk.injEq] at h
    obtain ⟨rfl, rfl⟩ := h
    exact Wrap_calls A0 c0 l0 a1 w hr0 hc0 hb
  · cases h
def frame_Take.f (l0 : List Int) (a1 : Int) : Option (List Int × Int × Int) := if bytesOk l0 then some (tk l0 a1) else none
theorem frame_Take.calls (A0 : Option Addr) (c0 : Nat) (l0 : List Int) (a1 : Int) (r1 : List Int) (r2 r3 : Int) (w : World) (hr0 : Kd.C (Kd.int .u8) w A0 l0.length l0) (hc0 : l0.length ≤ c0) (h : frame_Take.f l0 a1 = some (r1, r2, r3)) :
    Calls Try.prog 15 #[.slice A0 l0.length c0, .int .i64 a1] w fun e w' => ∃ v0_ : Value, e = .returned (.tuple #[v0_, .int .i64 r2, .int .i64 r3]) ∧ Kd.R (Kd.int .u8) 5 w' w.heap.size (fun _ => True) v0_ r1 ∧ Below w.heap.size w w' := by
  unfold frame_Take.f at h
  split at h
  · rename_i hb
    have := frame_Take A0 c0 l0 a1 w hr0 hc0 hb
    rw [Option.some.inj h] at this
    exact this
  · cases h
def frame_All.f (l0 : List Int) (a1 : Int) : Option (List (List Int) × Int) := if bytesOk l0 ∧ l0.length * 8 ≤ 140737488355328 then some (allG l0.length l0 a1) else none
theorem frame_All.calls (A0 : Option Addr) (c0 : Nat) (l0 : List Int) (a1 : Int) (r1 : List (List Int)) (r2 : Int) (w : World) (hr0 : Kd.C (Kd.int .u8) w A0 l0.length l0) (hc0 : l0.length ≤ c0) (h : frame_All.f l0 a1 = some (r1, r2)) :
    Calls Try.prog 17 #[.slice A0 l0.length c0, .int .i64 a1] w fun e w' => ∃ v0_ : Value, e = .returned (.tuple #[v0_, .int .i64 r2]) ∧ Kd.R (Kd.slice 5 (Kd.int .u8)) 22 w' w.heap.size (fun _ => True) v0_ r1 ∧ Below w.heap.size w w' := by
  unfold frame_All.f at h
  split at h
  · rename_i hb
    have := All_calls A0 c0 l0 a1 w hr0 hc0 hb.1 hb.2
    rw [Option.some.inj h] at this
    exact this
  · cases h
end Go.Proofs.Ytkfninhbbcfdcaa.Giv

namespace Go.Proofs.Ytkfninhbbcfdcaa.Giv
theorem fr_ab : frameB [97, 98] = [2, 97, 98, 147, 91] := by decide +kernel
theorem wr_ab2 : wrapB [97, 98] 2 = [2, 97, 98, 147, 91] ∧ wrapE [97, 98] 2 = 0 := by decide +kernel
theorem wr_ab1 : wrapB [97, 98] 1 = [] ∧ wrapE [97, 98] 1 = 13 := by decide +kernel
theorem tk_a : tk [2, 97, 98, 147, 91, 9] 2 = ([97, 98], 5, 0) := by decide +kernel
theorem tk_b : tk [2, 97, 98, 147] 2 = ([], 0, 12) := by decide +kernel
theorem tk_c : tk [2, 97, 98, 147, 91] 1 = ([], 1, 13) := by decide +kernel
theorem tk_d : tk [2, 98, 98, 147, 91] 2 = ([], 5, 14) := by decide +kernel
theorem all_ab : allG 10 [2, 97, 98, 147, 91, 2, 97, 98, 147, 91] 2 = ([[97, 98], [97, 98]], 0) := by decide +kernel
end Go.Proofs.Ytkfninhbbcfdcaa.Giv

namespace Go.Proofs.Ytkfninhbbcfdcaa.Giv
open Go.RowKit Go.Proofs.YtkfninhbbcfdcaaW.PrintWords Go.Proofs.YtkfninhbbcfdcaaW.PrintLast Go.Proofs.YtkfninhbbcfdcaaW.PrintMore
set_option linter.unusedVariables false
set_option linter.unusedSimpArgs false

theorem wrap_at {w : World} {A : Option Addr} {l : List Int} (n c : Nat) (h : Kd.C (Kd.int .u8) w A n l) (hn : n = l.length) (hc : n ≤ c) (hb : bytesOk l) (a : Int) (f : List Int) (e0 : Int) (hf : wrapB l a = f ∧ wrapE l a = e0) :
    Calls Try.prog 13 #[.slice A n c, .int .i64 a] w fun e w' => ∃ A1 c1, e = .returned (.tuple #[.slice A1 f.length c1, .int .i64 e0]) ∧ Kd.R (Kd.int .u8) 5 w' w.heap.size (fun _ => True) (.slice A1 f.length c1) f ∧ Below w.heap.size w w' := by
  subst hn
  obtain ⟨rfl, rfl⟩ := hf
  refine (Wrap_calls A c l a w h hc hb).mono ?_
  rintro e w' ⟨v, rfl, hR, hB⟩
  obtain ⟨A1, c1, rfl⟩ := Kd.R_slice hR
  exact ⟨A1, c1, rfl, hR, hB⟩
theorem take_at {w : World} {A : Option Addr} {l : List Int} (n c : Nat) (h : Kd.C (Kd.int .u8) w A n l) (hn : n = l.length) (hc : n ≤ c) (hb : bytesOk l) (a : Int) (x : List Int) (m e0 : Int) (hf : tk l a = (x, m, e0)) :
    Calls Try.prog 15 #[.slice A n c, .int .i64 a] w fun e w' => ∃ A1 c1, e = .returned (.tuple #[.slice A1 x.length c1, .int .i64 m, .int .i64 e0]) ∧ Kd.R (Kd.int .u8) 5 w' w.heap.size (fun _ => True) (.slice A1 x.length c1) x ∧ Below w.heap.size w w' := by
  subst hn
  refine (frame_Take.calls A c l a x m e0 w h hc (by unfold frame_Take.f; rw [if_pos hb, hf])).mono ?_
  rintro e w' ⟨v, rfl, hR, hB⟩
  obtain ⟨A1, c1, rfl⟩ := Kd.R_slice hR
  exact ⟨A1, c1, rfl, hR, hB⟩
theorem ab_ok : bytesOk [97, 98] := by unfold bytesOk; decide

set_option maxHeartbeats 4000000 in
set_option maxRecDepth 100000 in
theorem alive_calls (w : World) : Calls Try.prog 19 #[] w fun e w' => e = .returned (.bool true) ∧ Below w.heap.size w w' := by
  have kc := fun (w : World) (C : Array Value) (n c : Nat) => Lib.run_convert_bytes_const (P := Try.prog) w 22 5 C n c Try.underlying22 Try.underlying5
  go_enter Try.func19, Try.ntmps19
  go_wp2_with fail
  refine (wrap_at (l := [97, 98]) 2 _ (C_new [97, 98] rfl (by decide)) rfl (by decide) ab_ok 2 [2, 97, 98, 147, 91] 0 wr_ab2).mono ?_
  rintro e w1 ⟨A1, c1, rfl, hR1, hB1⟩
  have HR1 := Aside0.mk hR1
  have HB1 := Aside0.mk (below_step (below_alloc (Below.refl w.heap.size w) _) hB1)
  clear hR1 hB1
  go_wp2_with fail
  refine (wrap_at (l := [97, 98]) 2 _ (C_new [97, 98] rfl (by decide)) rfl (by decide) ab_ok 1 [] 13 wr_ab1).mono ?_
  rintro e w2 ⟨A2, c2, rfl, hR2, hB2⟩
  have HC := Aside0.mk (And.intro (Kd.R_reads' (Kd.R_below (Kd.R_alloc HR1.out _) hB2)).2.2 (Kd.R_reads' HR1.out).2.1)
  have HB2 := Aside0.mk (below_step (below_alloc HB1.out _) hB2)
  have HW := Aside0.mk (Below.refl w2.heap.size w2)
  clear hR2 hB2 HR1 HB1
  go_wp2_with (first
    | ((with_reducible refine gate_dst (N := 36) rfl ?_); refine Kd.R_lit (Kd.int .u8) _ 5 ?hg (N := 36) ?hd (xs := ([] : List Int)) (inner := []) (ok := fun _ => True) (okp := fun _ => True) ?hr ?hp (fun _ hk => hk) trivial (Below.refl _ _) (Nat.le_refl _) (by simp) ?_; (case hd => rfl); (case hg => rfl); (case hr => first | (go_simp; done) | (go_simp; rfl)); (case hp => exact (Reps.none _ _)); intro vl wl ho hb hg_ hnew_; clear hg_ hnew_; have HOn := Aside0.mk (Kd.R_lower ho (below_size HW.out)); have HWn := Aside0.mk (below_step HW.out hb); clear HW; have HW := HWn; clear HWn; have HO := HOn; clear HOn; clear hb ho; obtain ⟨AL, cL, eL⟩ := Kd.R_slice HO.out; subst eL)
    | ((with_reducible refine gate_builtin (b := .append) (xs := #[.tmp 36, .tmp 37]) rfl ?_); at_builtin; refine Kd.R_append_rows (Kd.int .u8) (w0 := w2) w2.heap.size rfl (.tmp 36) (.tmp 37) 22 5 (.int .u8 0) 1 rfl Try.underlying22 info5 rfl (by decide) (by omega) (.slice AL 0 cL) ([] : List Int) ([2, 97, 98, 147, 91] : List Int) _ _ _ (fun _ => True) (fun _ => False) rfl rfl ?aO ?aR (fun _ _ h => h) (fun _ h => h.elim) ?aF ?aB ?aS ?aL ?_; (case aR => exact (Kd.C_below HC.out.1 HW.out)); (case aB => exact HW.out); (case aF => exact (fun _ _ => trivial)); (case aO => exact HO.out); (case aS => exact (below_size HW.out)); (case aL => decide); intro va wa ho hb hg hat; clear HO HW; have HW := Aside0.mk hb; have HO := Aside0.mk ho; clear ho hb hg hat; obtain ⟨AL, cL, eL⟩ := Kd.R_slice HO.out; subst eL)
    | ((with_reducible refine gate_dst (N := 39) rfl ?_); refine Kd.R_lit (Kd.int .u8) _ 5 ?hg (N := 39) ?hd (xs := ([9] : List Int)) (inner := [.int .u8 9]) (ok := fun _ => True) (okp := fun _ => True) ?hr ?hp (fun _ hk => hk) trivial (Below.refl _ _) (Nat.le_refl _) (by simp) ?_; (case hd => rfl); (case hg => rfl); (case hr => first | (go_simp; done) | (go_simp; rfl)); (case hp => exact (Reps.one (show Kd.M (Kd.int .u8) _ _ _ (9) [.int .u8 9] from rfl) (Reps.none _ _))); intro vl wl ho hb hg_ hnew_; clear hg_ hnew_; have n0_ := Aside0.mk (Kd.R_elder' HO.out (Kd.R_base ho) hb); have n1_ := Aside0.mk (Kd.R_lower (Kd.R_new' ho (Kd.R_lt HO.out)) (below_size HW.out)); have n2_ := Aside0.mk (below_step HW.out hb); clear HO; clear HW; have HO := n0_; have HP := n1_; have HW := n2_; clear n0_ n1_ n2_; clear hb ho; obtain ⟨AP, cP, eP⟩ := Kd.R_slice HP.out; subst eP)
    | ((with_reducible refine gate_builtin (b := .append) (xs := #[.tmp 38, .tmp 39]) rfl ?_); at_builtin; refine Kd.R_append_rows (Kd.int .u8) (w0 := w2) w2.heap.size rfl (.tmp 38) (.tmp 39) 22 5 (.int .u8 0) 1 rfl Try.underlying22 info5 rfl (by decide) (by omega) (.slice AL 5 cL) ([2, 97, 98, 147, 91] : List Int) ([9] : List Int) _ _ _ (fun k_ => some k_ ≠ (.slice AP 1 cP : Value).ownBlock) (fun _ => False) rfl rfl ?aO ?aR (fun _ _ h => h) (fun _ h => h.elim) ?aF ?aB ?aS ?aL ?_; (case aR => exact (Kd.R_reads' HP.out).2.2); (case aB => exact HW.out); (case aF => exact (fun k_ hk => Kd.fresh' (Kd.R_lt HP.out) k_ hk)); (case aO => exact Kd.R_mono HO.out (fun _ hk => hk.2)); (case aS => exact (below_size HW.out)); (case aL => decide); intro va wa ho hb hg hat; clear HO HW HP; have HW := Aside0.mk hb; have HO := Aside0.mk (Kd.R_mono ho (fun _ _ => trivial) : Kd.R (Kd.int .u8) 5 _ _ (fun _ => True) _ _); clear ho hb hg hat; obtain ⟨AL, cL, eL⟩ := Kd.R_slice HO.out; subst eL)
    | fail)
  refine (take_at (l := [2, 97, 98, 147, 91, 9]) 6 _ (Kd.R_reads' HO.out).2.2 rfl (Kd.R_reads' HO.out).2.1 (by unfold bytesOk; decide) 2 [97, 98] 5 0 tk_a).mono ?_
  rintro e w3 ⟨A3, c3, rfl, hR3, hB3⟩
  have HX := Aside0.mk (Kd.R_reads' hR3).2.2
  have HB3 := Aside0.mk (below_step HB2.out (below_step HW.out hB3))
  have hc5 : 5 ≤ c1 := HC.out.2
  have HCn := Aside0.mk (And.intro (Kd.C_below HC.out.1 (below_step HW.out hB3)) HC.out.2)
  clear hR3 hB3 HW HO HC HB2
  have HC := HCn
  have HW := Aside0.mk (Below.refl w3.heap.size w3)
  clear HCn
  go_wp2_with fail
  refine (take_at (l := [2, 97, 98, 147]) 4 _ (Kd.C_below (C_take1 (m := 4) HC.out.1 (by decide)) HW.out) rfl (by have := HC.out.2; simp at this; omega) (by unfold bytesOk; decide) 2 [] 0 12 tk_b).mono ?_
  rintro e w4 ⟨A4, c4, rfl, hR4, hB4⟩
  have HWn := Aside0.mk (below_step HW.out hB4)
  clear hR4 hB4 HW
  have HW := HWn
  clear HWn
  go_wp2_with fail
  refine (take_at (l := [2, 97, 98, 147, 91]) 5 _ (Kd.C_below HC.out.1 HW.out) rfl HC.out.2 (by unfold bytesOk; decide) 1 [] 1 13 tk_c).mono ?_
  rintro e w5 ⟨A5, c5, rfl, hR5, hB5⟩
  have HWn := Aside0.mk (below_step HW.out hB5)
  clear hR5 hB5 HW
  have HW := HWn
  clear HWn
  go_wp2_with (first
    | ((with_reducible refine gate_dst (N := 58) rfl ?_); refine Kd.R_lit (Kd.int .u8) _ 5 ?hg (N := 58) ?hd (xs := ([] : List Int)) (inner := []) (ok := fun _ => True) (okp := fun _ => True) ?hr ?hp (fun _ hk => hk) trivial (Below.refl _ _) (Nat.le_refl _) (by simp) ?_; (case hd => rfl); (case hg => rfl); (case hr => first | (go_simp; done) | (go_simp; rfl)); (case hp => exact (Reps.none _ _)); intro vl wl ho hb hg_ hnew_; clear hg_ hnew_; have HOn := Aside0.mk (Kd.R_lower ho (below_size HW.out)); have HWn := Aside0.mk (below_step HW.out hb); clear HW; have HW := HWn; clear HWn; have HO := HOn; clear HOn; clear hb ho; obtain ⟨AL, cL, eL⟩ := Kd.R_slice HO.out; subst eL)
    | ((with_reducible refine gate_builtin (b := .append) (xs := #[.tmp 58, .tmp 59]) rfl ?_); at_builtin; refine Kd.R_append_rows (Kd.int .u8) (w0 := w3) w3.heap.size rfl (.tmp 58) (.tmp 59) 22 5 (.int .u8 0) 1 rfl Try.underlying22 info5 rfl (by decide) (by omega) (.slice AL 0 cL) ([] : List Int) ([2, 97, 98, 147, 91] : List Int) _ _ _ (fun _ => True) (fun _ => False) rfl rfl ?aO ?aR (fun _ _ h => h) (fun _ h => h.elim) ?aF ?aB ?aS ?aL ?_; (case aR => exact (Kd.C_below HC.out.1 HW.out)); (case aB => exact HW.out); (case aF => exact (fun _ _ => trivial)); (case aO => exact HO.out); (case aS => exact (below_size HW.out)); (case aL => decide); intro va wa ho hb hg hat; clear HO HW; have HW := Aside0.mk hb; have HO := Aside0.mk ho; clear ho hb hg hat; obtain ⟨AL, cL, eL⟩ := Kd.R_slice HO.out; subst eL)
    | fail)
  obtain ⟨gc, capc, ec, hgc, _, cells, hblk⟩ := Kd.R_form HO.out (by decide)
  injection ec with e1 e2 e3
  subst e1 e3
  obtain ⟨ad, had, hcell⟩ := Kd.at_int (Kd.R_reads' HO.out).2.2 1 (by decide) (by decide)
  injection had with had
  subst had
  have hfr : wa.frozen? ⟨gc, 1, none⟩ = false := blk_frozen hblk 1
  have hcell : wa.cell? ⟨gc, 1, none⟩ = some (.int .u8 97) := hcell
  have HG := Aside0.mk hgc
  have hcp : 5 ≤ cL := (Kd.R_reads' HO.out).2.1
  clear hgc hblk
  go_wp2_with fail
  have HP9 := Kd.R_putn HO.out 1 98
  have HW9 := Aside0.mk (below_set (j := 1) (v := .int .u8 98) HW.out HG.out)
  refine (take_at (l := [2, 98, 98, 147, 91]) 5 _ (Kd.R_reads' HP9).2.2 rfl hcp (by unfold bytesOk; decide) 2 [] 5 14 tk_d).mono ?_
  rintro e w6 ⟨A6, c6, rfl, hR6, hB6⟩
  have HWn := Aside0.mk (below_step HW9.out hB6)
  clear hR6 hB6 HW HW9 HO HP9 hcell hfr
  have HW := HWn
  clear HWn
  go_wp2_with (first
    | ((with_reducible refine gate_dst (N := 73) rfl ?_); refine Kd.R_lit (Kd.int .u8) _ 5 ?hg (N := 73) ?hd (xs := ([] : List Int)) (inner := []) (ok := fun _ => True) (okp := fun _ => True) ?hr ?hp (fun _ hk => hk) trivial (Below.refl _ _) (Nat.le_refl _) (by simp) ?_; (case hd => rfl); (case hg => rfl); (case hr => first | (go_simp; done) | (go_simp; rfl)); (case hp => exact (Reps.none _ _)); intro vl wl ho hb hg_ hnew_; clear hg_ hnew_; have HOn := Aside0.mk (Kd.R_lower ho (below_size HW.out)); have HWn := Aside0.mk (below_step HW.out hb); clear HW; have HW := HWn; clear HWn; have HO := HOn; clear HOn; clear hb ho; obtain ⟨AL, cL, eL⟩ := Kd.R_slice HO.out; subst eL)
    | ((with_reducible refine gate_builtin (b := .append) (xs := #[.tmp 73, .tmp 74]) rfl ?_); at_builtin; refine Kd.R_append_rows (Kd.int .u8) (w0 := w3) w3.heap.size rfl (.tmp 73) (.tmp 74) 22 5 (.int .u8 0) 1 rfl Try.underlying22 info5 rfl (by decide) (by omega) (.slice AL 0 cL) ([] : List Int) ([2, 97, 98, 147, 91] : List Int) _ _ _ (fun _ => True) (fun _ => False) rfl rfl ?aO ?aR (fun _ _ h => h) (fun _ h => h.elim) ?aF ?aB ?aS ?aL ?_; (case aR => exact (Kd.C_below HC.out.1 HW.out)); (case aB => exact HW.out); (case aF => exact (fun _ _ => trivial)); (case aO => exact HO.out); (case aS => exact (below_size HW.out)); (case aL => decide); intro va wa ho hb hg hat; clear HO HW; have HW := Aside0.mk hb; have HO := Aside0.mk ho; clear ho hb hg hat; obtain ⟨AL, cL, eL⟩ := Kd.R_slice HO.out; subst eL)
    | ((with_reducible refine gate_builtin (b := .append) (xs := #[.tmp 75, .tmp 76]) rfl ?_); at_builtin; refine Kd.R_append_rows (Kd.int .u8) (w0 := w3) w3.heap.size rfl (.tmp 75) (.tmp 76) 22 5 (.int .u8 0) 1 rfl Try.underlying22 info5 rfl (by decide) (by omega) (.slice AL 5 cL) ([2, 97, 98, 147, 91] : List Int) ([2, 97, 98, 147, 91] : List Int) _ _ _ (fun _ => True) (fun _ => False) rfl rfl ?aO ?aR (fun _ _ h => h) (fun _ h => h.elim) ?aF ?aB ?aS ?aL ?_; (case aR => exact (Kd.C_below HC.out.1 HW.out)); (case aB => exact HW.out); (case aF => exact (fun _ _ => trivial)); (case aO => exact HO.out); (case aS => exact (below_size HW.out)); (case aL => decide); intro va wa ho hb hg hat; clear HO HW; have HW := Aside0.mk hb; have HO := Aside0.mk ho; clear ho hb hg hat; obtain ⟨AL, cL, eL⟩ := Kd.R_slice HO.out; subst eL)
    | fail)
  refine (frame_All.calls AL cL [2, 97, 98, 147, 91, 2, 97, 98, 147, 91] 2 [[97, 98], [97, 98]] 0 _ (Kd.R_reads' HO.out).2.2 (Kd.R_reads' HO.out).2.1 (by unfold frame_All.f; rw [if_pos ⟨by unfold bytesOk; decide, by decide⟩]; exact congrArg some all_ab)).mono ?_
  rintro e w7 ⟨v7, rfl, hR7, hB7⟩
  obtain ⟨A7, c7, e7⟩ := Kd.R_slice hR7
  subst e7
  have HWn := Aside0.mk (below_step HW.out hB7)
  clear hR7 hB7 HW HO
  have cs0 := Kd.C_string (P := Try.prog) (A := A3) (n := 2) (c := c3) Try.underlying22 Try.underlying5 Try.underlying9 (Kd.C_below (show Kd.C (Kd.int .u8) w3 A3 2 [97, 98] from HX.out) HWn.out)
  rw [show strOfNums [97, 98] = (ByteArray.mk #[97, 98]) from by decide +kernel] at cs0
  go_wp2_with fail
  go_ret
  exact ⟨rfl, below_step HB3.out HWn.out⟩
end Go.Proofs.Ytkfninhbbcfdcaa.Giv
