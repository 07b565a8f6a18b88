/- rialtoref25.Take. -/
import Derived.Test.YtkfninhbbcfdcaaGTake2
import Derived.Deep.RegionHeld3
import Derived.BigQuiet
import Derived.Lib.Strings
namespace Go.Proofs.Ytkfninhbbcfdcaa.Giv
open Go.RowKit Go.Proofs.YtkfninhbbcfdcaaW.PrintWords Go.Proofs.YtkfninhbbcfdcaaW.PrintLast Go.Proofs.YtkfninhbbcfdcaaW.PrintMore
set_option linter.unusedVariables false
set_option linter.unusedSimpArgs false

theorem rwrap_at {w : World} {A : Option Addr} {l : List Int} (n c : Nat) (h : Kd.C (Kd.int .u8) w A n l) (hn : n = l.length) (hc : n ≤ c) (hb : bytesOk l) (a : Int) (f : List Int) (e0 : Int) (hf : wrapB l a = f) (he : wrapE l a = e0) :
    Calls Try.prog 14 #[.slice A n c, .int .i64 a] w fun e w' => ∃ v, e = .returned (.tuple #[v, .int .i64 e0]) ∧ Kd.R (Kd.int .u8) 5 w' w.heap.size (fun _ => True) v f ∧ Below w.heap.size w w' := by
  subst hn hf he
  exact rWrap_calls A c l a w h hc hb

set_option maxHeartbeats 4000000 in
set_option maxRecDepth 100000 in
theorem rTake_full (A0 : Option Addr) (c0 L : Nat) (a1 : Int) (w : World) (x : Int) (n : Nat) (hx : x = n) (hn : n < 256) (m : Int) (hm : limI a1 = m) (hlim : ¬ x > m) (hL : n + 3 ≤ L) (hc0 : L ≤ c0)
    (hmx : (L : Int) ≤ 9223372036854775807) (ad : Addr) (hA : A0 = some ad) (hcell : w.cell? ad = some (.int .u8 x))
    (A1 : Option Addr) (hif : (if c0 = 1 then A0 else Option.map (fun x => x.add 1) A0) = A1) (body hd : List Int) (hbody : Kd.C (Kd.int .u8) w A1 n body) (hbl : body.length = n) (hbb : bytesOk body)
    (hhd : Kd.C (Kd.int .u8) w A0 (n + 3) hd) (f : List Int) (hf : wrapB body 255 = f) (he : wrapE body 255 = 0) (b : Bool) (hb : ((strOfNums f).toList == (strOfNums hd).toList) = b) :
    Calls Try.prog 16 #[.slice A0 L c0, .int .i64 a1] w fun e w' => e = .returned (if b then .tuple #[.slice A1 n (c0 - 1), .int .i64 (n + 3), .int .i64 0] else .tuple #[.slice none 0 0, .int .i64 (n + 3), .int .i64 14]) ∧ Below w.heap.size w w' := by
  subst hA
  subst hx
  have e1 : A1 = some ⟨ad.block, ad.off + 1, none⟩ := by rw [← hif, if_neg (by omega)]; rfl
  subst e1
  clear hif
  have HM := Aside0.mk hm
  have HBD := Aside0.mk (And.intro hbody (And.intro hbl hbb))
  have HHD := Aside0.mk hhd
  have HF := Aside0.mk (And.intro hf he)
  have HBB := Aside0.mk hb
  clear hm hbody hbl hbb hhd hf he hb
  have hc1 : n + 1 ≤ c0 := by omega
  have hc3 : n + 3 ≤ c0 := by omega
  go_enter Try.func16, Try.ntmps16
  go_wp2_with fail
  refine (rlimit_calls _ _).mono ?_
  rintro e w1 ⟨rfl, rfl⟩
  rw [HM.out]
  go_wp2_with fail
  refine (rwrap_at n (c0 - 1) HBD.out.1 HBD.out.2.1.symm (by omega) HBD.out.2.2 255 f 0 HF.out.1 HF.out.2).mono ?_
  rintro e w1 ⟨v1, rfl, hR, hB⟩
  obtain ⟨Af, cf, rfl⟩ := Kd.R_slice hR
  have hRd := (Kd.R_reads' hR).2.2
  have c1 := fun (W' : World) (h_ : Below w1.heap.size w1 W') => Kd.C_string (P := Try.prog) (A := Af) (c := cf) Try.underlying22 Try.underlying5 Try.underlying9 (Kd.C_below hRd h_)
  have c2 := fun (W' : World) (h_ : Below w1.heap.size w1 W') => Kd.C_string (P := Try.prog) (A := some ad) (c := c0) Try.underlying22 Try.underlying5 Try.underlying9 (Kd.C_below HHD.out (below_step hB h_))
  have HB := Aside0.mk hB
  clear hR hRd hB
  have hw3 : IntKind.i64.wrap ((n : Int) + 3) = (n : Int) + 3 := by rw [IntKind.wrap_i64]; omega
  have hn3 : ((n : Int) + 3).toNat = n + 3 := by omega
  have hi1 : (0 : Int) ≤ (n : Int) + 3 := by omega
  have hi2 : (n : Int) + 3 ≤ (c0 : Int) := by omega
  cases b with
  | true =>
    go_wp2_with fail
    go_region_held3 (fun w' => Below w1.heap.size w1 w') (first | assumption | exact Below.refl _ _ | exact below_step (by assumption) (by assumption) | exact below_step (by assumption) (Drawn0.below (by assumption)) | exact below_drew (by assumption) | exact below_drew (Below.refl _ _)) (fail)
    rename_i hHeld
    have HH := Aside0.mk hHeld
    clear hHeld c1 c2 hw3 hn3 hi1 hi2
    rw [HBB.out]
    go_wp2_with fail
    go_ret3
    exact ⟨by simp, below_step HB.out HH.out⟩
  | false =>
    go_wp2_with fail
    go_region_held3 (fun w' => Below w1.heap.size w1 w') (first | assumption | exact Below.refl _ _ | exact below_step (by assumption) (by assumption) | exact below_step (by assumption) (Drawn0.below (by assumption)) | exact below_drew (by assumption) | exact below_drew (Below.refl _ _)) (fail)
    rename_i hHeld
    have HH := Aside0.mk hHeld
    clear hHeld c1 c2 hw3 hn3 hi1 hi2
    rw [HBB.out]
    go_wp2_with fail
    go_ret3
    exact ⟨by simp, below_step HB.out HH.out⟩

theorem map_inj : ∀ {a b : List Int}, bytesOk a → bytesOk b → a.map (fun n => UInt8.ofNat n.toNat) = b.map (fun n => UInt8.ofNat n.toNat) → a = b
  | [], [], _, _, _ => rfl
  | [], _ :: _, _, _, h => by simp at h
  | _ :: _, [], _, _, h => by simp at h
  | x :: a, y :: b, ha, hb, h => by
    simp only [List.map_cons, List.cons.injEq] at h
    have hx := ha x (List.mem_cons_self ..)
    have hy := hb y (List.mem_cons_self ..)
    have e : x = y := by
      have := congrArg UInt8.toNat h.1
      simp only [UInt8.toNat_ofNat'] at this
      omega
    rw [e, map_inj (fun z hz => ha z (List.mem_cons_of_mem _ hz)) (fun z hz => hb z (List.mem_cons_of_mem _ hz)) h.2]
theorem str_inj {a b : List Int} (ha : bytesOk a) (hb : bytesOk b) (h : (strOfNums a).toList = (strOfNums b).toList) : a = b := by
  rw [Lib.toList_data, Lib.toList_data] at h
  exact map_inj ha hb h

set_option maxHeartbeats 2000000 in
theorem rTake_nil (A0 : Option Addr) (c0 : Nat) (a1 : Int) (w : World) : Calls Try.prog 16 #[.slice A0 0 c0, .int .i64 a1] w fun e w' => e = .returned (.tuple #[.slice none 0 0, .int .i64 0, .int .i64 12]) ∧ w = w' := by
  go_enter Try.func16, Try.ntmps16
  go_wp2_with fail
  go_ret3
  exact ⟨rfl, rfl⟩
set_option maxHeartbeats 2000000 in
theorem rTake_early (A0 : Option Addr) (c0 L : Nat) (a1 : Int) (w : World) (x : Int) (n : Nat) (hx : x = n) (hn : n < 256) (m : Int) (hm : limI a1 = m) (hL : 1 ≤ L) (hc0 : L ≤ c0)
    (hmx : (L : Int) ≤ 9223372036854775807) (ad : Addr) (hA : A0 = some ad) (hcell : w.cell? ad = some (.int .u8 x)) (h : x > m ∨ L < n + 3) :
    Calls Try.prog 16 #[.slice A0 L c0, .int .i64 a1] w fun e w' => e = .returned (if x > m then .tuple #[.slice none 0 0, .int .i64 1, .int .i64 13] else .tuple #[.slice none 0 0, .int .i64 0, .int .i64 12]) ∧ w = w' := by
  subst hA
  subst hx
  have HM := Aside0.mk hm
  clear hm
  by_cases hgt : (n : Int) > m
  · have HE := Aside0.mk hgt
    clear h
    go_enter Try.func16, Try.ntmps16
    go_wp2_with fail
    refine (rlimit_calls _ _).mono ?_
    rintro e w1 ⟨rfl, rfl⟩
    rw [HM.out]
    go_wp2_with fail
    go_ret3
    first | exact ⟨rfl, rfl⟩ | exact ⟨by rw [if_pos (by have := HE.out; omega)]; rfl, rfl⟩
  · have hs : L < n + 3 := by omega
    have HE := Aside0.mk hgt
    clear h
    go_enter Try.func16, Try.ntmps16
    go_wp2_with fail
    refine (rlimit_calls _ _).mono ?_
    rintro e w1 ⟨rfl, rfl⟩
    rw [HM.out]
    go_wp2_with fail
    go_ret3
    first | exact ⟨rfl, rfl⟩ | exact ⟨by rw [if_neg (by have := HE.out; omega)]; rfl, rfl⟩

theorem ref_Take (A0 : Option Addr) (c0 : Nat) (l : List Int) (a1 : Int) (w0 w : World) (hB0 : Below w0.heap.size w0 w) (hr00 : Kd.C (Kd.int .u8) w0 A0 l.length l) (hc0 : l.length ≤ c0) (hb0 : bytesOk l) :
    Calls Try.prog 16 #[.slice A0 l.length c0, .int .i64 a1] w fun e w' => (∃ A1 c1, e = .returned (.tuple #[.slice A1 (tk l a1).1.length c1, .int .i64 (tk l a1).2.1, .int .i64 (tk l a1).2.2]) ∧ Kd.C (Kd.int .u8) w0 A1 (tk l a1).1.length (tk l a1).1 ∧ (tk l a1).1.length ≤ c1) ∧ Below w.heap.size w w' := by
  have hr0 := Kd.C_below hr00 hB0
  cases l with
  | nil =>
    refine (rTake_nil A0 c0 a1 w).mono ?_
    rintro e w' ⟨rfl, rfl⟩
    exact ⟨⟨none, 0, rfl, C_nil _ _, Nat.le_refl _⟩, Below.refl _ _⟩
  | cons x t =>
    have hx := hb0 x (by simp)
    have ht : bytesOk t := fun y hy => hb0 y (by simp [hy])
    have hmx : (((x :: t).length : Nat) : Int) ≤ 9223372036854775807 := by have := hr0.2.1; omega
    have hxn : x = ((x.toNat : Nat) : Int) := by omega
    have hl1 : (x :: t).length = t.length + 1 := List.length_cons
    obtain ⟨ad, hA, hcell⟩ := Kd.at_int hr0 0 (by omega) (by omega)
    have hcell : w.cell? ad = some (.int .u8 x) := by simpa [rd, Addr.add] using hcell
    by_cases hgt : x > limI a1
    · have e : tk (x :: t) a1 = ([], 1, 13) := by simp only [tk]; rw [if_pos hgt]
      rw [e]
      refine (rTake_early A0 c0 (x :: t).length a1 w x x.toNat hxn (by omega) _ rfl (by omega) hc0 hmx ad hA hcell (.inl hgt)).mono ?_
      rintro e w' ⟨rfl, rfl⟩
      rw [if_pos hgt]
      exact ⟨⟨none, 0, rfl, C_nil _ _, Nat.le_refl _⟩, Below.refl _ _⟩
    · by_cases hsh : t.length < x.toNat + 2
      · have e : tk (x :: t) a1 = ([], 0, 12) := by simp only [tk]; rw [if_neg hgt, if_pos hsh]
        rw [e]
        refine (rTake_early A0 c0 (x :: t).length a1 w x x.toNat hxn (by omega) _ rfl (by omega) hc0 hmx ad hA hcell (.inr (by omega))).mono ?_
        rintro e w' ⟨rfl, rfl⟩
        rw [if_neg hgt]
        exact ⟨⟨none, 0, rfl, C_nil _ _, Nat.le_refl _⟩, Below.refl _ _⟩
      · have hbl : (t.take x.toNat).length = x.toNat := by rw [List.length_take]; omega
        have hbb : bytesOk (t.take x.toNat) := fun y hy => ht y (List.mem_of_mem_take hy)
        have hl2 := (limI_bd a1)
        have hl255 : ¬ (((t.take x.toNat).length : Nat) : Int) > limI 255 := by rw [hbl]; show ¬ ((x.toNat : Nat) : Int) > 255; omega
        have hw : wrapB (t.take x.toNat) 255 = frameB (t.take x.toNat) := if_neg hl255
        have hwe : wrapE (t.take x.toNat) 255 = 0 := if_neg hl255
        obtain ⟨A1, hif⟩ : ∃ A1, (if c0 = 1 then A0 else Option.map (fun x => x.add 1) A0) = A1 := ⟨_, rfl⟩
        have hD := C_drop1 hr0 (m := 1) (c := c0) (by omega) hc0
        rw [hif] at hD
        have hD1 : Kd.C (Kd.int .u8) w A1 t.length t := hD
        have hB := C_take1 hD1 (m := x.toNat) (by omega)
        have hD0 := C_drop1 hr00 (m := 1) (c := c0) (by omega) hc0
        rw [hif] at hD0
        have hD01 : Kd.C (Kd.int .u8) w0 A1 t.length t := hD0
        have hB00 := C_take1 hD01 (m := x.toNat) (by omega)
        have hH := C_take1 hr0 (m := x.toNat + 3) (by omega)
        have hfo : bytesOk (frameB (t.take x.toNat)) := frameB_ok hbb
        have hho : bytesOk ((x :: t).take (x.toNat + 3)) := fun y hy => hb0 y (List.mem_of_mem_take hy)
        have base := fun b hb => rTake_full A0 c0 (x :: t).length a1 w x x.toNat hxn (by omega) _ rfl hgt (by omega) hc0 hmx ad hA hcell A1 hif (t.take x.toNat) _ hB hbl hbb hH _ hw hwe b hb
        by_cases hfr : frameB (t.take x.toNat) = (x :: t).take (x.toNat + 3)
        · have e : tk (x :: t) a1 = (t.take x.toNat, (x.toNat : Int) + 3, 0) := by simp only [tk]; rw [if_neg hgt, if_neg hsh, if_pos hfr]
          rw [e]
          refine (base true (by rw [hfr]; exact beq_self_eq_true _)).mono ?_
          rintro e w' ⟨rfl, hB'⟩
          exact ⟨⟨A1, c0 - 1, by rw [hbl]; rfl, by rw [hbl]; exact hB00, by rw [hbl]; omega⟩, hB'⟩
        · have e : tk (x :: t) a1 = ([], (x.toNat : Int) + 3, 14) := by simp only [tk]; rw [if_neg hgt, if_neg hsh, if_neg hfr]
          rw [e]
          refine (base false (beq_eq_false_iff_ne.2 fun h => hfr (str_inj hfo hho h))).mono ?_
          rintro e w' ⟨rfl, hB'⟩
          exact ⟨⟨none, 0, rfl, C_nil _ _, Nat.le_refl _⟩, hB'⟩
end Go.Proofs.Ytkfninhbbcfdcaa.Giv
