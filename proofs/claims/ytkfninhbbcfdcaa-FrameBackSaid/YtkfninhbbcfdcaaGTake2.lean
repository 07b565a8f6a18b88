/- frame.Take, joined. -/
import Derived.Test.YtkfninhbbcfdcaaGTake
namespace Go.Proofs.Ytkfninhbbcfdcaa.Giv
open Go.RowKit Go.Proofs.YtkfninhbbcfdcaaW.PrintWords Go.Proofs.YtkfninhbbcfdcaaW.PrintLast Go.Proofs.YtkfninhbbcfdcaaW.PrintMore
set_option linter.unusedVariables false
set_option linter.unusedSimpArgs false

/-- What stands at the front of bytes: the body, how many bytes, the error. -/
def tk : List Int → Int → List Int × Int × Int
  | [], _ => ([], 0, 12)
  | x :: t, a => if x > limI a then ([], 1, 13) else if t.length < x.toNat + 2 then ([], 0, 12)
    else if frameB (t.take x.toNat) = (x :: t).take (x.toNat + 3) then (t.take x.toNat, (x.toNat : Int) + 3, 0) else ([], (x.toNat : Int) + 3, 14)

theorem two_bytes {p q : Int} (hp : 0 ≤ p ∧ p < 256) (hq : 0 ≤ q ∧ q < 256) {s : Nat} (hs : s < 65536) : numV [p, q] 0 = s ↔ beB 2 s = [p, q] := by
  simp only [numV, beB, List.cons.injEq, and_true]
  omega
theorem numV_two_lt {p q : Int} (hp : 0 ≤ p ∧ p < 256) (hq : 0 ≤ q ∧ q < 256) : numV [p, q] 0 < 65536 := by
  simp only [numV]
  omega
theorem len_two {l : List Int} (h : l.length = 2) : ∃ p q, l = [p, q] := by
  match l, h with
  | [p, q], _ => exact ⟨p, q, rfl⟩
theorem frame_iff {x : Int} {t : List Int} (hx : 0 ≤ x ∧ x < 256) (ht : bytesOk t) (hl : x.toNat + 2 ≤ t.length) :
    frameB (t.take x.toNat) = (x :: t).take (x.toNat + 3) ↔ numV ((t.drop x.toNat).take 2) 0 = shortN ((x :: t).take (x.toNat + 1)) := by
  have h2 : ((t.drop x.toNat).take 2).length = 2 := by rw [List.length_take, List.length_drop]; omega
  have hok : bytesOk ((t.drop x.toNat).take 2) := fun y hy => ht y (List.mem_of_mem_drop (List.mem_of_mem_take hy))
  obtain ⟨p, q, hpq⟩ := len_two h2
  have hlt : (t.take x.toNat).length = x.toNat := by rw [List.length_take]; omega
  have e1 : beB 1 (t.take x.toNat).length = [x] := by rw [hlt]; simp [beB]; omega
  have e2 : (x :: t).take (x.toNat + 3) = ([x] ++ t.take x.toNat) ++ [p, q] := by
    rw [List.take_succ_cons, ← hpq, List.take_add]
    rfl
  have e3 : (x :: t).take (x.toNat + 1) = [x] ++ t.take x.toNat := by rw [List.take_succ_cons]; rfl
  unfold frameB
  rw [e1, e2, e3, List.append_right_inj, hpq, two_bytes (hok p (by rw [hpq]; simp)) (hok q (by rw [hpq]; simp)) (shortN_lt _)]

theorem frame_Take (A0 : Option Addr) (c0 : Nat) (l : List Int) (a1 : Int) (w : World) (hr0 : Kd.C (Kd.int .u8) w A0 l.length l) (hc0 : l.length ≤ c0) (hb0 : bytesOk l) :
    Calls Try.prog 15 #[.slice A0 l.length c0, .int .i64 a1] w fun e w' => ∃ v, e = .returned (.tuple #[v, .int .i64 (tk l a1).2.1, .int .i64 (tk l a1).2.2]) ∧ Kd.R (Kd.int .u8) 5 w' w.heap.size (fun _ => True) v (tk l a1).1 ∧ Below w.heap.size w w' := by
  cases l with
  | nil =>
    refine (Take_short_no A0 c0 [] a1 w hr0 hc0 hb0 0 [] 12 [] [] 12 0 [] 12 (by omega) _ rfl rfl rfl rfl rfl rfl rfl rfl rfl rfl (by decide) (by decide)).mono ?_
    rintro e w' ⟨rfl, hB⟩
    exact ⟨_, rfl, Kd.R_nil _ _ _ _ _, hB⟩
  | cons x t =>
    have hx := hb0 x (by simp)
    have ht : bytesOk t := fun y hy => hb0 y (by simp [hy])
    have hmx : (((x :: t).length : Nat) : Int) ≤ 9223372036854775807 := by have := hr0.2.1; omega
    have hN : numV (takeL (x :: t) 0 1) 0 = x.toNat := by simp [takeL, numV]; omega
    have hR : restL (x :: t) 0 1 = t := by simp [restL]
    have hF : fauL (x :: t) 0 1 = 0 := by simp [fauL]
    have hxn : ((x.toNat : Nat) : Int) = x := by omega
    by_cases hgt : x > limI a1
    · have e : tk (x :: t) a1 = ([], 1, 13) := by simp only [tk]; rw [if_pos hgt]
      rw [e]
      refine (Take_long A0 c0 (x :: t) a1 w hr0 hc0 hb0 x.toNat (by omega) _ rfl hN hF (by omega)).mono ?_
      rintro e w' ⟨rfl, hB⟩
      exact ⟨_, rfl, Kd.R_nil _ _ _ _ _, hB⟩
    · by_cases hsh : t.length < x.toNat + 2
      · have e : tk (x :: t) a1 = ([], 0, 12) := by simp only [tk]; rw [if_neg hgt, if_pos hsh]
        rw [e]
        refine (Take_short_ok A0 c0 (x :: t) a1 w hr0 hc0 hb0 x.toNat t 0 _ _ _ _ _ _ (by omega) _ rfl hN hR hF rfl rfl rfl rfl rfl rfl (by omega) rfl ?_).mono ?_
        · by_cases hn : x.toNat ≤ t.length
          · have e2 : fauL t 0 x.toNat = 0 := by simp [fauL, hn]
            have e3 : restL t 0 x.toNat = t.drop x.toNat := by simp [restL, hn]
            have e4 : ¬ 2 ≤ (t.drop x.toNat).length := by rw [List.length_drop]; omega
            rw [e2, e3]; unfold fauL; rw [if_pos rfl, if_neg e4]; rfl
          · have e2 : fauL t 0 x.toNat = 12 := by simp [fauL, hn]
            rw [e2]; rfl
        rintro e w' ⟨rfl, hB⟩
        exact ⟨_, rfl, Kd.R_nil _ _ _ _ _, hB⟩
      · have hn : x.toNat ≤ t.length := by omega
        have e1 : takeL t 0 x.toNat = t.take x.toNat := by simp [takeL, hn]
        have e2 : restL t 0 x.toNat = t.drop x.toNat := by simp [restL, hn]
        have e3 : fauL t 0 x.toNat = 0 := by simp [fauL, hn]
        have hd : 2 ≤ (t.drop x.toNat).length := by rw [List.length_drop]; omega
        have e4 : takeL (t.drop x.toNat) 0 2 = (t.drop x.toNat).take 2 := by unfold takeL; rw [if_pos ⟨rfl, hd⟩]
        have e5 : restL (t.drop x.toNat) 0 2 = (t.drop x.toNat).drop 2 := by unfold restL; rw [if_pos ⟨rfl, hd⟩]
        have e6 : fauL (t.drop x.toNat) 0 2 = 0 := by unfold fauL; rw [if_pos rfl, if_pos hd]
        have hlen : (x :: t).length = ((t.drop x.toNat).drop 2).length + (x.toNat + 3) := by simp only [List.length_cons, List.length_drop]; omega
        have hk2 : numV ((t.drop x.toNat).take 2) 0 < 65536 := by
          obtain ⟨p, q, hpq⟩ := len_two (l := (t.drop x.toNat).take 2) (by rw [List.length_take]; omega)
          have hok : bytesOk ((t.drop x.toNat).take 2) := fun y hy => ht y (List.mem_of_mem_drop (List.mem_of_mem_take hy))
          rw [hpq]
          exact numV_two_lt (hok p (by rw [hpq]; simp)) (hok q (by rw [hpq]; simp))
        have hbt : bytesOk ((x :: t).take (x.toNat + 1)) := fun y hy => hb0 y (List.mem_of_mem_take hy)
        have hiff := frame_iff hx ht (by omega)
        by_cases hfr : frameB (t.take x.toNat) = (x :: t).take (x.toNat + 3)
        · have e : tk (x :: t) a1 = (t.take x.toNat, (x.toNat : Int) + 3, 0) := by simp only [tk]; rw [if_neg hgt, if_neg hsh, if_pos hfr]
          rw [e]
          exact Take_good A0 c0 (x :: t) a1 w hr0 hc0 hb0 x.toNat t 0 _ _ 0 _ _ 0 (by omega) _ rfl hN hR hF e1 e2 e3 (by rw [e4]) e5 e6 (by omega) rfl rfl rfl hlen hmx hbt _ rfl (shortN_lt _) hk2 (hiff.1 hfr)
        · have e : tk (x :: t) a1 = ([], (x.toNat : Int) + 3, 14) := by simp only [tk]; rw [if_neg hgt, if_neg hsh, if_neg hfr]
          rw [e]
          exact Take_sum A0 c0 (x :: t) a1 w hr0 hc0 hb0 x.toNat t 0 _ _ 0 _ _ 0 (by omega) _ rfl hN hR hF e1 e2 e3 (by rw [e4]) e5 e6 (by omega) rfl rfl rfl hlen hmx hbt _ rfl (shortN_lt _) hk2 (fun h => hfr (hiff.2 h))
end Go.Proofs.Ytkfninhbbcfdcaa.Giv
