/- Texts of this session's own, put together (merge.py): Plain laws of frames: what is wrapped is taken; cut, it is short. Plain laws for FrameBack: where the frames end; a cut list of frames. -/
import Derived.Test.YtkfninhbbcfdcaaGAllS
namespace Go.Proofs.Ytkfninhbbcfdcaa.Giv

theorem frameB_cons {b : List Int} (hl : b.length ≤ 255) : frameB b = (b.length : Int) :: (b ++ beB 2 (shortN (beB 1 b.length ++ b))) := by
  have e1 : beB 1 b.length = [(b.length : Int)] := by simp [beB]; omega
  conv => lhs; unfold frameB
  rw [e1]
  simp
theorem tk_frame (b r : List Int) (a : Int) (hl : ¬ (b.length : Int) > limI a) : tk (frameB b ++ r) a = (b, (b.length : Int) + 3, 0) := by
  have hbd := limI_bd a
  have h255 : b.length ≤ 255 := by omega
  have hc := frameB_cons h255
  have hz : (beB 2 (shortN (beB 1 b.length ++ b))).length = 2 := beB_length _ _
  obtain ⟨z, hze⟩ : ∃ z, beB 2 (shortN (beB 1 b.length ++ b)) = z := ⟨_, rfl⟩
  rw [hze] at hc hz
  have e : frameB b ++ r = (b.length : Int) :: (b ++ z ++ r) := by rw [hc]; rfl
  have et : (b ++ z ++ r).take b.length = b := by rw [List.append_assoc, List.take_left]
  rw [e]
  simp only [tk]
  rw [if_neg hl, if_neg (by simp only [List.length_append, hz]; omega)]
  rw [Int.toNat_natCast, et]
  rw [if_pos (by
    rw [hc, show b.length + 3 = (b.length + 2) + 1 from rfl, List.take_succ_cons]
    congr 1
    rw [show b.length + 2 = (b ++ z).length by rw [List.length_append, hz], List.take_left])]
theorem tk_cut (b : List Int) (a : Int) (k : Nat) (hl : ¬ (b.length : Int) > limI a) (hk : k < b.length + 3) : tk ((frameB b).take k) a = ([], 0, 12) := by
  have hbd := limI_bd a
  have h255 : b.length ≤ 255 := by omega
  have hc := frameB_cons h255
  have hz : (beB 2 (shortN (beB 1 b.length ++ b))).length = 2 := beB_length _ _
  obtain ⟨z, hze⟩ : ∃ z, beB 2 (shortN (beB 1 b.length ++ b)) = z := ⟨_, rfl⟩
  rw [hze] at hc hz
  rw [hc]
  cases k with
  | zero => rfl
  | succ k =>
    rw [List.take_succ_cons]
    simp only [tk]
    rw [if_neg hl, if_pos (by rw [List.length_take, Int.toNat_natCast]; omega)]
theorem tk_junk (y : Int) (t : List Int) (h : 61 ≤ y) : tk (y :: t) 60 = ([], 1, 13) := by
  simp only [tk]
  rw [if_pos (show y > limI 60 by show y > 60; omega)]

/-- Frames, one behind the other. -/
def framesB : List (List Int) → List Int
  | [] => []
  | b :: l => frameB b ++ framesB l
theorem framesB_append (l m : List (List Int)) : framesB (l ++ m) = framesB l ++ framesB m := by
  induction l with
  | nil => rfl
  | cons b l ih => simp only [framesB, List.cons_append, ih, List.append_assoc]
theorem framesB_ok {l : List (List Int)} (h : ∀ b ∈ l, bytesOk b) : bytesOk (framesB l) := by
  induction l with
  | nil => intro x hx; cases hx
  | cons b l ih => exact bytesOk_app (frameB_ok (h b (by simp))) (ih fun c hc => h c (by simp [hc]))
theorem framesB_len (l : List (List Int)) : l.length * 3 ≤ (framesB l).length := by
  induction l with
  | nil => simp
  | cons b l ih => simp only [framesB, List.length_append, List.length_cons, frameB_length]; omega
theorem framesB_le (l : List (List Int)) (h : ∀ b ∈ l, b.length ≤ 255) : (framesB l).length ≤ l.length * 258 := by
  induction l with
  | nil => simp [framesB]
  | cons b l ih =>
    have := h b (by simp)
    have := ih fun c hc => h c (by simp [hc])
    simp only [framesB, List.length_append, List.length_cons, frameB_length]; omega
theorem allG_frames (a : Int) : ∀ (l : List (List Int)) (k : Nat), l.length ≤ k → (∀ b ∈ l, ¬ (b.length : Int) > limI a) → allG k (framesB l) a = (l, 0) := by
  intro l
  induction l with
  | nil => intro k _ _; cases k <;> simp [allG, framesB]
  | cons b l ih =>
    intro k hk h
    cases k with
    | zero => simp at hk
    | succ k =>
      have hb := h b (by simp)
      have e := tk_frame b (framesB l) a hb
      simp only [framesB]
      simp only [allG]
      rw [if_neg (by intro h; have := congrArg List.length h; simp [frameB_length] at this), e]
      have ed : (frameB b ++ framesB l).drop ((b.length : Int) + 3).toNat = framesB l := by
        rw [show ((b.length : Int) + 3).toNat = (frameB b).length by rw [frameB_length]; omega, List.drop_left]
      simp only [if_pos]
      rw [ed, ih k (by simpa using hk) fun c hc => h c (by simp [hc])]
      simp
end Go.Proofs.Ytkfninhbbcfdcaa.Giv

namespace Go.Proofs.Ytkfninhbbcfdcaa.Giv
open Go.RowKit Go.Proofs.YtkfninhbbcfdcaaW.PrintWords Go.Proofs.YtkfninhbbcfdcaaW.PrintLast Go.Proofs.YtkfninhbbcfdcaaW.PrintMore

def endsL (K : List (List Int)) : List Int := (List.range K.length).map fun i => (((framesB (K.take (i + 1))).length : Nat) : Int)
theorem endsL_len (K : List (List Int)) : (endsL K).length = K.length := by simp [endsL]
theorem endsL_snoc (K : List (List Int)) (x : List Int) : endsL (K ++ [x]) = endsL K ++ [((framesB (K ++ [x])).length : Int)] := by
  unfold endsL
  rw [List.length_append, List.length_singleton, List.range_succ, List.map_append]
  congr 1
  · apply List.map_congr_left
    intro i hi
    rw [List.mem_range] at hi
    rw [List.take_append_of_le_length (by omega)]
  · simp only [List.map_cons, List.map_nil]
    rw [List.take_of_length_le (by simp)]
theorem rd_endsL {K : List (List Int)} {i : Nat} (h : i < K.length) : rd (endsL K) i = ((framesB (K.take (i + 1))).length : Int) := by
  unfold rd endsL
  rw [List.getD_eq_getElem?_getD, Int.toNat_natCast, List.getElem?_map, List.getElem?_range h]
  rfl
def fitB (x : List Int) : Bool := decide (x.length ≤ 255)
def keepL (l : List (List Int)) (p : Nat) : List (List Int) := (l.take p).filter fitB
theorem keepL_yes {l : List (List Int)} {p : Nat} (h : p < l.length) (hx : (rdL l p).length ≤ 255) : keepL l (p + 1) = keepL l p ++ [rdL l p] := by
  have e : rdL l p = l[p] := by unfold rdL; rw [Int.toNat_natCast, List.getD_eq_getElem?_getD, List.getElem?_eq_getElem h]; rfl
  unfold keepL
  rw [List.take_succ_eq_append_getElem h, List.filter_append, ← e]
  rw [show List.filter fitB [rdL l ↑p] = [rdL l ↑p] from by
    rw [List.filter_cons, if_pos (show fitB (rdL l p) = true from decide_eq_true hx), List.filter_nil]]
theorem keepL_no {l : List (List Int)} {p : Nat} (h : p < l.length) (hx : ¬ (rdL l p).length ≤ 255) : keepL l (p + 1) = keepL l p := by
  have e : rdL l p = l[p] := by unfold rdL; rw [Int.toNat_natCast, List.getD_eq_getElem?_getD, List.getElem?_eq_getElem h]; rfl
  unfold keepL
  rw [List.take_succ_eq_append_getElem h, List.filter_append, ← e]
  rw [show List.filter fitB [rdL l ↑p] = [] from by
    rw [List.filter_cons, if_neg (show ¬ fitB (rdL l p) = true from fun he => hx (of_decide_eq_true he)), List.filter_nil], List.append_nil]
theorem keepL_le (l : List (List Int)) (p : Nat) : (keepL l p).length ≤ p := by
  unfold keepL
  exact Nat.le_trans (List.length_filter_le _ _) (List.length_take_le _ _)
theorem keepL_mem {l : List (List Int)} {p : Nat} {x : List Int} (h : x ∈ keepL l p) : x ∈ l ∧ x.length ≤ 255 := by
  unfold keepL at h
  obtain ⟨h1, h2⟩ := List.mem_filter.1 h
  exact ⟨List.mem_of_mem_take h1, of_decide_eq_true h2⟩
theorem rdL_mem {l : List (List Int)} {i : Nat} (h : i < l.length) : rdL l i ∈ l := by
  unfold rdL
  rw [Int.toNat_natCast, List.getD_eq_getElem?_getD, List.getElem?_eq_getElem h]
  exact List.getElem_mem h
theorem rdL_eq {l : List (List Int)} {i : Nat} (h : i < l.length) : rdL l i = l[i] := by unfold rdL; rw [Int.toNat_natCast, List.getD_eq_getElem?_getD, List.getElem?_eq_getElem h]; rfl

theorem framesB_take_succ {K : List (List Int)} {i : Nat} (h : i < K.length) : framesB (K.take (i + 1)) = framesB (K.take i) ++ frameB (rdL K i) := by
  rw [List.take_succ_eq_append_getElem h, framesB_append, rdL_eq h]
  simp [framesB]
theorem framesB_split {K : List (List Int)} {i : Nat} (h : i < K.length) : framesB K = framesB (K.take i) ++ (frameB (rdL K i) ++ framesB (K.drop (i + 1))) := by
  conv => lhs; rw [← List.take_append_drop (i + 1) K]
  rw [framesB_append, framesB_take_succ h, List.append_assoc]
theorem mid_eq {K : List (List Int)} {i m : Nat} (h : i < K.length) (hm : (framesB (K.take i)).length ≤ m) :
    ((framesB K).take m).drop (framesB (K.take i)).length = (frameB (rdL K i) ++ framesB (K.drop (i + 1))).take (m - (framesB (K.take i)).length) := by
  rw [framesB_split h, List.take_append, List.take_of_length_le hm, List.drop_left]
theorem mid_ok {K : List (List Int)} {i m : Nat} (h : i < K.length) (hm : (framesB (K.take (i + 1))).length ≤ m) (hl : (rdL K i).length ≤ 255) :
    tk (((framesB K).take m).drop (framesB (K.take i)).length) 255 = (rdL K i, ((rdL K i).length : Int) + 3, 0) := by
  have e := congrArg List.length (framesB_take_succ h)
  rw [List.length_append] at e
  rw [mid_eq h (by omega), List.take_append, List.take_of_length_le (by omega)]
  exact tk_frame _ _ _ (by show ¬ _ > (255 : Int); omega)
theorem mid_short {K : List (List Int)} {i m : Nat} (h : i < K.length) (h0 : (framesB (K.take i)).length ≤ m) (hm : m < (framesB (K.take (i + 1))).length) (hl : (rdL K i).length ≤ 255) :
    tk (((framesB K).take m).drop (framesB (K.take i)).length) 255 = ([], 0, 12) := by
  have e := congrArg List.length (framesB_take_succ h)
  rw [List.length_append] at e
  rw [mid_eq h (by omega), List.take_append_of_le_length (by omega)]
  exact tk_cut _ _ _ (by show ¬ _ > (255 : Int); omega) (by rw [frameB_length] at e; omega)
theorem all_kept {K : List (List Int)} (h : ∀ x ∈ K, x.length ≤ 255) : allG (framesB K).length (framesB K) 255 = (K, 0) :=
  allG_frames 255 K _ (by have := framesB_len K; omega) (fun b hb => by have := h b hb; show ¬ _ > (255 : Int); omega)
end Go.Proofs.Ytkfninhbbcfdcaa.Giv
