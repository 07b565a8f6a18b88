/- Plain laws of frames: what is wrapped is taken; cut, it is short. -/
import Derived.Test.YtkfninhbbcfdcaaGAll
namespace Go.Proofs.Ytkfninhbbcfdcaa.Giv

theorem frameB_cons {b : List Int} (hl : b.length ≤ 255) : frameB b = (b.length : Int) :: (b ++ beB 2 (shortN (beB 1 b.length ++ b))) := by
  have e1 : beB 1 b.length = [(b.length : Int)] := by simp [beB]; omega
  conv => lhs; unfold frameB
  rw [e1]
  simp
theorem tk_frame (b r : List Int) (a : Int) (hl : ¬ (b.length : Int) > limI a) : tk (frameB b ++ r) a = (b, (b.length : Int) + 3, 0) := by
  have hbd := limI_bd a
  have h255 : b.length ≤ 255 := by omega
  have hc := frameB_cons h255
  have hz : (beB 2 (shortN (beB 1 b.length ++ b))).length = 2 := beB_length _ _
  obtain ⟨z, hze⟩ : ∃ z, beB 2 (shortN (beB 1 b.length ++ b)) = z := ⟨_, rfl⟩
  rw [hze] at hc hz
  have e : frameB b ++ r = (b.length : Int) :: (b ++ z ++ r) := by rw [hc]; rfl
  have et : (b ++ z ++ r).take b.length = b := by rw [List.append_assoc, List.take_left]
  rw [e]
  simp only [tk]
  rw [if_neg hl, if_neg (by simp only [List.length_append, hz]; omega)]
  rw [Int.toNat_natCast, et]
  rw [if_pos (by
    rw [hc, show b.length + 3 = (b.length + 2) + 1 from rfl, List.take_succ_cons]
    congr 1
    rw [show b.length + 2 = (b ++ z).length by rw [List.length_append, hz], List.take_left])]
theorem tk_cut (b : List Int) (a : Int) (k : Nat) (hl : ¬ (b.length : Int) > limI a) (hk : k < b.length + 3) : tk ((frameB b).take k) a = ([], 0, 12) := by
  have hbd := limI_bd a
  have h255 : b.length ≤ 255 := by omega
  have hc := frameB_cons h255
  have hz : (beB 2 (shortN (beB 1 b.length ++ b))).length = 2 := beB_length _ _
  obtain ⟨z, hze⟩ : ∃ z, beB 2 (shortN (beB 1 b.length ++ b)) = z := ⟨_, rfl⟩
  rw [hze] at hc hz
  rw [hc]
  cases k with
  | zero => rfl
  | succ k =>
    rw [List.take_succ_cons]
    simp only [tk]
    rw [if_neg hl, if_pos (by rw [List.length_take, Int.toNat_natCast]; omega)]
theorem tk_junk (y : Int) (t : List Int) (h : 61 ≤ y) : tk (y :: t) 60 = ([], 1, 13) := by
  simp only [tk]
  rw [if_pos (show y > limI 60 by show y > 60; omega)]

/-- Frames, one behind the other. -/
def framesB : List (List Int) → List Int
  | [] => []
  | b :: l => frameB b ++ framesB l
theorem framesB_append (l m : List (List Int)) : framesB (l ++ m) = framesB l ++ framesB m := by
  induction l with
  | nil => rfl
  | cons b l ih => simp only [framesB, List.cons_append, ih, List.append_assoc]
theorem framesB_ok {l : List (List Int)} (h : ∀ b ∈ l, bytesOk b) : bytesOk (framesB l) := by
  induction l with
  | nil => intro x hx; cases hx
  | cons b l ih => exact bytesOk_app (frameB_ok (h b (by simp))) (ih fun c hc => h c (by simp [hc]))
theorem framesB_len (l : List (List Int)) : l.length * 3 ≤ (framesB l).length := by
  induction l with
  | nil => simp
  | cons b l ih => simp only [framesB, List.length_append, List.length_cons, frameB_length]; omega
theorem framesB_le (l : List (List Int)) (h : ∀ b ∈ l, b.length ≤ 255) : (framesB l).length ≤ l.length * 258 := by
  induction l with
  | nil => simp [framesB]
  | cons b l ih =>
    have := h b (by simp)
    have := ih fun c hc => h c (by simp [hc])
    simp only [framesB, List.length_append, List.length_cons, frameB_length]; omega
theorem allG_frames (a : Int) : ∀ (l : List (List Int)) (k : Nat), l.length ≤ k → (∀ b ∈ l, ¬ (b.length : Int) > limI a) → allG k (framesB l) a = (l, 0) := by
  intro l
  induction l with
  | nil => intro k _ _; cases k <;> simp [allG, framesB]
  | cons b l ih =>
    intro k hk h
    cases k with
    | zero => simp at hk
    | succ k =>
      have hb := h b (by simp)
      have e := tk_frame b (framesB l) a hb
      simp only [framesB]
      simp only [allG]
      rw [if_neg (by intro h; have := congrArg List.length h; simp [frameB_length] at this), e]
      have ed : (frameB b ++ framesB l).drop ((b.length : Int) + 3).toNat = framesB l := by
        rw [show ((b.length : Int) + 3).toNat = (frameB b).length by rw [frameB_length]; omega, List.drop_left]
      simp only [if_pos]
      rw [ed, ih k (by simpa using hk) fun c hc => h c (by simp [hc])]
      simp
end Go.Proofs.Ytkfninhbbcfdcaa.Giv
