/- Plain laws of commands: all of what is read is put so. -/
import Derived.Test.YtfaicipochceeaaGPlain
namespace Go.Proofs.Ytfaicipochceeaa.Giv
open Go.Lib Go.RowKit Go.Proofs.YtfaicipochceeaaW.PrintWords Go.Proofs.YtfaicipochceeaaW.PrintLast Go.Proofs.YtfaicipochceeaaW.PrintMore
set_option linter.unusedVariables false
set_option linter.unusedSimpArgs false
theorem getC_op (a : Cmd) (x : Sc) (f : Nat) (h1 : 1 ≤ f) (h2 : f ≤ 16) : (getC a x f).1.op = a.op := by
  rcases f_cases h1 h2 with rfl | rfl | rfl | rfl | rfl | rfl | rfl | rfl | rfl | rfl | rfl | rfl | rfl | rfl | rfl | rfl <;> rfl
theorem scNum_u64 (x : Sc) (k : Nat) : (scNum x k).1 < 18446744073709551616 := numV_lt _ _ (by decide)
theorem getC_u64 {a : Cmd} {x : Sc} {f : Nat} (h1 : 1 ≤ f) (h2 : f ≤ 16) (hu : U64C a) : U64C (getC a x f).1 := by
  obtain ⟨u1, u2, u3, u4, u5⟩ := hu
  have e : ∀ (x : Sc) (k : Nat), (0 : Int) ≤ ((scNum x k).1 : Int) ∧ ((scNum x k).1 : Int) < 18446744073709551616 := fun x k => by have := scNum_u64 x k; omega
  rcases f_cases h1 h2 with rfl | rfl | rfl | rfl | rfl | rfl | rfl | rfl | rfl | rfl | rfl | rfl | rfl | rfl | rfl | rfl
  all_goals first | exact ⟨u1, u2, u3, u4, u5⟩ | exact ⟨e _ _, u2, u3, u4, u5⟩ | exact ⟨u1, e _ _, u3, u4, u5⟩ | exact ⟨u1, u2, e _ _, u4, u5⟩ | exact ⟨u1, u2, u3, e _ _, u5⟩ | exact ⟨u1, u2, u3, u4, e _ _⟩
set_option maxHeartbeats 4000000 in
theorem getC_other (a : Cmd) (x : Sc) (f g : Nat) (h1 : 1 ≤ f) (h2 : f ≤ 16) (h3 : 1 ≤ g) (h4 : g ≤ 16) (hne : g ≠ f) : putB (getC a x f).1 g = putB a g := by
  rcases f_cases h1 h2 with rfl | rfl | rfl | rfl | rfl | rfl | rfl | rfl | rfl | rfl | rfl | rfl | rfl | rfl | rfl | rfl <;>
  rcases f_cases h3 h4 with rfl | rfl | rfl | rfl | rfl | rfl | rfl | rfl | rfl | rfl | rfl | rfl | rfl | rfl | rfl | rfl <;>
  first | rfl | exact absurd rfl hne
theorem foldG_keep (g : Nat) (h3 : 1 ≤ g) (h4 : g ≤ 16) : ∀ (l : List Nat) (s : Cmd × Sc), (∀ f ∈ l, 1 ≤ f ∧ f ≤ 16) → g ∉ l → putB (foldG s l).1 g = putB s.1 g
  | [], s, _, _ => rfl
  | f :: l, s, h, hn => by
    have hf := h f (by simp)
    show putB (foldG (getC s.1 s.2 f) l).1 g = _
    rw [foldG_keep g h3 h4 l _ (fun k hk => h k (List.mem_cons_of_mem _ hk)) (fun hm => hn (List.mem_cons_of_mem _ hm)), getC_other s.1 s.2 f g hf.1 hf.2 h3 h4 (fun e => hn (by simp [e]))]
theorem foldG_op : ∀ (l : List Nat) (s : Cmd × Sc), (∀ f ∈ l, 1 ≤ f ∧ f ≤ 16) → (foldG s l).1.op = s.1.op
  | [], s, _ => rfl
  | f :: l, s, h => by
    have hf := h f (by simp)
    show (foldG (getC s.1 s.2 f) l).1.op = _
    rw [foldG_op l _ (fun k hk => h k (List.mem_cons_of_mem _ hk)), getC_op _ _ _ hf.1 hf.2]
theorem foldG_u64 : ∀ (l : List Nat) (s : Cmd × Sc), (∀ f ∈ l, 1 ≤ f ∧ f ≤ 16) → U64C s.1 → U64C (foldG s l).1
  | [], s, _, h => h
  | f :: l, s, h, hu => by
    have hf := h f (by simp)
    exact foldG_u64 l (getC s.1 s.2 f) (fun k hk => h k (List.mem_cons_of_mem _ hk)) (getC_u64 hf.1 hf.2 hu)
theorem foldG_back : ∀ (l : List Nat) (s : Cmd × Sc), (∀ f ∈ l, 1 ≤ f ∧ f ≤ 16) → l.Nodup → bytesOk s.2.1 → (foldG s l).2.2 = 0 → s.2.2 = 0 ∧ s.2.1 = (l.map (putB (foldG s l).1)).flatten ++ (foldG s l).2.1
  | [], s, _, _, _, h => ⟨h, rfl⟩
  | f :: l, s, h, hd, hb, hy => by
    have hf := h f (by simp)
    have hl := fun k hk => h k (List.mem_cons_of_mem f hk)
    obtain ⟨hn, hd2⟩ := List.nodup_cons.1 hd
    obtain ⟨⟨a', y⟩, hg⟩ : ∃ q, getC s.1 s.2 f = q := ⟨_, rfl⟩
    have hyb : bytesOk y.1 := by have := getC_ok s.1 s.2 hb f hf.1 hf.2; rw [hg] at this; exact this
    have hstep : foldG s (f :: l) = foldG (a', y) l := by show foldG (getC s.1 s.2 f) l = _; rw [hg]
    rw [hstep] at hy ⊢
    obtain ⟨r1, r2⟩ := foldG_back l (a', y) hl hd2 hyb hy
    obtain ⟨q1, q2⟩ := getC_back hf.1 hf.2 hb hg r1
    refine ⟨q1, ?_⟩
    rw [q2, List.map_cons, List.flatten_cons, foldG_keep f hf.1 hf.2 l (a', y) hl hn, List.append_assoc, ← r2]
theorem fld_nodup : ∀ n : Fin 43, (fldL n.val).Nodup := by decide +kernel
/-- What is read is put so. -/
theorem bytes_read {b : List Int} {d : Cmd} (hb : bytesOk b) (h : readC b = (d, 0)) : mayC d = true ∧ bytesC d = b ∧ U64C d := by
  unfold readC at h
  obtain ⟨⟨n, y⟩, hy⟩ : ∃ s, scNum (b, 0) 1 = s := ⟨_, rfl⟩
  simp only [hy] at h
  have hyb := scNum_ok (x := (b, 0)) hb hy
  have hn := scNum_lt1 (x := (b, 0)) hb hy
  obtain ⟨f, hf⟩ : ∃ f, ruleF (isOpB n) y.2 17 = f := ⟨_, rfl⟩
  rw [hf] at h
  by_cases hf0 : f = 0
  · subst hf0
    rw [if_pos rfl] at h
    have hop : isOpB n = true ∧ y.2 = 0 := by
      unfold ruleF at hf
      cases hi : isOpB n with
      | true => rw [hi, if_pos rfl] at hf; exact ⟨rfl, hf⟩
      | false =>
        exfalso
        rw [hi, if_neg (by decide)] at hf
        split at hf
        · cases hf
        · rename_i h3; exact h3 hf
    have hnb := isOp_bd hop.1
    obtain ⟨s, hs⟩ : ∃ s, foldG (bareC n, (y.1, 0)) (fldL n) = s := ⟨_, rfl⟩
    rw [hs] at h
    unfold finC at h
    by_cases he : endI s.2.2 s.2.1.length = 0
    · rw [if_pos he] at h
      have hm : mayC s.1 = true := by
        cases hh : mayC s.1 with
        | true => rfl
        | false => rw [hh, if_neg (by decide)] at h; injection h with _ h2; cases h2
      rw [if_pos hm] at h
      injection h with h1 _
      subst h1
      have hend : s.2.2 = 0 ∧ s.2.1 = [] := by
        unfold endI at he
        by_cases h0 : s.2.2 = 0 ∧ 0 < s.2.1.length
        · rw [if_pos h0] at he; cases he
        · rw [if_neg h0] at he
          exact ⟨he, List.eq_nil_of_length_eq_zero (by rcases Nat.eq_zero_or_pos s.2.1.length with h3 | h3; exact h3; exact absurd ⟨he, h3⟩ h0)⟩
      have hn43 : n < 43 := by omega
      have hback := foldG_back (fldL n) (bareC n, (y.1, 0)) (fld_ok n) (fld_nodup ⟨n, hn43⟩) hyb (by rw [hs]; exact hend.1)
      have hopn := foldG_op (fldL n) (bareC n, (y.1, 0)) (fld_ok n)
      have hu := foldG_u64 (fldL n) (bareC n, (y.1, 0)) (fld_ok n) (show U64C (bareC n) from ⟨⟨Int.le_refl 0, by show (0 : Int) < _; decide⟩, ⟨Int.le_refl 0, by show (0 : Int) < _; decide⟩, ⟨Int.le_refl 0, by show (0 : Int) < _; decide⟩, ⟨Int.le_refl 0, by show (0 : Int) < _; decide⟩, ⟨Int.le_refl 0, by show (0 : Int) < _; decide⟩⟩)
      rw [hs] at hback hopn hu
      refine ⟨hm, ?_, hu⟩
      have hop2 : s.1.op = n := hopn
      obtain ⟨_, hfirst⟩ := scNum_back (x := (b, 0)) (by decide) hb hy hop.2
      unfold bytesC bodyB
      rw [if_pos hm, hop2, Int.toNat_natCast]
      have h1 := hback.2
      rw [hend.2, List.append_nil] at h1
      simp only at h1 hfirst
      rw [hfirst, h1]
      show _ = ((n / 256 ^ 0 % 256 : Nat) : Int) :: _
      congr 1
      simp
      omega
    · rw [if_neg he] at h
      injection h with _ h2
      exact absurd h2 he
  · rw [if_neg hf0] at h
    injection h with _ h2
    exact absurd h2 hf0
end Go.Proofs.Ytfaicipochceeaa.Giv
