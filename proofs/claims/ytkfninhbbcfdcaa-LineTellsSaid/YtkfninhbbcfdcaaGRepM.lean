/- Texts of this session's own, put together (merge.py): What the leaves of the package reply and of its reference come to, in closed forms; their contracts in these. reply.Read. rialtoref27.Read. reply.All. rialtoref27.All. The contracts of the package reply and of its reference, at letters. -/
import Derived.Test.YtkfninhbbcfdcaaPRep
import Derived.Test.YtkfninhbbcfdcaaGPl
namespace Go.Proofs.Ytkfninhbbcfdcaa.Giv
open Go.RowKit Go.Proofs.YtkfninhbbcfdcaaW.PrintWords Go.Proofs.YtkfninhbbcfdcaaW.PrintLast Go.Proofs.YtkfninhbbcfdcaaW.PrintMore Go.Proofs.Ytkfninhbbcfdcaa.PReplyTells
set_option linter.unusedVariables false
set_option linter.unusedSimpArgs false

/-- May a line be told that? -/
def mayP (k o e n : Int) : Prop := 1 ≤ k ∧ k ≤ 5 ∧ 0 ≤ e ∧ e ≤ 18 ∧ n ≤ 247 ∧ (k = 1 → 1 ≤ o ∧ o ≤ 42) ∧ (k ≠ 1 → o = 0) ∧ (k = 5 → e ≠ 0) ∧ (1 < k → k < 5 → e = 0) ∧ (e = 0 ∨ n = 0)
instance (k o e n : Int) : Decidable (mayP k o e n) := by unfold mayP; infer_instance
def mayB (k o e : Int) (n : Nat) : Bool := decide (mayP k o e n)
/-- A test's value is that of a statement. -/
theorem some_dec {p : Prop} [Decidable p] {b : Bool} (h : b = true ↔ p) : some b = some (decide p) := by
  congr 1
  rw [Bool.eq_iff_iff, h, decide_eq_true_eq]
theorem some_no {p : Prop} [Decidable p] (h : ¬ p) : some false = some (decide p) := by rw [decide_eq_false h]
theorem some_yes {p : Prop} [Decidable p] (h : p) : some true = some (decide p) := by rw [decide_eq_true h]
theorem rule_f (k : Int) (n : Nat) : reply_ruleOf.f (n + 1) k = some (decide (k = 1), decide (1 ≤ k ∧ k < 5), decide (k = 1 ∨ k = 5)) := by
  unfold reply_ruleOf.f
  simp only [reply_ruleOf.j0]
  by_cases h1 : k = 1
  · subst h1; rfl
  · rw [if_neg h1]
    by_cases h2 : k = 2
    · subst h2; rfl
    · rw [if_neg h2]
      by_cases h3 : k = 3
      · subst h3; rfl
      · rw [if_neg h3]
        by_cases h4 : k = 4
        · subst h4; rfl
        · rw [if_neg (by simpa using h4)]
          by_cases h5 : k = 5
          · subst h5; rfl
          · rw [if_neg h5, decide_eq_false h1, decide_eq_false (show ¬ (1 ≤ k ∧ k < 5) by omega), decide_eq_false (show ¬ (k = 1 ∨ k = 5) by omega)]
theorem j1_f (n : Nat) (b : Bool) (k o e : Int) (l : List Int) (op g bd : Bool) : reply_May.j1 (n + 1) b k o e l op g bd = some (!b && (if e = 0 then g && decide ((l.length : Int) ≤ 247) else bd && decide ((l.length : Int) = 0))) := by
  simp only [reply_May.j1]
  generalize (l.length : Int) = n
  cases b <;> cases g <;> cases bd <;> by_cases h : e = 0 <;> simp [h] <;> rfl
theorem j0_f (n : Nat) (b : Bool) (k o e : Int) (l : List Int) (op g bd : Bool) : reply_May.j0 (n + 2) b k o e l op g bd = some (!((op != b) || (!op && decide (o ≠ 0)) || decide (e < 0) || decide (19 ≤ e)) && (if e = 0 then g && decide ((l.length : Int) ≤ 247) else bd && decide ((l.length : Int) = 0))) := by
  simp only [reply_May.j0, j1_f]
  cases op <;> cases b <;> by_cases h : o = 0 <;> by_cases h2 : e < 0 <;> by_cases h3 : 19 ≤ e <;> simp [h, h2, h3]
theorem may_f (k o e : Int) (l : List Int) : reply_May.f 3 k o e l = some (mayB k o e l.length) := by
  unfold reply_May.f
  rw [rule_f]
  simp only [Option.bind_some, j0_f]
  unfold mayB
  generalize hn : (l.length : Int) = n
  have h0 : 0 ≤ n := by omega
  by_cases h1 : o ≥ 1
  · rw [if_pos h1]
    apply some_dec
    unfold mayP
    by_cases h2 : e = 0 <;> simp [h2] <;> omega
  · rw [if_neg h1]
    apply some_dec
    unfold mayP
    by_cases h2 : e = 0 <;> simp [h2] <;> omega
theorem rj1_f (n : Nat) (b : Bool) (k o e : Int) (l : List Int) : rialtoref27_May.j1 (n + 1) b k o e l = some (!b && !(decide (k = 5 ∧ e = 0) || decide (1 < k ∧ k < 5 ∧ e ≠ 0)) && (decide (e = 0) || decide ((l.length : Int) = 0))) := by
  simp only [rialtoref27_May.j1]
  generalize (l.length : Int) = n
  cases b
  · by_cases h1 : k = 5
    · subst h1
      by_cases h2 : e = 0 <;> simp [h2]
      rfl
    · by_cases h2 : k > 1 <;> by_cases h3 : k < 5 <;> by_cases h4 : e = 0 <;> simp [h1, h2, h3, h4] <;> rfl
  · rfl
theorem rj0_f (n : Nat) (b : Bool) (k o e : Int) (l : List Int) : rialtoref27_May.j0 (n + 2) b k o e l = some (!(b || decide (k = 1 ∧ (o < 1 ∨ 42 < o)) || decide (k ≠ 1 ∧ o ≠ 0)) && !(decide (k = 5 ∧ e = 0) || decide (1 < k ∧ k < 5 ∧ e ≠ 0)) && (decide (e = 0) || decide ((l.length : Int) = 0))) := by
  simp only [rialtoref27_May.j0, rj1_f]
  generalize (l.length : Int) = n
  cases b
  · by_cases h1 : k = 1
    · subst h1
      by_cases h2 : o < 1 <;> by_cases h3 : o > 42 <;> simp [h2, h3]
    · simp [h1]
      by_cases h2 : o = 0 <;> simp [h2]
  · rfl
theorem rmay_f (k o e : Int) (l : List Int) : rialtoref27_May.f 3 k o e l = some (mayB k o e l.length) := by
  unfold rialtoref27_May.f
  simp only [rj0_f]
  unfold mayB
  generalize hn : (l.length : Int) = n
  have h0 : 0 ≤ n := by omega
  by_cases h1 : k < 1
  · rw [if_pos h1]; apply some_dec; unfold mayP; simp; omega
  · rw [if_neg h1]
    by_cases h2 : k > 5
    · rw [if_pos h2]; apply some_dec; unfold mayP; simp; omega
    · rw [if_neg h2]
      by_cases h3 : e < 0
      · rw [if_pos h3]; apply some_dec; unfold mayP; simp; omega
      · rw [if_neg h3]
        by_cases h4 : e > 18
        · rw [if_pos h4]; apply some_dec; unfold mayP; simp; omega
        · rw [if_neg h4]; apply some_dec; unfold mayP; simp; omega

def mayX (x : S49) : Bool := mayB x.f0 x.f1 x.f2 x.f3.length
theorem mayX_len {x : S49} (h : mayX x = true) : x.f3.length ≤ 247 := by
  have := of_decide_eq_true h
  unfold mayP at this
  omega
/-- Numbers as bytes. -/
def msgL (x : S49) : List Int := [x.f0, x.f1, x.f2] ++ x.f3
def msgB (x : S49) : List Int := if mayX x then frameB (msgL x) else []
theorem msgL_ok {x : S49} (h : mayX x = true) (hb : bytesOk x.f3) : bytesOk (msgL x) := by
  have h := of_decide_eq_true h
  unfold mayP at h
  intro y hy
  simp only [msgL, List.mem_append, List.mem_cons, List.not_mem_nil, or_false] at hy
  rcases hy with (rfl | rfl | rfl) | hy
  · omega
  · omega
  · omega
  · exact hb y hy
theorem msg_mod {x : S49} (h : mayX x = true) : [x.f0 % 256, x.f1 % 256, x.f2 % 256] ++ x.f3 = msgL x := by
  have h := of_decide_eq_true h
  unfold mayP at h
  unfold msgL
  rw [show x.f0 % 256 = x.f0 by omega, show x.f1 % 256 = x.f1 by omega, show x.f2 % 256 = x.f2 by omega]
theorem msgL_len (x : S49) : (msgL x).length = x.f3.length + 3 := by simp [msgL]
theorem lim250 (n : Nat) (h : n ≤ 250) : ¬ ((n : Nat) : Int) > limI 250 := by show ¬ _ > (250 : Int); omega
theorem wrap_f (x : S49) (hb : bytesOk x.f3) : reply_Wrap.f 3 x.f0 x.f1 x.f2 x.f3 = some (msgB x) := by
  unfold reply_Wrap.f
  rw [may_f]
  simp only [Option.bind_some]
  unfold msgB mayX
  by_cases h : mayB x.f0 x.f1 x.f2 x.f3.length = true
  · rw [if_pos h, if_pos h]
    have hl := mayX_len (x := x) h
    rw [if_pos (by simp; omega)]
    have hm := msg_mod (x := x) h
    unfold frame_Wrap.f
    rw [hm, if_pos (msgL_ok h hb)]
    simp only [Option.bind_some]
    rw [show wrapB (msgL x) 250 = frameB (msgL x) from if_neg (lim250 _ (by rw [msgL_len]; omega))]
  · rw [if_neg h, if_neg h]
theorem rwrap_f (x : S49) (hb : bytesOk x.f3) : rialtoref27_Wrap.f 3 x.f0 x.f1 x.f2 x.f3 = some (msgB x) := by
  unfold rialtoref27_Wrap.f
  rw [rmay_f]
  simp only [Option.bind_some]
  unfold msgB mayX
  by_cases h : mayB x.f0 x.f1 x.f2 x.f3.length = true
  · rw [if_pos h, if_pos h]
    have hl := mayX_len (x := x) h
    rw [if_pos (by simp; omega)]
    have hm := msg_mod (x := x) h
    unfold rialtoref25_Wrap.f
    rw [hm, if_pos (msgL_ok h hb)]
    simp only [Option.bind_some]
    rw [show wrapB (msgL x) 250 = frameB (msgL x) from if_neg (lim250 _ (by rw [msgL_len]; omega))]
  · rw [if_neg h, if_neg h]
def numsL (l : List Int) : List Int := l.map (· % 256)
def refsL (l : List S76) : List Int := l.flatMap fun r => [r.f0 % 256, r.f1 % 256]
def flatL (l : List S76) : List Int := l.flatMap fun r => [r.f0, r.f1]
theorem refs_flat (l : List S76) : refsL l = numsL (flatL l) := by
  induction l with
  | nil => rfl
  | cons r l ih => simp only [refsL, flatL, numsL, List.flatMap_cons, List.map_append] at ih ⊢; rw [ih]; rfl
def amtsL (l : List Int) : List Int := l.flatMap fun n => beB 8 n.toNat
theorem wrap_up {i : Int} {n : Nat} (h0 : 0 ≤ i) (h : i < (n : Int)) (hn : n ≤ 1152921504606846976) : wrap64 (i + 1) = i + 1 := by
  unfold wrap64
  omega
theorem drop_at {α : Type} {l : List α} {i : Nat} (h : i < l.length) : l.drop i = l[i] :: l.drop (i + 1) := List.drop_eq_getElem_cons h
theorem nums_at {l : List Int} {i : Nat} (h : i < l.length) : numsL (l.drop i) = l[i] % 256 :: numsL (l.drop (i + 1)) := by rw [drop_at h]; rfl
theorem refs_at {l : List S76} {i : Nat} (h : i < l.length) : refsL (l.drop i) = [l[i].f0 % 256, l[i].f1 % 256] ++ refsL (l.drop (i + 1)) := by rw [drop_at h]; rfl
theorem amts_at {l : List Int} {i : Nat} (h : i < l.length) : amtsL (l.drop i) = beB 8 l[i].toNat ++ amtsL (l.drop (i + 1)) := by rw [drop_at h]; rfl
theorem rd_nat {l : List Int} {i : Nat} (h : i < l.length) : rd l i = l[i] := by unfold rd; rw [Int.toNat_natCast, List.getD_eq_getElem?_getD, List.getElem?_eq_getElem h]; rfl
theorem nums_l0 (l : List Int) (hl : l.length < 140737488355328) : ∀ (d i k : Nat) (b : List Int), i + d = l.length → d < k → b.length = i → reply_Nums.l0 k b l (l.length : Int) i = some (b ++ numsL (l.drop i)) := by
  intro d
  induction d with
  | zero =>
    intro i k b hi hk hb
    obtain ⟨k, rfl⟩ : ∃ m, k = m + 1 := ⟨k - 1, by omega⟩
    simp only [reply_Nums.l0]
    rw [if_neg (by omega), List.drop_eq_nil_of_le (by omega)]
    simp [numsL]
  | succ d ih =>
    intro i k b hi hk hb
    obtain ⟨k, rfl⟩ : ∃ m, k = m + 1 := ⟨k - 1, by omega⟩
    have hlt : i < l.length := by omega
    simp only [reply_Nums.l0]
    rw [if_pos (by omega), if_pos (by omega), if_pos (by omega), if_pos (by omega), wrap_up (n := l.length) (by omega) (by omega) (by omega), rd_nat hlt]
    rw [show ((i : Int) + 1) = ((i + 1 : Nat) : Int) by omega, ih (i + 1) k _ (by omega) (by omega) (by simp; omega), nums_at hlt, List.append_assoc]
    rfl
theorem nums_f (l : List Int) (hl : l.length < 140737488355328) : reply_Nums.f (l.length + 1) l = some (numsL l) := by
  have := nums_l0 l hl l.length 0 (l.length + 1) [] (by omega) (by omega) rfl
  simpa [reply_Nums.f] using this
theorem rnums_l0 (l : List Int) (hl : l.length < 140737488355328) : ∀ (d i k : Nat) (b : List Int), i + d = l.length → d < k → b.length = i → rialtoref27_Nums.l0 k l b i = some (b ++ numsL (l.drop i)) := by
  intro d
  induction d with
  | zero =>
    intro i k b hi hk hb
    obtain ⟨k, rfl⟩ : ∃ m, k = m + 1 := ⟨k - 1, by omega⟩
    simp only [rialtoref27_Nums.l0]
    rw [if_neg (by omega), List.drop_eq_nil_of_le (by omega)]
    simp [numsL]
  | succ d ih =>
    intro i k b hi hk hb
    obtain ⟨k, rfl⟩ : ∃ m, k = m + 1 := ⟨k - 1, by omega⟩
    have hlt : i < l.length := by omega
    simp only [rialtoref27_Nums.l0]
    rw [if_pos (by omega), if_pos (by omega), if_pos (by omega), wrap_up (n := l.length) (by omega) (by omega) (by omega), rd_nat hlt]
    rw [show ((i : Int) + 1) = ((i + 1 : Nat) : Int) by omega, ih (i + 1) k _ (by omega) (by omega) (by simp; omega), nums_at hlt, List.append_assoc]
    rfl
theorem rnums_f (l : List Int) (hl : l.length < 140737488355328) : rialtoref27_Nums.f (l.length + 1) l = some (numsL l) := by
  have := rnums_l0 l hl l.length 0 (l.length + 1) [] (by omega) (by omega) rfl
  simpa [rialtoref27_Nums.f] using this
theorem rd76_nat {l : List S76} {i : Nat} (h : i < l.length) : rd_T76 l i = l[i] := by unfold rd_T76; rw [Int.toNat_natCast, List.getD_eq_getElem?_getD, List.getElem?_eq_getElem h]; rfl
theorem refs_l0 (l : List S76) (hl : l.length * 2 < 140737488355328) : ∀ (d i k : Nat) (b : List Int), i + d = l.length → d < k → b.length = i * 2 → reply_Refs.l0 k b l (l.length : Int) i = some (b ++ refsL (l.drop i)) := by
  intro d
  induction d with
  | zero =>
    intro i k b hi hk hb
    obtain ⟨k, rfl⟩ : ∃ m, k = m + 1 := ⟨k - 1, by omega⟩
    simp only [reply_Refs.l0]
    rw [if_neg (by omega), List.drop_eq_nil_of_le (by omega)]
    simp [refsL]
  | succ d ih =>
    intro i k b hi hk hb
    obtain ⟨k, rfl⟩ : ∃ m, k = m + 1 := ⟨k - 1, by omega⟩
    have hlt : i < l.length := by omega
    simp only [reply_Refs.l0]
    rw [if_pos (by omega), if_pos (by omega), if_pos (by omega)]
    simp only [Option.bind_some]
    rw [if_pos (by simp; omega), wrap_up (n := l.length) (by omega) (by omega) (by omega), rd76_nat hlt]
    rw [show ((i : Int) + 1) = ((i + 1 : Nat) : Int) by omega, ih (i + 1) k _ (by omega) (by omega) (by simp; omega), refs_at hlt, List.append_assoc]
theorem refs_f (l : List S76) (hl : l.length * 2 < 140737488355328) : reply_Refs.f (l.length + 1) l = some (refsL l) := by
  have := refs_l0 l hl l.length 0 (l.length + 1) [] (by omega) (by omega) rfl
  simpa [reply_Refs.f] using this
def u64Ok (l : List Int) : Prop := ∀ x ∈ l, 0 ≤ x ∧ x < 18446744073709551616
theorem num8 (b : List Int) (x : Int) (hx : 0 ≤ x ∧ x < 18446744073709551616) (hb : b.length + 8 < 140737488355328) : wire_Num.f b x 8 = some (b ++ beB 8 x.toNat) ∧ rialtoref02_Num.f b x 8 = some (b ++ beB 8 x.toNat) :=
  ⟨if_pos ⟨hx.1, hx.2, hb⟩, if_pos ⟨hx.1, hx.2, hb⟩⟩
theorem amts_l0 (l : List Int) (hl : l.length * 8 < 140737488355328) (ho : u64Ok l) : ∀ (d i k : Nat) (b : List Int), i + d = l.length → d < k → b.length = i * 8 → reply_Amounts.l0 k b l (l.length : Int) i = some (b ++ amtsL (l.drop i)) := by
  intro d
  induction d with
  | zero =>
    intro i k b hi hk hb
    obtain ⟨k, rfl⟩ : ∃ m, k = m + 1 := ⟨k - 1, by omega⟩
    simp only [reply_Amounts.l0]
    rw [if_neg (by omega), List.drop_eq_nil_of_le (by omega)]
    simp [amtsL]
  | succ d ih =>
    intro i k b hi hk hb
    obtain ⟨k, rfl⟩ : ∃ m, k = m + 1 := ⟨k - 1, by omega⟩
    have hlt : i < l.length := by omega
    simp only [reply_Amounts.l0]
    rw [if_pos (by omega), if_pos (by omega), if_pos (by omega), rd_nat hlt, (num8 b l[i] (ho _ (List.getElem_mem hlt)) (by omega)).1]
    simp only [Option.bind_some]
    rw [wrap_up (n := l.length) (by omega) (by omega) (by omega)]
    rw [show ((i : Int) + 1) = ((i + 1 : Nat) : Int) by omega, ih (i + 1) k _ (by omega) (by omega) (by simp [beB_length]; omega), amts_at hlt, List.append_assoc]
theorem amts_f (l : List Int) (hl : l.length * 8 < 140737488355328) (ho : u64Ok l) : reply_Amounts.f (l.length + 1) l = some (amtsL l) := by
  have := amts_l0 l hl ho l.length 0 (l.length + 1) [] (by omega) (by omega) rfl
  simpa [reply_Amounts.f] using this
theorem ramts_l0 (l : List Int) (hl : l.length * 8 < 140737488355328) (ho : u64Ok l) : ∀ (d i k : Nat) (b : List Int), i + d = l.length → d < k → b.length = i * 8 → rialtoref27_Amounts.l0 k l b i = some (b ++ amtsL (l.drop i)) := by
  intro d
  induction d with
  | zero =>
    intro i k b hi hk hb
    obtain ⟨k, rfl⟩ : ∃ m, k = m + 1 := ⟨k - 1, by omega⟩
    simp only [rialtoref27_Amounts.l0]
    rw [if_neg (by omega), List.drop_eq_nil_of_le (by omega)]
    simp [amtsL]
  | succ d ih =>
    intro i k b hi hk hb
    obtain ⟨k, rfl⟩ : ∃ m, k = m + 1 := ⟨k - 1, by omega⟩
    have hlt : i < l.length := by omega
    simp only [rialtoref27_Amounts.l0]
    rw [if_pos (by omega), if_pos (by omega), rd_nat hlt, (num8 b l[i] (ho _ (List.getElem_mem hlt)) (by omega)).2]
    simp only [Option.bind_some]
    rw [wrap_up (n := l.length) (by omega) (by omega) (by omega)]
    rw [show ((i : Int) + 1) = ((i + 1 : Nat) : Int) by omega, ih (i + 1) k _ (by omega) (by omega) (by simp [beB_length]; omega), amts_at hlt, List.append_assoc]
theorem ramts_f (l : List Int) (hl : l.length * 8 < 140737488355328) (ho : u64Ok l) : rialtoref27_Amounts.f (l.length + 1) l = some (amtsL l) := by
  have := ramts_l0 l hl ho l.length 0 (l.length + 1) [] (by omega) (by omega) rfl
  simpa [rialtoref27_Amounts.f] using this
theorem same_f (x : S49) : rialtoref27_Same.f x.f0 x.f1 x.f2 x.f3 x.f0 x.f1 x.f2 x.f3 = some true := by simp [rialtoref27_Same.f]
theorem sameAll_l0 (l : List S49) (hl : l.length < 140737488355328) : ∀ (d i k : Nat), i + d = l.length → d < k → rialtoref27_SameAll.l0 k l l i = some true := by
  intro d
  induction d with
  | zero =>
    intro i k hi hk
    obtain ⟨k, rfl⟩ : ∃ m, k = m + 1 := ⟨k - 1, by omega⟩
    simp only [rialtoref27_SameAll.l0]
    rw [if_neg (by omega)]
  | succ d ih =>
    intro i k hi hk
    obtain ⟨k, rfl⟩ : ∃ m, k = m + 1 := ⟨k - 1, by omega⟩
    have hlt : i < l.length := by omega
    simp only [rialtoref27_SameAll.l0]
    rw [if_pos (by omega), if_pos (by omega), if_pos (by omega), same_f]
    simp only [Option.bind_some, if_true]
    rw [wrap_up (n := l.length) (by omega) (by omega) (by omega)]
    rw [show ((i : Int) + 1) = ((i + 1 : Nat) : Int) by omega, ih (i + 1) k (by omega) (by omega)]
theorem sameAll_f (l : List S49) (hl : l.length < 140737488355328) : rialtoref27_SameAll.f (l.length + 1) l l = some true := by
  unfold rialtoref27_SameAll.f
  rw [if_pos rfl]
  exact sameAll_l0 l hl l.length 0 _ (by omega) (by omega)
end Go.Proofs.Ytkfninhbbcfdcaa.Giv

namespace Go.Proofs.Ytkfninhbbcfdcaa.Giv
open Go.RowKit Go.Proofs.YtkfninhbbcfdcaaW.PrintWords Go.Proofs.YtkfninhbbcfdcaaW.PrintLast Go.Proofs.YtkfninhbbcfdcaaW.PrintMore Go.Proofs.Ytkfninhbbcfdcaa.PReplyTells
set_option linter.unusedVariables false
set_option linter.unusedSimpArgs false

def aggV (x : S49) (v : Value) : Value := .agg #[.int .i64 x.f0, .int .i64 x.f1, .int .i64 x.f2, v]
theorem May_calls (x : S49) (A : Option Addr) (n c : Nat) (w : World) (h : Kd.C (Kd.int .u8) w A x.f3.length x.f3) (hn : n = x.f3.length) (hc : n ≤ c) (b : Bool) (hb : mayX x = b) :
    Calls Try.prog 40 #[.agg #[.int .i64 x.f0, .int .i64 x.f1, .int .i64 x.f2, .slice A n c]] w fun e w' => e = .returned (.bool b) ∧ Below w.heap.size w w' := by
  subst hn hb
  exact reply_May.calls 3 x.f0 x.f1 x.f2 A c x.f3 _ w h hc (may_f _ _ _ _)
theorem rMay_calls (x : S49) (A : Option Addr) (n c : Nat) (w : World) (h : Kd.C (Kd.int .u8) w A x.f3.length x.f3) (hn : n = x.f3.length) (hc : n ≤ c) (b : Bool) (hb : mayX x = b) :
    Calls Try.prog 41 #[.agg #[.int .i64 x.f0, .int .i64 x.f1, .int .i64 x.f2, .slice A n c]] w fun e w' => e = .returned (.bool b) ∧ Below w.heap.size w w' := by
  subst hn hb
  exact rialtoref27_May.calls 3 x.f0 x.f1 x.f2 A c x.f3 _ w h hc (rmay_f _ _ _ _)

def ofB (b : List Int) : S49 := ⟨rd b 0, rd b 1, rd b 2, b.drop 3⟩
/-- What a line is told with bytes. -/
def rdM (b : List Int) : S49 × Int := if b.length < 3 then (z49, 12) else if mayX (ofB b) then (ofB b, 0) else (z49, 2)

theorem St.step {w0 w w1 : World} {g : Nat} {l : List Int} {f : Int} (h : St w0 w g l f) (hb : Below w.heap.size w w1) : St w0 w1 g l f := by
  obtain ⟨h1, h2, A, c, h3, h4⟩ := h
  exact ⟨below_step h1 hb, h2, A, c, blk_below h3 hb, h4⟩
theorem St.set {w0 w : World} {g : Nat} {l : List Int} {f : Int} (h : St w0 w g l f) {p : Addr} (hp : g ≠ p.block) (hlo : w0.heap.size ≤ p.block) (u : Value) : St w0 (w.setCell p u) g l f := by
  obtain ⟨h1, h2, A, c, h3, h4⟩ := h
  exact ⟨h1.setCell hlo u, h2, A, c, blk_far h3 hp u, h4⟩

theorem restL_le (l : List Int) (f : Int) (m : Nat) : (restL l f m).length ≤ l.length := by unfold restL; split; rw [List.length_drop]; omega; exact Nat.le_refl _
/-- A scan (block g), a variable of four cells (block r), all else as it was. -/
structure Rw (w wA w' : World) (r g : Nat) (cs : Array Value) (l : List Int) (f : Int) : Prop where
  below : Below w.heap.size w w'
  blk : w'.heap[r]? = some (.cells cs 49 (0, 0))
  st : St wA w' g l f
  rg : r ≠ g
  lo : w.heap.size ≤ g
  lr : w.heap.size ≤ r
theorem Rw.keep1 {w wA w1 w2 : World} {r g : Nat} {cs : Array Value} {l l' : List Int} {f f' : Int} (h : Rw w wA w1 r g cs l f) (hk : Keep1 w1 w2 g) (hs : St wA w2 g l' f') : Rw w wA w2 r g cs l' f' :=
  ⟨hk.below h.below h.lo, hk.keep.blk h.blk h.rg (by simp), hs, h.rg, h.lo, h.lr⟩
theorem Rw.step {w wA w1 w2 : World} {r g : Nat} {cs : Array Value} {l : List Int} {f : Int} (h : Rw w wA w1 r g cs l f) (hb : Below w1.heap.size w1 w2) : Rw w wA w2 r g cs l f :=
  ⟨below_step h.below hb, blk_below h.blk hb, h.st.step hb, h.rg, h.lo, h.lr⟩
theorem Rw.set {w wA w1 : World} {r g q : Nat} {cs : Array Value} {l : List Int} {f : Int} (h : Rw w wA w1 r g cs l f) (hg : g ≠ q) (hr : r ≠ q) (h1 : w.heap.size ≤ q) (h2 : wA.heap.size ≤ q) (i : Nat) (u : Value) : Rw w wA (w1.setCell ⟨q, i, none⟩ u) r g cs l f :=
  ⟨h.below.setCell h1 u, blk_far h.blk (p := ⟨q, i, none⟩) hr u, h.st.set (p := ⟨q, i, none⟩) hg h2 u, h.rg, h.lo, h.lr⟩
theorem R_far1 {w : World} {base q i : Nat} {v u : Value} {xs : List Int} (h : Kd.R (Kd.int .u8) 5 w base (fun _ => True) v xs) (hq : q < base) : Kd.R (Kd.int .u8) 5 (w.setCell ⟨q, i, none⟩ u) base (fun _ => True) v xs :=
  Kd.R_mono (Kd.R_far (Kd.R_bound h) (p := ⟨q, i, none⟩) (fun k hk => by have := hk.2.1; show k ≠ q; omega) u) (fun _ _ => trivial)
def rdG (k1 k2 k3 : Nat) (d : List Int) (f : Int) : S49 × Int := if f = 0 then (if mayX ⟨k1, k2, k3, d⟩ then (⟨k1, k2, k3, d⟩, 0) else (z49, 2)) else (z49, f)
abbrev z4 : Array Value := #[.int .i64 0, .int .i64 0, .int .i64 0, .slice none 0 0]

set_option maxHeartbeats 8000000 in
set_option maxRecDepth 100000 in
theorem Read_gen (A0 : Option Addr) (c0 : Nat) (b : List Int) (w : World) (hr0 : Kd.C (Kd.int .u8) w A0 b.length b) (hc0 : b.length ≤ c0) (hb0 : bytesOk b)
    (k1 k2 k3 : Nat) (l1 l2 l3 l4 d : List Int) (f1 f2 f3 f4 : Int) (hL : b.length < 140737488355328) (hk1 : k1 < 256) (hk2 : k2 < 256) (hk3 : k3 < 256)
    (h1 : numV (takeL b 0 1) 0 = k1) (g1 : restL b 0 1 = l1) (i1 : fauL b 0 1 = f1) (h2 : numV (takeL l1 f1 1) 0 = k2) (g2 : restL l1 f1 1 = l2) (i2 : fauL l1 f1 1 = f2)
    (h3 : numV (takeL l2 f2 1) 0 = k3) (g3 : restL l2 f2 1 = l3) (i3 : fauL l2 f2 1 = f3)
    (h4 : takeL l3 f3 (leftI f3 l3.length).toNat = d) (g4 : restL l3 f3 (leftI f3 l3.length).toNat = l4) (i4 : fauL l3 f3 (leftI f3 l3.length).toNat = f4) :
    Calls Try.prog 35 #[.slice A0 b.length c0] w fun e w' => ∃ v, e = .returned (.tuple #[aggV (rdG k1 k2 k3 d f4).1 v, .int .i64 (rdG k1 k2 k3 d f4).2]) ∧ Kd.R (Kd.int .u8) 5 w' w.heap.size (fun _ => True) v (rdG k1 k2 k3 d f4).1.f3 ∧ Below w.heap.size w w' := by
  have H0 := Aside0.mk (And.intro hr0 (And.intro hc0 hb0))
  have HB1 : Aside0 (bytesOk l1) := ⟨by rw [← g1]; exact restL_ok hb0⟩
  have HB2 : Aside0 (bytesOk l2) := ⟨by rw [← g2]; exact restL_ok HB1.out⟩
  have HB3 : Aside0 (bytesOk l3) := ⟨by rw [← g3]; exact restL_ok HB2.out⟩
  have H1 := Aside0.mk (And.intro h1 (And.intro g1 i1))
  have H2 := Aside0.mk (And.intro h2 (And.intro g2 i2))
  have H3 := Aside0.mk (And.intro h3 (And.intro g3 i3))
  have H4 := Aside0.mk (And.intro h4 (And.intro g4 i4))
  clear hr0 hc0 hb0 h1 g1 i1 h2 g2 i2 h3 g3 i3 h4 g4 i4
  have HLE : Aside0 (leftI f3 l3.length < 140737488355328) := ⟨by have e1 := restL_le b 0 1; have e2 := restL_le l1 f1 1; have e3 := restL_le l2 f2 1; rw [H1.out.2.1] at e1; rw [H2.out.2.1] at e2; rw [H3.out.2.1] at e3; unfold leftI; split <;> omega⟩
  clear hL
  obtain ⟨r, hr⟩ : ∃ r, w.heap.size = r := ⟨_, rfl⟩
  have HR := Aside0.mk hr
  have HA := Aside0.mk (And.intro (below_alloc (Below.refl w.heap.size w) (.cells z4 49)) (blk_new w (.cells z4 49)))
  go_enter Try.func35, Try.ntmps35
  go_wp2_with fail
  clear hr
  obtain ⟨wA, hwA⟩ : ∃ wA, w.alloc (.cells z4 49) = wA := ⟨_, rfl⟩
  rw [hwA] at HA ⊢
  refine (From_calls A0 b c0 _ (Kd.C_below H0.out.1 HA.out.1) H0.out.2.1).mono ?_
  obtain ⟨g, hg⟩ : ∃ g, wA.heap.size = g := ⟨_, rfl⟩
  have HGA := Aside0.mk hg
  have hrg : r < g := by rw [← hg, ← hwA, ← HR.out]; simp
  rw [hg]
  rintro e w1 ⟨rfl, hS⟩
  have HW : Aside0 (Rw w wA w1 r g z4 b 0) := ⟨⟨below_step HA.out.1 hS.below, by rw [← HR.out]; exact blk_below HA.out.2 hS.below, hS, by omega, by rw [HR.out]; omega, by rw [HR.out]; omega⟩⟩
  clear hS hg hwA HA
  go_wp2_with fail
  refine (SNum_calls wA _ g b 0 1 H0.out.2.2 HW.out.st).mono ?_
  rintro e w2 ⟨rfl, hS, hK⟩
  rw [fit1, H1.out.2.1, H1.out.2.2] at hS
  rw [fit1, H1.out.1]
  have HW2 := Aside0.mk (HW.out.keep1 hK hS)
  clear hS hK HW
  go_wp2_with fail
  refine (SNum_calls wA _ g l1 f1 1 HB1.out HW2.out.st).mono ?_
  rintro e w3 ⟨rfl, hS, hK⟩
  rw [fit1, H2.out.2.1, H2.out.2.2] at hS
  rw [fit1, H2.out.1]
  have HW3 := Aside0.mk (HW2.out.keep1 hK hS)
  clear hS hK HW2
  go_wp2_with fail
  refine (SNum_calls wA _ g l2 f2 1 HB2.out HW3.out.st).mono ?_
  rintro e w4 ⟨rfl, hS, hK⟩
  rw [fit1, H3.out.2.1, H3.out.2.2] at hS
  rw [fit1, H3.out.1]
  have HW4 := Aside0.mk (HW3.out.keep1 hK hS)
  clear hS hK HW3
  obtain ⟨q, hq⟩ : ∃ q, w4.heap.size = q := ⟨_, rfl⟩
  have hgq : g < q := by have := HW4.out.st.lt; omega
  have HA := Aside0.mk (And.intro (below_alloc (Below.refl w4.heap.size w4) (.cells #[.int .i64 k1, .int .i64 k2, .int .i64 k3, .slice none 0 0] 49)) (blk_new w4 (.cells #[.int .i64 k1, .int .i64 k2, .int .i64 k3, .slice none 0 0] 49)))
  have HQ := Aside0.mk hq
  go_wp2_with fail
  clear hq
  obtain ⟨w5, hw5⟩ : ∃ w5, w4.alloc (.cells #[.int .i64 k1, .int .i64 k2, .int .i64 k3, .slice none 0 0] 49) = w5 := ⟨_, rfl⟩
  rw [hw5] at HA ⊢
  have HW5 := Aside0.mk (HW4.out.step HA.out.1)
  have hx5 := HA.out.2
  rw [HQ.out] at hx5
  have HX5 := Aside0.mk hx5
  have HQ5 : Aside0 (q < w5.heap.size) := ⟨blk_lt hx5⟩
  have HWL : Aside0 (wA.heap.size ≤ q) := ⟨by rw [HGA.out]; omega⟩
  clear hw5 HA HW4 hx5
  refine (Left_St HW5.out.st).mono ?_
  rintro e w6 ⟨rfl, rfl⟩
  go_wp2_with fail
  refine (Take_calls wA _ g l3 f3 (leftI f3 l3.length) ?hl HW5.out.st).mono ?_
  case hl => exact HLE.out
  rintro e w6 ⟨v, rfl, hR, hS, hK⟩
  rw [H4.out.2.1, H4.out.2.2] at hS
  rw [H4.out.1] at hR
  have HW6 := Aside0.mk (HW5.out.keep1 hK hS)
  have HX6 := Aside0.mk (hK.keep.blk HX5.out (by omega) (by simp))
  have HD6 := Aside0.mk (And.intro hR hK.keep.1)
  obtain ⟨Ad, cd, ed⟩ := Kd.R_slice hR
  subst ed
  clear hR hS hK HW5 HX5
  have hc3 : w6.cell? ⟨q, 3, none⟩ = some (.slice none 0 0) := blk_cell HX6.out 3
  have hfr : w6.frozen? ⟨q, 3, none⟩ = false := blk_frozen HX6.out 3
  go_wp2_with fail
  obtain ⟨w7, hw7⟩ : ∃ w7, w6.setCell ⟨q, 3, none⟩ (.slice Ad d.length cd) = w7 := ⟨_, rfl⟩
  have h7 := HW6.out.set (q := q) (by omega) (by omega) (by have := HW6.out.lo; omega) HWL.out 3 (.slice Ad d.length cd)
  have x7 := blk_set HX6.out 3 (.slice Ad d.length cd)
  have d7 := R_far1 (q := q) (i := 3) (u := .slice Ad d.length cd) HD6.out.1 HQ5.out
  rw [hw7] at h7 x7 d7 ⊢
  have HW7 := Aside0.mk h7
  have HX7 : Aside0 (w7.heap[q]? = some (.cells #[.int .i64 k1, .int .i64 k2, .int .i64 k3, .slice Ad d.length cd] 49 (0, 0))) := ⟨x7⟩
  have HD7 := Aside0.mk d7
  clear h7 x7 d7 hw7 HW6 HX6 HD6 hc3 hfr
  refine (Fault_St HW7.out.st).mono ?_
  rintro e w8 ⟨rfl, rfl⟩
  have r0 : w7.cell? ⟨r, 0, none⟩ = some (.int .i64 0) := blk_cell HW7.out.blk 0
  have r1 : w7.cell? ⟨r, 1, none⟩ = some (.int .i64 0) := blk_cell HW7.out.blk 1
  have r2 : w7.cell? ⟨r, 2, none⟩ = some (.int .i64 0) := blk_cell HW7.out.blk 2
  have r3 : w7.cell? ⟨r, 3, none⟩ = some (.slice none 0 0) := blk_cell HW7.out.blk 3
  have s0 : w7.frozen? ⟨r, 0, none⟩ = false := blk_frozen HW7.out.blk 0
  have s1 : w7.frozen? ⟨r, 1, none⟩ = false := blk_frozen HW7.out.blk 1
  have s2 : w7.frozen? ⟨r, 2, none⟩ = false := blk_frozen HW7.out.blk 2
  have s3 : w7.frozen? ⟨r, 3, none⟩ = false := blk_frozen HW7.out.blk 3
  have HBW := Aside0.mk HW7.out.below
  have HWS : Aside0 (w.heap.size ≤ w5.heap.size ∧ r < w5.heap.size) := ⟨by have := HQ5.out; have := HW7.out.lo; omega, by have := HQ5.out; omega⟩
  by_cases hf : f4 = 0
  · subst hf
    have x0 : w7.cell? ⟨q, 0, none⟩ = some (.int .i64 k1) := blk_cell HX7.out 0
    have x1 : w7.cell? ⟨q, 1, none⟩ = some (.int .i64 k2) := blk_cell HX7.out 1
    have x2 : w7.cell? ⟨q, 2, none⟩ = some (.int .i64 k3) := blk_cell HX7.out 2
    have x3 : w7.cell? ⟨q, 3, none⟩ = some (.slice Ad d.length cd) := blk_cell HX7.out 3
    obtain ⟨bm, hbm⟩ : ∃ bm, mayX ⟨k1, k2, k3, d⟩ = bm := ⟨_, rfl⟩
    have HG : Aside0 (rdG k1 k2 k3 d 0 = if bm then (⟨k1, k2, k3, d⟩, 0) else (z49, 2)) := ⟨by unfold rdG; rw [if_pos rfl, hbm]⟩
    have HBM := Aside0.mk hbm
    clear hbm
    go_wp2_with fail
    refine (May_calls ⟨k1, k2, k3, d⟩ Ad d.length cd _ (Kd.R_reads' HD7.out).2.2 rfl (Kd.R_reads' HD7.out).2.1 bm HBM.out).mono ?_
    rintro e w8 ⟨rfl, hB8⟩
    have HR8 := Aside0.mk (blk_below HW7.out.blk hB8)
    have HX8 := Aside0.mk (blk_below HX7.out hB8)
    have HD8 := Aside0.mk (Kd.R_below HD7.out hB8)
    have HB8 := Aside0.mk (below_step HBW.out hB8)
    clear hB8 r0 r1 r2 r3 s0 s1 s2 s3 x0 x1 x2 x3 HW7 HX7 HD7 HBW
    have r0 : w8.cell? ⟨r, 0, none⟩ = some (.int .i64 0) := blk_cell HR8.out 0
    have r1 : w8.cell? ⟨r, 1, none⟩ = some (.int .i64 0) := blk_cell HR8.out 1
    have r2 : w8.cell? ⟨r, 2, none⟩ = some (.int .i64 0) := blk_cell HR8.out 2
    have r3 : w8.cell? ⟨r, 3, none⟩ = some (.slice none 0 0) := blk_cell HR8.out 3
    have s0 : w8.frozen? ⟨r, 0, none⟩ = false := blk_frozen HR8.out 0
    have s1 : w8.frozen? ⟨r, 1, none⟩ = false := blk_frozen HR8.out 1
    have s2 : w8.frozen? ⟨r, 2, none⟩ = false := blk_frozen HR8.out 2
    have s3 : w8.frozen? ⟨r, 3, none⟩ = false := blk_frozen HR8.out 3
    have x0 : w8.cell? ⟨q, 0, none⟩ = some (.int .i64 k1) := blk_cell HX8.out 0
    have x1 : w8.cell? ⟨q, 1, none⟩ = some (.int .i64 k2) := blk_cell HX8.out 1
    have x2 : w8.cell? ⟨q, 2, none⟩ = some (.int .i64 k3) := blk_cell HX8.out 2
    have x3 : w8.cell? ⟨q, 3, none⟩ = some (.slice Ad d.length cd) := blk_cell HX8.out 3
    cases bm with
    | false =>
      go_wp2_with fail
      have hfin : (((((w8.setCell ⟨r, 0, none⟩ (.int .i64 0)).setCell ⟨r, 1, none⟩ (.int .i64 0)).setCell ⟨r, 2, none⟩ (.int .i64 0)).setCell ⟨r, 3, none⟩ (.slice none 0 0)).heap[r]? = some (.cells z4 49 (0, 0))) :=
        blk_set (blk_set (blk_set (blk_set HR8.out 0 _) 1 _) 2 _) 3 _
      refine bodyPost_ret (results_ct rfl _ _ r 49 z4 (0, 0) _ rfl hfin Try.underlying49 rfl (by kernel_rfl)) rfl ?_
      refine ⟨.slice none 0 0, by rw [HG.out]; rfl, by rw [HG.out]; exact Kd.R_nil _ _ _ _ _, ?_⟩
      exact (((HB8.out.setCell (Nat.le_of_eq HR.out) _).setCell (Nat.le_of_eq HR.out) _).setCell (Nat.le_of_eq HR.out) _).setCell (Nat.le_of_eq HR.out) _
    | true =>
      go_wp2_with fail
      have hfin : (((((w8.setCell ⟨r, 0, none⟩ (.int .i64 k1)).setCell ⟨r, 1, none⟩ (.int .i64 k2)).setCell ⟨r, 2, none⟩ (.int .i64 k3)).setCell ⟨r, 3, none⟩ (.slice Ad d.length cd)).heap[r]? = some (.cells #[.int .i64 k1, .int .i64 k2, .int .i64 k3, .slice Ad d.length cd] 49 (0, 0))) :=
        blk_set (blk_set (blk_set (blk_set HR8.out 0 _) 1 _) 2 _) 3 _
      refine bodyPost_ret (results_ct rfl _ _ r 49 #[.int .i64 k1, .int .i64 k2, .int .i64 k3, .slice Ad d.length cd] (0, 0) _ rfl hfin Try.underlying49 rfl (by kernel_rfl)) rfl ?_
      refine ⟨.slice Ad d.length cd, by rw [HG.out]; rfl, ?_, ?_⟩
      · rw [HG.out]
        exact Kd.R_lower (R_far1 (R_far1 (R_far1 (R_far1 HD8.out HWS.out.2) HWS.out.2) HWS.out.2) HWS.out.2) HWS.out.1
      · exact (((HB8.out.setCell (Nat.le_of_eq HR.out) _).setCell (Nat.le_of_eq HR.out) _).setCell (Nat.le_of_eq HR.out) _).setCell (Nat.le_of_eq HR.out) _
  · have HG : Aside0 (rdG k1 k2 k3 d f4 = (z49, f4)) := ⟨if_neg hf⟩
    go_wp2_with fail
    refine (Fault_St HW7.out.st).mono ?_
    rintro e w8 ⟨rfl, rfl⟩
    go_wp2_with fail
    have hfin : (((((w7.setCell ⟨r, 0, none⟩ (.int .i64 0)).setCell ⟨r, 1, none⟩ (.int .i64 0)).setCell ⟨r, 2, none⟩ (.int .i64 0)).setCell ⟨r, 3, none⟩ (.slice none 0 0)).heap[r]? = some (.cells z4 49 (0, 0))) :=
      blk_set (blk_set (blk_set (blk_set HW7.out.blk 0 _) 1 _) 2 _) 3 _
    refine bodyPost_ret (results_ct rfl _ _ r 49 z4 (0, 0) _ rfl hfin Try.underlying49 rfl (by kernel_rfl)) rfl ?_
    refine ⟨.slice none 0 0, by rw [HG.out]; rfl, by rw [HG.out]; exact Kd.R_nil _ _ _ _ _, ?_⟩
    exact (((HBW.out.setCell (Nat.le_of_eq HR.out) _).setCell (Nat.le_of_eq HR.out) _).setCell (Nat.le_of_eq HR.out) _).setCell (Nat.le_of_eq HR.out) _

theorem Read_calls (A0 : Option Addr) (c0 : Nat) (b : List Int) (w : World) (hr0 : Kd.C (Kd.int .u8) w A0 b.length b) (hc0 : b.length ≤ c0) (hb0 : bytesOk b) (hL : b.length < 140737488355328) (x : S49) (er : Int) (hx : rdM b = (x, er)) :
    Calls Try.prog 35 #[.slice A0 b.length c0] w fun e w' => ∃ A c, e = .returned (.tuple #[.agg #[.int .i64 x.f0, .int .i64 x.f1, .int .i64 x.f2, .slice A x.f3.length c], .int .i64 er]) ∧ Kd.R (Kd.int .u8) 5 w' w.heap.size (fun _ => True) (.slice A x.f3.length c) x.f3 ∧ Below w.heap.size w w' := by
  have fin : ∀ {k1 k2 k3 : Nat} {d : List Int} {f : Int} {e : Ending} {w' : World}, rdG k1 k2 k3 d f = rdM b → (∃ v, e = .returned (.tuple #[aggV (rdG k1 k2 k3 d f).1 v, .int .i64 (rdG k1 k2 k3 d f).2]) ∧ Kd.R (Kd.int .u8) 5 w' w.heap.size (fun _ => True) v (rdG k1 k2 k3 d f).1.f3 ∧ Below w.heap.size w w') →
      ∃ A c, e = .returned (.tuple #[.agg #[.int .i64 x.f0, .int .i64 x.f1, .int .i64 x.f2, .slice A x.f3.length c], .int .i64 er]) ∧ Kd.R (Kd.int .u8) 5 w' w.heap.size (fun _ => True) (.slice A x.f3.length c) x.f3 ∧ Below w.heap.size w w' := by
    rintro k1 k2 k3 d f e w' he ⟨v, rfl, hR, hB⟩
    rw [he, hx] at hR ⊢
    obtain ⟨A, c, rfl⟩ := Kd.R_slice hR
    exact ⟨A, c, rfl, hR, hB⟩
  rcases b with _ | ⟨p, _ | ⟨q, _ | ⟨s, t⟩⟩⟩
  · exact (Read_gen A0 c0 [] w hr0 hc0 hb0 0 0 0 _ _ _ _ _ _ _ _ _ hL (by omega) (by omega) (by omega) rfl rfl rfl rfl rfl rfl rfl rfl rfl rfl rfl rfl).mono fun e w' h => fin rfl h
  · have hp := hb0 p (by simp)
    exact (Read_gen A0 c0 [p] w hr0 hc0 hb0 p.toNat 0 0 _ _ _ _ _ _ _ _ _ hL (by omega) (by omega) (by omega) (by simp [takeL, numV]; omega) rfl rfl rfl rfl rfl rfl rfl rfl rfl rfl rfl).mono fun e w' h => fin rfl h
  · have hp := hb0 p (by simp)
    have hq := hb0 q (by simp)
    exact (Read_gen A0 c0 [p, q] w hr0 hc0 hb0 p.toNat q.toNat 0 _ _ _ _ _ _ _ _ _ hL (by omega) (by omega) (by omega) (by simp [takeL, numV]; omega) rfl rfl (by simp [takeL, restL, fauL, numV]; omega) rfl rfl rfl rfl rfl rfl rfl rfl).mono fun e w' h => fin rfl h
  · have hp := hb0 p (by simp)
    have hq := hb0 q (by simp)
    have hs := hb0 s (by simp)
    refine (Read_gen A0 c0 (p :: q :: s :: t) w hr0 hc0 hb0 p.toNat q.toNat s.toNat (q :: s :: t) (s :: t) t [] t 0 0 0 0 hL (by omega) (by omega) (by omega) (by simp [takeL, numV]; omega) (by simp [restL]) (by simp [fauL]) (by simp [takeL, numV]; omega) (by simp [restL]) (by simp [fauL])
      (by simp [takeL, numV]; omega) (by simp [restL]) (by simp [fauL]) (by simp [takeL, leftI]) (by simp [restL, leftI]) (by simp [fauL, leftI])).mono fun e w' h => fin ?_ h
    have e0 : ofB (p :: q :: s :: t) = ⟨p, q, s, t⟩ := rfl
    unfold rdG rdM
    rw [if_pos rfl, if_neg (show ¬ (p :: q :: s :: t).length < 3 by simp), e0, show ((p.toNat : Nat) : Int) = p by omega, show ((q.toNat : Nat) : Int) = q by omega, show ((s.toNat : Nat) : Int) = s by omega]
end Go.Proofs.Ytkfninhbbcfdcaa.Giv

namespace Go.Proofs.Ytkfninhbbcfdcaa.Giv
open Go.RowKit Go.Proofs.YtkfninhbbcfdcaaW.PrintWords Go.Proofs.YtkfninhbbcfdcaaW.PrintLast Go.Proofs.YtkfninhbbcfdcaaW.PrintMore Go.Proofs.Ytkfninhbbcfdcaa.PReplyTells
set_option linter.unusedVariables false
set_option linter.unusedSimpArgs false

set_option maxHeartbeats 8000000 in
set_option maxRecDepth 100000 in
theorem rRead_short (A0 : Option Addr) (c0 n : Nat) (w : World) (hs : n < 3) :
    Calls Try.prog 36 #[.slice A0 n c0] w fun e w' => e = .returned (.tuple #[.agg #[.int .i64 0, .int .i64 0, .int .i64 0, .slice none 0 0], .int .i64 12]) ∧ Below w.heap.size w w' := by
  obtain ⟨r, hr⟩ : ∃ r, w.heap.size = r := ⟨_, rfl⟩
  have HR := Aside0.mk hr
  have HA := Aside0.mk (And.intro (below_alloc (Below.refl w.heap.size w) (.cells z4 49)) (blk_new w (.cells z4 49)))
  go_enter Try.func36, Try.ntmps36
  go_wp2_with fail
  refine bodyPost_ret (results_ct rfl _ _ r 49 z4 (0, 0) _ rfl (by have := HA.out.2; rw [HR.out] at this; exact this) Try.underlying49 rfl (by kernel_rfl)) rfl ?_
  exact ⟨rfl, HA.out.1⟩

set_option maxHeartbeats 8000000 in
set_option maxRecDepth 100000 in
theorem rRead_go (c0 n : Nat) (w : World) (ad : Addr) (hn : 3 ≤ n) (hc : n ≤ c0) (hmx : (n : Int) ≤ 9223372036854775807) (p q s : Int) (hp : 0 ≤ p ∧ p < 256) (hq : 0 ≤ q ∧ q < 256) (hs : 0 ≤ s ∧ s < 256)
    (e0 : w.cell? ad = some (.int .u8 p)) (e1 : w.cell? ⟨ad.block, ad.off + 1, none⟩ = some (.int .u8 q)) (e2 : w.cell? ⟨ad.block, ad.off + 2, none⟩ = some (.int .u8 s))
    (A1 : Option Addr) (hA1 : A1 = if c0 = 3 then some ad else some ⟨ad.block, ad.off + 3, none⟩) (t : List Int) (ht : Kd.C (Kd.int .u8) w A1 t.length t) (htl : t.length = n - 3) (bm : Bool) (hbm : mayX ⟨p, q, s, t⟩ = bm) :
    Calls Try.prog 36 #[.slice (some ad) n c0] w fun e w' => e = .returned (if bm then .tuple #[.agg #[.int .i64 p, .int .i64 q, .int .i64 s, .slice A1 (n - 3) (c0 - 3)], .int .i64 0] else .tuple #[.agg #[.int .i64 0, .int .i64 0, .int .i64 0, .slice none 0 0], .int .i64 2]) ∧ Below w.heap.size w w' := by
  obtain ⟨r, hr⟩ : ∃ r, w.heap.size = r := ⟨_, rfl⟩
  have HR := Aside0.mk hr
  have HA := Aside0.mk (And.intro (below_alloc (Below.refl w.heap.size w) (.cells z4 49)) (blk_new w (.cells z4 49)))
  have HT := Aside0.mk (And.intro ht (And.intro htl hbm))
  have HE := Aside0.mk (And.intro e0 (And.intro e1 e2))
  clear ht htl hbm e0 e1 e2
  have hc3 : 3 ≤ c0 := by omega
  have hn0 : (0 : Int) < n := by omega
  have hn1 : (1 : Int) < n := by omega
  have hn2 : (2 : Int) < n := by omega
  have hn3 : (3 : Int) ≤ n := by omega
  have hN0 : 0 < n := by omega
  have hwp : IntKind.i64.wrap p = p := by rw [IntKind.wrap_i64]; omega
  have hwq : IntKind.i64.wrap q = q := by rw [IntKind.wrap_i64]; omega
  have hws : IntKind.i64.wrap s = s := by rw [IntKind.wrap_i64]; omega
  by_cases h3 : c0 = 3
  · subst h3
    obtain rfl : n = 3 := by omega
    rw [if_pos rfl] at hA1
    subst hA1
    go_enter Try.func36, Try.ntmps36
    go_wp2_with fail
    clear hr
    obtain ⟨w1, hw1⟩ : ∃ w1, w.alloc (.cells z4 49) = w1 := ⟨_, rfl⟩
    rw [hw1] at HA ⊢
    have d0 := fun (W' : World) (h_ : Below w1.heap.size w1 W') => pw_cell_below (below_step HA.out.1 h_) HE.out.1
    have d1 := fun (W' : World) (h_ : Below w1.heap.size w1 W') => pw_cell_below (below_step HA.out.1 h_) HE.out.2.1
    have d2 := fun (W' : World) (h_ : Below w1.heap.size w1 W') => pw_cell_below (below_step HA.out.1 h_) HE.out.2.2
    clear hw1
    obtain ⟨z, hz⟩ : ∃ z, w1.heap.size = z := ⟨_, rfl⟩
    have HZ := Aside0.mk hz
    have HN := Aside0.mk (And.intro (below_drew (below_alloc (Below.refl w1.heap.size w1) (.cells #[.int .i64 p, .int .i64 q, .int .i64 s, .slice (some ad) 0 0] 49))) (blk_drew (blk_new w1 (.cells #[.int .i64 p, .int .i64 q, .int .i64 s, .slice (some ad) 0 0] 49))))
    clear hz
    go_region_held3 (fun w' => Below w1.heap.size w1 w') (first | assumption | exact Below.refl _ _ | exact below_alloc (by assumption) _ | exact below_alloc (Below.refl _ _) _ | exact below_drew (below_alloc (by assumption) _) | exact below_drew (below_alloc (Below.refl _ _) _) | exact below_step (by assumption) (by assumption) | exact below_step (by assumption) (Drawn0.below (by assumption)) | exact below_drew (by assumption) | exact below_drew (Below.refl _ _)) (fail)
    rename_i hHeld
    obtain ⟨w7, hw7⟩ : ∃ w7, (w1.alloc (.cells #[.int .i64 p, .int .i64 q, .int .i64 s, .slice (some ad) 0 0] 49)).drew = w7 := ⟨_, rfl⟩
    rw [hw7] at HN ⊢
    have hn2' := HN.out.2
    rw [HZ.out] at hn2' ⊢
    have HX7 := Aside0.mk hn2'
    have HB7 := Aside0.mk (below_step HA.out.1 HN.out.1)
    have hr7 := blk_below HA.out.2 HN.out.1
    rw [HR.out] at hr7
    have HR7 := Aside0.mk hr7
    have HZL : Aside0 (r < z) := ⟨by have := blk_lt HA.out.2; rw [HR.out, HZ.out] at this; exact this⟩
    clear hHeld hw7 hn2' d0 d1 d2 hr7
    have x0 : w7.cell? ⟨z, 0, none⟩ = some (.int .i64 p) := blk_cell HX7.out 0
    have x1 : w7.cell? ⟨z, 1, none⟩ = some (.int .i64 q) := blk_cell HX7.out 1
    have x2 : w7.cell? ⟨z, 2, none⟩ = some (.int .i64 s) := blk_cell HX7.out 2
    have x3 : w7.cell? ⟨z, 3, none⟩ = some (.slice (some ad) 0 0) := blk_cell HX7.out 3
    go_wp2_with fail
    refine (rMay_calls ⟨p, q, s, t⟩ (some ad) 0 (0) _ (Kd.C_below HT.out.1 HB7.out) (by have := HT.out.2.1; simp only; omega) (by omega) bm HT.out.2.2).mono ?_
    rintro e w8 ⟨rfl, hB8⟩
    have HR8 := Aside0.mk (blk_below HR7.out hB8)
    have HX8 := Aside0.mk (blk_below HX7.out hB8)
    have HB8 := Aside0.mk (below_step HB7.out hB8)
    clear hB8 x0 x1 x2 x3 HX7 HR7 HB7
    have r0 : w8.cell? ⟨r, 0, none⟩ = some (.int .i64 0) := blk_cell HR8.out 0
    have r1 : w8.cell? ⟨r, 1, none⟩ = some (.int .i64 0) := blk_cell HR8.out 1
    have r2 : w8.cell? ⟨r, 2, none⟩ = some (.int .i64 0) := blk_cell HR8.out 2
    have r3 : w8.cell? ⟨r, 3, none⟩ = some (.slice none 0 0) := blk_cell HR8.out 3
    have s0 : w8.frozen? ⟨r, 0, none⟩ = false := blk_frozen HR8.out 0
    have s1 : w8.frozen? ⟨r, 1, none⟩ = false := blk_frozen HR8.out 1
    have s2 : w8.frozen? ⟨r, 2, none⟩ = false := blk_frozen HR8.out 2
    have s3 : w8.frozen? ⟨r, 3, none⟩ = false := blk_frozen HR8.out 3
    have x0 : w8.cell? ⟨z, 0, none⟩ = some (.int .i64 p) := blk_cell HX8.out 0
    have x1 : w8.cell? ⟨z, 1, none⟩ = some (.int .i64 q) := blk_cell HX8.out 1
    have x2 : w8.cell? ⟨z, 2, none⟩ = some (.int .i64 s) := blk_cell HX8.out 2
    have x3 : w8.cell? ⟨z, 3, none⟩ = some (.slice (some ad) 0 0) := blk_cell HX8.out 3
    cases bm with
    | false =>
      go_wp2_with fail
      have hfin : (((((w8.setCell ⟨r, 0, none⟩ (.int .i64 0)).setCell ⟨r, 1, none⟩ (.int .i64 0)).setCell ⟨r, 2, none⟩ (.int .i64 0)).setCell ⟨r, 3, none⟩ (.slice none 0 0)).heap[r]? = some (.cells z4 49 (0, 0))) :=
        blk_set (blk_set (blk_set (blk_set HR8.out 0 _) 1 _) 2 _) 3 _
      refine bodyPost_ret (results_ct rfl _ _ r 49 z4 (0, 0) _ rfl hfin Try.underlying49 rfl (by kernel_rfl)) rfl ?_
      exact ⟨rfl, (((HB8.out.setCell (Nat.le_of_eq HR.out) _).setCell (Nat.le_of_eq HR.out) _).setCell (Nat.le_of_eq HR.out) _).setCell (Nat.le_of_eq HR.out) _⟩
    | true =>
      go_wp2_with fail
      have hfin : (((((w8.setCell ⟨r, 0, none⟩ (.int .i64 p)).setCell ⟨r, 1, none⟩ (.int .i64 q)).setCell ⟨r, 2, none⟩ (.int .i64 s)).setCell ⟨r, 3, none⟩ (.slice (some ad) 0 0)).heap[r]? = some (.cells #[.int .i64 p, .int .i64 q, .int .i64 s, .slice (some ad) 0 0] 49 (0, 0))) :=
        blk_set (blk_set (blk_set (blk_set HR8.out 0 _) 1 _) 2 _) 3 _
      refine bodyPost_ret (results_ct rfl _ _ r 49 #[.int .i64 p, .int .i64 q, .int .i64 s, .slice (some ad) 0 0] (0, 0) _ rfl hfin Try.underlying49 rfl (by kernel_rfl)) rfl ?_
      exact ⟨rfl, (((HB8.out.setCell (Nat.le_of_eq HR.out) _).setCell (Nat.le_of_eq HR.out) _).setCell (Nat.le_of_eq HR.out) _).setCell (Nat.le_of_eq HR.out) _⟩
  · rw [if_neg h3] at hA1
    subst hA1
    go_enter Try.func36, Try.ntmps36
    go_wp2_with fail
    clear hr
    obtain ⟨w1, hw1⟩ : ∃ w1, w.alloc (.cells z4 49) = w1 := ⟨_, rfl⟩
    rw [hw1] at HA ⊢
    have d0 := fun (W' : World) (h_ : Below w1.heap.size w1 W') => pw_cell_below (below_step HA.out.1 h_) HE.out.1
    have d1 := fun (W' : World) (h_ : Below w1.heap.size w1 W') => pw_cell_below (below_step HA.out.1 h_) HE.out.2.1
    have d2 := fun (W' : World) (h_ : Below w1.heap.size w1 W') => pw_cell_below (below_step HA.out.1 h_) HE.out.2.2
    clear hw1
    obtain ⟨z, hz⟩ : ∃ z, w1.heap.size = z := ⟨_, rfl⟩
    have HZ := Aside0.mk hz
    have HN := Aside0.mk (And.intro (below_drew (below_alloc (Below.refl w1.heap.size w1) (.cells #[.int .i64 p, .int .i64 q, .int .i64 s, .slice (some ⟨ad.block, ad.off + 3, none⟩) (n - 3) (c0 - 3)] 49))) (blk_drew (blk_new w1 (.cells #[.int .i64 p, .int .i64 q, .int .i64 s, .slice (some ⟨ad.block, ad.off + 3, none⟩) (n - 3) (c0 - 3)] 49))))
    clear hz
    go_region_held3 (fun w' => Below w1.heap.size w1 w') (first | assumption | exact Below.refl _ _ | exact below_alloc (by assumption) _ | exact below_alloc (Below.refl _ _) _ | exact below_drew (below_alloc (by assumption) _) | exact below_drew (below_alloc (Below.refl _ _) _) | exact below_step (by assumption) (by assumption) | exact below_step (by assumption) (Drawn0.below (by assumption)) | exact below_drew (by assumption) | exact below_drew (Below.refl _ _)) (fail)
    rename_i hHeld
    obtain ⟨w7, hw7⟩ : ∃ w7, (w1.alloc (.cells #[.int .i64 p, .int .i64 q, .int .i64 s, .slice (some ⟨ad.block, ad.off + 3, none⟩) (n - 3) (c0 - 3)] 49)).drew = w7 := ⟨_, rfl⟩
    rw [hw7] at HN ⊢
    have hn2' := HN.out.2
    rw [HZ.out] at hn2' ⊢
    have HX7 := Aside0.mk hn2'
    have HB7 := Aside0.mk (below_step HA.out.1 HN.out.1)
    have hr7 := blk_below HA.out.2 HN.out.1
    rw [HR.out] at hr7
    have HR7 := Aside0.mk hr7
    have HZL : Aside0 (r < z) := ⟨by have := blk_lt HA.out.2; rw [HR.out, HZ.out] at this; exact this⟩
    clear hHeld hw7 hn2' d0 d1 d2 hr7
    have x0 : w7.cell? ⟨z, 0, none⟩ = some (.int .i64 p) := blk_cell HX7.out 0
    have x1 : w7.cell? ⟨z, 1, none⟩ = some (.int .i64 q) := blk_cell HX7.out 1
    have x2 : w7.cell? ⟨z, 2, none⟩ = some (.int .i64 s) := blk_cell HX7.out 2
    have x3 : w7.cell? ⟨z, 3, none⟩ = some (.slice (some ⟨ad.block, ad.off + 3, none⟩) (n - 3) (c0 - 3)) := blk_cell HX7.out 3
    go_wp2_with fail
    refine (rMay_calls ⟨p, q, s, t⟩ (some ⟨ad.block, ad.off + 3, none⟩) (n - 3) ((c0 - 3)) _ (Kd.C_below HT.out.1 HB7.out) (by have := HT.out.2.1; simp only; omega) (by omega) bm HT.out.2.2).mono ?_
    rintro e w8 ⟨rfl, hB8⟩
    have HR8 := Aside0.mk (blk_below HR7.out hB8)
    have HX8 := Aside0.mk (blk_below HX7.out hB8)
    have HB8 := Aside0.mk (below_step HB7.out hB8)
    clear hB8 x0 x1 x2 x3 HX7 HR7 HB7
    have r0 : w8.cell? ⟨r, 0, none⟩ = some (.int .i64 0) := blk_cell HR8.out 0
    have r1 : w8.cell? ⟨r, 1, none⟩ = some (.int .i64 0) := blk_cell HR8.out 1
    have r2 : w8.cell? ⟨r, 2, none⟩ = some (.int .i64 0) := blk_cell HR8.out 2
    have r3 : w8.cell? ⟨r, 3, none⟩ = some (.slice none 0 0) := blk_cell HR8.out 3
    have s0 : w8.frozen? ⟨r, 0, none⟩ = false := blk_frozen HR8.out 0
    have s1 : w8.frozen? ⟨r, 1, none⟩ = false := blk_frozen HR8.out 1
    have s2 : w8.frozen? ⟨r, 2, none⟩ = false := blk_frozen HR8.out 2
    have s3 : w8.frozen? ⟨r, 3, none⟩ = false := blk_frozen HR8.out 3
    have x0 : w8.cell? ⟨z, 0, none⟩ = some (.int .i64 p) := blk_cell HX8.out 0
    have x1 : w8.cell? ⟨z, 1, none⟩ = some (.int .i64 q) := blk_cell HX8.out 1
    have x2 : w8.cell? ⟨z, 2, none⟩ = some (.int .i64 s) := blk_cell HX8.out 2
    have x3 : w8.cell? ⟨z, 3, none⟩ = some (.slice (some ⟨ad.block, ad.off + 3, none⟩) (n - 3) (c0 - 3)) := blk_cell HX8.out 3
    cases bm with
    | false =>
      go_wp2_with fail
      have hfin : (((((w8.setCell ⟨r, 0, none⟩ (.int .i64 0)).setCell ⟨r, 1, none⟩ (.int .i64 0)).setCell ⟨r, 2, none⟩ (.int .i64 0)).setCell ⟨r, 3, none⟩ (.slice none 0 0)).heap[r]? = some (.cells z4 49 (0, 0))) :=
        blk_set (blk_set (blk_set (blk_set HR8.out 0 _) 1 _) 2 _) 3 _
      refine bodyPost_ret (results_ct rfl _ _ r 49 z4 (0, 0) _ rfl hfin Try.underlying49 rfl (by kernel_rfl)) rfl ?_
      exact ⟨rfl, (((HB8.out.setCell (Nat.le_of_eq HR.out) _).setCell (Nat.le_of_eq HR.out) _).setCell (Nat.le_of_eq HR.out) _).setCell (Nat.le_of_eq HR.out) _⟩
    | true =>
      go_wp2_with fail
      have hfin : (((((w8.setCell ⟨r, 0, none⟩ (.int .i64 p)).setCell ⟨r, 1, none⟩ (.int .i64 q)).setCell ⟨r, 2, none⟩ (.int .i64 s)).setCell ⟨r, 3, none⟩ (.slice (some ⟨ad.block, ad.off + 3, none⟩) (n - 3) (c0 - 3))).heap[r]? = some (.cells #[.int .i64 p, .int .i64 q, .int .i64 s, .slice (some ⟨ad.block, ad.off + 3, none⟩) (n - 3) (c0 - 3)] 49 (0, 0))) :=
        blk_set (blk_set (blk_set (blk_set HR8.out 0 _) 1 _) 2 _) 3 _
      refine bodyPost_ret (results_ct rfl _ _ r 49 #[.int .i64 p, .int .i64 q, .int .i64 s, .slice (some ⟨ad.block, ad.off + 3, none⟩) (n - 3) (c0 - 3)] (0, 0) _ rfl hfin Try.underlying49 rfl (by kernel_rfl)) rfl ?_
      exact ⟨rfl, (((HB8.out.setCell (Nat.le_of_eq HR.out) _).setCell (Nat.le_of_eq HR.out) _).setCell (Nat.le_of_eq HR.out) _).setCell (Nat.le_of_eq HR.out) _⟩

theorem rRead_calls (A0 : Option Addr) (c0 : Nat) (b : List Int) (w0 w : World) (hB0 : Below w0.heap.size w0 w) (hr00 : Kd.C (Kd.int .u8) w0 A0 b.length b) (hc0 : b.length ≤ c0) (hb0 : bytesOk b) (x : S49) (er : Int) (hx : rdM b = (x, er)) :
    Calls Try.prog 36 #[.slice A0 b.length c0] w fun e w' => (∃ A c, e = .returned (.tuple #[.agg #[.int .i64 x.f0, .int .i64 x.f1, .int .i64 x.f2, .slice A x.f3.length c], .int .i64 er]) ∧ Kd.C (Kd.int .u8) w0 A x.f3.length x.f3 ∧ x.f3.length ≤ c) ∧ Below w.heap.size w w' := by
  have hr0 := Kd.C_below hr00 hB0
  have hmx : ((b.length : Nat) : Int) ≤ 9223372036854775807 := by have := hr0.2.1; omega
  by_cases h3 : b.length < 3
  · have e : rdM b = (z49, 12) := if_pos h3
    rw [e] at hx
    injection hx with h1 h2
    subst h1 h2
    refine (rRead_short A0 c0 b.length w h3).mono ?_
    rintro e w' ⟨rfl, hB⟩
    exact ⟨⟨none, 0, rfl, C_nil _ _, Nat.le_refl _⟩, hB⟩
  · rcases b with _ | ⟨p, _ | ⟨q, _ | ⟨s, t⟩⟩⟩
    · simp at h3
    · simp at h3
    · simp at h3
    · have e0 : ofB (p :: q :: s :: t) = ⟨p, q, s, t⟩ := rfl
      have hn : (p :: q :: s :: t).length = t.length + 3 := rfl
      obtain ⟨ad, hA, k0⟩ := Kd.at_int hr0 0 (by omega) (by omega)
      subst hA
      obtain ⟨ad1, hA1, k1⟩ := Kd.at_int hr0 1 (by omega) (by omega)
      injection hA1 with hA1
      subst hA1
      obtain ⟨ad1, hA1, k2⟩ := Kd.at_int hr0 2 (by omega) (by omega)
      injection hA1 with hA1
      subst hA1
      have k0 : w.cell? ad = some (.int .u8 p) := by simpa [rd, Addr.add] using k0
      have k1 : w.cell? ⟨ad.block, ad.off + 1, none⟩ = some (.int .u8 q) := by simpa [rd, Addr.add] using k1
      have k2 : w.cell? ⟨ad.block, ad.off + 2, none⟩ = some (.int .u8 s) := by simpa [rd, Addr.add] using k2
      have hD := C_drop1 hr0 (m := 3) (c := c0) (by omega) hc0
      have hD0 := C_drop1 hr00 (m := 3) (c := c0) (by omega) hc0
      have ht : Kd.C (Kd.int .u8) w (if c0 = 3 then some ad else some ⟨ad.block, ad.off + 3, none⟩) t.length t := hD
      have ht0 : Kd.C (Kd.int .u8) w0 (if c0 = 3 then some ad else some ⟨ad.block, ad.off + 3, none⟩) t.length t := hD0
      refine (rRead_go c0 (p :: q :: s :: t).length w ad (by omega) hc0 hmx p q s (hb0 p (by simp)) (hb0 q (by simp)) (hb0 s (by simp)) k0 k1 k2 _ rfl t ht (by omega) _ rfl).mono ?_
      rintro e w' ⟨rfl, hB⟩
      refine ⟨?_, hB⟩
      unfold rdM at hx
      rw [if_neg h3, e0] at hx
      cases hm : mayX ⟨p, q, s, t⟩ with
      | true =>
        rw [hm, if_pos rfl] at hx
        injection hx with h1 h2
        subst h1 h2
        exact ⟨_, _, rfl, ht0, by simp only; omega⟩
      | false =>
        rw [hm, if_neg (by decide)] at hx
        injection hx with h1 h2
        subst h1 h2
        exact ⟨none, 0, rfl, C_nil _ _, Nat.le_refl _⟩
end Go.Proofs.Ytkfninhbbcfdcaa.Giv

namespace Go.Proofs.Ytkfninhbbcfdcaa.Giv
open Go.RowKit Go.Proofs.YtkfninhbbcfdcaaW.PrintWords Go.Proofs.YtkfninhbbcfdcaaW.PrintLast Go.Proofs.YtkfninhbbcfdcaaW.PrintMore Go.Proofs.Ytkfninhbbcfdcaa.PReplyTells
set_option linter.unusedVariables false
set_option linter.unusedSimpArgs false

theorem info49 : (Try.prog.info? 49).map (fun i => (i.zero, i.size, i.bytes)) = some (some (.agg #[.int .i64 0, .int .i64 0, .int .i64 0, .slice none 0 0]), 4, 48) := by kernel_rfl
/-- What frames tell, one behind the other. -/
def readAll : List (List Int) → List S49 × Int
  | [] => ([], 0)
  | b :: l => if (rdM b).2 = 0 then (if (readAll l).2 = 0 then ((rdM b).1 :: (readAll l).1, 0) else ([], (readAll l).2)) else ([], (rdM b).2)
def allM (b : List Int) : List S49 × Int := if (allG b.length b 250).2 = 0 then readAll (allG b.length b 250).1 else ([], (allG b.length b 250).2)
def combM (acc : List S49) (r : List S49 × Int) : List S49 × Int := if r.2 = 0 then (acc ++ r.1, 0) else ([], r.2)
theorem readAll_bad (l : List (List Int)) (h : (readAll l).2 ≠ 0) : (readAll l).1 = [] := by
  cases l with
  | nil => rfl
  | cons b l =>
    simp only [readAll] at h ⊢
    by_cases h1 : (rdM b).2 = 0
    · rw [if_pos h1] at h ⊢
      by_cases h2 : (readAll l).2 = 0
      · rw [if_pos h2] at h; exact absurd rfl h
      · rw [if_neg h2]
    · rw [if_neg h1]
theorem combM_start (l : List (List Int)) : combM [] (readAll l) = readAll l := by
  unfold combM
  by_cases h : (readAll l).2 = 0
  · rw [if_pos h, List.nil_append, ← h]
  · rw [if_neg h, ← readAll_bad l h]
theorem combM_nil {acc : List S49} {F : List S49 × Int} (h : combM acc (readAll []) = F) : F = (acc, 0) := by rw [← h]; simp [combM, readAll]
theorem combM_step {acc : List S49} {b : List Int} {l : List (List Int)} {x : S49} {F : List S49 × Int} (hx : rdM b = (x, 0)) (h : combM acc (readAll (b :: l)) = F) : combM (acc ++ [x]) (readAll l) = F := by
  rw [← h]
  simp only [readAll, hx, if_true]
  unfold combM
  by_cases hr : (readAll l).2 = 0
  · rw [if_pos hr, if_pos hr]; simp
  · rw [if_neg hr, if_neg hr, if_neg hr]
theorem combM_bad {acc : List S49} {b : List Int} {l : List (List Int)} {x : S49} {er : Int} {F : List S49 × Int} (hx : rdM b = (x, er)) (h0 : er ≠ 0) (h : combM acc (readAll (b :: l)) = F) : F = ([], er) := by
  rw [← h]
  simp only [readAll, hx]
  rw [if_neg h0]
  unfold combM
  rw [if_neg h0]
theorem rdL_memR {l : List (List Int)} {i : Nat} (h : i < l.length) : rdL l i ∈ l := by
  unfold rdL
  rw [Int.toNat_natCast, List.getD_eq_getElem?_getD, List.getElem?_eq_getElem h]
  exact List.getElem_mem h
theorem dropL {l : List (List Int)} {i : Nat} (h : i < l.length) : l.drop i = rdL l i :: l.drop (i + 1) := by
  rw [List.drop_eq_getElem_cons h]
  congr 1
  unfold rdL
  rw [Int.toNat_natCast, List.getD_eq_getElem?_getD, List.getElem?_eq_getElem h]
  rfl
/-- The frames that are taken are short, are bytes, and are few. -/
theorem allG_facts (a : Int) : ∀ (k : Nat) (b : List Int), bytesOk b → (∀ x ∈ (allG k b a).1, bytesOk x ∧ x.length ≤ b.length) ∧ (allG k b a).1.length * 3 ≤ b.length := by
  intro k
  induction k with
  | zero => intro b _; exact ⟨(fun x hx => by cases hx), by simp [allG]⟩
  | succ k ih =>
    intro b hb
    simp only [allG]
    by_cases h1 : b = []
    · rw [if_pos h1]; exact ⟨(fun x hx => by cases hx), by simp⟩
    · rw [if_neg h1]
      by_cases h2 : (tk b a).2.2 = 0
      · rw [if_pos h2]
        obtain ⟨m, hm, hm3, hml, hmx⟩ := tk_ok h2
        have hsub : bytesOk (tk b a).1 := by
          cases b with
          | nil => exact absurd rfl h1
          | cons x t =>
            simp only [tk] at h2 ⊢
            split at h2
            · simp at h2
            · rename_i c1
              split at h2
              · simp at h2
              · rename_i c2
                split at h2
                · rename_i c3
                  rw [if_neg c1, if_neg c2, if_pos c3]
                  exact fun y hy => hb y (List.mem_cons_of_mem _ (List.mem_of_mem_take hy))
                · simp at h2
        obtain ⟨i1, i2⟩ := ih (b.drop (tk b a).2.1.toNat) (fun y hy => hb y (List.mem_of_mem_drop hy))
        by_cases h3 : (allG k (b.drop (tk b a).2.1.toNat) a).2 = 0
        · rw [if_pos h3]
          rw [List.length_drop] at i2
          refine ⟨fun x hx => ?_, ?_⟩
          · rcases List.mem_cons.1 hx with rfl | hx
            · exact ⟨hsub, by omega⟩
            · have := i1 x hx
              rw [List.length_drop] at this
              exact ⟨this.1, by omega⟩
          · rw [List.length_cons]; omega
        · rw [if_neg h3]; exact ⟨(fun x hx => by cases hx), by simp⟩
      · rw [if_neg h2]; exact ⟨(fun x hx => by cases hx), by simp⟩

set_option maxHeartbeats 8000000 in
set_option maxRecDepth 100000 in
theorem RepAll_calls (A0 : Option Addr) (c0 : Nat) (b : List Int) (w : World) (hr0 : Kd.C (Kd.int .u8) w A0 b.length b) (hc0 : b.length ≤ c0) (hb0 : bytesOk b) (hL : b.length * 16 ≤ 140737488355328) :
    Calls Try.prog 37 #[.slice A0 b.length c0] w fun e w' => ∃ v, e = .returned (.tuple #[v, .int .i64 (allM b).2]) ∧ Kd.R k49 49 w' w.heap.size (fun _ => True) v (allM b).1 ∧ Below w.heap.size w w' := by
  obtain ⟨L, le, hA⟩ : ∃ L le, allG b.length b 250 = (L, le) := ⟨_, _, rfl⟩
  have hfa := allG_facts 250 b.length b hb0
  rw [hA] at hfa
  have hM : allM b = if le = 0 then readAll L else ([], le) := by unfold allM; rw [hA]
  have HLL : Aside0 (L.length * 48 ≤ 140737488355328 ∧ (∀ x ∈ L, bytesOk x ∧ x.length < 140737488355328)) := ⟨by have := hfa.2; simp only at this; omega, fun x hx => ⟨(hfa.1 x hx).1, by have := (hfa.1 x hx).2; omega⟩⟩
  have H0 := Aside0.mk (And.intro hr0 (And.intro hc0 (And.intro hb0 hL)))
  have HA := Aside0.mk hA
  have HM := Aside0.mk hM
  clear hr0 hc0 hb0 hL hA hM hfa
  go_enter Try.func37, Try.ntmps37
  go_wp2_with fail
  refine (frame_All.calls A0 c0 b 250 L le _ H0.out.1 H0.out.2.1 (by unfold frame_All.f; rw [if_pos ⟨H0.out.2.2.1, by have := H0.out.2.2.2; omega⟩, HA.out])).mono ?_
  rintro e w1 ⟨v1, rfl, hR1, hB1⟩
  obtain ⟨A1, c1, e1⟩ := Kd.R_slice hR1
  subst e1
  have HC := Aside0.mk (Kd.R_reads' hR1).2.2
  have HB := Aside0.mk hB1
  have hlen : (L.length : Int) ≤ 9223372036854775807 := by have := HC.out.2.1; omega
  clear hR1 hB1
  by_cases hle : le = 0
  · subst hle
    obtain ⟨F, hF⟩ : ∃ F, readAll L = F := ⟨_, rfl⟩
    have HFM : Aside0 (allM b = F) := ⟨by rw [HM.out, if_pos rfl, hF]⟩
    have HI : Aside0 (combM [] (readAll (L.drop 0)) = F) := ⟨by rw [List.drop_zero, combM_start, hF]⟩
    clear hF
    go_wp2_with fail
    go_loopg [6, 21] L.length (fun kq v6 v21 w' => ∃ (p : Nat) (acc : List S49), v21 = .int .i64 p ∧ p + kq = L.length ∧ acc.length ≤ p ∧ Aside0 (Kd.R k49 49 w' w1.heap.size (fun _ => True) v6 acc) ∧ Aside0 (Below w1.heap.size w1 w') ∧ Aside0 (combM acc (readAll (L.drop p)) = F))
    case atStart => exact ⟨0, [], rfl, by omega, by simp, ⟨Kd.R_nil _ _ _ _ _⟩, ⟨Below.refl _ _⟩, HI⟩
    case round =>
      clear HI
      obtain ⟨p, acc, rfl, hp, hac, HR, HB1, HI⟩ := hrel
      obtain ⟨A6, c6, e6⟩ := Kd.R_slice HR.out
      subst e6
      cases gk with
      | zero =>
        have e0 : p = L.length := by omega
        subst e0
        clear hp
        have HF := Aside0.mk (combM_nil (acc := acc) (F := F) (by have h := HI.out; rw [List.drop_length] at h; exact h))
        clear HI
        go_wp2_with fail
        go_ret2
        rw [HFM.out, HF.out]
        exact ⟨_, rfl, Kd.R_lower HR.out HB.out.size, below_step HB.out HB1.out⟩
      | succ k =>
        have hlt : (p : Int) < L.length := by omega
        obtain ⟨ad, B0, d0, rfl, hx0, hd0, hC0⟩ := at_L (Kd.C_below HC.out HB1.out) p (by omega) hlt
        obtain ⟨f, hf⟩ : ∃ f, rdL L p = f := ⟨_, rfl⟩
        have hfm : f ∈ L := by rw [← hf]; exact rdL_memR (by omega)
        rw [hf] at hx0 hd0 hC0
        rw [Int.toNat_natCast] at hx0
        obtain ⟨x, er, hx⟩ : ∃ x er, rdM f = (x, er) := ⟨_, _, rfl⟩
        have HX := Aside0.mk (And.intro hx (And.intro hC0 (HLL.out.2 f hfm)))
        have HI2 : Aside0 (combM acc (readAll (f :: L.drop (p + 1))) = F) := ⟨by rw [← hf, ← dropL (by omega)]; exact HI.out⟩
        have HP := Aside0.mk (And.intro hp hac)
        clear hf hfm hx hC0 HI hac
        go_wp2_with fail
        refine (Read_calls B0 d0 f _ HX.out.2.1 hd0 HX.out.2.2.1 HX.out.2.2.2 x er HX.out.1).mono ?_
        rintro e w2 ⟨Ax, cx, rfl, hRx, hB2⟩
        have HR2 := Aside0.mk (Kd.R_below HR.out hB2)
        have HPx := Aside0.mk (Kd.R_lower (Kd.R_mono (Kd.R_new' hRx (Kd.R_lt HR.out)) (fun _ hk => hk.2)) HB1.out.size)
        have HB2 := Aside0.mk (below_step HB1.out hB2)
        clear hRx hB2 HR HB1 hx0
        by_cases her : er = 0
        · subst her
          have HI3 := Aside0.mk (combM_step HX.out.1 HI2.out)
          clear HI2
          go_wp2_with (first
            | ((with_reducible refine gate_builtin (b := .append) (xs := #[.tmp 33, .tmp 35]) rfl ?_); at_builtin; refine Kd.R_append k49 (w0 := w1) w1.heap.size rfl (.tmp 33) (.tmp 35) 45 49 (.agg #[.int .i64 0, .int .i64 0, .int .i64 0, .slice none 0 0]) 48 rfl Try.underlying45 info49 rfl (by decide) (by decide) (.slice A6 acc.length c6) acc x [.int .i64 x.f0, .int .i64 x.f1, .int .i64 x.f2, .slice Ax x.f3.length cx] (fun _ => True) (fun k => some k ≠ (.slice A6 acc.length c6 : Value).ownBlock) rfl (show (Value.slice (some ⟨w2.heap.size + 1, 0, none⟩) 1 1 : Value) = .slice (some ⟨(w2.alloc (.cells #[.int .i64 x.f0, .int .i64 x.f1, .int .i64 x.f2, .slice Ax x.f3.length cx] 49)).heap.size, 0, none⟩) 1 1 by simp) (k49_mkM _ _ _ x (Kd.R_alloc HPx.out _)) (fun k hk => ⟨trivial, hk⟩) (fun _ _ => trivial) (Kd.R_alloc HR2.out _) (below_alloc HB2.out _) (below_alloc HB2.out _).size ?aL ?_; (case aL => have := HLL.out.1; have := HP.out; omega); intro v36 w36 ho hb hg hat; have HR3 := Aside0.mk ho; have HB4 := Aside0.mk hb; clear HR2 HPx ho hb hg hat)
            | fail)
          go_roundg k
          case measure => omega
          case rel => exact ⟨p + 1, acc ++ [x], by rfl, by have := HP.out; omega, by rw [List.length_append, List.length_singleton]; have := HP.out; omega, HR3, HB4, HI3⟩
        · have HF := Aside0.mk (combM_bad HX.out.1 her HI2.out)
          clear HI2
          go_wp2_with fail
          go_ret2
          rw [HFM.out, HF.out]
          exact ⟨_, rfl, Kd.R_nil _ _ _ _ _, below_alloc (below_step HB.out HB2.out) _⟩
  · have HFM : Aside0 (allM b = ([], le)) := ⟨by rw [HM.out, if_neg hle]⟩
    go_wp2_with fail
    go_ret2
    rw [HFM.out]
    exact ⟨_, rfl, Kd.R_nil _ _ _ _ _, HB.out⟩
end Go.Proofs.Ytkfninhbbcfdcaa.Giv

namespace Go.Proofs.Ytkfninhbbcfdcaa.Giv
open Go.RowKit Go.Proofs.YtkfninhbbcfdcaaW.PrintWords Go.Proofs.YtkfninhbbcfdcaaW.PrintLast Go.Proofs.YtkfninhbbcfdcaaW.PrintMore Go.Proofs.Ytkfninhbbcfdcaa.PReplyTells
set_option linter.unusedVariables false
set_option linter.unusedSimpArgs false

theorem rAll_own (A0 : Option Addr) (c0 : Nat) (l : List Int) (a1 : Int) (L : List (List Int)) (le : Int) (w : World) (hr0 : Kd.C (Kd.int .u8) w A0 l.length l) (hc0 : l.length ≤ c0) (hb0 : bytesOk l) (hL : l.length * 8 ≤ 140737488355328) (h : allG l.length l a1 = (L, le)) :
    Calls Try.prog 18 #[.slice A0 l.length c0, .int .i64 a1] w fun e w' => ∃ A c, e = .returned (.tuple #[.slice A L.length c, .int .i64 le]) ∧ ReadsRow (Rs w) 1 w' A L.length L ∧ L.length ≤ c ∧ Below w.heap.size w w' := by
  refine (rAll_calls A0 c0 l a1 w hr0 hc0 hb0 hL).mono ?_
  rintro e w' ⟨v, rfl, hO, hB⟩
  rw [h] at hO ⊢
  obtain ⟨A, c, rfl, hl, hr⟩ := OwnRow.reads hO
  exact ⟨A, c, rfl, hr, hl, hB⟩
theorem at_Rs {w0 w : World} {A : Option Addr} {n : Nat} {xs : List (List Int)} (h : ReadsRow (Rs w0) 1 w A n xs) (i : Int) (h0 : 0 ≤ i) (h1 : i < n) : ∃ ad B d, A = some ad ∧ w.cell? (ad.add i.toNat) = some (.slice B (rdL xs i).length d) ∧ (rdL xs i).length ≤ d ∧ (Kd.int .u8).C w0 B (rdL xs i).length (rdL xs i) := by
  obtain ⟨ad, c, e, _, hK, hc0⟩ := ReadsRow.get_ h ([] : List Int) i h0 h1
  have hc : ∀ j u, c[j]? = some u → w.cell? (ad.add (i.toNat * 1 + j)) = some u := hc0
  obtain ⟨B, d, rfl, l0, g0⟩ := hK
  exact ⟨ad, B, d, e, by have hq := hc 0 _ rfl; rwa [Nat.mul_one, Nat.add_zero] at hq, l0, g0⟩
/-- What a line was told, its bytes in a world that stays. -/
def FO (w : World) : Kd S49 := Kd.fixed k49 w

set_option maxHeartbeats 8000000 in
set_option maxRecDepth 100000 in
theorem rRepAll_calls (A0 : Option Addr) (c0 : Nat) (b : List Int) (w : World) (hr0 : Kd.C (Kd.int .u8) w A0 b.length b) (hc0 : b.length ≤ c0) (hb0 : bytesOk b) (hL : b.length * 16 ≤ 140737488355328) :
    Calls Try.prog 38 #[.slice A0 b.length c0] w fun e w' => ∃ v, e = .returned (.tuple #[v, .int .i64 (allM b).2]) ∧ Kd.R (FO w) 49 w' w.heap.size (fun _ => True) v (allM b).1 ∧ Below w.heap.size w w' := by
  obtain ⟨L, le, hA⟩ : ∃ L le, allG b.length b 250 = (L, le) := ⟨_, _, rfl⟩
  have hfa := allG_facts 250 b.length b hb0
  rw [hA] at hfa
  have hM : allM b = if le = 0 then readAll L else ([], le) := by unfold allM; rw [hA]
  have HLL : Aside0 (L.length * 48 ≤ 140737488355328 ∧ (∀ x ∈ L, bytesOk x ∧ x.length < 140737488355328)) := ⟨by have := hfa.2; simp only at this; omega, fun x hx => ⟨(hfa.1 x hx).1, by have := (hfa.1 x hx).2; omega⟩⟩
  have H0 := Aside0.mk (And.intro hr0 (And.intro hc0 (And.intro hb0 hL)))
  have HA := Aside0.mk hA
  have HM := Aside0.mk hM
  clear hr0 hc0 hb0 hL hA hM hfa
  go_enter Try.func38, Try.ntmps38
  go_wp2_with fail
  refine (rAll_own A0 c0 b 250 L le _ H0.out.1 H0.out.2.1 H0.out.2.2.1 (by have := H0.out.2.2.2; omega) HA.out).mono ?_
  rintro e w1 ⟨A1, c1, rfl, hR1, hc1, hB1⟩
  have HC := Aside0.mk hR1
  have HB := Aside0.mk hB1
  have hlen : (L.length : Int) ≤ 9223372036854775807 := by have := HC.out.2.1; omega
  clear hR1 hB1 hc1
  by_cases hle : le = 0
  · subst hle
    obtain ⟨F, hF⟩ : ∃ F, readAll L = F := ⟨_, rfl⟩
    have HFM : Aside0 (allM b = F) := ⟨by rw [HM.out, if_pos rfl, hF]⟩
    have HI : Aside0 (combM [] (readAll (L.drop 0)) = F) := ⟨by rw [List.drop_zero, combM_start, hF]⟩
    clear hF
    go_wp2_with fail
    go_loopg [6, 7] L.length (fun kq v6 v7 w' => ∃ (p : Nat) (acc : List S49), v7 = .int .i64 p ∧ p + kq = L.length ∧ acc.length ≤ p ∧ Aside0 (Kd.R (FO w) 49 w' w1.heap.size (fun _ => True) v6 acc) ∧ Aside0 (Below w1.heap.size w1 w') ∧ Aside0 (combM acc (readAll (L.drop p)) = F))
    case atStart => exact ⟨0, [], rfl, by omega, by simp, ⟨Kd.R_nil _ _ _ _ _⟩, ⟨Below.refl _ _⟩, HI⟩
    case round =>
      clear HI
      obtain ⟨p, acc, rfl, hp, hac, HR, HB1, HI⟩ := hrel
      obtain ⟨A6, c6, e6⟩ := Kd.R_slice HR.out
      subst e6
      cases gk with
      | zero =>
        have e0 : p = L.length := by omega
        subst e0
        clear hp
        have HF := Aside0.mk (combM_nil (acc := acc) (F := F) (by have h := HI.out; rw [List.drop_length] at h; exact h))
        clear HI
        go_wp2_with fail
        go_ret2
        rw [HFM.out, HF.out]
        exact ⟨_, rfl, Kd.R_lower HR.out HB.out.size, below_step HB.out HB1.out⟩
      | succ k =>
        have hlt : (p : Int) < L.length := by omega
        obtain ⟨ad, B0, d0, rfl, hx0, hd0, hC0⟩ := at_Rs (ReadsRow.imp_ HC.out HB1.out (fun _ _ h => h)) p (by omega) hlt
        obtain ⟨f, hf⟩ : ∃ f, rdL L p = f := ⟨_, rfl⟩
        have hfm : f ∈ L := by rw [← hf]; exact rdL_memR (by omega)
        rw [hf] at hx0 hd0 hC0
        rw [Int.toNat_natCast] at hx0
        obtain ⟨x, er, hx⟩ : ∃ x er, rdM f = (x, er) := ⟨_, _, rfl⟩
        have HX := Aside0.mk (And.intro hx (And.intro hC0 (HLL.out.2 f hfm)))
        have HI2 : Aside0 (combM acc (readAll (f :: L.drop (p + 1))) = F) := ⟨by rw [← hf, ← dropL (by omega)]; exact HI.out⟩
        have HP := Aside0.mk (And.intro hp hac)
        clear hf hfm hx hC0 HI hac
        go_wp2_with fail
        refine (rRead_calls B0 d0 f w _ (below_step HB.out HB1.out) HX.out.2.1 hd0 HX.out.2.2.1 x er HX.out.1).mono ?_
        rintro e w2 ⟨⟨Ax, cx, rfl, hRx, hcx⟩, hB2⟩
        have HR2 := Aside0.mk (Kd.R_below HR.out hB2)
        have HPx := Aside0.mk (And.intro hRx hcx)
        have HB2 := Aside0.mk (below_step HB1.out hB2)
        clear hRx hcx hB2 HR HB1 hx0
        by_cases her : er = 0
        · subst her
          have HI3 := Aside0.mk (combM_step HX.out.1 HI2.out)
          clear HI2
          go_wp2_with (first
            | ((with_reducible refine gate_builtin (b := .append) (xs := #[.tmp 35, .tmp 37]) rfl ?_); at_builtin; refine Kd.R_append (FO w) (w0 := w1) w1.heap.size rfl (.tmp 35) (.tmp 37) 45 49 (.agg #[.int .i64 0, .int .i64 0, .int .i64 0, .slice none 0 0]) 48 rfl Try.underlying45 info49 rfl (show 0 < 4 by decide) (by decide) (.slice A6 acc.length c6) acc x [.int .i64 x.f0, .int .i64 x.f1, .int .i64 x.f2, .slice Ax x.f3.length cx] (fun _ => True) (fun k => some k ≠ (.slice A6 acc.length c6 : Value).ownBlock) rfl (show (Value.slice (some ⟨w2.heap.size + 1, 0, none⟩) 1 1 : Value) = .slice (some ⟨(w2.alloc (.cells #[.int .i64 x.f0, .int .i64 x.f1, .int .i64 x.f2, .slice Ax x.f3.length cx] 49)).heap.size, 0, none⟩) 1 1 by simp) (k49_mk _ x HPx.out.2 HPx.out.1) (fun k hk => ⟨trivial, hk⟩) (fun _ _ => trivial) (Kd.R_alloc HR2.out _) (below_alloc HB2.out _) (below_alloc HB2.out _).size ?aL ?_; (case aL => have := HLL.out.1; have := HP.out; omega); intro v36 w36 ho hb hg hat; have HR3 := Aside0.mk ho; have HB4 := Aside0.mk hb; clear HR2 HPx ho hb hg hat)
            | fail)
          go_roundg k
          case measure => omega
          case rel => exact ⟨p + 1, acc ++ [x], by rfl, by have := HP.out; omega, by rw [List.length_append, List.length_singleton]; have := HP.out; omega, HR3, HB4, HI3⟩
        · have HF := Aside0.mk (combM_bad HX.out.1 her HI2.out)
          clear HI2
          go_wp2_with fail
          go_ret2
          rw [HFM.out, HF.out]
          exact ⟨_, rfl, Kd.R_nil _ _ _ _ _, below_alloc (below_step HB.out HB2.out) _⟩
  · have HFM : Aside0 (allM b = ([], le)) := ⟨by rw [HM.out, if_neg hle]⟩
    go_wp2_with fail
    go_ret2
    rw [HFM.out]
    exact ⟨_, rfl, Kd.R_nil _ _ _ _ _, HB.out⟩
end Go.Proofs.Ytkfninhbbcfdcaa.Giv

namespace Go.Proofs.Ytkfninhbbcfdcaa.Giv
open Go.RowKit Go.Proofs.YtkfninhbbcfdcaaW.PrintWords Go.Proofs.YtkfninhbbcfdcaaW.PrintLast Go.Proofs.YtkfninhbbcfdcaaW.PrintMore Go.Proofs.Ytkfninhbbcfdcaa.PReplyTells
set_option linter.unusedVariables false
set_option linter.unusedSimpArgs false

/-- A fresh row of bytes, its value laid open. -/
def FreshB (w : World) (m : List Int) (e : Ending) (w' : World) : Prop := ∃ A1 c1, e = .returned (.slice A1 m.length c1) ∧ Kd.R (Kd.int .u8) 5 w' w.heap.size (fun _ => True) (.slice A1 m.length c1) m ∧ Below w.heap.size w w'
theorem fresh_mk {w : World} {m : List Int} {e : Ending} {w' : World} (h : ∃ v0_ : Value, e = .returned v0_ ∧ Kd.R (Kd.int .u8) 5 w' w.heap.size (fun _ => True) v0_ m ∧ Below w.heap.size w w') : FreshB w m e w' := by
  obtain ⟨v, rfl, hR, hB⟩ := h
  obtain ⟨A1, c1, rfl⟩ := Kd.R_slice hR
  exact ⟨A1, c1, rfl, hR, hB⟩
theorem msgB_len (x : S49) : (msgB x).length ≤ 253 := by
  unfold msgB
  by_cases h : mayX x = true
  · rw [if_pos h, frameB_length, msgL_len]
    have := mayX_len h
    omega
  · rw [if_neg h]; simp
section
variable (x y : S49) (A : Option Addr) (n c : Nat) (w : World)
theorem RWrap_at (h : Kd.C (Kd.int .u8) w A x.f3.length x.f3) (hn : n = x.f3.length) (hc : n ≤ c) (hb : bytesOk x.f3) (m : List Int) (hm : msgB x = m) :
    Calls Try.prog 42 #[.agg #[.int .i64 x.f0, .int .i64 x.f1, .int .i64 x.f2, .slice A n c]] w (FreshB w m) := by
  subst hn hm
  exact (reply_Wrap.calls 3 x.f0 x.f1 x.f2 A c x.f3 _ w h hc (wrap_f x hb)).mono fun _ _ => fresh_mk
theorem rRWrap_at (h : Kd.C (Kd.int .u8) w A x.f3.length x.f3) (hn : n = x.f3.length) (hc : n ≤ c) (hb : bytesOk x.f3) (m : List Int) (hm : msgB x = m) :
    Calls Try.prog 43 #[.agg #[.int .i64 x.f0, .int .i64 x.f1, .int .i64 x.f2, .slice A n c]] w (FreshB w m) := by
  subst hn hm
  exact (rialtoref27_Wrap.calls 3 x.f0 x.f1 x.f2 A c x.f3 _ w h hc (rwrap_f x hb)).mono fun _ _ => fresh_mk
theorem Same_at (B : Option Addr) (k d : Nat) (h : Kd.C (Kd.int .u8) w A x.f3.length x.f3) (hn : n = x.f3.length) (hc : n ≤ c) (h' : Kd.C (Kd.int .u8) w B x.f3.length x.f3) (hk : k = x.f3.length) (hd : k ≤ d) :
    Calls Try.prog 44 #[.agg #[.int .i64 x.f0, .int .i64 x.f1, .int .i64 x.f2, .slice A n c], .agg #[.int .i64 x.f0, .int .i64 x.f1, .int .i64 x.f2, .slice B k d]] w fun e w' => e = .returned (.bool true) ∧ Below w.heap.size w w' := by
  subst hn hk
  exact rialtoref27_Same.calls x.f0 x.f1 x.f2 A c x.f3 x.f0 x.f1 x.f2 B d x.f3 true w h hc h' hd (same_f x)
end
section
variable (A : Option Addr) (n c : Nat) (w : World)
theorem SameAll_at (B : Option Addr) (k d : Nat) (l : List S49) (h : Kd.C k49 w A l.length l) (hn : n = l.length) (hc : n ≤ c) (h' : Kd.C k49 w B l.length l) (hk : k = l.length) (hd : k ≤ d) (hl : l.length < 140737488355328) :
    Calls Try.prog 32 #[.slice A n c, .slice B k d] w fun e w' => e = .returned (.bool true) ∧ Below w.heap.size w w' := by
  subst hn hk
  exact rialtoref27_SameAll.calls (l.length + 1) A c l B d l true w h hc h' hd (sameAll_f l hl)
theorem Nums_at (l : List Int) (h : Kd.C (Kd.int .i64) w A l.length l) (hn : n = l.length) (hc : n ≤ c) (hl : l.length < 140737488355328) (m : List Int) (hm : numsL l = m) : Calls Try.prog 45 #[.slice A n c] w (FreshB w m) := by
  subst hn hm
  exact (reply_Nums.calls (l.length + 1) A c l _ w h hc (nums_f l hl)).mono fun _ _ => fresh_mk
theorem rNums_at (l : List Int) (h : Kd.C (Kd.int .i64) w A l.length l) (hn : n = l.length) (hc : n ≤ c) (hl : l.length < 140737488355328) (m : List Int) (hm : numsL l = m) : Calls Try.prog 46 #[.slice A n c] w (FreshB w m) := by
  subst hn hm
  exact (rialtoref27_Nums.calls (l.length + 1) A c l _ w h hc (rnums_f l hl)).mono fun _ _ => fresh_mk
theorem Refs_at (l : List S76) (h : Kd.C k76 w A l.length l) (hn : n = l.length) (hc : n ≤ c) (hl : l.length * 2 < 140737488355328) (m : List Int) (hm : refsL l = m) : Calls Try.prog 47 #[.slice A n c] w (FreshB w m) := by
  subst hn hm
  exact (reply_Refs.calls (l.length + 1) A c l _ w h hc (refs_f l hl)).mono fun _ _ => fresh_mk
theorem Amts_at (l : List Int) (h : Kd.C (Kd.int .u64) w A l.length l) (hn : n = l.length) (hc : n ≤ c) (hl : l.length * 8 < 140737488355328) (ho : u64Ok l) (m : List Int) (hm : amtsL l = m) : Calls Try.prog 48 #[.slice A n c] w (FreshB w m) := by
  subst hn hm
  exact (reply_Amounts.calls (l.length + 1) A c l _ w h hc (amts_f l hl ho)).mono fun _ _ => fresh_mk
theorem rAmts_at (l : List Int) (h : Kd.C (Kd.int .u64) w A l.length l) (hn : n = l.length) (hc : n ≤ c) (hl : l.length * 8 < 140737488355328) (ho : u64Ok l) (m : List Int) (hm : amtsL l = m) : Calls Try.prog 49 #[.slice A n c] w (FreshB w m) := by
  subst hn hm
  exact (rialtoref27_Amounts.calls (l.length + 1) A c l _ w h hc (ramts_f l hl ho)).mono fun _ _ => fresh_mk
theorem Read_at (b : List Int) (h : Kd.C (Kd.int .u8) w A n b) (hn : n = b.length) (hc : n ≤ c) (hb0 : bytesOk b) (hL : b.length < 140737488355328) (x : S49) (er : Int) (hx : rdM b = (x, er)) :
    Calls Try.prog 35 #[.slice A n c] w fun e w' => ∃ A c, e = .returned (.tuple #[.agg #[.int .i64 x.f0, .int .i64 x.f1, .int .i64 x.f2, .slice A x.f3.length c], .int .i64 er]) ∧ Kd.R (Kd.int .u8) 5 w' w.heap.size (fun _ => True) (.slice A x.f3.length c) x.f3 ∧ Below w.heap.size w w' := by
  subst hn
  exact Read_calls A c b w h hc hb0 hL x er hx
theorem RepAll_at (b : List Int) (h : Kd.C (Kd.int .u8) w A n b) (hn : n = b.length) (hc : n ≤ c) (hb0 : bytesOk b) (hL : b.length * 16 ≤ 140737488355328) (L : List S49) (le : Int) (hx : allM b = (L, le)) :
    Calls Try.prog 37 #[.slice A n c] w fun e w' => ∃ A c, e = .returned (.tuple #[.slice A L.length c, .int .i64 le]) ∧ Kd.R k49 49 w' w.heap.size (fun _ => True) (.slice A L.length c) L ∧ Below w.heap.size w w' := by
  subst hn
  refine (RepAll_calls A c b w h hc hb0 hL).mono ?_
  rintro e w' ⟨v, rfl, hR, hB⟩
  rw [hx] at hR ⊢
  obtain ⟨A1, c1, rfl⟩ := Kd.R_slice hR
  exact ⟨A1, c1, rfl, hR, hB⟩
theorem rRepAll_at (b : List Int) (h : Kd.C (Kd.int .u8) w A n b) (hn : n = b.length) (hc : n ≤ c) (hb0 : bytesOk b) (hL : b.length * 16 ≤ 140737488355328) (L : List S49) (le : Int) (hx : allM b = (L, le)) :
    Calls Try.prog 38 #[.slice A n c] w fun e w' => ∃ A c, e = .returned (.tuple #[.slice A L.length c, .int .i64 le]) ∧ Kd.R (FO w) 49 w' w.heap.size (fun _ => True) (.slice A L.length c) L ∧ Below w.heap.size w w' := by
  subst hn
  refine (rRepAll_calls A c b w h hc hb0 hL).mono ?_
  rintro e w' ⟨v, rfl, hR, hB⟩
  rw [hx] at hR ⊢
  obtain ⟨A1, c1, rfl⟩ := Kd.R_slice hR
  exact ⟨A1, c1, rfl, hR, hB⟩
end
theorem FO_C {w0 w : World} {A : Option Addr} {n : Nat} {xs : List S49} (h : (FO w0).C w A n xs) (hb : Below w0.heap.size w0 w) : Kd.C k49 w A n xs :=
  ReadsRow.imp_ h (Below.refl _ _) (fun _ _ hp => k49.K_below hb hp)
/- messages, one behind the other -/
theorem ofB_msgL (x : S49) : ofB (msgL x) = x := rfl
theorem rdM_msgL {x : S49} (h : mayX x = true) : rdM (msgL x) = (x, 0) := by
  unfold rdM
  rw [if_neg (by rw [msgL_len]; omega), ofB_msgL, if_pos h]
theorem rdM_ok {f : List Int} {x : S49} (h : rdM f = (x, 0)) : f = msgL x ∧ mayX x = true := by
  rcases f with _ | ⟨p, _ | ⟨q, _ | ⟨s, t⟩⟩⟩
  · cases h
  · cases h
  · cases h
  · have e0 : ofB (p :: q :: s :: t) = ⟨p, q, s, t⟩ := rfl
    unfold rdM at h
    rw [if_neg (show ¬ (p :: q :: s :: t).length < 3 by simp), e0] at h
    cases hm : mayX ⟨p, q, s, t⟩ with
    | false => rw [hm, if_neg (by decide)] at h; cases h
    | true =>
      rw [hm, if_pos rfl] at h
      injection h with h _
      subst h
      exact ⟨rfl, hm⟩
theorem readAll_msgs : ∀ (l : List S49), (∀ x ∈ l, mayX x = true) → readAll (l.map msgL) = (l, 0)
  | [], _ => rfl
  | x :: l, h => by
    simp only [List.map_cons, readAll, rdM_msgL (h x (by simp)), readAll_msgs l (fun y hy => h y (by simp [hy])), if_true]
theorem readAll_ok : ∀ (F : List (List Int)) (l : List S49), readAll F = (l, 0) → F = l.map msgL ∧ ∀ x ∈ l, mayX x = true
  | [], l, h => by
    simp only [readAll, Prod.mk.injEq, and_true] at h
    subst h
    exact ⟨rfl, fun x hx => by cases hx⟩
  | f :: F, l, h => by
    simp only [readAll] at h
    by_cases h1 : (rdM f).2 = 0
    · rw [if_pos h1] at h
      by_cases h2 : (readAll F).2 = 0
      · rw [if_pos h2] at h
        simp only [Prod.mk.injEq, and_true] at h
        subst h
        obtain ⟨e1, e2⟩ := rdM_ok (f := f) (x := (rdM f).1) (by rw [← h1])
        obtain ⟨e3, e4⟩ := readAll_ok F (readAll F).1 (by rw [← h2])
        refine ⟨by rw [List.map_cons, ← e1, ← e3], fun y hy => ?_⟩
        rcases List.mem_cons.1 hy with rfl | hy
        · exact e2
        · exact e4 y hy
      · rw [if_neg h2] at h
        simp only [Prod.mk.injEq] at h
        exact absurd h.2 h2
    · rw [if_neg h1] at h
      simp only [Prod.mk.injEq] at h
      exact absurd h.2 h1
def msgsB (l : List S49) : List Int := framesB (l.map msgL)
theorem all_msgs (l : List S49) (h : ∀ x ∈ l, mayX x = true) : allM (msgsB l) = (l, 0) := by
  have hg : allG (msgsB l).length (msgsB l) 250 = (l.map msgL, 0) := allG_frames 250 (l.map msgL) _ (by have := framesB_len (l.map msgL); unfold msgsB; omega) (fun b hb => by
    obtain ⟨x, hx, rfl⟩ := List.mem_map.1 hb
    exact lim250 _ (by rw [msgL_len]; have := mayX_len (h x hx); omega))
  unfold allM
  rw [hg]
  simp only [if_true]
  exact readAll_msgs l h
theorem tk_front {b : List Int} {a : Int} (h : (tk b a).2.2 = 0) : b = frameB (tk b a).1 ++ b.drop (tk b a).2.1.toNat := by
  cases b with
  | nil => simp [tk] at h
  | cons x t =>
    simp only [tk] at h ⊢
    split at h
    · simp at h
    · rename_i c1
      split at h
      · simp at h
      · rename_i c2
        split at h
        · rename_i c3
          rw [if_neg c1, if_neg c2, if_pos c3]
          simp only
          rw [c3, show ((x.toNat : Int) + 3).toNat = x.toNat + 3 by omega, List.take_append_drop]
        · simp at h
theorem allG_back (a : Int) : ∀ (k : Nat) (b : List Int) (F : List (List Int)), b.length ≤ k → allG k b a = (F, 0) → framesB F = b := by
  intro k
  induction k with
  | zero =>
    intro b F hk h
    obtain rfl : b = [] := List.eq_nil_of_length_eq_zero (by omega)
    simp only [allG, Prod.mk.injEq, and_true] at h
    subst h
    rfl
  | succ k ih =>
    intro b F hk h
    simp only [allG] at h
    by_cases h1 : b = []
    · rw [if_pos h1] at h
      simp only [Prod.mk.injEq, and_true] at h
      subst h h1
      rfl
    · rw [if_neg h1] at h
      by_cases h2 : (tk b a).2.2 = 0
      · rw [if_pos h2] at h
        obtain ⟨m, hm, hm3, hml, hmx⟩ := tk_ok h2
        by_cases h3 : (allG k (b.drop (tk b a).2.1.toNat) a).2 = 0
        · rw [if_pos h3] at h
          simp only [Prod.mk.injEq, and_true] at h
          subst h
          have := ih (b.drop (tk b a).2.1.toNat) (allG k (b.drop (tk b a).2.1.toNat) a).1 (by rw [List.length_drop]; omega) (by rw [← h3])
          simp only [framesB]
          rw [this]
          exact (tk_front h2).symm
        · rw [if_neg h3] at h
          simp only [Prod.mk.injEq] at h
          exact absurd h.2 h3
      · rw [if_neg h2] at h
        simp only [Prod.mk.injEq] at h
        exact absurd h.2 h2
theorem allM_ok {b : List Int} {l : List S49} (h : allM b = (l, 0)) : msgsB l = b ∧ ∀ x ∈ l, mayX x = true := by
  unfold allM at h
  by_cases h1 : (allG b.length b 250).2 = 0
  · rw [if_pos h1] at h
    obtain ⟨e1, e2⟩ := readAll_ok _ l h
    refine ⟨?_, e2⟩
    unfold msgsB
    rw [← e1]
    exact allG_back 250 b.length b _ (Nat.le_refl _) (by rw [← h1])
  · rw [if_neg h1] at h
    simp only [Prod.mk.injEq] at h
    exact absurd h.2 h1
theorem allM_bad {b : List Int} {l : List S49} {er : Int} (h : allM b = (l, er)) (h0 : er ≠ 0) : l = [] := by
  unfold allM at h
  by_cases h1 : (allG b.length b 250).2 = 0
  · rw [if_pos h1] at h
    have := readAll_bad (allG b.length b 250).1 (by rw [h]; exact h0)
    rw [h] at this
    exact this
  · rw [if_neg h1] at h
    simp only [Prod.mk.injEq] at h
    exact h.1.symm
theorem msgsB_append (l m : List S49) : msgsB (l ++ m) = msgsB l ++ msgsB m := by unfold msgsB; rw [List.map_append, framesB_append]
theorem msgsB_one {x : S49} (h : mayX x = true) : msgsB [x] = msgB x := by unfold msgsB msgB; rw [if_pos h]; simp [framesB]
/- fixed numbers -/
theorem fa2 : allM [3, 1, 5, 0, 123, 7, 3, 1, 5, 0, 123, 7] = ([⟨1, 5, 0, []⟩, ⟨1, 5, 0, []⟩], 0) := by
  have h := all_msgs [⟨1, 5, 0, []⟩, ⟨1, 5, 0, []⟩] (fun x hx => by
    rcases List.mem_cons.1 hx with rfl | hx
    · rfl
    · rw [List.mem_singleton.1 hx]; rfl)
  rwa [show msgsB [⟨1, 5, 0, []⟩, ⟨1, 5, 0, []⟩] = [3, 1, 5, 0, 123, 7, 3, 1, 5, 0, 123, 7] from by decide +kernel] at h
theorem fm0 : msgB ⟨1, 5, 0, []⟩ = [3, 1, 5, 0, 123, 7] := by decide +kernel
theorem fr1 : rdM [1, 5, 0] = (⟨1, 5, 0, []⟩, 0) := by rfl
theorem fr2 : rdM [1, 5] = (⟨0, 0, 0, []⟩, 12) := by rfl
theorem fr3 : rdM [2, 5, 0] = (⟨0, 0, 0, []⟩, 2) := by rfl
end Go.Proofs.Ytkfninhbbcfdcaa.Giv
