/- Plain laws of commands: what is put is read again; what is read is put so. -/
import Derived.Test.YtfaicipochceeaaGRead
import Derived.Test.YtfaicipochceeaaGOp
namespace Go.Proofs.Ytfaicipochceeaa.Giv
open Go.Lib Go.RowKit Go.Proofs.YtfaicipochceeaaW.PrintWords Go.Proofs.YtfaicipochceeaaW.PrintLast Go.Proofs.YtfaicipochceeaaW.PrintMore
set_option linter.unusedVariables false
set_option linter.unusedSimpArgs false
theorem f_cases {f : Nat} (h1 : 1 ≤ f) (h2 : f ≤ 16) : f = 1 ∨ f = 2 ∨ f = 3 ∨ f = 4 ∨ f = 5 ∨ f = 6 ∨ f = 7 ∨ f = 8 ∨ f = 9 ∨ f = 10 ∨ f = 11 ∨ f = 12 ∨ f = 13 ∨ f = 14 ∨ f = 15 ∨ f = 16 := by omega
theorem numV_beB (k n : Nat) : ∀ acc, acc < 18446744073709551616 → numV (beB k n) acc = (acc * 256 ^ k + n % 256 ^ k) % 18446744073709551616 := by
  induction k with
  | zero => intro acc h; simp [beB, numV, Nat.mod_one]; omega
  | succ k ih =>
    intro acc h
    show numV (beB k n) ((acc * 256 + (((n / 256 ^ k % 256 : Nat) : Int)).toNat) % 18446744073709551616) = _
    rw [ih _ (Nat.mod_lt _ (by decide)), Int.toNat_natCast]
    have h1 : n % 256 ^ (k + 1) = (n / 256 ^ k % 256) * 256 ^ k + n % 256 ^ k := by
      rw [Nat.pow_succ, Nat.mod_mul, Nat.mul_comm, Nat.add_comm]
    rw [h1]
    have h2 : acc * 256 ^ (k + 1) + ((n / 256 ^ k % 256) * 256 ^ k + n % 256 ^ k) = (acc * 256 + n / 256 ^ k % 256) * 256 ^ k + n % 256 ^ k := by
      rw [Nat.pow_succ, Nat.add_mul]
      rw [show acc * (256 ^ k * 256) = acc * 256 * 256 ^ k by rw [Nat.mul_comm (256 ^ k), ← Nat.mul_assoc]]
      omega
    rw [h2]
    rw [Nat.add_mod, Nat.mul_mod, Nat.mod_mod, ← Nat.mul_mod, ← Nat.add_mod]
theorem takeL_app {a r : List Int} {k : Nat} (h : a.length = k) : takeL (a ++ r) 0 k = a ∧ restL (a ++ r) 0 k = r ∧ fauL (a ++ r) 0 k = 0 := by
  have hk : k ≤ (a ++ r).length := by rw [List.length_append]; omega
  unfold takeL restL fauL
  rw [if_pos ⟨rfl, hk⟩, if_pos ⟨rfl, hk⟩, if_pos rfl, if_pos hk]
  exact ⟨by rw [← h]; exact List.take_left, by rw [← h]; exact List.drop_left, rfl⟩
theorem scNum_put1 (n : Nat) (h : n < 256) (r : List Int) : scNum (beB 1 n ++ r, 0) 1 = (n, (r, 0)) := by
  obtain ⟨h1, h2, h3⟩ := takeL_app (r := r) (beB_length 1 n)
  unfold scNum
  simp only [h1, h2, h3]
  rw [numV_beB 1 n 0 (by decide)]
  simp
  omega
theorem scNum_put8 (n : Nat) (h : n < 18446744073709551616) (r : List Int) : scNum (beB 8 n ++ r, 0) 8 = (n, (r, 0)) := by
  obtain ⟨h1, h2, h3⟩ := takeL_app (r := r) (beB_length 8 n)
  unfold scNum
  simp only [h1, h2, h3]
  rw [numV_beB 8 n 0 (by decide)]
  simp
  omega
theorem scText_put (s : ByteArray) (limit : Int) (h : (s.size : Int) ≤ limit) (h2 : s.size < 256) (r : List Int) : scText (textB s ++ r, 0) limit = (bytesOf s, (r, 0)) := by
  unfold scText
  have e : textB s ++ r = beB 1 s.size ++ (bytesOf s ++ r) := by unfold textB; rw [List.append_assoc]
  simp only [e, scNum_put1 s.size h2]
  rw [decide_eq_true h]
  have hf : ruleF true 0 2 = 0 := rfl
  rw [hf]
  obtain ⟨h1, h2, h3⟩ := takeL_app (r := r) (bytesOf_length s)
  rw [h1, h2, h3]
theorem itemI_N (g : Int) (h0 : -1 ≤ g) (h1 : g ≤ 127) : itemI (itemN g) = g := by
  unfold itemI itemN
  split <;> split <;> omega
theorem itemN_lt (g : Int) (h1 : g ≤ 127) : itemN g < 256 := by unfold itemN; split <;> omega
theorem getC_put {c : Cmd} (ho : OkC c) (a : Cmd) (r : List Int) (f : Nat) (h1 : 1 ≤ f) (h2 : f ≤ 16) : getC a (putB c f ++ r, 0) f = (keepF a c f, (r, 0)) := by
  have byte : ∀ (n : Int), 0 ≤ n ∧ n ≤ 127 → ∀ r, scNum (beB 1 n.toNat ++ r, 0) 1 = (n.toNat, (r, 0)) := fun n h r => scNum_put1 n.toNat (by omega) r
  have big : ∀ (n : Int), 0 ≤ n ∧ n < 18446744073709551616 → ∀ r, scNum (beB 8 n.toNat ++ r, 0) 8 = (n.toNat, (r, 0)) := fun n h r => scNum_put8 n.toNat (by omega) r
  have nn : ∀ {n k : Int}, 0 ≤ n ∧ n ≤ k → ((n.toNat : Nat) : Int) = n := fun h => by omega
  have nb : ∀ {n : Int}, 0 ≤ n ∧ n < 18446744073709551616 → ((n.toNat : Nat) : Int) = n := fun h => by omega
  rcases f_cases h1 h2 with rfl | rfl | rfl | rfl | rfl | rfl | rfl | rfl | rfl | rfl | rfl | rfl | rfl | rfl | rfl | rfl
  · have := ho.name; simp only [getC, putB, keepF, scText_put c.name 12 (by omega) (by omega), strOf_bytes]
  · have := ho.text; simp only [getC, putB, keepF, scText_put c.text 40 (by omega) (by omega), strOf_bytes]
  · simp only [getC, putB, keepF, List.append_assoc, byte _ ho.rl, byte _ ho.rs, nn ho.rl, nn ho.rs]
  · simp only [getC, putB, keepF, byte _ ho.la, nn ho.la]
  · simp only [getC, putB, keepF, byte _ ho.wh, nn ho.wh]
  · simp only [getC, putB, keepF, byte _ ho.sl, nn ho.sl]
  · simp only [getC, putB, keepF, byte _ ho.di, nn ho.di]
  · simp only [getC, putB, keepF, byte _ ho.co, nn ho.co]
  · simp only [getC, putB, keepF, big _ ho.am, nb ho.am]
  · simp only [getC, putB, keepF, partB, List.append_assoc, byte _ ho.gc, big _ ho.ga, scNum_put1 _ (itemN_lt _ ho.gi.2), nn ho.gc, nb ho.ga, itemI_N _ ho.gi.1 ho.gi.2]
  · simp only [getC, putB, keepF, partB, List.append_assoc, byte _ ho.wc, big _ ho.wa, scNum_put1 _ (itemN_lt _ ho.wi.2), nn ho.wc, nb ho.wa, itemI_N _ ho.wi.1 ho.wi.2]
  · simp only [getC, putB, keepF, byte _ ho.si, nn ho.si]
  · simp only [getC, putB, keepF, byte _ ho.ba, nn ho.ba]
  · simp only [getC, putB, keepF, byte _ ho.qu, nn ho.qu]
  · simp only [getC, putB, keepF, big _ ho.qt, nb ho.qt]
  · simp only [getC, putB, keepF, big _ ho.pr, nb ho.pr]
theorem foldG_put {c : Cmd} (ho : OkC c) : ∀ (l : List Nat) (a : Cmd), (∀ f ∈ l, 1 ≤ f ∧ f ≤ 16) → foldG (a, ((l.map (putB c)).flatten, 0)) l = (l.foldl (fun a f => keepF a c f) a, ([], 0))
  | [], a, _ => rfl
  | f :: l, a, h => by
    have hf := h f (by simp)
    show foldG (getC a ((putB c f :: l.map (putB c)).flatten, 0) f) l = _
    rw [List.flatten_cons, getC_put ho a _ f hf.1 hf.2]
    exact foldG_put ho l (keepF a c f) (fun g hg => h g (List.mem_cons_of_mem _ hg))
theorem ok_of_may {c : Cmd} (h : mayC c = true) : isOpB c.op = true ∧ bareL c (fldL c.op.toNat) = c ∧ fitsC c = true := by
  unfold mayC at h
  rw [Bool.and_eq_true, Bool.and_eq_true] at h
  exact ⟨h.1, (eqC_iff _ _).1 h.2.1, h.2.2⟩
theorem isOp_bd {n : Int} (h : isOpB n = true) : 1 ≤ n ∧ n < 43 := by unfold isOpB at h; simpa using h
/-- What is put is read again. -/
theorem read_bytes {c : Cmd} (h : mayC c = true) (hu : U64C c) : readC (bytesC c) = (c, 0) := by
  obtain ⟨h1, h2, h3⟩ := ok_of_may h
  have ho := okC_of h3 hu
  have hb := isOp_bd h1
  obtain ⟨n, hn⟩ : ∃ n : Nat, c.op = n := Int.eq_ofNat_of_zero_le (show 0 ≤ c.op by omega)
  have hn43 : n < 43 := by omega
  have hby : bytesC c = beB 1 n ++ ((fldL n).map (putB c)).flatten := by
    unfold bytesC bodyB
    rw [if_pos h, hn, Int.toNat_natCast]
    show _ = ((n / 256 ^ 0 % 256 : Nat) : Int) :: _
    congr 1
    simp
    omega
  unfold readC
  simp only [hby, scNum_put1 n (by omega)]
  rw [hn] at h1 h2
  rw [h1]
  have hr : ruleF true 0 17 = 0 := rfl
  rw [hr, if_pos rfl, foldG_put ho (fldL n) (bareC n) (fld_ok n)]
  have h2' : (fldL n).foldl (fun a f => keepF a c f) (bareC n) = c := by
    have h3 := h2
    unfold bareL at h3
    rw [hn, Int.toNat_natCast] at h3
    exact h3
  rw [h2']
  unfold finC
  simp only
  rw [if_pos (by rfl), if_pos h]
def mxB : Nat → Nat
  | 1 => 13
  | 2 => 41
  | 3 => 2
  | 9 => 8
  | 15 => 8
  | 16 => 8
  | 10 => 10
  | 11 => 10
  | _ => 1
theorem putB_mx {c : Cmd} (h : OkC c) (f : Nat) (h1 : 1 ≤ f) (h2 : f ≤ 16) : (putB c f).length ≤ mxB f := by
  have a1 := h.name
  have a2 := h.text
  rcases f_cases h1 h2 with rfl | rfl | rfl | rfl | rfl | rfl | rfl | rfl | rfl | rfl | rfl | rfl | rfl | rfl | rfl | rfl <;> simp [putB, textB, partB, beB_length, bytesOf_length, mxB] <;> omega
theorem body_mx {c : Cmd} (h : OkC c) : ∀ (l : List Nat), (∀ f ∈ l, 1 ≤ f ∧ f ≤ 16) → (bodyB c l).length ≤ 1 + (l.map mxB).sum
  | [], _ => by simp [bodyB]
  | f :: l, hl => by
    have h1 := body_mx h l (fun g hg => hl g (List.mem_cons_of_mem _ hg))
    have h2 := putB_mx h f (hl f (by simp)).1 (hl f (by simp)).2
    unfold bodyB at h1 ⊢
    rw [List.map_cons, List.flatten_cons, List.length_cons, List.length_append] at *
    rw [List.map_cons, List.sum_cons]
    omega
theorem mx60 : ∀ n : Fin 43, 1 + ((fldL n.val).map mxB).sum ≤ 60 := by decide +kernel
theorem bytes_len {c : Cmd} (h : mayC c = true) (hu : U64C c) : 0 < (bytesC c).length ∧ (bytesC c).length ≤ 60 := by
  obtain ⟨h1, h2, h3⟩ := ok_of_may h
  have ho := okC_of h3 hu
  have hb := isOp_bd h1
  unfold bytesC
  rw [if_pos h]
  have hm := mx60 ⟨c.op.toNat, by omega⟩
  have hl := body_mx ho (fldL c.op.toNat) (fld_ok _)
  simp only at hm
  exact ⟨by unfold bodyB; simp, by omega⟩
theorem op_name : ∀ n : Fin 43, 1 ≤ n.val → opO (nameO (n.val : Int)) = n.val := by decide +kernel

/- what is read is put so -/
theorem beB_numV : ∀ (l : List Int) (acc : Nat), bytesOk l → l.length ≤ 8 → beB l.length (numV l acc) = l ∧ ∀ k ≤ 8 - l.length, numV l acc / 256 ^ l.length % 256 ^ k = acc % 256 ^ k
  | [], acc, _, _ => ⟨rfl, fun k _ => by simp [numV]⟩
  | x :: t, acc, hb, hl => by
    have hx := hb x (by simp)
    rw [List.length_cons] at hl
    obtain ⟨n, rfl⟩ := Int.eq_ofNat_of_zero_le hx.1
    have hn : n < 256 := by omega
    have ih := beB_numV t ((acc * 256 + n) % 18446744073709551616) (fun y hy => hb y (List.mem_cons_of_mem _ hy)) (by omega)
    have e0 : numV ((n : Int) :: t) acc = numV t ((acc * 256 + n) % 18446744073709551616) := by show numV t ((acc * 256 + ((n : Int)).toNat) % _) = _; rw [Int.toNat_natCast]
    rw [e0, List.length_cons]
    generalize numV t ((acc * 256 + n) % 18446744073709551616) = N at ih
    obtain ⟨i1, i2⟩ := ih
    have hmod : ∀ k ≤ 8, ((acc * 256 + n) % 18446744073709551616) % 256 ^ k = (acc * 256 + n) % 256 ^ k := fun k hk => by
      refine Nat.mod_mod_of_dvd _ ?_
      rw [show (18446744073709551616 : Nat) = 256 ^ 8 by decide]
      exact Nat.pow_dvd_pow 256 hk
    refine ⟨?_, fun k hk => ?_⟩
    · show ((N / 256 ^ t.length % 256 : Nat) : Int) :: beB t.length N = _
      rw [i1]
      have h1 := i2 1 (by omega)
      rw [hmod 1 (by decide), Nat.pow_one] at h1
      rw [h1]
      congr 1
      omega
    · have h1 := i2 (k + 1) (by omega)
      rw [hmod (k + 1) (by omega)] at h1
      rw [Nat.pow_succ 256 t.length, ← Nat.div_div_eq_div_mul]
      have h2 : ∀ X : Nat, X / 256 % 256 ^ k = X % 256 ^ (k + 1) / 256 := fun X => by
        rw [Nat.pow_succ, Nat.mul_comm, Nat.mod_mul_right_div_self]
      rw [h2, h1, ← h2]
      congr 1
      omega
theorem taken {l : List Int} {f : Int} {k : Nat} (h : fauL l f k = 0) : f = 0 ∧ k ≤ l.length ∧ takeL l f k = l.take k ∧ restL l f k = l.drop k := by
  unfold fauL at h
  by_cases hf : f = 0
  · rw [if_pos hf] at h
    by_cases hk : k ≤ l.length
    · exact ⟨hf, hk, by unfold takeL; rw [if_pos ⟨hf, hk⟩], by unfold restL; rw [if_pos ⟨hf, hk⟩]⟩
    · rw [if_neg hk] at h; cases h
  · rw [if_neg hf] at h; exact absurd h hf
theorem bytesOk_take {l : List Int} {k : Nat} (h : bytesOk l) : bytesOk (l.take k) := fun x hx => h x (List.mem_of_mem_take hx)
theorem bytesOk_drop {l : List Int} {k : Nat} (h : bytesOk l) : bytesOk (l.drop k) := fun x hx => h x (List.mem_of_mem_drop hx)
theorem scNum_back {x y : Sc} {k n : Nat} (hk : k ≤ 8) (hb : bytesOk x.1) (h : scNum x k = (n, y)) (hy : y.2 = 0) : x.2 = 0 ∧ x.1 = beB k n ++ y.1 := by
  unfold scNum at h
  injection h with h1 h2
  subst h2
  obtain ⟨t1, t2, t3, t4⟩ := taken hy
  have hl : (x.1.take k).length = k := by rw [List.length_take]; omega
  have := (beB_numV (x.1.take k) 0 (bytesOk_take hb) (by omega)).1
  rw [hl] at this
  rw [t3] at h1
  rw [h1] at this
  refine ⟨t1, ?_⟩
  show x.1 = beB k n ++ restL x.1 x.2 k
  rw [this, t4, List.take_append_drop]
theorem bytesOf_str {t : List Int} (h : bytesOk t) : bytesOf (strOfNums t) = t := by
  unfold bytesOf
  rw [strOfNums_data, List.map_map]
  conv => rhs; rw [← List.map_id t]
  refine List.map_congr_left (fun b hb => ?_)
  have := h b hb
  simp only [Function.comp_apply, id_eq]
  rw [UInt8.toNat_ofNat']
  omega
theorem scText_back {x y : Sc} {t : List Int} {limit : Int} (hb : bytesOk x.1) (h : scText x limit = (t, y)) (hy : y.2 = 0) : x.2 = 0 ∧ x.1 = textB (strOfNums t) ++ y.1 ∧ bytesOk t := by
  unfold scText at h
  obtain ⟨⟨n, z⟩, hz⟩ : ∃ s, scNum x 1 = s := ⟨_, rfl⟩
  simp only [hz] at h
  injection h with h1 h2
  subst h2
  obtain ⟨t1, t2, t3, t4⟩ := taken hy
  have hz2 : z.2 = 0 := by
    unfold ruleF at t1
    split at t1
    · exact t1
    · split at t1
      · cases t1
      · exact t1
  obtain ⟨s1, s2⟩ := scNum_back (by decide) hb hz hz2
  have hzb := scNum_ok hb hz
  rw [t3] at h1
  have htl : t.length = n := by rw [← h1, List.length_take]; omega
  have htb : bytesOk t := by rw [← h1]; exact bytesOk_take hzb
  refine ⟨s1, ?_, htb⟩
  show x.1 = textB (strOfNums t) ++ restL z.1 _ n
  rw [s2, t4]
  unfold textB
  rw [strOfNums_size, bytesOf_str htb, htl, List.append_assoc]
  congr 1
  rw [← h1, List.take_append_drop]
theorem itemN_I (n : Nat) (h : n < 256) : itemN (itemI n) = n := by
  unfold itemI itemN
  split
  · rename_i h2; rw [h2]; rfl
  · rw [if_neg (by omega)]; omega
/-- One field that is read is put so. -/
theorem getC_back {a a' : Cmd} {x y : Sc} {f : Nat} (h1 : 1 ≤ f) (h2 : f ≤ 16) (hb : bytesOk x.1) (h : getC a x f = (a', y)) (hy : y.2 = 0) : x.2 = 0 ∧ x.1 = putB a' f ++ y.1 := by
  have txt : ∀ limit, (∃ u : ByteArray → Cmd, ∃ p : Cmd → List Int, (∀ s, p (u s) = textB s) ∧ p a' = putB a' f ∧ (u (strOfNums (scText x limit).1), (scText x limit).2) = (a', y)) → x.2 = 0 ∧ x.1 = putB a' f ++ y.1 := by
    rintro limit ⟨u, p, hp, hpa, he⟩
    injection he with e1 e2
    obtain ⟨s1, s2, s3⟩ := scText_back (limit := limit) hb (show scText x limit = ((scText x limit).1, y) by rw [← e2]) hy
    exact ⟨s1, by rw [← hpa, ← e1, hp]; exact s2⟩
  have one : ∀ k, k ≤ 8 → (∃ u : Int → Cmd, ∃ p : Cmd → List Int, (∀ n : Nat, p (u n) = beB k n) ∧ p a' = putB a' f ∧ (u ((scNum x k).1 : Nat), (scNum x k).2) = (a', y)) → x.2 = 0 ∧ x.1 = putB a' f ++ y.1 := by
    rintro k hk ⟨u, p, hp, hpa, he⟩
    injection he with e1 e2
    obtain ⟨s1, s2⟩ := scNum_back hk hb (show scNum x k = ((scNum x k).1, y) by rw [← e2]) hy
    exact ⟨s1, by rw [← hpa, ← e1, hp]; exact s2⟩
  have par : (∃ u : Int → Int → Int → Cmd, ∃ p : Cmd → List Int, (∀ i j k, p (u i j k) = partB i j k) ∧ p a' = putB a' f ∧ (u ((scNum x 1).1 : Nat) ((scNum (scNum x 1).2 8).1 : Nat) (itemI (scNum (scNum (scNum x 1).2 8).2 1).1), (scNum (scNum (scNum x 1).2 8).2 1).2) = (a', y)) → x.2 = 0 ∧ x.1 = putB a' f ++ y.1 := by
    rintro ⟨u, p, hp, hpa, he⟩
    obtain ⟨⟨n1, x1⟩, e1⟩ : ∃ s, scNum x 1 = s := ⟨_, rfl⟩
    obtain ⟨⟨n2, x2⟩, e2⟩ : ∃ s, scNum x1 8 = s := ⟨_, rfl⟩
    obtain ⟨⟨n3, x3⟩, e3⟩ : ∃ s, scNum x2 1 = s := ⟨_, rfl⟩
    simp only [e1, e2, e3] at he
    injection he with g1 g2
    subst g2
    have b1 := scNum_ok hb e1
    have b2 := scNum_ok b1 e2
    obtain ⟨s3, r3⟩ := scNum_back (by decide) b2 e3 hy
    obtain ⟨s2, r2⟩ := scNum_back (by decide) b1 e2 s3
    obtain ⟨s1, r1⟩ := scNum_back (by decide) hb e1 s2
    refine ⟨s1, ?_⟩
    rw [← hpa, ← g1, hp, r1, r2, r3]
    unfold partB
    rw [Int.toNat_natCast, Int.toNat_natCast, itemN_I n3 (scNum_lt1 b2 e3)]
    simp only [List.append_assoc]
  have bb : ∀ (k n : Nat), beB k ((n : Int)).toNat = beB k n := fun k n => by rw [Int.toNat_natCast]
  rcases f_cases h1 h2 with rfl | rfl | rfl | rfl | rfl | rfl | rfl | rfl | rfl | rfl | rfl | rfl | rfl | rfl | rfl | rfl
  · exact txt 12 ⟨fun s => { a with name := s }, fun c => textB c.name, fun _ => rfl, rfl, h⟩
  · exact txt 40 ⟨fun s => { a with text := s }, fun c => textB c.text, fun _ => rfl, rfl, h⟩
  · obtain ⟨⟨n1, x1⟩, e1⟩ : ∃ s, scNum x 1 = s := ⟨_, rfl⟩
    obtain ⟨⟨n2, x2⟩, e2⟩ : ∃ s, scNum x1 1 = s := ⟨_, rfl⟩
    simp only [getC, e1, e2] at h
    injection h with g1 g2
    subst g2
    have b1 := scNum_ok hb e1
    obtain ⟨s2, r2⟩ := scNum_back (by decide) b1 e2 hy
    obtain ⟨s1, r1⟩ := scNum_back (by decide) hb e1 s2
    refine ⟨s1, ?_⟩
    rw [← g1, r1, r2]
    show _ = (beB 1 ((n1 : Int)).toNat ++ beB 1 ((n2 : Int)).toNat) ++ _
    rw [bb, bb, List.append_assoc]
  · exact one 1 (by decide) ⟨fun n => { a with la := n }, fun c => beB 1 c.la.toNat, bb 1, rfl, h⟩
  · exact one 1 (by decide) ⟨fun n => { a with wh := n }, fun c => beB 1 c.wh.toNat, bb 1, rfl, h⟩
  · exact one 1 (by decide) ⟨fun n => { a with sl := n }, fun c => beB 1 c.sl.toNat, bb 1, rfl, h⟩
  · exact one 1 (by decide) ⟨fun n => { a with di := n }, fun c => beB 1 c.di.toNat, bb 1, rfl, h⟩
  · exact one 1 (by decide) ⟨fun n => { a with co := n }, fun c => beB 1 c.co.toNat, bb 1, rfl, h⟩
  · exact one 8 (by decide) ⟨fun n => { a with am := n }, fun c => beB 8 c.am.toNat, bb 8, rfl, h⟩
  · exact par ⟨fun i j k => { a with gc := i, ga := j, gi := k }, fun c => partB c.gc c.ga c.gi, fun _ _ _ => rfl, rfl, h⟩
  · exact par ⟨fun i j k => { a with wc := i, wa := j, wi := k }, fun c => partB c.wc c.wa c.wi, fun _ _ _ => rfl, rfl, h⟩
  · exact one 1 (by decide) ⟨fun n => { a with si := n }, fun c => beB 1 c.si.toNat, bb 1, rfl, h⟩
  · exact one 1 (by decide) ⟨fun n => { a with ba := n }, fun c => beB 1 c.ba.toNat, bb 1, rfl, h⟩
  · exact one 1 (by decide) ⟨fun n => { a with qu := n }, fun c => beB 1 c.qu.toNat, bb 1, rfl, h⟩
  · exact one 8 (by decide) ⟨fun n => { a with qt := n }, fun c => beB 8 c.qt.toNat, bb 8, rfl, h⟩
  · exact one 8 (by decide) ⟨fun n => { a with pr := n }, fun c => beB 8 c.pr.toNat, bb 8, rfl, h⟩
end Go.Proofs.Ytfaicipochceeaa.Giv
