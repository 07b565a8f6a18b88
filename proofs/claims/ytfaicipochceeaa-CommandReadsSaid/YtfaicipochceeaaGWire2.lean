/- The package wire: texts, and a scan's end. -/
import Derived.Test.YtfaicipochceeaaGWire
namespace Go.Proofs.Ytfaicipochceeaa.Giv
open Go.RowKit Go.Proofs.YtfaicipochceeaaW.PrintWords Go.Proofs.YtfaicipochceeaaW.PrintLast Go.Proofs.YtfaicipochceeaaW.PrintMore
set_option linter.unusedVariables false
set_option linter.unusedSimpArgs false

section
variable {P : Program} {ops : Array Oper} {rest : List Oper} {o : Oper} {a : Act} {Q : Exit → Act → World → Prop}
theorem R_append_str {w0 W : World} (base : Nat) (hgd : o.guard = none) (s x : Operand) (t u : TypeId)
    (ho : o.op = .call { callee := .builtin .append, args := #[s, x], argTypes := #[t, u] })
    (ht : P.underlying t = some (.slice 5)) (hu : P.underlying u = some .string) (hinfo : (P.info? 5).map (fun i => (i.zero, i.size, i.bytes)) = some (some (.int .u8 0), 1, 1))
    (v : Value) (xs : List Int) (y : ByteArray) (hs : a.eval s = v) (hx : a.eval x = .string y)
    (HO : Kd.R (Kd.int .u8) 5 W base (fun _ => True) v xs) (HB : Below base w0 W) (hbase : base ≤ W.heap.size) (hl : xs.length + y.size ≤ 140737488355328)
    (h : ∀ v1 w1, Kd.R (Kd.int .u8) 5 w1 base (fun _ => True) v1 (xs ++ bytesOf y) → Below base w0 w1 → W.grownBy w1 v.ownBlock → wpList P ops Q rest (a.put o.dst v1) w1) :
    wpList P ops Q (o :: rest) a W :=
  print_append_str base hgd s x t u 5 ho ht hu hinfo v xs y hs hx (Kd.own_of_R HO) HB hbase hl (fun v1 w1 h1 h2 h3 => h v1 w1 (Kd.R_of_own h1 (fun _ _ => trivial)) h2 h3)
end
theorem bytesOf_ok (s : ByteArray) : bytesOk (bytesOf s) := fun x hx => by
  obtain ⟨b, _, rfl⟩ := List.mem_map.1 hx
  have := b.toNat_lt
  omega
theorem strOf_bytes (s : ByteArray) : strOfNums (bytesOf s) = s := by
  unfold strOfNums bytesOf
  obtain ⟨⟨l⟩⟩ := s
  simp only [List.map_map]
  have : List.map ((fun n => UInt8.ofNat n.toNat) ∘ fun b : UInt8 => (b.toNat : Int)) l = l := by
    conv => rhs; rw [← List.map_id l]
    exact List.map_congr_left (fun b _ => by simp)
  rw [this]
def textB (s : ByteArray) : List Int := beB 1 s.size ++ bytesOf s

section
attribute [local go_sem] max2_int min2_int max_two min_two
set_option maxHeartbeats 4000000 in
set_option maxRecDepth 100000 in
theorem Text_calls (A0 : Option Addr) (c0 : Nat) (l0 : List Int) (s : ByteArray) (w : World) (hr0 : Kd.C (Kd.int .u8) w A0 l0.length l0) (hc0 : l0.length ≤ c0) (hs : s.size ≤ 255) (hl : l0.length + 300 < 140737488355328) :
    Calls Try.prog 44 #[.slice A0 l0.length c0, .string s] w fun e w' => ∃ v, e = .returned v ∧ Kd.R (Kd.int .u8) 5 w' w.heap.size (fun _ => True) v (l0 ++ textB s) ∧ Below w.heap.size w w' := by
  have H := Aside0.mk (And.intro hr0 (And.intro hc0 (And.intro hs hl)))
  have hsi : ¬ (255 : Int) < s.size := by omega
  have hs2 : (s.size : Int) ≤ 255 := by omega
  have hex : s.extract 0 s.size = s := by simp
  obtain ⟨l1, hl1⟩ : ∃ l1, l0 ++ beB (fitI 1).toNat s.size = l1 := ⟨_, rfl⟩
  have HL1 : Aside0 (l1 ++ bytesOf s = l0 ++ textB s ∧ l1.length = l0.length + 1) := ⟨by
    rw [← hl1]
    refine ⟨by rw [List.append_assoc]; rfl, ?_⟩
    rw [List.length_append, beB_length]; rfl⟩
  have HE := Aside0.mk hl1
  clear hr0 hc0 hs hl hl1
  go_enter Try.func44, Try.ntmps44
  go_wp2_with fail
  refine (Num_calls A0 c0 l0 s.size 1 w H.out.1 H.out.2.1 (by have := H.out.2.2.1; omega) (by have := H.out.2.2.2; omega)).mono ?_
  rintro e w1 ⟨v, rfl, hR, hB⟩
  rw [HE.out] at hR
  have HR := Aside0.mk hR
  have HB := Aside0.mk hB
  clear hR hB
  go_wp2_with (first
    | ((with_reducible refine gate_builtin (b := .append) (xs := #[.tmp 14, .tmp 15]) rfl ?_); at_builtin; refine R_append_str (w0 := w) w.heap.size rfl (.tmp 14) (.tmp 15) 31 9 rfl Try.underlying31 Try.underlying9 info5 v l1 s rfl rfl HR.out HB.out HB.out.size ?aL ?_; (case aL => have := HL1.out.2; have := H.out.2.2; omega); intro v16 w2 ho hb hg; have HO := Aside0.mk ho; have HB2 := Aside0.mk hb; clear ho hb hg)
    | fail)
  go_ret
  exact ⟨_, rfl, by rw [← HL1.out.1]; exact HO.out, HB2.out⟩
end

theorem Rule_St {w0 w : World} {g : Nat} {l : List Int} {f : Int} (ok : Bool) (er : Int) (h : St w0 w g l f) :
    Calls Try.prog 31 #[.pointer (some ⟨g, 0, none⟩), .bool ok, .int .i64 er] w fun e w' => e = .returned (.tuple #[]) ∧ St w0 w' g l (ruleF ok f er) ∧ Keep1 w w' g := by
  obtain ⟨hb, hlo, A, c, hblk, hC, hc⟩ := h
  refine (Rule_calls g A l.length c f er ok w hblk).mono ?_
  rintro e w' ⟨rfl, h1, hk⟩
  exact ⟨rfl, ⟨hk.below hb hlo, hlo, A, c, h1, hC, hc⟩, hk⟩
def endI (f : Int) (n : Nat) : Int := if f = 0 ∧ 0 < n then 13 else f
theorem End_St {w0 w : World} {g : Nat} {l : List Int} {f : Int} (h : St w0 w g l f) :
    Calls Try.prog 34 #[.pointer (some ⟨g, 0, none⟩)] w fun e w' => e = .returned (.int .i64 (endI f l.length)) ∧ w = w' := by
  have H := Aside0.mk h
  obtain ⟨n, hn⟩ : ∃ n, leftI f l.length = n := ⟨_, rfl⟩
  obtain ⟨x, hx⟩ : ∃ x, endI f l.length = x := ⟨_, rfl⟩
  rw [hx]
  have HN := Aside0.mk hn
  have HX := Aside0.mk hx
  clear h hn hx
  by_cases hp : 0 < n
  · have HXE : Aside0 (x = 13) := ⟨by
      have h1 := HN.out
      have h2 := HX.out
      unfold leftI at h1
      unfold endI at h2
      by_cases hf : f = 0
      · rw [if_pos hf] at h1
        rw [if_pos ⟨hf, by omega⟩] at h2
        omega
      · rw [if_neg hf] at h1
        omega⟩
    go_enter Try.func34, Try.ntmps34
    go_wp2_with fail
    refine (Left_St H.out).mono ?_
    rintro e w' ⟨rfl, rfl⟩
    rw [HN.out]
    go_wp2_with fail
    go_ret
    exact ⟨by rw [HXE.out]; rfl, rfl⟩
  · have hp' : n ≤ 0 := by omega
    have HXE : Aside0 (x = f) := ⟨by
      have h1 := HN.out
      have h2 := HX.out
      unfold leftI at h1
      unfold endI at h2
      by_cases hf : f = 0
      · rw [if_pos hf] at h1
        rw [if_neg (fun hh => by omega)] at h2
        omega
      · rw [if_neg (fun hh => hf hh.1)] at h2
        omega⟩
    clear hp
    go_enter Try.func34, Try.ntmps34
    go_wp2_with fail
    refine (Left_St H.out).mono ?_
    rintro e w' ⟨rfl, rfl⟩
    rw [HN.out]
    go_wp2_with fail
    refine (Fault_St H.out).mono ?_
    rintro e w' ⟨rfl, rfl⟩
    go_wp2_with fail
    go_ret
    exact ⟨by rw [HXE.out]; rfl, rfl⟩
/-- A scan's state: what is left, the fault. -/
abbrev Sc := List Int × Int
def scNum (x : Sc) (k : Nat) : Nat × Sc := (numV (takeL x.1 x.2 k) 0, restL x.1 x.2 k, fauL x.1 x.2 k)
def scText (x : Sc) (limit : Int) : List Int × Sc :=
  let y := scNum x 1
  let f := ruleF (decide ((y.1 : Int) ≤ limit)) y.2.2 2
  (takeL y.2.1 f y.1, restL y.2.1 f y.1, fauL y.2.1 f y.1)
theorem takeL_ok {l : List Int} {f : Int} {m : Nat} (h : bytesOk l) : bytesOk (takeL l f m) := by
  unfold takeL; split
  · exact fun x hx => h x (List.mem_of_mem_take hx)
  · exact fun x hx => by cases hx
theorem numV_lt : ∀ (l : List Int) (n : Nat), n < 18446744073709551616 → numV l n < 18446744073709551616
  | [], n, h => h
  | x :: t, n, h => numV_lt t _ (Nat.mod_lt _ (by decide))
theorem numV_one {l : List Int} (h : bytesOk l) (hl : l.length ≤ 1) : numV l 0 < 256 := by
  match l, hl with
  | [], _ => decide
  | [x], _ =>
    have := h x (by simp)
    simp [numV]
    omega
set_option maxRecDepth 100000 in
theorem SText_calls (w0 w : World) (g : Nat) (x : Sc) (limit : Int) (hb : bytesOk x.1) (h : St w0 w g x.1 x.2) (t : List Int) (y : Sc) (ht : scText x limit = (t, y)) :
    Calls Try.prog 53 #[.pointer (some ⟨g, 0, none⟩), .int .i64 limit] w fun e w' => e = .returned (.string (strOfNums t)) ∧ St w0 w' g y.1 y.2 ∧ Keep1 w w' g := by
  obtain ⟨l, f⟩ := x
  obtain ⟨l3, f3⟩ := y
  obtain ⟨n, hn⟩ : ∃ n, numV (takeL l f 1) 0 = n := ⟨_, rfl⟩
  obtain ⟨l1, hl1⟩ : ∃ l1, restL l f 1 = l1 := ⟨_, rfl⟩
  obtain ⟨f1, hf1⟩ : ∃ f1, fauL l f 1 = f1 := ⟨_, rfl⟩
  obtain ⟨ok, hok⟩ : ∃ ok, decide ((n : Int) ≤ limit) = ok := ⟨_, rfl⟩
  obtain ⟨f2, hf2⟩ : ∃ f2, ruleF ok f1 2 = f2 := ⟨_, rfl⟩
  have hn256 : n < 256 := by
    rw [← hn]
    refine numV_one (takeL_ok hb) ?_
    unfold takeL
    split
    · rw [List.length_take]; omega
    · exact Nat.zero_le _
  have HT : Aside0 (takeL l1 f2 n = t ∧ restL l1 f2 n = l3 ∧ fauL l1 f2 n = f3) := ⟨by
    unfold scText scNum at ht
    simp only [hn, hl1, hf1, hok, hf2, Prod.mk.injEq] at ht
    exact ht⟩
  have HS := Aside0.mk h
  have HB := Aside0.mk hb
  have HE := Aside0.mk (And.intro hn (And.intro hl1 (And.intro hf1 (And.intro hok hf2))))
  have hnc : (n : Int) ≤ 255 := by omega
  clear hn hl1 hf1 hok hf2 ht h hb hn256
  go_enter Try.func53, Try.ntmps53
  go_wp2_with fail
  refine (SNum_calls w0 w g l f 1 HB.out HS.out).mono ?_
  rintro e w1 ⟨rfl, hS, hK⟩
  rw [show (fitI 1).toNat = 1 by decide] at hS ⊢
  rw [HE.out.2.1, HE.out.2.2.1] at hS
  rw [HE.out.1]
  have HS1 := Aside0.mk hS
  have HK1 := Aside0.mk hK
  clear hS hK
  have hd : decide ((n : Int) ≤ limit) = ok := HE.out.2.2.2.1
  go_wp2_with fail
  refine (Rule_St ok 2 HS1.out).mono ?_
  rintro e w2 ⟨rfl, hS, hK⟩
  rw [HE.out.2.2.2.2] at hS
  have HS2 := Aside0.mk hS
  have HK2 := Aside0.mk (HK1.out.trans hK)
  clear hS hK hd HK1 HS1
  go_wp2_with fail
  refine (Take_calls w0 w2 g l1 f2 n (by omega) HS2.out).mono ?_
  rintro e w3 ⟨v, rfl, hR, hS, hK⟩
  rw [show ((n : Int)).toNat = n from Int.toNat_natCast n, HT.out.1] at hR
  rw [show ((n : Int)).toNat = n from Int.toNat_natCast n, HT.out.2.1, HT.out.2.2] at hS
  obtain ⟨A, c, rfl⟩ := Kd.R_slice hR
  have hs := Kd.C_string (P := Try.prog) (A := A) (c := c) Try.underlying31 Try.underlying5 Try.underlying9 (Kd.R_reads' hR).2.2
  have HS3 := Aside0.mk hS
  have HK3 := Aside0.mk (HK2.out.trans hK)
  clear hR hS hK
  go_wp2_with fail
  go_ret
  exact ⟨rfl, HS3.out, HK3.out⟩
end Go.Proofs.Ytfaicipochceeaa.Giv
