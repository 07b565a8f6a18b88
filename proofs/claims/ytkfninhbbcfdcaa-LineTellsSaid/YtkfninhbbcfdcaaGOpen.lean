/- Arguments of nested kinds, opened: what a reading of cells says, as the kinds' own predicate. -/
import Derived.Test.YtkfninhbbcfdcaaGAllS
import Derived.Deep.Slices
import Derived.OpenShut
namespace Go.Proofs.Ytkfninhbbcfdcaa.Giv
open Go.RowKit Go.Proofs.YtkfninhbbcfdcaaW.PrintWords Go.ChangeShapes Go.WideShapes

/-- Whatever reads as type t has cells of kind d, and is good. -/
structure Opens (P : Program) (w : World) (t : TypeId) {α : Type} (d : Kd α) (good : α → Prop) : Prop where
  sz : P.cellsOf t = d.sz
  run : ∀ {H : Type} {enc : TypeId × Value → H} {fuel : Nat} {cs : List Value} {x : DataW H × List MemPlace}, DataW.trod enc P w 0 (fun _ => true) true fuel t cs = some x → ∃ a, d.K w a cs ∧ good a

section
variable {P : Program} {w : World} {t e : TypeId}
theorem opens_int {k : IntKind} (ht : P.underlying t = some (.int k)) (hc : P.cellsOf t = 1) : Opens P w t (Kd.int k) (fun n => (Lit.int k n).wf = true) :=
  ⟨hc, fun h => by
    obtain ⟨n, rfl, _, hw⟩ := DataW.trod_int ht h
    exact ⟨n, rfl, hw⟩⟩
theorem opens_bool (ht : P.underlying t = some .bool) (hc : P.cellsOf t = 1) : Opens P w t Kd.bool (fun _ => True) :=
  ⟨hc, fun h => by
    obtain ⟨n, rfl, _⟩ := DataW.trod_bool ht h
    exact ⟨n, rfl, trivial⟩⟩
theorem opens_string (ht : P.underlying t = some .string) (hc : P.cellsOf t = 1) : Opens P w t Kd.string (fun s => s.size ≤ maxLen) :=
  ⟨hc, fun h => by
    obtain ⟨n, rfl, _, hw⟩ := DataW.trod_string ht h
    exact ⟨n, rfl, hw⟩⟩
theorem opens_slice {α : Type} {d : Kd α} {good : α → Prop} (ht : P.underlying t = some (.slice e)) (hc : P.cellsOf t = 1) (o : Opens P w e d good) : Opens P w t (Kd.slice e d) (fun l => ∀ x ∈ l, good x) :=
  ⟨hc, fun {H enc fuel cs x} h => by
    rcases DataW.trod_slice ht h with ⟨rfl, _⟩ | ⟨a, len, cap, elems, rest, n, _, rfl, _, hb, hl, hm, hel, hget, _, _⟩
    · exact ⟨[], ⟨none, 0, rfl, Nat.le_refl _, Kd.C_nil _ _⟩, fun x hx => by cases hx⟩
    · have each : ∀ i, i < len → ∃ y : Option α, ∃ a' c, y = some a' ∧ w.cells? 0 (a.add (i * P.cellsOf e)) (P.cellsOf e) = some c ∧ d.K w a' c ∧ good a' := by
        intro i hi
        have h1 := hget i hi
        rw [List.getElem?_eq_getElem (show i < elems.length by omega)] at h1
        obtain ⟨c, hcs, hrun⟩ := Option.bind_eq_some_iff.1 h1
        obtain ⟨a', hK, hg⟩ := o.run hrun
        exact ⟨some a', a', c, rfl, hcs, hK, hg⟩
      obtain ⟨f, hf⟩ := Go.Deep.choose_lt each
      have mk : ∀ i, i < len → ∃ a', f i = some a' := fun i hi => by obtain ⟨a', _, h1, _⟩ := hf i hi; exact ⟨a', h1⟩
      obtain ⟨l, hll, hlf⟩ : ∃ l : List α, l.length = len ∧ ∀ i, i < len → f i = l[i]? := by
        clear hf each
        revert mk
        generalize len = q
        intro mk
        induction q with
        | zero => exact ⟨[], rfl, fun i hi => absurd hi (by omega)⟩
        | succ m ih =>
          obtain ⟨l, h1, h2⟩ := ih (fun i hi => mk i (by omega))
          obtain ⟨a', ha'⟩ := mk m (by omega)
          refine ⟨l ++ [a'], by simp [h1], fun i hi => ?_⟩
          by_cases hm' : i < m
          · rw [h2 i hm', List.getElem?_append_left (by omega)]
          · obtain rfl : i = m := by omega
            rw [ha', List.getElem?_append_right (by omega), h1]
            simp
      have hlen : l.length ≤ 9223372036854775807 := by unfold maxLen at hm; omega
      refine ⟨l, ⟨some a, cap, by rw [hll], by omega, rfl, hlen, fun _ => ⟨a, rfl, fun j p hj => ?_⟩⟩, fun x hx => ?_⟩
      · have hjl : j < len := by have := (List.getElem?_eq_some_iff.1 hj).1; omega
        obtain ⟨a', c, h1, h2, h3, h4⟩ := hf j hjl
        rw [hlf j hjl, hj] at h1
        injection h1 with h1
        subst h1
        rw [o.sz] at h2
        obtain ⟨_, hcl, hcc⟩ := World.cells?_some h2
        refine ⟨c, d.K_len h3, h3, fun i u hu => ?_⟩
        have hil : i < d.sz := by have := (List.getElem?_eq_some_iff.1 hu).1; omega
        have := hcc i hil
        rw [hu] at this
        rw [← this, Go.Proofs.YtkfninhbbcfdcaaW.PrintWords.add_add]
      · obtain ⟨j, hj⟩ := List.getElem?_of_mem hx
        have hjl : j < len := by have := (List.getElem?_eq_some_iff.1 hj).1; omega
        obtain ⟨a', c, h1, h2, h3, h4⟩ := hf j hjl
        rw [hlf j hjl, hj] at h1
        injection h1 with h1
        subst h1
        exact h4⟩
theorem opens_iso {α β : Type} {d : Kd α} {good : α → Prop} (f : β → α) (g : α → β) (hfg : ∀ a, f (g a) = a) (o : Opens P w t d good) : Opens P w t (Kd.iso d f) (fun b => good (f b)) :=
  ⟨o.sz, fun h => by
    obtain ⟨a, hK, hg⟩ := o.run h
    exact ⟨g a, by show d.K w (f (g a)) _; rw [hfg]; exact hK, by rw [hfg]; exact hg⟩⟩
theorem opens_good {α : Type} {d : Kd α} {good good' : α → Prop} (h : ∀ a, good a → good' a) (o : Opens P w t d good) : Opens P w t d good' :=
  ⟨o.sz, fun hr => by
    obtain ⟨a, hK, hg⟩ := o.run hr
    exact ⟨a, hK, h a hg⟩⟩

/-- Two in line, out of the cells from an offset on. -/
theorem fits_pair {α β : Type} {a : Kd α} {b : Kd β} {ga : α → Prop} {gb : β → Prop} {cs : List Value} {o : Nat} (ha : ∃ x, a.K w x ((cs.drop o).take a.sz) ∧ ga x) (hb : ∃ x, b.K w x ((cs.drop (o + a.sz)).take b.sz) ∧ gb x) :
    ∃ x, (Kd.pair a b).K w x ((cs.drop o).take (Kd.pair a b).sz) ∧ (ga x.1 ∧ gb x.2) := by
  obtain ⟨x, hx, gx⟩ := ha
  obtain ⟨y, hy, gy⟩ := hb
  refine ⟨(x, y), ⟨_, _, ?_, hx, hy⟩, gx, gy⟩
  show (cs.drop o).take (a.sz + b.sz) = _
  rw [List.take_add, List.drop_drop]
theorem field_fits {H : Type} {enc : TypeId × Value → H} {fs : Array Field} {n : Nat} {cs : List Value} {xs : List (DataW H × List MemPlace)} {α : Type} {d : Kd α} {good : α → Prop} {i : Nat} {f : Field}
    (hx : ∀ (i : Nat) (f : Field), fs[i]? = some f → DataW.trod enc P w 0 (fun _ => true) true n f.type ((cs.drop f.offset).take (P.cellsOf f.type)) = xs[i]?) (hl : xs.length = fs.size)
    (hi : fs[i]? = some f) (o : Opens P w f.type d good) : ∃ x, d.K w x ((cs.drop f.offset).take d.sz) ∧ good x := by
  have h1 := hx i f hi
  have hlt : i < xs.length := by have := (Array.getElem?_eq_some_iff.1 hi).1; omega
  rw [List.getElem?_eq_getElem hlt] at h1
  obtain ⟨a, hK, hg⟩ := o.run h1
  rw [o.sz] at hK
  exact ⟨a, hK, hg⟩
theorem opens_struct2 {α β : Type} {a : Kd α} {b : Kd β} {ga : α → Prop} {gb : β → Prop} {f0 f1 : Field} (ht : P.underlying t = some (.struct #[f0, f1]))
    (o0 : Opens P w f0.type a ga) (o1 : Opens P w f1.type b gb) (h0 : f0.offset = 0) (h1 : f1.offset = a.sz) (hc : P.cellsOf t = a.sz + b.sz) : Opens P w t (Kd.pair a b) (fun x => ga x.1 ∧ gb x.2) :=
  ⟨hc, fun {H enc fuel cs x} h => by
    obtain ⟨xs, n, _, _, hl, hxl, hx⟩ := DataW.trod_struct ht h
    have e0 := field_fits (i := 0) (f := f0) hx hxl rfl o0
    have e1 := field_fits (i := 1) (f := f1) hx hxl rfl o1
    rw [h0] at e0
    rw [h1] at e1
    have := fits_pair (o := 0) e0 (by rw [Nat.zero_add]; exact e1)
    rwa [List.drop_zero, List.take_of_length_le (by rw [hl, hc]; exact Nat.le_refl _)] at this⟩
theorem opens_struct4 {α β γ δ : Type} {a : Kd α} {b : Kd β} {c : Kd γ} {d : Kd δ} {ga : α → Prop} {gb : β → Prop} {gc : γ → Prop} {gd : δ → Prop} {f0 f1 f2 f3 : Field} (ht : P.underlying t = some (.struct #[f0, f1, f2, f3]))
    (o0 : Opens P w f0.type a ga) (o1 : Opens P w f1.type b gb) (o2 : Opens P w f2.type c gc) (o3 : Opens P w f3.type d gd) (h0 : f0.offset = 0) (h1 : f1.offset = a.sz) (h2 : f2.offset = a.sz + b.sz) (h3 : f3.offset = a.sz + b.sz + c.sz)
    (hc : P.cellsOf t = a.sz + (b.sz + (c.sz + d.sz))) : Opens P w t (Kd.pair a (Kd.pair b (Kd.pair c d))) (fun x => ga x.1 ∧ gb x.2.1 ∧ gc x.2.2.1 ∧ gd x.2.2.2) :=
  ⟨hc, fun {H enc fuel cs x} h => by
    obtain ⟨xs, n, _, _, hl, hxl, hx⟩ := DataW.trod_struct ht h
    have e0 := field_fits (i := 0) (f := f0) hx hxl rfl o0
    have e1 := field_fits (i := 1) (f := f1) hx hxl rfl o1
    have e2 := field_fits (i := 2) (f := f2) hx hxl rfl o2
    have e3 := field_fits (i := 3) (f := f3) hx hxl rfl o3
    rw [h0] at e0
    rw [h1] at e1
    rw [h2] at e2
    rw [h3] at e3
    have p1 := fits_pair (o := a.sz + b.sz) e2 e3
    have p2 := fits_pair (o := a.sz) e1 p1
    have := fits_pair (o := 0) e0 (by rw [Nat.zero_add]; exact p2)
    rwa [List.drop_zero, List.take_of_length_le (by rw [hl, hc]; exact Nat.le_refl _)] at this⟩
/-- A slice that came in. -/
theorem open_row {H : Type} {enc : TypeId × Value → H} {α : Type} {d : Kd α} {good : List α → Prop} {A : Option Addr} {n c : Nat} {dd : DataW H} {ps : List MemPlace} (o : Opens P w t (Kd.slice e d) good) (h : DataW.Trod enc P w 0 (fun _ => true) true t (.slice A n c) dd ps) :
    ∃ l, n = l.length ∧ l.length ≤ c ∧ d.C w A l.length l ∧ good l := by
  obtain ⟨fuel, hf⟩ := h
  obtain ⟨l, ⟨A', c', he, hl, hC⟩, hg⟩ := o.run hf
  simp only [Value.cells, List.cons.injEq, Value.slice.injEq, and_true] at he
  obtain ⟨rfl, rfl, rfl⟩ := he
  exact ⟨l, rfl, hl, hC, hg⟩
end
theorem wf_u8 {x : Int} (h : (Lit.int .u8 x).wf = true) : 0 ≤ x ∧ x < 256 := by
  have := bytes_of (l := [x]) (fun y hy => by rw [List.mem_singleton.1 hy]; exact h)
  exact this x (by simp)
theorem opens_bytes (w : World) : Opens Try.prog w 22 (Kd.slice 5 (Kd.int .u8)) bytesOk :=
  opens_good (fun l h x hx => wf_u8 (h x hx)) (opens_slice Try.underlying22 (by kernel_rfl) (opens_int Try.underlying5 (by kernel_rfl)))
theorem opens_bytess (w : World) : Opens Try.prog w 28 (Kd.slice 22 (Kd.slice 5 (Kd.int .u8))) (fun l => ∀ x ∈ l, bytesOk x) :=
  opens_slice Try.underlying28 (by kernel_rfl) (opens_bytes w)
end Go.Proofs.Ytkfninhbbcfdcaa.Giv
