/- Arguments of the kinds api.Out, []api.Out, []api.Ref, opened. -/
import Derived.Test.YtkfninhbbcfdcaaGOpen
import Derived.Test.YtkfninhbbcfdcaaGRepM
namespace Go.Proofs.Ytkfninhbbcfdcaa.Giv
open Go.RowKit Go.Proofs.YtkfninhbbcfdcaaW.PrintWords Go.ChangeShapes Go.WideShapes Go.Proofs.Ytkfninhbbcfdcaa.PReplyTells

theorem u64s_of {l : List Int} (h : ∀ x ∈ l, (Lit.int .u64 x).wf = true) : u64Ok l := fun x hx => by
  have h := h x hx
  simp only [Lit.wf, Bool.and_eq_true, decide_eq_true_eq] at h
  have e1 : IntKind.u64.min = 0 := rfl
  have e2 : IntKind.u64.max = 18446744073709551615 := rfl
  omega
theorem opens_out (w : World) : Opens Try.prog w 49 k49 (fun x => bytesOk x.f3) :=
  opens_good (fun x (h : _ ∧ _ ∧ _ ∧ bytesOk x.f3) => h.2.2.2) (opens_iso (fun x : S49 => (x.f0, x.f1, x.f2, x.f3)) (fun q => ⟨q.1, q.2.1, q.2.2.1, q.2.2.2⟩) (fun _ => rfl)
    (opens_struct4 Try.underlying49 (opens_int Try.underlying3 (by kernel_rfl)) (opens_int Try.underlying3 (by kernel_rfl)) (opens_int Try.underlying23 (by kernel_rfl)) (opens_bytes w) rfl rfl rfl rfl (by kernel_rfl)))
theorem opens_outs (w : World) : Opens Try.prog w 45 (Kd.slice 49 k49) (fun l => ∀ x ∈ l, bytesOk x.f3) := opens_slice Try.underlying45 (by kernel_rfl) (opens_out w)
theorem opens_ref (w : World) : Opens Try.prog w 76 k76 (fun _ => True) :=
  opens_good (fun _ _ => trivial) (opens_iso (fun x : S76 => (x.f0, x.f1)) (fun q => ⟨q.1, q.2⟩) (fun _ => rfl)
    (opens_struct2 Try.underlying76 (opens_int Try.underlying3 (by kernel_rfl)) (opens_int Try.underlying3 (by kernel_rfl)) rfl rfl (by kernel_rfl)))
theorem opens_refs (w : World) : Opens Try.prog w 69 (Kd.slice 76 k76) (fun _ => True) := opens_good (fun _ _ => trivial) (opens_slice Try.underlying69 (by kernel_rfl) (opens_ref w))
set_option maxRecDepth 100000 in
theorem open_out {H : Type} {enc : TypeId × Value → H} {w : World} {base : Nat} {v : Value} {dd : DataW H} {ps : List MemPlace} (h : DataW.Trod enc Try.prog w 0 (fun _ => true) true 49 v dd ps) (hv : Value.okWide Try.prog w .any base 49 v) :
    ∃ (x : S49) (A : Option Addr) (c : Nat), v = .agg #[.int .i64 x.f0, .int .i64 x.f1, .int .i64 x.f2, .slice A x.f3.length c] ∧ x.f3.length ≤ c ∧ Kd.C (Kd.int .u8) w A x.f3.length x.f3 ∧ bytesOk x.f3 := by
  obtain ⟨cs, rfl, _, _⟩ : ∃ cs, v = .agg cs ∧ cs.size = Try.prog.cellsOf 49 ∧ Row.okWide Try.prog w .any base 49 cs := by
    unfold Value.okWide at hv
    rw [Try.underlying49] at hv
    exact hv
  obtain ⟨fuel, hf⟩ := h
  obtain ⟨x, hK, hg⟩ := (opens_out w).run hf
  obtain ⟨A, c, he, hl, hC⟩ := k49_open hK
  have he' : cs.toList = [.int .i64 x.f0, .int .i64 x.f1, .int .i64 x.f2, .slice A x.f3.length c] := he
  refine ⟨x, A, c, ?_, hl, hC, hg⟩
  congr 1
  apply Array.toList_inj.1
  exact he'
/-- A slice that came in, with the length that its reading tells. -/
theorem open_rowb {H : Type} {enc : TypeId × Value → H} {P : Program} {w : World} {t e : TypeId} {α : Type} {d : Kd α} {good : List α → Prop} {A : Option Addr} {n c : Nat} {dd : DataW H} {ps : List MemPlace} (ht : P.underlying t = some (.slice e)) (o : Opens P w t (Kd.slice e d) good) (h : DataW.Trod enc P w 0 (fun _ => true) true t (.slice A n c) dd ps) :
    ∃ l, n = l.length ∧ l.length ≤ c ∧ d.C w A l.length l ∧ good l ∧ (dd = .nil ∧ l.length = 0 ∨ ∃ es sp, dd = .slice es sp ∧ es.length = l.length) := by
  obtain ⟨l, hn, hl, hC, hg⟩ := open_row o h
  refine ⟨l, hn, hl, hC, hg, ?_⟩
  obtain ⟨fuel, hf⟩ := h
  rcases DataW.trod_slice ht hf with ⟨hcs, hx⟩ | ⟨a, len, cap, elems, rest, m, _, hcs, hx, _, _, _, hel, _⟩
  · simp [Value.cells] at hcs
    simp only [Prod.mk.injEq] at hx
    exact .inl ⟨hx.1, by omega⟩
  · simp [Value.cells] at hcs
    simp only [Prod.mk.injEq] at hx
    exact .inr ⟨_, _, hx.1, by rw [List.length_map, hel]; omega⟩
end Go.Proofs.Ytkfninhbbcfdcaa.Giv
