/- Arguments of the kind api.Command, opened. -/
import Derived.Test.YtfaicipochceeaaGPlain2
import Derived.Deep.Slices
import Derived.OpenShut
namespace Go.Proofs.Ytfaicipochceeaa.Giv
open Go.RowKit Go.Proofs.YtfaicipochceeaaW.PrintWords Go.Lib
section
variable {P : Program} {w : World} {H : Type} {enc : TypeId × Value → H}
theorem some_at {fs : Array Field} {n : Nat} {cs : List Value} {xs : List (DataW H × List MemPlace)} {i : Nat} {f : Field}
    (hx : ∀ (i : Nat) (f : Field), fs[i]? = some f → DataW.trod enc P w 0 (fun _ => true) true n f.type ((cs.drop f.offset).take (P.cellsOf f.type)) = xs[i]?) (hl : xs.length = fs.size)
    (hi : fs[i]? = some f) : ∃ y, DataW.trod enc P w 0 (fun _ => true) true n f.type ((cs.drop f.offset).take (P.cellsOf f.type)) = some y := by
  have h1 := hx i f hi
  have hlt : i < xs.length := by have := (Array.getElem?_eq_some_iff.1 hi).1; omega
  rw [List.getElem?_eq_getElem hlt] at h1
  exact ⟨_, h1⟩
theorem int_at {k : IntKind} {t : TypeId} {fs : Array Field} {n : Nat} {cs : List Value} {xs : List (DataW H × List MemPlace)} {o : Nat} (i : Nat) (ht : P.underlying t = some (.int k)) (hc : P.cellsOf t = 1)
    (hx : ∀ (i : Nat) (f : Field), fs[i]? = some f → DataW.trod enc P w 0 (fun _ => true) true n f.type ((cs.drop f.offset).take (P.cellsOf f.type)) = xs[i]?) (hl : xs.length = fs.size)
    (hi : (fs[i]?).map (fun f => (f.type, f.offset)) = some (t, o)) : ∃ z, (cs.drop o).take 1 = [.int k z] ∧ (Lit.int k z).wf = true := by
  obtain ⟨f, hf, he⟩ := Option.map_eq_some_iff.1 hi
  simp only [Prod.mk.injEq] at he
  obtain ⟨rfl, rfl⟩ := he
  obtain ⟨y, hy⟩ := some_at hx hl hf
  obtain ⟨z, e, _, hw⟩ := DataW.trod_int ht hy
  rw [hc] at e
  exact ⟨z, e, hw⟩
theorem str_at {t : TypeId} {fs : Array Field} {n : Nat} {cs : List Value} {xs : List (DataW H × List MemPlace)} {o : Nat} (i : Nat) (ht : P.underlying t = some .string) (hc : P.cellsOf t = 1)
    (hx : ∀ (i : Nat) (f : Field), fs[i]? = some f → DataW.trod enc P w 0 (fun _ => true) true n f.type ((cs.drop f.offset).take (P.cellsOf f.type)) = xs[i]?) (hl : xs.length = fs.size)
    (hi : (fs[i]?).map (fun f => (f.type, f.offset)) = some (t, o)) : ∃ z, (cs.drop o).take 1 = [.string z] := by
  obtain ⟨f, hf, he⟩ := Option.map_eq_some_iff.1 hi
  simp only [Prod.mk.injEq] at he
  obtain ⟨rfl, rfl⟩ := he
  obtain ⟨y, hy⟩ := some_at hx hl hf
  obtain ⟨z, e, _⟩ := DataW.trod_string ht hy
  rw [hc] at e
  exact ⟨z, e⟩
theorem row_at {t : TypeId} {fs fs2 : Array Field} {n : Nat} {cs : List Value} {xs : List (DataW H × List MemPlace)} {o k : Nat} (i : Nat) (ht : P.underlying t = some (.struct fs2)) (hc : P.cellsOf t = k)
    (hx : ∀ (i : Nat) (f : Field), fs[i]? = some f → DataW.trod enc P w 0 (fun _ => true) true n f.type ((cs.drop f.offset).take (P.cellsOf f.type)) = xs[i]?) (hl : xs.length = fs.size)
    (hi : (fs[i]?).map (fun f => (f.type, f.offset)) = some (t, o)) : ∃ (m : Nat) (ys : List (DataW H × List MemPlace)), ys.length = fs2.size ∧ ∀ (i : Nat) (f : Field), fs2[i]? = some f → DataW.trod enc P w 0 (fun _ => true) true m f.type ((((cs.drop o).take k).drop f.offset).take (P.cellsOf f.type)) = ys[i]? := by
  obtain ⟨f, hf, he⟩ := Option.map_eq_some_iff.1 hi
  simp only [Prod.mk.injEq] at he
  obtain ⟨rfl, rfl⟩ := he
  obtain ⟨y, hy⟩ := some_at hx hl hf
  obtain ⟨ys, m, _, _, _, hyl, hyx⟩ := DataW.trod_struct ht hy
  rw [hc] at hyx
  exact ⟨m, ys, hyl, hyx⟩
theorem one_of {cs : List Value} {o : Nat} {v : Value} (h : (cs.drop o).take 1 = [v]) : cs[o]? = some v := by
  have h2 : ((cs.drop o).take 1)[0]? = some v := by rw [h]; rfl
  rw [List.getElem?_take, List.getElem?_drop] at h2
  simpa using h2
theorem one_of2 {cs : List Value} {o k j : Nat} {v : Value} (h : ((((cs.drop o).take k).drop j)).take 1 = [v]) (hj : j < k) : cs[o + j]? = some v := by
  have h2 := one_of h
  rw [List.getElem?_take, if_pos hj, List.getElem?_drop] at h2
  exact h2
end
theorem c3 : Try.prog.cellsOf 3 = 1 := by kernel_rfl
theorem c9 : Try.prog.cellsOf 9 = 1 := by kernel_rfl
theorem c24 : Try.prog.cellsOf 24 = 1 := by kernel_rfl
theorem c23 : Try.prog.cellsOf 23 = 2 := by kernel_rfl
theorem c26 : Try.prog.cellsOf 26 = 3 := by kernel_rfl
theorem c28 : Try.prog.cellsOf 28 = 22 := by kernel_rfl
theorem u64_of {x : Int} (h : (Lit.int .u64 x).wf = true) : 0 ≤ x ∧ x < 18446744073709551616 := by
  simp only [Lit.wf, Bool.and_eq_true, decide_eq_true_eq] at h
  have e1 : IntKind.u64.min = 0 := rfl
  have e2 : IntKind.u64.max = 18446744073709551615 := rfl
  omega
set_option maxRecDepth 100000 in
set_option maxHeartbeats 4000000 in
theorem open_cmd {H : Type} {enc : TypeId × Value → H} {w : World} {base : Nat} {v : Value} {dd : DataW H} {ps : List MemPlace} (h : DataW.Trod enc Try.prog w 0 (fun _ => true) true 28 v dd ps) (hv : Value.okWide Try.prog w .any base 28 v) :
    ∃ x : Cmd, v = .agg (cells x) ∧ U64C x := by
  obtain ⟨cs, rfl, _, _⟩ : ∃ cs, v = .agg cs ∧ cs.size = Try.prog.cellsOf 28 ∧ Row.okWide Try.prog w .any base 28 cs := by
    unfold Value.okWide at hv
    rw [Try.underlying28] at hv
    exact hv
  obtain ⟨fuel, hf⟩ := h
  obtain ⟨xs, n, _, _, hl, hxl, hx⟩ := DataW.trod_struct Try.underlying28 hf
  rw [c28] at hl
  obtain ⟨z0, e0, _⟩ := int_at (o := 0) 0 Try.underlying3 c3 hx hxl rfl
  obtain ⟨z1, e1⟩ := str_at (o := 1) 1 Try.underlying9 c9 hx hxl rfl
  obtain ⟨z2, e2⟩ := str_at (o := 2) 2 Try.underlying9 c9 hx hxl rfl
  obtain ⟨m3, y3, yl3, yx3⟩ := row_at (o := 3) 3 Try.underlying23 c23 hx hxl rfl
  obtain ⟨z3, e3, _⟩ := int_at (o := 0) 0 Try.underlying3 c3 yx3 yl3 rfl
  obtain ⟨z4, e4, _⟩ := int_at (o := 1) 1 Try.underlying3 c3 yx3 yl3 rfl
  obtain ⟨z5, e5, _⟩ := int_at (o := 5) 4 Try.underlying3 c3 hx hxl rfl
  obtain ⟨z6, e6, _⟩ := int_at (o := 6) 5 Try.underlying3 c3 hx hxl rfl
  obtain ⟨z7, e7, _⟩ := int_at (o := 7) 6 Try.underlying3 c3 hx hxl rfl
  obtain ⟨z8, e8, _⟩ := int_at (o := 8) 7 Try.underlying3 c3 hx hxl rfl
  obtain ⟨z9, e9, _⟩ := int_at (o := 9) 8 Try.underlying3 c3 hx hxl rfl
  obtain ⟨z10, e10, w10⟩ := int_at (o := 10) 9 Try.underlying24 c24 hx hxl rfl
  obtain ⟨m11, y11, yl11, yx11⟩ := row_at (o := 11) 10 Try.underlying26 c26 hx hxl rfl
  obtain ⟨z11, e11, _⟩ := int_at (o := 0) 0 Try.underlying3 c3 yx11 yl11 rfl
  obtain ⟨z12, e12, w12⟩ := int_at (o := 1) 1 Try.underlying24 c24 yx11 yl11 rfl
  obtain ⟨z13, e13, _⟩ := int_at (o := 2) 2 Try.underlying3 c3 yx11 yl11 rfl
  obtain ⟨m14, y14, yl14, yx14⟩ := row_at (o := 14) 11 Try.underlying26 c26 hx hxl rfl
  obtain ⟨z14, e14, _⟩ := int_at (o := 0) 0 Try.underlying3 c3 yx14 yl14 rfl
  obtain ⟨z15, e15, w15⟩ := int_at (o := 1) 1 Try.underlying24 c24 yx14 yl14 rfl
  obtain ⟨z16, e16, _⟩ := int_at (o := 2) 2 Try.underlying3 c3 yx14 yl14 rfl
  obtain ⟨z17, e17, _⟩ := int_at (o := 17) 12 Try.underlying3 c3 hx hxl rfl
  obtain ⟨z18, e18, _⟩ := int_at (o := 18) 13 Try.underlying3 c3 hx hxl rfl
  obtain ⟨z19, e19, _⟩ := int_at (o := 19) 14 Try.underlying3 c3 hx hxl rfl
  obtain ⟨z20, e20, w20⟩ := int_at (o := 20) 15 Try.underlying24 c24 hx hxl rfl
  obtain ⟨z21, e21, w21⟩ := int_at (o := 21) 16 Try.underlying24 c24 hx hxl rfl
  refine ⟨⟨z0, z1, z2, z3, z4, z5, z6, z7, z8, z9, z10, z11, z12, z13, z14, z15, z16, z17, z18, z19, z20, z21⟩, ?_, ⟨u64_of w10, u64_of w12, u64_of w15, u64_of w20, u64_of w21⟩⟩
  have hcl : cs.toList = (cells ⟨z0, z1, z2, z3, z4, z5, z6, z7, z8, z9, z10, z11, z12, z13, z14, z15, z16, z17, z18, z19, z20, z21⟩).toList := by
    apply List.ext_getElem?
    intro i
    by_cases hi : i < 22
    · have hc : i = 0 ∨ i = 1 ∨ i = 2 ∨ i = 3 ∨ i = 4 ∨ i = 5 ∨ i = 6 ∨ i = 7 ∨ i = 8 ∨ i = 9 ∨ i = 10 ∨ i = 11 ∨ i = 12 ∨ i = 13 ∨ i = 14 ∨ i = 15 ∨ i = 16 ∨ i = 17 ∨ i = 18 ∨ i = 19 ∨ i = 20 ∨ i = 21 := by omega
      rcases hc with rfl | rfl | rfl | rfl | rfl | rfl | rfl | rfl | rfl | rfl | rfl | rfl | rfl | rfl | rfl | rfl | rfl | rfl | rfl | rfl | rfl | rfl
      · exact one_of e0
      · exact one_of e1
      · exact one_of e2
      · exact one_of2 e3 (by decide)
      · exact one_of2 e4 (by decide)
      · exact one_of e5
      · exact one_of e6
      · exact one_of e7
      · exact one_of e8
      · exact one_of e9
      · exact one_of e10
      · exact one_of2 e11 (by decide)
      · exact one_of2 e12 (by decide)
      · exact one_of2 e13 (by decide)
      · exact one_of2 e14 (by decide)
      · exact one_of2 e15 (by decide)
      · exact one_of2 e16 (by decide)
      · exact one_of e17
      · exact one_of e18
      · exact one_of e19
      · exact one_of e20
      · exact one_of e21
    · rw [List.getElem?_eq_none (by have : cs.toList.length = 22 := hl; omega), List.getElem?_eq_none (by show 22 ≤ i; omega)]
  congr 1
  exact Array.toList_inj.1 hcl
end Go.Proofs.Ytfaicipochceeaa.Giv
