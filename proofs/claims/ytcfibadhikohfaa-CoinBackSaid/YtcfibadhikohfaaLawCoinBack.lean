/- The row of the law CoinBack: for every input it returns true, and each argument reads as it did. -/
import Derived.Test.YtcfibadhikohfaaRows
import Derived.Test.YtcfibadhikohfaaHBack
import Derived.Laws.IdiomArrays
import Derived.Lib.SmallJoins
import Derived.WalkKit
import Derived.ProofKit
import Derived.OpenShut
import Derived.ShutString
import Derived.ChangeOld
import Derived.Below
import Derived.SizedLaws
import Derived.Test.YtcfibadhikohfaaWSized
namespace Go.Proofs.Ytcfibadhikohfaa.coinBack
open Go.ChangeShapes Go.WideShapes Go.ChangeAt Go.RowKit Go.Proofs.Ytcfibadhikohfaa.Giv Go.Proofs.YtcfibadhikohfaaW.PrintWords
open Go.ChangeMaps (open_string shut_string)
set_option linter.unusedVariables false
theorem own : ownKnob Try.prog.godebug = none := by kernel_rfl
theorem laidOut : laidOutB Try.prog = true := by kernel_rfl
def IsRow (k : IntKind) (w : World) (a : Option Addr) (len cap : Nat) (zs : List Int) : Prop :=
  (a = none ∧ len = 0 ∧ cap = 0 ∧ zs = []) ∨
  ∃ x, a = some x ∧ len ≤ cap ∧ cap ≤ maxLen ∧ zs.length = cap ∧ (∀ i, i < zs.length → w.cell? (x.add i) = some (.int k (zs.getD i 0))) ∧ ∀ n ∈ zs, (Lit.int k n).wf = true
set_option maxRecDepth 100000 in
theorem lifted (os : Os) (started : os.Started) (H : Type) (enc : TypeId × Value → H) :
    ReturnsInHanded {} Try.checked os 9 .any (Rows.coinBackSpec.pre6 enc Try.prog Try.f9 Rows.coinBackRow.domain false) (Rows.coinBackSpec.post enc Try.prog Try.f9 false true false false) := by
  refine returnsInHanded_of_change_sized (C := Try.checked) own started (by kernel_rfl) Try.func9
    (ChangeSpec.witness6 (enc := enc) (C := Try.checked) false ⟨#[], #[.agg #[.int .u64 0, .int .u64 0, .int .u64 0, .int .u64 0], .int .i64 0, .int .u64 0], []⟩ 8 (by kernel_rfl) (by kernel_rfl) (by kernel_rfl) (by kernel_rfl)) ?_
  intro W base args ds gs before hval0 hW hcnd hsz0 _
  have hsz : (DataW.weightsEach Try.prog (Try.f9.params.toList ++ Rows.coinBackSpec.plain.varTypes Try.prog) (ds ++ gs)).all (· ≤ reachBytes) = true := hsz0
  have hval : ∀ (j : Nat) t v, Try.f9.params[j]? = some t → args[j]? = some v → Value.okWide Try.prog W .any base t v := hval0
  have hW' := hW
  obtain ⟨p, q, hA0, hV, rfl, hfz, hnd⟩ := hW
  have hA : DataW.TrodAll enc Try.prog W 0 (fun _ => true) true Try.f9.params.toList args.toList ds p := hA0
  rw [Try.params9] at hA hval hsz
  obtain ⟨v0, vs0, d0, ds0, p0, q0, hargs, rfl, rfl, h0, r0⟩ := trodAll_cons hA
  obtain ⟨v1, vs1, d1, ds1, p1, q1, rfl, rfl, rfl, h1, r1⟩ := trodAll_cons r0
  obtain ⟨v2, vs2, d2, ds2, p2, q2, rfl, rfl, rfl, h2, r2⟩ := trodAll_cons r1
  obtain ⟨rfl, rfl, rfl⟩ := trodAll_nil r2
  obtain rfl : args = #[v0, v1, v2] := by cases args; simp_all
  obtain ⟨rfl, rfl⟩ := trodVars_none hV
  have k0 := h0
  have lt0 : ∀ x ∈ p0, x.block < W.heap.size := by obtain ⟨m, hm⟩ := k0; exact DataW.trod_lt m _ _ _ hm
  obtain ⟨cs0, rfl, hs0, _⟩ : ∃ cs, v0 = .agg cs ∧ cs.size = Try.prog.cellsOf 40 ∧ Row.okWide Try.prog W .any base 40 cs := by
    have := (hval 0 40 v0 rfl rfl)
    simpa [Value.okWide, Try.underlying40] using this
  have hs40 : cs0.size = 4 := hs0.trans (by kernel_rfl)
  obtain ⟨y00, y10, y20, y30, rfl⟩ := Go.Joins.array4 hs40
  obtain ⟨x00, x10, x20, x30, ⟨rfl, rfl, rfl, rfl⟩, u00, u10, u20, u30⟩ : ∃ a b c d : Int, (y00 = .int .u64 a ∧ y10 = .int .u64 b ∧ y20 = .int .u64 c ∧ y30 = .int .u64 d) ∧ (Lit.int .u64 a).wf = true ∧ (Lit.int .u64 b).wf = true ∧ (Lit.int .u64 c).wf = true ∧ (Lit.int .u64 d).wf = true := by
    obtain ⟨fuel, hf⟩ := h0
    obtain ⟨z0, z1, z2, z3, m, _, hy0, hy1, hy2, hy3⟩ := trod_array4 Try.underlying40 (by kernel_rfl) hf
    obtain ⟨a, e0, _, w0⟩ := DataW.trod_int Try.underlying32 hy0
    obtain ⟨b, e1, _, w1⟩ := DataW.trod_int Try.underlying32 hy1
    obtain ⟨c, e2, _, w2⟩ := DataW.trod_int Try.underlying32 hy2
    obtain ⟨d, e3, _, w3⟩ := DataW.trod_int Try.underlying32 hy3
    simp only [List.cons.injEq, and_true] at e0 e1 e2 e3
    exact ⟨a, b, c, d, ⟨e0, e1, e2, e3⟩, w0, w1, w2, w3⟩
  obtain ⟨a1, rfl, rfl, rfl, w1⟩ := open_int Try.underlying3 (hval 1 3 v1 rfl rfl) h1
  obtain ⟨a2, rfl, rfl, rfl, w2⟩ := open_int Try.underlying32 (hval 2 32 v2 rfl rfl) h2
  clear hA0 hval0 hsz0 hsz
  refine (coinBack x00 x10 x20 x30 a2 a1 u00 u10 u20 u30 w2 W).mono fun e W' ⟨he, bel⟩ => ?_
  subst he
  exact ⟨_, rfl, _, _, _, [], _, [], hW', trodAll_mk1 (shut_bool Try.underlying4 _), (trodAll_cons_mk (Below.trod laidOut (by kernel_rfl) (of_decide_eq_true (by kernel_rfl)) k0 bel lt0) (trodAll_cons_mk (shut_int Try.underlying3 w1) (trodAll_cons_mk (shut_int Try.underlying32 w2) trodAll_mk0))), rfl, bel.frame _, fun h => by cases h⟩
theorem over : Rows.coinBackRow.holds Try.pinned (OpenSpec.ofChange Rows.coinBackSpec) :=
  OpenClaim.holds_of_wide 9 Try.f9 rfl rfl rfl rfl rfl rfl rfl ⟨rfl, rfl, rfl, rfl, rfl⟩ rfl rfl rfl rfl rfl (by kernel_rfl) Try.func9 (by kernel_rfl)
    (of_decide_eq_true (by kernel_rfl)) (by unfold Func.isWrapper; first | (rw [if_pos (by decide +kernel)]; kernel_rfl) | (rw [if_neg (by decide +kernel)]; exact ⟨rfl, rfl⟩))
    (fun os started H enc _ => lifted os started H enc)
theorem proved : Rows.CoinBackSaid := over
#print axioms proved
end Go.Proofs.Ytcfibadhikohfaa.coinBack
namespace Go.Proofs.Ytcfibadhikohfaa
/-- The row, under a short name, for the claim. -/
theorem coinBack_holds : Rows.CoinBackSaid := coinBack.proved
end Go.Proofs.Ytcfibadhikohfaa
