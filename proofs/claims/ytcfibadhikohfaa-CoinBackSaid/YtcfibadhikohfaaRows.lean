/-
  No cell of these rows narrows 'for every input' (looked for: loops, veiled, ifaces, maps, wideKeys, modest, calm, conditions, laid).
  DERIVED. THE GIVEN ROWS OF THIS SEAT. 7 by the template 'for every input the law returns true; each argument reads behind the call as it read before'; 0 by the template 'total and deterministic' (their statements: YtcfibadhikohfaaTotals.lean).
  GIVEN WITH THE SEED: the statements are not yours to turn. If you find one false, say at which input.
  Laid BY PROGRAM, IN A SANDBOX (cutbox-rows.mjs): the forced cells as the released guide's own fill.sh prints them over the translation 22ae3b170a0d0519… (all of the seat's roots in one cut). By AI agents, Wed Nov 11 2026. No macro, syntax, notation, axiom, sorry.
-/
import Derived.Test.YtcfibadhikohfaaChecked
import GoSem.Claim
import GoSem.ClaimJoined
import GoSem.ClaimMapViews
import Derived.JoinedTies
import Derived.KernelRfl
namespace Go.Proofs.Ytcfibadhikohfaa
/- THE CELL 'sum', in the pinned program and in every row, IS THE sha256 OF THE DUMP (.gsa) THAT YtcfibadhikohfaaProg.lean LOADS. Nothing in Lean hashes anything: it is a label: what it is worth is what the hold of that sum in a sandbox is worth. -/
noncomputable def Try.pinned : Pinned := { name := "ytcfibadhikohfaa", sum := "22ae3b170a0d0519c2475184e920168ae8e8648acb42f1fe0584d6ac2b3af6ce", checked := Try.checked }
namespace Rows
def none {H : Type} : Left H := { results := [], args := [] }

/-- 'rialtolaw04.SumTells': WHATEVER THE INPUT: true; the input reads as it did. -/
def sumTellsSpec : ChangeSpec := { name := "sumTells", fn := fun _ => fun
  | [d1, d2] => { results := [.lit (.bool true)], args := [d1, d2] }
  | _ => none }
def sumTellsRow : OpenClaim := { program := "ytcfibadhikohfaa", sum := "22ae3b170a0d0519c2475184e920168ae8e8648acb42f1fe0584d6ac2b3af6ce", func := "rialto/rialtolaw04.SumTells", spec := "sumTells", apart := false }
def SumTellsSaid : Prop := sumTellsRow.holds Try.pinned (OpenSpec.ofChange sumTellsSpec)

/-- ITS FALSE NEIGHBOUR: 'it returns false'. Refute it at one input. -/
def sumTellsWrong : ChangeSpec := { name := "sumTells", fn := fun _ => fun
  | [d1, d2] => { results := [.lit (.bool false)], args := [d1, d2] }
  | _ => none }
def SumTellsWrongFalsely : Prop := sumTellsRow.holds Try.pinned (OpenSpec.ofChange sumTellsWrong)

/-- 'rialtolaw04.SumGoesOn': WHATEVER THE INPUT: true; the input reads as it did. -/
def sumGoesOnSpec : ChangeSpec := { name := "sumGoesOn", fn := fun _ => fun
  | [d1, d2] => { results := [.lit (.bool true)], args := [d1, d2] }
  | _ => none }
def sumGoesOnRow : OpenClaim := { program := "ytcfibadhikohfaa", sum := "22ae3b170a0d0519c2475184e920168ae8e8648acb42f1fe0584d6ac2b3af6ce", func := "rialto/rialtolaw04.SumGoesOn", spec := "sumGoesOn", apart := false }
def SumGoesOnSaid : Prop := sumGoesOnRow.holds Try.pinned (OpenSpec.ofChange sumGoesOnSpec)

/-- ITS FALSE NEIGHBOUR: 'it returns false'. Refute it at one input. -/
def sumGoesOnWrong : ChangeSpec := { name := "sumGoesOn", fn := fun _ => fun
  | [d1, d2] => { results := [.lit (.bool false)], args := [d1, d2] }
  | _ => none }
def SumGoesOnWrongFalsely : Prop := sumGoesOnRow.holds Try.pinned (OpenSpec.ofChange sumGoesOnWrong)

/-- 'rialtolaw04.SumBurst': WHATEVER THE INPUT: true; the input reads as it did. -/
def sumBurstSpec : ChangeSpec := { name := "sumBurst", fn := fun _ => fun
  | [d1, d2, d3] => { results := [.lit (.bool true)], args := [d1, d2, d3] }
  | _ => none }
def sumBurstRow : OpenClaim := { program := "ytcfibadhikohfaa", sum := "22ae3b170a0d0519c2475184e920168ae8e8648acb42f1fe0584d6ac2b3af6ce", func := "rialto/rialtolaw04.SumBurst", spec := "sumBurst", apart := false }
def SumBurstSaid : Prop := sumBurstRow.holds Try.pinned (OpenSpec.ofChange sumBurstSpec)

/-- ITS FALSE NEIGHBOUR: 'it returns false'. Refute it at one input. -/
def sumBurstWrong : ChangeSpec := { name := "sumBurst", fn := fun _ => fun
  | [d1, d2, d3] => { results := [.lit (.bool false)], args := [d1, d2, d3] }
  | _ => none }
def SumBurstWrongFalsely : Prop := sumBurstRow.holds Try.pinned (OpenSpec.ofChange sumBurstWrong)

/-- 'rialtolaw04.SumEven': WHATEVER THE INPUT: true; the input reads as it did. -/
def sumEvenSpec : ChangeSpec := { name := "sumEven", fn := fun _ => fun
  | [d1, d2] => { results := [.lit (.bool true)], args := [d1, d2] }
  | _ => none }
def sumEvenRow : OpenClaim := { program := "ytcfibadhikohfaa", sum := "22ae3b170a0d0519c2475184e920168ae8e8648acb42f1fe0584d6ac2b3af6ce", func := "rialto/rialtolaw04.SumEven", spec := "sumEven", apart := false }
def SumEvenSaid : Prop := sumEvenRow.holds Try.pinned (OpenSpec.ofChange sumEvenSpec)

/-- ITS FALSE NEIGHBOUR: 'it returns false'. Refute it at one input. -/
def sumEvenWrong : ChangeSpec := { name := "sumEven", fn := fun _ => fun
  | [d1, d2] => { results := [.lit (.bool false)], args := [d1, d2] }
  | _ => none }
def SumEvenWrongFalsely : Prop := sumEvenRow.holds Try.pinned (OpenSpec.ofChange sumEvenWrong)

/-- 'rialtolaw13.CoinTells': WHATEVER THE INPUT: true; the input reads as it did. -/
def coinTellsSpec : ChangeSpec := { name := "coinTells", fn := fun _ => fun
  | [d1, d2, d3, d4] => { results := [.lit (.bool true)], args := [d1, d2, d3, d4] }
  | _ => none }
def coinTellsRow : OpenClaim := { program := "ytcfibadhikohfaa", sum := "22ae3b170a0d0519c2475184e920168ae8e8648acb42f1fe0584d6ac2b3af6ce", func := "rialto/rialtolaw13.CoinTells", spec := "coinTells", inPlace := ["math/bits.Add64", "math/bits.Sub64"], unfollowed := true, recurses := true, apart := false }
def CoinTellsSaid : Prop := coinTellsRow.holds Try.pinned (OpenSpec.ofChange coinTellsSpec)

/-- ITS FALSE NEIGHBOUR: 'it returns false'. Refute it at one input. -/
def coinTellsWrong : ChangeSpec := { name := "coinTells", fn := fun _ => fun
  | [d1, d2, d3, d4] => { results := [.lit (.bool false)], args := [d1, d2, d3, d4] }
  | _ => none }
def CoinTellsWrongFalsely : Prop := coinTellsRow.holds Try.pinned (OpenSpec.ofChange coinTellsWrong)

/-- 'rialtolaw13.CoinPurses': WHATEVER THE INPUT: true; the input reads as it did. -/
def coinPursesSpec : ChangeSpec := { name := "coinPurses", fn := fun _ => fun
  | [d1, d2, d3] => { results := [.lit (.bool true)], args := [d1, d2, d3] }
  | _ => none }
def coinPursesRow : OpenClaim := { program := "ytcfibadhikohfaa", sum := "22ae3b170a0d0519c2475184e920168ae8e8648acb42f1fe0584d6ac2b3af6ce", func := "rialto/rialtolaw13.CoinPurses", spec := "coinPurses", inPlace := ["math/bits.Add64", "math/bits.Sub64"], unfollowed := true, recurses := true, apart := false }
def CoinPursesSaid : Prop := coinPursesRow.holds Try.pinned (OpenSpec.ofChange coinPursesSpec)

/-- ITS FALSE NEIGHBOUR: 'it returns false'. Refute it at one input. -/
def coinPursesWrong : ChangeSpec := { name := "coinPurses", fn := fun _ => fun
  | [d1, d2, d3] => { results := [.lit (.bool false)], args := [d1, d2, d3] }
  | _ => none }
def CoinPursesWrongFalsely : Prop := coinPursesRow.holds Try.pinned (OpenSpec.ofChange coinPursesWrong)

/-- 'rialtolaw13.CoinBack': WHATEVER THE INPUT: true; the input reads as it did. -/
def coinBackSpec : ChangeSpec := { name := "coinBack", fn := fun _ => fun
  | [d1, d2, d3] => { results := [.lit (.bool true)], args := [d1, d2, d3] }
  | _ => none }
def coinBackRow : OpenClaim := { program := "ytcfibadhikohfaa", sum := "22ae3b170a0d0519c2475184e920168ae8e8648acb42f1fe0584d6ac2b3af6ce", func := "rialto/rialtolaw13.CoinBack", spec := "coinBack", inPlace := ["math/bits.Add64", "math/bits.Sub64"], unfollowed := true, recurses := true, apart := false }
def CoinBackSaid : Prop := coinBackRow.holds Try.pinned (OpenSpec.ofChange coinBackSpec)

/-- ITS FALSE NEIGHBOUR: 'it returns false'. Refute it at one input. -/
def coinBackWrong : ChangeSpec := { name := "coinBack", fn := fun _ => fun
  | [d1, d2, d3] => { results := [.lit (.bool false)], args := [d1, d2, d3] }
  | _ => none }
def CoinBackWrongFalsely : Prop := coinBackRow.holds Try.pinned (OpenSpec.ofChange coinBackWrong)

/- THE SECOND FORM. 'bulk': how many values and letters a reading holds, each counted each time it is reached (what is shared counts as often as it is met; a slice's spare places count too). A statement '..UptoSaid' is the law's where the arguments, and the package variables that the reading takes, are together of bulk at most 1048576: NARROWER than '..Said'. Prove '..Said' where nothing that the law and all that it calls make is longer than what came in: it says more and counts as full. Else prove '..UptoSaid'. A law counts once. -/
mutual
def uptoBulk {H : Type} : DataW H → Nat
  | .lit (.string bytes) => bytes.length + 1
  | .lit _ => 1
  | .nil => 1
  | .ptr d => uptoBulk d + 1
  | .slice elems spare => uptoBulkAll elems + uptoBulkAll spare + 1
  | .agg parts => uptoBulkAll parts + 1
  | .iface _ d => uptoBulk d + 1
  | .map entries => uptoBulkEntries entries + 1
  | .held _ => 1
def uptoBulkAll {H : Type} : List (DataW H) → Nat
  | [] => 0
  | d :: r => uptoBulk d + uptoBulkAll r
def uptoBulkEntries {H : Type} : List (Lit × DataW H) → Nat
  | [] => 0
  | x :: r => uptoBulkEntry x + uptoBulkEntries r
def uptoBulkEntry {H : Type} : Lit × DataW H → Nat
  | (.string bytes, d) => bytes.length + uptoBulk d + 1
  | (_, d) => uptoBulk d + 1
 end
def uptoSmall : (H : Type) → List (DataW H) → Bool := fun _ ds => decide (uptoBulkAll ds ≤ 1048576)
def OpenSpec.upto (s : _root_.Go.ChangeSpec) : _root_.Go.OpenSpec := { _root_.Go.OpenSpec.ofChange s with cond := some uptoSmall }

/-- 'rialtolaw04.SumTells', WHERE WHAT IT READS IS OF BULK AT MOST 1048576: true; the input reads as it did. -/
def sumTellsUptoRow : OpenClaim := { program := "ytcfibadhikohfaa", sum := "22ae3b170a0d0519c2475184e920168ae8e8648acb42f1fe0584d6ac2b3af6ce", func := "rialto/rialtolaw04.SumTells", spec := "sumTells", apart := false, narrowed := true }
def SumTellsUptoSaid : Prop := sumTellsUptoRow.holds Try.pinned (OpenSpec.upto sumTellsSpec)

/-- 'rialtolaw04.SumGoesOn', WHERE WHAT IT READS IS OF BULK AT MOST 1048576: true; the input reads as it did. -/
def sumGoesOnUptoRow : OpenClaim := { program := "ytcfibadhikohfaa", sum := "22ae3b170a0d0519c2475184e920168ae8e8648acb42f1fe0584d6ac2b3af6ce", func := "rialto/rialtolaw04.SumGoesOn", spec := "sumGoesOn", apart := false, narrowed := true }
def SumGoesOnUptoSaid : Prop := sumGoesOnUptoRow.holds Try.pinned (OpenSpec.upto sumGoesOnSpec)

/-- 'rialtolaw04.SumBurst', WHERE WHAT IT READS IS OF BULK AT MOST 1048576: true; the input reads as it did. -/
def sumBurstUptoRow : OpenClaim := { program := "ytcfibadhikohfaa", sum := "22ae3b170a0d0519c2475184e920168ae8e8648acb42f1fe0584d6ac2b3af6ce", func := "rialto/rialtolaw04.SumBurst", spec := "sumBurst", apart := false, narrowed := true }
def SumBurstUptoSaid : Prop := sumBurstUptoRow.holds Try.pinned (OpenSpec.upto sumBurstSpec)

/-- 'rialtolaw04.SumEven', WHERE WHAT IT READS IS OF BULK AT MOST 1048576: true; the input reads as it did. -/
def sumEvenUptoRow : OpenClaim := { program := "ytcfibadhikohfaa", sum := "22ae3b170a0d0519c2475184e920168ae8e8648acb42f1fe0584d6ac2b3af6ce", func := "rialto/rialtolaw04.SumEven", spec := "sumEven", apart := false, narrowed := true }
def SumEvenUptoSaid : Prop := sumEvenUptoRow.holds Try.pinned (OpenSpec.upto sumEvenSpec)

/-- 'rialtolaw13.CoinTells', WHERE WHAT IT READS IS OF BULK AT MOST 1048576: true; the input reads as it did. -/
def coinTellsUptoRow : OpenClaim := { program := "ytcfibadhikohfaa", sum := "22ae3b170a0d0519c2475184e920168ae8e8648acb42f1fe0584d6ac2b3af6ce", func := "rialto/rialtolaw13.CoinTells", spec := "coinTells", inPlace := ["math/bits.Add64", "math/bits.Sub64"], unfollowed := true, recurses := true, apart := false, narrowed := true }
def CoinTellsUptoSaid : Prop := coinTellsUptoRow.holds Try.pinned (OpenSpec.upto coinTellsSpec)

/-- 'rialtolaw13.CoinPurses', WHERE WHAT IT READS IS OF BULK AT MOST 1048576: true; the input reads as it did. -/
def coinPursesUptoRow : OpenClaim := { program := "ytcfibadhikohfaa", sum := "22ae3b170a0d0519c2475184e920168ae8e8648acb42f1fe0584d6ac2b3af6ce", func := "rialto/rialtolaw13.CoinPurses", spec := "coinPurses", inPlace := ["math/bits.Add64", "math/bits.Sub64"], unfollowed := true, recurses := true, apart := false, narrowed := true }
def CoinPursesUptoSaid : Prop := coinPursesUptoRow.holds Try.pinned (OpenSpec.upto coinPursesSpec)

/-- 'rialtolaw13.CoinBack', WHERE WHAT IT READS IS OF BULK AT MOST 1048576: true; the input reads as it did. -/
def coinBackUptoRow : OpenClaim := { program := "ytcfibadhikohfaa", sum := "22ae3b170a0d0519c2475184e920168ae8e8648acb42f1fe0584d6ac2b3af6ce", func := "rialto/rialtolaw13.CoinBack", spec := "coinBack", inPlace := ["math/bits.Add64", "math/bits.Sub64"], unfollowed := true, recurses := true, apart := false, narrowed := true }
def CoinBackUptoSaid : Prop := coinBackUptoRow.holds Try.pinned (OpenSpec.upto coinBackSpec)

end Rows
end Go.Proofs.Ytcfibadhikohfaa
