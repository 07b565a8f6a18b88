/- The fixed bytes of alive. -/
import Derived.Test.YtkfninhbbcfdcaaGGiv
namespace Go.Proofs.Ytkfninhbbcfdcaa.Giv
theorem fr_ab : frameB [97, 98] = [2, 97, 98, 147, 91] := by decide +kernel
theorem wr_ab2 : wrapB [97, 98] 2 = [2, 97, 98, 147, 91] ∧ wrapE [97, 98] 2 = 0 := by decide +kernel
theorem wr_ab1 : wrapB [97, 98] 1 = [] ∧ wrapE [97, 98] 1 = 13 := by decide +kernel
theorem tk_a : tk [2, 97, 98, 147, 91, 9] 2 = ([97, 98], 5, 0) := by decide +kernel
theorem tk_b : tk [2, 97, 98, 147] 2 = ([], 0, 12) := by decide +kernel
theorem tk_c : tk [2, 97, 98, 147, 91] 1 = ([], 1, 13) := by decide +kernel
theorem tk_d : tk [2, 98, 98, 147, 91] 2 = ([], 5, 14) := by decide +kernel
theorem all_ab : allG 10 [2, 97, 98, 147, 91, 2, 97, 98, 147, 91] 2 = ([[97, 98], [97, 98]], 0) := by decide +kernel
end Go.Proofs.Ytkfninhbbcfdcaa.Giv
