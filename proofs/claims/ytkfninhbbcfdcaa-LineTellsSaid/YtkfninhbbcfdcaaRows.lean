/-
  No cell of these rows narrows 'for every input' (looked for: loops, veiled, ifaces, maps, wideKeys, modest, calm, conditions, laid).
  DERIVED. THE GIVEN ROWS OF THIS SEAT. 10 by the template 'for every input the law returns true; each argument reads behind the call as it read before'; 0 by the template 'total and deterministic' (their statements: YtkfninhbbcfdcaaTotals.lean).
  GIVEN WITH THE SEED: the statements are not yours to turn. If you find one false, say at which input.
  Laid BY PROGRAM, IN A SANDBOX (cutbox-rows.mjs): the forced cells as the released guide's own fill.sh prints them over the translation 89e8db48f6bca82a… (all of the seat's roots in one cut). By AI agents, Wed Nov 11 2026. No macro, syntax, notation, axiom, sorry.
-/
import Derived.Test.YtkfninhbbcfdcaaChecked
import GoSem.Claim
import GoSem.ClaimJoined
import GoSem.ClaimMapViews
import Derived.JoinedTies
import Derived.KernelRfl
namespace Go.Proofs.Ytkfninhbbcfdcaa
/- THE CELL 'sum', in the pinned program and in every row, IS THE sha256 OF THE DUMP (.gsa) THAT YtkfninhbbcfdcaaProg.lean LOADS. Nothing in Lean hashes anything: it is a label: what it is worth is what the hold of that sum in a sandbox is worth. -/
noncomputable def Try.pinned : Pinned := { name := "ytkfninhbbcfdcaa", sum := "89e8db48f6bca82a26106422fdeb65e0bad0f50697cc0c9d52aaa3ee4203e394", checked := Try.checked }
namespace Rows
def none {H : Type} : Left H := { results := [], args := [] }

/-- 'rialtolaw25.FrameTells': WHATEVER THE INPUT: true; the input reads as it did. -/
def frameTellsSpec : ChangeSpec := { name := "frameTells", fn := fun _ => fun
  | [d1, d2, d3] => { results := [.lit (.bool true)], args := [d1, d2, d3] }
  | _ => none }
def frameTellsRow : OpenClaim := { program := "ytkfninhbbcfdcaa", sum := "89e8db48f6bca82a26106422fdeb65e0bad0f50697cc0c9d52aaa3ee4203e394", func := "rialto/rialtolaw25.FrameTells", spec := "frameTells", apart := false }
def FrameTellsSaid : Prop := frameTellsRow.holds Try.pinned (OpenSpec.ofChange frameTellsSpec)

/-- ITS FALSE NEIGHBOUR: 'it returns false'. Refute it at one input. -/
def frameTellsWrong : ChangeSpec := { name := "frameTells", fn := fun _ => fun
  | [d1, d2, d3] => { results := [.lit (.bool false)], args := [d1, d2, d3] }
  | _ => none }
def FrameTellsWrongFalsely : Prop := frameTellsRow.holds Try.pinned (OpenSpec.ofChange frameTellsWrong)

/-- 'rialtolaw25.FrameBack': WHATEVER THE INPUT: true; the input reads as it did. -/
def frameBackSpec : ChangeSpec := { name := "frameBack", fn := fun _ => fun
  | [d1, d2] => { results := [.lit (.bool true)], args := [d1, d2] }
  | _ => none }
def frameBackRow : OpenClaim := { program := "ytkfninhbbcfdcaa", sum := "89e8db48f6bca82a26106422fdeb65e0bad0f50697cc0c9d52aaa3ee4203e394", func := "rialto/rialtolaw25.FrameBack", spec := "frameBack", apart := false }
def FrameBackSaid : Prop := frameBackRow.holds Try.pinned (OpenSpec.ofChange frameBackSpec)

/-- ITS FALSE NEIGHBOUR: 'it returns false'. Refute it at one input. -/
def frameBackWrong : ChangeSpec := { name := "frameBack", fn := fun _ => fun
  | [d1, d2] => { results := [.lit (.bool false)], args := [d1, d2] }
  | _ => none }
def FrameBackWrongFalsely : Prop := frameBackRow.holds Try.pinned (OpenSpec.ofChange frameBackWrong)

/-- 'rialtolaw25.FrameSkips': WHATEVER THE INPUT: true; the input reads as it did. -/
def frameSkipsSpec : ChangeSpec := { name := "frameSkips", fn := fun _ => fun
  | [d1, d2] => { results := [.lit (.bool true)], args := [d1, d2] }
  | _ => none }
def frameSkipsRow : OpenClaim := { program := "ytkfninhbbcfdcaa", sum := "89e8db48f6bca82a26106422fdeb65e0bad0f50697cc0c9d52aaa3ee4203e394", func := "rialto/rialtolaw25.FrameSkips", spec := "frameSkips", apart := false }
def FrameSkipsSaid : Prop := frameSkipsRow.holds Try.pinned (OpenSpec.ofChange frameSkipsSpec)

/-- ITS FALSE NEIGHBOUR: 'it returns false'. Refute it at one input. -/
def frameSkipsWrong : ChangeSpec := { name := "frameSkips", fn := fun _ => fun
  | [d1, d2] => { results := [.lit (.bool false)], args := [d1, d2] }
  | _ => none }
def FrameSkipsWrongFalsely : Prop := frameSkipsRow.holds Try.pinned (OpenSpec.ofChange frameSkipsWrong)

/-- 'rialtolaw35.LineTells': WHATEVER THE INPUT: true; the input reads as it did. -/
def lineTellsSpec : ChangeSpec := { name := "lineTells", fn := fun _ => fun
  | [d] => { results := [.lit (.bool true)], args := [d] }
  | _ => none }
def lineTellsRow : OpenClaim := { program := "ytkfninhbbcfdcaa", sum := "89e8db48f6bca82a26106422fdeb65e0bad0f50697cc0c9d52aaa3ee4203e394", func := "rialto/rialtolaw35.LineTells", spec := "lineTells", apart := false }
def LineTellsSaid : Prop := lineTellsRow.holds Try.pinned (OpenSpec.ofChange lineTellsSpec)

/-- ITS FALSE NEIGHBOUR: 'it returns false'. Refute it at one input. -/
def lineTellsWrong : ChangeSpec := { name := "lineTells", fn := fun _ => fun
  | [d] => { results := [.lit (.bool false)], args := [d] }
  | _ => none }
def LineTellsWrongFalsely : Prop := lineTellsRow.holds Try.pinned (OpenSpec.ofChange lineTellsWrong)

/-- 'rialtolaw35.LineFrames': WHATEVER THE INPUT: true; the input reads as it did. -/
def lineFramesSpec : ChangeSpec := { name := "lineFrames", fn := fun _ => fun
  | [d1, d2] => { results := [.lit (.bool true)], args := [d1, d2] }
  | _ => none }
def lineFramesRow : OpenClaim := { program := "ytkfninhbbcfdcaa", sum := "89e8db48f6bca82a26106422fdeb65e0bad0f50697cc0c9d52aaa3ee4203e394", func := "rialto/rialtolaw35.LineFrames", spec := "lineFrames", apart := false }
def LineFramesSaid : Prop := lineFramesRow.holds Try.pinned (OpenSpec.ofChange lineFramesSpec)

/-- ITS FALSE NEIGHBOUR: 'it returns false'. Refute it at one input. -/
def lineFramesWrong : ChangeSpec := { name := "lineFrames", fn := fun _ => fun
  | [d1, d2] => { results := [.lit (.bool false)], args := [d1, d2] }
  | _ => none }
def LineFramesWrongFalsely : Prop := lineFramesRow.holds Try.pinned (OpenSpec.ofChange lineFramesWrong)

/-- 'rialtolaw35.LineOrder': WHATEVER THE INPUT: true; the input reads as it did. -/
def lineOrderSpec : ChangeSpec := { name := "lineOrder", fn := fun _ => fun
  | [d1, d2] => { results := [.lit (.bool true)], args := [d1, d2] }
  | _ => none }
def lineOrderRow : OpenClaim := { program := "ytkfninhbbcfdcaa", sum := "89e8db48f6bca82a26106422fdeb65e0bad0f50697cc0c9d52aaa3ee4203e394", func := "rialto/rialtolaw35.LineOrder", spec := "lineOrder", apart := false }
def LineOrderSaid : Prop := lineOrderRow.holds Try.pinned (OpenSpec.ofChange lineOrderSpec)

/-- ITS FALSE NEIGHBOUR: 'it returns false'. Refute it at one input. -/
def lineOrderWrong : ChangeSpec := { name := "lineOrder", fn := fun _ => fun
  | [d1, d2] => { results := [.lit (.bool false)], args := [d1, d2] }
  | _ => none }
def LineOrderWrongFalsely : Prop := lineOrderRow.holds Try.pinned (OpenSpec.ofChange lineOrderWrong)

/-- 'rialtolaw35.LineOver': WHATEVER THE INPUT: true; the input reads as it did. -/
def lineOverSpec : ChangeSpec := { name := "lineOver", fn := fun _ => fun
  | [d1, d2, d3] => { results := [.lit (.bool true)], args := [d1, d2, d3] }
  | _ => none }
def lineOverRow : OpenClaim := { program := "ytkfninhbbcfdcaa", sum := "89e8db48f6bca82a26106422fdeb65e0bad0f50697cc0c9d52aaa3ee4203e394", func := "rialto/rialtolaw35.LineOver", spec := "lineOver", apart := false }
def LineOverSaid : Prop := lineOverRow.holds Try.pinned (OpenSpec.ofChange lineOverSpec)

/-- ITS FALSE NEIGHBOUR: 'it returns false'. Refute it at one input. -/
def lineOverWrong : ChangeSpec := { name := "lineOver", fn := fun _ => fun
  | [d1, d2, d3] => { results := [.lit (.bool false)], args := [d1, d2, d3] }
  | _ => none }
def LineOverWrongFalsely : Prop := lineOverRow.holds Try.pinned (OpenSpec.ofChange lineOverWrong)

/-- 'rialtolaw27.ReplyTells': WHATEVER THE INPUT: true; the input reads as it did. -/
def replyTellsSpec : ChangeSpec := { name := "replyTells", fn := fun _ => fun
  | [d1, d2, d3, d4, d5, d6] => { results := [.lit (.bool true)], args := [d1, d2, d3, d4, d5, d6] }
  | _ => none }
def replyTellsRow : OpenClaim := { program := "ytkfninhbbcfdcaa", sum := "89e8db48f6bca82a26106422fdeb65e0bad0f50697cc0c9d52aaa3ee4203e394", func := "rialto/rialtolaw27.ReplyTells", spec := "replyTells", apart := false }
def ReplyTellsSaid : Prop := replyTellsRow.holds Try.pinned (OpenSpec.ofChange replyTellsSpec)

/-- ITS FALSE NEIGHBOUR: 'it returns false'. Refute it at one input. -/
def replyTellsWrong : ChangeSpec := { name := "replyTells", fn := fun _ => fun
  | [d1, d2, d3, d4, d5, d6] => { results := [.lit (.bool false)], args := [d1, d2, d3, d4, d5, d6] }
  | _ => none }
def ReplyTellsWrongFalsely : Prop := replyTellsRow.holds Try.pinned (OpenSpec.ofChange replyTellsWrong)

/-- 'rialtolaw27.ReplyBack': WHATEVER THE INPUT: true; the input reads as it did. -/
def replyBackSpec : ChangeSpec := { name := "replyBack", fn := fun _ => fun
  | [d1, d2] => { results := [.lit (.bool true)], args := [d1, d2] }
  | _ => none }
def replyBackRow : OpenClaim := { program := "ytkfninhbbcfdcaa", sum := "89e8db48f6bca82a26106422fdeb65e0bad0f50697cc0c9d52aaa3ee4203e394", func := "rialto/rialtolaw27.ReplyBack", spec := "replyBack", apart := false }
def ReplyBackSaid : Prop := replyBackRow.holds Try.pinned (OpenSpec.ofChange replyBackSpec)

/-- ITS FALSE NEIGHBOUR: 'it returns false'. Refute it at one input. -/
def replyBackWrong : ChangeSpec := { name := "replyBack", fn := fun _ => fun
  | [d1, d2] => { results := [.lit (.bool false)], args := [d1, d2] }
  | _ => none }
def ReplyBackWrongFalsely : Prop := replyBackRow.holds Try.pinned (OpenSpec.ofChange replyBackWrong)

/-- 'rialtolaw27.ReplySizes': WHATEVER THE INPUT: true; the input reads as it did. -/
def replySizesSpec : ChangeSpec := { name := "replySizes", fn := fun _ => fun
  | [d] => { results := [.lit (.bool true)], args := [d] }
  | _ => none }
def replySizesRow : OpenClaim := { program := "ytkfninhbbcfdcaa", sum := "89e8db48f6bca82a26106422fdeb65e0bad0f50697cc0c9d52aaa3ee4203e394", func := "rialto/rialtolaw27.ReplySizes", spec := "replySizes", apart := false }
def ReplySizesSaid : Prop := replySizesRow.holds Try.pinned (OpenSpec.ofChange replySizesSpec)

/-- ITS FALSE NEIGHBOUR: 'it returns false'. Refute it at one input. -/
def replySizesWrong : ChangeSpec := { name := "replySizes", fn := fun _ => fun
  | [d] => { results := [.lit (.bool false)], args := [d] }
  | _ => none }
def ReplySizesWrongFalsely : Prop := replySizesRow.holds Try.pinned (OpenSpec.ofChange replySizesWrong)

/- THE SECOND FORM. 'bulk': how many values and letters a reading holds, each counted each time it is reached (what is shared counts as often as it is met; a slice's spare places count too). A statement '..UptoSaid' is the law's where the arguments, and the package variables that the reading takes, are together of bulk at most 1048576: NARROWER than '..Said'. Prove '..Said' where nothing that the law and all that it calls make is longer than what came in: it says more and counts as full. Else prove '..UptoSaid'. A law counts once. -/
mutual
def uptoBulk {H : Type} : DataW H → Nat
  | .lit (.string bytes) => bytes.length + 1
  | .lit _ => 1
  | .nil => 1
  | .ptr d => uptoBulk d + 1
  | .slice elems spare => uptoBulkAll elems + uptoBulkAll spare + 1
  | .agg parts => uptoBulkAll parts + 1
  | .iface _ d => uptoBulk d + 1
  | .map entries => uptoBulkEntries entries + 1
  | .held _ => 1
def uptoBulkAll {H : Type} : List (DataW H) → Nat
  | [] => 0
  | d :: r => uptoBulk d + uptoBulkAll r
def uptoBulkEntries {H : Type} : List (Lit × DataW H) → Nat
  | [] => 0
  | x :: r => uptoBulkEntry x + uptoBulkEntries r
def uptoBulkEntry {H : Type} : Lit × DataW H → Nat
  | (.string bytes, d) => bytes.length + uptoBulk d + 1
  | (_, d) => uptoBulk d + 1
 end
def uptoSmall : (H : Type) → List (DataW H) → Bool := fun _ ds => decide (uptoBulkAll ds ≤ 1048576)
def OpenSpec.upto (s : _root_.Go.ChangeSpec) : _root_.Go.OpenSpec := { _root_.Go.OpenSpec.ofChange s with cond := some uptoSmall }

/-- 'rialtolaw25.FrameTells', WHERE WHAT IT READS IS OF BULK AT MOST 1048576: true; the input reads as it did. -/
def frameTellsUptoRow : OpenClaim := { program := "ytkfninhbbcfdcaa", sum := "89e8db48f6bca82a26106422fdeb65e0bad0f50697cc0c9d52aaa3ee4203e394", func := "rialto/rialtolaw25.FrameTells", spec := "frameTells", apart := false, narrowed := true }
def FrameTellsUptoSaid : Prop := frameTellsUptoRow.holds Try.pinned (OpenSpec.upto frameTellsSpec)

/-- 'rialtolaw25.FrameBack', WHERE WHAT IT READS IS OF BULK AT MOST 1048576: true; the input reads as it did. -/
def frameBackUptoRow : OpenClaim := { program := "ytkfninhbbcfdcaa", sum := "89e8db48f6bca82a26106422fdeb65e0bad0f50697cc0c9d52aaa3ee4203e394", func := "rialto/rialtolaw25.FrameBack", spec := "frameBack", apart := false, narrowed := true }
def FrameBackUptoSaid : Prop := frameBackUptoRow.holds Try.pinned (OpenSpec.upto frameBackSpec)

/-- 'rialtolaw25.FrameSkips', WHERE WHAT IT READS IS OF BULK AT MOST 1048576: true; the input reads as it did. -/
def frameSkipsUptoRow : OpenClaim := { program := "ytkfninhbbcfdcaa", sum := "89e8db48f6bca82a26106422fdeb65e0bad0f50697cc0c9d52aaa3ee4203e394", func := "rialto/rialtolaw25.FrameSkips", spec := "frameSkips", apart := false, narrowed := true }
def FrameSkipsUptoSaid : Prop := frameSkipsUptoRow.holds Try.pinned (OpenSpec.upto frameSkipsSpec)

/-- 'rialtolaw35.LineTells', WHERE WHAT IT READS IS OF BULK AT MOST 1048576: true; the input reads as it did. -/
def lineTellsUptoRow : OpenClaim := { program := "ytkfninhbbcfdcaa", sum := "89e8db48f6bca82a26106422fdeb65e0bad0f50697cc0c9d52aaa3ee4203e394", func := "rialto/rialtolaw35.LineTells", spec := "lineTells", apart := false, narrowed := true }
def LineTellsUptoSaid : Prop := lineTellsUptoRow.holds Try.pinned (OpenSpec.upto lineTellsSpec)

/-- 'rialtolaw35.LineFrames', WHERE WHAT IT READS IS OF BULK AT MOST 1048576: true; the input reads as it did. -/
def lineFramesUptoRow : OpenClaim := { program := "ytkfninhbbcfdcaa", sum := "89e8db48f6bca82a26106422fdeb65e0bad0f50697cc0c9d52aaa3ee4203e394", func := "rialto/rialtolaw35.LineFrames", spec := "lineFrames", apart := false, narrowed := true }
def LineFramesUptoSaid : Prop := lineFramesUptoRow.holds Try.pinned (OpenSpec.upto lineFramesSpec)

/-- 'rialtolaw35.LineOrder', WHERE WHAT IT READS IS OF BULK AT MOST 1048576: true; the input reads as it did. -/
def lineOrderUptoRow : OpenClaim := { program := "ytkfninhbbcfdcaa", sum := "89e8db48f6bca82a26106422fdeb65e0bad0f50697cc0c9d52aaa3ee4203e394", func := "rialto/rialtolaw35.LineOrder", spec := "lineOrder", apart := false, narrowed := true }
def LineOrderUptoSaid : Prop := lineOrderUptoRow.holds Try.pinned (OpenSpec.upto lineOrderSpec)

/-- 'rialtolaw35.LineOver', WHERE WHAT IT READS IS OF BULK AT MOST 1048576: true; the input reads as it did. -/
def lineOverUptoRow : OpenClaim := { program := "ytkfninhbbcfdcaa", sum := "89e8db48f6bca82a26106422fdeb65e0bad0f50697cc0c9d52aaa3ee4203e394", func := "rialto/rialtolaw35.LineOver", spec := "lineOver", apart := false, narrowed := true }
def LineOverUptoSaid : Prop := lineOverUptoRow.holds Try.pinned (OpenSpec.upto lineOverSpec)

/-- 'rialtolaw27.ReplyTells', WHERE WHAT IT READS IS OF BULK AT MOST 1048576: true; the input reads as it did. -/
def replyTellsUptoRow : OpenClaim := { program := "ytkfninhbbcfdcaa", sum := "89e8db48f6bca82a26106422fdeb65e0bad0f50697cc0c9d52aaa3ee4203e394", func := "rialto/rialtolaw27.ReplyTells", spec := "replyTells", apart := false, narrowed := true }
def ReplyTellsUptoSaid : Prop := replyTellsUptoRow.holds Try.pinned (OpenSpec.upto replyTellsSpec)

/-- 'rialtolaw27.ReplyBack', WHERE WHAT IT READS IS OF BULK AT MOST 1048576: true; the input reads as it did. -/
def replyBackUptoRow : OpenClaim := { program := "ytkfninhbbcfdcaa", sum := "89e8db48f6bca82a26106422fdeb65e0bad0f50697cc0c9d52aaa3ee4203e394", func := "rialto/rialtolaw27.ReplyBack", spec := "replyBack", apart := false, narrowed := true }
def ReplyBackUptoSaid : Prop := replyBackUptoRow.holds Try.pinned (OpenSpec.upto replyBackSpec)

/-- 'rialtolaw27.ReplySizes', WHERE WHAT IT READS IS OF BULK AT MOST 1048576: true; the input reads as it did. -/
def replySizesUptoRow : OpenClaim := { program := "ytkfninhbbcfdcaa", sum := "89e8db48f6bca82a26106422fdeb65e0bad0f50697cc0c9d52aaa3ee4203e394", func := "rialto/rialtolaw27.ReplySizes", spec := "replySizes", apart := false, narrowed := true }
def ReplySizesUptoSaid : Prop := replySizesUptoRow.holds Try.pinned (OpenSpec.upto replySizesSpec)

end Rows
end Go.Proofs.Ytkfninhbbcfdcaa
