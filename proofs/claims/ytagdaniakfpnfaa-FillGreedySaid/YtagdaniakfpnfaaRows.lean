/-
  No cell of these rows narrows 'for every input' (looked for: loops, veiled, ifaces, maps, wideKeys, modest, calm, conditions, laid).
  DERIVED. THE GIVEN ROWS OF THIS SEAT. 5 by the template 'for every input the law returns true; each argument reads behind the call as it read before'; 0 by the template 'total and deterministic' (their statements: YtagdaniakfpnfaaTotals.lean).
  GIVEN WITH THE SEED: the statements are not yours to turn. If you find one false, say at which input.
  Laid BY PROGRAM, IN A SANDBOX (cutbox-rows.mjs): the forced cells as the released guide's own fill.sh prints them over the translation f9144ce200f670de… (all of the seat's roots in one cut). By AI agents, Wed Nov 11 2026. No macro, syntax, notation, axiom, sorry.
-/
import Derived.Test.YtagdaniakfpnfaaChecked
import GoSem.Claim
import GoSem.ClaimJoined
import GoSem.ClaimMapViews
import Derived.JoinedTies
import Derived.KernelRfl
namespace Go.Proofs.Ytagdaniakfpnfaa
/- THE CELL 'sum', in the pinned program and in every row, IS THE sha256 OF THE DUMP (.gsa) THAT YtagdaniakfpnfaaProg.lean LOADS. Nothing in Lean hashes anything: it is a label: what it is worth is what the hold of that sum in a sandbox is worth. -/
noncomputable def Try.pinned : Pinned := { name := "ytagdaniakfpnfaa", sum := "f9144ce200f670de428c858983b3b2765635d7f456aabff31f4bd53eaf0586bf", checked := Try.checked }
namespace Rows
def none {H : Type} : Left H := { results := [], args := [] }

/-- 'stickfullaw14.FillLines': WHATEVER THE INPUT: true; the input reads as it did. -/
def fillLinesSpec : ChangeSpec := { name := "fillLines", fn := fun _ => fun
  | [d1, d2, d3] => { results := [.lit (.bool true)], args := [d1, d2, d3] }
  | _ => none }
def fillLinesRow : OpenClaim := { program := "ytagdaniakfpnfaa", sum := "f9144ce200f670de428c858983b3b2765635d7f456aabff31f4bd53eaf0586bf", func := "stickful/stickfullaw14.FillLines", spec := "fillLines", inPlace := ["math/bits.Add64"], unfollowed := true, recurses := true, apart := false }
def FillLinesSaid : Prop := fillLinesRow.holds Try.pinned (OpenSpec.ofChange fillLinesSpec)

/-- ITS FALSE NEIGHBOUR: 'it returns false'. Refute it at one input. -/
def fillLinesWrong : ChangeSpec := { name := "fillLines", fn := fun _ => fun
  | [d1, d2, d3] => { results := [.lit (.bool false)], args := [d1, d2, d3] }
  | _ => none }
def FillLinesWrongFalsely : Prop := fillLinesRow.holds Try.pinned (OpenSpec.ofChange fillLinesWrong)

/-- 'stickfullaw14.FillCovers': WHATEVER THE INPUT: true; the input reads as it did. -/
def fillCoversSpec : ChangeSpec := { name := "fillCovers", fn := fun _ => fun
  | [d1, d2, d3] => { results := [.lit (.bool true)], args := [d1, d2, d3] }
  | _ => none }
def fillCoversRow : OpenClaim := { program := "ytagdaniakfpnfaa", sum := "f9144ce200f670de428c858983b3b2765635d7f456aabff31f4bd53eaf0586bf", func := "stickful/stickfullaw14.FillCovers", spec := "fillCovers", inPlace := ["math/bits.Add64"], unfollowed := true, recurses := true, apart := false }
def FillCoversSaid : Prop := fillCoversRow.holds Try.pinned (OpenSpec.ofChange fillCoversSpec)

/-- ITS FALSE NEIGHBOUR: 'it returns false'. Refute it at one input. -/
def fillCoversWrong : ChangeSpec := { name := "fillCovers", fn := fun _ => fun
  | [d1, d2, d3] => { results := [.lit (.bool false)], args := [d1, d2, d3] }
  | _ => none }
def FillCoversWrongFalsely : Prop := fillCoversRow.holds Try.pinned (OpenSpec.ofChange fillCoversWrong)

/-- 'stickfullaw14.FillGreedy': WHATEVER THE INPUT: true; the input reads as it did. -/
def fillGreedySpec : ChangeSpec := { name := "fillGreedy", fn := fun _ => fun
  | [d1, d2, d3] => { results := [.lit (.bool true)], args := [d1, d2, d3] }
  | _ => none }
def fillGreedyRow : OpenClaim := { program := "ytagdaniakfpnfaa", sum := "f9144ce200f670de428c858983b3b2765635d7f456aabff31f4bd53eaf0586bf", func := "stickful/stickfullaw14.FillGreedy", spec := "fillGreedy", inPlace := ["math/bits.Add64"], unfollowed := true, recurses := true, apart := false }
def FillGreedySaid : Prop := fillGreedyRow.holds Try.pinned (OpenSpec.ofChange fillGreedySpec)

/-- ITS FALSE NEIGHBOUR: 'it returns false'. Refute it at one input. -/
def fillGreedyWrong : ChangeSpec := { name := "fillGreedy", fn := fun _ => fun
  | [d1, d2, d3] => { results := [.lit (.bool false)], args := [d1, d2, d3] }
  | _ => none }
def FillGreedyWrongFalsely : Prop := fillGreedyRow.holds Try.pinned (OpenSpec.ofChange fillGreedyWrong)

/-- 'stickfullaw14.FillForced': WHATEVER THE INPUT: true; the input reads as it did. -/
def fillForcedSpec : ChangeSpec := { name := "fillForced", fn := fun _ => fun
  | [d1, d2, d3] => { results := [.lit (.bool true)], args := [d1, d2, d3] }
  | _ => none }
def fillForcedRow : OpenClaim := { program := "ytagdaniakfpnfaa", sum := "f9144ce200f670de428c858983b3b2765635d7f456aabff31f4bd53eaf0586bf", func := "stickful/stickfullaw14.FillForced", spec := "fillForced", inPlace := ["math/bits.Add64"], unfollowed := true, recurses := true, apart := false }
def FillForcedSaid : Prop := fillForcedRow.holds Try.pinned (OpenSpec.ofChange fillForcedSpec)

/-- ITS FALSE NEIGHBOUR: 'it returns false'. Refute it at one input. -/
def fillForcedWrong : ChangeSpec := { name := "fillForced", fn := fun _ => fun
  | [d1, d2, d3] => { results := [.lit (.bool false)], args := [d1, d2, d3] }
  | _ => none }
def FillForcedWrongFalsely : Prop := fillForcedRow.holds Try.pinned (OpenSpec.ofChange fillForcedWrong)

/-- 'stickfullaw14.FillEven': WHATEVER THE INPUT: true; the input reads as it did. -/
def fillEvenSpec : ChangeSpec := { name := "fillEven", fn := fun _ => fun
  | [d] => { results := [.lit (.bool true)], args := [d] }
  | _ => none }
def fillEvenRow : OpenClaim := { program := "ytagdaniakfpnfaa", sum := "f9144ce200f670de428c858983b3b2765635d7f456aabff31f4bd53eaf0586bf", func := "stickful/stickfullaw14.FillEven", spec := "fillEven", inPlace := ["math/bits.Add64"], unfollowed := true, recurses := true, apart := false }
def FillEvenSaid : Prop := fillEvenRow.holds Try.pinned (OpenSpec.ofChange fillEvenSpec)

/-- ITS FALSE NEIGHBOUR: 'it returns false'. Refute it at one input. -/
def fillEvenWrong : ChangeSpec := { name := "fillEven", fn := fun _ => fun
  | [d] => { results := [.lit (.bool false)], args := [d] }
  | _ => none }
def FillEvenWrongFalsely : Prop := fillEvenRow.holds Try.pinned (OpenSpec.ofChange fillEvenWrong)

/- THE SECOND FORM. 'bulk': how many values and letters a reading holds, each counted each time it is reached (what is shared counts as often as it is met; a slice's spare places count too). A statement '..UptoSaid' is the law's where the arguments, and the package variables that the reading takes, are together of bulk at most 1048576: NARROWER than '..Said'. Prove '..Said' where nothing that the law and all that it calls make is longer than what came in: it says more and counts as full. Else prove '..UptoSaid'. A law counts once. -/
mutual
def uptoBulk {H : Type} : DataW H → Nat
  | .lit (.string bytes) => bytes.length + 1
  | .lit _ => 1
  | .nil => 1
  | .ptr d => uptoBulk d + 1
  | .slice elems spare => uptoBulkAll elems + uptoBulkAll spare + 1
  | .agg parts => uptoBulkAll parts + 1
  | .iface _ d => uptoBulk d + 1
  | .map entries => uptoBulkEntries entries + 1
  | .held _ => 1
def uptoBulkAll {H : Type} : List (DataW H) → Nat
  | [] => 0
  | d :: r => uptoBulk d + uptoBulkAll r
def uptoBulkEntries {H : Type} : List (Lit × DataW H) → Nat
  | [] => 0
  | x :: r => uptoBulkEntry x + uptoBulkEntries r
def uptoBulkEntry {H : Type} : Lit × DataW H → Nat
  | (.string bytes, d) => bytes.length + uptoBulk d + 1
  | (_, d) => uptoBulk d + 1
 end
def uptoSmall : (H : Type) → List (DataW H) → Bool := fun _ ds => decide (uptoBulkAll ds ≤ 1048576)
def OpenSpec.upto (s : _root_.Go.ChangeSpec) : _root_.Go.OpenSpec := { _root_.Go.OpenSpec.ofChange s with cond := some uptoSmall }

/-- 'stickfullaw14.FillLines', WHERE WHAT IT READS IS OF BULK AT MOST 1048576: true; the input reads as it did. -/
def fillLinesUptoRow : OpenClaim := { program := "ytagdaniakfpnfaa", sum := "f9144ce200f670de428c858983b3b2765635d7f456aabff31f4bd53eaf0586bf", func := "stickful/stickfullaw14.FillLines", spec := "fillLines", inPlace := ["math/bits.Add64"], unfollowed := true, recurses := true, apart := false, narrowed := true }
def FillLinesUptoSaid : Prop := fillLinesUptoRow.holds Try.pinned (OpenSpec.upto fillLinesSpec)

/-- 'stickfullaw14.FillCovers', WHERE WHAT IT READS IS OF BULK AT MOST 1048576: true; the input reads as it did. -/
def fillCoversUptoRow : OpenClaim := { program := "ytagdaniakfpnfaa", sum := "f9144ce200f670de428c858983b3b2765635d7f456aabff31f4bd53eaf0586bf", func := "stickful/stickfullaw14.FillCovers", spec := "fillCovers", inPlace := ["math/bits.Add64"], unfollowed := true, recurses := true, apart := false, narrowed := true }
def FillCoversUptoSaid : Prop := fillCoversUptoRow.holds Try.pinned (OpenSpec.upto fillCoversSpec)

/-- 'stickfullaw14.FillGreedy', WHERE WHAT IT READS IS OF BULK AT MOST 1048576: true; the input reads as it did. -/
def fillGreedyUptoRow : OpenClaim := { program := "ytagdaniakfpnfaa", sum := "f9144ce200f670de428c858983b3b2765635d7f456aabff31f4bd53eaf0586bf", func := "stickful/stickfullaw14.FillGreedy", spec := "fillGreedy", inPlace := ["math/bits.Add64"], unfollowed := true, recurses := true, apart := false, narrowed := true }
def FillGreedyUptoSaid : Prop := fillGreedyUptoRow.holds Try.pinned (OpenSpec.upto fillGreedySpec)

/-- 'stickfullaw14.FillForced', WHERE WHAT IT READS IS OF BULK AT MOST 1048576: true; the input reads as it did. -/
def fillForcedUptoRow : OpenClaim := { program := "ytagdaniakfpnfaa", sum := "f9144ce200f670de428c858983b3b2765635d7f456aabff31f4bd53eaf0586bf", func := "stickful/stickfullaw14.FillForced", spec := "fillForced", inPlace := ["math/bits.Add64"], unfollowed := true, recurses := true, apart := false, narrowed := true }
def FillForcedUptoSaid : Prop := fillForcedUptoRow.holds Try.pinned (OpenSpec.upto fillForcedSpec)

/-- 'stickfullaw14.FillEven', WHERE WHAT IT READS IS OF BULK AT MOST 1048576: true; the input reads as it did. -/
def fillEvenUptoRow : OpenClaim := { program := "ytagdaniakfpnfaa", sum := "f9144ce200f670de428c858983b3b2765635d7f456aabff31f4bd53eaf0586bf", func := "stickful/stickfullaw14.FillEven", spec := "fillEven", inPlace := ["math/bits.Add64"], unfollowed := true, recurses := true, apart := false, narrowed := true }
def FillEvenUptoSaid : Prop := fillEvenUptoRow.holds Try.pinned (OpenSpec.upto fillEvenSpec)

end Rows
end Go.Proofs.Ytagdaniakfpnfaa
