/-
  No cell of these rows narrows 'for every input' (looked for: loops, veiled, ifaces, maps, wideKeys, modest, calm, conditions, laid).
  DERIVED. THE GIVEN ROWS OF THIS SEAT. 8 by the template 'for every input the law returns true; each argument reads behind the call as it read before'; 0 by the template 'total and deterministic' (their statements: YtkegnlidlabjeaaTotals.lean).
  GIVEN WITH THE SEED: the statements are not yours to turn. If you find one false, say at which input.
  Laid BY PROGRAM, IN A SANDBOX (cutbox-rows.mjs): the forced cells as the released guide's own fill.sh prints them over the translation f45ae533344561ac… (all of the seat's roots in one cut). By AI agents, Wed Nov 11 2026. No macro, syntax, notation, axiom, sorry.
-/
import Derived.Test.YtkegnlidlabjeaaChecked
import GoSem.Claim
import GoSem.ClaimJoined
import GoSem.ClaimMapViews
import Derived.JoinedTies
import Derived.KernelRfl
namespace Go.Proofs.Ytkegnlidlabjeaa
/- THE CELL 'sum', in the pinned program and in every row, IS THE sha256 OF THE DUMP (.gsa) THAT YtkegnlidlabjeaaProg.lean LOADS. Nothing in Lean hashes anything: it is a label: what it is worth is what the hold of that sum in a sandbox is worth. -/
noncomputable def Try.pinned : Pinned := { name := "ytkegnlidlabjeaa", sum := "f45ae533344561acaa17a141b250483cf564cf43d6b0516678c6f0ff9efb001d", checked := Try.checked }
namespace Rows
def none {H : Type} : Left H := { results := [], args := [] }

/-- 'stickfullaw13.TrimRoles': WHATEVER THE INPUT: true; the input reads as it did. -/
def trimRolesSpec : ChangeSpec := { name := "trimRoles", fn := fun _ => fun
  | [d1, d2] => { results := [.lit (.bool true)], args := [d1, d2] }
  | _ => none }
def trimRolesRow : OpenClaim := { program := "ytkegnlidlabjeaa", sum := "f45ae533344561acaa17a141b250483cf564cf43d6b0516678c6f0ff9efb001d", func := "stickful/stickfullaw13.TrimRoles", spec := "trimRoles", inPlace := ["math/bits.Add64"], unfollowed := true, recurses := true, apart := false }
def TrimRolesSaid : Prop := trimRolesRow.holds Try.pinned (OpenSpec.ofChange trimRolesSpec)

/-- ITS FALSE NEIGHBOUR: 'it returns false'. Refute it at one input. -/
def trimRolesWrong : ChangeSpec := { name := "trimRoles", fn := fun _ => fun
  | [d1, d2] => { results := [.lit (.bool false)], args := [d1, d2] }
  | _ => none }
def TrimRolesWrongFalsely : Prop := trimRolesRow.holds Try.pinned (OpenSpec.ofChange trimRolesWrong)

/-- 'stickfullaw13.TrimAgain': WHATEVER THE INPUT: true; the input reads as it did. -/
def trimAgainSpec : ChangeSpec := { name := "trimAgain", fn := fun _ => fun
  | [d] => { results := [.lit (.bool true)], args := [d] }
  | _ => none }
def trimAgainRow : OpenClaim := { program := "ytkegnlidlabjeaa", sum := "f45ae533344561acaa17a141b250483cf564cf43d6b0516678c6f0ff9efb001d", func := "stickful/stickfullaw13.TrimAgain", spec := "trimAgain", inPlace := ["math/bits.Add64"], unfollowed := true, recurses := true, apart := false }
def TrimAgainSaid : Prop := trimAgainRow.holds Try.pinned (OpenSpec.ofChange trimAgainSpec)

/-- ITS FALSE NEIGHBOUR: 'it returns false'. Refute it at one input. -/
def trimAgainWrong : ChangeSpec := { name := "trimAgain", fn := fun _ => fun
  | [d] => { results := [.lit (.bool false)], args := [d] }
  | _ => none }
def TrimAgainWrongFalsely : Prop := trimAgainRow.holds Try.pinned (OpenSpec.ofChange trimAgainWrong)

/-- 'stickfullaw13.TrimEdges': WHATEVER THE INPUT: true; the input reads as it did. -/
def trimEdgesSpec : ChangeSpec := { name := "trimEdges", fn := fun _ => fun
  | [d1, d2, d3] => { results := [.lit (.bool true)], args := [d1, d2, d3] }
  | _ => none }
def trimEdgesRow : OpenClaim := { program := "ytkegnlidlabjeaa", sum := "f45ae533344561acaa17a141b250483cf564cf43d6b0516678c6f0ff9efb001d", func := "stickful/stickfullaw13.TrimEdges", spec := "trimEdges", inPlace := ["math/bits.Add64"], unfollowed := true, recurses := true, apart := false }
def TrimEdgesSaid : Prop := trimEdgesRow.holds Try.pinned (OpenSpec.ofChange trimEdgesSpec)

/-- ITS FALSE NEIGHBOUR: 'it returns false'. Refute it at one input. -/
def trimEdgesWrong : ChangeSpec := { name := "trimEdges", fn := fun _ => fun
  | [d1, d2, d3] => { results := [.lit (.bool false)], args := [d1, d2, d3] }
  | _ => none }
def TrimEdgesWrongFalsely : Prop := trimEdgesRow.holds Try.pinned (OpenSpec.ofChange trimEdgesWrong)

/-- 'stickfullaw13.TrimBounds': WHATEVER THE INPUT: true; the input reads as it did. -/
def trimBoundsSpec : ChangeSpec := { name := "trimBounds", fn := fun _ => fun
  | [d1, d2] => { results := [.lit (.bool true)], args := [d1, d2] }
  | _ => none }
def trimBoundsRow : OpenClaim := { program := "ytkegnlidlabjeaa", sum := "f45ae533344561acaa17a141b250483cf564cf43d6b0516678c6f0ff9efb001d", func := "stickful/stickfullaw13.TrimBounds", spec := "trimBounds", inPlace := ["math/bits.Add64"], unfollowed := true, recurses := true, apart := false }
def TrimBoundsSaid : Prop := trimBoundsRow.holds Try.pinned (OpenSpec.ofChange trimBoundsSpec)

/-- ITS FALSE NEIGHBOUR: 'it returns false'. Refute it at one input. -/
def trimBoundsWrong : ChangeSpec := { name := "trimBounds", fn := fun _ => fun
  | [d1, d2] => { results := [.lit (.bool false)], args := [d1, d2] }
  | _ => none }
def TrimBoundsWrongFalsely : Prop := trimBoundsRow.holds Try.pinned (OpenSpec.ofChange trimBoundsWrong)

/-- 'stickfullaw21.IntrinsicGrows': WHATEVER THE INPUT: true; the input reads as it did. -/
def intrinsicGrowsSpec : ChangeSpec := { name := "intrinsicGrows", fn := fun _ => fun
  | [d1, d2] => { results := [.lit (.bool true)], args := [d1, d2] }
  | _ => none }
def intrinsicGrowsRow : OpenClaim := { program := "ytkegnlidlabjeaa", sum := "f45ae533344561acaa17a141b250483cf564cf43d6b0516678c6f0ff9efb001d", func := "stickful/stickfullaw21.IntrinsicGrows", spec := "intrinsicGrows", inPlace := ["math/bits.Add64"], unfollowed := true, recurses := true, apart := false }
def IntrinsicGrowsSaid : Prop := intrinsicGrowsRow.holds Try.pinned (OpenSpec.ofChange intrinsicGrowsSpec)

/-- ITS FALSE NEIGHBOUR: 'it returns false'. Refute it at one input. -/
def intrinsicGrowsWrong : ChangeSpec := { name := "intrinsicGrows", fn := fun _ => fun
  | [d1, d2] => { results := [.lit (.bool false)], args := [d1, d2] }
  | _ => none }
def IntrinsicGrowsWrongFalsely : Prop := intrinsicGrowsRow.holds Try.pinned (OpenSpec.ofChange intrinsicGrowsWrong)

/-- 'stickfullaw21.IntrinsicSofter': WHATEVER THE INPUT: true; the input reads as it did. -/
def intrinsicSofterSpec : ChangeSpec := { name := "intrinsicSofter", fn := fun _ => fun
  | [d1, d2, d3] => { results := [.lit (.bool true)], args := [d1, d2, d3] }
  | _ => none }
def intrinsicSofterRow : OpenClaim := { program := "ytkegnlidlabjeaa", sum := "f45ae533344561acaa17a141b250483cf564cf43d6b0516678c6f0ff9efb001d", func := "stickful/stickfullaw21.IntrinsicSofter", spec := "intrinsicSofter", inPlace := ["math/bits.Add64"], unfollowed := true, recurses := true, apart := false }
def IntrinsicSofterSaid : Prop := intrinsicSofterRow.holds Try.pinned (OpenSpec.ofChange intrinsicSofterSpec)

/-- ITS FALSE NEIGHBOUR: 'it returns false'. Refute it at one input. -/
def intrinsicSofterWrong : ChangeSpec := { name := "intrinsicSofter", fn := fun _ => fun
  | [d1, d2, d3] => { results := [.lit (.bool false)], args := [d1, d2, d3] }
  | _ => none }
def IntrinsicSofterWrongFalsely : Prop := intrinsicSofterRow.holds Try.pinned (OpenSpec.ofChange intrinsicSofterWrong)

/-- 'stickfullaw21.IntrinsicTells': WHATEVER THE INPUT: true; the input reads as it did. -/
def intrinsicTellsSpec : ChangeSpec := { name := "intrinsicTells", fn := fun _ => fun
  | [d] => { results := [.lit (.bool true)], args := [d] }
  | _ => none }
def intrinsicTellsRow : OpenClaim := { program := "ytkegnlidlabjeaa", sum := "f45ae533344561acaa17a141b250483cf564cf43d6b0516678c6f0ff9efb001d", func := "stickful/stickfullaw21.IntrinsicTells", spec := "intrinsicTells", inPlace := ["math/bits.Add64"], unfollowed := true, recurses := true, apart := false }
def IntrinsicTellsSaid : Prop := intrinsicTellsRow.holds Try.pinned (OpenSpec.ofChange intrinsicTellsSpec)

/-- ITS FALSE NEIGHBOUR: 'it returns false'. Refute it at one input. -/
def intrinsicTellsWrong : ChangeSpec := { name := "intrinsicTells", fn := fun _ => fun
  | [d] => { results := [.lit (.bool false)], args := [d] }
  | _ => none }
def IntrinsicTellsWrongFalsely : Prop := intrinsicTellsRow.holds Try.pinned (OpenSpec.ofChange intrinsicTellsWrong)

/-- 'stickfullaw21.IntrinsicCuts': WHATEVER THE INPUT: true; the input reads as it did. -/
def intrinsicCutsSpec : ChangeSpec := { name := "intrinsicCuts", fn := fun _ => fun
  | [d] => { results := [.lit (.bool true)], args := [d] }
  | _ => none }
def intrinsicCutsRow : OpenClaim := { program := "ytkegnlidlabjeaa", sum := "f45ae533344561acaa17a141b250483cf564cf43d6b0516678c6f0ff9efb001d", func := "stickful/stickfullaw21.IntrinsicCuts", spec := "intrinsicCuts", inPlace := ["math/bits.Add64"], unfollowed := true, recurses := true, apart := false }
def IntrinsicCutsSaid : Prop := intrinsicCutsRow.holds Try.pinned (OpenSpec.ofChange intrinsicCutsSpec)

/-- ITS FALSE NEIGHBOUR: 'it returns false'. Refute it at one input. -/
def intrinsicCutsWrong : ChangeSpec := { name := "intrinsicCuts", fn := fun _ => fun
  | [d] => { results := [.lit (.bool false)], args := [d] }
  | _ => none }
def IntrinsicCutsWrongFalsely : Prop := intrinsicCutsRow.holds Try.pinned (OpenSpec.ofChange intrinsicCutsWrong)

/- THE SECOND FORM. 'bulk': how many values and letters a reading holds, each counted each time it is reached (what is shared counts as often as it is met; a slice's spare places count too). A statement '..UptoSaid' is the law's where the arguments, and the package variables that the reading takes, are together of bulk at most 1048576: NARROWER than '..Said'. Prove '..Said' where nothing that the law and all that it calls make is longer than what came in: it says more and counts as full. Else prove '..UptoSaid'. A law counts once. -/
mutual
def uptoBulk {H : Type} : DataW H → Nat
  | .lit (.string bytes) => bytes.length + 1
  | .lit _ => 1
  | .nil => 1
  | .ptr d => uptoBulk d + 1
  | .slice elems spare => uptoBulkAll elems + uptoBulkAll spare + 1
  | .agg parts => uptoBulkAll parts + 1
  | .iface _ d => uptoBulk d + 1
  | .map entries => uptoBulkEntries entries + 1
  | .held _ => 1
def uptoBulkAll {H : Type} : List (DataW H) → Nat
  | [] => 0
  | d :: r => uptoBulk d + uptoBulkAll r
def uptoBulkEntries {H : Type} : List (Lit × DataW H) → Nat
  | [] => 0
  | x :: r => uptoBulkEntry x + uptoBulkEntries r
def uptoBulkEntry {H : Type} : Lit × DataW H → Nat
  | (.string bytes, d) => bytes.length + uptoBulk d + 1
  | (_, d) => uptoBulk d + 1
 end
def uptoSmall : (H : Type) → List (DataW H) → Bool := fun _ ds => decide (uptoBulkAll ds ≤ 1048576)
def OpenSpec.upto (s : _root_.Go.ChangeSpec) : _root_.Go.OpenSpec := { _root_.Go.OpenSpec.ofChange s with cond := some uptoSmall }

/-- 'stickfullaw13.TrimRoles', WHERE WHAT IT READS IS OF BULK AT MOST 1048576: true; the input reads as it did. -/
def trimRolesUptoRow : OpenClaim := { program := "ytkegnlidlabjeaa", sum := "f45ae533344561acaa17a141b250483cf564cf43d6b0516678c6f0ff9efb001d", func := "stickful/stickfullaw13.TrimRoles", spec := "trimRoles", inPlace := ["math/bits.Add64"], unfollowed := true, recurses := true, apart := false, narrowed := true }
def TrimRolesUptoSaid : Prop := trimRolesUptoRow.holds Try.pinned (OpenSpec.upto trimRolesSpec)

/-- 'stickfullaw13.TrimAgain', WHERE WHAT IT READS IS OF BULK AT MOST 1048576: true; the input reads as it did. -/
def trimAgainUptoRow : OpenClaim := { program := "ytkegnlidlabjeaa", sum := "f45ae533344561acaa17a141b250483cf564cf43d6b0516678c6f0ff9efb001d", func := "stickful/stickfullaw13.TrimAgain", spec := "trimAgain", inPlace := ["math/bits.Add64"], unfollowed := true, recurses := true, apart := false, narrowed := true }
def TrimAgainUptoSaid : Prop := trimAgainUptoRow.holds Try.pinned (OpenSpec.upto trimAgainSpec)

/-- 'stickfullaw13.TrimEdges', WHERE WHAT IT READS IS OF BULK AT MOST 1048576: true; the input reads as it did. -/
def trimEdgesUptoRow : OpenClaim := { program := "ytkegnlidlabjeaa", sum := "f45ae533344561acaa17a141b250483cf564cf43d6b0516678c6f0ff9efb001d", func := "stickful/stickfullaw13.TrimEdges", spec := "trimEdges", inPlace := ["math/bits.Add64"], unfollowed := true, recurses := true, apart := false, narrowed := true }
def TrimEdgesUptoSaid : Prop := trimEdgesUptoRow.holds Try.pinned (OpenSpec.upto trimEdgesSpec)

/-- 'stickfullaw13.TrimBounds', WHERE WHAT IT READS IS OF BULK AT MOST 1048576: true; the input reads as it did. -/
def trimBoundsUptoRow : OpenClaim := { program := "ytkegnlidlabjeaa", sum := "f45ae533344561acaa17a141b250483cf564cf43d6b0516678c6f0ff9efb001d", func := "stickful/stickfullaw13.TrimBounds", spec := "trimBounds", inPlace := ["math/bits.Add64"], unfollowed := true, recurses := true, apart := false, narrowed := true }
def TrimBoundsUptoSaid : Prop := trimBoundsUptoRow.holds Try.pinned (OpenSpec.upto trimBoundsSpec)

/-- 'stickfullaw21.IntrinsicGrows', WHERE WHAT IT READS IS OF BULK AT MOST 1048576: true; the input reads as it did. -/
def intrinsicGrowsUptoRow : OpenClaim := { program := "ytkegnlidlabjeaa", sum := "f45ae533344561acaa17a141b250483cf564cf43d6b0516678c6f0ff9efb001d", func := "stickful/stickfullaw21.IntrinsicGrows", spec := "intrinsicGrows", inPlace := ["math/bits.Add64"], unfollowed := true, recurses := true, apart := false, narrowed := true }
def IntrinsicGrowsUptoSaid : Prop := intrinsicGrowsUptoRow.holds Try.pinned (OpenSpec.upto intrinsicGrowsSpec)

/-- 'stickfullaw21.IntrinsicSofter', WHERE WHAT IT READS IS OF BULK AT MOST 1048576: true; the input reads as it did. -/
def intrinsicSofterUptoRow : OpenClaim := { program := "ytkegnlidlabjeaa", sum := "f45ae533344561acaa17a141b250483cf564cf43d6b0516678c6f0ff9efb001d", func := "stickful/stickfullaw21.IntrinsicSofter", spec := "intrinsicSofter", inPlace := ["math/bits.Add64"], unfollowed := true, recurses := true, apart := false, narrowed := true }
def IntrinsicSofterUptoSaid : Prop := intrinsicSofterUptoRow.holds Try.pinned (OpenSpec.upto intrinsicSofterSpec)

/-- 'stickfullaw21.IntrinsicTells', WHERE WHAT IT READS IS OF BULK AT MOST 1048576: true; the input reads as it did. -/
def intrinsicTellsUptoRow : OpenClaim := { program := "ytkegnlidlabjeaa", sum := "f45ae533344561acaa17a141b250483cf564cf43d6b0516678c6f0ff9efb001d", func := "stickful/stickfullaw21.IntrinsicTells", spec := "intrinsicTells", inPlace := ["math/bits.Add64"], unfollowed := true, recurses := true, apart := false, narrowed := true }
def IntrinsicTellsUptoSaid : Prop := intrinsicTellsUptoRow.holds Try.pinned (OpenSpec.upto intrinsicTellsSpec)

/-- 'stickfullaw21.IntrinsicCuts', WHERE WHAT IT READS IS OF BULK AT MOST 1048576: true; the input reads as it did. -/
def intrinsicCutsUptoRow : OpenClaim := { program := "ytkegnlidlabjeaa", sum := "f45ae533344561acaa17a141b250483cf564cf43d6b0516678c6f0ff9efb001d", func := "stickful/stickfullaw21.IntrinsicCuts", spec := "intrinsicCuts", inPlace := ["math/bits.Add64"], unfollowed := true, recurses := true, apart := false, narrowed := true }
def IntrinsicCutsUptoSaid : Prop := intrinsicCutsUptoRow.holds Try.pinned (OpenSpec.upto intrinsicCutsSpec)

end Rows
end Go.Proofs.Ytkegnlidlabjeaa
