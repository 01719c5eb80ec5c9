/-
  No cell of these rows narrows 'for every input' (looked for: loops, veiled, ifaces, maps, wideKeys, modest, calm, conditions, laid).
  DERIVED. THE GIVEN ROWS OF THIS SEAT. 4 by the template 'for every input the law returns true; each argument reads behind the call as it read before'; 0 by the template 'total and deterministic' (their statements: YtdmlnkgpjileaaaTotals.lean).
  GIVEN WITH THE SEED: the statements are not yours to turn. If you find one false, say at which input.
  Laid BY PROGRAM, IN A SANDBOX (cutbox-rows.mjs): the forced cells as the released guide's own fill.sh prints them over the translation 372b47f4b3e18db8… (all of the seat's roots in one cut). By AI agents, Wed Nov 11 2026. No macro, syntax, notation, axiom, sorry.
-/
import Derived.Test.YtdmlnkgpjileaaaChecked
import GoSem.Claim
import GoSem.ClaimJoined
import GoSem.ClaimMapViews
import Derived.JoinedTies
import Derived.KernelRfl
namespace Go.Proofs.Ytdmlnkgpjileaaa
/- THE CELL 'sum', in the pinned program and in every row, IS THE sha256 OF THE DUMP (.gsa) THAT YtdmlnkgpjileaaaProg.lean LOADS. Nothing in Lean hashes anything: it is a label: what it is worth is what the hold of that sum in a sandbox is worth. -/
noncomputable def Try.pinned : Pinned := { name := "ytdmlnkgpjileaaa", sum := "372b47f4b3e18db8d560ac0dad4ac8658b2d7a1887a9594236e0c166923171c9", checked := Try.checked }
namespace Rows
def none {H : Type} : Left H := { results := [], args := [] }

/-- 'stickfullaw15.FirstLines': WHATEVER THE INPUT: true; the input reads as it did. -/
def firstLinesSpec : ChangeSpec := { name := "firstLines", fn := fun _ => fun
  | [d] => { results := [.lit (.bool true)], args := [d] }
  | _ => none }
def firstLinesRow : OpenClaim := { program := "ytdmlnkgpjileaaa", sum := "372b47f4b3e18db8d560ac0dad4ac8658b2d7a1887a9594236e0c166923171c9", func := "stickful/stickfullaw15.FirstLines", spec := "firstLines", inPlace := ["math/bits.Add64"], unfollowed := true, recurses := true, apart := false }
def FirstLinesSaid : Prop := firstLinesRow.holds Try.pinned (OpenSpec.ofChange firstLinesSpec)

/-- ITS FALSE NEIGHBOUR: 'it returns false'. Refute it at one input. -/
def firstLinesWrong : ChangeSpec := { name := "firstLines", fn := fun _ => fun
  | [d] => { results := [.lit (.bool false)], args := [d] }
  | _ => none }
def FirstLinesWrongFalsely : Prop := firstLinesRow.holds Try.pinned (OpenSpec.ofChange firstLinesWrong)

/-- 'stickfullaw15.FirstCells': WHATEVER THE INPUT: true; the input reads as it did. -/
def firstCellsSpec : ChangeSpec := { name := "firstCells", fn := fun _ => fun
  | [d1, d2] => { results := [.lit (.bool true)], args := [d1, d2] }
  | _ => none }
def firstCellsRow : OpenClaim := { program := "ytdmlnkgpjileaaa", sum := "372b47f4b3e18db8d560ac0dad4ac8658b2d7a1887a9594236e0c166923171c9", func := "stickful/stickfullaw15.FirstCells", spec := "firstCells", inPlace := ["math/bits.Add64"], unfollowed := true, recurses := true, apart := false }
def FirstCellsSaid : Prop := firstCellsRow.holds Try.pinned (OpenSpec.ofChange firstCellsSpec)

/-- ITS FALSE NEIGHBOUR: 'it returns false'. Refute it at one input. -/
def firstCellsWrong : ChangeSpec := { name := "firstCells", fn := fun _ => fun
  | [d1, d2] => { results := [.lit (.bool false)], args := [d1, d2] }
  | _ => none }
def FirstCellsWrongFalsely : Prop := firstCellsRow.holds Try.pinned (OpenSpec.ofChange firstCellsWrong)

/-- 'stickfullaw15.FirstWide': WHATEVER THE INPUT: true; the input reads as it did. -/
def firstWideSpec : ChangeSpec := { name := "firstWide", fn := fun _ => fun
  | [d] => { results := [.lit (.bool true)], args := [d] }
  | _ => none }
def firstWideRow : OpenClaim := { program := "ytdmlnkgpjileaaa", sum := "372b47f4b3e18db8d560ac0dad4ac8658b2d7a1887a9594236e0c166923171c9", func := "stickful/stickfullaw15.FirstWide", spec := "firstWide", inPlace := ["math/bits.Add64"], unfollowed := true, recurses := true, apart := false }
def FirstWideSaid : Prop := firstWideRow.holds Try.pinned (OpenSpec.ofChange firstWideSpec)

/-- ITS FALSE NEIGHBOUR: 'it returns false'. Refute it at one input. -/
def firstWideWrong : ChangeSpec := { name := "firstWide", fn := fun _ => fun
  | [d] => { results := [.lit (.bool false)], args := [d] }
  | _ => none }
def FirstWideWrongFalsely : Prop := firstWideRow.holds Try.pinned (OpenSpec.ofChange firstWideWrong)

/-- 'stickfullaw15.FirstSame': WHATEVER THE INPUT: true; the input reads as it did. -/
def firstSameSpec : ChangeSpec := { name := "firstSame", fn := fun _ => fun
  | [d] => { results := [.lit (.bool true)], args := [d] }
  | _ => none }
def firstSameRow : OpenClaim := { program := "ytdmlnkgpjileaaa", sum := "372b47f4b3e18db8d560ac0dad4ac8658b2d7a1887a9594236e0c166923171c9", func := "stickful/stickfullaw15.FirstSame", spec := "firstSame", inPlace := ["math/bits.Add64"], unfollowed := true, recurses := true, apart := false }
def FirstSameSaid : Prop := firstSameRow.holds Try.pinned (OpenSpec.ofChange firstSameSpec)

/-- ITS FALSE NEIGHBOUR: 'it returns false'. Refute it at one input. -/
def firstSameWrong : ChangeSpec := { name := "firstSame", fn := fun _ => fun
  | [d] => { results := [.lit (.bool false)], args := [d] }
  | _ => none }
def FirstSameWrongFalsely : Prop := firstSameRow.holds Try.pinned (OpenSpec.ofChange firstSameWrong)

/- THE SECOND FORM. 'bulk': how many values and letters a reading holds, each counted each time it is reached (what is shared counts as often as it is met; a slice's spare places count too). A statement '..UptoSaid' is the law's where the arguments, and the package variables that the reading takes, are together of bulk at most 1048576: NARROWER than '..Said'. Prove '..Said' where nothing that the law and all that it calls make is longer than what came in: it says more and counts as full. Else prove '..UptoSaid'. A law counts once. -/
mutual
def uptoBulk {H : Type} : DataW H → Nat
  | .lit (.string bytes) => bytes.length + 1
  | .lit _ => 1
  | .nil => 1
  | .ptr d => uptoBulk d + 1
  | .slice elems spare => uptoBulkAll elems + uptoBulkAll spare + 1
  | .agg parts => uptoBulkAll parts + 1
  | .iface _ d => uptoBulk d + 1
  | .map entries => uptoBulkEntries entries + 1
  | .held _ => 1
def uptoBulkAll {H : Type} : List (DataW H) → Nat
  | [] => 0
  | d :: r => uptoBulk d + uptoBulkAll r
def uptoBulkEntries {H : Type} : List (Lit × DataW H) → Nat
  | [] => 0
  | x :: r => uptoBulkEntry x + uptoBulkEntries r
def uptoBulkEntry {H : Type} : Lit × DataW H → Nat
  | (.string bytes, d) => bytes.length + uptoBulk d + 1
  | (_, d) => uptoBulk d + 1
 end
def uptoSmall : (H : Type) → List (DataW H) → Bool := fun _ ds => decide (uptoBulkAll ds ≤ 1048576)
def OpenSpec.upto (s : _root_.Go.ChangeSpec) : _root_.Go.OpenSpec := { _root_.Go.OpenSpec.ofChange s with cond := some uptoSmall }

/-- 'stickfullaw15.FirstLines', WHERE WHAT IT READS IS OF BULK AT MOST 1048576: true; the input reads as it did. -/
def firstLinesUptoRow : OpenClaim := { program := "ytdmlnkgpjileaaa", sum := "372b47f4b3e18db8d560ac0dad4ac8658b2d7a1887a9594236e0c166923171c9", func := "stickful/stickfullaw15.FirstLines", spec := "firstLines", inPlace := ["math/bits.Add64"], unfollowed := true, recurses := true, apart := false, narrowed := true }
def FirstLinesUptoSaid : Prop := firstLinesUptoRow.holds Try.pinned (OpenSpec.upto firstLinesSpec)

/-- 'stickfullaw15.FirstCells', WHERE WHAT IT READS IS OF BULK AT MOST 1048576: true; the input reads as it did. -/
def firstCellsUptoRow : OpenClaim := { program := "ytdmlnkgpjileaaa", sum := "372b47f4b3e18db8d560ac0dad4ac8658b2d7a1887a9594236e0c166923171c9", func := "stickful/stickfullaw15.FirstCells", spec := "firstCells", inPlace := ["math/bits.Add64"], unfollowed := true, recurses := true, apart := false, narrowed := true }
def FirstCellsUptoSaid : Prop := firstCellsUptoRow.holds Try.pinned (OpenSpec.upto firstCellsSpec)

/-- 'stickfullaw15.FirstWide', WHERE WHAT IT READS IS OF BULK AT MOST 1048576: true; the input reads as it did. -/
def firstWideUptoRow : OpenClaim := { program := "ytdmlnkgpjileaaa", sum := "372b47f4b3e18db8d560ac0dad4ac8658b2d7a1887a9594236e0c166923171c9", func := "stickful/stickfullaw15.FirstWide", spec := "firstWide", inPlace := ["math/bits.Add64"], unfollowed := true, recurses := true, apart := false, narrowed := true }
def FirstWideUptoSaid : Prop := firstWideUptoRow.holds Try.pinned (OpenSpec.upto firstWideSpec)

/-- 'stickfullaw15.FirstSame', WHERE WHAT IT READS IS OF BULK AT MOST 1048576: true; the input reads as it did. -/
def firstSameUptoRow : OpenClaim := { program := "ytdmlnkgpjileaaa", sum := "372b47f4b3e18db8d560ac0dad4ac8658b2d7a1887a9594236e0c166923171c9", func := "stickful/stickfullaw15.FirstSame", spec := "firstSame", inPlace := ["math/bits.Add64"], unfollowed := true, recurses := true, apart := false, narrowed := true }
def FirstSameUptoSaid : Prop := firstSameUptoRow.holds Try.pinned (OpenSpec.upto firstSameSpec)

end Rows
end Go.Proofs.Ytdmlnkgpjileaaa
