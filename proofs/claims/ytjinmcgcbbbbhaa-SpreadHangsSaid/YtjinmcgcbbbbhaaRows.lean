/-
  No cell of these rows narrows 'for every input' (looked for: loops, veiled, ifaces, maps, wideKeys, modest, calm, conditions, laid).
  DERIVED. THE GIVEN ROWS OF THIS SEAT. 9 by the template 'for every input the law returns true; each argument reads behind the call as it read before'; 0 by the template 'total and deterministic' (their statements: YtjinmcgcbbbbhaaTotals.lean).
  GIVEN WITH THE SEED: the statements are not yours to turn. If you find one false, say at which input.
  Laid BY PROGRAM, IN A SANDBOX (cutbox-rows.mjs): the forced cells as the released guide's own fill.sh prints them over the translation 9a170ac04f6d5bc2… (all of the seat's roots in one cut). By AI agents, Wed Nov 11 2026. No macro, syntax, notation, axiom, sorry.
-/
import Derived.Test.YtjinmcgcbbbbhaaChecked
import GoSem.Claim
import GoSem.ClaimJoined
import GoSem.ClaimMapViews
import Derived.JoinedTies
import Derived.KernelRfl
namespace Go.Proofs.Ytjinmcgcbbbbhaa
/- THE CELL 'sum', in the pinned program and in every row, IS THE sha256 OF THE DUMP (.gsa) THAT YtjinmcgcbbbbhaaProg.lean LOADS. Nothing in Lean hashes anything: it is a label: what it is worth is what the hold of that sum in a sandbox is worth. -/
noncomputable def Try.pinned : Pinned := { name := "ytjinmcgcbbbbhaa", sum := "9a170ac04f6d5bc28643a4768b8f3a67810880416292af6d1cea5137a64a0f44", checked := Try.checked }
namespace Rows
def none {H : Type} : Left H := { results := [], args := [] }

/-- 'stickfullaw16.ColumnsJoin': WHATEVER THE INPUT: true; the input reads as it did. -/
def columnsJoinSpec : ChangeSpec := { name := "columnsJoin", fn := fun _ => fun
  | [d1, d2] => { results := [.lit (.bool true)], args := [d1, d2] }
  | _ => none }
def columnsJoinRow : OpenClaim := { program := "ytjinmcgcbbbbhaa", sum := "9a170ac04f6d5bc28643a4768b8f3a67810880416292af6d1cea5137a64a0f44", func := "stickful/stickfullaw16.ColumnsJoin", spec := "columnsJoin", unfollowed := true, recurses := true, apart := false }
def ColumnsJoinSaid : Prop := columnsJoinRow.holds Try.pinned (OpenSpec.ofChange columnsJoinSpec)

/-- ITS FALSE NEIGHBOUR: 'it returns false'. Refute it at one input. -/
def columnsJoinWrong : ChangeSpec := { name := "columnsJoin", fn := fun _ => fun
  | [d1, d2] => { results := [.lit (.bool false)], args := [d1, d2] }
  | _ => none }
def ColumnsJoinWrongFalsely : Prop := columnsJoinRow.holds Try.pinned (OpenSpec.ofChange columnsJoinWrong)

/-- 'stickfullaw16.ColumnsHave': WHATEVER THE INPUT: true; the input reads as it did. -/
def columnsHaveSpec : ChangeSpec := { name := "columnsHave", fn := fun _ => fun
  | [d] => { results := [.lit (.bool true)], args := [d] }
  | _ => none }
def columnsHaveRow : OpenClaim := { program := "ytjinmcgcbbbbhaa", sum := "9a170ac04f6d5bc28643a4768b8f3a67810880416292af6d1cea5137a64a0f44", func := "stickful/stickfullaw16.ColumnsHave", spec := "columnsHave", unfollowed := true, recurses := true, apart := false }
def ColumnsHaveSaid : Prop := columnsHaveRow.holds Try.pinned (OpenSpec.ofChange columnsHaveSpec)

/-- ITS FALSE NEIGHBOUR: 'it returns false'. Refute it at one input. -/
def columnsHaveWrong : ChangeSpec := { name := "columnsHave", fn := fun _ => fun
  | [d] => { results := [.lit (.bool false)], args := [d] }
  | _ => none }
def ColumnsHaveWrongFalsely : Prop := columnsHaveRow.holds Try.pinned (OpenSpec.ofChange columnsHaveWrong)

/-- 'stickfullaw16.ColumnsMany': WHATEVER THE INPUT: true; the input reads as it did. -/
def columnsManySpec : ChangeSpec := { name := "columnsMany", fn := fun _ => fun
  | [d] => { results := [.lit (.bool true)], args := [d] }
  | _ => none }
def columnsManyRow : OpenClaim := { program := "ytjinmcgcbbbbhaa", sum := "9a170ac04f6d5bc28643a4768b8f3a67810880416292af6d1cea5137a64a0f44", func := "stickful/stickfullaw16.ColumnsMany", spec := "columnsMany", unfollowed := true, recurses := true, apart := false }
def ColumnsManySaid : Prop := columnsManyRow.holds Try.pinned (OpenSpec.ofChange columnsManySpec)

/-- ITS FALSE NEIGHBOUR: 'it returns false'. Refute it at one input. -/
def columnsManyWrong : ChangeSpec := { name := "columnsMany", fn := fun _ => fun
  | [d] => { results := [.lit (.bool false)], args := [d] }
  | _ => none }
def ColumnsManyWrongFalsely : Prop := columnsManyRow.holds Try.pinned (OpenSpec.ofChange columnsManyWrong)

/-- 'stickfullaw16.ColumnsTell': WHATEVER THE INPUT: true; the input reads as it did. -/
def columnsTellSpec : ChangeSpec := { name := "columnsTell", fn := fun _ => fun
  | [d] => { results := [.lit (.bool true)], args := [d] }
  | _ => none }
def columnsTellRow : OpenClaim := { program := "ytjinmcgcbbbbhaa", sum := "9a170ac04f6d5bc28643a4768b8f3a67810880416292af6d1cea5137a64a0f44", func := "stickful/stickfullaw16.ColumnsTell", spec := "columnsTell", unfollowed := true, recurses := true, apart := false }
def ColumnsTellSaid : Prop := columnsTellRow.holds Try.pinned (OpenSpec.ofChange columnsTellSpec)

/-- ITS FALSE NEIGHBOUR: 'it returns false'. Refute it at one input. -/
def columnsTellWrong : ChangeSpec := { name := "columnsTell", fn := fun _ => fun
  | [d] => { results := [.lit (.bool false)], args := [d] }
  | _ => none }
def ColumnsTellWrongFalsely : Prop := columnsTellRow.holds Try.pinned (OpenSpec.ofChange columnsTellWrong)

/-- 'stickfullaw17.SpreadTells': WHATEVER THE INPUT: true; the input reads as it did. -/
def spreadTellsSpec : ChangeSpec := { name := "spreadTells", fn := fun _ => fun
  | [d1, d2] => { results := [.lit (.bool true)], args := [d1, d2] }
  | _ => none }
def spreadTellsRow : OpenClaim := { program := "ytjinmcgcbbbbhaa", sum := "9a170ac04f6d5bc28643a4768b8f3a67810880416292af6d1cea5137a64a0f44", func := "stickful/stickfullaw17.SpreadTells", spec := "spreadTells", unfollowed := true, recurses := true, apart := false }
def SpreadTellsSaid : Prop := spreadTellsRow.holds Try.pinned (OpenSpec.ofChange spreadTellsSpec)

/-- ITS FALSE NEIGHBOUR: 'it returns false'. Refute it at one input. -/
def spreadTellsWrong : ChangeSpec := { name := "spreadTells", fn := fun _ => fun
  | [d1, d2] => { results := [.lit (.bool false)], args := [d1, d2] }
  | _ => none }
def SpreadTellsWrongFalsely : Prop := spreadTellsRow.holds Try.pinned (OpenSpec.ofChange spreadTellsWrong)

/-- 'stickfullaw17.SpreadHangs': WHATEVER THE INPUT: true; the input reads as it did. -/
def spreadHangsSpec : ChangeSpec := { name := "spreadHangs", fn := fun _ => fun
  | [d1, d2, d3] => { results := [.lit (.bool true)], args := [d1, d2, d3] }
  | _ => none }
def spreadHangsRow : OpenClaim := { program := "ytjinmcgcbbbbhaa", sum := "9a170ac04f6d5bc28643a4768b8f3a67810880416292af6d1cea5137a64a0f44", func := "stickful/stickfullaw17.SpreadHangs", spec := "spreadHangs", unfollowed := true, recurses := true, apart := false }
def SpreadHangsSaid : Prop := spreadHangsRow.holds Try.pinned (OpenSpec.ofChange spreadHangsSpec)

/-- ITS FALSE NEIGHBOUR: 'it returns false'. Refute it at one input. -/
def spreadHangsWrong : ChangeSpec := { name := "spreadHangs", fn := fun _ => fun
  | [d1, d2, d3] => { results := [.lit (.bool false)], args := [d1, d2, d3] }
  | _ => none }
def SpreadHangsWrongFalsely : Prop := spreadHangsRow.holds Try.pinned (OpenSpec.ofChange spreadHangsWrong)

/-- 'stickfullaw17.SpreadRoom': WHATEVER THE INPUT: true; the input reads as it did. -/
def spreadRoomSpec : ChangeSpec := { name := "spreadRoom", fn := fun _ => fun
  | [d1, d2] => { results := [.lit (.bool true)], args := [d1, d2] }
  | _ => none }
def spreadRoomRow : OpenClaim := { program := "ytjinmcgcbbbbhaa", sum := "9a170ac04f6d5bc28643a4768b8f3a67810880416292af6d1cea5137a64a0f44", func := "stickful/stickfullaw17.SpreadRoom", spec := "spreadRoom", unfollowed := true, recurses := true, apart := false }
def SpreadRoomSaid : Prop := spreadRoomRow.holds Try.pinned (OpenSpec.ofChange spreadRoomSpec)

/-- ITS FALSE NEIGHBOUR: 'it returns false'. Refute it at one input. -/
def spreadRoomWrong : ChangeSpec := { name := "spreadRoom", fn := fun _ => fun
  | [d1, d2] => { results := [.lit (.bool false)], args := [d1, d2] }
  | _ => none }
def SpreadRoomWrongFalsely : Prop := spreadRoomRow.holds Try.pinned (OpenSpec.ofChange spreadRoomWrong)

/-- 'stickfullaw17.SpreadTurned': WHATEVER THE INPUT: true; the input reads as it did. -/
def spreadTurnedSpec : ChangeSpec := { name := "spreadTurned", fn := fun _ => fun
  | [d1, d2] => { results := [.lit (.bool true)], args := [d1, d2] }
  | _ => none }
def spreadTurnedRow : OpenClaim := { program := "ytjinmcgcbbbbhaa", sum := "9a170ac04f6d5bc28643a4768b8f3a67810880416292af6d1cea5137a64a0f44", func := "stickful/stickfullaw17.SpreadTurned", spec := "spreadTurned", unfollowed := true, recurses := true, apart := false }
def SpreadTurnedSaid : Prop := spreadTurnedRow.holds Try.pinned (OpenSpec.ofChange spreadTurnedSpec)

/-- ITS FALSE NEIGHBOUR: 'it returns false'. Refute it at one input. -/
def spreadTurnedWrong : ChangeSpec := { name := "spreadTurned", fn := fun _ => fun
  | [d1, d2] => { results := [.lit (.bool false)], args := [d1, d2] }
  | _ => none }
def SpreadTurnedWrongFalsely : Prop := spreadTurnedRow.holds Try.pinned (OpenSpec.ofChange spreadTurnedWrong)

/-- 'stickfullaw17.SpreadMore': WHATEVER THE INPUT: true; the input reads as it did. -/
def spreadMoreSpec : ChangeSpec := { name := "spreadMore", fn := fun _ => fun
  | [d1, d2, d3] => { results := [.lit (.bool true)], args := [d1, d2, d3] }
  | _ => none }
def spreadMoreRow : OpenClaim := { program := "ytjinmcgcbbbbhaa", sum := "9a170ac04f6d5bc28643a4768b8f3a67810880416292af6d1cea5137a64a0f44", func := "stickful/stickfullaw17.SpreadMore", spec := "spreadMore", unfollowed := true, recurses := true, apart := false }
def SpreadMoreSaid : Prop := spreadMoreRow.holds Try.pinned (OpenSpec.ofChange spreadMoreSpec)

/-- ITS FALSE NEIGHBOUR: 'it returns false'. Refute it at one input. -/
def spreadMoreWrong : ChangeSpec := { name := "spreadMore", fn := fun _ => fun
  | [d1, d2, d3] => { results := [.lit (.bool false)], args := [d1, d2, d3] }
  | _ => none }
def SpreadMoreWrongFalsely : Prop := spreadMoreRow.holds Try.pinned (OpenSpec.ofChange spreadMoreWrong)

/- THE SECOND FORM. 'bulk': how many values and letters a reading holds, each counted each time it is reached (what is shared counts as often as it is met; a slice's spare places count too). A statement '..UptoSaid' is the law's where the arguments, and the package variables that the reading takes, are together of bulk at most 1048576: NARROWER than '..Said'. Prove '..Said' where nothing that the law and all that it calls make is longer than what came in: it says more and counts as full. Else prove '..UptoSaid'. A law counts once. -/
mutual
def uptoBulk {H : Type} : DataW H → Nat
  | .lit (.string bytes) => bytes.length + 1
  | .lit _ => 1
  | .nil => 1
  | .ptr d => uptoBulk d + 1
  | .slice elems spare => uptoBulkAll elems + uptoBulkAll spare + 1
  | .agg parts => uptoBulkAll parts + 1
  | .iface _ d => uptoBulk d + 1
  | .map entries => uptoBulkEntries entries + 1
  | .held _ => 1
def uptoBulkAll {H : Type} : List (DataW H) → Nat
  | [] => 0
  | d :: r => uptoBulk d + uptoBulkAll r
def uptoBulkEntries {H : Type} : List (Lit × DataW H) → Nat
  | [] => 0
  | x :: r => uptoBulkEntry x + uptoBulkEntries r
def uptoBulkEntry {H : Type} : Lit × DataW H → Nat
  | (.string bytes, d) => bytes.length + uptoBulk d + 1
  | (_, d) => uptoBulk d + 1
 end
def uptoSmall : (H : Type) → List (DataW H) → Bool := fun _ ds => decide (uptoBulkAll ds ≤ 1048576)
def OpenSpec.upto (s : _root_.Go.ChangeSpec) : _root_.Go.OpenSpec := { _root_.Go.OpenSpec.ofChange s with cond := some uptoSmall }

/-- 'stickfullaw16.ColumnsJoin', WHERE WHAT IT READS IS OF BULK AT MOST 1048576: true; the input reads as it did. -/
def columnsJoinUptoRow : OpenClaim := { program := "ytjinmcgcbbbbhaa", sum := "9a170ac04f6d5bc28643a4768b8f3a67810880416292af6d1cea5137a64a0f44", func := "stickful/stickfullaw16.ColumnsJoin", spec := "columnsJoin", unfollowed := true, recurses := true, apart := false, narrowed := true }
def ColumnsJoinUptoSaid : Prop := columnsJoinUptoRow.holds Try.pinned (OpenSpec.upto columnsJoinSpec)

/-- 'stickfullaw16.ColumnsHave', WHERE WHAT IT READS IS OF BULK AT MOST 1048576: true; the input reads as it did. -/
def columnsHaveUptoRow : OpenClaim := { program := "ytjinmcgcbbbbhaa", sum := "9a170ac04f6d5bc28643a4768b8f3a67810880416292af6d1cea5137a64a0f44", func := "stickful/stickfullaw16.ColumnsHave", spec := "columnsHave", unfollowed := true, recurses := true, apart := false, narrowed := true }
def ColumnsHaveUptoSaid : Prop := columnsHaveUptoRow.holds Try.pinned (OpenSpec.upto columnsHaveSpec)

/-- 'stickfullaw16.ColumnsMany', WHERE WHAT IT READS IS OF BULK AT MOST 1048576: true; the input reads as it did. -/
def columnsManyUptoRow : OpenClaim := { program := "ytjinmcgcbbbbhaa", sum := "9a170ac04f6d5bc28643a4768b8f3a67810880416292af6d1cea5137a64a0f44", func := "stickful/stickfullaw16.ColumnsMany", spec := "columnsMany", unfollowed := true, recurses := true, apart := false, narrowed := true }
def ColumnsManyUptoSaid : Prop := columnsManyUptoRow.holds Try.pinned (OpenSpec.upto columnsManySpec)

/-- 'stickfullaw16.ColumnsTell', WHERE WHAT IT READS IS OF BULK AT MOST 1048576: true; the input reads as it did. -/
def columnsTellUptoRow : OpenClaim := { program := "ytjinmcgcbbbbhaa", sum := "9a170ac04f6d5bc28643a4768b8f3a67810880416292af6d1cea5137a64a0f44", func := "stickful/stickfullaw16.ColumnsTell", spec := "columnsTell", unfollowed := true, recurses := true, apart := false, narrowed := true }
def ColumnsTellUptoSaid : Prop := columnsTellUptoRow.holds Try.pinned (OpenSpec.upto columnsTellSpec)

/-- 'stickfullaw17.SpreadTells', WHERE WHAT IT READS IS OF BULK AT MOST 1048576: true; the input reads as it did. -/
def spreadTellsUptoRow : OpenClaim := { program := "ytjinmcgcbbbbhaa", sum := "9a170ac04f6d5bc28643a4768b8f3a67810880416292af6d1cea5137a64a0f44", func := "stickful/stickfullaw17.SpreadTells", spec := "spreadTells", unfollowed := true, recurses := true, apart := false, narrowed := true }
def SpreadTellsUptoSaid : Prop := spreadTellsUptoRow.holds Try.pinned (OpenSpec.upto spreadTellsSpec)

/-- 'stickfullaw17.SpreadHangs', WHERE WHAT IT READS IS OF BULK AT MOST 1048576: true; the input reads as it did. -/
def spreadHangsUptoRow : OpenClaim := { program := "ytjinmcgcbbbbhaa", sum := "9a170ac04f6d5bc28643a4768b8f3a67810880416292af6d1cea5137a64a0f44", func := "stickful/stickfullaw17.SpreadHangs", spec := "spreadHangs", unfollowed := true, recurses := true, apart := false, narrowed := true }
def SpreadHangsUptoSaid : Prop := spreadHangsUptoRow.holds Try.pinned (OpenSpec.upto spreadHangsSpec)

/-- 'stickfullaw17.SpreadRoom', WHERE WHAT IT READS IS OF BULK AT MOST 1048576: true; the input reads as it did. -/
def spreadRoomUptoRow : OpenClaim := { program := "ytjinmcgcbbbbhaa", sum := "9a170ac04f6d5bc28643a4768b8f3a67810880416292af6d1cea5137a64a0f44", func := "stickful/stickfullaw17.SpreadRoom", spec := "spreadRoom", unfollowed := true, recurses := true, apart := false, narrowed := true }
def SpreadRoomUptoSaid : Prop := spreadRoomUptoRow.holds Try.pinned (OpenSpec.upto spreadRoomSpec)

/-- 'stickfullaw17.SpreadTurned', WHERE WHAT IT READS IS OF BULK AT MOST 1048576: true; the input reads as it did. -/
def spreadTurnedUptoRow : OpenClaim := { program := "ytjinmcgcbbbbhaa", sum := "9a170ac04f6d5bc28643a4768b8f3a67810880416292af6d1cea5137a64a0f44", func := "stickful/stickfullaw17.SpreadTurned", spec := "spreadTurned", unfollowed := true, recurses := true, apart := false, narrowed := true }
def SpreadTurnedUptoSaid : Prop := spreadTurnedUptoRow.holds Try.pinned (OpenSpec.upto spreadTurnedSpec)

/-- 'stickfullaw17.SpreadMore', WHERE WHAT IT READS IS OF BULK AT MOST 1048576: true; the input reads as it did. -/
def spreadMoreUptoRow : OpenClaim := { program := "ytjinmcgcbbbbhaa", sum := "9a170ac04f6d5bc28643a4768b8f3a67810880416292af6d1cea5137a64a0f44", func := "stickful/stickfullaw17.SpreadMore", spec := "spreadMore", unfollowed := true, recurses := true, apart := false, narrowed := true }
def SpreadMoreUptoSaid : Prop := spreadMoreUptoRow.holds Try.pinned (OpenSpec.upto spreadMoreSpec)

end Rows
end Go.Proofs.Ytjinmcgcbbbbhaa
