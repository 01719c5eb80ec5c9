/-
  No cell of these rows narrows 'for every input' (looked for: loops, veiled, ifaces, maps, wideKeys, modest, calm, conditions, laid).
  DERIVED. THE GIVEN ROWS OF THIS SEAT. 5 by the template 'for every input the law returns true; each argument reads behind the call as it read before'; 0 by the template 'total and deterministic' (their statements: YtkaiibipcnlaiaaTotals.lean).
  GIVEN WITH THE SEED: the statements are not yours to turn. If you find one false, say at which input.
  Laid BY PROGRAM, IN A SANDBOX (cutbox-rows.mjs): the forced cells as the released guide's own fill.sh prints them over the translation 53dc7da458808237… (all of the seat's roots in one cut). By AI agents, Wed Nov 11 2026. No macro, syntax, notation, axiom, sorry.
-/
import Derived.Test.YtkaiibipcnlaiaaChecked
import GoSem.Claim
import GoSem.ClaimJoined
import GoSem.ClaimMapViews
import Derived.JoinedTies
import Derived.KernelRfl
namespace Go.Proofs.Ytkaiibipcnlaiaa
/- THE CELL 'sum', in the pinned program and in every row, IS THE sha256 OF THE DUMP (.gsa) THAT YtkaiibipcnlaiaaProg.lean LOADS. Nothing in Lean hashes anything: it is a label: what it is worth is what the hold of that sum in a sandbox is worth. -/
noncomputable def Try.pinned : Pinned := { name := "ytkaiibipcnlaiaa", sum := "53dc7da45880823799b886a0fba25a862cf4184ec9a1354f451f842a67137691", checked := Try.checked }
namespace Rows
def none {H : Type} : Left H := { results := [], args := [] }

/-- 'stickfullaw26.EllipsisTells': WHATEVER THE INPUT: true; the input reads as it did. -/
def ellipsisTellsSpec : ChangeSpec := { name := "ellipsisTells", fn := fun _ => fun
  | [d1, d2] => { results := [.lit (.bool true)], args := [d1, d2] }
  | _ => none }
def ellipsisTellsRow : OpenClaim := { program := "ytkaiibipcnlaiaa", sum := "53dc7da45880823799b886a0fba25a862cf4184ec9a1354f451f842a67137691", func := "stickful/stickfullaw26.EllipsisTells", spec := "ellipsisTells", inPlace := ["math/bits.Add64"], unfollowed := true, recurses := true, apart := false }
def EllipsisTellsSaid : Prop := ellipsisTellsRow.holds Try.pinned (OpenSpec.ofChange ellipsisTellsSpec)

/-- ITS FALSE NEIGHBOUR: 'it returns false'. Refute it at one input. -/
def ellipsisTellsWrong : ChangeSpec := { name := "ellipsisTells", fn := fun _ => fun
  | [d1, d2] => { results := [.lit (.bool false)], args := [d1, d2] }
  | _ => none }
def EllipsisTellsWrongFalsely : Prop := ellipsisTellsRow.holds Try.pinned (OpenSpec.ofChange ellipsisTellsWrong)

/-- 'stickfullaw26.EllipsisWhole': WHATEVER THE INPUT: true; the input reads as it did. -/
def ellipsisWholeSpec : ChangeSpec := { name := "ellipsisWhole", fn := fun _ => fun
  | [d1, d2] => { results := [.lit (.bool true)], args := [d1, d2] }
  | _ => none }
def ellipsisWholeRow : OpenClaim := { program := "ytkaiibipcnlaiaa", sum := "53dc7da45880823799b886a0fba25a862cf4184ec9a1354f451f842a67137691", func := "stickful/stickfullaw26.EllipsisWhole", spec := "ellipsisWhole", inPlace := ["math/bits.Add64"], unfollowed := true, recurses := true, apart := false }
def EllipsisWholeSaid : Prop := ellipsisWholeRow.holds Try.pinned (OpenSpec.ofChange ellipsisWholeSpec)

/-- ITS FALSE NEIGHBOUR: 'it returns false'. Refute it at one input. -/
def ellipsisWholeWrong : ChangeSpec := { name := "ellipsisWhole", fn := fun _ => fun
  | [d1, d2] => { results := [.lit (.bool false)], args := [d1, d2] }
  | _ => none }
def EllipsisWholeWrongFalsely : Prop := ellipsisWholeRow.holds Try.pinned (OpenSpec.ofChange ellipsisWholeWrong)

/-- 'stickfullaw26.EllipsisGrows': WHATEVER THE INPUT: true; the input reads as it did. -/
def ellipsisGrowsSpec : ChangeSpec := { name := "ellipsisGrows", fn := fun _ => fun
  | [d1, d2, d3] => { results := [.lit (.bool true)], args := [d1, d2, d3] }
  | _ => none }
def ellipsisGrowsRow : OpenClaim := { program := "ytkaiibipcnlaiaa", sum := "53dc7da45880823799b886a0fba25a862cf4184ec9a1354f451f842a67137691", func := "stickful/stickfullaw26.EllipsisGrows", spec := "ellipsisGrows", inPlace := ["math/bits.Add64"], unfollowed := true, recurses := true, apart := false }
def EllipsisGrowsSaid : Prop := ellipsisGrowsRow.holds Try.pinned (OpenSpec.ofChange ellipsisGrowsSpec)

/-- ITS FALSE NEIGHBOUR: 'it returns false'. Refute it at one input. -/
def ellipsisGrowsWrong : ChangeSpec := { name := "ellipsisGrows", fn := fun _ => fun
  | [d1, d2, d3] => { results := [.lit (.bool false)], args := [d1, d2, d3] }
  | _ => none }
def EllipsisGrowsWrongFalsely : Prop := ellipsisGrowsRow.holds Try.pinned (OpenSpec.ofChange ellipsisGrowsWrong)

/-- 'stickfullaw26.EllipsisPlain': WHATEVER THE INPUT: true; the input reads as it did. -/
def ellipsisPlainSpec : ChangeSpec := { name := "ellipsisPlain", fn := fun _ => fun
  | [d1, d2] => { results := [.lit (.bool true)], args := [d1, d2] }
  | _ => none }
def ellipsisPlainRow : OpenClaim := { program := "ytkaiibipcnlaiaa", sum := "53dc7da45880823799b886a0fba25a862cf4184ec9a1354f451f842a67137691", func := "stickful/stickfullaw26.EllipsisPlain", spec := "ellipsisPlain", inPlace := ["math/bits.Add64"], unfollowed := true, recurses := true, apart := false }
def EllipsisPlainSaid : Prop := ellipsisPlainRow.holds Try.pinned (OpenSpec.ofChange ellipsisPlainSpec)

/-- ITS FALSE NEIGHBOUR: 'it returns false'. Refute it at one input. -/
def ellipsisPlainWrong : ChangeSpec := { name := "ellipsisPlain", fn := fun _ => fun
  | [d1, d2] => { results := [.lit (.bool false)], args := [d1, d2] }
  | _ => none }
def EllipsisPlainWrongFalsely : Prop := ellipsisPlainRow.holds Try.pinned (OpenSpec.ofChange ellipsisPlainWrong)

/-- 'stickfullaw26.EllipsisFits': WHATEVER THE INPUT: true; the input reads as it did. -/
def ellipsisFitsSpec : ChangeSpec := { name := "ellipsisFits", fn := fun _ => fun
  | [d1, d2] => { results := [.lit (.bool true)], args := [d1, d2] }
  | _ => none }
def ellipsisFitsRow : OpenClaim := { program := "ytkaiibipcnlaiaa", sum := "53dc7da45880823799b886a0fba25a862cf4184ec9a1354f451f842a67137691", func := "stickful/stickfullaw26.EllipsisFits", spec := "ellipsisFits", inPlace := ["math/bits.Add64"], unfollowed := true, recurses := true, apart := false }
def EllipsisFitsSaid : Prop := ellipsisFitsRow.holds Try.pinned (OpenSpec.ofChange ellipsisFitsSpec)

/-- ITS FALSE NEIGHBOUR: 'it returns false'. Refute it at one input. -/
def ellipsisFitsWrong : ChangeSpec := { name := "ellipsisFits", fn := fun _ => fun
  | [d1, d2] => { results := [.lit (.bool false)], args := [d1, d2] }
  | _ => none }
def EllipsisFitsWrongFalsely : Prop := ellipsisFitsRow.holds Try.pinned (OpenSpec.ofChange ellipsisFitsWrong)

/- THE SECOND FORM. 'bulk': how many values and letters a reading holds, each counted each time it is reached (what is shared counts as often as it is met; a slice's spare places count too). A statement '..UptoSaid' is the law's where the arguments, and the package variables that the reading takes, are together of bulk at most 1048576: NARROWER than '..Said'. Prove '..Said' where nothing that the law and all that it calls make is longer than what came in: it says more and counts as full. Else prove '..UptoSaid'. A law counts once. -/
mutual
def uptoBulk {H : Type} : DataW H → Nat
  | .lit (.string bytes) => bytes.length + 1
  | .lit _ => 1
  | .nil => 1
  | .ptr d => uptoBulk d + 1
  | .slice elems spare => uptoBulkAll elems + uptoBulkAll spare + 1
  | .agg parts => uptoBulkAll parts + 1
  | .iface _ d => uptoBulk d + 1
  | .map entries => uptoBulkEntries entries + 1
  | .held _ => 1
def uptoBulkAll {H : Type} : List (DataW H) → Nat
  | [] => 0
  | d :: r => uptoBulk d + uptoBulkAll r
def uptoBulkEntries {H : Type} : List (Lit × DataW H) → Nat
  | [] => 0
  | x :: r => uptoBulkEntry x + uptoBulkEntries r
def uptoBulkEntry {H : Type} : Lit × DataW H → Nat
  | (.string bytes, d) => bytes.length + uptoBulk d + 1
  | (_, d) => uptoBulk d + 1
 end
def uptoSmall : (H : Type) → List (DataW H) → Bool := fun _ ds => decide (uptoBulkAll ds ≤ 1048576)
def OpenSpec.upto (s : _root_.Go.ChangeSpec) : _root_.Go.OpenSpec := { _root_.Go.OpenSpec.ofChange s with cond := some uptoSmall }

/-- 'stickfullaw26.EllipsisTells', WHERE WHAT IT READS IS OF BULK AT MOST 1048576: true; the input reads as it did. -/
def ellipsisTellsUptoRow : OpenClaim := { program := "ytkaiibipcnlaiaa", sum := "53dc7da45880823799b886a0fba25a862cf4184ec9a1354f451f842a67137691", func := "stickful/stickfullaw26.EllipsisTells", spec := "ellipsisTells", inPlace := ["math/bits.Add64"], unfollowed := true, recurses := true, apart := false, narrowed := true }
def EllipsisTellsUptoSaid : Prop := ellipsisTellsUptoRow.holds Try.pinned (OpenSpec.upto ellipsisTellsSpec)

/-- 'stickfullaw26.EllipsisWhole', WHERE WHAT IT READS IS OF BULK AT MOST 1048576: true; the input reads as it did. -/
def ellipsisWholeUptoRow : OpenClaim := { program := "ytkaiibipcnlaiaa", sum := "53dc7da45880823799b886a0fba25a862cf4184ec9a1354f451f842a67137691", func := "stickful/stickfullaw26.EllipsisWhole", spec := "ellipsisWhole", inPlace := ["math/bits.Add64"], unfollowed := true, recurses := true, apart := false, narrowed := true }
def EllipsisWholeUptoSaid : Prop := ellipsisWholeUptoRow.holds Try.pinned (OpenSpec.upto ellipsisWholeSpec)

/-- 'stickfullaw26.EllipsisGrows', WHERE WHAT IT READS IS OF BULK AT MOST 1048576: true; the input reads as it did. -/
def ellipsisGrowsUptoRow : OpenClaim := { program := "ytkaiibipcnlaiaa", sum := "53dc7da45880823799b886a0fba25a862cf4184ec9a1354f451f842a67137691", func := "stickful/stickfullaw26.EllipsisGrows", spec := "ellipsisGrows", inPlace := ["math/bits.Add64"], unfollowed := true, recurses := true, apart := false, narrowed := true }
def EllipsisGrowsUptoSaid : Prop := ellipsisGrowsUptoRow.holds Try.pinned (OpenSpec.upto ellipsisGrowsSpec)

/-- 'stickfullaw26.EllipsisPlain', WHERE WHAT IT READS IS OF BULK AT MOST 1048576: true; the input reads as it did. -/
def ellipsisPlainUptoRow : OpenClaim := { program := "ytkaiibipcnlaiaa", sum := "53dc7da45880823799b886a0fba25a862cf4184ec9a1354f451f842a67137691", func := "stickful/stickfullaw26.EllipsisPlain", spec := "ellipsisPlain", inPlace := ["math/bits.Add64"], unfollowed := true, recurses := true, apart := false, narrowed := true }
def EllipsisPlainUptoSaid : Prop := ellipsisPlainUptoRow.holds Try.pinned (OpenSpec.upto ellipsisPlainSpec)

/-- 'stickfullaw26.EllipsisFits', WHERE WHAT IT READS IS OF BULK AT MOST 1048576: true; the input reads as it did. -/
def ellipsisFitsUptoRow : OpenClaim := { program := "ytkaiibipcnlaiaa", sum := "53dc7da45880823799b886a0fba25a862cf4184ec9a1354f451f842a67137691", func := "stickful/stickfullaw26.EllipsisFits", spec := "ellipsisFits", inPlace := ["math/bits.Add64"], unfollowed := true, recurses := true, apart := false, narrowed := true }
def EllipsisFitsUptoSaid : Prop := ellipsisFitsUptoRow.holds Try.pinned (OpenSpec.upto ellipsisFitsSpec)

end Rows
end Go.Proofs.Ytkaiibipcnlaiaa
