/-
  No cell of these rows narrows 'for every input' (looked for: loops, veiled, ifaces, maps, wideKeys, modest, calm, conditions, laid).
  DERIVED. THE GIVEN ROWS OF THIS SEAT. 3 by the template 'for every input the law returns true; each argument reads behind the call as it read before'; 0 by the template 'total and deterministic' (their statements: YtgacigcbglflkaaGreatTotals.lean).
  GIVEN WITH THE SEED: the statements are not yours to turn. If you find one false, say at which input.
  Laid BY PROGRAM, IN A SANDBOX (cutbox-rows.mjs): the forced cells as the released guide's own fill.sh prints them over the translation 189818fa3ec4e838… (all of the seat's roots in one cut). By AI agents, Wed Nov 11 2026. No macro, syntax, notation, axiom, sorry.
-/
import Derived.Test.YtgacigcbglflkaaGreatChecked
import GoSem.Claim
import GoSem.ClaimJoined
import GoSem.ClaimMapViews
import Derived.JoinedTies
import Derived.KernelRfl
namespace Go.Proofs.YtgacigcbglflkaaGreat
/- THE CELL 'sum', in the pinned program and in every row, IS THE sha256 OF THE DUMP (.gsa) THAT YtgacigcbglflkaaGreatProg.lean LOADS. Nothing in Lean hashes anything: it is a label: what it is worth is what the hold of that sum in a sandbox is worth. -/
noncomputable def Tryz.pinned : Pinned := { name := "ytgacigcbglflkaagreat", sum := "189818fa3ec4e838c0c562ec6e8892f720aa663a107d0f8b7c247a06b2254ad5", checked := Tryz.checked }
namespace Rows
def none {H : Type} : Left H := { results := [], args := [] }

/-- 'intagliolaw07.SignMakes': WHATEVER THE INPUT: true; the input reads as it did. -/
def signMakesSpec : ChangeSpec := { name := "signMakes", fn := fun _ => fun
  | [d1, d2, d3] => { results := [.lit (.bool true)], args := [d1, d2, d3] }
  | _ => none }
def signMakesRow : OpenClaim := { program := "ytgacigcbglflkaagreat", sum := "189818fa3ec4e838c0c562ec6e8892f720aa663a107d0f8b7c247a06b2254ad5", func := "intaglio/intagliolaw07.SignMakes", spec := "signMakes", inPlace := ["math/bits.Add64"], unfollowed := true, recurses := true, apart := false }
def SignMakesSaid : Prop := signMakesRow.holds Tryz.pinned (OpenSpec.ofChange signMakesSpec)

/-- ITS FALSE NEIGHBOUR: 'it returns false'. Refute it at one input. -/
def signMakesWrong : ChangeSpec := { name := "signMakes", fn := fun _ => fun
  | [d1, d2, d3] => { results := [.lit (.bool false)], args := [d1, d2, d3] }
  | _ => none }
def SignMakesWrongFalsely : Prop := signMakesRow.holds Tryz.pinned (OpenSpec.ofChange signMakesWrong)

/-- 'intagliolaw07.SignChecks': WHATEVER THE INPUT: true; the input reads as it did. -/
def signChecksSpec : ChangeSpec := { name := "signChecks", fn := fun _ => fun
  | [d1, d2, d3] => { results := [.lit (.bool true)], args := [d1, d2, d3] }
  | _ => none }
def signChecksRow : OpenClaim := { program := "ytgacigcbglflkaagreat", sum := "189818fa3ec4e838c0c562ec6e8892f720aa663a107d0f8b7c247a06b2254ad5", func := "intaglio/intagliolaw07.SignChecks", spec := "signChecks", inPlace := ["math/bits.Add64"], unfollowed := true, recurses := true, apart := false }
def SignChecksSaid : Prop := signChecksRow.holds Tryz.pinned (OpenSpec.ofChange signChecksSpec)

/-- ITS FALSE NEIGHBOUR: 'it returns false'. Refute it at one input. -/
def signChecksWrong : ChangeSpec := { name := "signChecks", fn := fun _ => fun
  | [d1, d2, d3] => { results := [.lit (.bool false)], args := [d1, d2, d3] }
  | _ => none }
def SignChecksWrongFalsely : Prop := signChecksRow.holds Tryz.pinned (OpenSpec.ofChange signChecksWrong)

/-- 'intagliolaw07.SignOther': WHATEVER THE INPUT: true; the input reads as it did. -/
def signOtherSpec : ChangeSpec := { name := "signOther", fn := fun _ => fun
  | [d1, d2, d3] => { results := [.lit (.bool true)], args := [d1, d2, d3] }
  | _ => none }
def signOtherRow : OpenClaim := { program := "ytgacigcbglflkaagreat", sum := "189818fa3ec4e838c0c562ec6e8892f720aa663a107d0f8b7c247a06b2254ad5", func := "intaglio/intagliolaw07.SignOther", spec := "signOther", inPlace := ["math/bits.Add64"], unfollowed := true, recurses := true, apart := false }
def SignOtherSaid : Prop := signOtherRow.holds Tryz.pinned (OpenSpec.ofChange signOtherSpec)

/-- ITS FALSE NEIGHBOUR: 'it returns false'. Refute it at one input. -/
def signOtherWrong : ChangeSpec := { name := "signOther", fn := fun _ => fun
  | [d1, d2, d3] => { results := [.lit (.bool false)], args := [d1, d2, d3] }
  | _ => none }
def SignOtherWrongFalsely : Prop := signOtherRow.holds Tryz.pinned (OpenSpec.ofChange signOtherWrong)

/- THE SECOND FORM. 'bulk': how many values and letters a reading holds, each counted each time it is reached (what is shared counts as often as it is met; a slice's spare places count too). A statement '..UptoSaid' is the law's where the arguments, and the package variables that the reading takes, are together of bulk at most 1048576: NARROWER than '..Said'. Prove '..Said' where nothing that the law and all that it calls make is longer than what came in: it says more and counts as full. Else prove '..UptoSaid'. A law counts once. -/
mutual
def uptoBulk {H : Type} : DataW H → Nat
  | .lit (.string bytes) => bytes.length + 1
  | .lit _ => 1
  | .nil => 1
  | .ptr d => uptoBulk d + 1
  | .slice elems spare => uptoBulkAll elems + uptoBulkAll spare + 1
  | .agg parts => uptoBulkAll parts + 1
  | .iface _ d => uptoBulk d + 1
  | .map entries => uptoBulkEntries entries + 1
  | .held _ => 1
def uptoBulkAll {H : Type} : List (DataW H) → Nat
  | [] => 0
  | d :: r => uptoBulk d + uptoBulkAll r
def uptoBulkEntries {H : Type} : List (Lit × DataW H) → Nat
  | [] => 0
  | x :: r => uptoBulkEntry x + uptoBulkEntries r
def uptoBulkEntry {H : Type} : Lit × DataW H → Nat
  | (.string bytes, d) => bytes.length + uptoBulk d + 1
  | (_, d) => uptoBulk d + 1
 end
def uptoSmall : (H : Type) → List (DataW H) → Bool := fun _ ds => decide (uptoBulkAll ds ≤ 1048576)
def OpenSpec.upto (s : _root_.Go.ChangeSpec) : _root_.Go.OpenSpec := { _root_.Go.OpenSpec.ofChange s with cond := some uptoSmall }

/-- 'intagliolaw07.SignMakes', WHERE WHAT IT READS IS OF BULK AT MOST 1048576: true; the input reads as it did. -/
def signMakesUptoRow : OpenClaim := { program := "ytgacigcbglflkaagreat", sum := "189818fa3ec4e838c0c562ec6e8892f720aa663a107d0f8b7c247a06b2254ad5", func := "intaglio/intagliolaw07.SignMakes", spec := "signMakes", inPlace := ["math/bits.Add64"], unfollowed := true, recurses := true, apart := false, narrowed := true }
def SignMakesUptoSaid : Prop := signMakesUptoRow.holds Tryz.pinned (OpenSpec.upto signMakesSpec)

/-- 'intagliolaw07.SignChecks', WHERE WHAT IT READS IS OF BULK AT MOST 1048576: true; the input reads as it did. -/
def signChecksUptoRow : OpenClaim := { program := "ytgacigcbglflkaagreat", sum := "189818fa3ec4e838c0c562ec6e8892f720aa663a107d0f8b7c247a06b2254ad5", func := "intaglio/intagliolaw07.SignChecks", spec := "signChecks", inPlace := ["math/bits.Add64"], unfollowed := true, recurses := true, apart := false, narrowed := true }
def SignChecksUptoSaid : Prop := signChecksUptoRow.holds Tryz.pinned (OpenSpec.upto signChecksSpec)

/-- 'intagliolaw07.SignOther', WHERE WHAT IT READS IS OF BULK AT MOST 1048576: true; the input reads as it did. -/
def signOtherUptoRow : OpenClaim := { program := "ytgacigcbglflkaagreat", sum := "189818fa3ec4e838c0c562ec6e8892f720aa663a107d0f8b7c247a06b2254ad5", func := "intaglio/intagliolaw07.SignOther", spec := "signOther", inPlace := ["math/bits.Add64"], unfollowed := true, recurses := true, apart := false, narrowed := true }
def SignOtherUptoSaid : Prop := signOtherUptoRow.holds Tryz.pinned (OpenSpec.upto signOtherSpec)

end Rows
end Go.Proofs.YtgacigcbglflkaaGreat
