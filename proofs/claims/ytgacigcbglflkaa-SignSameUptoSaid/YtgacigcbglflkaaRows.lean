/-
  No cell of these rows narrows 'for every input' (looked for: loops, veiled, ifaces, maps, wideKeys, modest, calm, conditions, laid).
  DERIVED. THE GIVEN ROWS OF THIS SEAT. 4 by the template 'for every input the law returns true; each argument reads behind the call as it read before'; 0 by the template 'total and deterministic' (their statements: YtgacigcbglflkaaTotals.lean).
  GIVEN WITH THE SEED: the statements are not yours to turn. If you find one false, say at which input.
  Laid BY PROGRAM, IN A SANDBOX (cutbox-rows.mjs): the forced cells as the released guide's own fill.sh prints them over the translation 69a7fc5ecbe731c2… (all of the seat's roots in one cut). By AI agents, Wed Nov 11 2026. No macro, syntax, notation, axiom, sorry.
-/
import Derived.Test.YtgacigcbglflkaaChecked
import GoSem.Claim
import GoSem.ClaimJoined
import GoSem.ClaimMapViews
import Derived.JoinedTies
import Derived.KernelRfl
namespace Go.Proofs.Ytgacigcbglflkaa
/- THE CELL 'sum', in the pinned program and in every row, IS THE sha256 OF THE DUMP (.gsa) THAT YtgacigcbglflkaaProg.lean LOADS. Nothing in Lean hashes anything: it is a label: what it is worth is what the hold of that sum in a sandbox is worth. -/
noncomputable def Try.pinned : Pinned := { name := "ytgacigcbglflkaa", sum := "69a7fc5ecbe731c2f2f0a727afba983070b9c32a79991d469bde725ffaa8271a", checked := Try.checked }
namespace Rows
def none {H : Type} : Left H := { results := [], args := [] }

/-- 'intagliolaw07.SignTakes': WHATEVER THE INPUT: true; the input reads as it did. -/
def signTakesSpec : ChangeSpec := { name := "signTakes", fn := fun _ => fun
  | [d1, d2, d3] => { results := [.lit (.bool true)], args := [d1, d2, d3] }
  | _ => none }
def signTakesRow : OpenClaim := { program := "ytgacigcbglflkaa", sum := "69a7fc5ecbe731c2f2f0a727afba983070b9c32a79991d469bde725ffaa8271a", func := "intaglio/intagliolaw07.SignTakes", spec := "signTakes", inPlace := ["math/bits.Add64"], unfollowed := true, recurses := true, apart := false }
def SignTakesSaid : Prop := signTakesRow.holds Try.pinned (OpenSpec.ofChange signTakesSpec)

/-- ITS FALSE NEIGHBOUR: 'it returns false'. Refute it at one input. -/
def signTakesWrong : ChangeSpec := { name := "signTakes", fn := fun _ => fun
  | [d1, d2, d3] => { results := [.lit (.bool false)], args := [d1, d2, d3] }
  | _ => none }
def SignTakesWrongFalsely : Prop := signTakesRow.holds Try.pinned (OpenSpec.ofChange signTakesWrong)

/-- 'intagliolaw07.SignOnly': WHATEVER THE INPUT: true; the input reads as it did. -/
def signOnlySpec : ChangeSpec := { name := "signOnly", fn := fun _ => fun
  | [d1, d2, d3] => { results := [.lit (.bool true)], args := [d1, d2, d3] }
  | _ => none }
def signOnlyRow : OpenClaim := { program := "ytgacigcbglflkaa", sum := "69a7fc5ecbe731c2f2f0a727afba983070b9c32a79991d469bde725ffaa8271a", func := "intaglio/intagliolaw07.SignOnly", spec := "signOnly", inPlace := ["math/bits.Add64"], unfollowed := true, recurses := true, apart := false }
def SignOnlySaid : Prop := signOnlyRow.holds Try.pinned (OpenSpec.ofChange signOnlySpec)

/-- ITS FALSE NEIGHBOUR: 'it returns false'. Refute it at one input. -/
def signOnlyWrong : ChangeSpec := { name := "signOnly", fn := fun _ => fun
  | [d1, d2, d3] => { results := [.lit (.bool false)], args := [d1, d2, d3] }
  | _ => none }
def SignOnlyWrongFalsely : Prop := signOnlyRow.holds Try.pinned (OpenSpec.ofChange signOnlyWrong)

/-- 'intagliolaw07.SignLow': WHATEVER THE INPUT: true; the input reads as it did. -/
def signLowSpec : ChangeSpec := { name := "signLow", fn := fun _ => fun
  | [d1, d2, d3] => { results := [.lit (.bool true)], args := [d1, d2, d3] }
  | _ => none }
def signLowRow : OpenClaim := { program := "ytgacigcbglflkaa", sum := "69a7fc5ecbe731c2f2f0a727afba983070b9c32a79991d469bde725ffaa8271a", func := "intaglio/intagliolaw07.SignLow", spec := "signLow", inPlace := ["math/bits.Add64"], unfollowed := true, recurses := true, apart := false }
def SignLowSaid : Prop := signLowRow.holds Try.pinned (OpenSpec.ofChange signLowSpec)

/-- ITS FALSE NEIGHBOUR: 'it returns false'. Refute it at one input. -/
def signLowWrong : ChangeSpec := { name := "signLow", fn := fun _ => fun
  | [d1, d2, d3] => { results := [.lit (.bool false)], args := [d1, d2, d3] }
  | _ => none }
def SignLowWrongFalsely : Prop := signLowRow.holds Try.pinned (OpenSpec.ofChange signLowWrong)

/-- 'intagliolaw07.SignSame': WHATEVER THE INPUT: true; the input reads as it did. -/
def signSameSpec : ChangeSpec := { name := "signSame", fn := fun _ => fun
  | [d1, d2] => { results := [.lit (.bool true)], args := [d1, d2] }
  | _ => none }
def signSameRow : OpenClaim := { program := "ytgacigcbglflkaa", sum := "69a7fc5ecbe731c2f2f0a727afba983070b9c32a79991d469bde725ffaa8271a", func := "intaglio/intagliolaw07.SignSame", spec := "signSame", inPlace := ["math/bits.Add64"], unfollowed := true, recurses := true, apart := false }
def SignSameSaid : Prop := signSameRow.holds Try.pinned (OpenSpec.ofChange signSameSpec)

/-- ITS FALSE NEIGHBOUR: 'it returns false'. Refute it at one input. -/
def signSameWrong : ChangeSpec := { name := "signSame", fn := fun _ => fun
  | [d1, d2] => { results := [.lit (.bool false)], args := [d1, d2] }
  | _ => none }
def SignSameWrongFalsely : Prop := signSameRow.holds Try.pinned (OpenSpec.ofChange signSameWrong)

/- THE SECOND FORM. 'bulk': how many values and letters a reading holds, each counted each time it is reached (what is shared counts as often as it is met; a slice's spare places count too). A statement '..UptoSaid' is the law's where the arguments, and the package variables that the reading takes, are together of bulk at most 1048576: NARROWER than '..Said'. Prove '..Said' where nothing that the law and all that it calls make is longer than what came in: it says more and counts as full. Else prove '..UptoSaid'. A law counts once. -/
mutual
def uptoBulk {H : Type} : DataW H → Nat
  | .lit (.string bytes) => bytes.length + 1
  | .lit _ => 1
  | .nil => 1
  | .ptr d => uptoBulk d + 1
  | .slice elems spare => uptoBulkAll elems + uptoBulkAll spare + 1
  | .agg parts => uptoBulkAll parts + 1
  | .iface _ d => uptoBulk d + 1
  | .map entries => uptoBulkEntries entries + 1
  | .held _ => 1
def uptoBulkAll {H : Type} : List (DataW H) → Nat
  | [] => 0
  | d :: r => uptoBulk d + uptoBulkAll r
def uptoBulkEntries {H : Type} : List (Lit × DataW H) → Nat
  | [] => 0
  | x :: r => uptoBulkEntry x + uptoBulkEntries r
def uptoBulkEntry {H : Type} : Lit × DataW H → Nat
  | (.string bytes, d) => bytes.length + uptoBulk d + 1
  | (_, d) => uptoBulk d + 1
 end
def uptoSmall : (H : Type) → List (DataW H) → Bool := fun _ ds => decide (uptoBulkAll ds ≤ 1048576)
def OpenSpec.upto (s : _root_.Go.ChangeSpec) : _root_.Go.OpenSpec := { _root_.Go.OpenSpec.ofChange s with cond := some uptoSmall }

/-- 'intagliolaw07.SignTakes', WHERE WHAT IT READS IS OF BULK AT MOST 1048576: true; the input reads as it did. -/
def signTakesUptoRow : OpenClaim := { program := "ytgacigcbglflkaa", sum := "69a7fc5ecbe731c2f2f0a727afba983070b9c32a79991d469bde725ffaa8271a", func := "intaglio/intagliolaw07.SignTakes", spec := "signTakes", inPlace := ["math/bits.Add64"], unfollowed := true, recurses := true, apart := false, narrowed := true }
def SignTakesUptoSaid : Prop := signTakesUptoRow.holds Try.pinned (OpenSpec.upto signTakesSpec)

/-- 'intagliolaw07.SignOnly', WHERE WHAT IT READS IS OF BULK AT MOST 1048576: true; the input reads as it did. -/
def signOnlyUptoRow : OpenClaim := { program := "ytgacigcbglflkaa", sum := "69a7fc5ecbe731c2f2f0a727afba983070b9c32a79991d469bde725ffaa8271a", func := "intaglio/intagliolaw07.SignOnly", spec := "signOnly", inPlace := ["math/bits.Add64"], unfollowed := true, recurses := true, apart := false, narrowed := true }
def SignOnlyUptoSaid : Prop := signOnlyUptoRow.holds Try.pinned (OpenSpec.upto signOnlySpec)

/-- 'intagliolaw07.SignLow', WHERE WHAT IT READS IS OF BULK AT MOST 1048576: true; the input reads as it did. -/
def signLowUptoRow : OpenClaim := { program := "ytgacigcbglflkaa", sum := "69a7fc5ecbe731c2f2f0a727afba983070b9c32a79991d469bde725ffaa8271a", func := "intaglio/intagliolaw07.SignLow", spec := "signLow", inPlace := ["math/bits.Add64"], unfollowed := true, recurses := true, apart := false, narrowed := true }
def SignLowUptoSaid : Prop := signLowUptoRow.holds Try.pinned (OpenSpec.upto signLowSpec)

/-- 'intagliolaw07.SignSame', WHERE WHAT IT READS IS OF BULK AT MOST 1048576: true; the input reads as it did. -/
def signSameUptoRow : OpenClaim := { program := "ytgacigcbglflkaa", sum := "69a7fc5ecbe731c2f2f0a727afba983070b9c32a79991d469bde725ffaa8271a", func := "intaglio/intagliolaw07.SignSame", spec := "signSame", inPlace := ["math/bits.Add64"], unfollowed := true, recurses := true, apart := false, narrowed := true }
def SignSameUptoSaid : Prop := signSameUptoRow.holds Try.pinned (OpenSpec.upto signSameSpec)

end Rows
end Go.Proofs.Ytgacigcbglflkaa
