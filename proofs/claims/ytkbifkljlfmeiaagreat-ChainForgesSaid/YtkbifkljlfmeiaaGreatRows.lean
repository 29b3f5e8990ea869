/-
  No cell of these rows narrows 'for every input' (looked for: loops, veiled, ifaces, maps, wideKeys, modest, calm, conditions, laid).
  DERIVED. THE GIVEN ROWS OF THIS SEAT. 3 by the template 'for every input the law returns true; each argument reads behind the call as it read before'; 0 by the template 'total and deterministic' (their statements: YtkbifkljlfmeiaaGreatTotals.lean).
  GIVEN WITH THE SEED: the statements are not yours to turn. If you find one false, say at which input.
  Laid BY PROGRAM, IN A SANDBOX (cutbox-rows.mjs): the forced cells as the released guide's own fill.sh prints them over the translation e5e5f761e70ca44e… (all of the seat's roots in one cut). By AI agents, Wed Nov 11 2026. No macro, syntax, notation, axiom, sorry.
-/
import Derived.Test.YtkbifkljlfmeiaaGreatChecked
import GoSem.Claim
import GoSem.ClaimJoined
import GoSem.ClaimMapViews
import Derived.JoinedTies
import Derived.KernelRfl
namespace Go.Proofs.YtkbifkljlfmeiaaGreat
/- THE CELL 'sum', in the pinned program and in every row, IS THE sha256 OF THE DUMP (.gsa) THAT YtkbifkljlfmeiaaGreatProg.lean LOADS. Nothing in Lean hashes anything: it is a label: what it is worth is what the hold of that sum in a sandbox is worth. -/
noncomputable def Tryz.pinned : Pinned := { name := "ytkbifkljlfmeiaagreat", sum := "e5e5f761e70ca44ee02a26f0e9601788c5e19af89a0bcaea690cbf6b02df5954", checked := Tryz.checked }
namespace Rows
def none {H : Type} : Left H := { results := [], args := [] }

/-- 'intagliolaw16.ChainOpens': WHATEVER THE INPUT: true; the input reads as it did. -/
def chainOpensSpec : ChangeSpec := { name := "chainOpens", fn := fun _ => fun
  | [d1, d2] => { results := [.lit (.bool true)], args := [d1, d2] }
  | _ => none }
def chainOpensRow : OpenClaim := { program := "ytkbifkljlfmeiaagreat", sum := "e5e5f761e70ca44ee02a26f0e9601788c5e19af89a0bcaea690cbf6b02df5954", func := "intaglio/intagliolaw16.ChainOpens", spec := "chainOpens", inPlace := ["math/bits.Add64"], unfollowed := true, recurses := true, apart := false }
def ChainOpensSaid : Prop := chainOpensRow.holds Tryz.pinned (OpenSpec.ofChange chainOpensSpec)

/-- ITS FALSE NEIGHBOUR: 'it returns false'. Refute it at one input. -/
def chainOpensWrong : ChangeSpec := { name := "chainOpens", fn := fun _ => fun
  | [d1, d2] => { results := [.lit (.bool false)], args := [d1, d2] }
  | _ => none }
def ChainOpensWrongFalsely : Prop := chainOpensRow.holds Tryz.pinned (OpenSpec.ofChange chainOpensWrong)

/-- 'intagliolaw16.ChainForges': WHATEVER THE INPUT: true; the input reads as it did. -/
def chainForgesSpec : ChangeSpec := { name := "chainForges", fn := fun _ => fun
  | [d1, d2, d3] => { results := [.lit (.bool true)], args := [d1, d2, d3] }
  | _ => none }
def chainForgesRow : OpenClaim := { program := "ytkbifkljlfmeiaagreat", sum := "e5e5f761e70ca44ee02a26f0e9601788c5e19af89a0bcaea690cbf6b02df5954", func := "intaglio/intagliolaw16.ChainForges", spec := "chainForges", inPlace := ["math/bits.Add64"], unfollowed := true, recurses := true, apart := false }
def ChainForgesSaid : Prop := chainForgesRow.holds Tryz.pinned (OpenSpec.ofChange chainForgesSpec)

/-- ITS FALSE NEIGHBOUR: 'it returns false'. Refute it at one input. -/
def chainForgesWrong : ChangeSpec := { name := "chainForges", fn := fun _ => fun
  | [d1, d2, d3] => { results := [.lit (.bool false)], args := [d1, d2, d3] }
  | _ => none }
def ChainForgesWrongFalsely : Prop := chainForgesRow.holds Tryz.pinned (OpenSpec.ofChange chainForgesWrong)

/-- 'intagliolaw16.ChainSeals': WHATEVER THE INPUT: true; the input reads as it did. -/
def chainSealsSpec : ChangeSpec := { name := "chainSeals", fn := fun _ => fun
  | [d1, d2] => { results := [.lit (.bool true)], args := [d1, d2] }
  | _ => none }
def chainSealsRow : OpenClaim := { program := "ytkbifkljlfmeiaagreat", sum := "e5e5f761e70ca44ee02a26f0e9601788c5e19af89a0bcaea690cbf6b02df5954", func := "intaglio/intagliolaw16.ChainSeals", spec := "chainSeals", inPlace := ["math/bits.Add64"], unfollowed := true, recurses := true, apart := false }
def ChainSealsSaid : Prop := chainSealsRow.holds Tryz.pinned (OpenSpec.ofChange chainSealsSpec)

/-- ITS FALSE NEIGHBOUR: 'it returns false'. Refute it at one input. -/
def chainSealsWrong : ChangeSpec := { name := "chainSeals", fn := fun _ => fun
  | [d1, d2] => { results := [.lit (.bool false)], args := [d1, d2] }
  | _ => none }
def ChainSealsWrongFalsely : Prop := chainSealsRow.holds Tryz.pinned (OpenSpec.ofChange chainSealsWrong)

/- THE SECOND FORM. 'bulk': how many values and letters a reading holds, each counted each time it is reached (what is shared counts as often as it is met; a slice's spare places count too). A statement '..UptoSaid' is the law's where the arguments, and the package variables that the reading takes, are together of bulk at most 1048576: NARROWER than '..Said'. Prove '..Said' where nothing that the law and all that it calls make is longer than what came in: it says more and counts as full. Else prove '..UptoSaid'. A law counts once. -/
mutual
def uptoBulk {H : Type} : DataW H → Nat
  | .lit (.string bytes) => bytes.length + 1
  | .lit _ => 1
  | .nil => 1
  | .ptr d => uptoBulk d + 1
  | .slice elems spare => uptoBulkAll elems + uptoBulkAll spare + 1
  | .agg parts => uptoBulkAll parts + 1
  | .iface _ d => uptoBulk d + 1
  | .map entries => uptoBulkEntries entries + 1
  | .held _ => 1
def uptoBulkAll {H : Type} : List (DataW H) → Nat
  | [] => 0
  | d :: r => uptoBulk d + uptoBulkAll r
def uptoBulkEntries {H : Type} : List (Lit × DataW H) → Nat
  | [] => 0
  | x :: r => uptoBulkEntry x + uptoBulkEntries r
def uptoBulkEntry {H : Type} : Lit × DataW H → Nat
  | (.string bytes, d) => bytes.length + uptoBulk d + 1
  | (_, d) => uptoBulk d + 1
 end
def uptoSmall : (H : Type) → List (DataW H) → Bool := fun _ ds => decide (uptoBulkAll ds ≤ 1048576)
def OpenSpec.upto (s : _root_.Go.ChangeSpec) : _root_.Go.OpenSpec := { _root_.Go.OpenSpec.ofChange s with cond := some uptoSmall }

/-- 'intagliolaw16.ChainOpens', WHERE WHAT IT READS IS OF BULK AT MOST 1048576: true; the input reads as it did. -/
def chainOpensUptoRow : OpenClaim := { program := "ytkbifkljlfmeiaagreat", sum := "e5e5f761e70ca44ee02a26f0e9601788c5e19af89a0bcaea690cbf6b02df5954", func := "intaglio/intagliolaw16.ChainOpens", spec := "chainOpens", inPlace := ["math/bits.Add64"], unfollowed := true, recurses := true, apart := false, narrowed := true }
def ChainOpensUptoSaid : Prop := chainOpensUptoRow.holds Tryz.pinned (OpenSpec.upto chainOpensSpec)

/-- 'intagliolaw16.ChainForges', WHERE WHAT IT READS IS OF BULK AT MOST 1048576: true; the input reads as it did. -/
def chainForgesUptoRow : OpenClaim := { program := "ytkbifkljlfmeiaagreat", sum := "e5e5f761e70ca44ee02a26f0e9601788c5e19af89a0bcaea690cbf6b02df5954", func := "intaglio/intagliolaw16.ChainForges", spec := "chainForges", inPlace := ["math/bits.Add64"], unfollowed := true, recurses := true, apart := false, narrowed := true }
def ChainForgesUptoSaid : Prop := chainForgesUptoRow.holds Tryz.pinned (OpenSpec.upto chainForgesSpec)

/-- 'intagliolaw16.ChainSeals', WHERE WHAT IT READS IS OF BULK AT MOST 1048576: true; the input reads as it did. -/
def chainSealsUptoRow : OpenClaim := { program := "ytkbifkljlfmeiaagreat", sum := "e5e5f761e70ca44ee02a26f0e9601788c5e19af89a0bcaea690cbf6b02df5954", func := "intaglio/intagliolaw16.ChainSeals", spec := "chainSeals", inPlace := ["math/bits.Add64"], unfollowed := true, recurses := true, apart := false, narrowed := true }
def ChainSealsUptoSaid : Prop := chainSealsUptoRow.holds Tryz.pinned (OpenSpec.upto chainSealsSpec)

end Rows
end Go.Proofs.YtkbifkljlfmeiaaGreat
