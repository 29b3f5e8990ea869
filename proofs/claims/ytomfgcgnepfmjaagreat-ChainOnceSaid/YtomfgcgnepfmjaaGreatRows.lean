/-
  No cell of these rows narrows 'for every input' (looked for: loops, veiled, ifaces, maps, wideKeys, modest, calm, conditions, laid).
  DERIVED. THE GIVEN ROWS OF THIS SEAT. 8 by the template 'for every input the law returns true; each argument reads behind the call as it read before'; 0 by the template 'total and deterministic' (their statements: YtomfgcgnepfmjaaGreatTotals.lean).
  GIVEN WITH THE SEED: the statements are not yours to turn. If you find one false, say at which input.
  Laid BY PROGRAM, IN A SANDBOX (cutbox-rows.mjs): the forced cells as the released guide's own fill.sh prints them over the translation b4caee0735e869ba… (all of the seat's roots in one cut). By AI agents, Wed Nov 11 2026. No macro, syntax, notation, axiom, sorry.
-/
import Derived.Test.YtomfgcgnepfmjaaGreatChecked
import GoSem.Claim
import GoSem.ClaimJoined
import GoSem.ClaimMapViews
import Derived.JoinedTies
import Derived.KernelRfl
namespace Go.Proofs.YtomfgcgnepfmjaaGreat
/- THE CELL 'sum', in the pinned program and in every row, IS THE sha256 OF THE DUMP (.gsa) THAT YtomfgcgnepfmjaaGreatProg.lean LOADS. Nothing in Lean hashes anything: it is a label: what it is worth is what the hold of that sum in a sandbox is worth. -/
noncomputable def Tryz.pinned : Pinned := { name := "ytomfgcgnepfmjaagreat", sum := "b4caee0735e869bac87a4ae777268956ecfb1148ecf26768ab0c759b6fe37fb8", checked := Tryz.checked }
namespace Rows
def none {H : Type} : Left H := { results := [], args := [] }

/-- 'intagliolaw17.RosterMakes': WHATEVER THE INPUT: true; the input reads as it did. -/
def rosterMakesSpec : ChangeSpec := { name := "rosterMakes", fn := fun _ => fun
  | [d1, d2, d3] => { results := [.lit (.bool true)], args := [d1, d2, d3] }
  | _ => none }
def rosterMakesRow : OpenClaim := { program := "ytomfgcgnepfmjaagreat", sum := "b4caee0735e869bac87a4ae777268956ecfb1148ecf26768ab0c759b6fe37fb8", func := "intaglio/intagliolaw17.RosterMakes", spec := "rosterMakes", inPlace := ["math/bits.Add64", "slices.overlaps[intaglio/roster.Member]"], unfollowed := true, recurses := true, apart := false }
def RosterMakesSaid : Prop := rosterMakesRow.holds Tryz.pinned (OpenSpec.ofChange rosterMakesSpec)

/-- ITS FALSE NEIGHBOUR: 'it returns false'. Refute it at one input. -/
def rosterMakesWrong : ChangeSpec := { name := "rosterMakes", fn := fun _ => fun
  | [d1, d2, d3] => { results := [.lit (.bool false)], args := [d1, d2, d3] }
  | _ => none }
def RosterMakesWrongFalsely : Prop := rosterMakesRow.holds Tryz.pinned (OpenSpec.ofChange rosterMakesWrong)

/-- 'intagliolaw16.ChainOpens': WHATEVER THE INPUT: true; the input reads as it did. -/
def chainOpensSpec : ChangeSpec := { name := "chainOpens", fn := fun _ => fun
  | [d1, d2] => { results := [.lit (.bool true)], args := [d1, d2] }
  | _ => none }
def chainOpensRow : OpenClaim := { program := "ytomfgcgnepfmjaagreat", sum := "b4caee0735e869bac87a4ae777268956ecfb1148ecf26768ab0c759b6fe37fb8", func := "intaglio/intagliolaw16.ChainOpens", spec := "chainOpens", inPlace := ["math/bits.Add64"], unfollowed := true, recurses := true, apart := false }
def ChainOpensSaid : Prop := chainOpensRow.holds Tryz.pinned (OpenSpec.ofChange chainOpensSpec)

/-- ITS FALSE NEIGHBOUR: 'it returns false'. Refute it at one input. -/
def chainOpensWrong : ChangeSpec := { name := "chainOpens", fn := fun _ => fun
  | [d1, d2] => { results := [.lit (.bool false)], args := [d1, d2] }
  | _ => none }
def ChainOpensWrongFalsely : Prop := chainOpensRow.holds Tryz.pinned (OpenSpec.ofChange chainOpensWrong)

/-- 'intagliolaw16.ChainShares': WHATEVER THE INPUT: true; the input reads as it did. -/
def chainSharesSpec : ChangeSpec := { name := "chainShares", fn := fun _ => fun
  | [d] => { results := [.lit (.bool true)], args := [d] }
  | _ => none }
def chainSharesRow : OpenClaim := { program := "ytomfgcgnepfmjaagreat", sum := "b4caee0735e869bac87a4ae777268956ecfb1148ecf26768ab0c759b6fe37fb8", func := "intaglio/intagliolaw16.ChainShares", spec := "chainShares", inPlace := ["math/bits.Add64"], unfollowed := true, recurses := true, apart := false }
def ChainSharesSaid : Prop := chainSharesRow.holds Tryz.pinned (OpenSpec.ofChange chainSharesSpec)

/-- ITS FALSE NEIGHBOUR: 'it returns false'. Refute it at one input. -/
def chainSharesWrong : ChangeSpec := { name := "chainShares", fn := fun _ => fun
  | [d] => { results := [.lit (.bool false)], args := [d] }
  | _ => none }
def ChainSharesWrongFalsely : Prop := chainSharesRow.holds Tryz.pinned (OpenSpec.ofChange chainSharesWrong)

/-- 'intagliolaw16.ChainForges': WHATEVER THE INPUT: true; the input reads as it did. -/
def chainForgesSpec : ChangeSpec := { name := "chainForges", fn := fun _ => fun
  | [d1, d2, d3] => { results := [.lit (.bool true)], args := [d1, d2, d3] }
  | _ => none }
def chainForgesRow : OpenClaim := { program := "ytomfgcgnepfmjaagreat", sum := "b4caee0735e869bac87a4ae777268956ecfb1148ecf26768ab0c759b6fe37fb8", func := "intaglio/intagliolaw16.ChainForges", spec := "chainForges", inPlace := ["math/bits.Add64"], unfollowed := true, recurses := true, apart := false }
def ChainForgesSaid : Prop := chainForgesRow.holds Tryz.pinned (OpenSpec.ofChange chainForgesSpec)

/-- ITS FALSE NEIGHBOUR: 'it returns false'. Refute it at one input. -/
def chainForgesWrong : ChangeSpec := { name := "chainForges", fn := fun _ => fun
  | [d1, d2, d3] => { results := [.lit (.bool false)], args := [d1, d2, d3] }
  | _ => none }
def ChainForgesWrongFalsely : Prop := chainForgesRow.holds Tryz.pinned (OpenSpec.ofChange chainForgesWrong)

/-- 'intagliolaw16.ChainJoins': WHATEVER THE INPUT: true; the input reads as it did. -/
def chainJoinsSpec : ChangeSpec := { name := "chainJoins", fn := fun _ => fun
  | [d1, d2, d3] => { results := [.lit (.bool true)], args := [d1, d2, d3] }
  | _ => none }
def chainJoinsRow : OpenClaim := { program := "ytomfgcgnepfmjaagreat", sum := "b4caee0735e869bac87a4ae777268956ecfb1148ecf26768ab0c759b6fe37fb8", func := "intaglio/intagliolaw16.ChainJoins", spec := "chainJoins", inPlace := ["math/bits.Add64"], unfollowed := true, recurses := true, apart := false }
def ChainJoinsSaid : Prop := chainJoinsRow.holds Tryz.pinned (OpenSpec.ofChange chainJoinsSpec)

/-- ITS FALSE NEIGHBOUR: 'it returns false'. Refute it at one input. -/
def chainJoinsWrong : ChangeSpec := { name := "chainJoins", fn := fun _ => fun
  | [d1, d2, d3] => { results := [.lit (.bool false)], args := [d1, d2, d3] }
  | _ => none }
def ChainJoinsWrongFalsely : Prop := chainJoinsRow.holds Tryz.pinned (OpenSpec.ofChange chainJoinsWrong)

/-- 'intagliolaw16.ChainSeals': WHATEVER THE INPUT: true; the input reads as it did. -/
def chainSealsSpec : ChangeSpec := { name := "chainSeals", fn := fun _ => fun
  | [d1, d2] => { results := [.lit (.bool true)], args := [d1, d2] }
  | _ => none }
def chainSealsRow : OpenClaim := { program := "ytomfgcgnepfmjaagreat", sum := "b4caee0735e869bac87a4ae777268956ecfb1148ecf26768ab0c759b6fe37fb8", func := "intaglio/intagliolaw16.ChainSeals", spec := "chainSeals", inPlace := ["math/bits.Add64"], unfollowed := true, recurses := true, apart := false }
def ChainSealsSaid : Prop := chainSealsRow.holds Tryz.pinned (OpenSpec.ofChange chainSealsSpec)

/-- ITS FALSE NEIGHBOUR: 'it returns false'. Refute it at one input. -/
def chainSealsWrong : ChangeSpec := { name := "chainSeals", fn := fun _ => fun
  | [d1, d2] => { results := [.lit (.bool false)], args := [d1, d2] }
  | _ => none }
def ChainSealsWrongFalsely : Prop := chainSealsRow.holds Tryz.pinned (OpenSpec.ofChange chainSealsWrong)

/-- 'intagliolaw16.ChainOnce': WHATEVER THE INPUT: true; the input reads as it did. -/
def chainOnceSpec : ChangeSpec := { name := "chainOnce", fn := fun _ => fun
  | [d1, d2, d3] => { results := [.lit (.bool true)], args := [d1, d2, d3] }
  | _ => none }
def chainOnceRow : OpenClaim := { program := "ytomfgcgnepfmjaagreat", sum := "b4caee0735e869bac87a4ae777268956ecfb1148ecf26768ab0c759b6fe37fb8", func := "intaglio/intagliolaw16.ChainOnce", spec := "chainOnce", inPlace := ["math/bits.Add64"], unfollowed := true, recurses := true, apart := false }
def ChainOnceSaid : Prop := chainOnceRow.holds Tryz.pinned (OpenSpec.ofChange chainOnceSpec)

/-- ITS FALSE NEIGHBOUR: 'it returns false'. Refute it at one input. -/
def chainOnceWrong : ChangeSpec := { name := "chainOnce", fn := fun _ => fun
  | [d1, d2, d3] => { results := [.lit (.bool false)], args := [d1, d2, d3] }
  | _ => none }
def ChainOnceWrongFalsely : Prop := chainOnceRow.holds Tryz.pinned (OpenSpec.ofChange chainOnceWrong)

/-- 'intagliolaw16.ChainEnds': WHATEVER THE INPUT: true; the input reads as it did. -/
def chainEndsSpec : ChangeSpec := { name := "chainEnds", fn := fun _ => fun
  | [d1, d2, d3] => { results := [.lit (.bool true)], args := [d1, d2, d3] }
  | _ => none }
def chainEndsRow : OpenClaim := { program := "ytomfgcgnepfmjaagreat", sum := "b4caee0735e869bac87a4ae777268956ecfb1148ecf26768ab0c759b6fe37fb8", func := "intaglio/intagliolaw16.ChainEnds", spec := "chainEnds", inPlace := ["math/bits.Add64"], unfollowed := true, recurses := true, apart := false }
def ChainEndsSaid : Prop := chainEndsRow.holds Tryz.pinned (OpenSpec.ofChange chainEndsSpec)

/-- ITS FALSE NEIGHBOUR: 'it returns false'. Refute it at one input. -/
def chainEndsWrong : ChangeSpec := { name := "chainEnds", fn := fun _ => fun
  | [d1, d2, d3] => { results := [.lit (.bool false)], args := [d1, d2, d3] }
  | _ => none }
def ChainEndsWrongFalsely : Prop := chainEndsRow.holds Tryz.pinned (OpenSpec.ofChange chainEndsWrong)

/- THE SECOND FORM. 'bulk': how many values and letters a reading holds, each counted each time it is reached (what is shared counts as often as it is met; a slice's spare places count too). A statement '..UptoSaid' is the law's where the arguments, and the package variables that the reading takes, are together of bulk at most 1048576: NARROWER than '..Said'. Prove '..Said' where nothing that the law and all that it calls make is longer than what came in: it says more and counts as full. Else prove '..UptoSaid'. A law counts once. -/
mutual
def uptoBulk {H : Type} : DataW H → Nat
  | .lit (.string bytes) => bytes.length + 1
  | .lit _ => 1
  | .nil => 1
  | .ptr d => uptoBulk d + 1
  | .slice elems spare => uptoBulkAll elems + uptoBulkAll spare + 1
  | .agg parts => uptoBulkAll parts + 1
  | .iface _ d => uptoBulk d + 1
  | .map entries => uptoBulkEntries entries + 1
  | .held _ => 1
def uptoBulkAll {H : Type} : List (DataW H) → Nat
  | [] => 0
  | d :: r => uptoBulk d + uptoBulkAll r
def uptoBulkEntries {H : Type} : List (Lit × DataW H) → Nat
  | [] => 0
  | x :: r => uptoBulkEntry x + uptoBulkEntries r
def uptoBulkEntry {H : Type} : Lit × DataW H → Nat
  | (.string bytes, d) => bytes.length + uptoBulk d + 1
  | (_, d) => uptoBulk d + 1
 end
def uptoSmall : (H : Type) → List (DataW H) → Bool := fun _ ds => decide (uptoBulkAll ds ≤ 1048576)
def OpenSpec.upto (s : _root_.Go.ChangeSpec) : _root_.Go.OpenSpec := { _root_.Go.OpenSpec.ofChange s with cond := some uptoSmall }

/-- 'intagliolaw17.RosterMakes', WHERE WHAT IT READS IS OF BULK AT MOST 1048576: true; the input reads as it did. -/
def rosterMakesUptoRow : OpenClaim := { program := "ytomfgcgnepfmjaagreat", sum := "b4caee0735e869bac87a4ae777268956ecfb1148ecf26768ab0c759b6fe37fb8", func := "intaglio/intagliolaw17.RosterMakes", spec := "rosterMakes", inPlace := ["math/bits.Add64", "slices.overlaps[intaglio/roster.Member]"], unfollowed := true, recurses := true, apart := false, narrowed := true }
def RosterMakesUptoSaid : Prop := rosterMakesUptoRow.holds Tryz.pinned (OpenSpec.upto rosterMakesSpec)

/-- 'intagliolaw16.ChainOpens', WHERE WHAT IT READS IS OF BULK AT MOST 1048576: true; the input reads as it did. -/
def chainOpensUptoRow : OpenClaim := { program := "ytomfgcgnepfmjaagreat", sum := "b4caee0735e869bac87a4ae777268956ecfb1148ecf26768ab0c759b6fe37fb8", func := "intaglio/intagliolaw16.ChainOpens", spec := "chainOpens", inPlace := ["math/bits.Add64"], unfollowed := true, recurses := true, apart := false, narrowed := true }
def ChainOpensUptoSaid : Prop := chainOpensUptoRow.holds Tryz.pinned (OpenSpec.upto chainOpensSpec)

/-- 'intagliolaw16.ChainShares', WHERE WHAT IT READS IS OF BULK AT MOST 1048576: true; the input reads as it did. -/
def chainSharesUptoRow : OpenClaim := { program := "ytomfgcgnepfmjaagreat", sum := "b4caee0735e869bac87a4ae777268956ecfb1148ecf26768ab0c759b6fe37fb8", func := "intaglio/intagliolaw16.ChainShares", spec := "chainShares", inPlace := ["math/bits.Add64"], unfollowed := true, recurses := true, apart := false, narrowed := true }
def ChainSharesUptoSaid : Prop := chainSharesUptoRow.holds Tryz.pinned (OpenSpec.upto chainSharesSpec)

/-- 'intagliolaw16.ChainForges', WHERE WHAT IT READS IS OF BULK AT MOST 1048576: true; the input reads as it did. -/
def chainForgesUptoRow : OpenClaim := { program := "ytomfgcgnepfmjaagreat", sum := "b4caee0735e869bac87a4ae777268956ecfb1148ecf26768ab0c759b6fe37fb8", func := "intaglio/intagliolaw16.ChainForges", spec := "chainForges", inPlace := ["math/bits.Add64"], unfollowed := true, recurses := true, apart := false, narrowed := true }
def ChainForgesUptoSaid : Prop := chainForgesUptoRow.holds Tryz.pinned (OpenSpec.upto chainForgesSpec)

/-- 'intagliolaw16.ChainJoins', WHERE WHAT IT READS IS OF BULK AT MOST 1048576: true; the input reads as it did. -/
def chainJoinsUptoRow : OpenClaim := { program := "ytomfgcgnepfmjaagreat", sum := "b4caee0735e869bac87a4ae777268956ecfb1148ecf26768ab0c759b6fe37fb8", func := "intaglio/intagliolaw16.ChainJoins", spec := "chainJoins", inPlace := ["math/bits.Add64"], unfollowed := true, recurses := true, apart := false, narrowed := true }
def ChainJoinsUptoSaid : Prop := chainJoinsUptoRow.holds Tryz.pinned (OpenSpec.upto chainJoinsSpec)

/-- 'intagliolaw16.ChainSeals', WHERE WHAT IT READS IS OF BULK AT MOST 1048576: true; the input reads as it did. -/
def chainSealsUptoRow : OpenClaim := { program := "ytomfgcgnepfmjaagreat", sum := "b4caee0735e869bac87a4ae777268956ecfb1148ecf26768ab0c759b6fe37fb8", func := "intaglio/intagliolaw16.ChainSeals", spec := "chainSeals", inPlace := ["math/bits.Add64"], unfollowed := true, recurses := true, apart := false, narrowed := true }
def ChainSealsUptoSaid : Prop := chainSealsUptoRow.holds Tryz.pinned (OpenSpec.upto chainSealsSpec)

/-- 'intagliolaw16.ChainOnce', WHERE WHAT IT READS IS OF BULK AT MOST 1048576: true; the input reads as it did. -/
def chainOnceUptoRow : OpenClaim := { program := "ytomfgcgnepfmjaagreat", sum := "b4caee0735e869bac87a4ae777268956ecfb1148ecf26768ab0c759b6fe37fb8", func := "intaglio/intagliolaw16.ChainOnce", spec := "chainOnce", inPlace := ["math/bits.Add64"], unfollowed := true, recurses := true, apart := false, narrowed := true }
def ChainOnceUptoSaid : Prop := chainOnceUptoRow.holds Tryz.pinned (OpenSpec.upto chainOnceSpec)

/-- 'intagliolaw16.ChainEnds', WHERE WHAT IT READS IS OF BULK AT MOST 1048576: true; the input reads as it did. -/
def chainEndsUptoRow : OpenClaim := { program := "ytomfgcgnepfmjaagreat", sum := "b4caee0735e869bac87a4ae777268956ecfb1148ecf26768ab0c759b6fe37fb8", func := "intaglio/intagliolaw16.ChainEnds", spec := "chainEnds", inPlace := ["math/bits.Add64"], unfollowed := true, recurses := true, apart := false, narrowed := true }
def ChainEndsUptoSaid : Prop := chainEndsUptoRow.holds Tryz.pinned (OpenSpec.upto chainEndsSpec)

end Rows
end Go.Proofs.YtomfgcgnepfmjaaGreat
