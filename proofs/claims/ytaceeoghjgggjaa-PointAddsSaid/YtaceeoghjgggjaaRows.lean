/-
  No cell of these rows narrows 'for every input' (looked for: loops, veiled, ifaces, maps, wideKeys, modest, calm, conditions, laid).
  DERIVED. THE GIVEN ROWS OF THIS SEAT. 12 by the template 'for every input the law returns true; each argument reads behind the call as it read before'; 0 by the template 'total and deterministic' (their statements: YtaceeoghjgggjaaTotals.lean).
  GIVEN WITH THE SEED: the statements are not yours to turn. If you find one false, say at which input.
  Laid BY PROGRAM, IN A SANDBOX (cutbox-rows.mjs): the forced cells as the released guide's own fill.sh prints them over the translation 0497955ad919fd19… (all of the seat's roots in one cut). By AI agents, Wed Nov 11 2026. No macro, syntax, notation, axiom, sorry.
-/
import Derived.Test.YtaceeoghjgggjaaChecked
import GoSem.Claim
import GoSem.ClaimJoined
import GoSem.ClaimMapViews
import Derived.JoinedTies
import Derived.KernelRfl
namespace Go.Proofs.Ytaceeoghjgggjaa
/- THE CELL 'sum', in the pinned program and in every row, IS THE sha256 OF THE DUMP (.gsa) THAT YtaceeoghjgggjaaProg.lean LOADS. Nothing in Lean hashes anything: it is a label: what it is worth is what the hold of that sum in a sandbox is worth. -/
noncomputable def Try.pinned : Pinned := { name := "ytaceeoghjgggjaa", sum := "0497955ad919fd1930ecafc0331b307dead574854ed627b508d535f61b66f751", checked := Try.checked }
namespace Rows
def none {H : Type} : Left H := { results := [], args := [] }

/-- 'intagliolaw04.ScalarClamps': WHATEVER THE INPUT: true; the input reads as it did. -/
def scalarClampsSpec : ChangeSpec := { name := "scalarClamps", fn := fun _ => fun
  | [d] => { results := [.lit (.bool true)], args := [d] }
  | _ => none }
def scalarClampsRow : OpenClaim := { program := "ytaceeoghjgggjaa", sum := "0497955ad919fd1930ecafc0331b307dead574854ed627b508d535f61b66f751", func := "intaglio/intagliolaw04.ScalarClamps", spec := "scalarClamps", apart := false }
def ScalarClampsSaid : Prop := scalarClampsRow.holds Try.pinned (OpenSpec.ofChange scalarClampsSpec)

/-- ITS FALSE NEIGHBOUR: 'it returns false'. Refute it at one input. -/
def scalarClampsWrong : ChangeSpec := { name := "scalarClamps", fn := fun _ => fun
  | [d] => { results := [.lit (.bool false)], args := [d] }
  | _ => none }
def ScalarClampsWrongFalsely : Prop := scalarClampsRow.holds Try.pinned (OpenSpec.ofChange scalarClampsWrong)

/-- 'intagliolaw04.ScalarLeft': WHATEVER THE INPUT: true; the input reads as it did. -/
def scalarLeftSpec : ChangeSpec := { name := "scalarLeft", fn := fun _ => fun
  | [d1, d2] => { results := [.lit (.bool true)], args := [d1, d2] }
  | _ => none }
def scalarLeftRow : OpenClaim := { program := "ytaceeoghjgggjaa", sum := "0497955ad919fd1930ecafc0331b307dead574854ed627b508d535f61b66f751", func := "intaglio/intagliolaw04.ScalarLeft", spec := "scalarLeft", apart := false }
def ScalarLeftSaid : Prop := scalarLeftRow.holds Try.pinned (OpenSpec.ofChange scalarLeftSpec)

/-- ITS FALSE NEIGHBOUR: 'it returns false'. Refute it at one input. -/
def scalarLeftWrong : ChangeSpec := { name := "scalarLeft", fn := fun _ => fun
  | [d1, d2] => { results := [.lit (.bool false)], args := [d1, d2] }
  | _ => none }
def ScalarLeftWrongFalsely : Prop := scalarLeftRow.holds Try.pinned (OpenSpec.ofChange scalarLeftWrong)

/-- 'intagliolaw04.ScalarSums': WHATEVER THE INPUT: true; the input reads as it did. -/
def scalarSumsSpec : ChangeSpec := { name := "scalarSums", fn := fun _ => fun
  | [d1, d2, d3] => { results := [.lit (.bool true)], args := [d1, d2, d3] }
  | _ => none }
def scalarSumsRow : OpenClaim := { program := "ytaceeoghjgggjaa", sum := "0497955ad919fd1930ecafc0331b307dead574854ed627b508d535f61b66f751", func := "intaglio/intagliolaw04.ScalarSums", spec := "scalarSums", apart := false }
def ScalarSumsSaid : Prop := scalarSumsRow.holds Try.pinned (OpenSpec.ofChange scalarSumsSpec)

/-- ITS FALSE NEIGHBOUR: 'it returns false'. Refute it at one input. -/
def scalarSumsWrong : ChangeSpec := { name := "scalarSums", fn := fun _ => fun
  | [d1, d2, d3] => { results := [.lit (.bool false)], args := [d1, d2, d3] }
  | _ => none }
def ScalarSumsWrongFalsely : Prop := scalarSumsRow.holds Try.pinned (OpenSpec.ofChange scalarSumsWrong)

/-- 'intagliolaw04.ScalarRules': WHATEVER THE INPUT: true; the input reads as it did. -/
def scalarRulesSpec : ChangeSpec := { name := "scalarRules", fn := fun _ => fun
  | [d1, d2, d3] => { results := [.lit (.bool true)], args := [d1, d2, d3] }
  | _ => none }
def scalarRulesRow : OpenClaim := { program := "ytaceeoghjgggjaa", sum := "0497955ad919fd1930ecafc0331b307dead574854ed627b508d535f61b66f751", func := "intaglio/intagliolaw04.ScalarRules", spec := "scalarRules", apart := false }
def ScalarRulesSaid : Prop := scalarRulesRow.holds Try.pinned (OpenSpec.ofChange scalarRulesSpec)

/-- ITS FALSE NEIGHBOUR: 'it returns false'. Refute it at one input. -/
def scalarRulesWrong : ChangeSpec := { name := "scalarRules", fn := fun _ => fun
  | [d1, d2, d3] => { results := [.lit (.bool false)], args := [d1, d2, d3] }
  | _ => none }
def ScalarRulesWrongFalsely : Prop := scalarRulesRow.holds Try.pinned (OpenSpec.ofChange scalarRulesWrong)

/-- 'intagliolaw04.ScalarRound': WHATEVER THE INPUT: true; the input reads as it did. -/
def scalarRoundSpec : ChangeSpec := { name := "scalarRound", fn := fun _ => fun
  | [d1, d2] => { results := [.lit (.bool true)], args := [d1, d2] }
  | _ => none }
def scalarRoundRow : OpenClaim := { program := "ytaceeoghjgggjaa", sum := "0497955ad919fd1930ecafc0331b307dead574854ed627b508d535f61b66f751", func := "intaglio/intagliolaw04.ScalarRound", spec := "scalarRound", apart := false }
def ScalarRoundSaid : Prop := scalarRoundRow.holds Try.pinned (OpenSpec.ofChange scalarRoundSpec)

/-- ITS FALSE NEIGHBOUR: 'it returns false'. Refute it at one input. -/
def scalarRoundWrong : ChangeSpec := { name := "scalarRound", fn := fun _ => fun
  | [d1, d2] => { results := [.lit (.bool false)], args := [d1, d2] }
  | _ => none }
def ScalarRoundWrongFalsely : Prop := scalarRoundRow.holds Try.pinned (OpenSpec.ofChange scalarRoundWrong)

/-- 'intagliolaw06.PointRules': WHATEVER THE INPUT: true; the input reads as it did. -/
def pointRulesSpec : ChangeSpec := { name := "pointRules", fn := fun _ => fun
  | [d1, d2, d3] => { results := [.lit (.bool true)], args := [d1, d2, d3] }
  | _ => none }
def pointRulesRow : OpenClaim := { program := "ytaceeoghjgggjaa", sum := "0497955ad919fd1930ecafc0331b307dead574854ed627b508d535f61b66f751", func := "intaglio/intagliolaw06.PointRules", spec := "pointRules", inPlace := ["math/bits.Add64"], apart := false }
def PointRulesSaid : Prop := pointRulesRow.holds Try.pinned (OpenSpec.ofChange pointRulesSpec)

/-- ITS FALSE NEIGHBOUR: 'it returns false'. Refute it at one input. -/
def pointRulesWrong : ChangeSpec := { name := "pointRules", fn := fun _ => fun
  | [d1, d2, d3] => { results := [.lit (.bool false)], args := [d1, d2, d3] }
  | _ => none }
def PointRulesWrongFalsely : Prop := pointRulesRow.holds Try.pinned (OpenSpec.ofChange pointRulesWrong)

/-- 'intagliolaw06.PointReads': WHATEVER THE INPUT: true; the input reads as it did. -/
def pointReadsSpec : ChangeSpec := { name := "pointReads", fn := fun _ => fun
  | [d] => { results := [.lit (.bool true)], args := [d] }
  | _ => none }
def pointReadsRow : OpenClaim := { program := "ytaceeoghjgggjaa", sum := "0497955ad919fd1930ecafc0331b307dead574854ed627b508d535f61b66f751", func := "intaglio/intagliolaw06.PointReads", spec := "pointReads", inPlace := ["math/bits.Add64"], apart := false }
def PointReadsSaid : Prop := pointReadsRow.holds Try.pinned (OpenSpec.ofChange pointReadsSpec)

/-- ITS FALSE NEIGHBOUR: 'it returns false'. Refute it at one input. -/
def pointReadsWrong : ChangeSpec := { name := "pointReads", fn := fun _ => fun
  | [d] => { results := [.lit (.bool false)], args := [d] }
  | _ => none }
def PointReadsWrongFalsely : Prop := pointReadsRow.holds Try.pinned (OpenSpec.ofChange pointReadsWrong)

/-- 'intagliolaw06.PointSigns': WHATEVER THE INPUT: true; the input reads as it did. -/
def pointSignsSpec : ChangeSpec := { name := "pointSigns", fn := fun _ => fun
  | [d] => { results := [.lit (.bool true)], args := [d] }
  | _ => none }
def pointSignsRow : OpenClaim := { program := "ytaceeoghjgggjaa", sum := "0497955ad919fd1930ecafc0331b307dead574854ed627b508d535f61b66f751", func := "intaglio/intagliolaw06.PointSigns", spec := "pointSigns", inPlace := ["math/bits.Add64"], apart := false }
def PointSignsSaid : Prop := pointSignsRow.holds Try.pinned (OpenSpec.ofChange pointSignsSpec)

/-- ITS FALSE NEIGHBOUR: 'it returns false'. Refute it at one input. -/
def pointSignsWrong : ChangeSpec := { name := "pointSigns", fn := fun _ => fun
  | [d] => { results := [.lit (.bool false)], args := [d] }
  | _ => none }
def PointSignsWrongFalsely : Prop := pointSignsRow.holds Try.pinned (OpenSpec.ofChange pointSignsWrong)

/-- 'intagliolaw06.PointAdds': WHATEVER THE INPUT: true; the input reads as it did. -/
def pointAddsSpec : ChangeSpec := { name := "pointAdds", fn := fun _ => fun
  | [d1, d2] => { results := [.lit (.bool true)], args := [d1, d2] }
  | _ => none }
def pointAddsRow : OpenClaim := { program := "ytaceeoghjgggjaa", sum := "0497955ad919fd1930ecafc0331b307dead574854ed627b508d535f61b66f751", func := "intaglio/intagliolaw06.PointAdds", spec := "pointAdds", inPlace := ["math/bits.Add64"], apart := false }
def PointAddsSaid : Prop := pointAddsRow.holds Try.pinned (OpenSpec.ofChange pointAddsSpec)

/-- ITS FALSE NEIGHBOUR: 'it returns false'. Refute it at one input. -/
def pointAddsWrong : ChangeSpec := { name := "pointAdds", fn := fun _ => fun
  | [d1, d2] => { results := [.lit (.bool false)], args := [d1, d2] }
  | _ => none }
def PointAddsWrongFalsely : Prop := pointAddsRow.holds Try.pinned (OpenSpec.ofChange pointAddsWrong)

/-- 'intagliolaw06.PointTimes': WHATEVER THE INPUT: true; the input reads as it did. -/
def pointTimesSpec : ChangeSpec := { name := "pointTimes", fn := fun _ => fun
  | [d1, d2] => { results := [.lit (.bool true)], args := [d1, d2] }
  | _ => none }
def pointTimesRow : OpenClaim := { program := "ytaceeoghjgggjaa", sum := "0497955ad919fd1930ecafc0331b307dead574854ed627b508d535f61b66f751", func := "intaglio/intagliolaw06.PointTimes", spec := "pointTimes", inPlace := ["math/bits.Add64"], apart := false }
def PointTimesSaid : Prop := pointTimesRow.holds Try.pinned (OpenSpec.ofChange pointTimesSpec)

/-- ITS FALSE NEIGHBOUR: 'it returns false'. Refute it at one input. -/
def pointTimesWrong : ChangeSpec := { name := "pointTimes", fn := fun _ => fun
  | [d1, d2] => { results := [.lit (.bool false)], args := [d1, d2] }
  | _ => none }
def PointTimesWrongFalsely : Prop := pointTimesRow.holds Try.pinned (OpenSpec.ofChange pointTimesWrong)

/-- 'intagliolaw06.PointTiny': WHATEVER THE INPUT: true; the input reads as it did. -/
def pointTinySpec : ChangeSpec := { name := "pointTiny", fn := fun _ => fun
  | [d1, d2] => { results := [.lit (.bool true)], args := [d1, d2] }
  | _ => none }
def pointTinyRow : OpenClaim := { program := "ytaceeoghjgggjaa", sum := "0497955ad919fd1930ecafc0331b307dead574854ed627b508d535f61b66f751", func := "intaglio/intagliolaw06.PointTiny", spec := "pointTiny", inPlace := ["math/bits.Add64"], apart := false }
def PointTinySaid : Prop := pointTinyRow.holds Try.pinned (OpenSpec.ofChange pointTinySpec)

/-- ITS FALSE NEIGHBOUR: 'it returns false'. Refute it at one input. -/
def pointTinyWrong : ChangeSpec := { name := "pointTiny", fn := fun _ => fun
  | [d1, d2] => { results := [.lit (.bool false)], args := [d1, d2] }
  | _ => none }
def PointTinyWrongFalsely : Prop := pointTinyRow.holds Try.pinned (OpenSpec.ofChange pointTinyWrong)

/-- 'intagliolaw06.PointOrder': WHATEVER THE INPUT: true; the input reads as it did. -/
def pointOrderSpec : ChangeSpec := { name := "pointOrder", fn := fun _ => fun
  | [d1, d2] => { results := [.lit (.bool true)], args := [d1, d2] }
  | _ => none }
def pointOrderRow : OpenClaim := { program := "ytaceeoghjgggjaa", sum := "0497955ad919fd1930ecafc0331b307dead574854ed627b508d535f61b66f751", func := "intaglio/intagliolaw06.PointOrder", spec := "pointOrder", inPlace := ["math/bits.Add64"], apart := false }
def PointOrderSaid : Prop := pointOrderRow.holds Try.pinned (OpenSpec.ofChange pointOrderSpec)

/-- ITS FALSE NEIGHBOUR: 'it returns false'. Refute it at one input. -/
def pointOrderWrong : ChangeSpec := { name := "pointOrder", fn := fun _ => fun
  | [d1, d2] => { results := [.lit (.bool false)], args := [d1, d2] }
  | _ => none }
def PointOrderWrongFalsely : Prop := pointOrderRow.holds Try.pinned (OpenSpec.ofChange pointOrderWrong)

/- THE SECOND FORM. 'bulk': how many values and letters a reading holds, each counted each time it is reached (what is shared counts as often as it is met; a slice's spare places count too). A statement '..UptoSaid' is the law's where the arguments, and the package variables that the reading takes, are together of bulk at most 1048576: NARROWER than '..Said'. Prove '..Said' where nothing that the law and all that it calls make is longer than what came in: it says more and counts as full. Else prove '..UptoSaid'. A law counts once. -/
mutual
def uptoBulk {H : Type} : DataW H → Nat
  | .lit (.string bytes) => bytes.length + 1
  | .lit _ => 1
  | .nil => 1
  | .ptr d => uptoBulk d + 1
  | .slice elems spare => uptoBulkAll elems + uptoBulkAll spare + 1
  | .agg parts => uptoBulkAll parts + 1
  | .iface _ d => uptoBulk d + 1
  | .map entries => uptoBulkEntries entries + 1
  | .held _ => 1
def uptoBulkAll {H : Type} : List (DataW H) → Nat
  | [] => 0
  | d :: r => uptoBulk d + uptoBulkAll r
def uptoBulkEntries {H : Type} : List (Lit × DataW H) → Nat
  | [] => 0
  | x :: r => uptoBulkEntry x + uptoBulkEntries r
def uptoBulkEntry {H : Type} : Lit × DataW H → Nat
  | (.string bytes, d) => bytes.length + uptoBulk d + 1
  | (_, d) => uptoBulk d + 1
 end
def uptoSmall : (H : Type) → List (DataW H) → Bool := fun _ ds => decide (uptoBulkAll ds ≤ 1048576)
def OpenSpec.upto (s : _root_.Go.ChangeSpec) : _root_.Go.OpenSpec := { _root_.Go.OpenSpec.ofChange s with cond := some uptoSmall }

/-- 'intagliolaw04.ScalarClamps', WHERE WHAT IT READS IS OF BULK AT MOST 1048576: true; the input reads as it did. -/
def scalarClampsUptoRow : OpenClaim := { program := "ytaceeoghjgggjaa", sum := "0497955ad919fd1930ecafc0331b307dead574854ed627b508d535f61b66f751", func := "intaglio/intagliolaw04.ScalarClamps", spec := "scalarClamps", apart := false, narrowed := true }
def ScalarClampsUptoSaid : Prop := scalarClampsUptoRow.holds Try.pinned (OpenSpec.upto scalarClampsSpec)

/-- 'intagliolaw04.ScalarLeft', WHERE WHAT IT READS IS OF BULK AT MOST 1048576: true; the input reads as it did. -/
def scalarLeftUptoRow : OpenClaim := { program := "ytaceeoghjgggjaa", sum := "0497955ad919fd1930ecafc0331b307dead574854ed627b508d535f61b66f751", func := "intaglio/intagliolaw04.ScalarLeft", spec := "scalarLeft", apart := false, narrowed := true }
def ScalarLeftUptoSaid : Prop := scalarLeftUptoRow.holds Try.pinned (OpenSpec.upto scalarLeftSpec)

/-- 'intagliolaw04.ScalarSums', WHERE WHAT IT READS IS OF BULK AT MOST 1048576: true; the input reads as it did. -/
def scalarSumsUptoRow : OpenClaim := { program := "ytaceeoghjgggjaa", sum := "0497955ad919fd1930ecafc0331b307dead574854ed627b508d535f61b66f751", func := "intaglio/intagliolaw04.ScalarSums", spec := "scalarSums", apart := false, narrowed := true }
def ScalarSumsUptoSaid : Prop := scalarSumsUptoRow.holds Try.pinned (OpenSpec.upto scalarSumsSpec)

/-- 'intagliolaw04.ScalarRules', WHERE WHAT IT READS IS OF BULK AT MOST 1048576: true; the input reads as it did. -/
def scalarRulesUptoRow : OpenClaim := { program := "ytaceeoghjgggjaa", sum := "0497955ad919fd1930ecafc0331b307dead574854ed627b508d535f61b66f751", func := "intaglio/intagliolaw04.ScalarRules", spec := "scalarRules", apart := false, narrowed := true }
def ScalarRulesUptoSaid : Prop := scalarRulesUptoRow.holds Try.pinned (OpenSpec.upto scalarRulesSpec)

/-- 'intagliolaw04.ScalarRound', WHERE WHAT IT READS IS OF BULK AT MOST 1048576: true; the input reads as it did. -/
def scalarRoundUptoRow : OpenClaim := { program := "ytaceeoghjgggjaa", sum := "0497955ad919fd1930ecafc0331b307dead574854ed627b508d535f61b66f751", func := "intaglio/intagliolaw04.ScalarRound", spec := "scalarRound", apart := false, narrowed := true }
def ScalarRoundUptoSaid : Prop := scalarRoundUptoRow.holds Try.pinned (OpenSpec.upto scalarRoundSpec)

/-- 'intagliolaw06.PointRules', WHERE WHAT IT READS IS OF BULK AT MOST 1048576: true; the input reads as it did. -/
def pointRulesUptoRow : OpenClaim := { program := "ytaceeoghjgggjaa", sum := "0497955ad919fd1930ecafc0331b307dead574854ed627b508d535f61b66f751", func := "intaglio/intagliolaw06.PointRules", spec := "pointRules", inPlace := ["math/bits.Add64"], apart := false, narrowed := true }
def PointRulesUptoSaid : Prop := pointRulesUptoRow.holds Try.pinned (OpenSpec.upto pointRulesSpec)

/-- 'intagliolaw06.PointReads', WHERE WHAT IT READS IS OF BULK AT MOST 1048576: true; the input reads as it did. -/
def pointReadsUptoRow : OpenClaim := { program := "ytaceeoghjgggjaa", sum := "0497955ad919fd1930ecafc0331b307dead574854ed627b508d535f61b66f751", func := "intaglio/intagliolaw06.PointReads", spec := "pointReads", inPlace := ["math/bits.Add64"], apart := false, narrowed := true }
def PointReadsUptoSaid : Prop := pointReadsUptoRow.holds Try.pinned (OpenSpec.upto pointReadsSpec)

/-- 'intagliolaw06.PointSigns', WHERE WHAT IT READS IS OF BULK AT MOST 1048576: true; the input reads as it did. -/
def pointSignsUptoRow : OpenClaim := { program := "ytaceeoghjgggjaa", sum := "0497955ad919fd1930ecafc0331b307dead574854ed627b508d535f61b66f751", func := "intaglio/intagliolaw06.PointSigns", spec := "pointSigns", inPlace := ["math/bits.Add64"], apart := false, narrowed := true }
def PointSignsUptoSaid : Prop := pointSignsUptoRow.holds Try.pinned (OpenSpec.upto pointSignsSpec)

/-- 'intagliolaw06.PointAdds', WHERE WHAT IT READS IS OF BULK AT MOST 1048576: true; the input reads as it did. -/
def pointAddsUptoRow : OpenClaim := { program := "ytaceeoghjgggjaa", sum := "0497955ad919fd1930ecafc0331b307dead574854ed627b508d535f61b66f751", func := "intaglio/intagliolaw06.PointAdds", spec := "pointAdds", inPlace := ["math/bits.Add64"], apart := false, narrowed := true }
def PointAddsUptoSaid : Prop := pointAddsUptoRow.holds Try.pinned (OpenSpec.upto pointAddsSpec)

/-- 'intagliolaw06.PointTimes', WHERE WHAT IT READS IS OF BULK AT MOST 1048576: true; the input reads as it did. -/
def pointTimesUptoRow : OpenClaim := { program := "ytaceeoghjgggjaa", sum := "0497955ad919fd1930ecafc0331b307dead574854ed627b508d535f61b66f751", func := "intaglio/intagliolaw06.PointTimes", spec := "pointTimes", inPlace := ["math/bits.Add64"], apart := false, narrowed := true }
def PointTimesUptoSaid : Prop := pointTimesUptoRow.holds Try.pinned (OpenSpec.upto pointTimesSpec)

/-- 'intagliolaw06.PointTiny', WHERE WHAT IT READS IS OF BULK AT MOST 1048576: true; the input reads as it did. -/
def pointTinyUptoRow : OpenClaim := { program := "ytaceeoghjgggjaa", sum := "0497955ad919fd1930ecafc0331b307dead574854ed627b508d535f61b66f751", func := "intaglio/intagliolaw06.PointTiny", spec := "pointTiny", inPlace := ["math/bits.Add64"], apart := false, narrowed := true }
def PointTinyUptoSaid : Prop := pointTinyUptoRow.holds Try.pinned (OpenSpec.upto pointTinySpec)

/-- 'intagliolaw06.PointOrder', WHERE WHAT IT READS IS OF BULK AT MOST 1048576: true; the input reads as it did. -/
def pointOrderUptoRow : OpenClaim := { program := "ytaceeoghjgggjaa", sum := "0497955ad919fd1930ecafc0331b307dead574854ed627b508d535f61b66f751", func := "intaglio/intagliolaw06.PointOrder", spec := "pointOrder", inPlace := ["math/bits.Add64"], apart := false, narrowed := true }
def PointOrderUptoSaid : Prop := pointOrderUptoRow.holds Try.pinned (OpenSpec.upto pointOrderSpec)

end Rows
end Go.Proofs.Ytaceeoghjgggjaa
