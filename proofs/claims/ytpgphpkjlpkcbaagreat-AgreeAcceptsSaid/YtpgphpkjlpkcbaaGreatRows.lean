/-
  No cell of these rows narrows 'for every input' (looked for: loops, veiled, ifaces, maps, wideKeys, modest, calm, conditions, laid).
  DERIVED. THE GIVEN ROWS OF THIS SEAT. 4 by the template 'for every input the law returns true; each argument reads behind the call as it read before'; 0 by the template 'total and deterministic' (their statements: YtpgphpkjlpkcbaaGreatTotals.lean).
  GIVEN WITH THE SEED: the statements are not yours to turn. If you find one false, say at which input.
  Laid BY PROGRAM, IN A SANDBOX (cutbox-rows.mjs): the forced cells as the released guide's own fill.sh prints them over the translation c75e0d513a2e3b6a… (all of the seat's roots in one cut). By AI agents, Wed Nov 11 2026. No macro, syntax, notation, axiom, sorry.
-/
import Derived.Test.YtpgphpkjlpkcbaaGreatChecked
import GoSem.Claim
import GoSem.ClaimJoined
import GoSem.ClaimMapViews
import Derived.JoinedTies
import Derived.KernelRfl
namespace Go.Proofs.YtpgphpkjlpkcbaaGreat
/- THE CELL 'sum', in the pinned program and in every row, IS THE sha256 OF THE DUMP (.gsa) THAT YtpgphpkjlpkcbaaGreatProg.lean LOADS. Nothing in Lean hashes anything: it is a label: what it is worth is what the hold of that sum in a sandbox is worth. -/
noncomputable def Tryz.pinned : Pinned := { name := "ytpgphpkjlpkcbaagreat", sum := "c75e0d513a2e3b6aace27165ce12c724eba2af57eb8334124b59885b344fda20", checked := Tryz.checked }
namespace Rows
def none {H : Type} : Left H := { results := [], args := [] }

/-- 'intagliolaw14.AgreeBegins': WHATEVER THE INPUT: true; the input reads as it did. -/
def agreeBeginsSpec : ChangeSpec := { name := "agreeBegins", fn := fun _ => fun
  | [d1, d2, d3] => { results := [.lit (.bool true)], args := [d1, d2, d3] }
  | _ => none }
def agreeBeginsRow : OpenClaim := { program := "ytpgphpkjlpkcbaagreat", sum := "c75e0d513a2e3b6aace27165ce12c724eba2af57eb8334124b59885b344fda20", func := "intaglio/intagliolaw14.AgreeBegins", spec := "agreeBegins", inPlace := ["math/bits.Add64"], unfollowed := true, recurses := true, apart := false }
def AgreeBeginsSaid : Prop := agreeBeginsRow.holds Tryz.pinned (OpenSpec.ofChange agreeBeginsSpec)

/-- ITS FALSE NEIGHBOUR: 'it returns false'. Refute it at one input. -/
def agreeBeginsWrong : ChangeSpec := { name := "agreeBegins", fn := fun _ => fun
  | [d1, d2, d3] => { results := [.lit (.bool false)], args := [d1, d2, d3] }
  | _ => none }
def AgreeBeginsWrongFalsely : Prop := agreeBeginsRow.holds Tryz.pinned (OpenSpec.ofChange agreeBeginsWrong)

/-- 'intagliolaw14.AgreeAccepts': WHATEVER THE INPUT: true; the input reads as it did. -/
def agreeAcceptsSpec : ChangeSpec := { name := "agreeAccepts", fn := fun _ => fun
  | [d1, d2, d3] => { results := [.lit (.bool true)], args := [d1, d2, d3] }
  | _ => none }
def agreeAcceptsRow : OpenClaim := { program := "ytpgphpkjlpkcbaagreat", sum := "c75e0d513a2e3b6aace27165ce12c724eba2af57eb8334124b59885b344fda20", func := "intaglio/intagliolaw14.AgreeAccepts", spec := "agreeAccepts", inPlace := ["math/bits.Add64"], unfollowed := true, recurses := true, apart := false }
def AgreeAcceptsSaid : Prop := agreeAcceptsRow.holds Tryz.pinned (OpenSpec.ofChange agreeAcceptsSpec)

/-- ITS FALSE NEIGHBOUR: 'it returns false'. Refute it at one input. -/
def agreeAcceptsWrong : ChangeSpec := { name := "agreeAccepts", fn := fun _ => fun
  | [d1, d2, d3] => { results := [.lit (.bool false)], args := [d1, d2, d3] }
  | _ => none }
def AgreeAcceptsWrongFalsely : Prop := agreeAcceptsRow.holds Tryz.pinned (OpenSpec.ofChange agreeAcceptsWrong)

/-- 'intagliolaw14.AgreeTampers': WHATEVER THE INPUT: true; the input reads as it did. -/
def agreeTampersSpec : ChangeSpec := { name := "agreeTampers", fn := fun _ => fun
  | [d1, d2, d3] => { results := [.lit (.bool true)], args := [d1, d2, d3] }
  | _ => none }
def agreeTampersRow : OpenClaim := { program := "ytpgphpkjlpkcbaagreat", sum := "c75e0d513a2e3b6aace27165ce12c724eba2af57eb8334124b59885b344fda20", func := "intaglio/intagliolaw14.AgreeTampers", spec := "agreeTampers", inPlace := ["math/bits.Add64"], unfollowed := true, recurses := true, apart := false }
def AgreeTampersSaid : Prop := agreeTampersRow.holds Tryz.pinned (OpenSpec.ofChange agreeTampersSpec)

/-- ITS FALSE NEIGHBOUR: 'it returns false'. Refute it at one input. -/
def agreeTampersWrong : ChangeSpec := { name := "agreeTampers", fn := fun _ => fun
  | [d1, d2, d3] => { results := [.lit (.bool false)], args := [d1, d2, d3] }
  | _ => none }
def AgreeTampersWrongFalsely : Prop := agreeTampersRow.holds Tryz.pinned (OpenSpec.ofChange agreeTampersWrong)

/-- 'intagliolaw14.AgreeOffers': WHATEVER THE INPUT: true; the input reads as it did. -/
def agreeOffersSpec : ChangeSpec := { name := "agreeOffers", fn := fun _ => fun
  | [d1, d2, d3] => { results := [.lit (.bool true)], args := [d1, d2, d3] }
  | _ => none }
def agreeOffersRow : OpenClaim := { program := "ytpgphpkjlpkcbaagreat", sum := "c75e0d513a2e3b6aace27165ce12c724eba2af57eb8334124b59885b344fda20", func := "intaglio/intagliolaw14.AgreeOffers", spec := "agreeOffers", inPlace := ["math/bits.Add64"], unfollowed := true, recurses := true, apart := false }
def AgreeOffersSaid : Prop := agreeOffersRow.holds Tryz.pinned (OpenSpec.ofChange agreeOffersSpec)

/-- ITS FALSE NEIGHBOUR: 'it returns false'. Refute it at one input. -/
def agreeOffersWrong : ChangeSpec := { name := "agreeOffers", fn := fun _ => fun
  | [d1, d2, d3] => { results := [.lit (.bool false)], args := [d1, d2, d3] }
  | _ => none }
def AgreeOffersWrongFalsely : Prop := agreeOffersRow.holds Tryz.pinned (OpenSpec.ofChange agreeOffersWrong)

/- THE SECOND FORM. 'bulk': how many values and letters a reading holds, each counted each time it is reached (what is shared counts as often as it is met; a slice's spare places count too). A statement '..UptoSaid' is the law's where the arguments, and the package variables that the reading takes, are together of bulk at most 1048576: NARROWER than '..Said'. Prove '..Said' where nothing that the law and all that it calls make is longer than what came in: it says more and counts as full. Else prove '..UptoSaid'. A law counts once. -/
mutual
def uptoBulk {H : Type} : DataW H → Nat
  | .lit (.string bytes) => bytes.length + 1
  | .lit _ => 1
  | .nil => 1
  | .ptr d => uptoBulk d + 1
  | .slice elems spare => uptoBulkAll elems + uptoBulkAll spare + 1
  | .agg parts => uptoBulkAll parts + 1
  | .iface _ d => uptoBulk d + 1
  | .map entries => uptoBulkEntries entries + 1
  | .held _ => 1
def uptoBulkAll {H : Type} : List (DataW H) → Nat
  | [] => 0
  | d :: r => uptoBulk d + uptoBulkAll r
def uptoBulkEntries {H : Type} : List (Lit × DataW H) → Nat
  | [] => 0
  | x :: r => uptoBulkEntry x + uptoBulkEntries r
def uptoBulkEntry {H : Type} : Lit × DataW H → Nat
  | (.string bytes, d) => bytes.length + uptoBulk d + 1
  | (_, d) => uptoBulk d + 1
 end
def uptoSmall : (H : Type) → List (DataW H) → Bool := fun _ ds => decide (uptoBulkAll ds ≤ 1048576)
def OpenSpec.upto (s : _root_.Go.ChangeSpec) : _root_.Go.OpenSpec := { _root_.Go.OpenSpec.ofChange s with cond := some uptoSmall }

/-- 'intagliolaw14.AgreeBegins', WHERE WHAT IT READS IS OF BULK AT MOST 1048576: true; the input reads as it did. -/
def agreeBeginsUptoRow : OpenClaim := { program := "ytpgphpkjlpkcbaagreat", sum := "c75e0d513a2e3b6aace27165ce12c724eba2af57eb8334124b59885b344fda20", func := "intaglio/intagliolaw14.AgreeBegins", spec := "agreeBegins", inPlace := ["math/bits.Add64"], unfollowed := true, recurses := true, apart := false, narrowed := true }
def AgreeBeginsUptoSaid : Prop := agreeBeginsUptoRow.holds Tryz.pinned (OpenSpec.upto agreeBeginsSpec)

/-- 'intagliolaw14.AgreeAccepts', WHERE WHAT IT READS IS OF BULK AT MOST 1048576: true; the input reads as it did. -/
def agreeAcceptsUptoRow : OpenClaim := { program := "ytpgphpkjlpkcbaagreat", sum := "c75e0d513a2e3b6aace27165ce12c724eba2af57eb8334124b59885b344fda20", func := "intaglio/intagliolaw14.AgreeAccepts", spec := "agreeAccepts", inPlace := ["math/bits.Add64"], unfollowed := true, recurses := true, apart := false, narrowed := true }
def AgreeAcceptsUptoSaid : Prop := agreeAcceptsUptoRow.holds Tryz.pinned (OpenSpec.upto agreeAcceptsSpec)

/-- 'intagliolaw14.AgreeTampers', WHERE WHAT IT READS IS OF BULK AT MOST 1048576: true; the input reads as it did. -/
def agreeTampersUptoRow : OpenClaim := { program := "ytpgphpkjlpkcbaagreat", sum := "c75e0d513a2e3b6aace27165ce12c724eba2af57eb8334124b59885b344fda20", func := "intaglio/intagliolaw14.AgreeTampers", spec := "agreeTampers", inPlace := ["math/bits.Add64"], unfollowed := true, recurses := true, apart := false, narrowed := true }
def AgreeTampersUptoSaid : Prop := agreeTampersUptoRow.holds Tryz.pinned (OpenSpec.upto agreeTampersSpec)

/-- 'intagliolaw14.AgreeOffers', WHERE WHAT IT READS IS OF BULK AT MOST 1048576: true; the input reads as it did. -/
def agreeOffersUptoRow : OpenClaim := { program := "ytpgphpkjlpkcbaagreat", sum := "c75e0d513a2e3b6aace27165ce12c724eba2af57eb8334124b59885b344fda20", func := "intaglio/intagliolaw14.AgreeOffers", spec := "agreeOffers", inPlace := ["math/bits.Add64"], unfollowed := true, recurses := true, apart := false, narrowed := true }
def AgreeOffersUptoSaid : Prop := agreeOffersUptoRow.holds Tryz.pinned (OpenSpec.upto agreeOffersSpec)

end Rows
end Go.Proofs.YtpgphpkjlpkcbaaGreat
