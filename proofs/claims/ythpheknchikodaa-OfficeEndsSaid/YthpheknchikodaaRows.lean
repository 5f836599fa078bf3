/-
  No cell of these rows narrows 'for every input' (looked for: loops, veiled, ifaces, maps, wideKeys, modest, calm, conditions, laid).
  DERIVED. THE GIVEN ROWS OF THIS SEAT. 14 by the template 'for every input the law returns true; each argument reads behind the call as it read before'; 0 by the template 'total and deterministic' (their statements: YthpheknchikodaaTotals.lean).
  GIVEN WITH THE SEED: the statements are not yours to turn. If you find one false, say at which input.
  Laid BY PROGRAM, IN A SANDBOX (cutbox-rows.mjs): the forced cells as the released guide's own fill.sh prints them over the translation 65b0c9a8a76636c7… (all of the seat's roots in one cut). By AI agents, Wed Nov 11 2026. No macro, syntax, notation, axiom, sorry.
-/
import Derived.Test.YthpheknchikodaaChecked
import GoSem.Claim
import GoSem.ClaimJoined
import GoSem.ClaimMapViews
import Derived.JoinedTies
import Derived.KernelRfl
namespace Go.Proofs.Ythpheknchikodaa
/- THE CELL 'sum', in the pinned program and in every row, IS THE sha256 OF THE DUMP (.gsa) THAT YthpheknchikodaaProg.lean LOADS. Nothing in Lean hashes anything: it is a label: what it is worth is what the hold of that sum in a sandbox is worth. -/
noncomputable def Try.pinned : Pinned := { name := "ythpheknchikodaa", sum := "65b0c9a8a76636c761ab4b452f9665b9e110433c7022e1e093c756a51f36c279", checked := Try.checked }
namespace Rows
def none {H : Type} : Left H := { results := [], args := [] }

/-- 'palantypelaw05.OfficeHolds': WHATEVER THE INPUT: true; the input reads as it did. -/
def officeHoldsSpec : ChangeSpec := { name := "officeHolds", fn := fun _ => fun
  | [d1, d2, d3] => { results := [.lit (.bool true)], args := [d1, d2, d3] }
  | _ => none }
def officeHoldsRow : OpenClaim := { program := "ythpheknchikodaa", sum := "65b0c9a8a76636c761ab4b452f9665b9e110433c7022e1e093c756a51f36c279", func := "palantype/palantypelaw05.OfficeHolds", spec := "officeHolds", unfollowed := true, recurses := true, plainKeys := false, apart := false }
def OfficeHoldsSaid : Prop := officeHoldsRow.holds Try.pinned (OpenSpec.ofChange officeHoldsSpec)

/-- ITS FALSE NEIGHBOUR: 'it returns false'. Refute it at one input. -/
def officeHoldsWrong : ChangeSpec := { name := "officeHolds", fn := fun _ => fun
  | [d1, d2, d3] => { results := [.lit (.bool false)], args := [d1, d2, d3] }
  | _ => none }
def OfficeHoldsWrongFalsely : Prop := officeHoldsRow.holds Try.pinned (OpenSpec.ofChange officeHoldsWrong)

/-- 'palantypelaw05.OfficeStyles': WHATEVER THE INPUT: true; the input reads as it did. -/
def officeStylesSpec : ChangeSpec := { name := "officeStyles", fn := fun _ => fun
  | [d1, d2, d3] => { results := [.lit (.bool true)], args := [d1, d2, d3] }
  | _ => none }
def officeStylesRow : OpenClaim := { program := "ythpheknchikodaa", sum := "65b0c9a8a76636c761ab4b452f9665b9e110433c7022e1e093c756a51f36c279", func := "palantype/palantypelaw05.OfficeStyles", spec := "officeStyles", unfollowed := true, recurses := true, plainKeys := false, apart := false }
def OfficeStylesSaid : Prop := officeStylesRow.holds Try.pinned (OpenSpec.ofChange officeStylesSpec)

/-- ITS FALSE NEIGHBOUR: 'it returns false'. Refute it at one input. -/
def officeStylesWrong : ChangeSpec := { name := "officeStyles", fn := fun _ => fun
  | [d1, d2, d3] => { results := [.lit (.bool false)], args := [d1, d2, d3] }
  | _ => none }
def OfficeStylesWrongFalsely : Prop := officeStylesRow.holds Try.pinned (OpenSpec.ofChange officeStylesWrong)

/-- 'palantypelaw05.OfficeEnds': WHATEVER THE INPUT: true; the input reads as it did. -/
def officeEndsSpec : ChangeSpec := { name := "officeEnds", fn := fun _ => fun
  | [d1, d2] => { results := [.lit (.bool true)], args := [d1, d2] }
  | _ => none }
def officeEndsRow : OpenClaim := { program := "ythpheknchikodaa", sum := "65b0c9a8a76636c761ab4b452f9665b9e110433c7022e1e093c756a51f36c279", func := "palantype/palantypelaw05.OfficeEnds", spec := "officeEnds", unfollowed := true, recurses := true, plainKeys := false, apart := false }
def OfficeEndsSaid : Prop := officeEndsRow.holds Try.pinned (OpenSpec.ofChange officeEndsSpec)

/-- ITS FALSE NEIGHBOUR: 'it returns false'. Refute it at one input. -/
def officeEndsWrong : ChangeSpec := { name := "officeEnds", fn := fun _ => fun
  | [d1, d2] => { results := [.lit (.bool false)], args := [d1, d2] }
  | _ => none }
def OfficeEndsWrongFalsely : Prop := officeEndsRow.holds Try.pinned (OpenSpec.ofChange officeEndsWrong)

/-- 'palantypelaw05.OfficeOne': WHATEVER THE INPUT: true; the input reads as it did. -/
def officeOneSpec : ChangeSpec := { name := "officeOne", fn := fun _ => fun
  | [d1, d2, d3] => { results := [.lit (.bool true)], args := [d1, d2, d3] }
  | _ => none }
def officeOneRow : OpenClaim := { program := "ythpheknchikodaa", sum := "65b0c9a8a76636c761ab4b452f9665b9e110433c7022e1e093c756a51f36c279", func := "palantype/palantypelaw05.OfficeOne", spec := "officeOne", unfollowed := true, recurses := true, plainKeys := false, apart := false }
def OfficeOneSaid : Prop := officeOneRow.holds Try.pinned (OpenSpec.ofChange officeOneSpec)

/-- ITS FALSE NEIGHBOUR: 'it returns false'. Refute it at one input. -/
def officeOneWrong : ChangeSpec := { name := "officeOne", fn := fun _ => fun
  | [d1, d2, d3] => { results := [.lit (.bool false)], args := [d1, d2, d3] }
  | _ => none }
def OfficeOneWrongFalsely : Prop := officeOneRow.holds Try.pinned (OpenSpec.ofChange officeOneWrong)

/-- 'palantypelaw05.OfficeKnown': WHATEVER THE INPUT: true; the input reads as it did. -/
def officeKnownSpec : ChangeSpec := { name := "officeKnown", fn := fun _ => fun
  | [d1, d2, d3, d4, d5] => { results := [.lit (.bool true)], args := [d1, d2, d3, d4, d5] }
  | _ => none }
def officeKnownRow : OpenClaim := { program := "ythpheknchikodaa", sum := "65b0c9a8a76636c761ab4b452f9665b9e110433c7022e1e093c756a51f36c279", func := "palantype/palantypelaw05.OfficeKnown", spec := "officeKnown", unfollowed := true, recurses := true, plainKeys := false, apart := false }
def OfficeKnownSaid : Prop := officeKnownRow.holds Try.pinned (OpenSpec.ofChange officeKnownSpec)

/-- ITS FALSE NEIGHBOUR: 'it returns false'. Refute it at one input. -/
def officeKnownWrong : ChangeSpec := { name := "officeKnown", fn := fun _ => fun
  | [d1, d2, d3, d4, d5] => { results := [.lit (.bool false)], args := [d1, d2, d3, d4, d5] }
  | _ => none }
def OfficeKnownWrongFalsely : Prop := officeKnownRow.holds Try.pinned (OpenSpec.ofChange officeKnownWrong)

/-- 'palantypelaw05.OfficePairs': WHATEVER THE INPUT: true; the input reads as it did. -/
def officePairsSpec : ChangeSpec := { name := "officePairs", fn := fun _ => fun
  | [d] => { results := [.lit (.bool true)], args := [d] }
  | _ => none }
def officePairsRow : OpenClaim := { program := "ythpheknchikodaa", sum := "65b0c9a8a76636c761ab4b452f9665b9e110433c7022e1e093c756a51f36c279", func := "palantype/palantypelaw05.OfficePairs", spec := "officePairs", unfollowed := true, recurses := true, plainKeys := false, apart := false }
def OfficePairsSaid : Prop := officePairsRow.holds Try.pinned (OpenSpec.ofChange officePairsSpec)

/-- ITS FALSE NEIGHBOUR: 'it returns false'. Refute it at one input. -/
def officePairsWrong : ChangeSpec := { name := "officePairs", fn := fun _ => fun
  | [d] => { results := [.lit (.bool false)], args := [d] }
  | _ => none }
def OfficePairsWrongFalsely : Prop := officePairsRow.holds Try.pinned (OpenSpec.ofChange officePairsWrong)

/-- 'palantypelaw05.OfficeClashes': WHATEVER THE INPUT: true; the input reads as it did. -/
def officeClashesSpec : ChangeSpec := { name := "officeClashes", fn := fun _ => fun
  | [d] => { results := [.lit (.bool true)], args := [d] }
  | _ => none }
def officeClashesRow : OpenClaim := { program := "ythpheknchikodaa", sum := "65b0c9a8a76636c761ab4b452f9665b9e110433c7022e1e093c756a51f36c279", func := "palantype/palantypelaw05.OfficeClashes", spec := "officeClashes", unfollowed := true, recurses := true, plainKeys := false, apart := false }
def OfficeClashesSaid : Prop := officeClashesRow.holds Try.pinned (OpenSpec.ofChange officeClashesSpec)

/-- ITS FALSE NEIGHBOUR: 'it returns false'. Refute it at one input. -/
def officeClashesWrong : ChangeSpec := { name := "officeClashes", fn := fun _ => fun
  | [d] => { results := [.lit (.bool false)], args := [d] }
  | _ => none }
def OfficeClashesWrongFalsely : Prop := officeClashesRow.holds Try.pinned (OpenSpec.ofChange officeClashesWrong)

/-- 'palantypelaw05.OfficeQuotes': WHATEVER THE INPUT: true; the input reads as it did. -/
def officeQuotesSpec : ChangeSpec := { name := "officeQuotes", fn := fun _ => fun
  | [d1, d2, d3, d4] => { results := [.lit (.bool true)], args := [d1, d2, d3, d4] }
  | _ => none }
def officeQuotesRow : OpenClaim := { program := "ythpheknchikodaa", sum := "65b0c9a8a76636c761ab4b452f9665b9e110433c7022e1e093c756a51f36c279", func := "palantype/palantypelaw05.OfficeQuotes", spec := "officeQuotes", unfollowed := true, recurses := true, plainKeys := false, apart := false }
def OfficeQuotesSaid : Prop := officeQuotesRow.holds Try.pinned (OpenSpec.ofChange officeQuotesSpec)

/-- ITS FALSE NEIGHBOUR: 'it returns false'. Refute it at one input. -/
def officeQuotesWrong : ChangeSpec := { name := "officeQuotes", fn := fun _ => fun
  | [d1, d2, d3, d4] => { results := [.lit (.bool false)], args := [d1, d2, d3, d4] }
  | _ => none }
def OfficeQuotesWrongFalsely : Prop := officeQuotesRow.holds Try.pinned (OpenSpec.ofChange officeQuotesWrong)

/-- 'palantypelaw05.OfficeQuoted': WHATEVER THE INPUT: true; the input reads as it did. -/
def officeQuotedSpec : ChangeSpec := { name := "officeQuoted", fn := fun _ => fun
  | [d1, d2, d3, d4, d5, d6] => { results := [.lit (.bool true)], args := [d1, d2, d3, d4, d5, d6] }
  | _ => none }
def officeQuotedRow : OpenClaim := { program := "ythpheknchikodaa", sum := "65b0c9a8a76636c761ab4b452f9665b9e110433c7022e1e093c756a51f36c279", func := "palantype/palantypelaw05.OfficeQuoted", spec := "officeQuoted", unfollowed := true, recurses := true, plainKeys := false, apart := false }
def OfficeQuotedSaid : Prop := officeQuotedRow.holds Try.pinned (OpenSpec.ofChange officeQuotedSpec)

/-- ITS FALSE NEIGHBOUR: 'it returns false'. Refute it at one input. -/
def officeQuotedWrong : ChangeSpec := { name := "officeQuoted", fn := fun _ => fun
  | [d1, d2, d3, d4, d5, d6] => { results := [.lit (.bool false)], args := [d1, d2, d3, d4, d5, d6] }
  | _ => none }
def OfficeQuotedWrongFalsely : Prop := officeQuotedRow.holds Try.pinned (OpenSpec.ofChange officeQuotedWrong)

/-- 'palantypelaw05.OfficeStays': WHATEVER THE INPUT: true; the input reads as it did. -/
def officeStaysSpec : ChangeSpec := { name := "officeStays", fn := fun _ => fun
  | [d1, d2, d3, d4, d5] => { results := [.lit (.bool true)], args := [d1, d2, d3, d4, d5] }
  | _ => none }
def officeStaysRow : OpenClaim := { program := "ythpheknchikodaa", sum := "65b0c9a8a76636c761ab4b452f9665b9e110433c7022e1e093c756a51f36c279", func := "palantype/palantypelaw05.OfficeStays", spec := "officeStays", unfollowed := true, recurses := true, plainKeys := false, apart := false }
def OfficeStaysSaid : Prop := officeStaysRow.holds Try.pinned (OpenSpec.ofChange officeStaysSpec)

/-- ITS FALSE NEIGHBOUR: 'it returns false'. Refute it at one input. -/
def officeStaysWrong : ChangeSpec := { name := "officeStays", fn := fun _ => fun
  | [d1, d2, d3, d4, d5] => { results := [.lit (.bool false)], args := [d1, d2, d3, d4, d5] }
  | _ => none }
def OfficeStaysWrongFalsely : Prop := officeStaysRow.holds Try.pinned (OpenSpec.ofChange officeStaysWrong)

/-- 'palantypelaw05.OfficeCalls': WHATEVER THE INPUT: true; the input reads as it did. -/
def officeCallsSpec : ChangeSpec := { name := "officeCalls", fn := fun _ => fun
  | [d1, d2, d3] => { results := [.lit (.bool true)], args := [d1, d2, d3] }
  | _ => none }
def officeCallsRow : OpenClaim := { program := "ythpheknchikodaa", sum := "65b0c9a8a76636c761ab4b452f9665b9e110433c7022e1e093c756a51f36c279", func := "palantype/palantypelaw05.OfficeCalls", spec := "officeCalls", unfollowed := true, recurses := true, plainKeys := false, apart := false }
def OfficeCallsSaid : Prop := officeCallsRow.holds Try.pinned (OpenSpec.ofChange officeCallsSpec)

/-- ITS FALSE NEIGHBOUR: 'it returns false'. Refute it at one input. -/
def officeCallsWrong : ChangeSpec := { name := "officeCalls", fn := fun _ => fun
  | [d1, d2, d3] => { results := [.lit (.bool false)], args := [d1, d2, d3] }
  | _ => none }
def OfficeCallsWrongFalsely : Prop := officeCallsRow.holds Try.pinned (OpenSpec.ofChange officeCallsWrong)

/-- 'palantypelaw05.OfficeLearns': WHATEVER THE INPUT: true; the input reads as it did. -/
def officeLearnsSpec : ChangeSpec := { name := "officeLearns", fn := fun _ => fun
  | [d1, d2] => { results := [.lit (.bool true)], args := [d1, d2] }
  | _ => none }
def officeLearnsRow : OpenClaim := { program := "ythpheknchikodaa", sum := "65b0c9a8a76636c761ab4b452f9665b9e110433c7022e1e093c756a51f36c279", func := "palantype/palantypelaw05.OfficeLearns", spec := "officeLearns", unfollowed := true, recurses := true, plainKeys := false, apart := false }
def OfficeLearnsSaid : Prop := officeLearnsRow.holds Try.pinned (OpenSpec.ofChange officeLearnsSpec)

/-- ITS FALSE NEIGHBOUR: 'it returns false'. Refute it at one input. -/
def officeLearnsWrong : ChangeSpec := { name := "officeLearns", fn := fun _ => fun
  | [d1, d2] => { results := [.lit (.bool false)], args := [d1, d2] }
  | _ => none }
def OfficeLearnsWrongFalsely : Prop := officeLearnsRow.holds Try.pinned (OpenSpec.ofChange officeLearnsWrong)

/-- 'palantypelaw05.OfficeAny': WHATEVER THE INPUT: true; the input reads as it did. -/
def officeAnySpec : ChangeSpec := { name := "officeAny", fn := fun _ => fun
  | [d1, d2, d3, d4, d5, d6, d7] => { results := [.lit (.bool true)], args := [d1, d2, d3, d4, d5, d6, d7] }
  | _ => none }
def officeAnyRow : OpenClaim := { program := "ythpheknchikodaa", sum := "65b0c9a8a76636c761ab4b452f9665b9e110433c7022e1e093c756a51f36c279", func := "palantype/palantypelaw05.OfficeAny", spec := "officeAny", unfollowed := true, recurses := true, plainKeys := false, apart := false }
def OfficeAnySaid : Prop := officeAnyRow.holds Try.pinned (OpenSpec.ofChange officeAnySpec)

/-- ITS FALSE NEIGHBOUR: 'it returns false'. Refute it at one input. -/
def officeAnyWrong : ChangeSpec := { name := "officeAny", fn := fun _ => fun
  | [d1, d2, d3, d4, d5, d6, d7] => { results := [.lit (.bool false)], args := [d1, d2, d3, d4, d5, d6, d7] }
  | _ => none }
def OfficeAnyWrongFalsely : Prop := officeAnyRow.holds Try.pinned (OpenSpec.ofChange officeAnyWrong)

/-- 'palantypelaw05.OfficeNames': WHATEVER THE INPUT: true; the input reads as it did. -/
def officeNamesSpec : ChangeSpec := { name := "officeNames", fn := fun _ => fun
  | [] => { results := [.lit (.bool true)], args := [] }
  | _ => none }
def officeNamesRow : OpenClaim := { program := "ythpheknchikodaa", sum := "65b0c9a8a76636c761ab4b452f9665b9e110433c7022e1e093c756a51f36c279", func := "palantype/palantypelaw05.OfficeNames", spec := "officeNames", unfollowed := true, recurses := true, plainKeys := false, apart := false }
def OfficeNamesSaid : Prop := officeNamesRow.holds Try.pinned (OpenSpec.ofChange officeNamesSpec)

/-- ITS FALSE NEIGHBOUR: 'it returns false'. Refute it at one input. -/
def officeNamesWrong : ChangeSpec := { name := "officeNames", fn := fun _ => fun
  | [] => { results := [.lit (.bool false)], args := [] }
  | _ => none }
def OfficeNamesWrongFalsely : Prop := officeNamesRow.holds Try.pinned (OpenSpec.ofChange officeNamesWrong)

/- THE SECOND FORM. 'bulk': how many values and letters a reading holds, each counted each time it is reached (what is shared counts as often as it is met; a slice's spare places count too). A statement '..UptoSaid' is the law's where the arguments, and the package variables that the reading takes, are together of bulk at most 1048576: NARROWER than '..Said'. Prove '..Said' where nothing that the law and all that it calls make is longer than what came in: it says more and counts as full. Else prove '..UptoSaid'. A law counts once. -/
mutual
def uptoBulk {H : Type} : DataW H → Nat
  | .lit (.string bytes) => bytes.length + 1
  | .lit _ => 1
  | .nil => 1
  | .ptr d => uptoBulk d + 1
  | .slice elems spare => uptoBulkAll elems + uptoBulkAll spare + 1
  | .agg parts => uptoBulkAll parts + 1
  | .iface _ d => uptoBulk d + 1
  | .map entries => uptoBulkEntries entries + 1
  | .held _ => 1
def uptoBulkAll {H : Type} : List (DataW H) → Nat
  | [] => 0
  | d :: r => uptoBulk d + uptoBulkAll r
def uptoBulkEntries {H : Type} : List (Lit × DataW H) → Nat
  | [] => 0
  | x :: r => uptoBulkEntry x + uptoBulkEntries r
def uptoBulkEntry {H : Type} : Lit × DataW H → Nat
  | (.string bytes, d) => bytes.length + uptoBulk d + 1
  | (_, d) => uptoBulk d + 1
 end
def uptoSmall : (H : Type) → List (DataW H) → Bool := fun _ ds => decide (uptoBulkAll ds ≤ 1048576)
def OpenSpec.upto (s : _root_.Go.ChangeSpec) : _root_.Go.OpenSpec := { _root_.Go.OpenSpec.ofChange s with cond := some uptoSmall }

/-- 'palantypelaw05.OfficeHolds', WHERE WHAT IT READS IS OF BULK AT MOST 1048576: true; the input reads as it did. -/
def officeHoldsUptoRow : OpenClaim := { program := "ythpheknchikodaa", sum := "65b0c9a8a76636c761ab4b452f9665b9e110433c7022e1e093c756a51f36c279", func := "palantype/palantypelaw05.OfficeHolds", spec := "officeHolds", unfollowed := true, recurses := true, plainKeys := false, apart := false, narrowed := true }
def OfficeHoldsUptoSaid : Prop := officeHoldsUptoRow.holds Try.pinned (OpenSpec.upto officeHoldsSpec)

/-- 'palantypelaw05.OfficeStyles', WHERE WHAT IT READS IS OF BULK AT MOST 1048576: true; the input reads as it did. -/
def officeStylesUptoRow : OpenClaim := { program := "ythpheknchikodaa", sum := "65b0c9a8a76636c761ab4b452f9665b9e110433c7022e1e093c756a51f36c279", func := "palantype/palantypelaw05.OfficeStyles", spec := "officeStyles", unfollowed := true, recurses := true, plainKeys := false, apart := false, narrowed := true }
def OfficeStylesUptoSaid : Prop := officeStylesUptoRow.holds Try.pinned (OpenSpec.upto officeStylesSpec)

/-- 'palantypelaw05.OfficeEnds', WHERE WHAT IT READS IS OF BULK AT MOST 1048576: true; the input reads as it did. -/
def officeEndsUptoRow : OpenClaim := { program := "ythpheknchikodaa", sum := "65b0c9a8a76636c761ab4b452f9665b9e110433c7022e1e093c756a51f36c279", func := "palantype/palantypelaw05.OfficeEnds", spec := "officeEnds", unfollowed := true, recurses := true, plainKeys := false, apart := false, narrowed := true }
def OfficeEndsUptoSaid : Prop := officeEndsUptoRow.holds Try.pinned (OpenSpec.upto officeEndsSpec)

/-- 'palantypelaw05.OfficeOne', WHERE WHAT IT READS IS OF BULK AT MOST 1048576: true; the input reads as it did. -/
def officeOneUptoRow : OpenClaim := { program := "ythpheknchikodaa", sum := "65b0c9a8a76636c761ab4b452f9665b9e110433c7022e1e093c756a51f36c279", func := "palantype/palantypelaw05.OfficeOne", spec := "officeOne", unfollowed := true, recurses := true, plainKeys := false, apart := false, narrowed := true }
def OfficeOneUptoSaid : Prop := officeOneUptoRow.holds Try.pinned (OpenSpec.upto officeOneSpec)

/-- 'palantypelaw05.OfficeKnown', WHERE WHAT IT READS IS OF BULK AT MOST 1048576: true; the input reads as it did. -/
def officeKnownUptoRow : OpenClaim := { program := "ythpheknchikodaa", sum := "65b0c9a8a76636c761ab4b452f9665b9e110433c7022e1e093c756a51f36c279", func := "palantype/palantypelaw05.OfficeKnown", spec := "officeKnown", unfollowed := true, recurses := true, plainKeys := false, apart := false, narrowed := true }
def OfficeKnownUptoSaid : Prop := officeKnownUptoRow.holds Try.pinned (OpenSpec.upto officeKnownSpec)

/-- 'palantypelaw05.OfficePairs', WHERE WHAT IT READS IS OF BULK AT MOST 1048576: true; the input reads as it did. -/
def officePairsUptoRow : OpenClaim := { program := "ythpheknchikodaa", sum := "65b0c9a8a76636c761ab4b452f9665b9e110433c7022e1e093c756a51f36c279", func := "palantype/palantypelaw05.OfficePairs", spec := "officePairs", unfollowed := true, recurses := true, plainKeys := false, apart := false, narrowed := true }
def OfficePairsUptoSaid : Prop := officePairsUptoRow.holds Try.pinned (OpenSpec.upto officePairsSpec)

/-- 'palantypelaw05.OfficeClashes', WHERE WHAT IT READS IS OF BULK AT MOST 1048576: true; the input reads as it did. -/
def officeClashesUptoRow : OpenClaim := { program := "ythpheknchikodaa", sum := "65b0c9a8a76636c761ab4b452f9665b9e110433c7022e1e093c756a51f36c279", func := "palantype/palantypelaw05.OfficeClashes", spec := "officeClashes", unfollowed := true, recurses := true, plainKeys := false, apart := false, narrowed := true }
def OfficeClashesUptoSaid : Prop := officeClashesUptoRow.holds Try.pinned (OpenSpec.upto officeClashesSpec)

/-- 'palantypelaw05.OfficeQuotes', WHERE WHAT IT READS IS OF BULK AT MOST 1048576: true; the input reads as it did. -/
def officeQuotesUptoRow : OpenClaim := { program := "ythpheknchikodaa", sum := "65b0c9a8a76636c761ab4b452f9665b9e110433c7022e1e093c756a51f36c279", func := "palantype/palantypelaw05.OfficeQuotes", spec := "officeQuotes", unfollowed := true, recurses := true, plainKeys := false, apart := false, narrowed := true }
def OfficeQuotesUptoSaid : Prop := officeQuotesUptoRow.holds Try.pinned (OpenSpec.upto officeQuotesSpec)

/-- 'palantypelaw05.OfficeQuoted', WHERE WHAT IT READS IS OF BULK AT MOST 1048576: true; the input reads as it did. -/
def officeQuotedUptoRow : OpenClaim := { program := "ythpheknchikodaa", sum := "65b0c9a8a76636c761ab4b452f9665b9e110433c7022e1e093c756a51f36c279", func := "palantype/palantypelaw05.OfficeQuoted", spec := "officeQuoted", unfollowed := true, recurses := true, plainKeys := false, apart := false, narrowed := true }
def OfficeQuotedUptoSaid : Prop := officeQuotedUptoRow.holds Try.pinned (OpenSpec.upto officeQuotedSpec)

/-- 'palantypelaw05.OfficeStays', WHERE WHAT IT READS IS OF BULK AT MOST 1048576: true; the input reads as it did. -/
def officeStaysUptoRow : OpenClaim := { program := "ythpheknchikodaa", sum := "65b0c9a8a76636c761ab4b452f9665b9e110433c7022e1e093c756a51f36c279", func := "palantype/palantypelaw05.OfficeStays", spec := "officeStays", unfollowed := true, recurses := true, plainKeys := false, apart := false, narrowed := true }
def OfficeStaysUptoSaid : Prop := officeStaysUptoRow.holds Try.pinned (OpenSpec.upto officeStaysSpec)

/-- 'palantypelaw05.OfficeCalls', WHERE WHAT IT READS IS OF BULK AT MOST 1048576: true; the input reads as it did. -/
def officeCallsUptoRow : OpenClaim := { program := "ythpheknchikodaa", sum := "65b0c9a8a76636c761ab4b452f9665b9e110433c7022e1e093c756a51f36c279", func := "palantype/palantypelaw05.OfficeCalls", spec := "officeCalls", unfollowed := true, recurses := true, plainKeys := false, apart := false, narrowed := true }
def OfficeCallsUptoSaid : Prop := officeCallsUptoRow.holds Try.pinned (OpenSpec.upto officeCallsSpec)

/-- 'palantypelaw05.OfficeLearns', WHERE WHAT IT READS IS OF BULK AT MOST 1048576: true; the input reads as it did. -/
def officeLearnsUptoRow : OpenClaim := { program := "ythpheknchikodaa", sum := "65b0c9a8a76636c761ab4b452f9665b9e110433c7022e1e093c756a51f36c279", func := "palantype/palantypelaw05.OfficeLearns", spec := "officeLearns", unfollowed := true, recurses := true, plainKeys := false, apart := false, narrowed := true }
def OfficeLearnsUptoSaid : Prop := officeLearnsUptoRow.holds Try.pinned (OpenSpec.upto officeLearnsSpec)

/-- 'palantypelaw05.OfficeAny', WHERE WHAT IT READS IS OF BULK AT MOST 1048576: true; the input reads as it did. -/
def officeAnyUptoRow : OpenClaim := { program := "ythpheknchikodaa", sum := "65b0c9a8a76636c761ab4b452f9665b9e110433c7022e1e093c756a51f36c279", func := "palantype/palantypelaw05.OfficeAny", spec := "officeAny", unfollowed := true, recurses := true, plainKeys := false, apart := false, narrowed := true }
def OfficeAnyUptoSaid : Prop := officeAnyUptoRow.holds Try.pinned (OpenSpec.upto officeAnySpec)

/-- 'palantypelaw05.OfficeNames', WHERE WHAT IT READS IS OF BULK AT MOST 1048576: true; the input reads as it did. -/
def officeNamesUptoRow : OpenClaim := { program := "ythpheknchikodaa", sum := "65b0c9a8a76636c761ab4b452f9665b9e110433c7022e1e093c756a51f36c279", func := "palantype/palantypelaw05.OfficeNames", spec := "officeNames", unfollowed := true, recurses := true, plainKeys := false, apart := false, narrowed := true }
def OfficeNamesUptoSaid : Prop := officeNamesUptoRow.holds Try.pinned (OpenSpec.upto officeNamesSpec)

end Rows
end Go.Proofs.Ythpheknchikodaa
