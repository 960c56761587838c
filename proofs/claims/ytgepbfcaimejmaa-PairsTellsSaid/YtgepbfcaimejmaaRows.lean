/-
  No cell of these rows narrows 'for every input' (looked for: loops, veiled, ifaces, maps, wideKeys, modest, calm, conditions, laid).
  DERIVED. THE GIVEN ROWS OF THIS SEAT. 10 by the template 'for every input the law returns true; each argument reads behind the call as it read before'; 0 by the template 'total and deterministic' (their statements: YtgepbfcaimejmaaTotals.lean).
  GIVEN WITH THE SEED: the statements are not yours to turn. If you find one false, say at which input.
  Laid BY PROGRAM, IN A SANDBOX (cutbox-rows.mjs): the forced cells as the released guide's own fill.sh prints them over the translation c77cb9ff2d6169d1… (all of the seat's roots in one cut). By AI agents, Wed Nov 11 2026. No macro, syntax, notation, axiom, sorry.
-/
import Derived.Test.YtgepbfcaimejmaaChecked
import GoSem.Claim
import GoSem.ClaimJoined
import GoSem.ClaimMapViews
import Derived.JoinedTies
import Derived.KernelRfl
namespace Go.Proofs.Ytgepbfcaimejmaa
/- THE CELL 'sum', in the pinned program and in every row, IS THE sha256 OF THE DUMP (.gsa) THAT YtgepbfcaimejmaaProg.lean LOADS. Nothing in Lean hashes anything: it is a label: what it is worth is what the hold of that sum in a sandbox is worth. -/
noncomputable def Try.pinned : Pinned := { name := "ytgepbfcaimejmaa", sum := "c77cb9ff2d6169d1d2afeb0b5d8bca49a68ee2c01e110568b188c7b81961cc6e", checked := Try.checked }
namespace Rows
def none {H : Type} : Left H := { results := [], args := [] }

/-- 'croftlaw34.PolyTurns': WHATEVER THE INPUT: true; the input reads as it did. -/
def polyTurnsSpec : ChangeSpec := { name := "polyTurns", fn := fun _ => fun
  | [d1, d2, d3] => { results := [.lit (.bool true)], args := [d1, d2, d3] }
  | _ => none }
def polyTurnsRow : OpenClaim := { program := "ytgepbfcaimejmaa", sum := "c77cb9ff2d6169d1d2afeb0b5d8bca49a68ee2c01e110568b188c7b81961cc6e", func := "croft/croftlaw34.PolyTurns", spec := "polyTurns", inPlace := ["math/bits.Add64", "math/bits.Sub64"], apart := false }
def PolyTurnsSaid : Prop := polyTurnsRow.holds Try.pinned (OpenSpec.ofChange polyTurnsSpec)

/-- ITS FALSE NEIGHBOUR: 'it returns false'. Refute it at one input. -/
def polyTurnsWrong : ChangeSpec := { name := "polyTurns", fn := fun _ => fun
  | [d1, d2, d3] => { results := [.lit (.bool false)], args := [d1, d2, d3] }
  | _ => none }
def PolyTurnsWrongFalsely : Prop := polyTurnsRow.holds Try.pinned (OpenSpec.ofChange polyTurnsWrong)

/-- 'croftlaw34.PolyCrosses': WHATEVER THE INPUT: true; the input reads as it did. -/
def polyCrossesSpec : ChangeSpec := { name := "polyCrosses", fn := fun _ => fun
  | [d1, d2, d3, d4] => { results := [.lit (.bool true)], args := [d1, d2, d3, d4] }
  | _ => none }
def polyCrossesRow : OpenClaim := { program := "ytgepbfcaimejmaa", sum := "c77cb9ff2d6169d1d2afeb0b5d8bca49a68ee2c01e110568b188c7b81961cc6e", func := "croft/croftlaw34.PolyCrosses", spec := "polyCrosses", inPlace := ["math/bits.Add64", "math/bits.Sub64"], apart := false }
def PolyCrossesSaid : Prop := polyCrossesRow.holds Try.pinned (OpenSpec.ofChange polyCrossesSpec)

/-- ITS FALSE NEIGHBOUR: 'it returns false'. Refute it at one input. -/
def polyCrossesWrong : ChangeSpec := { name := "polyCrosses", fn := fun _ => fun
  | [d1, d2, d3, d4] => { results := [.lit (.bool false)], args := [d1, d2, d3, d4] }
  | _ => none }
def PolyCrossesWrongFalsely : Prop := polyCrossesRow.holds Try.pinned (OpenSpec.ofChange polyCrossesWrong)

/-- 'croftlaw36.PairsTells': WHATEVER THE INPUT: true; the input reads as it did. -/
def pairsTellsSpec : ChangeSpec := { name := "pairsTells", fn := fun _ => fun
  | [d] => { results := [.lit (.bool true)], args := [d] }
  | _ => none }
def pairsTellsRow : OpenClaim := { program := "ytgepbfcaimejmaa", sum := "c77cb9ff2d6169d1d2afeb0b5d8bca49a68ee2c01e110568b188c7b81961cc6e", func := "croft/croftlaw36.PairsTells", spec := "pairsTells", inPlace := ["math/bits.Add64"], apart := false }
def PairsTellsSaid : Prop := pairsTellsRow.holds Try.pinned (OpenSpec.ofChange pairsTellsSpec)

/-- ITS FALSE NEIGHBOUR: 'it returns false'. Refute it at one input. -/
def pairsTellsWrong : ChangeSpec := { name := "pairsTells", fn := fun _ => fun
  | [d] => { results := [.lit (.bool false)], args := [d] }
  | _ => none }
def PairsTellsWrongFalsely : Prop := pairsTellsRow.holds Try.pinned (OpenSpec.ofChange pairsTellsWrong)

/-- 'croftlaw36.PairsJoins': WHATEVER THE INPUT: true; the input reads as it did. -/
def pairsJoinsSpec : ChangeSpec := { name := "pairsJoins", fn := fun _ => fun
  | [d1, d2] => { results := [.lit (.bool true)], args := [d1, d2] }
  | _ => none }
def pairsJoinsRow : OpenClaim := { program := "ytgepbfcaimejmaa", sum := "c77cb9ff2d6169d1d2afeb0b5d8bca49a68ee2c01e110568b188c7b81961cc6e", func := "croft/croftlaw36.PairsJoins", spec := "pairsJoins", inPlace := ["math/bits.Add64"], apart := false }
def PairsJoinsSaid : Prop := pairsJoinsRow.holds Try.pinned (OpenSpec.ofChange pairsJoinsSpec)

/-- ITS FALSE NEIGHBOUR: 'it returns false'. Refute it at one input. -/
def pairsJoinsWrong : ChangeSpec := { name := "pairsJoins", fn := fun _ => fun
  | [d1, d2] => { results := [.lit (.bool false)], args := [d1, d2] }
  | _ => none }
def PairsJoinsWrongFalsely : Prop := pairsJoinsRow.holds Try.pinned (OpenSpec.ofChange pairsJoinsWrong)

/-- 'croftlaw36.PairsNear': WHATEVER THE INPUT: true; the input reads as it did. -/
def pairsNearSpec : ChangeSpec := { name := "pairsNear", fn := fun _ => fun
  | [d] => { results := [.lit (.bool true)], args := [d] }
  | _ => none }
def pairsNearRow : OpenClaim := { program := "ytgepbfcaimejmaa", sum := "c77cb9ff2d6169d1d2afeb0b5d8bca49a68ee2c01e110568b188c7b81961cc6e", func := "croft/croftlaw36.PairsNear", spec := "pairsNear", inPlace := ["math/bits.Add64"], apart := false }
def PairsNearSaid : Prop := pairsNearRow.holds Try.pinned (OpenSpec.ofChange pairsNearSpec)

/-- ITS FALSE NEIGHBOUR: 'it returns false'. Refute it at one input. -/
def pairsNearWrong : ChangeSpec := { name := "pairsNear", fn := fun _ => fun
  | [d] => { results := [.lit (.bool false)], args := [d] }
  | _ => none }
def PairsNearWrongFalsely : Prop := pairsNearRow.holds Try.pinned (OpenSpec.ofChange pairsNearWrong)

/-- 'croftlaw34.PolyWithin': WHATEVER THE INPUT: true; the input reads as it did. -/
def polyWithinSpec : ChangeSpec := { name := "polyWithin", fn := fun _ => fun
  | [d1, d2] => { results := [.lit (.bool true)], args := [d1, d2] }
  | _ => none }
def polyWithinRow : OpenClaim := { program := "ytgepbfcaimejmaa", sum := "c77cb9ff2d6169d1d2afeb0b5d8bca49a68ee2c01e110568b188c7b81961cc6e", func := "croft/croftlaw34.PolyWithin", spec := "polyWithin", inPlace := ["math/bits.Add64", "math/bits.Sub64"], unfollowed := true, recurses := true, apart := false }
def PolyWithinSaid : Prop := polyWithinRow.holds Try.pinned (OpenSpec.ofChange polyWithinSpec)

/-- ITS FALSE NEIGHBOUR: 'it returns false'. Refute it at one input. -/
def polyWithinWrong : ChangeSpec := { name := "polyWithin", fn := fun _ => fun
  | [d1, d2] => { results := [.lit (.bool false)], args := [d1, d2] }
  | _ => none }
def PolyWithinWrongFalsely : Prop := polyWithinRow.holds Try.pinned (OpenSpec.ofChange polyWithinWrong)

/-- 'croftlaw46.TrackStraight': WHATEVER THE INPUT: true; the input reads as it did. -/
def trackStraightSpec : ChangeSpec := { name := "trackStraight", fn := fun _ => fun
  | [d] => { results := [.lit (.bool true)], args := [d] }
  | _ => none }
def trackStraightRow : OpenClaim := { program := "ytgepbfcaimejmaa", sum := "c77cb9ff2d6169d1d2afeb0b5d8bca49a68ee2c01e110568b188c7b81961cc6e", func := "croft/croftlaw46.TrackStraight", spec := "trackStraight", inPlace := ["math/bits.Add64", "math/bits.Sub64"], unfollowed := true, recurses := true, apart := false }
def TrackStraightSaid : Prop := trackStraightRow.holds Try.pinned (OpenSpec.ofChange trackStraightSpec)

/-- ITS FALSE NEIGHBOUR: 'it returns false'. Refute it at one input. -/
def trackStraightWrong : ChangeSpec := { name := "trackStraight", fn := fun _ => fun
  | [d] => { results := [.lit (.bool false)], args := [d] }
  | _ => none }
def TrackStraightWrongFalsely : Prop := trackStraightRow.holds Try.pinned (OpenSpec.ofChange trackStraightWrong)

/-- 'croftlaw46.TrackThins': WHATEVER THE INPUT: true; the input reads as it did. -/
def trackThinsSpec : ChangeSpec := { name := "trackThins", fn := fun _ => fun
  | [d1, d2] => { results := [.lit (.bool true)], args := [d1, d2] }
  | _ => none }
def trackThinsRow : OpenClaim := { program := "ytgepbfcaimejmaa", sum := "c77cb9ff2d6169d1d2afeb0b5d8bca49a68ee2c01e110568b188c7b81961cc6e", func := "croft/croftlaw46.TrackThins", spec := "trackThins", inPlace := ["math/bits.Add64", "math/bits.Sub64"], unfollowed := true, recurses := true, apart := false }
def TrackThinsSaid : Prop := trackThinsRow.holds Try.pinned (OpenSpec.ofChange trackThinsSpec)

/-- ITS FALSE NEIGHBOUR: 'it returns false'. Refute it at one input. -/
def trackThinsWrong : ChangeSpec := { name := "trackThins", fn := fun _ => fun
  | [d1, d2] => { results := [.lit (.bool false)], args := [d1, d2] }
  | _ => none }
def TrackThinsWrongFalsely : Prop := trackThinsRow.holds Try.pinned (OpenSpec.ofChange trackThinsWrong)

/-- 'croftlaw46.TrackZero': WHATEVER THE INPUT: true; the input reads as it did. -/
def trackZeroSpec : ChangeSpec := { name := "trackZero", fn := fun _ => fun
  | [d] => { results := [.lit (.bool true)], args := [d] }
  | _ => none }
def trackZeroRow : OpenClaim := { program := "ytgepbfcaimejmaa", sum := "c77cb9ff2d6169d1d2afeb0b5d8bca49a68ee2c01e110568b188c7b81961cc6e", func := "croft/croftlaw46.TrackZero", spec := "trackZero", inPlace := ["math/bits.Add64", "math/bits.Sub64"], unfollowed := true, recurses := true, apart := false }
def TrackZeroSaid : Prop := trackZeroRow.holds Try.pinned (OpenSpec.ofChange trackZeroSpec)

/-- ITS FALSE NEIGHBOUR: 'it returns false'. Refute it at one input. -/
def trackZeroWrong : ChangeSpec := { name := "trackZero", fn := fun _ => fun
  | [d] => { results := [.lit (.bool false)], args := [d] }
  | _ => none }
def TrackZeroWrongFalsely : Prop := trackZeroRow.holds Try.pinned (OpenSpec.ofChange trackZeroWrong)

/-- 'croftlaw46.TrackLegs': WHATEVER THE INPUT: true; the input reads as it did. -/
def trackLegsSpec : ChangeSpec := { name := "trackLegs", fn := fun _ => fun
  | [d] => { results := [.lit (.bool true)], args := [d] }
  | _ => none }
def trackLegsRow : OpenClaim := { program := "ytgepbfcaimejmaa", sum := "c77cb9ff2d6169d1d2afeb0b5d8bca49a68ee2c01e110568b188c7b81961cc6e", func := "croft/croftlaw46.TrackLegs", spec := "trackLegs", inPlace := ["math/bits.Add64", "math/bits.Sub64"], unfollowed := true, recurses := true, apart := false }
def TrackLegsSaid : Prop := trackLegsRow.holds Try.pinned (OpenSpec.ofChange trackLegsSpec)

/-- ITS FALSE NEIGHBOUR: 'it returns false'. Refute it at one input. -/
def trackLegsWrong : ChangeSpec := { name := "trackLegs", fn := fun _ => fun
  | [d] => { results := [.lit (.bool false)], args := [d] }
  | _ => none }
def TrackLegsWrongFalsely : Prop := trackLegsRow.holds Try.pinned (OpenSpec.ofChange trackLegsWrong)

/- THE SECOND FORM. 'bulk': how many values and letters a reading holds, each counted each time it is reached (what is shared counts as often as it is met; a slice's spare places count too). A statement '..UptoSaid' is the law's where the arguments, and the package variables that the reading takes, are together of bulk at most 1048576: NARROWER than '..Said'. Prove '..Said' where nothing that the law and all that it calls make is longer than what came in: it says more and counts as full. Else prove '..UptoSaid'. A law counts once. -/
mutual
def uptoBulk {H : Type} : DataW H → Nat
  | .lit (.string bytes) => bytes.length + 1
  | .lit _ => 1
  | .nil => 1
  | .ptr d => uptoBulk d + 1
  | .slice elems spare => uptoBulkAll elems + uptoBulkAll spare + 1
  | .agg parts => uptoBulkAll parts + 1
  | .iface _ d => uptoBulk d + 1
  | .map entries => uptoBulkEntries entries + 1
  | .held _ => 1
def uptoBulkAll {H : Type} : List (DataW H) → Nat
  | [] => 0
  | d :: r => uptoBulk d + uptoBulkAll r
def uptoBulkEntries {H : Type} : List (Lit × DataW H) → Nat
  | [] => 0
  | x :: r => uptoBulkEntry x + uptoBulkEntries r
def uptoBulkEntry {H : Type} : Lit × DataW H → Nat
  | (.string bytes, d) => bytes.length + uptoBulk d + 1
  | (_, d) => uptoBulk d + 1
 end
def uptoSmall : (H : Type) → List (DataW H) → Bool := fun _ ds => decide (uptoBulkAll ds ≤ 1048576)
def OpenSpec.upto (s : _root_.Go.ChangeSpec) : _root_.Go.OpenSpec := { _root_.Go.OpenSpec.ofChange s with cond := some uptoSmall }

/-- 'croftlaw34.PolyTurns', WHERE WHAT IT READS IS OF BULK AT MOST 1048576: true; the input reads as it did. -/
def polyTurnsUptoRow : OpenClaim := { program := "ytgepbfcaimejmaa", sum := "c77cb9ff2d6169d1d2afeb0b5d8bca49a68ee2c01e110568b188c7b81961cc6e", func := "croft/croftlaw34.PolyTurns", spec := "polyTurns", inPlace := ["math/bits.Add64", "math/bits.Sub64"], apart := false, narrowed := true }
def PolyTurnsUptoSaid : Prop := polyTurnsUptoRow.holds Try.pinned (OpenSpec.upto polyTurnsSpec)

/-- 'croftlaw34.PolyCrosses', WHERE WHAT IT READS IS OF BULK AT MOST 1048576: true; the input reads as it did. -/
def polyCrossesUptoRow : OpenClaim := { program := "ytgepbfcaimejmaa", sum := "c77cb9ff2d6169d1d2afeb0b5d8bca49a68ee2c01e110568b188c7b81961cc6e", func := "croft/croftlaw34.PolyCrosses", spec := "polyCrosses", inPlace := ["math/bits.Add64", "math/bits.Sub64"], apart := false, narrowed := true }
def PolyCrossesUptoSaid : Prop := polyCrossesUptoRow.holds Try.pinned (OpenSpec.upto polyCrossesSpec)

/-- 'croftlaw36.PairsTells', WHERE WHAT IT READS IS OF BULK AT MOST 1048576: true; the input reads as it did. -/
def pairsTellsUptoRow : OpenClaim := { program := "ytgepbfcaimejmaa", sum := "c77cb9ff2d6169d1d2afeb0b5d8bca49a68ee2c01e110568b188c7b81961cc6e", func := "croft/croftlaw36.PairsTells", spec := "pairsTells", inPlace := ["math/bits.Add64"], apart := false, narrowed := true }
def PairsTellsUptoSaid : Prop := pairsTellsUptoRow.holds Try.pinned (OpenSpec.upto pairsTellsSpec)

/-- 'croftlaw36.PairsJoins', WHERE WHAT IT READS IS OF BULK AT MOST 1048576: true; the input reads as it did. -/
def pairsJoinsUptoRow : OpenClaim := { program := "ytgepbfcaimejmaa", sum := "c77cb9ff2d6169d1d2afeb0b5d8bca49a68ee2c01e110568b188c7b81961cc6e", func := "croft/croftlaw36.PairsJoins", spec := "pairsJoins", inPlace := ["math/bits.Add64"], apart := false, narrowed := true }
def PairsJoinsUptoSaid : Prop := pairsJoinsUptoRow.holds Try.pinned (OpenSpec.upto pairsJoinsSpec)

/-- 'croftlaw36.PairsNear', WHERE WHAT IT READS IS OF BULK AT MOST 1048576: true; the input reads as it did. -/
def pairsNearUptoRow : OpenClaim := { program := "ytgepbfcaimejmaa", sum := "c77cb9ff2d6169d1d2afeb0b5d8bca49a68ee2c01e110568b188c7b81961cc6e", func := "croft/croftlaw36.PairsNear", spec := "pairsNear", inPlace := ["math/bits.Add64"], apart := false, narrowed := true }
def PairsNearUptoSaid : Prop := pairsNearUptoRow.holds Try.pinned (OpenSpec.upto pairsNearSpec)

/-- 'croftlaw34.PolyWithin', WHERE WHAT IT READS IS OF BULK AT MOST 1048576: true; the input reads as it did. -/
def polyWithinUptoRow : OpenClaim := { program := "ytgepbfcaimejmaa", sum := "c77cb9ff2d6169d1d2afeb0b5d8bca49a68ee2c01e110568b188c7b81961cc6e", func := "croft/croftlaw34.PolyWithin", spec := "polyWithin", inPlace := ["math/bits.Add64", "math/bits.Sub64"], unfollowed := true, recurses := true, apart := false, narrowed := true }
def PolyWithinUptoSaid : Prop := polyWithinUptoRow.holds Try.pinned (OpenSpec.upto polyWithinSpec)

/-- 'croftlaw46.TrackStraight', WHERE WHAT IT READS IS OF BULK AT MOST 1048576: true; the input reads as it did. -/
def trackStraightUptoRow : OpenClaim := { program := "ytgepbfcaimejmaa", sum := "c77cb9ff2d6169d1d2afeb0b5d8bca49a68ee2c01e110568b188c7b81961cc6e", func := "croft/croftlaw46.TrackStraight", spec := "trackStraight", inPlace := ["math/bits.Add64", "math/bits.Sub64"], unfollowed := true, recurses := true, apart := false, narrowed := true }
def TrackStraightUptoSaid : Prop := trackStraightUptoRow.holds Try.pinned (OpenSpec.upto trackStraightSpec)

/-- 'croftlaw46.TrackThins', WHERE WHAT IT READS IS OF BULK AT MOST 1048576: true; the input reads as it did. -/
def trackThinsUptoRow : OpenClaim := { program := "ytgepbfcaimejmaa", sum := "c77cb9ff2d6169d1d2afeb0b5d8bca49a68ee2c01e110568b188c7b81961cc6e", func := "croft/croftlaw46.TrackThins", spec := "trackThins", inPlace := ["math/bits.Add64", "math/bits.Sub64"], unfollowed := true, recurses := true, apart := false, narrowed := true }
def TrackThinsUptoSaid : Prop := trackThinsUptoRow.holds Try.pinned (OpenSpec.upto trackThinsSpec)

/-- 'croftlaw46.TrackZero', WHERE WHAT IT READS IS OF BULK AT MOST 1048576: true; the input reads as it did. -/
def trackZeroUptoRow : OpenClaim := { program := "ytgepbfcaimejmaa", sum := "c77cb9ff2d6169d1d2afeb0b5d8bca49a68ee2c01e110568b188c7b81961cc6e", func := "croft/croftlaw46.TrackZero", spec := "trackZero", inPlace := ["math/bits.Add64", "math/bits.Sub64"], unfollowed := true, recurses := true, apart := false, narrowed := true }
def TrackZeroUptoSaid : Prop := trackZeroUptoRow.holds Try.pinned (OpenSpec.upto trackZeroSpec)

/-- 'croftlaw46.TrackLegs', WHERE WHAT IT READS IS OF BULK AT MOST 1048576: true; the input reads as it did. -/
def trackLegsUptoRow : OpenClaim := { program := "ytgepbfcaimejmaa", sum := "c77cb9ff2d6169d1d2afeb0b5d8bca49a68ee2c01e110568b188c7b81961cc6e", func := "croft/croftlaw46.TrackLegs", spec := "trackLegs", inPlace := ["math/bits.Add64", "math/bits.Sub64"], unfollowed := true, recurses := true, apart := false, narrowed := true }
def TrackLegsUptoSaid : Prop := trackLegsUptoRow.holds Try.pinned (OpenSpec.upto trackLegsSpec)

end Rows
end Go.Proofs.Ytgepbfcaimejmaa
