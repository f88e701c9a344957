/-
  No cell of these rows narrows 'for every input' (looked for: loops, veiled, ifaces, maps, wideKeys, modest, calm, conditions, laid).
  DERIVED. THE GIVEN ROWS OF THIS SEAT. 26 by the template 'for every input the law returns true; each argument reads behind the call as it read before'; 0 by the template 'total and deterministic' (their statements: YtlmcefhpnfoahaaTotals.lean).
  GIVEN WITH THE SEED: the statements are not yours to turn. If you find one false, say at which input.
  Laid BY PROGRAM, IN A SANDBOX (cutbox-rows.mjs): the forced cells as the released guide's own fill.sh prints them over the translation 4e86e6015813beb3… (all of the seat's roots in one cut). By AI agents, Wed Nov 11 2026. No macro, syntax, notation, axiom, sorry.
-/
import Derived.Test.YtlmcefhpnfoahaaChecked
import GoSem.Claim
import GoSem.ClaimJoined
import GoSem.ClaimMapViews
import Derived.JoinedTies
import Derived.KernelRfl
namespace Go.Proofs.Ytlmcefhpnfoahaa
/- THE CELL 'sum', in the pinned program and in every row, IS THE sha256 OF THE DUMP (.gsa) THAT YtlmcefhpnfoahaaProg.lean LOADS. Nothing in Lean hashes anything: it is a label: what it is worth is what the hold of that sum in a sandbox is worth. -/
noncomputable def Try.pinned : Pinned := { name := "ytlmcefhpnfoahaa", sum := "4e86e6015813beb38f8915d698a4dcb21527283c6e0782f3a81d7ab332815c68", checked := Try.checked }
namespace Rows
def none {H : Type} : Left H := { results := [], args := [] }

/-- 'tidelinelaw03.KeyAppends': WHATEVER THE INPUT: true; the input reads as it did. -/
def keyAppendsSpec : ChangeSpec := { name := "keyAppends", fn := fun _ => fun
  | [d1, d2] => { results := [.lit (.bool true)], args := [d1, d2] }
  | _ => none }
def keyAppendsRow : OpenClaim := { program := "ytlmcefhpnfoahaa", sum := "4e86e6015813beb38f8915d698a4dcb21527283c6e0782f3a81d7ab332815c68", func := "tideline/tidelinelaw03.KeyAppends", spec := "keyAppends", unfollowed := true, recurses := true, apart := false }
def KeyAppendsSaid : Prop := keyAppendsRow.holds Try.pinned (OpenSpec.ofChange keyAppendsSpec)

/-- ITS FALSE NEIGHBOUR: 'it returns false'. Refute it at one input. -/
def keyAppendsWrong : ChangeSpec := { name := "keyAppends", fn := fun _ => fun
  | [d1, d2] => { results := [.lit (.bool false)], args := [d1, d2] }
  | _ => none }
def KeyAppendsWrongFalsely : Prop := keyAppendsRow.holds Try.pinned (OpenSpec.ofChange keyAppendsWrong)

/-- 'tidelinelaw03.KeyOrders': WHATEVER THE INPUT: true; the input reads as it did. -/
def keyOrdersSpec : ChangeSpec := { name := "keyOrders", fn := fun _ => fun
  | [d1, d2] => { results := [.lit (.bool true)], args := [d1, d2] }
  | _ => none }
def keyOrdersRow : OpenClaim := { program := "ytlmcefhpnfoahaa", sum := "4e86e6015813beb38f8915d698a4dcb21527283c6e0782f3a81d7ab332815c68", func := "tideline/tidelinelaw03.KeyOrders", spec := "keyOrders", unfollowed := true, recurses := true, apart := false }
def KeyOrdersSaid : Prop := keyOrdersRow.holds Try.pinned (OpenSpec.ofChange keyOrdersSpec)

/-- ITS FALSE NEIGHBOUR: 'it returns false'. Refute it at one input. -/
def keyOrdersWrong : ChangeSpec := { name := "keyOrders", fn := fun _ => fun
  | [d1, d2] => { results := [.lit (.bool false)], args := [d1, d2] }
  | _ => none }
def KeyOrdersWrongFalsely : Prop := keyOrdersRow.holds Try.pinned (OpenSpec.ofChange keyOrdersWrong)

/-- 'tidelinelaw03.KeyBack': WHATEVER THE INPUT: true; the input reads as it did. -/
def keyBackSpec : ChangeSpec := { name := "keyBack", fn := fun _ => fun
  | [d1, d2] => { results := [.lit (.bool true)], args := [d1, d2] }
  | _ => none }
def keyBackRow : OpenClaim := { program := "ytlmcefhpnfoahaa", sum := "4e86e6015813beb38f8915d698a4dcb21527283c6e0782f3a81d7ab332815c68", func := "tideline/tidelinelaw03.KeyBack", spec := "keyBack", unfollowed := true, recurses := true, apart := false }
def KeyBackSaid : Prop := keyBackRow.holds Try.pinned (OpenSpec.ofChange keyBackSpec)

/-- ITS FALSE NEIGHBOUR: 'it returns false'. Refute it at one input. -/
def keyBackWrong : ChangeSpec := { name := "keyBack", fn := fun _ => fun
  | [d1, d2] => { results := [.lit (.bool false)], args := [d1, d2] }
  | _ => none }
def KeyBackWrongFalsely : Prop := keyBackRow.holds Try.pinned (OpenSpec.ofChange keyBackWrong)

/-- 'tidelinelaw03.KeyKnown': WHATEVER THE INPUT: true; the input reads as it did. -/
def keyKnownSpec : ChangeSpec := { name := "keyKnown", fn := fun _ => fun
  | [] => { results := [.lit (.bool true)], args := [] }
  | _ => none }
def keyKnownRow : OpenClaim := { program := "ytlmcefhpnfoahaa", sum := "4e86e6015813beb38f8915d698a4dcb21527283c6e0782f3a81d7ab332815c68", func := "tideline/tidelinelaw03.KeyKnown", spec := "keyKnown", unfollowed := true, recurses := true, apart := false }
def KeyKnownSaid : Prop := keyKnownRow.holds Try.pinned (OpenSpec.ofChange keyKnownSpec)

/-- ITS FALSE NEIGHBOUR: 'it returns false'. Refute it at one input. -/
def keyKnownWrong : ChangeSpec := { name := "keyKnown", fn := fun _ => fun
  | [] => { results := [.lit (.bool false)], args := [] }
  | _ => none }
def KeyKnownWrongFalsely : Prop := keyKnownRow.holds Try.pinned (OpenSpec.ofChange keyKnownWrong)

/-- 'tidelinelaw03.KeyParses': WHATEVER THE INPUT: true; the input reads as it did. -/
def keyParsesSpec : ChangeSpec := { name := "keyParses", fn := fun _ => fun
  | [d] => { results := [.lit (.bool true)], args := [d] }
  | _ => none }
def keyParsesRow : OpenClaim := { program := "ytlmcefhpnfoahaa", sum := "4e86e6015813beb38f8915d698a4dcb21527283c6e0782f3a81d7ab332815c68", func := "tideline/tidelinelaw03.KeyParses", spec := "keyParses", unfollowed := true, recurses := true, apart := false }
def KeyParsesSaid : Prop := keyParsesRow.holds Try.pinned (OpenSpec.ofChange keyParsesSpec)

/-- ITS FALSE NEIGHBOUR: 'it returns false'. Refute it at one input. -/
def keyParsesWrong : ChangeSpec := { name := "keyParses", fn := fun _ => fun
  | [d] => { results := [.lit (.bool false)], args := [d] }
  | _ => none }
def KeyParsesWrongFalsely : Prop := keyParsesRow.holds Try.pinned (OpenSpec.ofChange keyParsesWrong)

/-- 'tidelinelaw03.KeyPrefix': WHATEVER THE INPUT: true; the input reads as it did. -/
def keyPrefixSpec : ChangeSpec := { name := "keyPrefix", fn := fun _ => fun
  | [d1, d2] => { results := [.lit (.bool true)], args := [d1, d2] }
  | _ => none }
def keyPrefixRow : OpenClaim := { program := "ytlmcefhpnfoahaa", sum := "4e86e6015813beb38f8915d698a4dcb21527283c6e0782f3a81d7ab332815c68", func := "tideline/tidelinelaw03.KeyPrefix", spec := "keyPrefix", unfollowed := true, recurses := true, apart := false }
def KeyPrefixSaid : Prop := keyPrefixRow.holds Try.pinned (OpenSpec.ofChange keyPrefixSpec)

/-- ITS FALSE NEIGHBOUR: 'it returns false'. Refute it at one input. -/
def keyPrefixWrong : ChangeSpec := { name := "keyPrefix", fn := fun _ => fun
  | [d1, d2] => { results := [.lit (.bool false)], args := [d1, d2] }
  | _ => none }
def KeyPrefixWrongFalsely : Prop := keyPrefixRow.holds Try.pinned (OpenSpec.ofChange keyPrefixWrong)

/-- 'tidelinelaw07.SegmentCuts': WHATEVER THE INPUT: true; the input reads as it did. -/
def segmentCutsSpec : ChangeSpec := { name := "segmentCuts", fn := fun _ => fun
  | [d1, d2, d3] => { results := [.lit (.bool true)], args := [d1, d2, d3] }
  | _ => none }
def segmentCutsRow : OpenClaim := { program := "ytlmcefhpnfoahaa", sum := "4e86e6015813beb38f8915d698a4dcb21527283c6e0782f3a81d7ab332815c68", func := "tideline/tidelinelaw07.SegmentCuts", spec := "segmentCuts", inPlace := ["internal/bytealg.Compare"], unfollowed := true, recurses := true, apart := false }
def SegmentCutsSaid : Prop := segmentCutsRow.holds Try.pinned (OpenSpec.ofChange segmentCutsSpec)

/-- ITS FALSE NEIGHBOUR: 'it returns false'. Refute it at one input. -/
def segmentCutsWrong : ChangeSpec := { name := "segmentCuts", fn := fun _ => fun
  | [d1, d2, d3] => { results := [.lit (.bool false)], args := [d1, d2, d3] }
  | _ => none }
def SegmentCutsWrongFalsely : Prop := segmentCutsRow.holds Try.pinned (OpenSpec.ofChange segmentCutsWrong)

/-- 'tidelinelaw04.RowPuts': WHATEVER THE INPUT: true; the input reads as it did. -/
def rowPutsSpec : ChangeSpec := { name := "rowPuts", fn := fun _ => fun
  | [d1, d2] => { results := [.lit (.bool true)], args := [d1, d2] }
  | _ => none }
def rowPutsRow : OpenClaim := { program := "ytlmcefhpnfoahaa", sum := "4e86e6015813beb38f8915d698a4dcb21527283c6e0782f3a81d7ab332815c68", func := "tideline/tidelinelaw04.RowPuts", spec := "rowPuts", unfollowed := true, recurses := true, apart := false }
def RowPutsSaid : Prop := rowPutsRow.holds Try.pinned (OpenSpec.ofChange rowPutsSpec)

/-- ITS FALSE NEIGHBOUR: 'it returns false'. Refute it at one input. -/
def rowPutsWrong : ChangeSpec := { name := "rowPuts", fn := fun _ => fun
  | [d1, d2] => { results := [.lit (.bool false)], args := [d1, d2] }
  | _ => none }
def RowPutsWrongFalsely : Prop := rowPutsRow.holds Try.pinned (OpenSpec.ofChange rowPutsWrong)

/-- 'tidelinelaw04.RowGets': WHATEVER THE INPUT: true; the input reads as it did. -/
def rowGetsSpec : ChangeSpec := { name := "rowGets", fn := fun _ => fun
  | [d1, d2] => { results := [.lit (.bool true)], args := [d1, d2] }
  | _ => none }
def rowGetsRow : OpenClaim := { program := "ytlmcefhpnfoahaa", sum := "4e86e6015813beb38f8915d698a4dcb21527283c6e0782f3a81d7ab332815c68", func := "tideline/tidelinelaw04.RowGets", spec := "rowGets", unfollowed := true, recurses := true, apart := false }
def RowGetsSaid : Prop := rowGetsRow.holds Try.pinned (OpenSpec.ofChange rowGetsSpec)

/-- ITS FALSE NEIGHBOUR: 'it returns false'. Refute it at one input. -/
def rowGetsWrong : ChangeSpec := { name := "rowGets", fn := fun _ => fun
  | [d1, d2] => { results := [.lit (.bool false)], args := [d1, d2] }
  | _ => none }
def RowGetsWrongFalsely : Prop := rowGetsRow.holds Try.pinned (OpenSpec.ofChange rowGetsWrong)

/-- 'tidelinelaw07.SegmentKnown': WHATEVER THE INPUT: true; the input reads as it did. -/
def segmentKnownSpec : ChangeSpec := { name := "segmentKnown", fn := fun _ => fun
  | [] => { results := [.lit (.bool true)], args := [] }
  | _ => none }
def segmentKnownRow : OpenClaim := { program := "ytlmcefhpnfoahaa", sum := "4e86e6015813beb38f8915d698a4dcb21527283c6e0782f3a81d7ab332815c68", func := "tideline/tidelinelaw07.SegmentKnown", spec := "segmentKnown", inPlace := ["internal/bytealg.Compare"], unfollowed := true, recurses := true, apart := false }
def SegmentKnownSaid : Prop := segmentKnownRow.holds Try.pinned (OpenSpec.ofChange segmentKnownSpec)

/-- ITS FALSE NEIGHBOUR: 'it returns false'. Refute it at one input. -/
def segmentKnownWrong : ChangeSpec := { name := "segmentKnown", fn := fun _ => fun
  | [] => { results := [.lit (.bool false)], args := [] }
  | _ => none }
def SegmentKnownWrongFalsely : Prop := segmentKnownRow.holds Try.pinned (OpenSpec.ofChange segmentKnownWrong)

/-- 'tidelinelaw04.RowBack': WHATEVER THE INPUT: true; the input reads as it did. -/
def rowBackSpec : ChangeSpec := { name := "rowBack", fn := fun _ => fun
  | [d1, d2, d3] => { results := [.lit (.bool true)], args := [d1, d2, d3] }
  | _ => none }
def rowBackRow : OpenClaim := { program := "ytlmcefhpnfoahaa", sum := "4e86e6015813beb38f8915d698a4dcb21527283c6e0782f3a81d7ab332815c68", func := "tideline/tidelinelaw04.RowBack", spec := "rowBack", unfollowed := true, recurses := true, apart := false }
def RowBackSaid : Prop := rowBackRow.holds Try.pinned (OpenSpec.ofChange rowBackSpec)

/-- ITS FALSE NEIGHBOUR: 'it returns false'. Refute it at one input. -/
def rowBackWrong : ChangeSpec := { name := "rowBack", fn := fun _ => fun
  | [d1, d2, d3] => { results := [.lit (.bool false)], args := [d1, d2, d3] }
  | _ => none }
def RowBackWrongFalsely : Prop := rowBackRow.holds Try.pinned (OpenSpec.ofChange rowBackWrong)

/-- 'tidelinelaw04.RowApart': WHATEVER THE INPUT: true; the input reads as it did. -/
def rowApartSpec : ChangeSpec := { name := "rowApart", fn := fun _ => fun
  | [d1, d2, d3, d4, d5] => { results := [.lit (.bool true)], args := [d1, d2, d3, d4, d5] }
  | _ => none }
def rowApartRow : OpenClaim := { program := "ytlmcefhpnfoahaa", sum := "4e86e6015813beb38f8915d698a4dcb21527283c6e0782f3a81d7ab332815c68", func := "tideline/tidelinelaw04.RowApart", spec := "rowApart", unfollowed := true, recurses := true, apart := false }
def RowApartSaid : Prop := rowApartRow.holds Try.pinned (OpenSpec.ofChange rowApartSpec)

/-- ITS FALSE NEIGHBOUR: 'it returns false'. Refute it at one input. -/
def rowApartWrong : ChangeSpec := { name := "rowApart", fn := fun _ => fun
  | [d1, d2, d3, d4, d5] => { results := [.lit (.bool false)], args := [d1, d2, d3, d4, d5] }
  | _ => none }
def RowApartWrongFalsely : Prop := rowApartRow.holds Try.pinned (OpenSpec.ofChange rowApartWrong)

/-- 'tidelinelaw04.RowSizes': WHATEVER THE INPUT: true; the input reads as it did. -/
def rowSizesSpec : ChangeSpec := { name := "rowSizes", fn := fun _ => fun
  | [d1, d2] => { results := [.lit (.bool true)], args := [d1, d2] }
  | _ => none }
def rowSizesRow : OpenClaim := { program := "ytlmcefhpnfoahaa", sum := "4e86e6015813beb38f8915d698a4dcb21527283c6e0782f3a81d7ab332815c68", func := "tideline/tidelinelaw04.RowSizes", spec := "rowSizes", unfollowed := true, recurses := true, apart := false }
def RowSizesSaid : Prop := rowSizesRow.holds Try.pinned (OpenSpec.ofChange rowSizesSpec)

/-- ITS FALSE NEIGHBOUR: 'it returns false'. Refute it at one input. -/
def rowSizesWrong : ChangeSpec := { name := "rowSizes", fn := fun _ => fun
  | [d1, d2] => { results := [.lit (.bool false)], args := [d1, d2] }
  | _ => none }
def RowSizesWrongFalsely : Prop := rowSizesRow.holds Try.pinned (OpenSpec.ofChange rowSizesWrong)

/-- 'tidelinelaw04.RowKnown': WHATEVER THE INPUT: true; the input reads as it did. -/
def rowKnownSpec : ChangeSpec := { name := "rowKnown", fn := fun _ => fun
  | [] => { results := [.lit (.bool true)], args := [] }
  | _ => none }
def rowKnownRow : OpenClaim := { program := "ytlmcefhpnfoahaa", sum := "4e86e6015813beb38f8915d698a4dcb21527283c6e0782f3a81d7ab332815c68", func := "tideline/tidelinelaw04.RowKnown", spec := "rowKnown", unfollowed := true, recurses := true, apart := false }
def RowKnownSaid : Prop := rowKnownRow.holds Try.pinned (OpenSpec.ofChange rowKnownSpec)

/-- ITS FALSE NEIGHBOUR: 'it returns false'. Refute it at one input. -/
def rowKnownWrong : ChangeSpec := { name := "rowKnown", fn := fun _ => fun
  | [] => { results := [.lit (.bool false)], args := [] }
  | _ => none }
def RowKnownWrongFalsely : Prop := rowKnownRow.holds Try.pinned (OpenSpec.ofChange rowKnownWrong)

/-- 'tidelinelaw06.ColumnPuts': WHATEVER THE INPUT: true; the input reads as it did. -/
def columnPutsSpec : ChangeSpec := { name := "columnPuts", fn := fun _ => fun
  | [d1, d2] => { results := [.lit (.bool true)], args := [d1, d2] }
  | _ => none }
def columnPutsRow : OpenClaim := { program := "ytlmcefhpnfoahaa", sum := "4e86e6015813beb38f8915d698a4dcb21527283c6e0782f3a81d7ab332815c68", func := "tideline/tidelinelaw06.ColumnPuts", spec := "columnPuts", unfollowed := true, recurses := true, apart := false }
def ColumnPutsSaid : Prop := columnPutsRow.holds Try.pinned (OpenSpec.ofChange columnPutsSpec)

/-- ITS FALSE NEIGHBOUR: 'it returns false'. Refute it at one input. -/
def columnPutsWrong : ChangeSpec := { name := "columnPuts", fn := fun _ => fun
  | [d1, d2] => { results := [.lit (.bool false)], args := [d1, d2] }
  | _ => none }
def ColumnPutsWrongFalsely : Prop := columnPutsRow.holds Try.pinned (OpenSpec.ofChange columnPutsWrong)

/-- 'tidelinelaw06.ColumnGets': WHATEVER THE INPUT: true; the input reads as it did. -/
def columnGetsSpec : ChangeSpec := { name := "columnGets", fn := fun _ => fun
  | [d1, d2, d3] => { results := [.lit (.bool true)], args := [d1, d2, d3] }
  | _ => none }
def columnGetsRow : OpenClaim := { program := "ytlmcefhpnfoahaa", sum := "4e86e6015813beb38f8915d698a4dcb21527283c6e0782f3a81d7ab332815c68", func := "tideline/tidelinelaw06.ColumnGets", spec := "columnGets", unfollowed := true, recurses := true, apart := false }
def ColumnGetsSaid : Prop := columnGetsRow.holds Try.pinned (OpenSpec.ofChange columnGetsSpec)

/-- ITS FALSE NEIGHBOUR: 'it returns false'. Refute it at one input. -/
def columnGetsWrong : ChangeSpec := { name := "columnGets", fn := fun _ => fun
  | [d1, d2, d3] => { results := [.lit (.bool false)], args := [d1, d2, d3] }
  | _ => none }
def ColumnGetsWrongFalsely : Prop := columnGetsRow.holds Try.pinned (OpenSpec.ofChange columnGetsWrong)

/-- 'tidelinelaw06.ColumnBack': WHATEVER THE INPUT: true; the input reads as it did. -/
def columnBackSpec : ChangeSpec := { name := "columnBack", fn := fun _ => fun
  | [d1, d2, d3, d4] => { results := [.lit (.bool true)], args := [d1, d2, d3, d4] }
  | _ => none }
def columnBackRow : OpenClaim := { program := "ytlmcefhpnfoahaa", sum := "4e86e6015813beb38f8915d698a4dcb21527283c6e0782f3a81d7ab332815c68", func := "tideline/tidelinelaw06.ColumnBack", spec := "columnBack", unfollowed := true, recurses := true, apart := false }
def ColumnBackSaid : Prop := columnBackRow.holds Try.pinned (OpenSpec.ofChange columnBackSpec)

/-- ITS FALSE NEIGHBOUR: 'it returns false'. Refute it at one input. -/
def columnBackWrong : ChangeSpec := { name := "columnBack", fn := fun _ => fun
  | [d1, d2, d3, d4] => { results := [.lit (.bool false)], args := [d1, d2, d3, d4] }
  | _ => none }
def ColumnBackWrongFalsely : Prop := columnBackRow.holds Try.pinned (OpenSpec.ofChange columnBackWrong)

/-- 'tidelinelaw06.ColumnApart': WHATEVER THE INPUT: true; the input reads as it did. -/
def columnApartSpec : ChangeSpec := { name := "columnApart", fn := fun _ => fun
  | [d1, d2, d3, d4, d5] => { results := [.lit (.bool true)], args := [d1, d2, d3, d4, d5] }
  | _ => none }
def columnApartRow : OpenClaim := { program := "ytlmcefhpnfoahaa", sum := "4e86e6015813beb38f8915d698a4dcb21527283c6e0782f3a81d7ab332815c68", func := "tideline/tidelinelaw06.ColumnApart", spec := "columnApart", unfollowed := true, recurses := true, apart := false }
def ColumnApartSaid : Prop := columnApartRow.holds Try.pinned (OpenSpec.ofChange columnApartSpec)

/-- ITS FALSE NEIGHBOUR: 'it returns false'. Refute it at one input. -/
def columnApartWrong : ChangeSpec := { name := "columnApart", fn := fun _ => fun
  | [d1, d2, d3, d4, d5] => { results := [.lit (.bool false)], args := [d1, d2, d3, d4, d5] }
  | _ => none }
def ColumnApartWrongFalsely : Prop := columnApartRow.holds Try.pinned (OpenSpec.ofChange columnApartWrong)

/-- 'tidelinelaw06.ColumnSmall': WHATEVER THE INPUT: true; the input reads as it did. -/
def columnSmallSpec : ChangeSpec := { name := "columnSmall", fn := fun _ => fun
  | [d1, d2] => { results := [.lit (.bool true)], args := [d1, d2] }
  | _ => none }
def columnSmallRow : OpenClaim := { program := "ytlmcefhpnfoahaa", sum := "4e86e6015813beb38f8915d698a4dcb21527283c6e0782f3a81d7ab332815c68", func := "tideline/tidelinelaw06.ColumnSmall", spec := "columnSmall", unfollowed := true, recurses := true, apart := false }
def ColumnSmallSaid : Prop := columnSmallRow.holds Try.pinned (OpenSpec.ofChange columnSmallSpec)

/-- ITS FALSE NEIGHBOUR: 'it returns false'. Refute it at one input. -/
def columnSmallWrong : ChangeSpec := { name := "columnSmall", fn := fun _ => fun
  | [d1, d2] => { results := [.lit (.bool false)], args := [d1, d2] }
  | _ => none }
def ColumnSmallWrongFalsely : Prop := columnSmallRow.holds Try.pinned (OpenSpec.ofChange columnSmallWrong)

/-- 'tidelinelaw06.ColumnBounds': WHATEVER THE INPUT: true; the input reads as it did. -/
def columnBoundsSpec : ChangeSpec := { name := "columnBounds", fn := fun _ => fun
  | [d] => { results := [.lit (.bool true)], args := [d] }
  | _ => none }
def columnBoundsRow : OpenClaim := { program := "ytlmcefhpnfoahaa", sum := "4e86e6015813beb38f8915d698a4dcb21527283c6e0782f3a81d7ab332815c68", func := "tideline/tidelinelaw06.ColumnBounds", spec := "columnBounds", inPlace := ["internal/bytealg.Compare"], unfollowed := true, recurses := true, apart := false }
def ColumnBoundsSaid : Prop := columnBoundsRow.holds Try.pinned (OpenSpec.ofChange columnBoundsSpec)

/-- ITS FALSE NEIGHBOUR: 'it returns false'. Refute it at one input. -/
def columnBoundsWrong : ChangeSpec := { name := "columnBounds", fn := fun _ => fun
  | [d] => { results := [.lit (.bool false)], args := [d] }
  | _ => none }
def ColumnBoundsWrongFalsely : Prop := columnBoundsRow.holds Try.pinned (OpenSpec.ofChange columnBoundsWrong)

/-- 'tidelinelaw06.ColumnLies': WHATEVER THE INPUT: true; the input reads as it did. -/
def columnLiesSpec : ChangeSpec := { name := "columnLies", fn := fun _ => fun
  | [d1, d2, d3] => { results := [.lit (.bool true)], args := [d1, d2, d3] }
  | _ => none }
def columnLiesRow : OpenClaim := { program := "ytlmcefhpnfoahaa", sum := "4e86e6015813beb38f8915d698a4dcb21527283c6e0782f3a81d7ab332815c68", func := "tideline/tidelinelaw06.ColumnLies", spec := "columnLies", inPlace := ["internal/bytealg.Compare"], unfollowed := true, recurses := true, apart := false }
def ColumnLiesSaid : Prop := columnLiesRow.holds Try.pinned (OpenSpec.ofChange columnLiesSpec)

/-- ITS FALSE NEIGHBOUR: 'it returns false'. Refute it at one input. -/
def columnLiesWrong : ChangeSpec := { name := "columnLies", fn := fun _ => fun
  | [d1, d2, d3] => { results := [.lit (.bool false)], args := [d1, d2, d3] }
  | _ => none }
def ColumnLiesWrongFalsely : Prop := columnLiesRow.holds Try.pinned (OpenSpec.ofChange columnLiesWrong)

/-- 'tidelinelaw06.ColumnKnown': WHATEVER THE INPUT: true; the input reads as it did. -/
def columnKnownSpec : ChangeSpec := { name := "columnKnown", fn := fun _ => fun
  | [] => { results := [.lit (.bool true)], args := [] }
  | _ => none }
def columnKnownRow : OpenClaim := { program := "ytlmcefhpnfoahaa", sum := "4e86e6015813beb38f8915d698a4dcb21527283c6e0782f3a81d7ab332815c68", func := "tideline/tidelinelaw06.ColumnKnown", spec := "columnKnown", inPlace := ["internal/bytealg.Compare"], unfollowed := true, recurses := true, apart := false }
def ColumnKnownSaid : Prop := columnKnownRow.holds Try.pinned (OpenSpec.ofChange columnKnownSpec)

/-- ITS FALSE NEIGHBOUR: 'it returns false'. Refute it at one input. -/
def columnKnownWrong : ChangeSpec := { name := "columnKnown", fn := fun _ => fun
  | [] => { results := [.lit (.bool false)], args := [] }
  | _ => none }
def ColumnKnownWrongFalsely : Prop := columnKnownRow.holds Try.pinned (OpenSpec.ofChange columnKnownWrong)

/-- 'tidelinelaw07.SegmentMakes': WHATEVER THE INPUT: true; the input reads as it did. -/
def segmentMakesSpec : ChangeSpec := { name := "segmentMakes", fn := fun _ => fun
  | [d1, d2] => { results := [.lit (.bool true)], args := [d1, d2] }
  | _ => none }
def segmentMakesRow : OpenClaim := { program := "ytlmcefhpnfoahaa", sum := "4e86e6015813beb38f8915d698a4dcb21527283c6e0782f3a81d7ab332815c68", func := "tideline/tidelinelaw07.SegmentMakes", spec := "segmentMakes", inPlace := ["internal/bytealg.Compare"], unfollowed := true, recurses := true, apart := false }
def SegmentMakesSaid : Prop := segmentMakesRow.holds Try.pinned (OpenSpec.ofChange segmentMakesSpec)

/-- ITS FALSE NEIGHBOUR: 'it returns false'. Refute it at one input. -/
def segmentMakesWrong : ChangeSpec := { name := "segmentMakes", fn := fun _ => fun
  | [d1, d2] => { results := [.lit (.bool false)], args := [d1, d2] }
  | _ => none }
def SegmentMakesWrongFalsely : Prop := segmentMakesRow.holds Try.pinned (OpenSpec.ofChange segmentMakesWrong)

/-- 'tidelinelaw07.SegmentOpens': WHATEVER THE INPUT: true; the input reads as it did. -/
def segmentOpensSpec : ChangeSpec := { name := "segmentOpens", fn := fun _ => fun
  | [d1, d2] => { results := [.lit (.bool true)], args := [d1, d2] }
  | _ => none }
def segmentOpensRow : OpenClaim := { program := "ytlmcefhpnfoahaa", sum := "4e86e6015813beb38f8915d698a4dcb21527283c6e0782f3a81d7ab332815c68", func := "tideline/tidelinelaw07.SegmentOpens", spec := "segmentOpens", inPlace := ["internal/bytealg.Compare"], unfollowed := true, recurses := true, apart := false }
def SegmentOpensSaid : Prop := segmentOpensRow.holds Try.pinned (OpenSpec.ofChange segmentOpensSpec)

/-- ITS FALSE NEIGHBOUR: 'it returns false'. Refute it at one input. -/
def segmentOpensWrong : ChangeSpec := { name := "segmentOpens", fn := fun _ => fun
  | [d1, d2] => { results := [.lit (.bool false)], args := [d1, d2] }
  | _ => none }
def SegmentOpensWrongFalsely : Prop := segmentOpensRow.holds Try.pinned (OpenSpec.ofChange segmentOpensWrong)

/-- 'tidelinelaw07.SegmentBack': WHATEVER THE INPUT: true; the input reads as it did. -/
def segmentBackSpec : ChangeSpec := { name := "segmentBack", fn := fun _ => fun
  | [d1, d2, d3] => { results := [.lit (.bool true)], args := [d1, d2, d3] }
  | _ => none }
def segmentBackRow : OpenClaim := { program := "ytlmcefhpnfoahaa", sum := "4e86e6015813beb38f8915d698a4dcb21527283c6e0782f3a81d7ab332815c68", func := "tideline/tidelinelaw07.SegmentBack", spec := "segmentBack", inPlace := ["internal/bytealg.Compare"], unfollowed := true, recurses := true, apart := false }
def SegmentBackSaid : Prop := segmentBackRow.holds Try.pinned (OpenSpec.ofChange segmentBackSpec)

/-- ITS FALSE NEIGHBOUR: 'it returns false'. Refute it at one input. -/
def segmentBackWrong : ChangeSpec := { name := "segmentBack", fn := fun _ => fun
  | [d1, d2, d3] => { results := [.lit (.bool false)], args := [d1, d2, d3] }
  | _ => none }
def SegmentBackWrongFalsely : Prop := segmentBackRow.holds Try.pinned (OpenSpec.ofChange segmentBackWrong)

/-- 'tidelinelaw07.SegmentBounds': WHATEVER THE INPUT: true; the input reads as it did. -/
def segmentBoundsSpec : ChangeSpec := { name := "segmentBounds", fn := fun _ => fun
  | [d1, d2] => { results := [.lit (.bool true)], args := [d1, d2] }
  | _ => none }
def segmentBoundsRow : OpenClaim := { program := "ytlmcefhpnfoahaa", sum := "4e86e6015813beb38f8915d698a4dcb21527283c6e0782f3a81d7ab332815c68", func := "tideline/tidelinelaw07.SegmentBounds", spec := "segmentBounds", inPlace := ["internal/bytealg.Compare"], unfollowed := true, recurses := true, apart := false }
def SegmentBoundsSaid : Prop := segmentBoundsRow.holds Try.pinned (OpenSpec.ofChange segmentBoundsSpec)

/-- ITS FALSE NEIGHBOUR: 'it returns false'. Refute it at one input. -/
def segmentBoundsWrong : ChangeSpec := { name := "segmentBounds", fn := fun _ => fun
  | [d1, d2] => { results := [.lit (.bool false)], args := [d1, d2] }
  | _ => none }
def SegmentBoundsWrongFalsely : Prop := segmentBoundsRow.holds Try.pinned (OpenSpec.ofChange segmentBoundsWrong)

/- THE SECOND FORM. 'bulk': how many values and letters a reading holds, each counted each time it is reached (what is shared counts as often as it is met; a slice's spare places count too). A statement '..UptoSaid' is the law's where the arguments, and the package variables that the reading takes, are together of bulk at most 1048576: NARROWER than '..Said'. Prove '..Said' where nothing that the law and all that it calls make is longer than what came in: it says more and counts as full. Else prove '..UptoSaid'. A law counts once. -/
mutual
def uptoBulk {H : Type} : DataW H → Nat
  | .lit (.string bytes) => bytes.length + 1
  | .lit _ => 1
  | .nil => 1
  | .ptr d => uptoBulk d + 1
  | .slice elems spare => uptoBulkAll elems + uptoBulkAll spare + 1
  | .agg parts => uptoBulkAll parts + 1
  | .iface _ d => uptoBulk d + 1
  | .map entries => uptoBulkEntries entries + 1
  | .held _ => 1
def uptoBulkAll {H : Type} : List (DataW H) → Nat
  | [] => 0
  | d :: r => uptoBulk d + uptoBulkAll r
def uptoBulkEntries {H : Type} : List (Lit × DataW H) → Nat
  | [] => 0
  | x :: r => uptoBulkEntry x + uptoBulkEntries r
def uptoBulkEntry {H : Type} : Lit × DataW H → Nat
  | (.string bytes, d) => bytes.length + uptoBulk d + 1
  | (_, d) => uptoBulk d + 1
 end
def uptoSmall : (H : Type) → List (DataW H) → Bool := fun _ ds => decide (uptoBulkAll ds ≤ 1048576)
def OpenSpec.upto (s : _root_.Go.ChangeSpec) : _root_.Go.OpenSpec := { _root_.Go.OpenSpec.ofChange s with cond := some uptoSmall }

/-- 'tidelinelaw03.KeyAppends', WHERE WHAT IT READS IS OF BULK AT MOST 1048576: true; the input reads as it did. -/
def keyAppendsUptoRow : OpenClaim := { program := "ytlmcefhpnfoahaa", sum := "4e86e6015813beb38f8915d698a4dcb21527283c6e0782f3a81d7ab332815c68", func := "tideline/tidelinelaw03.KeyAppends", spec := "keyAppends", unfollowed := true, recurses := true, apart := false, narrowed := true }
def KeyAppendsUptoSaid : Prop := keyAppendsUptoRow.holds Try.pinned (OpenSpec.upto keyAppendsSpec)

/-- 'tidelinelaw03.KeyOrders', WHERE WHAT IT READS IS OF BULK AT MOST 1048576: true; the input reads as it did. -/
def keyOrdersUptoRow : OpenClaim := { program := "ytlmcefhpnfoahaa", sum := "4e86e6015813beb38f8915d698a4dcb21527283c6e0782f3a81d7ab332815c68", func := "tideline/tidelinelaw03.KeyOrders", spec := "keyOrders", unfollowed := true, recurses := true, apart := false, narrowed := true }
def KeyOrdersUptoSaid : Prop := keyOrdersUptoRow.holds Try.pinned (OpenSpec.upto keyOrdersSpec)

/-- 'tidelinelaw03.KeyBack', WHERE WHAT IT READS IS OF BULK AT MOST 1048576: true; the input reads as it did. -/
def keyBackUptoRow : OpenClaim := { program := "ytlmcefhpnfoahaa", sum := "4e86e6015813beb38f8915d698a4dcb21527283c6e0782f3a81d7ab332815c68", func := "tideline/tidelinelaw03.KeyBack", spec := "keyBack", unfollowed := true, recurses := true, apart := false, narrowed := true }
def KeyBackUptoSaid : Prop := keyBackUptoRow.holds Try.pinned (OpenSpec.upto keyBackSpec)

/-- 'tidelinelaw03.KeyKnown', WHERE WHAT IT READS IS OF BULK AT MOST 1048576: true; the input reads as it did. -/
def keyKnownUptoRow : OpenClaim := { program := "ytlmcefhpnfoahaa", sum := "4e86e6015813beb38f8915d698a4dcb21527283c6e0782f3a81d7ab332815c68", func := "tideline/tidelinelaw03.KeyKnown", spec := "keyKnown", unfollowed := true, recurses := true, apart := false, narrowed := true }
def KeyKnownUptoSaid : Prop := keyKnownUptoRow.holds Try.pinned (OpenSpec.upto keyKnownSpec)

/-- 'tidelinelaw03.KeyParses', WHERE WHAT IT READS IS OF BULK AT MOST 1048576: true; the input reads as it did. -/
def keyParsesUptoRow : OpenClaim := { program := "ytlmcefhpnfoahaa", sum := "4e86e6015813beb38f8915d698a4dcb21527283c6e0782f3a81d7ab332815c68", func := "tideline/tidelinelaw03.KeyParses", spec := "keyParses", unfollowed := true, recurses := true, apart := false, narrowed := true }
def KeyParsesUptoSaid : Prop := keyParsesUptoRow.holds Try.pinned (OpenSpec.upto keyParsesSpec)

/-- 'tidelinelaw03.KeyPrefix', WHERE WHAT IT READS IS OF BULK AT MOST 1048576: true; the input reads as it did. -/
def keyPrefixUptoRow : OpenClaim := { program := "ytlmcefhpnfoahaa", sum := "4e86e6015813beb38f8915d698a4dcb21527283c6e0782f3a81d7ab332815c68", func := "tideline/tidelinelaw03.KeyPrefix", spec := "keyPrefix", unfollowed := true, recurses := true, apart := false, narrowed := true }
def KeyPrefixUptoSaid : Prop := keyPrefixUptoRow.holds Try.pinned (OpenSpec.upto keyPrefixSpec)

/-- 'tidelinelaw07.SegmentCuts', WHERE WHAT IT READS IS OF BULK AT MOST 1048576: true; the input reads as it did. -/
def segmentCutsUptoRow : OpenClaim := { program := "ytlmcefhpnfoahaa", sum := "4e86e6015813beb38f8915d698a4dcb21527283c6e0782f3a81d7ab332815c68", func := "tideline/tidelinelaw07.SegmentCuts", spec := "segmentCuts", inPlace := ["internal/bytealg.Compare"], unfollowed := true, recurses := true, apart := false, narrowed := true }
def SegmentCutsUptoSaid : Prop := segmentCutsUptoRow.holds Try.pinned (OpenSpec.upto segmentCutsSpec)

/-- 'tidelinelaw04.RowPuts', WHERE WHAT IT READS IS OF BULK AT MOST 1048576: true; the input reads as it did. -/
def rowPutsUptoRow : OpenClaim := { program := "ytlmcefhpnfoahaa", sum := "4e86e6015813beb38f8915d698a4dcb21527283c6e0782f3a81d7ab332815c68", func := "tideline/tidelinelaw04.RowPuts", spec := "rowPuts", unfollowed := true, recurses := true, apart := false, narrowed := true }
def RowPutsUptoSaid : Prop := rowPutsUptoRow.holds Try.pinned (OpenSpec.upto rowPutsSpec)

/-- 'tidelinelaw04.RowGets', WHERE WHAT IT READS IS OF BULK AT MOST 1048576: true; the input reads as it did. -/
def rowGetsUptoRow : OpenClaim := { program := "ytlmcefhpnfoahaa", sum := "4e86e6015813beb38f8915d698a4dcb21527283c6e0782f3a81d7ab332815c68", func := "tideline/tidelinelaw04.RowGets", spec := "rowGets", unfollowed := true, recurses := true, apart := false, narrowed := true }
def RowGetsUptoSaid : Prop := rowGetsUptoRow.holds Try.pinned (OpenSpec.upto rowGetsSpec)

/-- 'tidelinelaw07.SegmentKnown', WHERE WHAT IT READS IS OF BULK AT MOST 1048576: true; the input reads as it did. -/
def segmentKnownUptoRow : OpenClaim := { program := "ytlmcefhpnfoahaa", sum := "4e86e6015813beb38f8915d698a4dcb21527283c6e0782f3a81d7ab332815c68", func := "tideline/tidelinelaw07.SegmentKnown", spec := "segmentKnown", inPlace := ["internal/bytealg.Compare"], unfollowed := true, recurses := true, apart := false, narrowed := true }
def SegmentKnownUptoSaid : Prop := segmentKnownUptoRow.holds Try.pinned (OpenSpec.upto segmentKnownSpec)

/-- 'tidelinelaw04.RowBack', WHERE WHAT IT READS IS OF BULK AT MOST 1048576: true; the input reads as it did. -/
def rowBackUptoRow : OpenClaim := { program := "ytlmcefhpnfoahaa", sum := "4e86e6015813beb38f8915d698a4dcb21527283c6e0782f3a81d7ab332815c68", func := "tideline/tidelinelaw04.RowBack", spec := "rowBack", unfollowed := true, recurses := true, apart := false, narrowed := true }
def RowBackUptoSaid : Prop := rowBackUptoRow.holds Try.pinned (OpenSpec.upto rowBackSpec)

/-- 'tidelinelaw04.RowApart', WHERE WHAT IT READS IS OF BULK AT MOST 1048576: true; the input reads as it did. -/
def rowApartUptoRow : OpenClaim := { program := "ytlmcefhpnfoahaa", sum := "4e86e6015813beb38f8915d698a4dcb21527283c6e0782f3a81d7ab332815c68", func := "tideline/tidelinelaw04.RowApart", spec := "rowApart", unfollowed := true, recurses := true, apart := false, narrowed := true }
def RowApartUptoSaid : Prop := rowApartUptoRow.holds Try.pinned (OpenSpec.upto rowApartSpec)

/-- 'tidelinelaw04.RowSizes', WHERE WHAT IT READS IS OF BULK AT MOST 1048576: true; the input reads as it did. -/
def rowSizesUptoRow : OpenClaim := { program := "ytlmcefhpnfoahaa", sum := "4e86e6015813beb38f8915d698a4dcb21527283c6e0782f3a81d7ab332815c68", func := "tideline/tidelinelaw04.RowSizes", spec := "rowSizes", unfollowed := true, recurses := true, apart := false, narrowed := true }
def RowSizesUptoSaid : Prop := rowSizesUptoRow.holds Try.pinned (OpenSpec.upto rowSizesSpec)

/-- 'tidelinelaw04.RowKnown', WHERE WHAT IT READS IS OF BULK AT MOST 1048576: true; the input reads as it did. -/
def rowKnownUptoRow : OpenClaim := { program := "ytlmcefhpnfoahaa", sum := "4e86e6015813beb38f8915d698a4dcb21527283c6e0782f3a81d7ab332815c68", func := "tideline/tidelinelaw04.RowKnown", spec := "rowKnown", unfollowed := true, recurses := true, apart := false, narrowed := true }
def RowKnownUptoSaid : Prop := rowKnownUptoRow.holds Try.pinned (OpenSpec.upto rowKnownSpec)

/-- 'tidelinelaw06.ColumnPuts', WHERE WHAT IT READS IS OF BULK AT MOST 1048576: true; the input reads as it did. -/
def columnPutsUptoRow : OpenClaim := { program := "ytlmcefhpnfoahaa", sum := "4e86e6015813beb38f8915d698a4dcb21527283c6e0782f3a81d7ab332815c68", func := "tideline/tidelinelaw06.ColumnPuts", spec := "columnPuts", unfollowed := true, recurses := true, apart := false, narrowed := true }
def ColumnPutsUptoSaid : Prop := columnPutsUptoRow.holds Try.pinned (OpenSpec.upto columnPutsSpec)

/-- 'tidelinelaw06.ColumnGets', WHERE WHAT IT READS IS OF BULK AT MOST 1048576: true; the input reads as it did. -/
def columnGetsUptoRow : OpenClaim := { program := "ytlmcefhpnfoahaa", sum := "4e86e6015813beb38f8915d698a4dcb21527283c6e0782f3a81d7ab332815c68", func := "tideline/tidelinelaw06.ColumnGets", spec := "columnGets", unfollowed := true, recurses := true, apart := false, narrowed := true }
def ColumnGetsUptoSaid : Prop := columnGetsUptoRow.holds Try.pinned (OpenSpec.upto columnGetsSpec)

/-- 'tidelinelaw06.ColumnBack', WHERE WHAT IT READS IS OF BULK AT MOST 1048576: true; the input reads as it did. -/
def columnBackUptoRow : OpenClaim := { program := "ytlmcefhpnfoahaa", sum := "4e86e6015813beb38f8915d698a4dcb21527283c6e0782f3a81d7ab332815c68", func := "tideline/tidelinelaw06.ColumnBack", spec := "columnBack", unfollowed := true, recurses := true, apart := false, narrowed := true }
def ColumnBackUptoSaid : Prop := columnBackUptoRow.holds Try.pinned (OpenSpec.upto columnBackSpec)

/-- 'tidelinelaw06.ColumnApart', WHERE WHAT IT READS IS OF BULK AT MOST 1048576: true; the input reads as it did. -/
def columnApartUptoRow : OpenClaim := { program := "ytlmcefhpnfoahaa", sum := "4e86e6015813beb38f8915d698a4dcb21527283c6e0782f3a81d7ab332815c68", func := "tideline/tidelinelaw06.ColumnApart", spec := "columnApart", unfollowed := true, recurses := true, apart := false, narrowed := true }
def ColumnApartUptoSaid : Prop := columnApartUptoRow.holds Try.pinned (OpenSpec.upto columnApartSpec)

/-- 'tidelinelaw06.ColumnSmall', WHERE WHAT IT READS IS OF BULK AT MOST 1048576: true; the input reads as it did. -/
def columnSmallUptoRow : OpenClaim := { program := "ytlmcefhpnfoahaa", sum := "4e86e6015813beb38f8915d698a4dcb21527283c6e0782f3a81d7ab332815c68", func := "tideline/tidelinelaw06.ColumnSmall", spec := "columnSmall", unfollowed := true, recurses := true, apart := false, narrowed := true }
def ColumnSmallUptoSaid : Prop := columnSmallUptoRow.holds Try.pinned (OpenSpec.upto columnSmallSpec)

/-- 'tidelinelaw06.ColumnBounds', WHERE WHAT IT READS IS OF BULK AT MOST 1048576: true; the input reads as it did. -/
def columnBoundsUptoRow : OpenClaim := { program := "ytlmcefhpnfoahaa", sum := "4e86e6015813beb38f8915d698a4dcb21527283c6e0782f3a81d7ab332815c68", func := "tideline/tidelinelaw06.ColumnBounds", spec := "columnBounds", inPlace := ["internal/bytealg.Compare"], unfollowed := true, recurses := true, apart := false, narrowed := true }
def ColumnBoundsUptoSaid : Prop := columnBoundsUptoRow.holds Try.pinned (OpenSpec.upto columnBoundsSpec)

/-- 'tidelinelaw06.ColumnLies', WHERE WHAT IT READS IS OF BULK AT MOST 1048576: true; the input reads as it did. -/
def columnLiesUptoRow : OpenClaim := { program := "ytlmcefhpnfoahaa", sum := "4e86e6015813beb38f8915d698a4dcb21527283c6e0782f3a81d7ab332815c68", func := "tideline/tidelinelaw06.ColumnLies", spec := "columnLies", inPlace := ["internal/bytealg.Compare"], unfollowed := true, recurses := true, apart := false, narrowed := true }
def ColumnLiesUptoSaid : Prop := columnLiesUptoRow.holds Try.pinned (OpenSpec.upto columnLiesSpec)

/-- 'tidelinelaw06.ColumnKnown', WHERE WHAT IT READS IS OF BULK AT MOST 1048576: true; the input reads as it did. -/
def columnKnownUptoRow : OpenClaim := { program := "ytlmcefhpnfoahaa", sum := "4e86e6015813beb38f8915d698a4dcb21527283c6e0782f3a81d7ab332815c68", func := "tideline/tidelinelaw06.ColumnKnown", spec := "columnKnown", inPlace := ["internal/bytealg.Compare"], unfollowed := true, recurses := true, apart := false, narrowed := true }
def ColumnKnownUptoSaid : Prop := columnKnownUptoRow.holds Try.pinned (OpenSpec.upto columnKnownSpec)

/-- 'tidelinelaw07.SegmentMakes', WHERE WHAT IT READS IS OF BULK AT MOST 1048576: true; the input reads as it did. -/
def segmentMakesUptoRow : OpenClaim := { program := "ytlmcefhpnfoahaa", sum := "4e86e6015813beb38f8915d698a4dcb21527283c6e0782f3a81d7ab332815c68", func := "tideline/tidelinelaw07.SegmentMakes", spec := "segmentMakes", inPlace := ["internal/bytealg.Compare"], unfollowed := true, recurses := true, apart := false, narrowed := true }
def SegmentMakesUptoSaid : Prop := segmentMakesUptoRow.holds Try.pinned (OpenSpec.upto segmentMakesSpec)

/-- 'tidelinelaw07.SegmentOpens', WHERE WHAT IT READS IS OF BULK AT MOST 1048576: true; the input reads as it did. -/
def segmentOpensUptoRow : OpenClaim := { program := "ytlmcefhpnfoahaa", sum := "4e86e6015813beb38f8915d698a4dcb21527283c6e0782f3a81d7ab332815c68", func := "tideline/tidelinelaw07.SegmentOpens", spec := "segmentOpens", inPlace := ["internal/bytealg.Compare"], unfollowed := true, recurses := true, apart := false, narrowed := true }
def SegmentOpensUptoSaid : Prop := segmentOpensUptoRow.holds Try.pinned (OpenSpec.upto segmentOpensSpec)

/-- 'tidelinelaw07.SegmentBack', WHERE WHAT IT READS IS OF BULK AT MOST 1048576: true; the input reads as it did. -/
def segmentBackUptoRow : OpenClaim := { program := "ytlmcefhpnfoahaa", sum := "4e86e6015813beb38f8915d698a4dcb21527283c6e0782f3a81d7ab332815c68", func := "tideline/tidelinelaw07.SegmentBack", spec := "segmentBack", inPlace := ["internal/bytealg.Compare"], unfollowed := true, recurses := true, apart := false, narrowed := true }
def SegmentBackUptoSaid : Prop := segmentBackUptoRow.holds Try.pinned (OpenSpec.upto segmentBackSpec)

/-- 'tidelinelaw07.SegmentBounds', WHERE WHAT IT READS IS OF BULK AT MOST 1048576: true; the input reads as it did. -/
def segmentBoundsUptoRow : OpenClaim := { program := "ytlmcefhpnfoahaa", sum := "4e86e6015813beb38f8915d698a4dcb21527283c6e0782f3a81d7ab332815c68", func := "tideline/tidelinelaw07.SegmentBounds", spec := "segmentBounds", inPlace := ["internal/bytealg.Compare"], unfollowed := true, recurses := true, apart := false, narrowed := true }
def SegmentBoundsUptoSaid : Prop := segmentBoundsUptoRow.holds Try.pinned (OpenSpec.upto segmentBoundsSpec)

end Rows
end Go.Proofs.Ytlmcefhpnfoahaa
