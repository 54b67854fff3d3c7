/-
  No cell of these rows narrows 'for every input' (looked for: loops, veiled, ifaces, maps, wideKeys, modest, calm, conditions, laid).
  DERIVED. THE GIVEN ROWS OF THIS SEAT. 6 by the template 'for every input the law returns true; each argument reads behind the call as it read before'; 0 by the template 'total and deterministic' (their statements: YtnbcnkpcmjkglaaTotals.lean).
  GIVEN WITH THE SEED: the statements are not yours to turn. If you find one false, say at which input.
  Laid BY PROGRAM, IN A SANDBOX (cutbox-rows.mjs): the forced cells as the released guide's own fill.sh prints them over the translation 032c03008b39fa9d… (all of the seat's roots in one cut). By AI agents, Wed Nov 11 2026. No macro, syntax, notation, axiom, sorry.
-/
import Derived.Test.YtnbcnkpcmjkglaaChecked
import GoSem.Claim
import GoSem.ClaimJoined
import GoSem.ClaimMapViews
import Derived.JoinedTies
import Derived.KernelRfl
namespace Go.Proofs.Ytnbcnkpcmjkglaa
/- THE CELL 'sum', in the pinned program and in every row, IS THE sha256 OF THE DUMP (.gsa) THAT YtnbcnkpcmjkglaaProg.lean LOADS. Nothing in Lean hashes anything: it is a label: what it is worth is what the hold of that sum in a sandbox is worth. -/
noncomputable def Try.pinned : Pinned := { name := "ytnbcnkpcmjkglaa", sum := "032c03008b39fa9df5f7dbea7eadc6fdfb6166fe281aa25c1e71e1b3c70a9f3a", checked := Try.checked }
namespace Rows
def none {H : Type} : Left H := { results := [], args := [] }

/-- 'rotalaw16.PlaceLess': WHATEVER THE INPUT: true; the input reads as it did. -/
def placeLessSpec : ChangeSpec := { name := "placeLess", fn := fun _ => fun
  | [d1, d2, d3, d4, d5] => { results := [.lit (.bool true)], args := [d1, d2, d3, d4, d5] }
  | _ => none }
def placeLessRow : OpenClaim := { program := "ytnbcnkpcmjkglaa", sum := "032c03008b39fa9df5f7dbea7eadc6fdfb6166fe281aa25c1e71e1b3c70a9f3a", func := "rota/rotalaw16.PlaceLess", spec := "placeLess", unfollowed := true, recurses := true, apart := false }
def PlaceLessSaid : Prop := placeLessRow.holds Try.pinned (OpenSpec.ofChange placeLessSpec)

/-- ITS FALSE NEIGHBOUR: 'it returns false'. Refute it at one input. -/
def placeLessWrong : ChangeSpec := { name := "placeLess", fn := fun _ => fun
  | [d1, d2, d3, d4, d5] => { results := [.lit (.bool false)], args := [d1, d2, d3, d4, d5] }
  | _ => none }
def PlaceLessWrongFalsely : Prop := placeLessRow.holds Try.pinned (OpenSpec.ofChange placeLessWrong)

/-- 'rotalaw16.PlaceFree': WHATEVER THE INPUT: true; the input reads as it did. -/
def placeFreeSpec : ChangeSpec := { name := "placeFree", fn := fun _ => fun
  | [d1, d2] => { results := [.lit (.bool true)], args := [d1, d2] }
  | _ => none }
def placeFreeRow : OpenClaim := { program := "ytnbcnkpcmjkglaa", sum := "032c03008b39fa9df5f7dbea7eadc6fdfb6166fe281aa25c1e71e1b3c70a9f3a", func := "rota/rotalaw16.PlaceFree", spec := "placeFree", unfollowed := true, recurses := true, apart := false }
def PlaceFreeSaid : Prop := placeFreeRow.holds Try.pinned (OpenSpec.ofChange placeFreeSpec)

/-- ITS FALSE NEIGHBOUR: 'it returns false'. Refute it at one input. -/
def placeFreeWrong : ChangeSpec := { name := "placeFree", fn := fun _ => fun
  | [d1, d2] => { results := [.lit (.bool false)], args := [d1, d2] }
  | _ => none }
def PlaceFreeWrongFalsely : Prop := placeFreeRow.holds Try.pinned (OpenSpec.ofChange placeFreeWrong)

/-- 'rotalaw16.PlaceFits': WHATEVER THE INPUT: true; the input reads as it did. -/
def placeFitsSpec : ChangeSpec := { name := "placeFits", fn := fun _ => fun
  | [d1, d2, d3, d4, d5] => { results := [.lit (.bool true)], args := [d1, d2, d3, d4, d5] }
  | _ => none }
def placeFitsRow : OpenClaim := { program := "ytnbcnkpcmjkglaa", sum := "032c03008b39fa9df5f7dbea7eadc6fdfb6166fe281aa25c1e71e1b3c70a9f3a", func := "rota/rotalaw16.PlaceFits", spec := "placeFits", unfollowed := true, recurses := true, apart := false }
def PlaceFitsSaid : Prop := placeFitsRow.holds Try.pinned (OpenSpec.ofChange placeFitsSpec)

/-- ITS FALSE NEIGHBOUR: 'it returns false'. Refute it at one input. -/
def placeFitsWrong : ChangeSpec := { name := "placeFits", fn := fun _ => fun
  | [d1, d2, d3, d4, d5] => { results := [.lit (.bool false)], args := [d1, d2, d3, d4, d5] }
  | _ => none }
def PlaceFitsWrongFalsely : Prop := placeFitsRow.holds Try.pinned (OpenSpec.ofChange placeFitsWrong)

/-- 'rotalaw16.PlaceApart': WHATEVER THE INPUT: true; the input reads as it did. -/
def placeApartSpec : ChangeSpec := { name := "placeApart", fn := fun _ => fun
  | [d1, d2, d3, d4] => { results := [.lit (.bool true)], args := [d1, d2, d3, d4] }
  | _ => none }
def placeApartRow : OpenClaim := { program := "ytnbcnkpcmjkglaa", sum := "032c03008b39fa9df5f7dbea7eadc6fdfb6166fe281aa25c1e71e1b3c70a9f3a", func := "rota/rotalaw16.PlaceApart", spec := "placeApart", unfollowed := true, recurses := true, apart := false }
def PlaceApartSaid : Prop := placeApartRow.holds Try.pinned (OpenSpec.ofChange placeApartSpec)

/-- ITS FALSE NEIGHBOUR: 'it returns false'. Refute it at one input. -/
def placeApartWrong : ChangeSpec := { name := "placeApart", fn := fun _ => fun
  | [d1, d2, d3, d4] => { results := [.lit (.bool false)], args := [d1, d2, d3, d4] }
  | _ => none }
def PlaceApartWrongFalsely : Prop := placeApartRow.holds Try.pinned (OpenSpec.ofChange placeApartWrong)

/-- 'rotalaw16.PlaceMost': WHATEVER THE INPUT: true; the input reads as it did. -/
def placeMostSpec : ChangeSpec := { name := "placeMost", fn := fun _ => fun
  | [d1, d2, d3] => { results := [.lit (.bool true)], args := [d1, d2, d3] }
  | _ => none }
def placeMostRow : OpenClaim := { program := "ytnbcnkpcmjkglaa", sum := "032c03008b39fa9df5f7dbea7eadc6fdfb6166fe281aa25c1e71e1b3c70a9f3a", func := "rota/rotalaw16.PlaceMost", spec := "placeMost", unfollowed := true, recurses := true, apart := false }
def PlaceMostSaid : Prop := placeMostRow.holds Try.pinned (OpenSpec.ofChange placeMostSpec)

/-- ITS FALSE NEIGHBOUR: 'it returns false'. Refute it at one input. -/
def placeMostWrong : ChangeSpec := { name := "placeMost", fn := fun _ => fun
  | [d1, d2, d3] => { results := [.lit (.bool false)], args := [d1, d2, d3] }
  | _ => none }
def PlaceMostWrongFalsely : Prop := placeMostRow.holds Try.pinned (OpenSpec.ofChange placeMostWrong)

/-- 'rotalaw16.PlaceNames': WHATEVER THE INPUT: true; the input reads as it did. -/
def placeNamesSpec : ChangeSpec := { name := "placeNames", fn := fun _ => fun
  | [] => { results := [.lit (.bool true)], args := [] }
  | _ => none }
def placeNamesRow : OpenClaim := { program := "ytnbcnkpcmjkglaa", sum := "032c03008b39fa9df5f7dbea7eadc6fdfb6166fe281aa25c1e71e1b3c70a9f3a", func := "rota/rotalaw16.PlaceNames", spec := "placeNames", unfollowed := true, recurses := true, apart := false }
def PlaceNamesSaid : Prop := placeNamesRow.holds Try.pinned (OpenSpec.ofChange placeNamesSpec)

/-- ITS FALSE NEIGHBOUR: 'it returns false'. Refute it at one input. -/
def placeNamesWrong : ChangeSpec := { name := "placeNames", fn := fun _ => fun
  | [] => { results := [.lit (.bool false)], args := [] }
  | _ => none }
def PlaceNamesWrongFalsely : Prop := placeNamesRow.holds Try.pinned (OpenSpec.ofChange placeNamesWrong)

/- THE SECOND FORM. 'bulk': how many values and letters a reading holds, each counted each time it is reached (what is shared counts as often as it is met; a slice's spare places count too). A statement '..UptoSaid' is the law's where the arguments, and the package variables that the reading takes, are together of bulk at most 1048576: NARROWER than '..Said'. Prove '..Said' where nothing that the law and all that it calls make is longer than what came in: it says more and counts as full. Else prove '..UptoSaid'. A law counts once. -/
mutual
def uptoBulk {H : Type} : DataW H → Nat
  | .lit (.string bytes) => bytes.length + 1
  | .lit _ => 1
  | .nil => 1
  | .ptr d => uptoBulk d + 1
  | .slice elems spare => uptoBulkAll elems + uptoBulkAll spare + 1
  | .agg parts => uptoBulkAll parts + 1
  | .iface _ d => uptoBulk d + 1
  | .map entries => uptoBulkEntries entries + 1
  | .held _ => 1
def uptoBulkAll {H : Type} : List (DataW H) → Nat
  | [] => 0
  | d :: r => uptoBulk d + uptoBulkAll r
def uptoBulkEntries {H : Type} : List (Lit × DataW H) → Nat
  | [] => 0
  | x :: r => uptoBulkEntry x + uptoBulkEntries r
def uptoBulkEntry {H : Type} : Lit × DataW H → Nat
  | (.string bytes, d) => bytes.length + uptoBulk d + 1
  | (_, d) => uptoBulk d + 1
 end
def uptoSmall : (H : Type) → List (DataW H) → Bool := fun _ ds => decide (uptoBulkAll ds ≤ 1048576)
def OpenSpec.upto (s : _root_.Go.ChangeSpec) : _root_.Go.OpenSpec := { _root_.Go.OpenSpec.ofChange s with cond := some uptoSmall }

/-- 'rotalaw16.PlaceLess', WHERE WHAT IT READS IS OF BULK AT MOST 1048576: true; the input reads as it did. -/
def placeLessUptoRow : OpenClaim := { program := "ytnbcnkpcmjkglaa", sum := "032c03008b39fa9df5f7dbea7eadc6fdfb6166fe281aa25c1e71e1b3c70a9f3a", func := "rota/rotalaw16.PlaceLess", spec := "placeLess", unfollowed := true, recurses := true, apart := false, narrowed := true }
def PlaceLessUptoSaid : Prop := placeLessUptoRow.holds Try.pinned (OpenSpec.upto placeLessSpec)

/-- 'rotalaw16.PlaceFree', WHERE WHAT IT READS IS OF BULK AT MOST 1048576: true; the input reads as it did. -/
def placeFreeUptoRow : OpenClaim := { program := "ytnbcnkpcmjkglaa", sum := "032c03008b39fa9df5f7dbea7eadc6fdfb6166fe281aa25c1e71e1b3c70a9f3a", func := "rota/rotalaw16.PlaceFree", spec := "placeFree", unfollowed := true, recurses := true, apart := false, narrowed := true }
def PlaceFreeUptoSaid : Prop := placeFreeUptoRow.holds Try.pinned (OpenSpec.upto placeFreeSpec)

/-- 'rotalaw16.PlaceFits', WHERE WHAT IT READS IS OF BULK AT MOST 1048576: true; the input reads as it did. -/
def placeFitsUptoRow : OpenClaim := { program := "ytnbcnkpcmjkglaa", sum := "032c03008b39fa9df5f7dbea7eadc6fdfb6166fe281aa25c1e71e1b3c70a9f3a", func := "rota/rotalaw16.PlaceFits", spec := "placeFits", unfollowed := true, recurses := true, apart := false, narrowed := true }
def PlaceFitsUptoSaid : Prop := placeFitsUptoRow.holds Try.pinned (OpenSpec.upto placeFitsSpec)

/-- 'rotalaw16.PlaceApart', WHERE WHAT IT READS IS OF BULK AT MOST 1048576: true; the input reads as it did. -/
def placeApartUptoRow : OpenClaim := { program := "ytnbcnkpcmjkglaa", sum := "032c03008b39fa9df5f7dbea7eadc6fdfb6166fe281aa25c1e71e1b3c70a9f3a", func := "rota/rotalaw16.PlaceApart", spec := "placeApart", unfollowed := true, recurses := true, apart := false, narrowed := true }
def PlaceApartUptoSaid : Prop := placeApartUptoRow.holds Try.pinned (OpenSpec.upto placeApartSpec)

/-- 'rotalaw16.PlaceMost', WHERE WHAT IT READS IS OF BULK AT MOST 1048576: true; the input reads as it did. -/
def placeMostUptoRow : OpenClaim := { program := "ytnbcnkpcmjkglaa", sum := "032c03008b39fa9df5f7dbea7eadc6fdfb6166fe281aa25c1e71e1b3c70a9f3a", func := "rota/rotalaw16.PlaceMost", spec := "placeMost", unfollowed := true, recurses := true, apart := false, narrowed := true }
def PlaceMostUptoSaid : Prop := placeMostUptoRow.holds Try.pinned (OpenSpec.upto placeMostSpec)

/-- 'rotalaw16.PlaceNames', WHERE WHAT IT READS IS OF BULK AT MOST 1048576: true; the input reads as it did. -/
def placeNamesUptoRow : OpenClaim := { program := "ytnbcnkpcmjkglaa", sum := "032c03008b39fa9df5f7dbea7eadc6fdfb6166fe281aa25c1e71e1b3c70a9f3a", func := "rota/rotalaw16.PlaceNames", spec := "placeNames", unfollowed := true, recurses := true, apart := false, narrowed := true }
def PlaceNamesUptoSaid : Prop := placeNamesUptoRow.holds Try.pinned (OpenSpec.upto placeNamesSpec)

end Rows
end Go.Proofs.Ytnbcnkpcmjkglaa
