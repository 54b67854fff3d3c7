/-
  No cell of these rows narrows 'for every input' (looked for: loops, veiled, ifaces, maps, wideKeys, modest, calm, conditions, laid).
  DERIVED. THE GIVEN ROWS OF THIS SEAT. 9 by the template 'for every input the law returns true; each argument reads behind the call as it read before'; 0 by the template 'total and deterministic' (their statements: YtehbabkgaecoaaaTotals.lean).
  GIVEN WITH THE SEED: the statements are not yours to turn. If you find one false, say at which input.
  Laid BY PROGRAM, IN A SANDBOX (cutbox-rows.mjs): the forced cells as the released guide's own fill.sh prints them over the translation 6f6243613b4d4cf9… (all of the seat's roots in one cut). By AI agents, Wed Nov 11 2026. No macro, syntax, notation, axiom, sorry.
-/
import Derived.Test.YtehbabkgaecoaaaChecked
import GoSem.Claim
import GoSem.ClaimJoined
import GoSem.ClaimMapViews
import Derived.JoinedTies
import Derived.KernelRfl
namespace Go.Proofs.Ytehbabkgaecoaaa
/- THE CELL 'sum', in the pinned program and in every row, IS THE sha256 OF THE DUMP (.gsa) THAT YtehbabkgaecoaaaProg.lean LOADS. Nothing in Lean hashes anything: it is a label: what it is worth is what the hold of that sum in a sandbox is worth. -/
noncomputable def Try.pinned : Pinned := { name := "ytehbabkgaecoaaa", sum := "6f6243613b4d4cf9b021fd434e152964ba067155412eb548efdc7f7692d75073", checked := Try.checked }
namespace Rows
def none {H : Type} : Left H := { results := [], args := [] }

/-- 'rotalaw02.ConfigReads': WHATEVER THE INPUT: true; the input reads as it did. -/
def configReadsSpec : ChangeSpec := { name := "configReads", fn := fun _ => fun
  | [d] => { results := [.lit (.bool true)], args := [d] }
  | _ => none }
def configReadsRow : OpenClaim := { program := "ytehbabkgaecoaaa", sum := "6f6243613b4d4cf9b021fd434e152964ba067155412eb548efdc7f7692d75073", func := "rota/rotalaw02.ConfigReads", spec := "configReads", unfollowed := true, recurses := true, apart := false }
def ConfigReadsSaid : Prop := configReadsRow.holds Try.pinned (OpenSpec.ofChange configReadsSpec)

/-- ITS FALSE NEIGHBOUR: 'it returns false'. Refute it at one input. -/
def configReadsWrong : ChangeSpec := { name := "configReads", fn := fun _ => fun
  | [d] => { results := [.lit (.bool false)], args := [d] }
  | _ => none }
def ConfigReadsWrongFalsely : Prop := configReadsRow.holds Try.pinned (OpenSpec.ofChange configReadsWrong)

/-- 'rotalaw02.ConfigWrites': WHATEVER THE INPUT: true; the input reads as it did. -/
def configWritesSpec : ChangeSpec := { name := "configWrites", fn := fun _ => fun
  | [d] => { results := [.lit (.bool true)], args := [d] }
  | _ => none }
def configWritesRow : OpenClaim := { program := "ytehbabkgaecoaaa", sum := "6f6243613b4d4cf9b021fd434e152964ba067155412eb548efdc7f7692d75073", func := "rota/rotalaw02.ConfigWrites", spec := "configWrites", unfollowed := true, recurses := true, apart := false }
def ConfigWritesSaid : Prop := configWritesRow.holds Try.pinned (OpenSpec.ofChange configWritesSpec)

/-- ITS FALSE NEIGHBOUR: 'it returns false'. Refute it at one input. -/
def configWritesWrong : ChangeSpec := { name := "configWrites", fn := fun _ => fun
  | [d] => { results := [.lit (.bool false)], args := [d] }
  | _ => none }
def ConfigWritesWrongFalsely : Prop := configWritesRow.holds Try.pinned (OpenSpec.ofChange configWritesWrong)

/-- 'rotalaw02.ConfigChecks': WHATEVER THE INPUT: true; the input reads as it did. -/
def configChecksSpec : ChangeSpec := { name := "configChecks", fn := fun _ => fun
  | [d1, d2, d3] => { results := [.lit (.bool true)], args := [d1, d2, d3] }
  | _ => none }
def configChecksRow : OpenClaim := { program := "ytehbabkgaecoaaa", sum := "6f6243613b4d4cf9b021fd434e152964ba067155412eb548efdc7f7692d75073", func := "rota/rotalaw02.ConfigChecks", spec := "configChecks", unfollowed := true, recurses := true, apart := false }
def ConfigChecksSaid : Prop := configChecksRow.holds Try.pinned (OpenSpec.ofChange configChecksSpec)

/-- ITS FALSE NEIGHBOUR: 'it returns false'. Refute it at one input. -/
def configChecksWrong : ChangeSpec := { name := "configChecks", fn := fun _ => fun
  | [d1, d2, d3] => { results := [.lit (.bool false)], args := [d1, d2, d3] }
  | _ => none }
def ConfigChecksWrongFalsely : Prop := configChecksRow.holds Try.pinned (OpenSpec.ofChange configChecksWrong)

/-- 'rotalaw02.ConfigReaches': WHATEVER THE INPUT: true; the input reads as it did. -/
def configReachesSpec : ChangeSpec := { name := "configReaches", fn := fun _ => fun
  | [d] => { results := [.lit (.bool true)], args := [d] }
  | _ => none }
def configReachesRow : OpenClaim := { program := "ytehbabkgaecoaaa", sum := "6f6243613b4d4cf9b021fd434e152964ba067155412eb548efdc7f7692d75073", func := "rota/rotalaw02.ConfigReaches", spec := "configReaches", unfollowed := true, recurses := true, apart := false }
def ConfigReachesSaid : Prop := configReachesRow.holds Try.pinned (OpenSpec.ofChange configReachesSpec)

/-- ITS FALSE NEIGHBOUR: 'it returns false'. Refute it at one input. -/
def configReachesWrong : ChangeSpec := { name := "configReaches", fn := fun _ => fun
  | [d] => { results := [.lit (.bool false)], args := [d] }
  | _ => none }
def ConfigReachesWrongFalsely : Prop := configReachesRow.holds Try.pinned (OpenSpec.ofChange configReachesWrong)

/-- 'rotalaw02.ConfigTurns': WHATEVER THE INPUT: true; the input reads as it did. -/
def configTurnsSpec : ChangeSpec := { name := "configTurns", fn := fun _ => fun
  | [d1, d2, d3] => { results := [.lit (.bool true)], args := [d1, d2, d3] }
  | _ => none }
def configTurnsRow : OpenClaim := { program := "ytehbabkgaecoaaa", sum := "6f6243613b4d4cf9b021fd434e152964ba067155412eb548efdc7f7692d75073", func := "rota/rotalaw02.ConfigTurns", spec := "configTurns", unfollowed := true, recurses := true, apart := false }
def ConfigTurnsSaid : Prop := configTurnsRow.holds Try.pinned (OpenSpec.ofChange configTurnsSpec)

/-- ITS FALSE NEIGHBOUR: 'it returns false'. Refute it at one input. -/
def configTurnsWrong : ChangeSpec := { name := "configTurns", fn := fun _ => fun
  | [d1, d2, d3] => { results := [.lit (.bool false)], args := [d1, d2, d3] }
  | _ => none }
def ConfigTurnsWrongFalsely : Prop := configTurnsRow.holds Try.pinned (OpenSpec.ofChange configTurnsWrong)

/-- 'rotalaw02.ConfigSpoilt': WHATEVER THE INPUT: true; the input reads as it did. -/
def configSpoiltSpec : ChangeSpec := { name := "configSpoilt", fn := fun _ => fun
  | [d1, d2] => { results := [.lit (.bool true)], args := [d1, d2] }
  | _ => none }
def configSpoiltRow : OpenClaim := { program := "ytehbabkgaecoaaa", sum := "6f6243613b4d4cf9b021fd434e152964ba067155412eb548efdc7f7692d75073", func := "rota/rotalaw02.ConfigSpoilt", spec := "configSpoilt", unfollowed := true, recurses := true, apart := false }
def ConfigSpoiltSaid : Prop := configSpoiltRow.holds Try.pinned (OpenSpec.ofChange configSpoiltSpec)

/-- ITS FALSE NEIGHBOUR: 'it returns false'. Refute it at one input. -/
def configSpoiltWrong : ChangeSpec := { name := "configSpoilt", fn := fun _ => fun
  | [d1, d2] => { results := [.lit (.bool false)], args := [d1, d2] }
  | _ => none }
def ConfigSpoiltWrongFalsely : Prop := configSpoiltRow.holds Try.pinned (OpenSpec.ofChange configSpoiltWrong)

/-- 'rotalaw02.ConfigClosed': WHATEVER THE INPUT: true; the input reads as it did. -/
def configClosedSpec : ChangeSpec := { name := "configClosed", fn := fun _ => fun
  | [d] => { results := [.lit (.bool true)], args := [d] }
  | _ => none }
def configClosedRow : OpenClaim := { program := "ytehbabkgaecoaaa", sum := "6f6243613b4d4cf9b021fd434e152964ba067155412eb548efdc7f7692d75073", func := "rota/rotalaw02.ConfigClosed", spec := "configClosed", unfollowed := true, recurses := true, apart := false }
def ConfigClosedSaid : Prop := configClosedRow.holds Try.pinned (OpenSpec.ofChange configClosedSpec)

/-- ITS FALSE NEIGHBOUR: 'it returns false'. Refute it at one input. -/
def configClosedWrong : ChangeSpec := { name := "configClosed", fn := fun _ => fun
  | [d] => { results := [.lit (.bool false)], args := [d] }
  | _ => none }
def ConfigClosedWrongFalsely : Prop := configClosedRow.holds Try.pinned (OpenSpec.ofChange configClosedWrong)

/-- 'rotalaw02.ConfigBack': WHATEVER THE INPUT: true; the input reads as it did. -/
def configBackSpec : ChangeSpec := { name := "configBack", fn := fun _ => fun
  | [d1, d2] => { results := [.lit (.bool true)], args := [d1, d2] }
  | _ => none }
def configBackRow : OpenClaim := { program := "ytehbabkgaecoaaa", sum := "6f6243613b4d4cf9b021fd434e152964ba067155412eb548efdc7f7692d75073", func := "rota/rotalaw02.ConfigBack", spec := "configBack", unfollowed := true, recurses := true, apart := false }
def ConfigBackSaid : Prop := configBackRow.holds Try.pinned (OpenSpec.ofChange configBackSpec)

/-- ITS FALSE NEIGHBOUR: 'it returns false'. Refute it at one input. -/
def configBackWrong : ChangeSpec := { name := "configBack", fn := fun _ => fun
  | [d1, d2] => { results := [.lit (.bool false)], args := [d1, d2] }
  | _ => none }
def ConfigBackWrongFalsely : Prop := configBackRow.holds Try.pinned (OpenSpec.ofChange configBackWrong)

/-- 'rotalaw02.ConfigNames': WHATEVER THE INPUT: true; the input reads as it did. -/
def configNamesSpec : ChangeSpec := { name := "configNames", fn := fun _ => fun
  | [] => { results := [.lit (.bool true)], args := [] }
  | _ => none }
def configNamesRow : OpenClaim := { program := "ytehbabkgaecoaaa", sum := "6f6243613b4d4cf9b021fd434e152964ba067155412eb548efdc7f7692d75073", func := "rota/rotalaw02.ConfigNames", spec := "configNames", unfollowed := true, recurses := true, apart := false }
def ConfigNamesSaid : Prop := configNamesRow.holds Try.pinned (OpenSpec.ofChange configNamesSpec)

/-- ITS FALSE NEIGHBOUR: 'it returns false'. Refute it at one input. -/
def configNamesWrong : ChangeSpec := { name := "configNames", fn := fun _ => fun
  | [] => { results := [.lit (.bool false)], args := [] }
  | _ => none }
def ConfigNamesWrongFalsely : Prop := configNamesRow.holds Try.pinned (OpenSpec.ofChange configNamesWrong)

/- THE SECOND FORM. 'bulk': how many values and letters a reading holds, each counted each time it is reached (what is shared counts as often as it is met; a slice's spare places count too). A statement '..UptoSaid' is the law's where the arguments, and the package variables that the reading takes, are together of bulk at most 1048576: NARROWER than '..Said'. Prove '..Said' where nothing that the law and all that it calls make is longer than what came in: it says more and counts as full. Else prove '..UptoSaid'. A law counts once. -/
mutual
def uptoBulk {H : Type} : DataW H → Nat
  | .lit (.string bytes) => bytes.length + 1
  | .lit _ => 1
  | .nil => 1
  | .ptr d => uptoBulk d + 1
  | .slice elems spare => uptoBulkAll elems + uptoBulkAll spare + 1
  | .agg parts => uptoBulkAll parts + 1
  | .iface _ d => uptoBulk d + 1
  | .map entries => uptoBulkEntries entries + 1
  | .held _ => 1
def uptoBulkAll {H : Type} : List (DataW H) → Nat
  | [] => 0
  | d :: r => uptoBulk d + uptoBulkAll r
def uptoBulkEntries {H : Type} : List (Lit × DataW H) → Nat
  | [] => 0
  | x :: r => uptoBulkEntry x + uptoBulkEntries r
def uptoBulkEntry {H : Type} : Lit × DataW H → Nat
  | (.string bytes, d) => bytes.length + uptoBulk d + 1
  | (_, d) => uptoBulk d + 1
 end
def uptoSmall : (H : Type) → List (DataW H) → Bool := fun _ ds => decide (uptoBulkAll ds ≤ 1048576)
def OpenSpec.upto (s : _root_.Go.ChangeSpec) : _root_.Go.OpenSpec := { _root_.Go.OpenSpec.ofChange s with cond := some uptoSmall }

/-- 'rotalaw02.ConfigReads', WHERE WHAT IT READS IS OF BULK AT MOST 1048576: true; the input reads as it did. -/
def configReadsUptoRow : OpenClaim := { program := "ytehbabkgaecoaaa", sum := "6f6243613b4d4cf9b021fd434e152964ba067155412eb548efdc7f7692d75073", func := "rota/rotalaw02.ConfigReads", spec := "configReads", unfollowed := true, recurses := true, apart := false, narrowed := true }
def ConfigReadsUptoSaid : Prop := configReadsUptoRow.holds Try.pinned (OpenSpec.upto configReadsSpec)

/-- 'rotalaw02.ConfigWrites', WHERE WHAT IT READS IS OF BULK AT MOST 1048576: true; the input reads as it did. -/
def configWritesUptoRow : OpenClaim := { program := "ytehbabkgaecoaaa", sum := "6f6243613b4d4cf9b021fd434e152964ba067155412eb548efdc7f7692d75073", func := "rota/rotalaw02.ConfigWrites", spec := "configWrites", unfollowed := true, recurses := true, apart := false, narrowed := true }
def ConfigWritesUptoSaid : Prop := configWritesUptoRow.holds Try.pinned (OpenSpec.upto configWritesSpec)

/-- 'rotalaw02.ConfigChecks', WHERE WHAT IT READS IS OF BULK AT MOST 1048576: true; the input reads as it did. -/
def configChecksUptoRow : OpenClaim := { program := "ytehbabkgaecoaaa", sum := "6f6243613b4d4cf9b021fd434e152964ba067155412eb548efdc7f7692d75073", func := "rota/rotalaw02.ConfigChecks", spec := "configChecks", unfollowed := true, recurses := true, apart := false, narrowed := true }
def ConfigChecksUptoSaid : Prop := configChecksUptoRow.holds Try.pinned (OpenSpec.upto configChecksSpec)

/-- 'rotalaw02.ConfigReaches', WHERE WHAT IT READS IS OF BULK AT MOST 1048576: true; the input reads as it did. -/
def configReachesUptoRow : OpenClaim := { program := "ytehbabkgaecoaaa", sum := "6f6243613b4d4cf9b021fd434e152964ba067155412eb548efdc7f7692d75073", func := "rota/rotalaw02.ConfigReaches", spec := "configReaches", unfollowed := true, recurses := true, apart := false, narrowed := true }
def ConfigReachesUptoSaid : Prop := configReachesUptoRow.holds Try.pinned (OpenSpec.upto configReachesSpec)

/-- 'rotalaw02.ConfigTurns', WHERE WHAT IT READS IS OF BULK AT MOST 1048576: true; the input reads as it did. -/
def configTurnsUptoRow : OpenClaim := { program := "ytehbabkgaecoaaa", sum := "6f6243613b4d4cf9b021fd434e152964ba067155412eb548efdc7f7692d75073", func := "rota/rotalaw02.ConfigTurns", spec := "configTurns", unfollowed := true, recurses := true, apart := false, narrowed := true }
def ConfigTurnsUptoSaid : Prop := configTurnsUptoRow.holds Try.pinned (OpenSpec.upto configTurnsSpec)

/-- 'rotalaw02.ConfigSpoilt', WHERE WHAT IT READS IS OF BULK AT MOST 1048576: true; the input reads as it did. -/
def configSpoiltUptoRow : OpenClaim := { program := "ytehbabkgaecoaaa", sum := "6f6243613b4d4cf9b021fd434e152964ba067155412eb548efdc7f7692d75073", func := "rota/rotalaw02.ConfigSpoilt", spec := "configSpoilt", unfollowed := true, recurses := true, apart := false, narrowed := true }
def ConfigSpoiltUptoSaid : Prop := configSpoiltUptoRow.holds Try.pinned (OpenSpec.upto configSpoiltSpec)

/-- 'rotalaw02.ConfigClosed', WHERE WHAT IT READS IS OF BULK AT MOST 1048576: true; the input reads as it did. -/
def configClosedUptoRow : OpenClaim := { program := "ytehbabkgaecoaaa", sum := "6f6243613b4d4cf9b021fd434e152964ba067155412eb548efdc7f7692d75073", func := "rota/rotalaw02.ConfigClosed", spec := "configClosed", unfollowed := true, recurses := true, apart := false, narrowed := true }
def ConfigClosedUptoSaid : Prop := configClosedUptoRow.holds Try.pinned (OpenSpec.upto configClosedSpec)

/-- 'rotalaw02.ConfigBack', WHERE WHAT IT READS IS OF BULK AT MOST 1048576: true; the input reads as it did. -/
def configBackUptoRow : OpenClaim := { program := "ytehbabkgaecoaaa", sum := "6f6243613b4d4cf9b021fd434e152964ba067155412eb548efdc7f7692d75073", func := "rota/rotalaw02.ConfigBack", spec := "configBack", unfollowed := true, recurses := true, apart := false, narrowed := true }
def ConfigBackUptoSaid : Prop := configBackUptoRow.holds Try.pinned (OpenSpec.upto configBackSpec)

/-- 'rotalaw02.ConfigNames', WHERE WHAT IT READS IS OF BULK AT MOST 1048576: true; the input reads as it did. -/
def configNamesUptoRow : OpenClaim := { program := "ytehbabkgaecoaaa", sum := "6f6243613b4d4cf9b021fd434e152964ba067155412eb548efdc7f7692d75073", func := "rota/rotalaw02.ConfigNames", spec := "configNames", unfollowed := true, recurses := true, apart := false, narrowed := true }
def ConfigNamesUptoSaid : Prop := configNamesUptoRow.holds Try.pinned (OpenSpec.upto configNamesSpec)

end Rows
end Go.Proofs.Ytehbabkgaecoaaa
