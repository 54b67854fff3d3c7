/-
  No cell of these rows narrows 'for every input' (looked for: loops, veiled, ifaces, maps, wideKeys, modest, calm, conditions, laid).
  DERIVED. THE GIVEN ROWS OF THIS SEAT. 7 by the template 'for every input the law returns true; each argument reads behind the call as it read before'; 0 by the template 'total and deterministic' (their statements: YtloibbfihkfeeaaTotals.lean).
  GIVEN WITH THE SEED: the statements are not yours to turn. If you find one false, say at which input.
  Laid BY PROGRAM, IN A SANDBOX (cutbox-rows.mjs): the forced cells as the released guide's own fill.sh prints them over the translation ad44efd475dd8f5c… (all of the seat's roots in one cut). By AI agents, Wed Nov 11 2026. No macro, syntax, notation, axiom, sorry.
-/
import Derived.Test.YtloibbfihkfeeaaChecked
import GoSem.Claim
import GoSem.ClaimJoined
import GoSem.ClaimMapViews
import Derived.JoinedTies
import Derived.KernelRfl
namespace Go.Proofs.Ytloibbfihkfeeaa
/- THE CELL 'sum', in the pinned program and in every row, IS THE sha256 OF THE DUMP (.gsa) THAT YtloibbfihkfeeaaProg.lean LOADS. Nothing in Lean hashes anything: it is a label: what it is worth is what the hold of that sum in a sandbox is worth. -/
noncomputable def Try.pinned : Pinned := { name := "ytloibbfihkfeeaa", sum := "ad44efd475dd8f5ccbe66d70e7511372b6c8544e9585bfebfb1d350afe8033bb", checked := Try.checked }
namespace Rows
def none {H : Type} : Left H := { results := [], args := [] }

/-- 'rotalaw20.GuardPlans': WHATEVER THE INPUT: true; the input reads as it did. -/
def guardPlansSpec : ChangeSpec := { name := "guardPlans", fn := fun _ => fun
  | [d1, d2, d3] => { results := [.lit (.bool true)], args := [d1, d2, d3] }
  | _ => none }
def guardPlansRow : OpenClaim := { program := "ytloibbfihkfeeaa", sum := "ad44efd475dd8f5ccbe66d70e7511372b6c8544e9585bfebfb1d350afe8033bb", func := "rota/rotalaw20.GuardPlans", spec := "guardPlans", unfollowed := true, recurses := true, apart := false }
def GuardPlansSaid : Prop := guardPlansRow.holds Try.pinned (OpenSpec.ofChange guardPlansSpec)

/-- ITS FALSE NEIGHBOUR: 'it returns false'. Refute it at one input. -/
def guardPlansWrong : ChangeSpec := { name := "guardPlans", fn := fun _ => fun
  | [d1, d2, d3] => { results := [.lit (.bool false)], args := [d1, d2, d3] }
  | _ => none }
def GuardPlansWrongFalsely : Prop := guardPlansRow.holds Try.pinned (OpenSpec.ofChange guardPlansWrong)

/-- 'rotalaw20.GuardLets': WHATEVER THE INPUT: true; the input reads as it did. -/
def guardLetsSpec : ChangeSpec := { name := "guardLets", fn := fun _ => fun
  | [d1, d2, d3] => { results := [.lit (.bool true)], args := [d1, d2, d3] }
  | _ => none }
def guardLetsRow : OpenClaim := { program := "ytloibbfihkfeeaa", sum := "ad44efd475dd8f5ccbe66d70e7511372b6c8544e9585bfebfb1d350afe8033bb", func := "rota/rotalaw20.GuardLets", spec := "guardLets", unfollowed := true, recurses := true, apart := false }
def GuardLetsSaid : Prop := guardLetsRow.holds Try.pinned (OpenSpec.ofChange guardLetsSpec)

/-- ITS FALSE NEIGHBOUR: 'it returns false'. Refute it at one input. -/
def guardLetsWrong : ChangeSpec := { name := "guardLets", fn := fun _ => fun
  | [d1, d2, d3] => { results := [.lit (.bool false)], args := [d1, d2, d3] }
  | _ => none }
def GuardLetsWrongFalsely : Prop := guardLetsRow.holds Try.pinned (OpenSpec.ofChange guardLetsWrong)

/-- 'rotalaw20.GuardOthers': WHATEVER THE INPUT: true; the input reads as it did. -/
def guardOthersSpec : ChangeSpec := { name := "guardOthers", fn := fun _ => fun
  | [d1, d2, d3] => { results := [.lit (.bool true)], args := [d1, d2, d3] }
  | _ => none }
def guardOthersRow : OpenClaim := { program := "ytloibbfihkfeeaa", sum := "ad44efd475dd8f5ccbe66d70e7511372b6c8544e9585bfebfb1d350afe8033bb", func := "rota/rotalaw20.GuardOthers", spec := "guardOthers", unfollowed := true, recurses := true, apart := false }
def GuardOthersSaid : Prop := guardOthersRow.holds Try.pinned (OpenSpec.ofChange guardOthersSpec)

/-- ITS FALSE NEIGHBOUR: 'it returns false'. Refute it at one input. -/
def guardOthersWrong : ChangeSpec := { name := "guardOthers", fn := fun _ => fun
  | [d1, d2, d3] => { results := [.lit (.bool false)], args := [d1, d2, d3] }
  | _ => none }
def GuardOthersWrongFalsely : Prop := guardOthersRow.holds Try.pinned (OpenSpec.ofChange guardOthersWrong)

/-- 'rotalaw20.GuardShifted': WHATEVER THE INPUT: true; the input reads as it did. -/
def guardShiftedSpec : ChangeSpec := { name := "guardShifted", fn := fun _ => fun
  | [d1, d2, d3] => { results := [.lit (.bool true)], args := [d1, d2, d3] }
  | _ => none }
def guardShiftedRow : OpenClaim := { program := "ytloibbfihkfeeaa", sum := "ad44efd475dd8f5ccbe66d70e7511372b6c8544e9585bfebfb1d350afe8033bb", func := "rota/rotalaw20.GuardShifted", spec := "guardShifted", unfollowed := true, recurses := true, apart := false }
def GuardShiftedSaid : Prop := guardShiftedRow.holds Try.pinned (OpenSpec.ofChange guardShiftedSpec)

/-- ITS FALSE NEIGHBOUR: 'it returns false'. Refute it at one input. -/
def guardShiftedWrong : ChangeSpec := { name := "guardShifted", fn := fun _ => fun
  | [d1, d2, d3] => { results := [.lit (.bool false)], args := [d1, d2, d3] }
  | _ => none }
def GuardShiftedWrongFalsely : Prop := guardShiftedRow.holds Try.pinned (OpenSpec.ofChange guardShiftedWrong)

/-- 'rotalaw20.GuardNames': WHATEVER THE INPUT: true; the input reads as it did. -/
def guardNamesSpec : ChangeSpec := { name := "guardNames", fn := fun _ => fun
  | [] => { results := [.lit (.bool true)], args := [] }
  | _ => none }
def guardNamesRow : OpenClaim := { program := "ytloibbfihkfeeaa", sum := "ad44efd475dd8f5ccbe66d70e7511372b6c8544e9585bfebfb1d350afe8033bb", func := "rota/rotalaw20.GuardNames", spec := "guardNames", unfollowed := true, recurses := true, apart := false }
def GuardNamesSaid : Prop := guardNamesRow.holds Try.pinned (OpenSpec.ofChange guardNamesSpec)

/-- ITS FALSE NEIGHBOUR: 'it returns false'. Refute it at one input. -/
def guardNamesWrong : ChangeSpec := { name := "guardNames", fn := fun _ => fun
  | [] => { results := [.lit (.bool false)], args := [] }
  | _ => none }
def GuardNamesWrongFalsely : Prop := guardNamesRow.holds Try.pinned (OpenSpec.ofChange guardNamesWrong)

/-- 'rotalaw20.GuardHonest': WHATEVER THE INPUT: true; the input reads as it did. -/
def guardHonestSpec : ChangeSpec := { name := "guardHonest", fn := fun _ => fun
  | [d1, d2, d3] => { results := [.lit (.bool true)], args := [d1, d2, d3] }
  | _ => none }
def guardHonestRow : OpenClaim := { program := "ytloibbfihkfeeaa", sum := "ad44efd475dd8f5ccbe66d70e7511372b6c8544e9585bfebfb1d350afe8033bb", func := "rota/rotalaw20.GuardHonest", spec := "guardHonest", unfollowed := true, recurses := true, apart := false }
def GuardHonestSaid : Prop := guardHonestRow.holds Try.pinned (OpenSpec.ofChange guardHonestSpec)

/-- ITS FALSE NEIGHBOUR: 'it returns false'. Refute it at one input. -/
def guardHonestWrong : ChangeSpec := { name := "guardHonest", fn := fun _ => fun
  | [d1, d2, d3] => { results := [.lit (.bool false)], args := [d1, d2, d3] }
  | _ => none }
def GuardHonestWrongFalsely : Prop := guardHonestRow.holds Try.pinned (OpenSpec.ofChange guardHonestWrong)

/-- 'rotalaw20.GuardApart': WHATEVER THE INPUT: true; the input reads as it did. -/
def guardApartSpec : ChangeSpec := { name := "guardApart", fn := fun _ => fun
  | [d1, d2, d3] => { results := [.lit (.bool true)], args := [d1, d2, d3] }
  | _ => none }
def guardApartRow : OpenClaim := { program := "ytloibbfihkfeeaa", sum := "ad44efd475dd8f5ccbe66d70e7511372b6c8544e9585bfebfb1d350afe8033bb", func := "rota/rotalaw20.GuardApart", spec := "guardApart", unfollowed := true, recurses := true, apart := false }
def GuardApartSaid : Prop := guardApartRow.holds Try.pinned (OpenSpec.ofChange guardApartSpec)

/-- ITS FALSE NEIGHBOUR: 'it returns false'. Refute it at one input. -/
def guardApartWrong : ChangeSpec := { name := "guardApart", fn := fun _ => fun
  | [d1, d2, d3] => { results := [.lit (.bool false)], args := [d1, d2, d3] }
  | _ => none }
def GuardApartWrongFalsely : Prop := guardApartRow.holds Try.pinned (OpenSpec.ofChange guardApartWrong)

/- THE SECOND FORM. 'bulk': how many values and letters a reading holds, each counted each time it is reached (what is shared counts as often as it is met; a slice's spare places count too). A statement '..UptoSaid' is the law's where the arguments, and the package variables that the reading takes, are together of bulk at most 1048576: NARROWER than '..Said'. Prove '..Said' where nothing that the law and all that it calls make is longer than what came in: it says more and counts as full. Else prove '..UptoSaid'. A law counts once. -/
mutual
def uptoBulk {H : Type} : DataW H → Nat
  | .lit (.string bytes) => bytes.length + 1
  | .lit _ => 1
  | .nil => 1
  | .ptr d => uptoBulk d + 1
  | .slice elems spare => uptoBulkAll elems + uptoBulkAll spare + 1
  | .agg parts => uptoBulkAll parts + 1
  | .iface _ d => uptoBulk d + 1
  | .map entries => uptoBulkEntries entries + 1
  | .held _ => 1
def uptoBulkAll {H : Type} : List (DataW H) → Nat
  | [] => 0
  | d :: r => uptoBulk d + uptoBulkAll r
def uptoBulkEntries {H : Type} : List (Lit × DataW H) → Nat
  | [] => 0
  | x :: r => uptoBulkEntry x + uptoBulkEntries r
def uptoBulkEntry {H : Type} : Lit × DataW H → Nat
  | (.string bytes, d) => bytes.length + uptoBulk d + 1
  | (_, d) => uptoBulk d + 1
 end
def uptoSmall : (H : Type) → List (DataW H) → Bool := fun _ ds => decide (uptoBulkAll ds ≤ 1048576)
def OpenSpec.upto (s : _root_.Go.ChangeSpec) : _root_.Go.OpenSpec := { _root_.Go.OpenSpec.ofChange s with cond := some uptoSmall }

/-- 'rotalaw20.GuardPlans', WHERE WHAT IT READS IS OF BULK AT MOST 1048576: true; the input reads as it did. -/
def guardPlansUptoRow : OpenClaim := { program := "ytloibbfihkfeeaa", sum := "ad44efd475dd8f5ccbe66d70e7511372b6c8544e9585bfebfb1d350afe8033bb", func := "rota/rotalaw20.GuardPlans", spec := "guardPlans", unfollowed := true, recurses := true, apart := false, narrowed := true }
def GuardPlansUptoSaid : Prop := guardPlansUptoRow.holds Try.pinned (OpenSpec.upto guardPlansSpec)

/-- 'rotalaw20.GuardLets', WHERE WHAT IT READS IS OF BULK AT MOST 1048576: true; the input reads as it did. -/
def guardLetsUptoRow : OpenClaim := { program := "ytloibbfihkfeeaa", sum := "ad44efd475dd8f5ccbe66d70e7511372b6c8544e9585bfebfb1d350afe8033bb", func := "rota/rotalaw20.GuardLets", spec := "guardLets", unfollowed := true, recurses := true, apart := false, narrowed := true }
def GuardLetsUptoSaid : Prop := guardLetsUptoRow.holds Try.pinned (OpenSpec.upto guardLetsSpec)

/-- 'rotalaw20.GuardOthers', WHERE WHAT IT READS IS OF BULK AT MOST 1048576: true; the input reads as it did. -/
def guardOthersUptoRow : OpenClaim := { program := "ytloibbfihkfeeaa", sum := "ad44efd475dd8f5ccbe66d70e7511372b6c8544e9585bfebfb1d350afe8033bb", func := "rota/rotalaw20.GuardOthers", spec := "guardOthers", unfollowed := true, recurses := true, apart := false, narrowed := true }
def GuardOthersUptoSaid : Prop := guardOthersUptoRow.holds Try.pinned (OpenSpec.upto guardOthersSpec)

/-- 'rotalaw20.GuardShifted', WHERE WHAT IT READS IS OF BULK AT MOST 1048576: true; the input reads as it did. -/
def guardShiftedUptoRow : OpenClaim := { program := "ytloibbfihkfeeaa", sum := "ad44efd475dd8f5ccbe66d70e7511372b6c8544e9585bfebfb1d350afe8033bb", func := "rota/rotalaw20.GuardShifted", spec := "guardShifted", unfollowed := true, recurses := true, apart := false, narrowed := true }
def GuardShiftedUptoSaid : Prop := guardShiftedUptoRow.holds Try.pinned (OpenSpec.upto guardShiftedSpec)

/-- 'rotalaw20.GuardNames', WHERE WHAT IT READS IS OF BULK AT MOST 1048576: true; the input reads as it did. -/
def guardNamesUptoRow : OpenClaim := { program := "ytloibbfihkfeeaa", sum := "ad44efd475dd8f5ccbe66d70e7511372b6c8544e9585bfebfb1d350afe8033bb", func := "rota/rotalaw20.GuardNames", spec := "guardNames", unfollowed := true, recurses := true, apart := false, narrowed := true }
def GuardNamesUptoSaid : Prop := guardNamesUptoRow.holds Try.pinned (OpenSpec.upto guardNamesSpec)

/-- 'rotalaw20.GuardHonest', WHERE WHAT IT READS IS OF BULK AT MOST 1048576: true; the input reads as it did. -/
def guardHonestUptoRow : OpenClaim := { program := "ytloibbfihkfeeaa", sum := "ad44efd475dd8f5ccbe66d70e7511372b6c8544e9585bfebfb1d350afe8033bb", func := "rota/rotalaw20.GuardHonest", spec := "guardHonest", unfollowed := true, recurses := true, apart := false, narrowed := true }
def GuardHonestUptoSaid : Prop := guardHonestUptoRow.holds Try.pinned (OpenSpec.upto guardHonestSpec)

/-- 'rotalaw20.GuardApart', WHERE WHAT IT READS IS OF BULK AT MOST 1048576: true; the input reads as it did. -/
def guardApartUptoRow : OpenClaim := { program := "ytloibbfihkfeeaa", sum := "ad44efd475dd8f5ccbe66d70e7511372b6c8544e9585bfebfb1d350afe8033bb", func := "rota/rotalaw20.GuardApart", spec := "guardApart", unfollowed := true, recurses := true, apart := false, narrowed := true }
def GuardApartUptoSaid : Prop := guardApartUptoRow.holds Try.pinned (OpenSpec.upto guardApartSpec)

end Rows
end Go.Proofs.Ytloibbfihkfeeaa
