/-
  NARROWER THAN 'FOR EVERY INPUT', by the rows' own cells (each row's printed sentence says how): SumParts: laid · SumLinear: laid · SumBursts: laid · SumSealed: laid · SumTells: laid · SumTable: laid · SumMeters: laid · SumNames: laid.
  DERIVED. THE GIVEN ROWS OF THIS SEAT. 8 by the template 'for every input the law returns true; each argument reads behind the call as it read before'; 0 by the template 'total and deterministic' (their statements: YtenbdejhakdihaaDoorTotals.lean).
  GIVEN WITH THE SEED: the statements are not yours to turn. If you find one false, say at which input.
  Laid BY PROGRAM, IN A SANDBOX (cutbox-rows.mjs): the forced cells as the released guide's own fill.sh prints them over the translation fbab9ff88c69a194… (all of the seat's roots in one cut). By AI agents, Wed Nov 11 2026. No macro, syntax, notation, axiom, sorry.
-/
import Derived.Test.YtenbdejhakdihaaDoorChecked
import GoSem.Claim
import GoSem.ClaimJoined
import GoSem.ClaimMapViews
import Derived.JoinedTies
import Derived.KernelRfl
namespace Go.Proofs.YtenbdejhakdihaaDoor
/- THE CELL 'sum', in the pinned program and in every row, IS THE sha256 OF THE DUMP (.gsa) THAT YtenbdejhakdihaaDoorProg.lean LOADS. Nothing in Lean hashes anything: it is a label: what it is worth is what the hold of that sum in a sandbox is worth. -/
noncomputable def Tryd.pinned : Pinned := { name := "ytenbdejhakdihaadoor", sum := "fbab9ff88c69a194b29caee5517dfc799a2cde44a20541d46cb277bbbb32d0af", checked := Tryd.checked }
namespace Rows
def none {H : Type} : Left H := { results := [], args := [] }

/- WHAT THE LISTED PACKAGE-LEVEL VARIABLES READ AS WHEN THE CALL BEGINS. Each datum BY PROGRAM (the guide's laid-datum.mjs) off the statement by which the dump's own 'gosem.cut.vars' lays the variable. In a bare row this is a premise. The card (YtenbdejhakdihaaDoorCards.lean) ties it to the program's text. -/
def laid_rota_sum_nibbles {H : Type} : DataW H := .agg [.lit (.int .u32 0), .lit (.int .u32 498536548), .lit (.int .u32 997073096), .lit (.int .u32 651767980), .lit (.int .u32 1994146192), .lit (.int .u32 1802195444), .lit (.int .u32 1303535960), .lit (.int .u32 1342533948), .lit (.int .u32 3988292384), .lit (.int .u32 4027552580), .lit (.int .u32 3604390888), .lit (.int .u32 3412177804), .lit (.int .u32 2607071920), .lit (.int .u32 2262029012), .lit (.int .u32 2685067896), .lit (.int .u32 3183342108)]

/-- 'rotalaw01.SumParts': WHATEVER THE INPUT: true; the input reads as it did. -/
def sumPartsSpec : ChangeSpec := { name := "sumParts", fn := fun _ => fun
  | [d1, d2, d3] => { results := [.lit (.bool true)], args := [d1, d2, d3] }
  | _ => none }
def sumPartsRow : OpenClaim := { program := "ytenbdejhakdihaadoor", sum := "fbab9ff88c69a194b29caee5517dfc799a2cde44a20541d46cb277bbbb32d0af", func := "rota/rotalaw01.SumParts", spec := "sumParts", named := ["rota/sum.nibbles"], apart := false, laid := [("rota/sum.nibbles", laid_rota_sum_nibbles)] }
def SumPartsSaid : Prop := sumPartsRow.holds Tryd.pinned (OpenSpec.ofChange sumPartsSpec)

/-- ITS FALSE NEIGHBOUR: 'it returns false'. Refute it at one input. -/
def sumPartsWrong : ChangeSpec := { name := "sumParts", fn := fun _ => fun
  | [d1, d2, d3] => { results := [.lit (.bool false)], args := [d1, d2, d3] }
  | _ => none }
def SumPartsWrongFalsely : Prop := sumPartsRow.holds Tryd.pinned (OpenSpec.ofChange sumPartsWrong)

/-- 'rotalaw01.SumLinear': WHATEVER THE INPUT: true; the input reads as it did. -/
def sumLinearSpec : ChangeSpec := { name := "sumLinear", fn := fun _ => fun
  | [d1, d2, d3] => { results := [.lit (.bool true)], args := [d1, d2, d3] }
  | _ => none }
def sumLinearRow : OpenClaim := { program := "ytenbdejhakdihaadoor", sum := "fbab9ff88c69a194b29caee5517dfc799a2cde44a20541d46cb277bbbb32d0af", func := "rota/rotalaw01.SumLinear", spec := "sumLinear", named := ["rota/sum.nibbles"], apart := false, laid := [("rota/sum.nibbles", laid_rota_sum_nibbles)] }
def SumLinearSaid : Prop := sumLinearRow.holds Tryd.pinned (OpenSpec.ofChange sumLinearSpec)

/-- ITS FALSE NEIGHBOUR: 'it returns false'. Refute it at one input. -/
def sumLinearWrong : ChangeSpec := { name := "sumLinear", fn := fun _ => fun
  | [d1, d2, d3] => { results := [.lit (.bool false)], args := [d1, d2, d3] }
  | _ => none }
def SumLinearWrongFalsely : Prop := sumLinearRow.holds Tryd.pinned (OpenSpec.ofChange sumLinearWrong)

/-- 'rotalaw01.SumBursts': WHATEVER THE INPUT: true; the input reads as it did. -/
def sumBurstsSpec : ChangeSpec := { name := "sumBursts", fn := fun _ => fun
  | [d1, d2, d3] => { results := [.lit (.bool true)], args := [d1, d2, d3] }
  | _ => none }
def sumBurstsRow : OpenClaim := { program := "ytenbdejhakdihaadoor", sum := "fbab9ff88c69a194b29caee5517dfc799a2cde44a20541d46cb277bbbb32d0af", func := "rota/rotalaw01.SumBursts", spec := "sumBursts", named := ["rota/sum.nibbles"], apart := false, laid := [("rota/sum.nibbles", laid_rota_sum_nibbles)] }
def SumBurstsSaid : Prop := sumBurstsRow.holds Tryd.pinned (OpenSpec.ofChange sumBurstsSpec)

/-- ITS FALSE NEIGHBOUR: 'it returns false'. Refute it at one input. -/
def sumBurstsWrong : ChangeSpec := { name := "sumBursts", fn := fun _ => fun
  | [d1, d2, d3] => { results := [.lit (.bool false)], args := [d1, d2, d3] }
  | _ => none }
def SumBurstsWrongFalsely : Prop := sumBurstsRow.holds Tryd.pinned (OpenSpec.ofChange sumBurstsWrong)

/-- 'rotalaw01.SumSealed': WHATEVER THE INPUT: true; the input reads as it did. -/
def sumSealedSpec : ChangeSpec := { name := "sumSealed", fn := fun _ => fun
  | [d1, d2] => { results := [.lit (.bool true)], args := [d1, d2] }
  | _ => none }
def sumSealedRow : OpenClaim := { program := "ytenbdejhakdihaadoor", sum := "fbab9ff88c69a194b29caee5517dfc799a2cde44a20541d46cb277bbbb32d0af", func := "rota/rotalaw01.SumSealed", spec := "sumSealed", unfollowed := true, recurses := true, named := ["rota/sum.nibbles"], apart := false, laid := [("rota/sum.nibbles", laid_rota_sum_nibbles)] }
def SumSealedSaid : Prop := sumSealedRow.holds Tryd.pinned (OpenSpec.ofChange sumSealedSpec)

/-- ITS FALSE NEIGHBOUR: 'it returns false'. Refute it at one input. -/
def sumSealedWrong : ChangeSpec := { name := "sumSealed", fn := fun _ => fun
  | [d1, d2] => { results := [.lit (.bool false)], args := [d1, d2] }
  | _ => none }
def SumSealedWrongFalsely : Prop := sumSealedRow.holds Tryd.pinned (OpenSpec.ofChange sumSealedWrong)

/-- 'rotalaw01.SumTells': WHATEVER THE INPUT: true; the input reads as it did. -/
def sumTellsSpec : ChangeSpec := { name := "sumTells", fn := fun _ => fun
  | [d1, d2] => { results := [.lit (.bool true)], args := [d1, d2] }
  | _ => none }
def sumTellsRow : OpenClaim := { program := "ytenbdejhakdihaadoor", sum := "fbab9ff88c69a194b29caee5517dfc799a2cde44a20541d46cb277bbbb32d0af", func := "rota/rotalaw01.SumTells", spec := "sumTells", named := ["rota/sum.nibbles"], apart := false, laid := [("rota/sum.nibbles", laid_rota_sum_nibbles)] }
def SumTellsSaid : Prop := sumTellsRow.holds Tryd.pinned (OpenSpec.ofChange sumTellsSpec)

/-- ITS FALSE NEIGHBOUR: 'it returns false'. Refute it at one input. -/
def sumTellsWrong : ChangeSpec := { name := "sumTells", fn := fun _ => fun
  | [d1, d2] => { results := [.lit (.bool false)], args := [d1, d2] }
  | _ => none }
def SumTellsWrongFalsely : Prop := sumTellsRow.holds Tryd.pinned (OpenSpec.ofChange sumTellsWrong)

/-- 'rotalaw01.SumTable': WHATEVER THE INPUT: true; the input reads as it did. -/
def sumTableSpec : ChangeSpec := { name := "sumTable", fn := fun _ => fun
  | [d1, d2] => { results := [.lit (.bool true)], args := [d1, d2] }
  | _ => none }
def sumTableRow : OpenClaim := { program := "ytenbdejhakdihaadoor", sum := "fbab9ff88c69a194b29caee5517dfc799a2cde44a20541d46cb277bbbb32d0af", func := "rota/rotalaw01.SumTable", spec := "sumTable", named := ["rota/sum.nibbles"], apart := false, laid := [("rota/sum.nibbles", laid_rota_sum_nibbles)] }
def SumTableSaid : Prop := sumTableRow.holds Tryd.pinned (OpenSpec.ofChange sumTableSpec)

/-- ITS FALSE NEIGHBOUR: 'it returns false'. Refute it at one input. -/
def sumTableWrong : ChangeSpec := { name := "sumTable", fn := fun _ => fun
  | [d1, d2] => { results := [.lit (.bool false)], args := [d1, d2] }
  | _ => none }
def SumTableWrongFalsely : Prop := sumTableRow.holds Tryd.pinned (OpenSpec.ofChange sumTableWrong)

/-- 'rotalaw01.SumMeters': WHATEVER THE INPUT: true; the input reads as it did. -/
def sumMetersSpec : ChangeSpec := { name := "sumMeters", fn := fun _ => fun
  | [d1, d2, d3] => { results := [.lit (.bool true)], args := [d1, d2, d3] }
  | _ => none }
def sumMetersRow : OpenClaim := { program := "ytenbdejhakdihaadoor", sum := "fbab9ff88c69a194b29caee5517dfc799a2cde44a20541d46cb277bbbb32d0af", func := "rota/rotalaw01.SumMeters", spec := "sumMeters", inPlace := ["sync/atomic.StoreUint64", "sync/atomic.LoadUint32", "(*internal/sync.Mutex).Lock", "internal/race.Disable", "sync/atomic.CompareAndSwapInt32", "internal/race.Enable", "internal/race.Acquire", "(*internal/sync.Mutex).lockSlow", "internal/sync.runtime_canSpin", "internal/sync.runtime_doSpin", "internal/sync.throw", "internal/sync.runtime_nanotime", "internal/sync.runtime_SemacquireMutex", "sync/atomic.AddInt32", "(*internal/sync.Mutex).Unlock", "internal/race.ReleaseMerge", "(*internal/sync.Mutex).unlockSlow", "internal/sync.fatal", "internal/sync.runtime_Semrelease", "sync/atomic.StoreUint32", "sync/atomic.AddUint64", "sync/atomic.LoadUint64"], unfollowed := true, recurses := true, named := ["rota/sum.nibbles"], apart := false, laid := [("rota/sum.nibbles", laid_rota_sum_nibbles)] }
def SumMetersSaid : Prop := sumMetersRow.holds Tryd.pinned (OpenSpec.ofChange sumMetersSpec)

/-- ITS FALSE NEIGHBOUR: 'it returns false'. Refute it at one input. -/
def sumMetersWrong : ChangeSpec := { name := "sumMeters", fn := fun _ => fun
  | [d1, d2, d3] => { results := [.lit (.bool false)], args := [d1, d2, d3] }
  | _ => none }
def SumMetersWrongFalsely : Prop := sumMetersRow.holds Tryd.pinned (OpenSpec.ofChange sumMetersWrong)

/-- 'rotalaw01.SumNames': WHATEVER THE INPUT: true; the input reads as it did. -/
def sumNamesSpec : ChangeSpec := { name := "sumNames", fn := fun _ => fun
  | [] => { results := [.lit (.bool true)], args := [] }
  | _ => none }
def sumNamesRow : OpenClaim := { program := "ytenbdejhakdihaadoor", sum := "fbab9ff88c69a194b29caee5517dfc799a2cde44a20541d46cb277bbbb32d0af", func := "rota/rotalaw01.SumNames", spec := "sumNames", inPlace := ["sync/atomic.LoadUint64", "sync/atomic.StoreUint64", "sync/atomic.LoadUint32", "(*internal/sync.Mutex).Lock", "internal/race.Disable", "sync/atomic.CompareAndSwapInt32", "internal/race.Enable", "internal/race.Acquire", "(*internal/sync.Mutex).lockSlow", "internal/sync.runtime_canSpin", "internal/sync.runtime_doSpin", "internal/sync.throw", "internal/sync.runtime_nanotime", "internal/sync.runtime_SemacquireMutex", "sync/atomic.AddInt32", "(*internal/sync.Mutex).Unlock", "internal/race.ReleaseMerge", "(*internal/sync.Mutex).unlockSlow", "internal/sync.fatal", "internal/sync.runtime_Semrelease", "sync/atomic.StoreUint32", "sync/atomic.AddUint64"], unfollowed := true, recurses := true, named := ["rota/sum.nibbles"], apart := false, laid := [("rota/sum.nibbles", laid_rota_sum_nibbles)] }
def SumNamesSaid : Prop := sumNamesRow.holds Tryd.pinned (OpenSpec.ofChange sumNamesSpec)

/-- ITS FALSE NEIGHBOUR: 'it returns false'. Refute it at one input. -/
def sumNamesWrong : ChangeSpec := { name := "sumNames", fn := fun _ => fun
  | [] => { results := [.lit (.bool false)], args := [] }
  | _ => none }
def SumNamesWrongFalsely : Prop := sumNamesRow.holds Tryd.pinned (OpenSpec.ofChange sumNamesWrong)

/- THE SECOND FORM. 'bulk': how many values and letters a reading holds, each counted each time it is reached (what is shared counts as often as it is met; a slice's spare places count too). A statement '..UptoSaid' is the law's where the arguments, and the package variables that the reading takes, are together of bulk at most 1048576: NARROWER than '..Said'. Prove '..Said' where nothing that the law and all that it calls make is longer than what came in: it says more and counts as full. Else prove '..UptoSaid'. A law counts once. -/
mutual
def uptoBulk {H : Type} : DataW H → Nat
  | .lit (.string bytes) => bytes.length + 1
  | .lit _ => 1
  | .nil => 1
  | .ptr d => uptoBulk d + 1
  | .slice elems spare => uptoBulkAll elems + uptoBulkAll spare + 1
  | .agg parts => uptoBulkAll parts + 1
  | .iface _ d => uptoBulk d + 1
  | .map entries => uptoBulkEntries entries + 1
  | .held _ => 1
def uptoBulkAll {H : Type} : List (DataW H) → Nat
  | [] => 0
  | d :: r => uptoBulk d + uptoBulkAll r
def uptoBulkEntries {H : Type} : List (Lit × DataW H) → Nat
  | [] => 0
  | x :: r => uptoBulkEntry x + uptoBulkEntries r
def uptoBulkEntry {H : Type} : Lit × DataW H → Nat
  | (.string bytes, d) => bytes.length + uptoBulk d + 1
  | (_, d) => uptoBulk d + 1
 end
def uptoSmall : (H : Type) → List (DataW H) → Bool := fun _ ds => decide (uptoBulkAll ds ≤ 1048576)
def OpenSpec.upto (s : _root_.Go.ChangeSpec) : _root_.Go.OpenSpec := { _root_.Go.OpenSpec.ofChange s with cond := some uptoSmall }

/-- 'rotalaw01.SumParts', WHERE WHAT IT READS IS OF BULK AT MOST 1048576: true; the input reads as it did. -/
def sumPartsUptoRow : OpenClaim := { program := "ytenbdejhakdihaadoor", sum := "fbab9ff88c69a194b29caee5517dfc799a2cde44a20541d46cb277bbbb32d0af", func := "rota/rotalaw01.SumParts", spec := "sumParts", named := ["rota/sum.nibbles"], apart := false, laid := [("rota/sum.nibbles", laid_rota_sum_nibbles)], narrowed := true }
def SumPartsUptoSaid : Prop := sumPartsUptoRow.holds Tryd.pinned (OpenSpec.upto sumPartsSpec)

/-- 'rotalaw01.SumLinear', WHERE WHAT IT READS IS OF BULK AT MOST 1048576: true; the input reads as it did. -/
def sumLinearUptoRow : OpenClaim := { program := "ytenbdejhakdihaadoor", sum := "fbab9ff88c69a194b29caee5517dfc799a2cde44a20541d46cb277bbbb32d0af", func := "rota/rotalaw01.SumLinear", spec := "sumLinear", named := ["rota/sum.nibbles"], apart := false, laid := [("rota/sum.nibbles", laid_rota_sum_nibbles)], narrowed := true }
def SumLinearUptoSaid : Prop := sumLinearUptoRow.holds Tryd.pinned (OpenSpec.upto sumLinearSpec)

/-- 'rotalaw01.SumBursts', WHERE WHAT IT READS IS OF BULK AT MOST 1048576: true; the input reads as it did. -/
def sumBurstsUptoRow : OpenClaim := { program := "ytenbdejhakdihaadoor", sum := "fbab9ff88c69a194b29caee5517dfc799a2cde44a20541d46cb277bbbb32d0af", func := "rota/rotalaw01.SumBursts", spec := "sumBursts", named := ["rota/sum.nibbles"], apart := false, laid := [("rota/sum.nibbles", laid_rota_sum_nibbles)], narrowed := true }
def SumBurstsUptoSaid : Prop := sumBurstsUptoRow.holds Tryd.pinned (OpenSpec.upto sumBurstsSpec)

/-- 'rotalaw01.SumSealed', WHERE WHAT IT READS IS OF BULK AT MOST 1048576: true; the input reads as it did. -/
def sumSealedUptoRow : OpenClaim := { program := "ytenbdejhakdihaadoor", sum := "fbab9ff88c69a194b29caee5517dfc799a2cde44a20541d46cb277bbbb32d0af", func := "rota/rotalaw01.SumSealed", spec := "sumSealed", unfollowed := true, recurses := true, named := ["rota/sum.nibbles"], apart := false, laid := [("rota/sum.nibbles", laid_rota_sum_nibbles)], narrowed := true }
def SumSealedUptoSaid : Prop := sumSealedUptoRow.holds Tryd.pinned (OpenSpec.upto sumSealedSpec)

/-- 'rotalaw01.SumTells', WHERE WHAT IT READS IS OF BULK AT MOST 1048576: true; the input reads as it did. -/
def sumTellsUptoRow : OpenClaim := { program := "ytenbdejhakdihaadoor", sum := "fbab9ff88c69a194b29caee5517dfc799a2cde44a20541d46cb277bbbb32d0af", func := "rota/rotalaw01.SumTells", spec := "sumTells", named := ["rota/sum.nibbles"], apart := false, laid := [("rota/sum.nibbles", laid_rota_sum_nibbles)], narrowed := true }
def SumTellsUptoSaid : Prop := sumTellsUptoRow.holds Tryd.pinned (OpenSpec.upto sumTellsSpec)

/-- 'rotalaw01.SumTable', WHERE WHAT IT READS IS OF BULK AT MOST 1048576: true; the input reads as it did. -/
def sumTableUptoRow : OpenClaim := { program := "ytenbdejhakdihaadoor", sum := "fbab9ff88c69a194b29caee5517dfc799a2cde44a20541d46cb277bbbb32d0af", func := "rota/rotalaw01.SumTable", spec := "sumTable", named := ["rota/sum.nibbles"], apart := false, laid := [("rota/sum.nibbles", laid_rota_sum_nibbles)], narrowed := true }
def SumTableUptoSaid : Prop := sumTableUptoRow.holds Tryd.pinned (OpenSpec.upto sumTableSpec)

/-- 'rotalaw01.SumMeters', WHERE WHAT IT READS IS OF BULK AT MOST 1048576: true; the input reads as it did. -/
def sumMetersUptoRow : OpenClaim := { program := "ytenbdejhakdihaadoor", sum := "fbab9ff88c69a194b29caee5517dfc799a2cde44a20541d46cb277bbbb32d0af", func := "rota/rotalaw01.SumMeters", spec := "sumMeters", inPlace := ["sync/atomic.StoreUint64", "sync/atomic.LoadUint32", "(*internal/sync.Mutex).Lock", "internal/race.Disable", "sync/atomic.CompareAndSwapInt32", "internal/race.Enable", "internal/race.Acquire", "(*internal/sync.Mutex).lockSlow", "internal/sync.runtime_canSpin", "internal/sync.runtime_doSpin", "internal/sync.throw", "internal/sync.runtime_nanotime", "internal/sync.runtime_SemacquireMutex", "sync/atomic.AddInt32", "(*internal/sync.Mutex).Unlock", "internal/race.ReleaseMerge", "(*internal/sync.Mutex).unlockSlow", "internal/sync.fatal", "internal/sync.runtime_Semrelease", "sync/atomic.StoreUint32", "sync/atomic.AddUint64", "sync/atomic.LoadUint64"], unfollowed := true, recurses := true, named := ["rota/sum.nibbles"], apart := false, laid := [("rota/sum.nibbles", laid_rota_sum_nibbles)], narrowed := true }
def SumMetersUptoSaid : Prop := sumMetersUptoRow.holds Tryd.pinned (OpenSpec.upto sumMetersSpec)

/-- 'rotalaw01.SumNames', WHERE WHAT IT READS IS OF BULK AT MOST 1048576: true; the input reads as it did. -/
def sumNamesUptoRow : OpenClaim := { program := "ytenbdejhakdihaadoor", sum := "fbab9ff88c69a194b29caee5517dfc799a2cde44a20541d46cb277bbbb32d0af", func := "rota/rotalaw01.SumNames", spec := "sumNames", inPlace := ["sync/atomic.LoadUint64", "sync/atomic.StoreUint64", "sync/atomic.LoadUint32", "(*internal/sync.Mutex).Lock", "internal/race.Disable", "sync/atomic.CompareAndSwapInt32", "internal/race.Enable", "internal/race.Acquire", "(*internal/sync.Mutex).lockSlow", "internal/sync.runtime_canSpin", "internal/sync.runtime_doSpin", "internal/sync.throw", "internal/sync.runtime_nanotime", "internal/sync.runtime_SemacquireMutex", "sync/atomic.AddInt32", "(*internal/sync.Mutex).Unlock", "internal/race.ReleaseMerge", "(*internal/sync.Mutex).unlockSlow", "internal/sync.fatal", "internal/sync.runtime_Semrelease", "sync/atomic.StoreUint32", "sync/atomic.AddUint64"], unfollowed := true, recurses := true, named := ["rota/sum.nibbles"], apart := false, laid := [("rota/sum.nibbles", laid_rota_sum_nibbles)], narrowed := true }
def SumNamesUptoSaid : Prop := sumNamesUptoRow.holds Tryd.pinned (OpenSpec.upto sumNamesSpec)

end Rows
end Go.Proofs.YtenbdejhakdihaaDoor
