/- Functions of the program as Lean functions, each with the proof that the Go code comes to just its answers (written by a program of this session's over the kit's print). -/
import Derived.Test.YtenbdejhakdihaaDoorProg
import Derived.Below
import Derived.Deep.Draws
import Derived.Deep.AppendLies
import Derived.Maps.AppendAt
import Derived.OwnWalk
import Derived.Laws.BytesArg
import Derived.Laws.MakeOwn
import Derived.Laws.OwnMore
import Derived.Deep.OwnRows
import Derived.Tactics
import Derived.Lib.ConvBytes
import Derived.Laws.Slices
import Derived.WalkKit
import Derived.KernelRfl
import Derived.RowKit3
import Derived.Deep.LoopGhost
import Derived.Deep.QuietTactic
import Derived.BigQuiet
import Derived.WideLaws
import Derived.Deep.DeepCutAuto
import Derived.Deep.CutBlock
import Derived.Deep.RegionHeld3
import Derived.Laws.Rows
import Derived.Lib.AppendStr
import Derived.ArgAppend
import Derived.Laws.IdiomCopy
import Derived.OrdersHeld
import Derived.Laws.BitsLemmas
import Derived.RowKit
import Derived.Test.YtenbdejhakdihaaDoorMore
import Derived.Test.YtenbdejhakdihaaDoorGiven
import Derived.Test.YtenbdejhakdihaaDoorWWords
import Derived.Test.YtenbdejhakdihaaDoorWLast
import Derived.Test.YtenbdejhakdihaaDoorWTab
import Derived.Test.YtenbdejhakdihaaDoorWFour
import Derived.Test.YtenbdejhakdihaaDoorWQPut
import Derived.Test.YtenbdejhakdihaaDoorWApart
import Derived.Test.YtenbdejhakdihaaDoorWArr
import Derived.Test.YtenbdejhakdihaaDoorWZeros
import Derived.Test.YtenbdejhakdihaaDoorWFoot
import Derived.Test.YtenbdejhakdihaaDoorWKept
import Derived.Test.YtenbdejhakdihaaDoorWShare
import Derived.Test.YtenbdejhakdihaaDoorWN
import Derived.Test.YtenbdejhakdihaaDoorWFootNe
import Derived.Test.YtenbdejhakdihaaDoorWAt
import Derived.Test.YtenbdejhakdihaaDoorWEqStruct
import Derived.Test.YtenbdejhakdihaaDoorWRepsOne
import Derived.Test.YtenbdejhakdihaaDoorWInv
import Derived.Test.YtenbdejhakdihaaDoorWInvWords
import Derived.Test.YtenbdejhakdihaaDoorWGuard
import Derived.Test.YtenbdejhakdihaaDoorWNEv
import Derived.Test.YtenbdejhakdihaaDoorWMore
namespace Go.Proofs.YtenbdejhakdihaaDoor.Px
open Go.RowKit Go.Proofs.YtenbdejhakdihaaDoorW.PrintWords Go.Proofs.YtenbdejhakdihaaDoorW.PrintLast Go.Proofs.YtenbdejhakdihaaDoorW.PrintMore Go.Proofs.YtenbdejhakdihaaDoor
attribute [local go_sem] max2_int min2_int max_two min_two max_three min_three max_four min_four   -- for this text's walks alone
set_option linter.unusedVariables false
set_option linter.unusedSimpArgs false



def errW : Option Int → Value
  | none => .nilIface
  | some c => .iface 0 (.int .i64 c)
theorem errW_none : errW none = .nilIface := rfl
theorem errW_some (c : Int) : errW (some c) = .iface 0 (.int .i64 c) := rfl

theorem info5 : (Tryd.prog.info? 5).map (fun i => (i.zero, i.size, i.bytes)) = some (some (.int .u8 0), 1, 1) := by kernel_rfl
-- the values' own types

end Go.Proofs.YtenbdejhakdihaaDoor.Px
