-- laid by wip/tools/oprint.py (own driver of the kit's printer)
import Derived.Test.YtndicjikjcifaaaDoorProg
import Derived.Below
import Derived.Deep.Draws
import Derived.Deep.AppendLies
import Derived.Maps.AppendAt
import Derived.OwnWalk
import Derived.Laws.BytesArg
import Derived.Laws.MakeOwn
import Derived.Laws.OwnMore
import Derived.Deep.OwnRows
import Derived.Tactics
import Derived.Lib.ConvBytes
import Derived.Laws.Slices
import Derived.WalkKit
import Derived.KernelRfl
import Derived.RowKit3
import Derived.Deep.LoopGhost
import Derived.Deep.QuietTactic
import Derived.BigQuiet
import Derived.WideLaws
import Derived.Deep.DeepCutAuto
import Derived.Deep.CutBlock
import Derived.Deep.RegionHeld3
import Derived.Laws.Rows
import Derived.Lib.AppendStr
import Derived.ArgAppend
import Derived.Laws.IdiomCopy
import Derived.OrdersHeld
import Derived.Laws.BitsLemmas
import Derived.RowKit
import Derived.Test.YtndicjikjcifaaaDoorWWords
import Derived.Test.YtndicjikjcifaaaDoorWLast
import Derived.Test.YtndicjikjcifaaaDoorWTab
import Derived.Test.YtndicjikjcifaaaDoorWFour
import Derived.Test.YtndicjikjcifaaaDoorWQPut
import Derived.Test.YtndicjikjcifaaaDoorWApart
import Derived.Test.YtndicjikjcifaaaDoorWArr
import Derived.Test.YtndicjikjcifaaaDoorWZeros
import Derived.Test.YtndicjikjcifaaaDoorWFoot
import Derived.Test.YtndicjikjcifaaaDoorWKept
import Derived.Test.YtndicjikjcifaaaDoorWShare
import Derived.Test.YtndicjikjcifaaaDoorWN
import Derived.Test.YtndicjikjcifaaaDoorWFootNe
import Derived.Test.YtndicjikjcifaaaDoorWAt
import Derived.Test.YtndicjikjcifaaaDoorWEqStruct
import Derived.Test.YtndicjikjcifaaaDoorWRepsOne
import Derived.Test.YtndicjikjcifaaaDoorWInv
import Derived.Test.YtndicjikjcifaaaDoorWInvWords
import Derived.Test.YtndicjikjcifaaaDoorWGuard
import Derived.Test.YtndicjikjcifaaaDoorWNEv
import Derived.Test.YtndicjikjcifaaaDoorWMore
namespace Go.Proofs.YtndicjikjcifaaaDoor.PWi
open Go.RowKit Go.Proofs.YtndicjikjcifaaaDoorW.PrintWords Go.Proofs.YtndicjikjcifaaaDoorW.PrintLast Go.Proofs.YtndicjikjcifaaaDoorW.PrintMore
attribute [local go_sem] max2_int min2_int max_two min_two max_three min_three max_four min_four   -- for this text's walks alone
set_option linter.unusedVariables false
set_option linter.unusedSimpArgs false

def errW : Option Int → Value
  | none => .nilIface
  | some c => .iface 0 (.int .i64 c)
theorem errW_none : errW none = .nilIface := rfl
theorem errW_some (c : Int) : errW (some c) = .iface 0 (.int .i64 c) := rfl

theorem info9 : (Tryd.prog.info? 9).map (fun i => (i.zero, i.size, i.bytes)) = some (some (.string ⟨#[]⟩), 1, 16) := by kernel_rfl
-- the values' own types

end Go.Proofs.YtndicjikjcifaaaDoor.PWi
