/- Printed by a program of this session (wip/tools) out of the translation: Lean functions that answer as the Go functions do, and the proofs of that; turned by hand where the program calls closures or cuts with three indexes. -/
import Derived.Test.YtiejibkjhmmpaaaProg
import Derived.Below
import Derived.Deep.Draws
import Derived.Deep.AppendLies
import Derived.Maps.AppendAt
import Derived.OwnWalk
import Derived.Laws.BytesArg
import Derived.Laws.MakeOwn
import Derived.Laws.OwnMore
import Derived.Deep.OwnRows
import Derived.Tactics
import Derived.Lib.ConvBytes
import Derived.Laws.Slices
import Derived.WalkKit
import Derived.KernelRfl
import Derived.RowKit3
import Derived.Deep.LoopGhost
import Derived.Deep.QuietTactic
import Derived.BigQuiet
import Derived.WideLaws
import Derived.Deep.DeepCutAuto
import Derived.Deep.CutBlock
import Derived.Deep.RegionHeld3
import Derived.Laws.Rows
import Derived.Lib.AppendStr
import Derived.ArgAppend
import Derived.Laws.IdiomCopy
import Derived.OrdersHeld
import Derived.Laws.BitsLemmas
import Derived.RowKit
import Derived.Test.YtiejibkjhmmpaaaWWords
import Derived.Test.YtiejibkjhmmpaaaWLast
import Derived.Test.YtiejibkjhmmpaaaWTab
import Derived.Test.YtiejibkjhmmpaaaWQPut
import Derived.Test.YtiejibkjhmmpaaaWApart
import Derived.Test.YtiejibkjhmmpaaaWArr
import Derived.Test.YtiejibkjhmmpaaaWZeros
import Derived.Test.YtiejibkjhmmpaaaWFoot
import Derived.Test.YtiejibkjhmmpaaaWKept
import Derived.Test.YtiejibkjhmmpaaaWShare
import Derived.Test.YtiejibkjhmmpaaaWN
import Derived.Test.YtiejibkjhmmpaaaWEqStruct
import Derived.Test.YtiejibkjhmmpaaaWRepsOne
import Derived.Test.YtiejibkjhmmpaaaWGuard
import Derived.Test.YtiejibkjhmmpaaaWNEv
import Derived.Test.YtiejibkjhmmpaaaWMore
namespace Go.Proofs.Ytiejibkjhmmpaaa.Q
open Go.RowKit Go.Proofs.YtiejibkjhmmpaaaW.PrintWords Go.Proofs.YtiejibkjhmmpaaaW.PrintLast Go.Proofs.YtiejibkjhmmpaaaW.PrintMore
attribute [local go_sem] max2_int min2_int max_two min_two max_three min_three max_four min_four   -- for this text's walks alone
set_option linter.unusedVariables false
set_option linter.unusedSimpArgs false



def errW : Option Int → Value
  | none => .nilIface
  | some c => .iface 0 (.int .i64 c)
theorem errW_none : errW none = .nilIface := rfl
theorem errW_some (c : Int) : errW (some c) = .iface 0 (.int .i64 c) := rfl

theorem info3 : (Try.prog.info? 3).map (fun i => (i.zero, i.size, i.bytes)) = some (some (.int .i64 0), 1, 8) := by kernel_rfl
-- the values' own types

end Go.Proofs.Ytiejibkjhmmpaaa.Q
