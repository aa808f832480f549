-- PRINTED by print.py (a twelfth state) out of the translation. Not trusted: Lean checks it.
import Derived.Test.YtglfaamglpphmaaProg
import Derived.Below
import Derived.Deep.Draws
import Derived.Deep.AppendLies
import Derived.Maps.AppendAt
import Derived.OwnWalk
import Derived.Laws.BytesArg
import Derived.Laws.MakeOwn
import Derived.Laws.OwnMore
import Derived.Deep.OwnRows
import Derived.Tactics
import Derived.Lib.ConvBytes
import Derived.Laws.Slices
import Derived.WalkKit
import Derived.KernelRfl
import Derived.RowKit3
import Derived.Deep.LoopGhost
import Derived.Deep.QuietTactic
import Derived.BigQuiet
import Derived.WideLaws
import Derived.Deep.DeepCutAuto
import Derived.Deep.CutBlock
import Derived.Deep.RegionHeld3
import Derived.Laws.Rows
import Derived.Lib.AppendStr
import Derived.ArgAppend
import Derived.Laws.IdiomCopy
import Derived.OrdersHeld
import Derived.Laws.BitsLemmas
import Derived.RowKit
import Derived.Laws.BitsAllLaws
import Derived.Test.YtglfaamglpphmaaWWords
import Derived.Test.YtglfaamglpphmaaWLast
import Derived.Test.YtglfaamglpphmaaWTab
import Derived.Test.YtglfaamglpphmaaWFour
import Derived.Test.YtglfaamglpphmaaWQPut
import Derived.Test.YtglfaamglpphmaaWApart
import Derived.Test.YtglfaamglpphmaaWArr
import Derived.Test.YtglfaamglpphmaaWZeros
import Derived.Test.YtglfaamglpphmaaWFoot
import Derived.Test.YtglfaamglpphmaaWKept
import Derived.Test.YtglfaamglpphmaaWShare
import Derived.Test.YtglfaamglpphmaaWN
import Derived.Test.YtglfaamglpphmaaWFootNe
import Derived.Test.YtglfaamglpphmaaWAt
import Derived.Test.YtglfaamglpphmaaWEqStruct
import Derived.Test.YtglfaamglpphmaaWRepsOne
import Derived.Test.YtglfaamglpphmaaWInv
import Derived.Test.YtglfaamglpphmaaWInvWords
import Derived.Test.YtglfaamglpphmaaWGuard
import Derived.Test.YtglfaamglpphmaaWNEv
import Derived.Test.YtglfaamglpphmaaWMore
namespace Go.Proofs.Ytglfaamglpphmaa.PAll
open Go.RowKit Go.Proofs.YtglfaamglpphmaaW.PrintWords Go.Proofs.YtglfaamglpphmaaW.PrintLast Go.Proofs.YtglfaamglpphmaaW.PrintMore
attribute [local go_sem] max2_int min2_int max_two min_two max_three min_three max_four min_four   -- for this text's walks alone
set_option linter.unusedVariables false
set_option linter.unusedSimpArgs false



def errW : Option Int → Value
  | none => .nilIface
  | some c => .iface 0 (.int .i64 c)
theorem errW_none : errW none = .nilIface := rfl
theorem errW_some (c : Int) : errW (some c) = .iface 0 (.int .i64 c) := rfl

theorem info3 : (Try.prog.info? 3).map (fun i => (i.zero, i.size, i.bytes)) = some (some (.int .i64 0), 1, 8) := by kernel_rfl
theorem info5 : (Try.prog.info? 5).map (fun i => (i.zero, i.size, i.bytes)) = some (some (.int .u8 0), 1, 1) := by kernel_rfl
theorem info22 : (Try.prog.info? 22).map (fun i => (i.zero, i.size, i.bytes)) = some (some (.int .u64 0), 1, 8) := by kernel_rfl
-- the values' own types

end Go.Proofs.Ytglfaamglpphmaa.PAll
