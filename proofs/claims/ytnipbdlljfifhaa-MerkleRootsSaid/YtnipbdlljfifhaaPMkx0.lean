-- WRITTEN BY wip/xprint.py, a program of this session over the kit's printer; Lean checks it
import Derived.Test.YtnipbdlljfifhaaProg
import Derived.Below
import Derived.Deep.Draws
import Derived.Deep.AppendLies
import Derived.Maps.AppendAt
import Derived.OwnWalk
import Derived.Laws.BytesArg
import Derived.Laws.MakeOwn
import Derived.Laws.OwnMore
import Derived.Deep.OwnRows
import Derived.Tactics
import Derived.Lib.ConvBytes
import Derived.Laws.Slices
import Derived.WalkKit
import Derived.KernelRfl
import Derived.RowKit3
import Derived.Deep.LoopGhost
import Derived.Deep.QuietTactic
import Derived.BigQuiet
import Derived.WideLaws
import Derived.Deep.DeepCutAuto
import Derived.Deep.CutBlock
import Derived.Deep.RegionHeld3
import Derived.Laws.Rows
import Derived.Lib.AppendStr
import Derived.ArgAppend
import Derived.Laws.IdiomCopy
import Derived.OrdersHeld
import Derived.Laws.BitsLemmas
import Derived.RowKit
import Derived.Test.YtnipbdlljfifhaaBm
import Derived.Test.YtnipbdlljfifhaaHj
import Derived.Test.YtnipbdlljfifhaaWWords
import Derived.Test.YtnipbdlljfifhaaWLast
import Derived.Test.YtnipbdlljfifhaaWTab
import Derived.Test.YtnipbdlljfifhaaWFour
import Derived.Test.YtnipbdlljfifhaaWQPut
import Derived.Test.YtnipbdlljfifhaaWApart
import Derived.Test.YtnipbdlljfifhaaWArr
import Derived.Test.YtnipbdlljfifhaaWZeros
import Derived.Test.YtnipbdlljfifhaaWFoot
import Derived.Test.YtnipbdlljfifhaaWKept
import Derived.Test.YtnipbdlljfifhaaWShare
import Derived.Test.YtnipbdlljfifhaaWN
import Derived.Test.YtnipbdlljfifhaaWFootNe
import Derived.Test.YtnipbdlljfifhaaWAt
import Derived.Test.YtnipbdlljfifhaaWEqStruct
import Derived.Test.YtnipbdlljfifhaaWRepsOne
import Derived.Test.YtnipbdlljfifhaaWInv
import Derived.Test.YtnipbdlljfifhaaWInvWords
import Derived.Test.YtnipbdlljfifhaaWGuard
import Derived.Test.YtnipbdlljfifhaaWNEv
import Derived.Test.YtnipbdlljfifhaaWMore
namespace Go.Proofs.Ytnipbdlljfifhaa.PMk
open Go.RowKit Go.Proofs.YtnipbdlljfifhaaW.PrintWords Go.Proofs.YtnipbdlljfifhaaW.PrintLast Go.Proofs.YtnipbdlljfifhaaW.PrintMore
attribute [local go_sem] max2_int min2_int max_two min_two max_three min_three max_four min_four   -- for this text's walks alone
set_option linter.unusedVariables false
set_option linter.unusedSimpArgs false



def errW : Option Int → Value
  | none => .nilIface
  | some c => .iface 0 (.int .i64 c)
theorem errW_none : errW none = .nilIface := rfl
theorem errW_some (c : Int) : errW (some c) = .iface 0 (.int .i64 c) := rfl

theorem info4 : (Try.prog.info? 4).map (fun i => (i.zero, i.size, i.bytes)) = some (some (.bool false), 1, 1) := by kernel_rfl
theorem info9 : (Try.prog.info? 9).map (fun i => (i.zero, i.size, i.bytes)) = some (some (.string ⟨#[]⟩), 1, 16) := by kernel_rfl
-- the values' own types

end Go.Proofs.Ytnipbdlljfifhaa.PMk
