-- written by mkprint.py, a program of this repo that runs the kit's printer with contracts of its own (see NOTES.md)
import Derived.Test.YtooppfpbeljcbaaDoorProg
import Derived.Below
import Derived.Deep.Draws
import Derived.Deep.AppendLies
import Derived.Maps.AppendAt
import Derived.OwnWalk
import Derived.Laws.BytesArg
import Derived.Laws.MakeOwn
import Derived.Laws.OwnMore
import Derived.Deep.OwnRows
import Derived.Tactics
import Derived.Lib.ConvBytes
import Derived.Laws.Slices
import Derived.WalkKit
import Derived.KernelRfl
import Derived.RowKit3
import Derived.Deep.LoopGhost
import Derived.Deep.QuietTactic
import Derived.BigQuiet
import Derived.WideLaws
import Derived.Deep.DeepCutAuto
import Derived.Deep.CutBlock
import Derived.Deep.RegionHeld3
import Derived.Laws.Rows
import Derived.Lib.AppendStr
import Derived.ArgAppend
import Derived.Laws.IdiomCopy
import Derived.OrdersHeld
import Derived.Laws.BitsLemmas
import Derived.RowKit
import Derived.Test.YtooppfpbeljcbaaDoorGiv
import Derived.Test.YtooppfpbeljcbaaDoorShelf
import Derived.WalkSmall
import Derived.Test.YtooppfpbeljcbaaDoorWWords
import Derived.Test.YtooppfpbeljcbaaDoorWLast
import Derived.Test.YtooppfpbeljcbaaDoorWTab
import Derived.Test.YtooppfpbeljcbaaDoorWFour
import Derived.Test.YtooppfpbeljcbaaDoorWQPut
import Derived.Test.YtooppfpbeljcbaaDoorWApart
import Derived.Test.YtooppfpbeljcbaaDoorWArr
import Derived.Test.YtooppfpbeljcbaaDoorWZeros
import Derived.Test.YtooppfpbeljcbaaDoorWFoot
import Derived.Test.YtooppfpbeljcbaaDoorWKept
import Derived.Test.YtooppfpbeljcbaaDoorWShare
import Derived.Test.YtooppfpbeljcbaaDoorWN
import Derived.Test.YtooppfpbeljcbaaDoorWFootNe
import Derived.Test.YtooppfpbeljcbaaDoorWAt
import Derived.Test.YtooppfpbeljcbaaDoorWEqStruct
import Derived.Test.YtooppfpbeljcbaaDoorWRepsOne
import Derived.Test.YtooppfpbeljcbaaDoorWInv
import Derived.Test.YtooppfpbeljcbaaDoorWInvWords
import Derived.Test.YtooppfpbeljcbaaDoorWGuard
import Derived.Test.YtooppfpbeljcbaaDoorWNEv
import Derived.Test.YtooppfpbeljcbaaDoorWMore
namespace Go.Proofs.YtooppfpbeljcbaaDoor.PAll
open Go.RowKit Go.Proofs.YtooppfpbeljcbaaDoorW.PrintWords Go.Proofs.YtooppfpbeljcbaaDoorW.PrintLast Go.Proofs.YtooppfpbeljcbaaDoorW.PrintMore
attribute [local go_sem] max2_int min2_int max_two min_two max_three min_three max_four min_four   -- for this text's walks alone
open Go.Proofs.YtooppfpbeljcbaaDoorOwn
set_option linter.unusedVariables false
set_option linter.unusedSimpArgs false



def errW : Option Int → Value
  | none => .nilIface
  | some c => .iface 0 (.int .i64 c)
theorem errW_none : errW none = .nilIface := rfl
theorem errW_some (c : Int) : errW (some c) = .iface 0 (.int .i64 c) := rfl

theorem info4 : (Tryd.prog.info? 4).map (fun i => (i.zero, i.size, i.bytes)) = some (some (.bool false), 1, 1) := by kernel_rfl
theorem info9 : (Tryd.prog.info? 9).map (fun i => (i.zero, i.size, i.bytes)) = some (some (.string ⟨#[]⟩), 1, 16) := by kernel_rfl
-- the values' own types

end Go.Proofs.YtooppfpbeljcbaaDoor.PAll
