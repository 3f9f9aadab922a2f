-- written by mkprint.py, a program of this repo that runs the kit's printer with contracts of its own (see NOTES.md)
import Derived.Test.YtecahhcbpgogkaaDoorProg
import Derived.Below
import Derived.Deep.Draws
import Derived.Deep.AppendLies
import Derived.Maps.AppendAt
import Derived.OwnWalk
import Derived.Laws.BytesArg
import Derived.Laws.MakeOwn
import Derived.Laws.OwnMore
import Derived.Deep.OwnRows
import Derived.Tactics
import Derived.Lib.ConvBytes
import Derived.Laws.Slices
import Derived.WalkKit
import Derived.KernelRfl
import Derived.RowKit3
import Derived.Deep.LoopGhost
import Derived.Deep.QuietTactic
import Derived.BigQuiet
import Derived.WideLaws
import Derived.Deep.DeepCutAuto
import Derived.Deep.CutBlock
import Derived.Deep.RegionHeld3
import Derived.Laws.Rows
import Derived.Lib.AppendStr
import Derived.ArgAppend
import Derived.Laws.IdiomCopy
import Derived.OrdersHeld
import Derived.Laws.BitsLemmas
import Derived.RowKit
import Derived.Test.YtecahhcbpgogkaaDoorGiv
import Derived.Test.YtecahhcbpgogkaaDoorShelf
import Derived.WalkSmall
import Derived.Test.YtecahhcbpgogkaaDoorWWords
import Derived.Test.YtecahhcbpgogkaaDoorWLast
import Derived.Test.YtecahhcbpgogkaaDoorWTab
import Derived.Test.YtecahhcbpgogkaaDoorWFour
import Derived.Test.YtecahhcbpgogkaaDoorWQPut
import Derived.Test.YtecahhcbpgogkaaDoorWApart
import Derived.Test.YtecahhcbpgogkaaDoorWArr
import Derived.Test.YtecahhcbpgogkaaDoorWZeros
import Derived.Test.YtecahhcbpgogkaaDoorWFoot
import Derived.Test.YtecahhcbpgogkaaDoorWKept
import Derived.Test.YtecahhcbpgogkaaDoorWShare
import Derived.Test.YtecahhcbpgogkaaDoorWN
import Derived.Test.YtecahhcbpgogkaaDoorWFootNe
import Derived.Test.YtecahhcbpgogkaaDoorWAt
import Derived.Test.YtecahhcbpgogkaaDoorWEqStruct
import Derived.Test.YtecahhcbpgogkaaDoorWRepsOne
import Derived.Test.YtecahhcbpgogkaaDoorWInv
import Derived.Test.YtecahhcbpgogkaaDoorWInvWords
import Derived.Test.YtecahhcbpgogkaaDoorWGuard
import Derived.Test.YtecahhcbpgogkaaDoorWNEv
import Derived.Test.YtecahhcbpgogkaaDoorWMore
namespace Go.Proofs.YtecahhcbpgogkaaDoor.PAll
open Go.RowKit Go.Proofs.YtecahhcbpgogkaaDoorW.PrintWords Go.Proofs.YtecahhcbpgogkaaDoorW.PrintLast Go.Proofs.YtecahhcbpgogkaaDoorW.PrintMore
attribute [local go_sem] max2_int min2_int max_two min_two max_three min_three max_four min_four   -- for this text's walks alone
open Go.Proofs.YtecahhcbpgogkaaDoorOwn
set_option linter.unusedVariables false
set_option linter.unusedSimpArgs false



def errW : Option Int → Value
  | none => .nilIface
  | some c => .iface 0 (.int .i64 c)
theorem errW_none : errW none = .nilIface := rfl
theorem errW_some (c : Int) : errW (some c) = .iface 0 (.int .i64 c) := rfl

theorem info4 : (Tryd.prog.info? 4).map (fun i => (i.zero, i.size, i.bytes)) = some (some (.bool false), 1, 1) := by kernel_rfl
theorem info5 : (Tryd.prog.info? 5).map (fun i => (i.zero, i.size, i.bytes)) = some (some (.int .u8 0), 1, 1) := by kernel_rfl
theorem info9 : (Tryd.prog.info? 9).map (fun i => (i.zero, i.size, i.bytes)) = some (some (.string ⟨#[]⟩), 1, 16) := by kernel_rfl
-- the values' own types

end Go.Proofs.YtecahhcbpgogkaaDoor.PAll
