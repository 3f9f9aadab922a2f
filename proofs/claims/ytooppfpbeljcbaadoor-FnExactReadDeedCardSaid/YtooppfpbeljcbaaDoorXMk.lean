/- Pure: byte strings as lists of bytes. -/
import Derived.Test.YtooppfpbeljcbaaDoorPAllx0
import Derived.Test.YtooppfpbeljcbaaDoorRow
import Derived.Test.YtooppfpbeljcbaaDoorWWords
import Derived.Lib.LazyBuf
import Derived.Test.YtooppfpbeljcbaaDoorXBase
namespace Go.Proofs.YtooppfpbeljcbaaDoor.Pure
open Go.RowKit Go.Proofs.YtooppfpbeljcbaaDoor.PAll Go.Proofs.YtooppfpbeljcbaaDoorOwn Go.Proofs.YtooppfpbeljcbaaDoorW.PrintWords Go.Proofs.YtooppfpbeljcbaaDoorW.PrintLast Go.Proofs.YtooppfpbeljcbaaDoorW.PrintMore
set_option linter.unusedVariables false

def mk (l : List UInt8) : ByteArray := ⟨l.toArray⟩
theorem mk_toList (l : List UInt8) : (mk l).toList = l := by rw [Go.Lib.toList_data]; rfl
theorem mk_size (l : List UInt8) : (mk l).size = l.length := by rw [Go.Lib.size_eq]; rfl
theorem eq_mk (a : ByteArray) : a = mk a.toList := by rw [Go.Lib.toList_data]; rfl
theorem bt_mk (l : List UInt8) (i : Nat) (h : i < l.length) : bt (mk l) (i : Int) = (l[i].toNat : Int) := by
  unfold bt
  rw [dif_pos (by rw [Int.toNat_natCast, mk_size]; exact h)]
  rfl
theorem mk_extract (l : List UInt8) (a b : Nat) : (mk l).extract a b = mk ((l.drop a).take (b - a)) := by
  have h : ((mk l).extract a b).data = (mk ((l.drop a).take (b - a))).data := by
    rw [ByteArray.data_extract]
    show (l.toArray).extract a b = ((l.drop a).take (b - a)).toArray
    rw [List.extract_toArray, List.extract_eq_take_drop]
  cases hx : (mk l).extract a b with
  | mk d => rw [hx] at h; cases h; rfl
theorem mk_append (a b : List UInt8) : mk a ++ mk b = mk (a ++ b) := by
  have h : (mk a ++ mk b).data = (mk (a ++ b)).data := by
    rw [ByteArray.data_append]
    show a.toArray ++ b.toArray = (a ++ b).toArray
    rw [List.append_toArray]
  cases hx : mk a ++ mk b with
  | mk d => rw [hx] at h; cases h; rfl
end Go.Proofs.YtooppfpbeljcbaaDoor.Pure
