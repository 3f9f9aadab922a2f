/- Words of my own for pure statements: rounds of loops, sums on words. -/
import Derived.Test.YtooppfpbeljcbaaDoorPAllx0
import Derived.Test.YtooppfpbeljcbaaDoorRow
import Derived.Test.YtooppfpbeljcbaaDoorWWords
namespace Go.Proofs.YtooppfpbeljcbaaDoor.Pure
open Go.RowKit Go.Proofs.YtooppfpbeljcbaaDoor.PAll Go.Proofs.YtooppfpbeljcbaaDoorOwn Go.Proofs.YtooppfpbeljcbaaDoorW.PrintWords Go.Proofs.YtooppfpbeljcbaaDoorW.PrintLast Go.Proofs.YtooppfpbeljcbaaDoorW.PrintMore
set_option linter.unusedVariables false

theorem ev_down {n : Nat} {p : Nat → Prop} (last : p n) (step : ∀ i, i < n → p (i + 1) → p i) : ∀ i, i ≤ n → p i := by
  intro i hi
  obtain ⟨d, rfl⟩ : ∃ d, n = i + d := ⟨n - i, by omega⟩
  induction d generalizing i with
  | zero => exact last
  | succ d ih =>
    refine step i (by omega) (ih (i + 1) (by rw [show i + 1 + d = i + (d + 1) from by omega]; exact last) (fun j hj => step j (by omega)) (by omega))
theorem ev_const {α : Type} {a : Option α} {r : α} (h : a = some r) : Ev (fun _ => a) r := ⟨0, fun _ _ => h⟩
theorem ev_unique {α : Type} {g : Nat → Option α} {r q : α} (h : Ev g r) (h' : Ev g q) : r = q := by
  obtain ⟨K, h⟩ := h
  obtain ⟨K', h'⟩ := h'
  have h1 := h (max K K') (by omega)
  have h2 := h' (max K K') (by omega)
  exact Option.some.inj (h1.symm.trans h2)
theorem wrap_small {x : Int} (h0 : -9223372036854775808 ≤ x) (h1 : x ≤ 9223372036854775807) : wrap64 x = x := by
  unfold wrap64
  omega
theorem wrap_succ {i n : Nat} (h : i < n) (hn : n ≤ 9223372036854775807) : wrap64 ((i : Int) + 1) = ((i + 1 : Nat) : Int) := by
  rw [wrap_small (by omega) (by omega)]; omega
theorem rd_eq {l : List Int} {i : Nat} (h : i < l.length) : rd l (i : Int) = l[i] := by simp [rd, h]
theorem getD_eq {α : Type} {l : List α} {d : α} {i : Nat} (h : i < l.length) : l.getD i d = l[i] := by simp [h]
theorem set_take {α : Type} (l : List α) (z : α) (i : Nat) (h : i < l.length) : (l.take i ++ List.replicate (l.length - i) z).set i l[i] = l.take (i + 1) ++ List.replicate (l.length - (i + 1)) z := by
  have e : l.length - i = (l.length - (i + 1)) + 1 := by omega
  rw [e, List.replicate_succ, List.set_append_right _ _ (by simp; omega)]
  rw [List.length_take, Nat.min_eq_left (Nat.le_of_lt h), Nat.sub_self, List.set_cons_zero, List.take_succ_eq_append_getElem h, List.append_assoc]
  rfl
end Go.Proofs.YtooppfpbeljcbaaDoor.Pure
