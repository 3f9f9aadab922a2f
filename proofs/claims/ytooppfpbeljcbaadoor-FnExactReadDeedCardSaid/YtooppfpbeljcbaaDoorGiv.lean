/- Words of my own, of no program: what a function value answers (PredB), the plain functions that the library's searches come to (idxO, anyO). Nothing is assumed beyond the lemmas' own hypotheses. -/
import Derived.Test.YtooppfpbeljcbaaDoorWWords
import Derived.Test.YtooppfpbeljcbaaDoorWLast
import Derived.Test.YtooppfpbeljcbaaDoorWMore
import Derived.Test.YtooppfpbeljcbaaDoorWApart
import Derived.Shelf.Abstract
import Derived.Lib.Builder
import Derived.Lib.UnsafeStr
import Derived.Lib.AppendStr
namespace Go.Proofs.YtooppfpbeljcbaaDoorOwn
open Go.RowKit Go.Proofs.YtooppfpbeljcbaaDoorW.PrintWords Go.Proofs.YtooppfpbeljcbaaDoorW.PrintLast Go.Proofs.YtooppfpbeljcbaaDoorW.PrintMore
set_option linter.unusedVariables false

/-- What a function value answers: where p says b of x, the call hands back b; nothing that lay before is turned. -/
structure PredB {α : Type} (P : Program) (g : Nat) (lb : Array Value) (d : Kd α) (p : α → Option Bool) (w : World) : Prop where
  mk :: (out : ∀ (W : World) (x : α) (v : Value) (b : Bool), Below w.heap.size w W → d.K W x [v] → p x = some b → Calls P g (#[v] ++ lb) W fun e w' => e = .returned (.bool b) ∧ Below W.heap.size W w')
theorem PredB.later {α : Type} {P : Program} {g : Nat} {lb : Array Value} {d : Kd α} {p : α → Option Bool} {w w1 : World} (h : PredB P g lb d p w) (hb : Below w.heap.size w w1) : PredB P g lb d p w1 :=
  ⟨fun W x v b hW hK hp => h.out W x v b (below_then hb hb.size hW) hK hp⟩

/-- The first index of which p says yes, or -1. -/
def idxO {α : Type} (p : α → Option Bool) : Int → List α → Option Int
  | _, [] => some (-1)
  | i, x :: t => (p x).bind fun b => if b = true then some i else idxO p (i + 1) t
def anyO {α : Type} (p : α → Option Bool) : List α → Option Bool
  | [] => some false
  | x :: t => (p x).bind fun b => if b = true then some true else anyO p t
theorem anyO_idx {α : Type} (p : α → Option Bool) : ∀ (l : List α) (i : Int) (b : Bool), 0 ≤ i → anyO p l = some b → ∃ r, idxO p i l = some r ∧ decide (r ≥ 0) = b
  | [], i, b, hi, h => by simp [anyO] at h; subst h; exact ⟨-1, rfl, by decide⟩
  | x :: t, i, b, hi, h => by
    simp only [anyO] at h
    obtain ⟨c, hc, h⟩ := Option.bind_eq_some_iff.1 h
    cases c with
    | true => simp at h; subst h; exact ⟨i, by simp [idxO, hc], by simpa using hi⟩
    | false =>
      simp at h
      obtain ⟨r, hr, hd⟩ := anyO_idx p t (i + 1) b (by omega) h
      exact ⟨r, by simp [idxO, hc, hr], hd⟩
theorem anyO_total {α : Type} (q : α → Bool) (l : List α) : anyO (fun x => some (q x)) l = some (l.any q) := by
  induction l with
  | nil => rfl
  | cons x t ih => cases h : q x <;> simp [anyO, h, ih]
theorem idxO_drop {α : Type} (p : α → Option Bool) (l : List α) (k : Nat) (h : k < l.length) (i : Int) : idxO p i (l.drop k) = (p l[k]).bind fun b => if b = true then some i else idxO p (i + 1) (l.drop (k + 1)) := by
  rw [List.drop_eq_getElem_cons h]; rfl
theorem rd_nat (l : List Int) (k : Nat) (h : k < l.length) : rd l (k : Int) = l[k] := by simp [rd, h]
theorem getD_nat {α : Type} (l : List α) (d : α) (k : Nat) (h : k < l.length) : l.getD k d = l[k] := by simp [h]
/-- Rounds of two functions told together. -/
theorem LeO.anyO {α : Type} {p q : α → Option Bool} (h : ∀ x, LeO (p x) (q x)) (l : List α) : LeO (anyO p l) (anyO q l) := by
  induction l with
  | nil => exact LeO.refl _
  | cons x t ih => exact LeO.bind (h x) (fun b => LeO.ite (LeO.refl _) ih)
theorem LeO.idxO {α : Type} {p q : α → Option Bool} (h : ∀ x, LeO (p x) (q x)) (l : List α) : ∀ i, LeO (idxO p i l) (idxO q i l) := by
  induction l with
  | nil => exact fun i => LeO.refl _
  | cons x t ih => exact fun i => LeO.bind (h x) (fun b => LeO.ite (LeO.refl _) (ih _))
/-- A builder lives on where nothing below is turned. -/
theorem builderAt_below {T e : TypeId} {B b : Nat} {p : Value} {bs : List Value} {w w' : World} (h : Lib.BuilderAt T e B b p bs w) (hb : Below w.heap.size w w') : Lib.BuilderAt T e B b p bs w' := by
  obtain ⟨h1, v, hv, ho, hn⟩ := h
  exact ⟨h1, v, blk_below hv hb, pw_own_below ho hb, hn⟩
theorem builder_below {T e : TypeId} {B b : Nat} {bs : List Value} {w w' : World} (h : Lib.IsBuilder T e B b bs w) (hb : Below w.heap.size w w') : Lib.IsBuilder T e B b bs w' :=
  h.imp (fun h => builderAt_below h hb) (fun h => builderAt_below h hb)
theorem builderAt_drewN {T e : TypeId} {B b : Nat} {p : Value} {bs : List Value} {w : World} (h : Lib.BuilderAt T e B b p bs w) (n : Nat) : Lib.BuilderAt T e B b p bs (w.drewN n) := h
theorem strCells_eq (s : ByteArray) : Lib.strCells s = Lib.byteCells s.toList := by
  simp [Lib.strCells, Lib.byteCells, ByteArray.toList_eq]
theorem strCells_append (a b : ByteArray) : Lib.strCells (a ++ b) = Lib.strCells a ++ Lib.strCells b := by
  simp [strCells_eq, Lib.byteCells, ByteArray.toList_eq, ByteArray.data_append]
theorem str_eta (b : ByteArray) : (⟨b.toList.toArray⟩ : ByteArray) = b := by
  cases b; simp [ByteArray.toList_eq]
theorem size_nl (s : ByteArray) : (s ++ (⟨#[10]⟩ : ByteArray)).size = s.size + 1 := by
  rw [ByteArray.size_append]; rfl
end Go.Proofs.YtooppfpbeljcbaaDoorOwn
