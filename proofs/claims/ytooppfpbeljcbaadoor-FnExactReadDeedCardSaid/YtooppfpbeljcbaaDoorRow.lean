/- Words of my own for the rows: what is read at a type is told by a kind (Reads). Nothing is assumed beyond the lemmas' own hypotheses. -/
import Derived.Test.YtooppfpbeljcbaaDoorWWords
import Derived.Test.YtooppfpbeljcbaaDoorGiv
import Derived.Deep.Slices
import Derived.ChangeArms
import Derived.DataReads
namespace Go.Proofs.YtooppfpbeljcbaaDoorOwn
open Go.RowKit Go.Deep Go.ChangeShapes Go.Proofs.YtooppfpbeljcbaaDoorW.PrintWords
set_option linter.unusedVariables false

/-- What is read at type t in the world w is told by the kind d, and meets wf. -/
def Reads (P : Program) (w : World) (t : TypeId) {α : Type} (d : Kd α) (wf : α → Prop) : Prop :=
  ∀ {H : Type} (enc : TypeId × Value → H) (base : Nat) (spare : Nat → Bool) (held : Bool) (fuel : Nat) (cs : List Value) (x : DataW H × List MemPlace), DataW.trod enc P w base spare held fuel t cs = some x → ∃ a, d.K w a cs ∧ wf a
theorem reads_int {P : Program} {w : World} {t : TypeId} {k : IntKind} (ht : P.underlying t = some (.int k)) : Reads P w t (Kd.int k) (fun n => (Lit.int k n).wf = true) := by
  intro H enc base spare held fuel cs x h
  obtain ⟨n, hcs, _, hw⟩ := DataW.trod_int ht h
  exact ⟨n, hcs, hw⟩
def RowWf {α : Type} (wf : α → Prop) (l : List α) : Prop := l.length ≤ maxLen ∧ ∀ x ∈ l, wf x
theorem reads_slice {P : Program} {w : World} {t e : TypeId} {α : Type} {d : Kd α} {wf : α → Prop} (ht : P.underlying t = some (.slice e)) (hsz : P.cellsOf e = d.sz) (he : Reads P w e d wf) : Reads P w t (Kd.slice e d) (RowWf wf) := by
  intro H enc base spare held fuel cs x h
  rcases open_slice ht h with ⟨rfl, _⟩ | ⟨a, len, cap, m, n, D, Pl, rfl, hb, hl, hm, hmm, _, hx⟩
  · refine ⟨[], ⟨none, 0, rfl, Nat.le_refl _, rfl, by simp, fun h => absurd h (by simp)⟩, by simp, by simp⟩
  · have hlm : len ≤ m := by rw [hmm]; split <;> omega
    have each : ∀ i, i < len → ∃ p : α, ∃ c : List Value, c.length = d.sz ∧ d.K w p c ∧ wf p ∧ ∀ j u, c[j]? = some u → w.cell? (a.add (i * d.sz + j)) = some u := by
      intro i hi
      obtain ⟨cs', h1, h2⟩ := hx i (by omega)
      obtain ⟨p, hp, hwf⟩ := he enc base spare held n cs' _ h2
      obtain ⟨_, hlen, hcell⟩ := World.cells?_some h1
      rw [hsz] at hlen hcell
      refine ⟨p, cs', hlen, hp, hwf, fun j u hj => ?_⟩
      have hjl : j < d.sz := by rw [← hlen]; exact (List.getElem?_eq_some_iff.1 hj).1
      rw [← Go.Deep.add_add, hcell j hjl]
      exact hj
    have all : ∀ q, q ≤ len → ∃ l : List α, l.length = q ∧ ∀ i p, l[i]? = some p → ∃ c : List Value, c.length = d.sz ∧ d.K w p c ∧ wf p ∧ ∀ j u, c[j]? = some u → w.cell? (a.add (i * d.sz + j)) = some u := by
      intro q
      induction q with
      | zero => exact fun _ => ⟨[], rfl, fun i p h => by simp at h⟩
      | succ q ih =>
        intro hq
        obtain ⟨l, hl1, hl2⟩ := ih (by omega)
        obtain ⟨p, hp⟩ := each q (by omega)
        refine ⟨l ++ [p], by simp [hl1], fun i p' hi => ?_⟩
        by_cases hiq : i < q
        · rw [List.getElem?_append_left (by omega)] at hi
          exact hl2 i p' hi
        · have : i = q := by
            have := (List.getElem?_eq_some_iff.1 hi).1
            simp [hl1] at this
            omega
          subst this
          rw [List.getElem?_append_right (by omega), hl1, Nat.sub_self] at hi
          obtain rfl : p = p' := by simpa using hi
          exact hp
    obtain ⟨l, hll, hf⟩ := all len (Nat.le_refl _)
    refine ⟨l, ⟨some a, cap, by rw [hll], by rw [hll]; exact hl, ?_⟩, by rw [hll]; omega, ?_⟩
    · rw [hll]
      refine ⟨hll, by simp only [maxLen] at hm; omega, fun _ => ⟨a, rfl, fun j p hj => ?_⟩⟩
      obtain ⟨c, h1, h2, _, h3⟩ := hf j p hj
      exact ⟨c, h1, h2, h3⟩
    · intro y hy
      obtain ⟨i, hi⟩ := List.getElem?_of_mem hy
      obtain ⟨c, _, _, h3, _⟩ := hf i y hi
      exact h3
/-- A field of a struct that is read. -/
theorem field_of {P : Program} {w : World} {t : TypeId} {fs : Array Field} {H : Type} {enc : TypeId × Value → H} {base : Nat} {spare : Nat → Bool} {held : Bool} {fuel : Nat} {cs : List Value} {x : DataW H × List MemPlace} {i : Nat} {f : Field} {c : Nat}
    (ht : P.underlying t = some (.struct fs)) (h : DataW.trod enc P w base spare held fuel t cs = some x) (hf : fs[i]? = some f) (hc : P.cellsOf f.type = c) :
    ∃ n y, DataW.trod enc P w base spare held n f.type ((cs.drop f.offset).take c) = some y := by
  obtain ⟨xs, n, _, _, _, hlen, hall⟩ := DataW.trod_struct ht h
  have hi : i < xs.length := by rw [hlen]; exact (Array.getElem?_eq_some_iff.1 hf).1
  have h2 := hall i f hf
  rw [hc, List.getElem?_eq_getElem hi] at h2
  exact ⟨n, _, h2⟩
/-- A slice's value, read. -/
theorem slice_reads {P : Program} {w : World} {t e : TypeId} {α : Type} {d : Kd α} {wf : α → Prop} {H : Type} {enc : TypeId × Value → H} {base : Nat} {spare : Nat → Bool} {held : Bool} {A : Option Addr} {len cap : Nat} {dd : DataW H} {ps : List MemPlace}
    (hr : Reads P w t (Kd.slice e d) (RowWf wf)) (h : DataW.Trod enc P w base spare held t (.slice A len cap) dd ps) : ∃ l : List α, len = l.length ∧ l.length ≤ cap ∧ d.C w A l.length l ∧ RowWf wf l := by
  obtain ⟨fuel, hf⟩ := h
  obtain ⟨l, ⟨A', c', he, hl, hc⟩, hw⟩ := hr enc base spare held fuel _ _ hf
  have he' : (Value.slice A len cap) = .slice A' l.length c' := by simpa [Value.cells] using he
  injection he' with h1 h2 h3
  subst h1 h2 h3
  exact ⟨l, rfl, hl, hc, hw⟩
end Go.Proofs.YtooppfpbeljcbaaDoorOwn
