/- Words of my own for pure statements: rounds of loops, sums on words: the laws' equality on lists. -/
import Derived.Test.YtpbonlmiicapfaaDoorPAllx0
import Derived.Test.YtpbonlmiicapfaaDoorPAllx11
import Derived.Test.YtpbonlmiicapfaaDoorPAllx12
import Derived.Test.YtpbonlmiicapfaaDoorRow
import Derived.Test.YtpbonlmiicapfaaDoorWWords
import Derived.Test.YtpbonlmiicapfaaDoorXBase
namespace Go.Proofs.YtpbonlmiicapfaaDoor.Pure
open Go.RowKit Go.Proofs.YtpbonlmiicapfaaDoor.PAll Go.Proofs.YtpbonlmiicapfaaDoorOwn Go.Proofs.YtpbonlmiicapfaaDoorW.PrintWords Go.Proofs.YtpbonlmiicapfaaDoorW.PrintLast Go.Proofs.YtpbonlmiicapfaaDoorW.PrintMore
set_option linter.unusedVariables false

theorem drop_eq_iff {α : Type} {a b : List α} {i : Nat} (ha : i < a.length) (hb : i < b.length) : a.drop i = b.drop i ↔ a[i] = b[i] ∧ a.drop (i + 1) = b.drop (i + 1) := by
  rw [List.drop_eq_getElem_cons ha, List.drop_eq_getElem_cons hb, List.cons.injEq]
theorem ev_eqInt64S (a b : List Int) (h : a.length ≤ 9223372036854775807) : Ev (fun k => laws_eqInt64S.f k a b) (decide (a = b)) := by
  by_cases hl : a.length = b.length
  · refine Ev.congr (f := fun k => laws_eqInt64S.l0 k a b 0) (fun k => by unfold laws_eqInt64S.f; rw [if_pos (by omega)]) ?_
    have key := ev_down (n := a.length) (p := fun i => Ev (fun k => laws_eqInt64S.l0 k a b i) (decide (a.drop i = b.drop i))) ?_ ?_ 0 (by omega)
    · exact key
    · refine Ev.step (f := fun _ => some true) (fun k => ?_) ?_
      · simp only [laws_eqInt64S.l0]
        rw [if_neg (by omega)]
      · rw [List.drop_length, hl, List.drop_length]; exact ev_const (by simp)
    · intro i hi ih
      by_cases he : a[i] = b[i]
      · have hd : decide (a.drop i = b.drop i) = decide (a.drop (i + 1) = b.drop (i + 1)) := by
          rw [decide_eq_decide, drop_eq_iff hi (show i < b.length by omega)]; exact ⟨fun h => h.2, fun h => ⟨he, h⟩⟩
        rw [hd]
        refine Ev.step (f := fun k => laws_eqInt64S.l0 k a b ((i + 1 : Nat) : Int)) (fun k => ?_) ih
        simp only [laws_eqInt64S.l0]
        rw [if_pos (by omega), if_pos (by omega), if_pos (by omega), rd_eq hi, rd_eq (show i < b.length by omega), if_pos he, wrap_succ hi (by omega)]
      · have hd : decide (a.drop i = b.drop i) = false := by
          rw [decide_eq_false_iff_not, drop_eq_iff hi (show i < b.length by omega)]; exact fun h => he h.1
        rw [hd]
        refine Ev.step (f := fun _ => some false) (fun k => ?_) (Ev.now _)
        simp only [laws_eqInt64S.l0]
        rw [if_pos (by omega), if_pos (by omega), if_pos (by omega), rd_eq hi, rd_eq (show i < b.length by omega), if_neg he]
  · have hd : decide (a = b) = false := by
      simp; intro e; exact hl (by rw [e])
    rw [hd]
    refine Ev.congr (f := fun _ => some false) (fun k => ?_) (Ev.now _)
    unfold laws_eqInt64S.f; rw [if_neg (by omega)]
theorem ev_eqInt64SS (a b : List (List Int)) (h : a.length ≤ 9223372036854775807) (hw : ∀ w ∈ a, w.length ≤ 9223372036854775807) : Ev (fun k => laws_eqInt64SS.f k a b) (decide (a = b)) := by
  by_cases hl : a.length = b.length
  · refine Ev.congr (f := fun k => laws_eqInt64SS.l0 k a b 0) (fun k => by unfold laws_eqInt64SS.f; rw [if_pos (by omega)]) ?_
    have key := ev_down (n := a.length) (p := fun i => Ev (fun k => laws_eqInt64SS.l0 k a b i) (decide (a.drop i = b.drop i))) ?_ ?_ 0 (by omega)
    · exact key
    · refine Ev.step (f := fun _ => some true) (fun k => ?_) ?_
      · simp only [laws_eqInt64SS.l0]
        rw [if_neg (by omega)]
      · rw [List.drop_length, hl, List.drop_length]; exact ev_const (by simp)
    · intro i hi ih
      have hib : i < b.length := by omega
      refine Ev.step (f := fun k => (laws_eqInt64S.f k a[i] b[i]).bind fun t => if t = true then laws_eqInt64SS.l0 k a b ((i + 1 : Nat) : Int) else some false) (fun k => ?_) (Ev.bind (ev_eqInt64S _ _ (hw _ (List.getElem_mem hi))) ?_)
      · simp only [laws_eqInt64SS.l0]
        rw [if_pos (by omega), if_pos (by omega), if_pos (by omega), wrap_succ hi (by omega)]
        simp only [rd_L2, Int.toNat_natCast, getD_eq hi, getD_eq hib]
      · by_cases he : a[i] = b[i]
        · have hd : decide (a.drop i = b.drop i) = decide (a.drop (i + 1) = b.drop (i + 1)) := by
            rw [decide_eq_decide, drop_eq_iff hi hib]; exact ⟨fun h => h.2, fun h => ⟨he, h⟩⟩
          rw [hd]
          exact Ev.congr (fun k => by simp [he]) ih
        · have hd : decide (a.drop i = b.drop i) = false := by
            rw [decide_eq_false_iff_not, drop_eq_iff hi hib]; exact fun h => he h.1
          rw [hd]
          exact Ev.congr (f := fun _ => some false) (fun k => by simp [he]) (Ev.now _)
  · have hd : decide (a = b) = false := by
      simp; intro e; exact hl (by rw [e])
    rw [hd]
    refine Ev.congr (f := fun _ => some false) (fun k => ?_) (Ev.now _)
    unfold laws_eqInt64SS.f; rw [if_neg (by omega)]
end Go.Proofs.YtpbonlmiicapfaaDoor.Pure
