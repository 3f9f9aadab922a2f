/- The pure statement of the law FnExactSuiteCost: for every list of lists the program's cost and code are the reference's, and the argument is not turned. No condition but that the numbers are of their kind. -/
import Derived.Test.YtecahhcbpgogkaaPAllx0
import Derived.Test.YtecahhcbpgogkaaPAllx10
import Derived.Test.YtecahhcbpgogkaaPAllx11
import Derived.Test.YtecahhcbpgogkaaPAllx12
import Derived.Test.YtecahhcbpgogkaaPAllx5
import Derived.Test.YtecahhcbpgogkaaPAllx7
import Derived.Test.YtecahhcbpgogkaaPAllx9
import Derived.Test.YtecahhcbpgogkaaRow
import Derived.Test.YtecahhcbpgogkaaWWords
import Derived.Test.YtecahhcbpgogkaaXSuite
namespace Go.Proofs.Ytecahhcbpgogkaa.Pure
open Go.RowKit Go.Proofs.Ytecahhcbpgogkaa.PAll Go.Proofs.YtecahhcbpgogkaaOwn Go.Proofs.YtecahhcbpgogkaaW.PrintWords Go.Proofs.YtecahhcbpgogkaaW.PrintLast Go.Proofs.YtecahhcbpgogkaaW.PrintMore

theorem ev_specCost (l : List (List Int)) (hl : l.length ≤ 1048576) (hm : bulk l ≤ 1048576) : Ev (fun k => spec_SuiteCost.f k l) (match stext l with | none => (0, 2) | some _ => ((bulk l : Int), 0)) := by
  refine Ev.bind (ev_spec_l07Text l hl) ?_
  cases stext l with
  | none => exact Ev.now _
  | some b =>
    refine Ev.congr (f := fun k => spec_SuiteCost.l0 k l l.length 0) (fun k => rfl) ?_
    have key := ev_down (n := l.length) (p := fun i => Ev (fun k => spec_SuiteCost.l0 k l ((l.length + ((l.take i).map List.length).sum : Nat) : Int) i) (((bulk l : Nat) : Int), 0)) ?_ ?_ 0 (by omega)
    · exact key
    · refine Ev.step (f := fun _ => some (((bulk l : Nat) : Int), 0)) (fun k => ?_) (Ev.now _)
      simp only [spec_SuiteCost.l0]
      rw [if_neg (by omega), List.take_length]; rfl
    · intro i hi ih
      have hs : ((l.take (i + 1)).map List.length).sum = ((l.take i).map List.length).sum + l[i].length := by
        rw [List.take_succ_eq_append_getElem hi, List.map_append, List.sum_append]; simp
      have hle : ((l.take (i + 1)).map List.length).sum ≤ (l.map List.length).sum := by
        have e : l.map List.length = (l.take (i + 1)).map List.length ++ (l.drop (i + 1)).map List.length := by rw [← List.map_append, List.take_append_drop]
        rw [e, List.sum_append]; omega
      refine Ev.step (f := fun k => spec_SuiteCost.l0 k l ((l.length + ((l.take (i + 1)).map List.length).sum : Nat) : Int) ((i + 1 : Nat) : Int)) (fun k => ?_) ih
      simp only [spec_SuiteCost.l0]
      rw [if_pos (by omega), if_pos (by omega), wrap_succ hi (by omega)]
      simp only [rd_L1, Int.toNat_natCast, getD_eq hi]
      unfold bulk at hm
      rw [wrap_small (by omega) (by omega), hs]
      congr 1
      omega
theorem ev_implCost (l : List (List Int)) (hl : l.length ≤ 1048576) (hm : bulk l ≤ 1048576) : Ev (fun k => impl_SuiteCost.f k l) (match stext l with | none => (0, 2) | some _ => ((bulk l : Int), 0)) := by
  have sum : Ev (fun k => impl_SuiteCost.j0 k l false) (((bulk l : Nat) : Int), 0) := by
    refine Ev.step (f := fun k => impl_SuiteCost.l0 k l.length l l.length 0) (fun k => by simp only [impl_SuiteCost.j0, impl_size_int64_19.f]; rfl) ?_
    have key := ev_down (n := l.length) (p := fun i => Ev (fun k => impl_SuiteCost.l0 k ((l.length + ((l.take i).map List.length).sum : Nat) : Int) l l.length i) (((bulk l : Nat) : Int), 0)) ?_ ?_ 0 (by omega)
    · exact key
    · refine Ev.step (f := fun _ => some (((bulk l : Nat) : Int), 0)) (fun k => ?_) (Ev.now _)
      simp only [impl_SuiteCost.l0]
      rw [if_neg (by omega), List.take_length]; rfl
    · intro i hi ih
      have hs : ((l.take (i + 1)).map List.length).sum = ((l.take i).map List.length).sum + l[i].length := by
        rw [List.take_succ_eq_append_getElem hi, List.map_append, List.sum_append]; simp
      have hle : ((l.take (i + 1)).map List.length).sum ≤ (l.map List.length).sum := by
        have e : l.map List.length = (l.take (i + 1)).map List.length ++ (l.drop (i + 1)).map List.length := by rw [← List.map_append, List.take_append_drop]
        rw [e, List.sum_append]; omega
      refine Ev.step (f := fun k => impl_SuiteCost.l0 k ((l.length + ((l.take (i + 1)).map List.length).sum : Nat) : Int) l l.length ((i + 1 : Nat) : Int)) (fun k => ?_) ih
      simp only [impl_SuiteCost.l0]
      rw [if_pos (by omega), if_pos (by omega), if_pos (by omega), wrap_succ hi (by omega)]
      simp only [rd_L1, Int.toNat_natCast, getD_eq hi, impl_size_int64_20.f, Option.bind_some]
      unfold bulk at hm
      rw [wrap_small (by omega) (by omega), hs]
      congr 1
      omega
  by_cases h0 : l = []
  · subst h0
    refine Ev.congr (fun k => ?_) sum
    unfold impl_SuiteCost.f; rw [if_neg (by simp)]
  · have hp : 0 < l.length := by cases l with | nil => exact absurd rfl h0 | cons x t => simp
    refine Ev.congr (f := fun k => (impl_SuiteText.f k l).bind fun t => impl_SuiteCost.j0 k l (t.toList == ([] : List UInt8))) (fun k => by unfold impl_SuiteCost.f; rw [if_pos (by omega)]) (Ev.bind (ev_implSuite l hl) ?_)
    cases hs : stext l with
    | none => exact Ev.step (f := fun _ => some (0, 2)) (fun k => by simp only [impl_SuiteCost.j0]; rw [if_pos (by rw [Option.getD_none, Go.Lib.toList_data]; rfl)]) (Ev.now _)
    | some b =>
      have hne := stext_ne l h0 b hs
      refine Ev.congr (fun k => ?_) sum
      rw [show ((some b).getD (⟨#[]⟩ : ByteArray)).toList = b.toList from rfl, beq_eq_false_iff_ne.2 hne]
theorem FnExactSuiteCost : ∀ (l0 : List (List (Int))), RowWf (RowWf (fun n => (Lit.int .i64 n).wf = true)) l0 → ∃ k, laws_FnExactSuiteCost.f k l0 = some true := by
  intro l hw
  have h1 : l.length ≤ 9223372036854775807 := hw.1
  have h2 : ∀ w ∈ l, w.length ≤ 9223372036854775807 := fun w hm => (hw.2 w hm).1
  refine Ev.rounds ?_
  obtain ⟨r, hr, _, hb⟩ := ev_szInt64SS l h1 h2 1048576 (by omega) (by omega)
  refine Ev.bind hr ?_
  by_cases hn : r < 0
  · exact Ev.congr (f := fun _ => some true) (fun k => by simp only [if_pos hn]) (Ev.now _)
  · have hb' := hb hn
    have hbk : bulk l ≤ 1048576 := by omega
    have hl : l.length ≤ 1048576 := by unfold bulk at hb'; omega
    have hm : ∀ w ∈ l, w.length ≤ 1048576 := fun w h => by have := bulk_mem h; omega
    have c := ev_toInt64SS l hl hm
    refine Ev.congr (fun k => by simp only [if_neg hn]; rfl) ?_
    refine Ev.bind c (Ev.bind (ev_specCost l hl hbk) (Ev.bind c (Ev.bind (ev_implCost l hl hbk) ?_)))
    refine Ev.congr (f := fun k => laws_FnExactSuiteCost.j0 k l l false) (fun k => by simp) ?_
    refine Ev.step (f := fun k => (laws_toInt64SS.f k l).bind fun t => (laws_eqInt64SS.f k l t).bind fun t => if t = true then some true else some false) (fun k => by simp only [laws_FnExactSuiteCost.j0]; rfl) (Ev.bind c (Ev.bind (ev_eqInt64SS l l h1 h2) ?_))
    exact Ev.congr (f := fun _ => some true) (fun k => by simp) (Ev.now _)
end Go.Proofs.Ytecahhcbpgogkaa.Pure
