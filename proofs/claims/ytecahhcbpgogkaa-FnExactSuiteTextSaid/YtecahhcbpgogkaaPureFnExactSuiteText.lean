/- The pure statement of the law FnExactSuiteText: for every list of lists the program's text is the reference's, and the argument is not turned. No condition but that the numbers are of their kind. -/
import Derived.Test.YtecahhcbpgogkaaPAllx10
import Derived.Test.YtecahhcbpgogkaaRow
import Derived.Test.YtecahhcbpgogkaaWWords
import Derived.Test.YtecahhcbpgogkaaXSuite
namespace Go.Proofs.Ytecahhcbpgogkaa.Pure
open Go.RowKit Go.Proofs.Ytecahhcbpgogkaa.PAll Go.Proofs.YtecahhcbpgogkaaOwn Go.Proofs.YtecahhcbpgogkaaW.PrintWords Go.Proofs.YtecahhcbpgogkaaW.PrintLast Go.Proofs.YtecahhcbpgogkaaW.PrintMore

theorem FnExactSuiteText : ∀ (l0 : List (List (Int))), RowWf (RowWf (fun n => (Lit.int .i64 n).wf = true)) l0 → ∃ k, laws_FnExactSuiteText.f k l0 = some true := by
  intro l hw
  have h1 : l.length ≤ 9223372036854775807 := hw.1
  have h2 : ∀ w ∈ l, w.length ≤ 9223372036854775807 := fun w hm => (hw.2 w hm).1
  refine Ev.rounds ?_
  obtain ⟨r, hr, _, hb⟩ := ev_szInt64SS l h1 h2 1048576 (by omega) (by omega)
  refine Ev.bind hr ?_
  by_cases hn : r < 0
  · exact Ev.congr (f := fun _ => some true) (fun k => by simp only [if_pos hn]) (Ev.now _)
  · have hb' := hb hn
    have hl : l.length ≤ 1048576 := by unfold bulk at hb'; omega
    have hm : ∀ w ∈ l, w.length ≤ 1048576 := fun w h => by have := bulk_mem h; omega
    have c := ev_toInt64SS l hl hm
    refine Ev.congr (fun k => by simp only [if_neg hn]; rfl) ?_
    refine Ev.bind c (Ev.bind (ev_specSuite l hl) (Ev.bind c (Ev.bind (ev_implSuite l hl) ?_)))
    refine Ev.congr (fun k => by rw [if_pos rfl]) (Ev.bind c (Ev.bind (ev_eqInt64SS l l h1 h2) ?_))
    exact Ev.congr (f := fun _ => some true) (fun k => by simp) (Ev.now _)
end Go.Proofs.Ytecahhcbpgogkaa.Pure
