/- The pure statement of the law FnExactDeedText: for every deed the program's text is the reference's. No condition but that the numbers are of their kind. -/
import Derived.Test.YtecahhcbpgogkaaDoorPAllx4
import Derived.Test.YtecahhcbpgogkaaDoorPAllx5
import Derived.Test.YtecahhcbpgogkaaDoorRow
import Derived.Test.YtecahhcbpgogkaaDoorWWords
import Derived.Test.YtecahhcbpgogkaaDoorXDeed
namespace Go.Proofs.YtecahhcbpgogkaaDoor.Pure
open Go.RowKit Go.Proofs.YtecahhcbpgogkaaDoor.PAll Go.Proofs.YtecahhcbpgogkaaDoorOwn Go.Proofs.YtecahhcbpgogkaaDoorW.PrintWords Go.Proofs.YtecahhcbpgogkaaDoorW.PrintLast Go.Proofs.YtecahhcbpgogkaaDoorW.PrintMore

theorem FnExactDeedText : ∀ (a0_0 : Int) (a0_1 : Int), (Lit.int .i64 a0_0).wf = true → (Lit.int .i64 a0_1).wf = true → ∃ k, laws_FnExactDeedText.f k a0_0 a0_1 = some true := by
  intro k a _ _
  obtain ⟨n, hn⟩ := (ev_specDeedText k a).rounds
  refine ⟨n, ?_⟩
  unfold laws_FnExactDeedText.f laws_toDeed.f
  simp only [Option.bind_some]
  rw [hn, implDeedText_eq]
  simp
end Go.Proofs.YtecahhcbpgogkaaDoor.Pure
