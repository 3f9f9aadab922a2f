/- The pure statement of the law FnExactReadSuite: for every text the program's suite and code are the reference's, and what was marked is held. No condition but that the text is of its kind. -/
import Derived.Test.YtpbonlmiicapfaaDoorPAllx15
import Derived.Test.YtpbonlmiicapfaaDoorRow
import Derived.Test.YtpbonlmiicapfaaDoorWWords
import Derived.Test.YtpbonlmiicapfaaDoorXRead
import Derived.Test.YtpbonlmiicapfaaDoorXMark
import Derived.Test.YtpbonlmiicapfaaDoorXEq
namespace Go.Proofs.YtpbonlmiicapfaaDoor.Pure
open Go.RowKit Go.Proofs.YtpbonlmiicapfaaDoor.PAll Go.Proofs.YtpbonlmiicapfaaDoorOwn Go.Proofs.YtpbonlmiicapfaaDoorW.PrintWords Go.Proofs.YtpbonlmiicapfaaDoorW.PrintLast Go.Proofs.YtpbonlmiicapfaaDoorW.PrintMore

theorem FnExactReadSuite : ∀ (a0 : ByteArray), a0.size ≤ maxLen → ∃ k, laws_FnExactReadSuite.f k a0 = some true := by
  intro a _
  rw [eq_mk a]
  generalize a.toList = t
  refine Ev.rounds ?_
  by_cases h : (t.length : Int) > 1048576
  · exact Ev.congr (f := fun _ => some true) (fun k => by unfold laws_FnExactReadSuite.f; rw [if_pos (by rw [mk_size]; exact h)]) (Ev.now _)
  · obtain ⟨r, hr⟩ : ∃ r : List (List Int) × Int, r = if t.length > 20000 then ([], 2) else sout t := ⟨_, rfl⟩
    have hs := ev_specReadSuite t
    have hi := ev_implReadSuite t
    rw [← hr] at hs hi
    have hb : r.1.length ≤ 400 ∧ ∀ w ∈ r.1, w.length ≤ 400 := by
      rw [hr]
      by_cases h2 : t.length > 20000
      · rw [if_pos h2]; exact ⟨by simp, fun w hw => absurd hw (by simp)⟩
      · rw [if_neg h2]; exact sout_small t
    have hl := letters_le r.1 400 hb.2
    refine Ev.congr (fun k => by unfold laws_FnExactReadSuite.f; rw [if_neg (by rw [mk_size]; exact h)]) (Ev.bind hs (Ev.bind hi (Ev.bind (ev_eqInt64SS r.1 r.1 (by omega) (fun w hw => by have := hb.2 w hw; omega)) (Ev.bind (ev_markInt64SS r.1 1 (by omega) (by omega)) (Ev.bind (ev_heldInt64SS r.1 1 (by omega) (by omega) (by omega)) ?_)))))
    refine Ev.congr (f := fun _ => some true) (fun k => ?_) (Ev.now _)
    rw [if_pos ⟨by simp, rfl, rfl, by omega⟩]
end Go.Proofs.YtpbonlmiicapfaaDoor.Pure
