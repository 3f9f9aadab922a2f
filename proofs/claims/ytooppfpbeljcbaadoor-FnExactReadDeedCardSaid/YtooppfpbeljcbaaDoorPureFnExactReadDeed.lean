/- The pure statement of the law FnExactReadDeed: for every text of at most 2^20 bytes the program reads the deed that the reference reads. No condition but that the text is of a machine's size. -/
import Derived.Test.YtooppfpbeljcbaaDoorPAllx4
import Derived.Test.YtooppfpbeljcbaaDoorPAllx7
import Derived.Test.YtooppfpbeljcbaaDoorPAllx8
import Derived.Test.YtooppfpbeljcbaaDoorRow
import Derived.Test.YtooppfpbeljcbaaDoorWWords
import Derived.Test.YtooppfpbeljcbaaDoorXReadDeed
namespace Go.Proofs.YtooppfpbeljcbaaDoor.Pure
open Go.RowKit Go.Proofs.YtooppfpbeljcbaaDoor.PAll Go.Proofs.YtooppfpbeljcbaaDoorOwn Go.Proofs.YtooppfpbeljcbaaDoorW.PrintWords Go.Proofs.YtooppfpbeljcbaaDoorW.PrintLast Go.Proofs.YtooppfpbeljcbaaDoorW.PrintMore

theorem FnExactReadDeed : ∀ (a0 : ByteArray), a0.size ≤ maxLen → ∃ k, laws_FnExactReadDeed.f k a0 = some true := by
  intro a0 _
  by_cases hl : (a0.size : Int) > 1048576
  · refine ⟨0, ?_⟩
    unfold laws_FnExactReadDeed.f
    rw [if_pos hl]
  · have hs : a0.toList.length ≤ 1048576 := by
      have : a0.size = a0.toList.length := by rw [Go.Lib.size_eq, Go.Lib.toList_data]
      omega
    obtain ⟨r, h1, h2⟩ := ev_readDeed a0.toList hs
    rw [← eq_mk a0] at h1 h2
    have h3 : Ev (fun k => (spec_ReadDeed.f k a0).bind fun p => (impl_ReadDeed.f k a0).bind fun q => some (p, q)) (r, r) := Ev.bind h1 (Ev.bind h2 (Ev.now _))
    obtain ⟨n, hn⟩ := h3.rounds
    obtain ⟨p, hp, hn⟩ := Option.bind_eq_some_iff.1 hn
    obtain ⟨q, hq, hn⟩ := Option.bind_eq_some_iff.1 hn
    simp only [Option.some.injEq, Prod.mk.injEq] at hn
    obtain ⟨rfl, rfl⟩ := hn
    refine ⟨n, ?_⟩
    unfold laws_FnExactReadDeed.f
    rw [if_neg hl, hp]
    simp only [Option.bind_some]
    rw [hq]
    simp [laws_eqDeed.f]
end Go.Proofs.YtooppfpbeljcbaaDoor.Pure
