/- The row of the law FnExactSuiteCost, out of its pure statement (proved in YtecahhcbpgogkaaPureFnExactSuiteCost) and the contract of the law's function. Written by mkrow.py, a program of this repo. No condition beyond the given statement's. -/
import Derived.Test.YtecahhcbpgogkaaRows
import Derived.Test.YtecahhcbpgogkaaPAllx12
import Derived.Test.YtecahhcbpgogkaaPureFnExactSuiteCost
import Derived.Test.YtecahhcbpgogkaaRow
import Derived.WalkKit
import Derived.ProofKit
import Derived.OpenShut
import Derived.ShutString
import Derived.ChangeOld
import Derived.Below
import Derived.SizedLaws
import Derived.WideShapes
namespace Go.Proofs.Ytecahhcbpgogkaa.fnExactSuiteCost
open Go.ChangeShapes Go.WideShapes Go.ChangeAt Go.RowKit
open Go.ChangeMaps (open_string shut_string)
open Go.Proofs.Ytecahhcbpgogkaa.PAll Go.Proofs.YtecahhcbpgogkaaOwn Go.Proofs.YtecahhcbpgogkaaW.PrintWords
set_option linter.unusedVariables false
theorem own : ownKnob Try.prog.godebug = none := by kernel_rfl
theorem laidOut : laidOutB Try.prog = true := by kernel_rfl
set_option maxRecDepth 100000 in
theorem lifted (os : Os) (started : os.Started) (H : Type) (enc : TypeId × Value → H) :
    ReturnsInHanded {} Try.checked os 4 .any (Rows.fnExactSuiteCostSpec.pre6 enc Try.prog Try.f4 Rows.fnExactSuiteCostRow.domain false) (Rows.fnExactSuiteCostSpec.post enc Try.prog Try.f4 false true false false) := by
  refine returnsInHanded_of_change_sized (C := Try.checked) own started (by kernel_rfl) Try.func4
    (ChangeSpec.witness6 (enc := enc) (C := Try.checked) false ⟨#[], #[.slice none 0 0], []⟩ 8 (by kernel_rfl) (by kernel_rfl) (by kernel_rfl) (by kernel_rfl)) ?_
  intro W base args ds gs before hval0 hW hcnd hsz0 _
  have hval : ∀ (j : Nat) t v, Try.f4.params[j]? = some t → args[j]? = some v → Value.okWide Try.prog W .any base t v := hval0
  have hW' := hW
  obtain ⟨p, q, hA0, hV, rfl, hfz, hnd⟩ := hW
  have hA : DataW.TrodAll enc Try.prog W 0 (fun _ => true) true Try.f4.params.toList args.toList ds p := hA0
  rw [Try.params4] at hA hval
  obtain ⟨v0, vs0, d0, ds0, p0, q0, hargs, rfl, rfl, h0, r_0⟩ := trodAll_cons hA
  obtain ⟨rfl, rfl, rfl⟩ := trodAll_nil r_0
  obtain rfl : args = #[v0] := by cases args; simp_all
  obtain ⟨rfl, rfl⟩ := trodVars_none hV
  obtain ⟨A0, len0, cap0, rfl⟩ := okWide_slice Try.underlying22 (hval 0 22 v0 rfl rfl)
  have k0 := h0
  have lt0 : ∀ x ∈ p0, x.block < W.heap.size := by obtain ⟨m, hm⟩ := k0; exact DataW.trod_lt m _ _ _ hm
  obtain ⟨l0, e0, c0, r0, w0⟩ := slice_reads (reads_slice Try.underlying22 (by kernel_rfl) (reads_slice Try.underlying31 (by kernel_rfl) (reads_int Try.underlying2))) h0
  subst e0
  clear hA0 hval0 hsz0
  obtain ⟨k, hk⟩ := Pure.FnExactSuiteCost l0 w0
  refine (laws_FnExactSuiteCost.calls k A0 cap0 l0 true W r0 c0 hk).mono fun e W' ⟨he, bel0⟩ => ?_
  have bel : Below W.heap.size W W' := bel0
  subst he
  exact ⟨_, rfl, _, _, _, [], _, [], hW', trodAll_mk1 (shut_bool Try.underlying4 _), (trodAll_cons_mk (Below.trod laidOut (by kernel_rfl) (of_decide_eq_true (by kernel_rfl)) k0 bel lt0) trodAll_mk0), rfl, bel.frame _, fun h => by cases h⟩
theorem over : Rows.fnExactSuiteCostRow.holds Try.pinned (OpenSpec.ofChange Rows.fnExactSuiteCostSpec) :=
  OpenClaim.holds_of_wide 4 Try.f4 rfl rfl rfl rfl rfl rfl rfl ⟨rfl, rfl, rfl, rfl, rfl⟩ rfl rfl rfl rfl rfl (by kernel_rfl) Try.func4 (by kernel_rfl)
    (of_decide_eq_true (by kernel_rfl)) (by unfold Func.isWrapper; first | (rw [if_pos (by decide +kernel)]; kernel_rfl) | (rw [if_neg (by decide +kernel)]; exact ⟨rfl, rfl⟩))
    (fun os started H enc _ => lifted os started H enc)
theorem proved : Rows.FnExactSuiteCostSaid := over
#print axioms proved
end Go.Proofs.Ytecahhcbpgogkaa.fnExactSuiteCost
namespace Go.Proofs.Ytecahhcbpgogkaa
/-- The row, under a short name, for the claim. -/
theorem fnExactSuiteCost_holds : Rows.FnExactSuiteCostSaid := fnExactSuiteCost.proved
end Go.Proofs.Ytecahhcbpgogkaa
