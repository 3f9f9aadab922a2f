/- The row of the law FnExactDeedText, out of its pure statement (proved in YtecahhcbpgogkaaDoorPureFnExactDeedText) and the contract of the law's function. Written by mkrow.py, a program of this repo. No condition beyond the given statement's. -/
import Derived.Test.YtecahhcbpgogkaaDoorRows
import Derived.Test.YtecahhcbpgogkaaDoorPAllx5
import Derived.Test.YtecahhcbpgogkaaDoorPureFnExactDeedText
import Derived.Test.YtecahhcbpgogkaaDoorRow
import Derived.WalkKit
import Derived.ProofKit
import Derived.OpenShut
import Derived.ShutString
import Derived.ChangeOld
import Derived.Below
import Derived.SizedLaws
import Derived.WideShapes
import Derived.Test.YtecahhcbpgogkaaDoorCards
import Derived.Test.YtecahhcbpgogkaaDoorTie
import Derived.SevenTiedAt
import Derived.LaidMore
import Derived.Stop.Joined
import Derived.Stop.LaidErr
import Derived.Lib.LaidTab
namespace Go.Proofs.YtecahhcbpgogkaaDoor.fnExactDeedText
open Go.ChangeShapes Go.WideShapes Go.ChangeAt Go.RowKit
open Go.ChangeMaps (open_string shut_string)
open Go.Proofs.YtecahhcbpgogkaaDoor.PAll Go.Proofs.YtecahhcbpgogkaaDoorOwn Go.Proofs.YtecahhcbpgogkaaDoorW.PrintWords
set_option linter.unusedVariables false
theorem own : ownKnob Tryd.prog.godebug = none := by kernel_rfl
theorem laidOut : laidOutB Tryd.prog = true := by kernel_rfl
theorem opened0 {H : Type} {enc : TypeId × Value → H} {W : World} {base : Nat} {spare : Nat → Bool} {held : Bool} {d : DataW H} {ps : List MemPlace} {cs : Array Value} (z : cs.size = Tryd.prog.cellsOf 23) (h : DataW.Trod enc Tryd.prog W base spare held 23 (.agg cs) d ps) : ∃ a0_0, (Lit.int .i64 a0_0).wf = true ∧ ∃ a0_1, (Lit.int .i64 a0_1).wf = true ∧ cs = #[.int .i64 a0_0, .int .i64 a0_1] := by
  obtain ⟨fuel, hf⟩ := h
  have hcs : cs.toList.length = 2 := by rw [Array.length_toList, z]; kernel_rfl
  obtain ⟨xs, hxs⟩ : ∃ xs, xs = cs.toList := ⟨_, rfl⟩
  replace hf : DataW.trod enc Tryd.prog W base spare held fuel 23 xs = some (d, ps) := by rw [hxs]; exact hf
  rw [← hxs] at hcs
  match xs, hcs with
  | [x0, x1], _ =>
    obtain ⟨ng1_0, yg1_0, g1_0⟩ := field_of (i := 0) (c := 1) Tryd.underlying23 hf rfl (by kernel_rfl)
    replace g1_0 : DataW.trod enc Tryd.prog W base spare held ng1_0 2 [x0] = some yg1_0 := g1_0
    obtain ⟨a0, e0, w0⟩ := (reads_int Tryd.underlying2) enc base spare held _ _ _ g1_0
    obtain ⟨ng1_1, yg1_1, g1_1⟩ := field_of (i := 1) (c := 1) Tryd.underlying23 hf rfl (by kernel_rfl)
    replace g1_1 : DataW.trod enc Tryd.prog W base spare held ng1_1 2 [x1] = some yg1_1 := g1_1
    obtain ⟨a1, e1, w1⟩ := (reads_int Tryd.underlying2) enc base spare held _ _ _ g1_1
    refine ⟨a0, w0, a1, w1, ?_⟩
    apply Array.toList_inj.1
    rw [← hxs, show x0 = _ from List.singleton_inj.1 e0, show x1 = _ from List.singleton_inj.1 e1]
theorem door_met (os : Os) (args : Array Value) : laidMetH Tryd.prog Rows.fnExactDeedTextRow.laid ((World.doorLaid Tryd.prog 24 os).forCall (fun _ _ => 0) ⟨#[], args, []⟩).memory :=
  laidMetH_of_parts3 (fuel := 8) (laidMet_of_run' 8 (by kernel_rfl) (by kernel_rfl)) (by kernel_rfl) (by kernel_rfl)
theorem glob_of {W : World} (h : laidMetH Tryd.prog Rows.fnExactDeedTextRow.laid W) : Glob W := by
  rw [MakeChecks.laidMetH_plain _ _ _ (by kernel_rfl)] at h
  have h1 := laidMet.tail (laidMet.tail (h))
  exact Lib.tabIs_of_head (g := 0) (t := 48) (e := 41) (n := 20) (by kernel_rfl) (by kernel_rfl) Tryd.underlying48 Tryd.underlying41 (by kernel_rfl) (by kernel_rfl) h1
set_option maxRecDepth 100000 in
theorem lifted (os : Os) (started : os.Started) (H : Type) (enc : TypeId × Value → H) :
    ReturnsInHanded {} Tryd.checked os 3 .any (fun w args => (Rows.fnExactDeedTextSpec.pre enc Tryd.prog Tryd.f3 [] false w args ∧ laidMetH Tryd.prog Rows.fnExactDeedTextRow.laid w) ∧ sizedMet enc Tryd.prog Tryd.f3 (OpenSpec.ofChange Rows.fnExactDeedTextSpec) false w args) (Rows.fnExactDeedTextSpec.post enc Tryd.prog Tryd.f3 false true false false) := by
  refine returnsInHanded_of_change_and (C := Tryd.checked) (X := fun w _ => laidMetH Tryd.prog Rows.fnExactDeedTextRow.laid w) (fun _ _ _ hh h => h.of_heap hh) own started (by kernel_rfl) Tryd.func3
    (ChangeSpec.witness_shaped (enc := enc) (C := Tryd.checked) (os := os) (X := fun w _ => laidMetH Tryd.prog Rows.fnExactDeedTextRow.laid w) false (World.doorLaid Tryd.prog 24 os) #[.agg #[.int .i64 0, .int .i64 0]] 8 rfl (World.shaped_of_RefB (by kernel_rfl) (by kernel_rfl)) (by kernel_rfl) (by kernel_rfl) (by kernel_rfl) (door_met os _)) ?_
  intro W base args ds gs before hval0 hW _ hsz0 hL _
  have hval : ∀ (j : Nat) t v, Tryd.f3.params[j]? = some t → args[j]? = some v → Value.okWide Tryd.prog W .any base t v := hval0
  have hW' := hW
  obtain ⟨p, q, hA0, hV, rfl, hfz, hnd⟩ := hW
  have hA : DataW.TrodAll enc Tryd.prog W 0 (fun _ => true) true Tryd.f3.params.toList args.toList ds p := hA0
  rw [Tryd.params3] at hA hval
  obtain ⟨v0, vs0, d0, ds0, p0, q0, hargs, rfl, rfl, h0, r_0⟩ := trodAll_cons hA
  obtain ⟨rfl, rfl, rfl⟩ := trodAll_nil r_0
  obtain rfl : args = #[v0] := by cases args; simp_all
  obtain ⟨rfl, rfl⟩ := trodVars_none hV
  obtain ⟨cs0, rfl, z0⟩ := okWide_struct Tryd.underlying23 (hval 0 23 v0 rfl rfl)
  have k0 := h0
  have lt0 : ∀ x ∈ p0, x.block < W.heap.size := by obtain ⟨m, hm⟩ := k0; exact DataW.trod_lt m _ _ _ hm
  obtain ⟨a0_0, w0_0, a0_1, w0_1, e0⟩ := opened0 z0 h0
  subst e0
  clear hA0 hval0 hsz0
  obtain ⟨k, hk⟩ := Pure.FnExactDeedText a0_0 a0_1 w0_0 w0_1
  refine (laws_FnExactDeedText.calls k a0_0 a0_1 true W  hk (glob_of hL)).mono fun e W' ⟨he, bel0⟩ => ?_
  have bel : Below W.heap.size W W' := bel0
  subst he
  exact ⟨_, rfl, _, _, _, [], _, [], hW', trodAll_mk1 (shut_bool Tryd.underlying4 _), (trodAll_cons_mk (Below.trod laidOut (by kernel_rfl) (of_decide_eq_true (by kernel_rfl)) k0 bel lt0) trodAll_mk0), rfl, bel.frame _, fun h => by cases h⟩
theorem over : Rows.fnExactDeedTextRow.holds Tryd.pinned (OpenSpec.ofChange Rows.fnExactDeedTextSpec) :=
  OpenClaim.holds_of_wide 3 Tryd.f3 rfl rfl rfl rfl rfl rfl rfl ⟨rfl, rfl, rfl, rfl, rfl⟩ rfl rfl rfl rfl rfl (by kernel_rfl) Tryd.func3 (by kernel_rfl)
    (of_decide_eq_true (by kernel_rfl)) (by unfold Func.isWrapper; first | (rw [if_pos (by decide +kernel)]; kernel_rfl) | (rw [if_neg (by decide +kernel)]; exact ⟨rfl, rfl⟩))
    (fun os started H enc _ => lifted os started H enc)
theorem card : Rows.FnExactDeedTextCardSaid :=
  Claim7.holds_tied_plain_at .later [] [.data, .data, .data] true (true, "315086943966074a9746c54535d9794fe6eb9914fea4d218b5f8f2b82a747348") false
    over (fun _ h => by cases h) (by kernel_rfl) (fun _ h => by cases h) fnExactDeedText_row_tie rfl ⟨rfl, rfl⟩ (by kernel_rfl) rfl
    (fun f fn hf hfn => by
      obtain rfl : f = 3 := Option.some.inj ((show Tryd.prog.funcNamed "loop.example/g01102/laws.FnExactDeedText" = some 3 by kernel_rfl).symm.trans hf) |>.symm
      obtain rfl : fn = Tryd.f3 := (Option.some.inj (Tryd.func3.symm.trans hfn)).symm
      exact ⟨by kernel_rfl, fun j t ht => by
        rw [Tryd.params3] at ht
        have hm : t ∈ [23] := by simpa using Array.mem_of_getElem? ht
        have hall : ([23].all fun u => !Tryd.prog.wantsStandIn u) = true := by kernel_rfl
        exact (show Tryd.prog.wantsStandIn t = false by simpa using List.all_eq_true.1 hall t hm)⟩)
    (by kernel_rfl)
theorem proved : Rows.FnExactDeedTextCardSaid := card
#print axioms proved
end Go.Proofs.YtecahhcbpgogkaaDoor.fnExactDeedText
namespace Go.Proofs.YtecahhcbpgogkaaDoor
/-- The row, under a short name, for the claim. -/
theorem fnExactDeedText_holds : Rows.FnExactDeedTextCardSaid := fnExactDeedText.proved
end Go.Proofs.YtecahhcbpgogkaaDoor
