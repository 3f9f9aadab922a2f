/- Pure: the text of a word, in the reference and in the program: both come to wtext. -/
import Derived.Test.YtpbonlmiicapfaaDoorPAllx1
import Derived.Test.YtpbonlmiicapfaaDoorPAllx20
import Derived.Test.YtpbonlmiicapfaaDoorPAllx4
import Derived.Test.YtpbonlmiicapfaaDoorPAllx5
import Derived.Test.YtpbonlmiicapfaaDoorRow
import Derived.Test.YtpbonlmiicapfaaDoorWWords
import Derived.Test.YtpbonlmiicapfaaDoorXBase
namespace Go.Proofs.YtpbonlmiicapfaaDoor.Pure
open Go.RowKit Go.Proofs.YtpbonlmiicapfaaDoor.PAll Go.Proofs.YtpbonlmiicapfaaDoorOwn Go.Proofs.YtpbonlmiicapfaaDoorW.PrintWords Go.Proofs.YtpbonlmiicapfaaDoorW.PrintLast Go.Proofs.YtpbonlmiicapfaaDoorW.PrintMore
set_option linter.unusedVariables false

def isLet (x : Int) : Bool := decide (0 ≤ x) && decide (x ≤ 2)
def enc (x : Int) : Int := (97 + x) % 256
/-- The text of a word. -/
def wtext (w : List Int) : ByteArray := if (w.length : Int) > 400 then ⟨#[]⟩ else if w.all isLet = true then (if w = [] then ⟨#[45]⟩ else strOfNums (w.map enc)) else ⟨#[]⟩
theorem wrap_enc {x : Int} (h : isLet x = true) : wrap64 (97 + x) % 256 = enc x := by
  simp [isLet] at h
  rw [wrap_small (by omega) (by omega)]; rfl
theorem l00In_eq (x : Int) : spec_l00In.f x 0 2 = some (isLet x) := by
  unfold spec_l00In.f isLet
  by_cases h : x ≥ 0
  · rw [if_pos h]; simp [h]
  · rw [if_neg h]; simp [h]
theorem map_take_snoc (w : List Int) (i : Nat) (h : i < w.length) : (w.take i).map enc ++ [enc w[i]] = (w.take (i + 1)).map enc := by
  rw [List.take_succ_eq_append_getElem h, List.map_append]; rfl
theorem ev_specWord (w : List Int) : Ev (fun k => spec_WordText.f k w) (wtext w) := by
  by_cases hl : (w.length : Int) > 400
  · refine Ev.congr (f := fun _ => some ⟨#[]⟩) (fun k => ?_) ?_
    · unfold spec_WordText.f; rw [if_pos hl]
    · rw [show wtext w = ⟨#[]⟩ from by unfold wtext; rw [if_pos hl]]; exact Ev.now _
  · refine Ev.congr (f := fun k => spec_WordText.l0 k w [] 0) (fun k => by unfold spec_WordText.f; rw [if_neg hl]) ?_
    have key := ev_down (n := w.length) (p := fun i => Ev (fun k => spec_WordText.l0 k w ((w.take i).map enc) i) (if (w.drop i).all isLet = true then (if w = [] then ⟨#[45]⟩ else strOfNums (w.map enc)) else ⟨#[]⟩)) ?_ ?_ 0 (by omega)
    · rw [show wtext w = (if w.all isLet = true then (if w = [] then ⟨#[45]⟩ else strOfNums (w.map enc)) else ⟨#[]⟩) from by unfold wtext; rw [if_neg hl]]
      exact key
    · refine Ev.step (f := fun _ => if w = [] then some ⟨#[45]⟩ else some (strOfNums (w.map enc))) (fun k => ?_) ?_
      · simp only [spec_WordText.l0]
        rw [if_neg (by omega), List.take_length]
        by_cases hw : w = []
        · subst hw; rfl
        · rw [if_neg hw, if_neg]
          cases w with
          | nil => exact absurd rfl hw
          | cons x t => simp; omega
      · rw [List.drop_length]
        by_cases hw : w = []
        · simp only [if_pos hw]; exact Ev.now _
        · simp only [if_neg hw]; exact Ev.now _
    · intro i hi ih
      cases hx : isLet w[i] with
      | true =>
        have hd : (w.drop i).all isLet = (w.drop (i + 1)).all isLet := by
          rw [List.drop_eq_getElem_cons hi, List.all_cons, hx, Bool.true_and]
        rw [hd]
        refine Ev.step (f := fun k => spec_WordText.l0 k w ((w.take (i + 1)).map enc) ((i + 1 : Nat) : Int)) (fun k => ?_) ih
        simp only [spec_WordText.l0]
        rw [if_pos (by omega), if_pos (by omega), rd_eq hi, l00In_eq, hx]
        simp only [Option.bind_some, if_true]
        rw [if_pos (by simp; omega), wrap_enc hx, map_take_snoc w i hi, wrap_succ hi (by omega)]
      | false =>
        have hd : (w.drop i).all isLet = false := by
          rw [List.drop_eq_getElem_cons hi, List.all_cons, hx, Bool.false_and]
        rw [hd]
        refine Ev.step (f := fun _ => some ⟨#[]⟩) (fun k => ?_) (Ev.now _)
        simp only [spec_WordText.l0]
        rw [if_pos (by omega), if_pos (by omega), rd_eq hi, l00In_eq, hx]
        rfl
theorem areWithin_eq (w : List Int) : impl_areWithin.f w 0 2 = some (w.all isLet) := by
  unfold impl_areWithin.f
  rw [List.all_eq_not_any_not]
  rfl
theorem ev_implWord (w : List Int) : Ev (fun k => impl_WordText.f k w) (wtext w) := by
  by_cases hl : (w.length : Int) > 400
  · rw [show wtext w = ⟨#[]⟩ from by unfold wtext; rw [if_pos hl]]
    refine Ev.congr (f := fun k => impl_WordText.j0 k w true) (fun k => by unfold impl_WordText.f; rw [if_pos hl]) ?_
    exact Ev.step (f := fun _ => some ⟨#[]⟩) (fun k => by simp only [impl_WordText.j0]; rfl) (Ev.now _)
  · refine Ev.congr (f := fun k => impl_WordText.j0 k w (!(w.all isLet))) (fun k => by unfold impl_WordText.f; rw [if_neg hl, areWithin_eq]; rfl) ?_
    rw [show wtext w = (if w.all isLet = true then (if w = [] then ⟨#[45]⟩ else strOfNums (w.map enc)) else ⟨#[]⟩) from by unfold wtext; rw [if_neg hl]]
    cases hx : w.all isLet with
    | false => exact Ev.step (f := fun _ => some ⟨#[]⟩) (fun k => by simp only [impl_WordText.j0]; rfl) (Ev.now _)
    | true =>
      by_cases hw : w = []
      · subst hw
        exact Ev.step (f := fun _ => some ⟨#[45]⟩) (fun k => by simp only [impl_WordText.j0]; rfl) (Ev.now _)
      · have h0 : 0 < w.length := by cases w with | nil => exact absurd rfl hw | cons x t => simp
        simp only [if_neg hw, if_true]
        refine Ev.step (f := fun k => impl_WordText.l0 k [] w w.length 0) (fun k => by simp only [impl_WordText.j0, Bool.not_true]; rw [if_neg (by simp), if_neg (by omega)]) ?_
        have key := ev_down (n := w.length) (p := fun i => Ev (fun k => impl_WordText.l0 k ((w.take i).map enc) w w.length i) (strOfNums (w.map enc))) ?_ ?_ 0 (by omega)
        · exact key
        · refine Ev.step (f := fun _ => some (strOfNums (w.map enc))) (fun k => ?_) (Ev.now _)
          simp only [impl_WordText.l0]
          rw [if_neg (by omega), List.take_length]
        · intro i hi ih
          have hy : isLet w[i] = true := List.all_eq_true.1 hx _ (List.getElem_mem hi)
          refine Ev.step (f := fun k => impl_WordText.l0 k ((w.take (i + 1)).map enc) w w.length ((i + 1 : Nat) : Int)) (fun k => ?_) ih
          simp only [impl_WordText.l0]
          rw [if_pos (by omega), if_pos (by omega), if_pos (by omega), if_pos (by simp; omega), rd_eq hi, wrap_enc hy, map_take_snoc w i hi, wrap_succ hi (by omega)]
theorem wtext_size (w : List Int) : (wtext w).size ≤ 400 := by
  unfold wtext
  by_cases hl : (w.length : Int) > 400
  · rw [if_pos hl]; exact Nat.zero_le _
  · rw [if_neg hl]
    by_cases ha : w.all isLet = true
    · rw [if_pos ha]
      by_cases hw : w = []
      · rw [if_pos hw]; decide
      · rw [if_neg hw, strOfNums_size, List.length_map]; omega
    · rw [if_neg ha]; exact Nat.zero_le _
end Go.Proofs.YtpbonlmiicapfaaDoor.Pure
