/- Pure: the text of a suite, in the reference and in the program: both come to stext. -/
import Derived.Test.YtpbonlmiicapfaaDoorPAllx0
import Derived.Test.YtpbonlmiicapfaaDoorPAllx20
import Derived.Test.YtpbonlmiicapfaaDoorPAllx21
import Derived.Test.YtpbonlmiicapfaaDoorPAllx5
import Derived.Test.YtpbonlmiicapfaaDoorPAllx6
import Derived.Test.YtpbonlmiicapfaaDoorRow
import Derived.Test.YtpbonlmiicapfaaDoorWWords
import Derived.Test.YtpbonlmiicapfaaDoorXWord
namespace Go.Proofs.YtpbonlmiicapfaaDoor.Pure
open Go.RowKit Go.Proofs.YtpbonlmiicapfaaDoor.PAll Go.Proofs.YtpbonlmiicapfaaDoorOwn Go.Proofs.YtpbonlmiicapfaaDoorW.PrintWords Go.Proofs.YtpbonlmiicapfaaDoorW.PrintLast Go.Proofs.YtpbonlmiicapfaaDoorW.PrintMore
set_option linter.unusedVariables false

def nl : ByteArray := ⟨#[10]⟩
/-- The texts of words, one behind the other; none if a word has none. -/
def sgo : List (List Int) → ByteArray → Option ByteArray
  | [], b => some b
  | w :: t, b => if (wtext w).toList = ([] : List UInt8) then none else sgo t (b ++ (wtext w ++ nl))
theorem sgo_drop (l : List (List Int)) (i : Nat) (h : i < l.length) (b : ByteArray) : sgo (l.drop i) b = if (wtext l[i]).toList = ([] : List UInt8) then none else sgo (l.drop (i + 1)) (b ++ (wtext l[i] ++ nl)) := by
  rw [List.drop_eq_getElem_cons h]; rfl
theorem size_next (w : List Int) (b : ByteArray) : (b ++ (wtext w ++ nl)).size ≤ b.size + 401 := by
  have := wtext_size w
  have h1 : nl.size = 1 := rfl
  rw [ByteArray.size_append, ByteArray.size_append, h1]; omega
/-- The text of a suite; none if it has none. -/
def stext (l : List (List Int)) : Option ByteArray := if (l.length : Int) > 400 then none else sgo l ⟨#[]⟩
theorem ev_spec_l07Text (l : List (List Int)) (hl : l.length ≤ 1048576) : Ev (fun k => spec_l07Text.f k l) (match stext l with | none => ((⟨#[]⟩ : ByteArray), false) | some b => (b, true)) := by
  have key : ∀ m : Nat, ∀ i, i ≤ l.length → l.length - i = m → i ≤ 400 → ∀ b : ByteArray, b.size ≤ 401 * i → Ev (fun k => spec_l07Text.l0 k l b i) (match (if (l.length : Int) > 400 then none else sgo (l.drop i) b) with | none => ((⟨#[]⟩ : ByteArray), false) | some b => (b, true)) := by
    intro m
    induction m with
    | zero =>
      intro i hi hm h4 b hb
      refine Ev.step (f := fun _ => some (b, true)) (fun k => ?_) ?_
      · simp only [spec_l07Text.l0]
        rw [if_neg (by omega)]
      · rw [if_neg (by omega), List.drop_of_length_le (by omega)]; exact Ev.now _
    | succ m ih =>
      intro i hi hm h4 b hb
      have hlt : i < l.length := by omega
      have hgo : (fun k => spec_l07Text.l0 (k + 1) l b i) = fun k => (spec_WordText.f k l[i]).bind fun t => if t.toList = ([] : List UInt8) then some ((⟨#[]⟩ : ByteArray), false) else if (i : Int) = 400 then some ((⟨#[]⟩ : ByteArray), false) else if t.size + 1 ≤ 9223372036854775807 then if b.size + (t ++ (⟨#[10]⟩ : ByteArray)).size ≤ 9223372036854775807 then spec_l07Text.l0 k l (b ++ (t ++ (⟨#[10]⟩ : ByteArray))) ((i + 1 : Nat) : Int) else none else none := by
        funext k
        simp only [spec_l07Text.l0]
        rw [if_pos (by omega), if_pos (by omega), wrap_succ hlt (by omega)]
        simp only [rd_L2, Int.toNat_natCast, getD_eq hlt]
      refine Ev.step (f := fun k => spec_l07Text.l0 (k + 1) l b i) (fun k => rfl) ?_
      rw [hgo]
      refine Ev.bind (ev_specWord l[i]) ?_
      rw [sgo_drop l i hlt]
      by_cases hw : (wtext l[i]).toList = ([] : List UInt8)
      · rw [if_pos hw]
        refine Ev.congr (f := fun _ => some ((⟨#[]⟩ : ByteArray), false)) (fun k => by simp only [if_pos hw]) ?_
        rw [ite_self]; exact Ev.now _
      · rw [if_neg hw]
        by_cases h5 : (i : Int) = 400
        · refine Ev.congr (f := fun _ => some ((⟨#[]⟩ : ByteArray), false)) (fun k => by simp only [if_neg hw, if_pos h5]) ?_
          rw [if_pos (by omega)]; exact Ev.now _
        · have hs := wtext_size l[i]
          have hn : (wtext l[i] ++ (⟨#[10]⟩ : ByteArray)).size ≤ 401 := by
            rw [ByteArray.size_append]; have h1 : (⟨#[10]⟩ : ByteArray).size = 1 := rfl
            omega
          refine Ev.congr (fun k => ?_) (ih (i + 1) (by omega) (by omega) (by omega) (b ++ (wtext l[i] ++ nl)) (by have := size_next l[i] b; omega))
          simp only [if_neg hw, if_neg h5]
          rw [if_pos (by omega), if_pos (by omega)]
          rfl
  have h := key l.length 0 (by omega) (by omega) (by omega) ⟨#[]⟩ (by decide)
  exact h
theorem ev_specSuite (l : List (List Int)) (hl : l.length ≤ 1048576) : Ev (fun k => spec_SuiteText.f k l) ((stext l).getD ⟨#[]⟩) := by
  refine Ev.bind (ev_spec_l07Text l hl) ?_
  cases stext l <;> exact Ev.now _
theorem ev_implSuite_l (l : List (List Int)) : ∀ (i : Nat), i + l.length ≤ 1048576 → ∀ b : ByteArray, b.size ≤ 401 * i → Ev (fun k => impl_SuiteText.l k l b) (sgo l b) := by
  induction l with
  | nil => exact fun i _ b _ => Ev.now _
  | cons w t ih =>
    intro i hi b hb
    refine Ev.congr (f := fun k => (impl_WordText.f k w).bind fun s => if s.toList = ([] : List UInt8) then some none else if b.size + (s.size + 1) ≤ 140737488355328 then impl_SuiteText.l k t (b ++ (s ++ (⟨#[10]⟩ : ByteArray))) else none) (fun k => rfl) (Ev.bind (ev_implWord w) ?_)
    by_cases hw : (wtext w).toList = ([] : List UInt8)
    · refine Ev.congr (f := fun _ => some none) (fun k => by simp only [if_pos hw]) ?_
      rw [show sgo (w :: t) b = none from by simp only [sgo]; rw [if_pos hw]]
      exact Ev.now _
    · rw [show sgo (w :: t) b = sgo t (b ++ (wtext w ++ nl)) from by simp only [sgo]; rw [if_neg hw]]
      have hs := wtext_size w
      simp only [List.length_cons] at hi
      refine Ev.congr (fun k => ?_) (ih (i + 1) (by omega) _ (by have := size_next w b; omega))
      simp only [if_neg hw]
      rw [if_pos (by omega)]
      rfl
theorem ev_implSuite (l : List (List Int)) (hl : l.length ≤ 1048576) : Ev (fun k => impl_SuiteText.f k l) ((stext l).getD ⟨#[]⟩) := by
  refine Ev.bind (ev_implSuite_l l 0 (by omega) ⟨#[]⟩ (by decide)) ?_
  unfold stext
  cases hs : sgo l ⟨#[]⟩ with
  | none => rw [ite_self]; exact Ev.now _
  | some b =>
    by_cases hg : (l.length : Int) > 400
    · exact Ev.congr (f := fun _ => some ⟨#[]⟩) (fun k => by simp only [if_pos hg]) (by rw [if_pos hg]; exact Ev.now _)
    · exact Ev.congr (f := fun _ => some b) (fun k => by simp only [if_neg hg]) (by rw [if_neg hg]; exact Ev.now _)
/-- Where words are not empty their text is not. -/
theorem sgo_ne (l : List (List Int)) : ∀ b c, sgo l b = some c → (b.size ≤ c.size) ∧ (l ≠ [] → c.toList ≠ []) := by
  induction l with
  | nil => intro b c h; simp [sgo] at h; subst h; exact ⟨Nat.le_refl _, fun h => absurd rfl h⟩
  | cons w t ih =>
    intro b c h
    simp only [sgo] at h
    by_cases hw : (wtext w).toList = ([] : List UInt8)
    · rw [if_pos hw] at h; exact absurd h (by simp)
    · rw [if_neg hw] at h
      obtain ⟨h1, _⟩ := ih _ _ h
      have h2 : (b ++ (wtext w ++ nl)).size = b.size + ((wtext w).size + 1) := by
        have h3 : nl.size = 1 := rfl
        rw [ByteArray.size_append, ByteArray.size_append, h3]
      refine ⟨by omega, fun _ he => ?_⟩
      have h4 : c.size = 0 := by
        have : c.toList.length = 0 := by rw [he]; rfl
        rw [Go.Lib.toList_data] at this
        rw [Go.Lib.size_eq]; exact this
      omega
theorem stext_ne (l : List (List Int)) (h : l ≠ []) (c : ByteArray) (hc : stext l = some c) : c.toList ≠ [] := by
  unfold stext at hc
  split at hc
  · exact absurd hc (by simp)
  · exact (sgo_ne l _ _ hc).2 h
end Go.Proofs.YtpbonlmiicapfaaDoor.Pure
