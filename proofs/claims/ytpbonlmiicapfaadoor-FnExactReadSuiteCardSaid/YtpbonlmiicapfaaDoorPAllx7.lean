-- written by mkprint.py, a program of this repo that runs the kit's printer with contracts of its own (see NOTES.md)
import Derived.Test.YtpbonlmiicapfaaDoorPAllx0
namespace Go.Proofs.YtpbonlmiicapfaaDoor.PAll
open Go.RowKit Go.Proofs.YtpbonlmiicapfaaDoorW.PrintWords Go.Proofs.YtpbonlmiicapfaaDoorW.PrintLast Go.Proofs.YtpbonlmiicapfaaDoorW.PrintMore
attribute [local go_sem] max2_int min2_int max_two min_two max_three min_three max_four min_four   -- for this text's walks alone
open Go.Proofs.YtpbonlmiicapfaaDoorOwn
set_option linter.unusedVariables false
set_option linter.unusedSimpArgs false

/-! ### strings_Count: function 54 -/
/-- Count, for a separator of one byte. -/
def strings_Count.f (a0 : ByteArray) (a1 : ByteArray) : Option Int := match a1.toList with
  | [c] => some (Lib.countByte a0.toList c)
  | _ => none
theorem strings_Count.calls (a0 : ByteArray) (a1 : ByteArray) (r : Int) (w : World) (h : strings_Count.f a0 a1 = some r) :
    Calls Tryd.prog 54 #[.string a0, .string a1] w fun e w' => e = .returned (.int .i64 r) ∧ Drawn0 w w' := by
  unfold strings_Count.f at h
  split at h
  · rename_i c hc
    obtain rfl := Option.some.inj h
    rw [Go.Lib.toList_data] at hc
    obtain ⟨⟨l⟩⟩ := a1
    dsimp only at hc
    subst hc
    rw [Go.Lib.toList_data]
    refine (Go.Proofs.Tryd.strings_Count_one a0 c w).mono ?_
    rintro e w' ⟨rfl, rfl⟩
    exact ⟨rfl, Drawn0.refl _⟩
  · exact absurd h (by simp)
/-! ### strings_Index: function 55 -/
/-- Index, for a separator of one byte. -/
def strings_Index.f (a0 : ByteArray) (a1 : ByteArray) : Option Int := match a1.toList with
  | [c] => some (Lib.indexByte a0.toList c)
  | _ => none
theorem strings_Index.calls (a0 : ByteArray) (a1 : ByteArray) (r : Int) (w : World) (h : strings_Index.f a0 a1 = some r) :
    Calls Tryd.prog 55 #[.string a0, .string a1] w fun e w' => e = .returned (.int .i64 r) ∧ Drawn0 w w' := by
  unfold strings_Index.f at h
  split at h
  · rename_i c hc
    obtain rfl := Option.some.inj h
    rw [Go.Lib.toList_data] at hc
    obtain ⟨⟨l⟩⟩ := a1
    dsimp only at hc
    subst hc
    rw [Go.Lib.toList_data]
    refine (Go.Proofs.Tryd.strings_Index_one a0 c w).mono ?_
    rintro e w' ⟨rfl, rfl⟩
    exact ⟨rfl, Drawn0.refl _⟩
  · exact absurd h (by simp)

end Go.Proofs.YtpbonlmiicapfaaDoor.PAll
