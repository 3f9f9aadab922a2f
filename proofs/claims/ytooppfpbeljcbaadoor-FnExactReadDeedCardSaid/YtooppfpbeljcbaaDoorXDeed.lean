/- Pure: the text of a deed, in the reference and in the program: both come to dtext. -/
import Derived.Test.YtooppfpbeljcbaaDoorPAllx1
import Derived.Test.YtooppfpbeljcbaaDoorPAllx3
import Derived.Test.YtooppfpbeljcbaaDoorPAllx6
import Derived.Test.YtooppfpbeljcbaaDoorPAllx7
import Derived.Test.YtooppfpbeljcbaaDoorRow
import Derived.Test.YtooppfpbeljcbaaDoorWWords
import Derived.Test.YtooppfpbeljcbaaDoorXBase
import Derived.Test.YtooppfpbeljcbaaDoorXNum
namespace Go.Proofs.YtooppfpbeljcbaaDoor.Pure
open Go.RowKit Go.Proofs.YtooppfpbeljcbaaDoor.PAll Go.Proofs.YtooppfpbeljcbaaDoorOwn Go.Proofs.YtooppfpbeljcbaaDoorW.PrintWords Go.Proofs.YtooppfpbeljcbaaDoorW.PrintLast Go.Proofs.YtooppfpbeljcbaaDoorW.PrintMore
set_option linter.unusedVariables false

theorem ev_bind_some {α β : Type} {a : α} {f : Nat → α → Option β} {r : β} (h : Ev (fun n => f n a) r) : Ev (fun n => (some a).bind (f n)) r := h
def dwords : List ByteArray := [⟨#[]⟩, ⟨#[111, 114, 100, 101, 114]⟩, ⟨#[112, 111, 115, 116]⟩, ⟨#[114, 101, 112, 111, 114, 116]⟩, ⟨#[100, 101, 108, 105, 118, 101, 114]⟩, ⟨#[99, 111, 112, 121]⟩, ⟨#[100, 114, 111, 112]⟩, ⟨#[106, 111, 108, 116]⟩, ⟨#[115, 97, 118, 101]⟩, ⟨#[99, 114, 97, 115, 104]⟩]
def dflags : List Bool := [false, true, true, false, true, true, true, true, false, false]
def dec (n : Int) : ByteArray := ⟨(Lib.itoa n).toArray⟩
theorem words_eq : spec_l08Words.f = some (dwords, dflags) := rfl
theorem ten_cases {k : Int} (h0 : 1 ≤ k) (h1 : k ≤ 9) : k = 1 ∨ k = 2 ∨ k = 3 ∨ k = 4 ∨ k = 5 ∨ k = 6 ∨ k = 7 ∨ k = 8 ∨ k = 9 := by omega
theorem deedWord_in {k : Int} (h0 : 1 ≤ k) (h1 : k ≤ 9) : impl_deedWord.f k = some (rdOf ByteArray.empty dwords k, rdOf false dflags k) := by
  rcases ten_cases h0 h1 with rfl | rfl | rfl | rfl | rfl | rfl | rfl | rfl | rfl <;> rfl
theorem deedWord_out {k : Int} (h : ¬ (1 ≤ k ∧ k ≤ 9)) : impl_deedWord.f k = some (⟨#[]⟩, false) := by
  unfold impl_deedWord.f
  rw [if_neg (by omega), if_neg (by omega), if_neg (by omega), if_neg (by omega), if_neg (by omega), if_neg (by omega), if_neg (by omega), if_neg (by omega), if_neg (by omega)]
theorem word_ne {k : Int} (h0 : 1 ≤ k) (h1 : k ≤ 9) : (rdOf ByteArray.empty dwords k).toList ≠ [] ∧ (rdOf ByteArray.empty dwords k).size ≤ 7 := by
  rw [Go.Lib.toList_data]
  rcases ten_cases h0 h1 with rfl | rfl | rfl | rfl | rfl | rfl | rfl | rfl | rfl <;> exact ⟨by decide, by decide⟩
/-- Is a deed valid? -/
def dvalid (k a : Int) : Bool := decide (1 ≤ k) && decide (k ≤ 9) && (decide (0 ≤ a) && decide (a ≤ 999)) && (rdOf false dflags k || a == 0)
theorem specIn_eq (x a b : Int) : spec_l00In.f x a b = some (decide (a ≤ x) && decide (x ≤ b)) := by
  unfold spec_l00In.f
  by_cases h : x ≥ a
  · rw [if_pos h]; simp [show a ≤ x from h]
  · rw [if_neg h]; simp [show ¬ a ≤ x from h]
theorem within_eq (x a b : Int) : impl_within.f x a b = some (decide (a ≤ x) && decide (x ≤ b)) := by
  unfold impl_within.f
  by_cases h : x ≥ a
  · rw [if_pos h]; simp [show a ≤ x from h]
  · rw [if_neg h]; simp [show ¬ a ≤ x from h]
theorem specDeed_eq (k a : Int) : spec_l08Deed.f k a = some (dvalid k a) := by
  unfold spec_l08Deed.f dvalid
  rw [specIn_eq, specIn_eq]
  simp only [Option.bind_some]
  by_cases hk : 1 ≤ k ∧ k ≤ 9
  · have h1 : (decide (1 ≤ k) && decide (k ≤ 9)) = true := by simp [hk.1, hk.2]
    rw [if_pos h1, h1, Bool.true_and]
    cases ha : (decide (0 ≤ a) && decide (a ≤ 999)) with
    | false => rfl
    | true =>
      rw [if_pos rfl, words_eq]
      simp only [Option.bind_some]
      rw [if_pos (by omega), if_pos (by show k < 10; omega)]
      cases hf : rdOf false dflags k with
      | true => rfl
      | false => rfl
  · have h1 : (decide (1 ≤ k) && decide (k ≤ 9)) = false := by
      rw [Bool.and_eq_false_iff, decide_eq_false_iff_not, decide_eq_false_iff_not]; omega
    rw [if_neg (by rw [h1]; simp), h1]; rfl
theorem implValid_eq (k a : Int) : impl_ValidDeed.f k a = some (dvalid k a) := by
  unfold impl_ValidDeed.f dvalid
  by_cases hk : 1 ≤ k ∧ k ≤ 9
  · have h1 : (decide (1 ≤ k) && decide (k ≤ 9)) = true := by simp [hk.1, hk.2]
    rw [deedWord_in hk.1 hk.2, h1, Bool.true_and]
    simp only [Option.bind_some]
    rw [if_neg (word_ne hk.1 hk.2).1, within_eq]
    simp only [Option.bind_some]
    cases ha : (decide (0 ≤ a) && decide (a ≤ 999)) with
    | false => rfl
    | true =>
      rw [if_pos rfl]
      cases hf : rdOf false dflags k with
      | true => rfl
      | false => rfl
  · have h1 : (decide (1 ≤ k) && decide (k ≤ 9)) = false := by
      rw [Bool.and_eq_false_iff, decide_eq_false_iff_not, decide_eq_false_iff_not]; omega
    rw [deedWord_out hk, h1]
    simp only [Option.bind_some]
    rw [if_pos (by rw [Go.Lib.toList_data])]; rfl
/-- The text of a deed. -/
def dtext (k a : Int) : ByteArray := if dvalid k a = true then (if rdOf false dflags k = true then rdOf ByteArray.empty dwords k ++ ((⟨#[32]⟩ : ByteArray) ++ dec a) else rdOf ByteArray.empty dwords k) else ⟨#[]⟩
theorem dvalid_kind {k a : Int} (h : dvalid k a = true) : (1 ≤ k ∧ k ≤ 9) ∧ 0 ≤ a ∧ a ≤ 999 := by
  unfold dvalid at h
  simp only [Bool.and_eq_true, decide_eq_true_eq] at h
  exact ⟨⟨h.1.1.1, h.1.1.2⟩, h.1.2.1, h.1.2.2⟩
theorem dec_size {a : Int} (h0 : 0 ≤ a) (h1 : a ≤ 999) : (dec a).size ≤ 1000 := by
  obtain ⟨u, rfl⟩ := Int.eq_ofNat_of_zero_le h0
  have h2 := decDigits_length (u := u) (by omega)
  have hd : dec u = ⟨(Lib.decDigits u).toArray⟩ := by unfold dec Lib.itoa; rw [if_neg (by omega)]; rfl
  rw [hd]
  show (Lib.decDigits u).toArray.size ≤ 1000
  rw [List.size_toArray]
  omega
theorem implDeedText_eq (k a : Int) : impl_DeedText.f k a = some (dtext k a) := by
  unfold impl_DeedText.f dtext
  rw [implValid_eq]
  simp only [Option.bind_some]
  cases hv : dvalid k a with
  | false => rfl
  | true =>
    obtain ⟨⟨h1, h9⟩, h0, h999⟩ := dvalid_kind hv
    obtain ⟨hw, hs⟩ := word_ne h1 h9
    have hsz := dec_size h0 h999
    rw [if_pos rfl, if_pos rfl, deedWord_in h1 h9]
    simp only [Option.bind_some]
    cases hf : rdOf false dflags k with
    | false => rfl
    | true =>
      rw [if_pos rfl, if_pos rfl]
      have hd : impl_decimal.f a = some (dec a) := by unfold impl_decimal.f dec; rw [if_pos (by omega), if_pos (by omega)]
      rw [hd]
      simp only [Option.bind_some]
      have h3 : (⟨#[32]⟩ : ByteArray).size = 1 := rfl
      rw [if_pos (by omega), if_pos (by rw [ByteArray.size_append, h3]; omega)]
end Go.Proofs.YtooppfpbeljcbaaDoor.Pure
