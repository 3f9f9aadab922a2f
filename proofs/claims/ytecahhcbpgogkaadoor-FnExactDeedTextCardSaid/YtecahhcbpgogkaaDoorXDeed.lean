/- Pure: the text of a deed, in the reference and in the program: both come to dtext. -/
import Derived.Test.YtecahhcbpgogkaaDoorPAllx1
import Derived.Test.YtecahhcbpgogkaaDoorPAllx2
import Derived.Test.YtecahhcbpgogkaaDoorPAllx3
import Derived.Test.YtecahhcbpgogkaaDoorPAllx4
import Derived.Test.YtecahhcbpgogkaaDoorPAllx5
import Derived.Test.YtecahhcbpgogkaaDoorRow
import Derived.Test.YtecahhcbpgogkaaDoorWWords
import Derived.Test.YtecahhcbpgogkaaDoorXBase
namespace Go.Proofs.YtecahhcbpgogkaaDoor.Pure
open Go.RowKit Go.Proofs.YtecahhcbpgogkaaDoor.PAll Go.Proofs.YtecahhcbpgogkaaDoorOwn Go.Proofs.YtecahhcbpgogkaaDoorW.PrintWords Go.Proofs.YtecahhcbpgogkaaDoorW.PrintLast Go.Proofs.YtecahhcbpgogkaaDoorW.PrintMore
set_option linter.unusedVariables false

theorem ev_bind_some {α β : Type} {a : α} {f : Nat → α → Option β} {r : β} (h : Ev (fun n => f n a) r) : Ev (fun n => (some a).bind (f n)) r := h
def dwords : List ByteArray := [⟨#[]⟩, ⟨#[111, 114, 100, 101, 114]⟩, ⟨#[112, 111, 115, 116]⟩, ⟨#[114, 101, 112, 111, 114, 116]⟩, ⟨#[100, 101, 108, 105, 118, 101, 114]⟩, ⟨#[99, 111, 112, 121]⟩, ⟨#[100, 114, 111, 112]⟩, ⟨#[106, 111, 108, 116]⟩, ⟨#[115, 97, 118, 101]⟩, ⟨#[99, 114, 97, 115, 104]⟩]
def dflags : List Bool := [false, true, true, false, true, true, true, true, false, false]
def dec (n : Int) : ByteArray := ⟨(Lib.itoa n).toArray⟩
theorem words_eq : spec_l08Words.f = some (dwords, dflags) := rfl
theorem ten_cases {k : Int} (h0 : 1 ≤ k) (h1 : k ≤ 9) : k = 1 ∨ k = 2 ∨ k = 3 ∨ k = 4 ∨ k = 5 ∨ k = 6 ∨ k = 7 ∨ k = 8 ∨ k = 9 := by omega
theorem deedWord_in {k : Int} (h0 : 1 ≤ k) (h1 : k ≤ 9) : impl_deedWord.f k = some (rdOf ByteArray.empty dwords k, rdOf false dflags k) := by
  rcases ten_cases h0 h1 with rfl | rfl | rfl | rfl | rfl | rfl | rfl | rfl | rfl <;> rfl
theorem deedWord_out {k : Int} (h : ¬ (1 ≤ k ∧ k ≤ 9)) : impl_deedWord.f k = some (⟨#[]⟩, false) := by
  unfold impl_deedWord.f
  rw [if_neg (by omega), if_neg (by omega), if_neg (by omega), if_neg (by omega), if_neg (by omega), if_neg (by omega), if_neg (by omega), if_neg (by omega), if_neg (by omega)]
theorem word_ne {k : Int} (h0 : 1 ≤ k) (h1 : k ≤ 9) : (rdOf ByteArray.empty dwords k).toList ≠ [] ∧ (rdOf ByteArray.empty dwords k).size ≤ 7 := by
  rw [Go.Lib.toList_data]
  rcases ten_cases h0 h1 with rfl | rfl | rfl | rfl | rfl | rfl | rfl | rfl | rfl <;> exact ⟨by decide, by decide⟩
/-- Is a deed valid? -/
def dvalid (k a : Int) : Bool := decide (1 ≤ k) && decide (k ≤ 9) && (decide (0 ≤ a) && decide (a ≤ 999)) && (rdOf false dflags k || a == 0)
theorem specIn_eq (x a b : Int) : spec_l00In.f x a b = some (decide (a ≤ x) && decide (x ≤ b)) := by
  unfold spec_l00In.f
  by_cases h : x ≥ a
  · rw [if_pos h]; simp [show a ≤ x from h]
  · rw [if_neg h]; simp [show ¬ a ≤ x from h]
theorem within_eq (x a b : Int) : impl_within.f x a b = some (decide (a ≤ x) && decide (x ≤ b)) := by
  unfold impl_within.f
  by_cases h : x ≥ a
  · rw [if_pos h]; simp [show a ≤ x from h]
  · rw [if_neg h]; simp [show ¬ a ≤ x from h]
theorem specDeed_eq (k a : Int) : spec_l08Deed.f k a = some (dvalid k a) := by
  unfold spec_l08Deed.f dvalid
  rw [specIn_eq, specIn_eq]
  simp only [Option.bind_some]
  by_cases hk : 1 ≤ k ∧ k ≤ 9
  · have h1 : (decide (1 ≤ k) && decide (k ≤ 9)) = true := by simp [hk.1, hk.2]
    rw [if_pos h1, h1, Bool.true_and]
    cases ha : (decide (0 ≤ a) && decide (a ≤ 999)) with
    | false => rfl
    | true =>
      rw [if_pos rfl, words_eq]
      simp only [Option.bind_some]
      rw [if_pos (by omega), if_pos (by show k < 10; omega)]
      cases hf : rdOf false dflags k with
      | true => rfl
      | false => rfl
  · have h1 : (decide (1 ≤ k) && decide (k ≤ 9)) = false := by
      rw [Bool.and_eq_false_iff, decide_eq_false_iff_not, decide_eq_false_iff_not]; omega
    rw [if_neg (by rw [h1]; simp), h1]; rfl
theorem implValid_eq (k a : Int) : impl_ValidDeed.f k a = some (dvalid k a) := by
  unfold impl_ValidDeed.f dvalid
  by_cases hk : 1 ≤ k ∧ k ≤ 9
  · have h1 : (decide (1 ≤ k) && decide (k ≤ 9)) = true := by simp [hk.1, hk.2]
    rw [deedWord_in hk.1 hk.2, h1, Bool.true_and]
    simp only [Option.bind_some]
    rw [if_neg (word_ne hk.1 hk.2).1, within_eq]
    simp only [Option.bind_some]
    cases ha : (decide (0 ≤ a) && decide (a ≤ 999)) with
    | false => rfl
    | true =>
      rw [if_pos rfl]
      cases hf : rdOf false dflags k with
      | true => rfl
      | false => rfl
  · have h1 : (decide (1 ≤ k) && decide (k ≤ 9)) = false := by
      rw [Bool.and_eq_false_iff, decide_eq_false_iff_not, decide_eq_false_iff_not]; omega
    rw [deedWord_out hk, h1]
    simp only [Option.bind_some]
    rw [if_pos (by rw [Go.Lib.toList_data])]; rfl
/-- The text of a deed. -/
def dtext (k a : Int) : ByteArray := if dvalid k a = true then (if rdOf false dflags k = true then rdOf ByteArray.empty dwords k ++ ((⟨#[32]⟩ : ByteArray) ++ dec a) else rdOf ByteArray.empty dwords k) else ⟨#[]⟩
theorem dvalid_kind {k a : Int} (h : dvalid k a = true) : (1 ≤ k ∧ k ≤ 9) ∧ 0 ≤ a ∧ a ≤ 999 := by
  unfold dvalid at h
  simp only [Bool.and_eq_true, decide_eq_true_eq] at h
  exact ⟨⟨h.1.1.1, h.1.1.2⟩, h.1.2.1, h.1.2.2⟩
theorem strOfNums_one (n : Nat) : strOfNums [(n : Int)] = ⟨#[UInt8.ofNat n]⟩ := by simp [strOfNums]
theorem ev_specDecimal (u : Nat) : u ≤ 9223372036854775807 → Ev (fun k => spec_Decimal.f k (u : Int)) (dec u) ∧ (Lib.decDigits u).length ≤ u + 1 := by
  induction u using Nat.strongRecOn with
  | _ u ih =>
    intro hu
    have hd : dec u = ⟨(Lib.decDigits u).toArray⟩ := by unfold dec Lib.itoa; rw [if_neg (by omega)]; rfl
    by_cases h : u < 10
    · refine ⟨Ev.step (f := fun _ => some (dec u)) (fun k => ?_) (Ev.now _), by unfold Lib.decDigits; rw [dif_pos h]; simp⟩
      simp only [spec_Decimal.f]
      rw [if_neg (by omega), hd]
      unfold Lib.decDigits
      rw [dif_pos h, wrap_small (by omega) (by omega), show ((48 + (u : Int)) % 256) = ((48 + u : Nat) : Int) from by omega, strOfNums_one]
    · obtain ⟨h1, h2⟩ := ih (u / 10) (by omega) (by omega)
      have hl : (Lib.decDigits u).length = (Lib.decDigits (u / 10)).length + 1 := by
        rw [Lib.decDigits.eq_1 u, dif_neg h]; simp
      refine ⟨Ev.step (f := fun k => (spec_Decimal.f k ((u / 10 : Nat) : Int)).bind fun t => if t.size + 1 ≤ 9223372036854775807 then some (t ++ (⟨#[UInt8.ofNat (48 + u % 10)]⟩ : ByteArray)) else none) (fun k => ?_) (Ev.bind h1 ?_), by omega⟩
      · simp only [spec_Decimal.f]
        rw [if_pos (by omega), show Int.tdiv (u : Int) 10 = ((u / 10 : Nat) : Int) from by rw [Int.tdiv_eq_ediv_of_nonneg (by omega)]; omega, wrap_small (by omega) (by omega), show Int.tmod (u : Int) 10 = ((u % 10 : Nat) : Int) from by rw [Int.tmod_eq_emod_of_nonneg (by omega)]; omega, wrap_small (by omega) (by omega)]
        simp only [Option.bind_some]
        rw [show ((48 + ((u % 10 : Nat) : Int)) % 256) = ((48 + u % 10 : Nat) : Int) from by omega, strOfNums_one]
        rfl
      · have hd2 : dec ((u / 10 : Nat) : Int) = ⟨(Lib.decDigits (u / 10)).toArray⟩ := by unfold dec Lib.itoa; rw [if_neg (by omega)]; rfl
        have hs : (dec ((u / 10 : Nat) : Int)).size = (Lib.decDigits (u / 10)).length := by rw [hd2]; rfl
        refine Ev.congr (f := fun _ => some (dec u)) (fun k => ?_) (Ev.now _)
        rw [if_pos (by rw [hs]; omega), hd, hd2, Lib.decDigits.eq_1 u, dif_neg h]
        first
          | rfl
          | (congr 1; apply ByteArray.ext; simp)
theorem dec_size {a : Int} (h0 : 0 ≤ a) (h1 : a ≤ 999) : (dec a).size ≤ 1000 := by
  obtain ⟨u, rfl⟩ := Int.eq_ofNat_of_zero_le h0
  have h2 := (ev_specDecimal u (by omega)).2
  have hd : dec u = ⟨(Lib.decDigits u).toArray⟩ := by unfold dec Lib.itoa; rw [if_neg (by omega)]; rfl
  rw [hd]
  show (Lib.decDigits u).toArray.size ≤ 1000
  rw [List.size_toArray]
  omega
theorem ev_specDeedText (k a : Int) : Ev (fun n => spec_DeedText.f n k a) (dtext k a) := by
  refine Ev.congr (f := fun n => (some (dvalid k a)).bind fun t => if t = true then ((spec_l08Words.f).bind fun bt126 => (if 0 ≤ k then (if k < (bt126.2.length : Int) then (if rdOf false bt126.2 k = true then (if k < (bt126.1.length : Int) then (if (rdOf ByteArray.empty bt126.1 k).size + 1 ≤ 9223372036854775807 then ((spec_Decimal.f n a).bind fun t134 => (if ((rdOf ByteArray.empty bt126.1 k) ++ (⟨#[32]⟩ : ByteArray)).size + t134.size ≤ 9223372036854775807 then (some (((rdOf ByteArray.empty bt126.1 k) ++ (⟨#[32]⟩ : ByteArray)) ++ t134)) else (none))) else (none)) else (none)) else (if k < (bt126.1.length : Int) then (some (rdOf ByteArray.empty bt126.1 k)) else (none))) else (none)) else (none))) else (some (⟨#[]⟩ : ByteArray))) (fun n => by unfold spec_DeedText.f; rw [specDeed_eq]) ?_
  refine ev_bind_some (f := fun n t => _) ?_
  unfold dtext
  cases hv : dvalid k a with
  | false => exact Ev.now _
  | true =>
    obtain ⟨⟨h1, h9⟩, h0, h999⟩ := dvalid_kind hv
    obtain ⟨hw, hs⟩ := word_ne h1 h9
    have hsz := dec_size h0 h999
    have c1 : 0 ≤ k := by omega
    have c2 : k < (dflags.length : Int) := by show k < 10; omega
    have c3 : k < (dwords.length : Int) := by show k < 10; omega
    simp only [if_true, words_eq, Option.bind_some, if_pos c1, if_pos c2, if_pos c3]
    cases hf : rdOf false dflags k with
    | false =>
      refine Ev.congr (f := fun _ => some (rdOf ByteArray.empty dwords k)) (fun n => ?_) (Ev.now _)
      rw [if_neg (by simp)]
    | true =>
      have c4 : (rdOf ByteArray.empty dwords k).size + 1 ≤ 9223372036854775807 := by omega
      simp only [if_true, if_pos c4]
      obtain ⟨u, rfl⟩ := Int.eq_ofNat_of_zero_le h0
      refine Ev.bind (ev_specDecimal u (by omega)).1 ?_
      refine Ev.congr (f := fun _ => some (rdOf ByteArray.empty dwords k ++ ((⟨#[32]⟩ : ByteArray) ++ dec u))) (fun n => ?_) (Ev.now _)
      have h3 : (⟨#[32]⟩ : ByteArray).size = 1 := rfl
      rw [if_pos (by rw [ByteArray.size_append, h3]; omega), ByteArray.append_assoc]
theorem implDeedText_eq (k a : Int) : impl_DeedText.f k a = some (dtext k a) := by
  unfold impl_DeedText.f dtext
  rw [implValid_eq]
  simp only [Option.bind_some]
  cases hv : dvalid k a with
  | false => rfl
  | true =>
    obtain ⟨⟨h1, h9⟩, h0, h999⟩ := dvalid_kind hv
    obtain ⟨hw, hs⟩ := word_ne h1 h9
    have hsz := dec_size h0 h999
    rw [if_pos rfl, if_pos rfl, deedWord_in h1 h9]
    simp only [Option.bind_some]
    cases hf : rdOf false dflags k with
    | false => rfl
    | true =>
      rw [if_pos rfl, if_pos rfl]
      have hd : impl_decimal.f a = some (dec a) := by unfold impl_decimal.f dec; rw [if_pos (by omega), if_pos (by omega)]
      rw [hd]
      simp only [Option.bind_some]
      have h3 : (⟨#[32]⟩ : ByteArray).size = 1 := rfl
      rw [if_pos (by omega), if_pos (by rw [ByteArray.size_append, h3]; omega)]
end Go.Proofs.YtecahhcbpgogkaaDoor.Pure
