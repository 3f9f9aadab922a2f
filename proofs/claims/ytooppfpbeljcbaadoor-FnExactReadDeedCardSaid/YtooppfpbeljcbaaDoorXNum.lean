/- Words of my own, of no program: decimal numerals read and written. -/
import Derived.Test.YtooppfpbeljcbaaDoorPAllx0
import Derived.Test.YtooppfpbeljcbaaDoorRow
import Derived.Test.YtooppfpbeljcbaaDoorWWords
import Derived.Lib.ItoaNum
import Derived.Lib.ItoaMem
import Derived.Lib.ParseIntB
import Derived.Test.YtooppfpbeljcbaaDoorXBase
namespace Go.Proofs.YtooppfpbeljcbaaDoor.Pure
open Go.RowKit Go.Proofs.YtooppfpbeljcbaaDoor.PAll Go.Proofs.YtooppfpbeljcbaaDoorOwn Go.Proofs.YtooppfpbeljcbaaDoorW.PrintWords Go.Proofs.YtooppfpbeljcbaaDoorW.PrintLast Go.Proofs.YtooppfpbeljcbaaDoorW.PrintMore
set_option linter.unusedVariables false

/-- The number of a row of digits behind acc. -/
def numFrom : Nat → List UInt8 → Option Nat
  | acc, [] => some acc
  | acc, c :: r => if 48 ≤ c.toNat ∧ c.toNat ≤ 57 then numFrom (acc * 10 + (c.toNat - 48)) r else none
theorem numFrom_snoc : ∀ (s : List UInt8) (acc : Nat) (d : UInt8), numFrom acc (s ++ [d]) = (numFrom acc s).bind fun v => if 48 ≤ d.toNat ∧ d.toNat ≤ 57 then some (v * 10 + (d.toNat - 48)) else none
  | [], acc, d => rfl
  | c :: r, acc, d => by
    rw [List.cons_append, numFrom, numFrom]
    by_cases h : 48 ≤ c.toNat ∧ c.toNat ≤ 57
    · rw [if_pos h, if_pos h, numFrom_snoc r]
    · rw [if_neg h, if_neg h]; rfl
theorem numFrom_le : ∀ (s : List UInt8) (acc v : Nat), numFrom acc s = some v → acc ≤ v
  | [], acc, v, h => by
    obtain rfl := Option.some.inj h
    exact Nat.le_refl _
  | c :: r, acc, v, h => by
    rw [numFrom] at h
    by_cases hc : 48 ≤ c.toNat ∧ c.toNat ≤ 57
    · rw [if_pos hc] at h
      have := numFrom_le r _ _ h
      omega
    · rw [if_neg hc] at h
      exact absurd h (by simp)
theorem digit_nat {k : Nat} (h : k < 10) : (UInt8.ofNat (48 + k)).toNat = 48 + k := by
  rw [UInt8.toNat_ofNat']
  omega
theorem decDigits_small {u : Nat} (h : u < 10) : Lib.decDigits u = [UInt8.ofNat (48 + u)] := by rw [Lib.decDigits, dif_pos h]
theorem decDigits_big {u : Nat} (h : ¬ u < 10) : Lib.decDigits u = Lib.decDigits (u / 10) ++ [UInt8.ofNat (48 + u % 10)] := by rw [Lib.decDigits, dif_neg h]
theorem numFrom_decDigits (u : Nat) : numFrom 0 (Lib.decDigits u) = some u := by
  induction u using Nat.strongRecOn with
  | ind u ih =>
    by_cases h : u < 10
    · rw [decDigits_small h, numFrom, digit_nat h, if_pos (by omega), numFrom]
      congr 1
      omega
    · rw [decDigits_big h, numFrom_snoc, ih (u / 10) (by omega), Option.bind_some, digit_nat (by omega), if_pos (by omega)]
      congr 1
      omega
theorem decDigits_ne (u : Nat) : Lib.decDigits u ≠ [] := by
  by_cases h : u < 10
  · rw [decDigits_small h]; simp
  · rw [decDigits_big h]; simp
/-- Every byte of a numeral is a digit. -/
theorem decDigits_digits (u : Nat) : ∀ b ∈ Lib.decDigits u, 48 ≤ b.toNat ∧ b.toNat ≤ 57 := by
  induction u using Nat.strongRecOn with
  | ind u ih =>
    intro b hb
    by_cases h : u < 10
    · rw [decDigits_small h, List.mem_singleton] at hb
      rw [hb, digit_nat h]; omega
    · rw [decDigits_big h] at hb
      rcases List.mem_append.1 hb with hb | hb
      · exact ih (u / 10) (by omega) b hb
      · rw [List.mem_singleton] at hb
        rw [hb, digit_nat (by omega)]; omega
theorem decDigits_length {u : Nat} (h : u ≤ 999) : (Lib.decDigits u).length ≤ 3 := by
  by_cases h1 : u < 10
  · rw [decDigits_small h1]; simp
  · rw [decDigits_big h1]
    by_cases h2 : u / 10 < 10
    · rw [decDigits_small h2]; simp
    · rw [decDigits_big h2, decDigits_small (by omega)]; simp
/-- A row of digits without a zero ahead is its number's numeral. -/
theorem numeral_of (n : Nat) : ∀ (s : List UInt8) (v : Nat), s.length = n → s ≠ [] → numFrom 0 s = some v → (s.head? = some 48 → s.length = 1) → s = Lib.decDigits v := by
  induction n with
  | zero => intro s v hl h0; exact absurd (List.length_eq_zero_iff.1 hl) h0
  | succ n ih =>
    intro s v hl h0 hv hz
    obtain ⟨t, d, rfl⟩ : ∃ t d, s = t ++ [d] := ⟨s.dropLast, s.getLast h0, (List.dropLast_concat_getLast h0).symm⟩
    rw [List.length_append, List.length_singleton] at hl
    rw [numFrom_snoc] at hv
    obtain ⟨w, hw, hv⟩ := Option.bind_eq_some_iff.1 hv
    by_cases hd : 48 ≤ d.toNat ∧ d.toNat ≤ 57
    · rw [if_pos hd] at hv
      obtain rfl := Option.some.inj hv
      have hdd : UInt8.ofNat d.toNat = d := UInt8.ofNat_toNat
      by_cases ht : t = []
      · subst ht
        obtain rfl := Option.some.inj hw
        rw [decDigits_small (by omega), show 48 + (0 * 10 + (d.toNat - 48)) = d.toNat from by omega, hdd]
        rfl
      · have hhead : (t ++ [d]).head? = t.head? := by
          cases t with
          | nil => exact absurd rfl ht
          | cons x r => rfl
        have hlen : 0 < t.length := List.length_pos_iff.2 ht
        have hnz : t.head? ≠ some 48 := by
          intro e
          have := hz (hhead.trans e)
          rw [List.length_append, List.length_singleton] at this
          omega
        have he := ih t w (by omega) ht hw (fun e => absurd e hnz)
        have hw1 : 1 ≤ w := by
          rcases Nat.eq_zero_or_pos w with rfl | h
          · rw [decDigits_small (by omega)] at he
            rw [he] at hnz
            exact absurd rfl hnz
          · exact h
        rw [decDigits_big (u := w * 10 + (d.toNat - 48)) (by omega), show (w * 10 + (d.toNat - 48)) / 10 = w from by omega, show 48 + (w * 10 + (d.toNat - 48)) % 10 = d.toNat from by omega, hdd, ← he]
    · rw [if_neg hd] at hv
      exact absurd hv (by simp)
/-- A numeral has no zero ahead. -/
theorem decDigits_head (u : Nat) : (Lib.decDigits u).head? = some 48 → (Lib.decDigits u).length = 1 := by
  induction u using Nat.strongRecOn with
  | ind u ih =>
    intro h
    by_cases h1 : u < 10
    · rw [decDigits_small h1]; rfl
    · exfalso
      rw [decDigits_big h1] at h
      have hne := decDigits_ne (u / 10)
      have hh : (Lib.decDigits (u / 10)).head? = some 48 := by
        cases hc : Lib.decDigits (u / 10) with
        | nil => exact absurd hc hne
        | cons x r => rw [hc] at h; exact h
      have hl := ih (u / 10) (by omega) hh
      by_cases h2 : u / 10 < 10
      · rw [decDigits_small h2] at hh
        have : (UInt8.ofNat (48 + u / 10)).toNat = (48 : UInt8).toNat := by rw [Option.some.inj hh]
        rw [digit_nat h2] at this
        have h48 : (48 : UInt8).toNat = 48 := rfl
        omega
      · rw [decDigits_big h2, List.length_append, List.length_singleton] at hl
        exact decDigits_ne (u / 10 / 10) (List.length_eq_zero_iff.1 (by omega))
theorem parseUintM_num : ∀ (s : List UInt8) (acc v : Nat), numFrom acc s = some v → v ≤ 999 → Lib.parseUintM (2 ^ 64 - 1) acc s = .ok v
  | [], acc, v, h, hv => by
    obtain rfl := Option.some.inj h
    rfl
  | c :: r, acc, v, h, hv => by
    rw [numFrom] at h
    by_cases hc : 48 ≤ c.toNat ∧ c.toNat ≤ 57
    · rw [if_pos hc] at h
      have hle := numFrom_le r _ _ h
      rw [Lib.parseUintM, if_pos hc, if_neg (by omega), if_neg (by omega)]
      exact parseUintM_num r _ v h hv
    · rw [if_neg hc] at h
      exact absurd h (by simp)
theorem parseIntB_dec (u : Nat) (h : u ≤ 999) : Lib.parseIntB 64 (Lib.decDigits u) = .ok (u : Int) := by
  have hu : Lib.parseUintB 64 (Lib.decDigits u) = .ok u := by
    unfold Lib.parseUintB
    rw [if_neg (decDigits_ne u)]
    exact parseUintM_num _ 0 u (numFrom_decDigits u) h
  have hd := decDigits_digits u
  cases hc : Lib.decDigits u with
  | nil => exact absurd hc (decDigits_ne u)
  | cons x r =>
    rw [hc] at hu hd
    have hx := hd x (List.mem_cons_self ..)
    unfold Lib.parseIntB
    simp only
    rw [if_neg (by omega), hu]
    simp only
    rw [if_neg (by omega), if_neg (by omega), if_neg (by omega)]
end Go.Proofs.YtooppfpbeljcbaaDoor.Pure
