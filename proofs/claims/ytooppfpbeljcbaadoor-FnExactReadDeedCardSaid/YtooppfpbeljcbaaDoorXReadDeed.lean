/- Pure: deeds read from their texts, in the reference and in the program. -/
import Derived.Test.YtooppfpbeljcbaaDoorPAllx2
import Derived.Test.YtooppfpbeljcbaaDoorPAllx3
import Derived.Test.YtooppfpbeljcbaaDoorPAllx4
import Derived.Test.YtooppfpbeljcbaaDoorPAllx5
import Derived.Test.YtooppfpbeljcbaaDoorPAllx7
import Derived.Test.YtooppfpbeljcbaaDoorRow
import Derived.Test.YtooppfpbeljcbaaDoorWWords
import Derived.Test.YtooppfpbeljcbaaDoorXDeed
import Derived.Test.YtooppfpbeljcbaaDoorXNum
import Derived.Test.YtooppfpbeljcbaaDoorXSplit
namespace Go.Proofs.YtooppfpbeljcbaaDoor.Pure
open Go.RowKit Go.Proofs.YtooppfpbeljcbaaDoor.PAll Go.Proofs.YtooppfpbeljcbaaDoorOwn Go.Proofs.YtooppfpbeljcbaaDoorW.PrintWords Go.Proofs.YtooppfpbeljcbaaDoorW.PrintLast Go.Proofs.YtooppfpbeljcbaaDoorW.PrintMore
set_option linter.unusedVariables false

/-- A kind's word, as bytes. -/
def wordL (k : Int) : List UInt8 := (rdOf ByteArray.empty dwords k).toList
def told (k : Int) : Bool := rdOf false dflags k
def wlit (k : Int) : List UInt8 := if k = 1 then [111, 114, 100, 101, 114] else if k = 2 then [112, 111, 115, 116] else if k = 3 then [114, 101, 112, 111, 114, 116] else if k = 4 then [100, 101, 108, 105, 118, 101, 114] else if k = 5 then [99, 111, 112, 121] else if k = 6 then [100, 114, 111, 112] else if k = 7 then [106, 111, 108, 116] else if k = 8 then [115, 97, 118, 101] else [99, 114, 97, 115, 104]
theorem wordL_lit {k : Int} (h0 : 1 ≤ k) (h1 : k ≤ 9) : wordL k = wlit k := by
  unfold wordL
  rw [Go.Lib.toList_data]
  rcases ten_cases h0 h1 with rfl | rfl | rfl | rfl | rfl | rfl | rfl | rfl | rfl <;> rfl
theorem wordL_inj {k j : Int} (h0 : 1 ≤ k) (h1 : k ≤ 9) (g0 : 1 ≤ j) (g1 : j ≤ 9) (h : wordL k = wordL j) : k = j := by
  rw [wordL_lit h0 h1, wordL_lit g0 g1] at h
  rcases ten_cases h0 h1 with rfl | rfl | rfl | rfl | rfl | rfl | rfl | rfl | rfl <;> rcases ten_cases g0 g1 with rfl | rfl | rfl | rfl | rfl | rfl | rfl | rfl | rfl <;> first | rfl | (exact absurd h (by decide))
theorem wordL_blank {k : Int} (h0 : 1 ≤ k) (h1 : k ≤ 9) : (32 : UInt8) ∉ wordL k := by
  rw [wordL_lit h0 h1]
  rcases ten_cases h0 h1 with rfl | rfl | rfl | rfl | rfl | rfl | rfl | rfl | rfl <;> decide
theorem dec_list {a : Int} (h0 : 0 ≤ a) : (dec a).toList = Lib.decDigits a.toNat := by
  obtain ⟨u, rfl⟩ := Int.eq_ofNat_of_zero_le h0
  rw [Go.Lib.toList_data]
  show (Lib.itoa (u : Int)).toArray.toList = _
  unfold Lib.itoa
  rw [if_neg (by omega)]
theorem toList_app (a b : ByteArray) : (a ++ b).toList = a.toList ++ b.toList := by
  rw [eq_mk a, eq_mk b, mk_append, mk_toList, mk_toList, mk_toList]
/-- The text of a deed, as bytes. -/
theorem dtext_list {k a : Int} (h : dvalid k a = true) : (dtext k a).toList = if told k = true then wordL k ++ 32 :: Lib.decDigits a.toNat else wordL k := by
  unfold dtext
  rw [if_pos h]
  cases hf : rdOf false dflags k with
  | false => rw [if_neg (by simp), if_neg (by rw [told, hf]; simp)]; rfl
  | true =>
    rw [if_pos rfl, if_pos (by rw [told, hf]), toList_app, toList_app, dec_list (dvalid_kind h).2.1]
    rw [show (⟨#[32]⟩ : ByteArray).toList = [32] from by rw [Go.Lib.toList_data]]
    rfl
theorem decDigits_blank (u : Nat) : (32 : UInt8) ∉ Lib.decDigits u := fun h => by
  have := (decDigits_digits u 32 h).1
  exact absurd this (by decide)
/-- Two texts cut at their first blank. -/
theorem cut_unique : ∀ {a b r s : List UInt8}, (32 : UInt8) ∉ a → (32 : UInt8) ∉ b → a ++ 32 :: r = b ++ 32 :: s → a = b ∧ r = s
  | [], [], r, s, _, _, h => by simpa using h
  | [], y :: b, r, s, _, hb, h => by
    simp only [List.nil_append, List.cons_append, List.cons.injEq] at h
    exact absurd (by rw [← h.1]; exact List.mem_cons_self ..) hb
  | x :: a, [], r, s, ha, _, h => by
    simp only [List.nil_append, List.cons_append, List.cons.injEq] at h
    exact absurd (by rw [h.1]; exact List.mem_cons_self ..) ha
  | x :: a, y :: b, r, s, ha, hb, h => by
    simp only [List.cons_append, List.cons.injEq] at h
    obtain ⟨h1, h2⟩ := cut_unique (fun e => ha (List.mem_cons_of_mem _ e)) (fun e => hb (List.mem_cons_of_mem _ e)) h.2
    exact ⟨by rw [h.1, h1], h2⟩

/-! ### the reference -/
/-- The last kind whose word is w. -/
def kfold (w : List UInt8) : List Int → Int → Int
  | [], c => c
  | k :: l, c => kfold w l (if wordL k = w then k else c)
theorem kfold_spec (w : List UInt8) : ∀ (l : List Int) (c : Int), (kfold w l c = c ∧ ∀ k ∈ l, wordL k ≠ w) ∨ (kfold w l c ∈ l ∧ wordL (kfold w l c) = w)
  | [], c => .inl ⟨rfl, by simp⟩
  | k :: l, c => by
    show (kfold w l (if wordL k = w then k else c) = c ∧ _) ∨ _
    by_cases h : wordL k = w
    · rcases kfold_spec w l k with ⟨h1, h2⟩ | ⟨h1, h2⟩
      · right
        show kfold w l (if wordL k = w then k else c) ∈ _ ∧ wordL (kfold w l (if wordL k = w then k else c)) = w
        rw [if_pos h, h1]
        exact ⟨List.mem_cons_self .., h⟩
      · right
        show kfold w l (if wordL k = w then k else c) ∈ _ ∧ wordL (kfold w l (if wordL k = w then k else c)) = w
        rw [if_pos h]
        exact ⟨List.mem_cons_of_mem _ h1, h2⟩
    · rcases kfold_spec w l c with ⟨h1, h2⟩ | ⟨h1, h2⟩
      · left
        rw [if_neg h]
        refine ⟨h1, fun j hj => ?_⟩
        rcases List.mem_cons.1 hj with rfl | hj
        · exact h
        · exact h2 j hj
      · right
        show kfold w l (if wordL k = w then k else c) ∈ _ ∧ wordL (kfold w l (if wordL k = w then k else c)) = w
        rw [if_neg h]
        exact ⟨List.mem_cons_of_mem _ h1, h2⟩
def kinds (i : Nat) : List Int := (List.range' i (10 - i)).map fun n : Nat => (n : Int)
theorem kinds_cons {i : Nat} (h : i ≤ 9) : kinds i = (i : Int) :: kinds (i + 1) := by
  unfold kinds
  rw [show 10 - i = (10 - (i + 1)) + 1 from by omega, List.range'_succ, List.map_cons]
theorem kinds_mem {k : Int} {i : Nat} (h : k ∈ kinds i) : (i : Int) ≤ k ∧ k ≤ 9 := by
  unfold kinds at h
  obtain ⟨n, hn, rfl⟩ := List.mem_map.1 h
  have := List.mem_range'_1.1 hn
  omega
theorem mem_kinds {k : Int} (h0 : 1 ≤ k) (h1 : k ≤ 9) : k ∈ kinds 1 := by
  unfold kinds
  obtain ⟨u, rfl⟩ := Int.eq_ofNat_of_zero_le (show 0 ≤ k by omega)
  exact List.mem_map.2 ⟨u, List.mem_range'_1.2 (by omega), rfl⟩
/-- What stands behind the choice of the kind. -/
theorem ev_specLoop (w : List UInt8) (rest : List ByteArray) {res : Int × Int × Int}
    (he : Ev (fun k => spec_ReadDeed.l0 k (mk w :: rest) dwords dflags 10 (kfold w (kinds 1) 0) 0) res) : Ev (fun k => spec_ReadDeed.l0 k (mk w :: rest) dwords dflags 1 0 0) res := by
  have key : ∀ d i : Nat, i + d = 10 → 1 ≤ i → ∀ c : Int, Ev (fun k => spec_ReadDeed.l0 k (mk w :: rest) dwords dflags 10 (kfold w (kinds i) c) 0) res → Ev (fun k => spec_ReadDeed.l0 k (mk w :: rest) dwords dflags (i : Nat) c 0) res := by
    intro d
    induction d with
    | zero =>
      intro i hi _ c h
      obtain rfl : i = 10 := by omega
      rw [show kinds 10 = [] from rfl] at h
      exact h
    | succ d ih =>
      intro i hi h1 c h
      rw [kinds_cons (by omega)] at h
      have h2 := ih (i + 1) (by omega) (by omega) _ h
      have hl : (dwords.length : Int) = 10 := rfl
      have h3 : ((mk w :: rest).length : Int) = rest.length + 1 := by simp
      have h4 : (rdOf ByteArray.empty (mk w :: rest) 0).toList = w := mk_toList w
      refine Ev.step (f := fun k => spec_ReadDeed.l0 k (mk w :: rest) dwords dflags ((i + 1 : Nat) : Int) (if wordL i = w then (i : Int) else c) 0) (fun k => ?_) h2
      simp only [spec_ReadDeed.l0]
      rw [hl, h3, if_pos (by omega), if_pos (by omega), if_pos (by omega), h4, wrap_small (by omega) (by omega)]
      by_cases hw : wordL i = w
      · rw [if_pos hw, if_pos (show (rdOf ByteArray.empty dwords (i : Int)).toList = w from hw)]; rfl
      · rw [if_neg hw, if_neg (show ¬ (rdOf ByteArray.empty dwords (i : Int)).toList = w from hw)]; rfl
  exact key 9 1 rfl (Nat.le_refl _) 0 he
/-- The reference's numbers: the numerals of nine digits at most. -/
theorem ev_specNumber (l : List UInt8) : ∃ r : Int × Bool, Ev (fun k => spec_l01Number.f k (mk l)) r ∧ ((r.2 = true ∧ ∃ v : Nat, r.1 = v ∧ l = Lib.decDigits v) ∨ (r.2 = false ∧ ∀ v : Nat, v ≤ 999 → l ≠ Lib.decDigits v)) := by
  have fail : (∀ v : Nat, v ≤ 999 → l ≠ Lib.decDigits v) → Ev (fun k => spec_l01Number.j0 k (mk l) true) (0, false) := fun _ => Ev.step (f := fun _ => some (0, false)) (fun k => by simp only [spec_l01Number.j0]; rw [if_pos trivial]) (Ev.now _)
  by_cases h1 : l.length < 1
  · have hn : ∀ v : Nat, v ≤ 999 → l ≠ Lib.decDigits v := fun v _ e => decDigits_ne v (by rw [← e]; exact List.length_eq_zero_iff.1 (by omega))
    refine ⟨(0, false), Ev.congr (fun k => ?_) (fail hn), .inr ⟨rfl, hn⟩⟩
    unfold spec_l01Number.f
    rw [mk_size, if_pos (by omega)]
  · by_cases h9 : l.length > 9
    · have hn : ∀ v : Nat, v ≤ 999 → l ≠ Lib.decDigits v := fun v hv e => by
        have := decDigits_length hv
        rw [← e] at this
        omega
      refine ⟨(0, false), Ev.congr (fun k => ?_) (fail hn), .inr ⟨rfl, hn⟩⟩
      unfold spec_l01Number.f
      rw [mk_size, if_neg (by omega), if_pos (by omega)]
    · have hh : l.head? = some (l[0]'(by omega)) := by
        rw [List.head?_eq_getElem?, List.getElem?_eq_getElem (by omega)]
      by_cases hz : l.head? = some 48 ∧ l.length > 1
      · have hn : ∀ v : Nat, v ≤ 999 → l ≠ Lib.decDigits v := fun v _ e => by
          have := decDigits_head v (by rw [← e]; exact hz.1)
          rw [← e] at this
          omega
        refine ⟨(0, false), Ev.congr (fun k => ?_) (fail hn), .inr ⟨rfl, hn⟩⟩
        unfold spec_l01Number.f
        have h0 := bt_mk l 0 (by omega)
        rw [hh] at hz
        rw [Option.some.inj hz.1] at h0
        rw [mk_size, if_neg (by omega), if_neg (by omega), if_pos (by omega), show (0 : Int) = ((0 : Nat) : Int) from rfl, h0, if_pos (show ((UInt8.toNat 48 : Nat) : Int) = 48 from rfl), decide_eq_true (by omega)]
      · -- the loop
        have loop : ∀ d i : Nat, i + d = l.length → ∀ acc : Nat, acc < 10 ^ i → (match numFrom acc (l.drop i) with
            | some v => Ev (fun k => spec_l01Number.l0 k (mk l) acc i) ((v : Int), true)
            | none => Ev (fun k => spec_l01Number.l0 k (mk l) acc i) (0, false)) := by
          intro d
          induction d with
          | zero =>
            intro i hi acc ha
            obtain rfl : i = l.length := by omega
            rw [List.drop_length]
            refine Ev.step (f := fun _ => some ((acc : Int), true)) (fun k => ?_) (Ev.now _)
            simp only [spec_l01Number.l0]
            rw [if_neg (by rw [mk_size]; omega)]
          | succ d ih =>
            intro i hi acc ha
            have hlt : i < l.length := by omega
            rw [List.drop_eq_getElem_cons hlt, numFrom]
            have hb := bt_mk l i hlt
            have hbig : (10 : Nat) ^ i ≤ 10 ^ 8 := Nat.pow_le_pow_right (by omega) (by omega)
            by_cases hd : 48 ≤ l[i].toNat ∧ l[i].toNat ≤ 57
            · rw [if_pos hd]
              have h2 := ih (i + 1) (by omega) (acc * 10 + (l[i].toNat - 48)) (by rw [Nat.pow_succ]; omega)
              have step : ∀ k, spec_l01Number.l0 (k + 1) (mk l) (acc : Int) (i : Nat) = spec_l01Number.l0 k (mk l) ((acc * 10 + (l[i].toNat - 48) : Nat) : Int) ((i + 1 : Nat) : Int) := fun k => by
                simp only [spec_l01Number.l0]
                rw [if_pos (by rw [mk_size]; omega), if_pos (by omega), hb, if_neg (by omega), if_neg (by omega), wrap_small (x := (acc : Int) * 10) (by omega) (by omega), wrap_small (by omega) (by omega), wrap_small (by omega) (by omega)]
                congr 1
                omega
              cases hn : numFrom (acc * 10 + (l[i].toNat - 48)) (l.drop (i + 1)) with
              | none =>
                rw [hn] at h2
                exact Ev.step step h2
              | some v =>
                rw [hn] at h2
                exact Ev.step step h2
            · rw [if_neg hd]
              refine Ev.step (f := fun _ => some (0, false)) (fun k => ?_) (Ev.now _)
              simp only [spec_l01Number.l0]
              rw [if_pos (by rw [mk_size]; omega), if_pos (by omega), hb]
              by_cases hlo : l[i].toNat < 48
              · rw [if_pos (by omega)]
              · rw [if_neg (by omega), if_pos (by omega)]
        have hloop := loop l.length 0 (by omega) 0 (by simp)
        rw [List.drop_zero] at hloop
        have hin : ∀ {r : Int × Bool}, Ev (fun k => spec_l01Number.l0 k (mk l) ((0 : Nat) : Int) ((0 : Nat) : Int)) r → Ev (fun k => spec_l01Number.f k (mk l)) r := fun {r} h => by
          have h2 : Ev (fun k => spec_l01Number.j0 k (mk l) false) r := Ev.step (fun k => by simp only [spec_l01Number.j0]; rw [if_neg (by simp)]; rfl) h
          refine Ev.congr (fun k => ?_) h2
          unfold spec_l01Number.f
          have h0 := bt_mk l 0 (by omega)
          rw [mk_size, if_neg (by omega), if_neg (by omega), if_pos (by omega), show (0 : Int) = ((0 : Nat) : Int) from rfl, h0]
          by_cases h48 : ((l[0]'(by omega)).toNat : Int) = 48
          · rw [if_pos h48, decide_eq_false]
            intro hgt
            refine hz ⟨?_, by omega⟩
            rw [hh]
            congr 1
            apply UInt8.toNat_inj.1
            have : (48 : UInt8).toNat = 48 := rfl
            omega
          · rw [if_neg h48]
        cases hn : numFrom 0 l with
        | none =>
          rw [hn] at hloop
          refine ⟨_, hin hloop, .inr ⟨rfl, fun v hv e => ?_⟩⟩
          rw [e, numFrom_decDigits] at hn
          exact absurd hn (by simp)
        | some v =>
          rw [hn] at hloop
          refine ⟨_, hin hloop, .inl ⟨rfl, v, rfl, ?_⟩⟩
          refine numeral_of l.length l v rfl (fun e => by rw [e] at h1; simp at h1) hn (fun h => ?_)
          rcases Nat.lt_or_ge 1 l.length with hgt | hle
          · exact absurd ⟨h, hgt⟩ hz
          · omega

/-! ### the program -/
/-- Is this the kind whose deed has the text t? -/
def hit (n : Int) (t : List UInt8) (k : Int) : Prop := dvalid k n = true ∧ (dtext k n).toList = t
instance (n : Int) (t : List UInt8) (k : Int) : Decidable (hit n t k) := inferInstanceAs (Decidable (_ ∧ _))
def firstHit (n : Int) (t : List UInt8) : List Int → Int × Int × Int
  | [] => (0, 0, 5)
  | k :: l => if hit n t k then (k, n, 0) else firstHit n t l
theorem firstHit_none (n : Int) (t : List UInt8) : ∀ l : List Int, (∀ k ∈ l, ¬ hit n t k) → firstHit n t l = (0, 0, 5)
  | [], _ => rfl
  | k :: l, h => by
    rw [firstHit, if_neg (h k (List.mem_cons_self ..)), firstHit_none n t l (fun j hj => h j (List.mem_cons_of_mem _ hj))]
theorem firstHit_one (n : Int) (t : List UInt8) {k0 : Int} (h0 : hit n t k0) : ∀ l : List Int, k0 ∈ l → (∀ k ∈ l, hit n t k → k = k0) → firstHit n t l = (k0, n, 0)
  | k :: l, hm, h => by
    rw [firstHit]
    by_cases hk : hit n t k
    · rw [if_pos hk, h k (List.mem_cons_self ..) hk]
    · rw [if_neg hk]
      refine firstHit_one n t h0 l ?_ (fun j hj => h j (List.mem_cons_of_mem _ hj))
      rcases List.mem_cons.1 hm with rfl | hm
      · exact absurd h0 hk
      · exact hm
theorem ev_implLoop (n : Int) (t : List UInt8) : Ev (fun k => impl_ReadDeed.l0 k (mk t) n 1) (firstHit n t (kinds 1)) := by
  have key : ∀ d i : Nat, i + d = 10 → 1 ≤ i → Ev (fun k => impl_ReadDeed.l0 k (mk t) n (i : Nat)) (firstHit n t (kinds i)) := by
    intro d
    induction d with
    | zero =>
      intro i hi _
      obtain rfl : i = 10 := by omega
      rw [show kinds 10 = [] from rfl]
      refine Ev.step (f := fun _ => some (0, 0, 5)) (fun k => ?_) (Ev.now _)
      simp only [impl_ReadDeed.l0]
      rw [if_neg (by omega)]
    | succ d ih =>
      intro i hi h1
      have h2 := ih (i + 1) (by omega) (by omega)
      rw [kinds_cons (by omega), firstHit]
      by_cases hv : dvalid i n = true
      · by_cases ht : (dtext i n).toList = t
        · rw [if_pos ⟨hv, ht⟩]
          refine Ev.step (f := fun _ => some ((i : Int), n, 0)) (fun k => ?_) (Ev.now _)
          simp only [impl_ReadDeed.l0]
          rw [if_pos (by omega), implValid_eq, hv]
          simp only [Option.bind_some]
          rw [if_pos trivial, implDeedText_eq]
          simp only [Option.bind_some]
          rw [mk_toList, if_pos ht]
        · rw [if_neg (fun h => ht h.2)]
          refine Ev.step (f := fun k => impl_ReadDeed.l0 k (mk t) n ((i + 1 : Nat) : Int)) (fun k => ?_) h2
          simp only [impl_ReadDeed.l0]
          rw [if_pos (by omega), implValid_eq, hv]
          simp only [Option.bind_some]
          rw [if_pos trivial, implDeedText_eq]
          simp only [Option.bind_some]
          rw [mk_toList, if_neg ht, wrap_small (by omega) (by omega)]
          rfl
      · rw [if_neg (fun h => hv h.1)]
        refine Ev.step (f := fun k => impl_ReadDeed.l0 k (mk t) n ((i + 1 : Nat) : Int)) (fun k => ?_) h2
        simp only [impl_ReadDeed.l0]
        rw [if_pos (by omega), implValid_eq]
        simp only [Option.bind_some]
        rw [if_neg hv, wrap_small (by omega) (by omega)]
        rfl
  exact key 9 1 rfl (Nat.le_refl _)
theorem index_blank (t : List UInt8) : stringslite_Index.f (mk t) (⟨#[32]⟩ : ByteArray) = some (Lib.indexByte t 32) := by
  unfold stringslite_Index.f
  rw [show (⟨#[32]⟩ : ByteArray).toList = [32] from by rw [Go.Lib.toList_data], mk_toList]
theorem implCut_none (t : List UInt8) (h : Lib.indexByte t 32 = -1) : strings_Cut.f (mk t) (⟨#[32]⟩ : ByteArray) = some (mk t, mk [], false) := by
  unfold strings_Cut.f stringslite_Cut.f
  rw [index_blank, h]
  simp only [Option.bind_some]
  rw [if_neg (by omega)]
  rfl
theorem implCut_at (w r : List UInt8) (hl : (w ++ 32 :: r).length ≤ 1048576) (h : Lib.indexByte (w ++ 32 :: r) 32 = (w.length : Int)) : strings_Cut.f (mk (w ++ 32 :: r)) (⟨#[32]⟩ : ByteArray) = some (mk w, mk r, true) := by
  have hlen : (w ++ 32 :: r).length = w.length + (r.length + 1) := by rw [List.length_append, List.length_cons]
  have hs : ((⟨#[32]⟩ : ByteArray).size : Int) = 1 := rfl
  unfold strings_Cut.f stringslite_Cut.f
  rw [index_blank, h]
  simp only [Option.bind_some]
  rw [if_pos (by omega), if_pos (by omega), mk_size, if_pos (by omega), hs, wrap_small (by omega) (by omega), if_pos (by omega), if_pos (by omega)]
  simp only [Option.bind_some]
  rw [mk_extract, mk_extract, Int.toNat_natCast, show ((w.length : Int) + 1).toNat = w.length + 1 from by omega]
  congr 2
  · rw [List.drop_zero, Nat.sub_zero, List.take_left]
  · congr 1
    rw [show w ++ 32 :: r = (w ++ [32]) ++ r from by simp, show w.length + 1 = (w ++ [32]).length from by simp, List.drop_left]
    congr 1
    exact List.take_of_length_le (by rw [List.length_append, List.length_append, List.length_singleton]; omega)
theorem parse_eq (r : List UInt8) (h : r.length ≤ 1048576) : strconv_ParseInt.f (mk r) 10 64 = some (pval r, none) := by
  unfold strconv_ParseInt.f
  rw [if_pos ⟨by rw [mk_size]; omega, rfl, rfl⟩, mk_toList]
theorem pval_nil : pval [] = 0 := rfl
theorem pval_dec {u : Nat} (h : u ≤ 999) : pval (Lib.decDigits u) = u := by
  unfold pval
  rw [parseIntB_dec u h]
theorem told_lit {k : Int} (h0 : 1 ≤ k) (h1 : k ≤ 9) : dvalid k 0 = true := by
  unfold dvalid
  rw [decide_eq_true h0, decide_eq_true h1]
  simp
/-- Both answer alike. -/
theorem ev_readDeed (t : List UInt8) (hl : t.length ≤ 1048576) : ∃ r, Ev (fun k => spec_ReadDeed.f k (mk t)) r ∧ Ev (fun k => impl_ReadDeed.f k (mk t)) r := by
  have hsplit := ev_cuts 32 t (by omega)
  have hfl : (dflags.length : Int) = 10 := rfl
  have specIn : ∀ {res} (w : List UInt8) (rest : List ByteArray), (cuts 32 [] t).map mk = mk w :: rest → Ev (fun k => spec_ReadDeed.l0 k (mk w :: rest) dwords dflags 10 (kfold w (kinds 1) 0) 0) res → Ev (fun k => spec_ReadDeed.f k (mk t)) res := fun {res} w rest he h => by
    rw [he] at hsplit
    refine Ev.bind hsplit (Ev.congr (fun k => ?_) (ev_specLoop w rest h))
    rw [words_eq]
    rfl
  -- the end of the reference's choice
  have bad : ∀ (rest : List ByteArray) (w : List UInt8) (c : Int), Ev (fun k => spec_ReadDeed.j1 k (mk w :: rest) dflags true c 0) (0, 0, 5) := fun rest w c =>
    Ev.step (f := fun _ => some (0, 0, 5)) (fun k => by simp only [spec_ReadDeed.j1]; rw [if_pos trivial]) (Ev.now _)
  have none0 : ∀ (rest : List ByteArray) (w : List UInt8), kfold w (kinds 1) 0 = 0 → Ev (fun k => spec_ReadDeed.l0 k (mk w :: rest) dwords dflags 10 (kfold w (kinds 1) 0) 0) (0, 0, 5) := fun rest w h => by
    rw [h]
    refine Ev.step (fun k => ?_) (bad rest w 0)
    simp only [spec_ReadDeed.l0]
    rw [if_neg (by decide), if_pos trivial]
  have some0 : ∀ {res} (rest : List ByteArray) (w : List UInt8) (c : Int), 1 ≤ c → c ≤ 9 → kfold w (kinds 1) 0 = c → Ev (fun k => spec_ReadDeed.j1 k (mk w :: rest) dflags (if (told c != (((mk w :: rest).length : Int) == 2)) = true then true else decide (((mk w :: rest).length : Int) > 2)) c 0) res → Ev (fun k => spec_ReadDeed.l0 k (mk w :: rest) dwords dflags 10 (kfold w (kinds 1) 0) 0) res := fun {res} rest w c h0 h1 h hj => by
    rw [h]
    refine Ev.step (fun k => ?_) hj
    simp only [spec_ReadDeed.l0]
    rw [if_neg (by decide), if_neg (by omega), if_pos (by omega), hfl, if_pos (by omega)]
    by_cases hb : (told c != (((mk w :: rest).length : Int) == 2)) = true
    · rw [if_pos hb, if_pos (show (rdOf false dflags c != (((mk w :: rest).length : Int) == 2)) = true from hb)]
    · rw [if_neg hb, if_neg (show ¬ (rdOf false dflags c != (((mk w :: rest).length : Int) == 2)) = true from hb)]
  rcases cut_cases 32 t with ⟨hi, hno⟩ | ⟨w, r, rfl, hw, hi⟩
  · -- no blank
    have hcut : (cuts 32 [] t).map mk = mk t :: [] := by rw [cuts_none 32 t [] hno]; rfl
    have himpl : Ev (fun k => impl_ReadDeed.f k (mk t)) (firstHit 0 t (kinds 1)) := by
      refine Ev.congr (fun k => ?_) (ev_implLoop 0 t)
      unfold impl_ReadDeed.f
      rw [implCut_none t hi]
      simp only [Option.bind_some]
      rw [parse_eq [] (by simp), pval_nil]
      rfl
    -- whose text is it
    have hhit : ∀ k, hit 0 t k → (1 ≤ k ∧ k ≤ 9) ∧ told k = false ∧ wordL k = t := fun k hk => by
      obtain ⟨hv, ht⟩ := hk
      have hkk := (dvalid_kind hv).1
      rw [dtext_list hv] at ht
      cases htold : told k with
      | true =>
        rw [htold, if_pos rfl] at ht
        exact absurd (by rw [← ht]; exact List.mem_append_right _ (List.mem_cons_self ..)) hno
      | false =>
        rw [htold, if_neg (by simp)] at ht
        exact ⟨hkk, rfl, ht⟩
    rcases kfold_spec t (kinds 1) 0 with ⟨h1, h2⟩ | ⟨h1, h2⟩
    · refine ⟨(0, 0, 5), specIn t [] hcut (none0 [] t h1), ?_⟩
      rw [firstHit_none 0 t _ (fun k hk hh => h2 k hk (hhit k hh).2.2)] at himpl
      exact himpl
    · generalize hc : kfold t (kinds 1) 0 = c at h1 h2
      have hcc := kinds_mem h1
      have hc0 : 1 ≤ c := by omega
      have h12 : ((([mk t] : List ByteArray).length : Int) == 2) = false := rfl
      have h13 : decide ((([mk t] : List ByteArray).length : Int) > 2) = false := rfl
      cases htold : told c with
      | true =>
        refine ⟨(0, 0, 5), specIn t [] hcut (some0 [] t c hc0 hcc.2 hc ?_), ?_⟩
        · rw [htold, h12, if_pos (by decide)]
          exact bad [] t c
        · rw [firstHit_none 0 t _ (fun k hk hh => ?_)] at himpl
          · exact himpl
          · obtain ⟨hk1, hk2, hk3⟩ := hhit k hh
            rw [wordL_inj hk1.1 hk1.2 hc0 hcc.2 (hk3.trans h2.symm), htold] at hk2
            exact absurd hk2 (by simp)
      | false =>
        have hv := told_lit hc0 hcc.2
        refine ⟨(c, 0, 0), specIn t [] hcut (some0 [] t c hc0 hcc.2 hc ?_), ?_⟩
        · rw [htold, h12, if_neg (by decide), h13]
          refine Ev.step (f := fun _ => some (c, 0, 0)) (fun k => ?_) (Ev.now _)
          simp only [spec_ReadDeed.j1]
          rw [if_neg (by simp), if_pos (by omega), hfl, if_pos (by omega), if_neg (show ¬ rdOf false dflags c = true from by rw [show rdOf false dflags c = told c from rfl, htold]; simp), specDeed_eq, hv]
          simp only [Option.bind_some]
          rw [if_pos trivial]
        · have hhc : hit 0 t c := ⟨hv, by rw [dtext_list hv, htold, if_neg (by simp)]; exact h2⟩
          rw [firstHit_one 0 t hhc _ (mem_kinds hc0 hcc.2) (fun k _ hh => ?_)] at himpl
          · exact himpl
          · obtain ⟨hk1, _, hk3⟩ := hhit k hh
            exact wordL_inj hk1.1 hk1.2 hc0 hcc.2 (hk3.trans h2.symm)
  · -- a first blank
    have hlen : (w ++ 32 :: r).length = w.length + (r.length + 1) := by rw [List.length_append, List.length_cons]
    have hcut : (cuts 32 [] (w ++ 32 :: r)).map mk = mk w :: (cuts 32 [] r).map mk := by rw [cuts_at 32 w [] r hw]; rfl
    have himpl : Ev (fun k => impl_ReadDeed.f k (mk (w ++ 32 :: r))) (firstHit (pval r) (w ++ 32 :: r) (kinds 1)) := by
      refine Ev.congr (fun k => ?_) (ev_implLoop (pval r) (w ++ 32 :: r))
      unfold impl_ReadDeed.f
      rw [implCut_at w r hl hi]
      simp only [Option.bind_some]
      rw [parse_eq r (by omega)]
      rfl
    have hhit : ∀ k, hit (pval r) (w ++ 32 :: r) k → (1 ≤ k ∧ k ≤ 9) ∧ told k = true ∧ wordL k = w ∧ dvalid k (pval r) = true ∧ r = Lib.decDigits (pval r).toNat := fun k hk => by
      obtain ⟨hv, ht⟩ := hk
      have hkk := (dvalid_kind hv).1
      rw [dtext_list hv] at ht
      cases htold : told k with
      | true =>
        rw [htold, if_pos rfl] at ht
        obtain ⟨e1, e2⟩ := cut_unique (wordL_blank hkk.1 hkk.2) hw ht
        exact ⟨hkk, rfl, e1, hv, e2.symm⟩
      | false =>
        rw [htold, if_neg (by simp)] at ht
        exact absurd (by rw [ht]; exact List.mem_append_right _ (List.mem_cons_self ..)) (wordL_blank hkk.1 hkk.2)
    have hclen : (((mk w :: (cuts 32 [] r).map mk).length : Nat) : Int) = (r.count 32 : Nat) + 2 := by
      rw [List.length_cons, List.length_map, cuts_length]; omega
    rcases kfold_spec w (kinds 1) 0 with ⟨h1, h2⟩ | ⟨h1, h2⟩
    · refine ⟨(0, 0, 5), specIn w _ hcut (none0 _ w h1), ?_⟩
      rw [firstHit_none _ _ _ (fun k hk hh => h2 k hk (hhit k hh).2.2.1)] at himpl
      exact himpl
    · generalize hc : kfold w (kinds 1) 0 = c at h1 h2
      have hcc := kinds_mem h1
      have hc0 : 1 ≤ c := by omega
      have only : ∀ k, hit (pval r) (w ++ 32 :: r) k → k = c := fun k hh => by
        obtain ⟨hk1, _, hk3, _⟩ := hhit k hh
        exact wordL_inj hk1.1 hk1.2 hc0 hcc.2 (hk3.trans h2.symm)
      cases htold : told c with
      | false =>
        refine ⟨(0, 0, 5), specIn w _ hcut (some0 _ w c hc0 hcc.2 hc ?_), ?_⟩
        · rw [htold, hclen]
          by_cases h0 : r.count 32 = 0
          · rw [h0, if_pos (by decide)]
            exact bad _ w c
          · rw [if_neg (by rw [show ((((r.count 32 : Nat) : Int) + 2) == 2) = false from by rw [beq_eq_false_iff_ne]; omega]; decide), decide_eq_true (by omega)]
            exact bad _ w c
        · rw [firstHit_none _ _ _ (fun k hk hh => ?_)] at himpl
          · exact himpl
          · have := (hhit k hh).2.1
            rw [only k hh, htold] at this
            exact absurd this (by simp)
      | true =>
        by_cases h0 : r.count 32 = 0
        · have hnr : (32 : UInt8) ∉ r := List.count_eq_zero.1 h0
          have hrest : (cuts 32 [] r).map mk = [mk r] := by rw [cuts_none 32 r [] hnr]; rfl
          rw [hrest] at hcut
          obtain ⟨q, hq, hcase⟩ := ev_specNumber r
          have h12 : ((([mk w, mk r] : List ByteArray).length : Int) == 2) = true := rfl
          have h13 : decide ((([mk w, mk r] : List ByteArray).length : Int) > 2) = false := rfl
          have hj : ∀ {res}, Ev (fun k => (some q).bind fun bt142 => (if bt142.2 = true then ((spec_l08Deed.f c bt142.1).bind fun t144 => (if t144 = true then (some (c, bt142.1, 0)) else (some (0, 0, 5)))) else (some (0, 0, 5)))) res → Ev (fun k => spec_ReadDeed.l0 k (mk w :: [mk r]) dwords dflags 10 (kfold w (kinds 1) 0) 0) res := fun {res} h => by
            refine some0 _ w c hc0 hcc.2 hc ?_
            rw [htold, h12, if_neg (by decide), h13]
            refine Ev.step (f := fun k => (spec_l01Number.f k (mk r)).bind fun bt142 => (if bt142.2 = true then ((spec_l08Deed.f c bt142.1).bind fun t144 => (if t144 = true then (some (c, bt142.1, 0)) else (some (0, 0, 5)))) else (some (0, 0, 5)))) (fun k => ?_) (Ev.bind hq h)
            simp only [spec_ReadDeed.j1]
            rw [if_neg (by simp), if_pos (by omega), hfl, if_pos (by omega), if_pos (show rdOf false dflags c = true from htold), if_pos (show (1 : Int) < ((([mk w, mk r] : List ByteArray).length : Nat) : Int) from by rw [List.length_cons, List.length_cons]; omega)]
            rfl
          rcases hcase with ⟨hq2, v, hq1, hv⟩ | ⟨hq2, hno⟩
          · by_cases h999 : v ≤ 999
            · have hp : pval r = v := by rw [hv, pval_dec h999]
              have hval : dvalid c v = true := by
                unfold dvalid
                rw [decide_eq_true hc0, decide_eq_true hcc.2, decide_eq_true (show (0 : Int) ≤ v by omega), decide_eq_true (show (v : Int) ≤ 999 by omega), show rdOf false dflags c = told c from rfl, htold]
                rfl
              refine ⟨(c, v, 0), specIn w _ hcut (hj (Ev.congr (f := fun _ => some (c, (v : Int), 0)) (fun k => ?_) (Ev.now _))), ?_⟩
              · rw [Option.bind_some, if_pos hq2, hq1, specDeed_eq, hval]
                rfl
              · have hhc : hit (pval r) (w ++ 32 :: r) c := ⟨by rw [hp]; exact hval, by rw [hp, dtext_list hval, htold, if_pos rfl, h2, Int.toNat_natCast, ← hv]⟩
                rw [firstHit_one _ _ hhc _ (mem_kinds hc0 hcc.2) (fun k _ hh => only k hh), hp] at himpl
                exact himpl
            · refine ⟨(0, 0, 5), specIn w _ hcut (hj (Ev.congr (f := fun _ => some (0, 0, 5)) (fun k => ?_) (Ev.now _))), ?_⟩
              · have hval : dvalid c v = false := by
                  unfold dvalid
                  rw [decide_eq_false (show ¬ (v : Int) ≤ 999 by omega)]
                  simp
                rw [Option.bind_some, if_pos hq2, hq1, specDeed_eq, hval]
                rfl
              · rw [firstHit_none _ _ _ (fun k hk hh => ?_)] at himpl
                · exact himpl
                · obtain ⟨_, _, _, hvv, he⟩ := hhit k hh
                  have hb := (dvalid_kind hvv).2
                  rw [hv] at he
                  have : v = (pval r).toNat := by
                    have e := congrArg (numFrom 0) he
                    rw [numFrom_decDigits, numFrom_decDigits] at e
                    rw [hv]
                    exact Option.some.inj e
                  omega
          · refine ⟨(0, 0, 5), specIn w _ hcut (hj (Ev.congr (f := fun _ => some (0, 0, 5)) (fun k => ?_) (Ev.now _))), ?_⟩
            · rw [Option.bind_some, if_neg (by rw [hq2]; simp)]
            · rw [firstHit_none _ _ _ (fun k hk hh => ?_)] at himpl
              · exact himpl
              · obtain ⟨_, _, _, hvv, he⟩ := hhit k hh
                have hb := (dvalid_kind hvv).2
                exact hno (pval r).toNat (by omega) he
        · refine ⟨(0, 0, 5), specIn w _ hcut (some0 _ w c hc0 hcc.2 hc ?_), ?_⟩
          · rw [htold, hclen, if_pos (by rw [show ((((r.count 32 : Nat) : Int) + 2) == 2) = false from by rw [beq_eq_false_iff_ne]; omega]; decide)]
            exact bad _ w c
          · rw [firstHit_none _ _ _ (fun k hk hh => ?_)] at himpl
            · exact himpl
            · have he := (hhit k hh).2.2.2.2
              apply h0
              rw [List.count_eq_zero, he]
              exact decDigits_blank _
end Go.Proofs.YtooppfpbeljcbaaDoor.Pure
