/- Pure: a text cut at a byte, in the reference. -/
import Derived.Test.YtooppfpbeljcbaaDoorPAllx1
import Derived.Test.YtooppfpbeljcbaaDoorRow
import Derived.Test.YtooppfpbeljcbaaDoorWWords
import Derived.Test.YtooppfpbeljcbaaDoorXMk
namespace Go.Proofs.YtooppfpbeljcbaaDoor.Pure
open Go.RowKit Go.Proofs.YtooppfpbeljcbaaDoor.PAll Go.Proofs.YtooppfpbeljcbaaDoorOwn Go.Proofs.YtooppfpbeljcbaaDoorW.PrintWords Go.Proofs.YtooppfpbeljcbaaDoorW.PrintLast Go.Proofs.YtooppfpbeljcbaaDoorW.PrintMore
set_option linter.unusedVariables false

/-- The pieces of a text between the bytes c (cur: what lies ahead of it in its piece). -/
def cuts (c : UInt8) : List UInt8 → List UInt8 → List (List UInt8)
  | cur, [] => [cur]
  | cur, b :: t => if b = c then cur :: cuts c [] t else cuts c (cur ++ [b]) t
theorem cuts_cons (c : UInt8) (cur : List UInt8) (b : UInt8) (t : List UInt8) : cuts c cur (b :: t) = if b = c then cur :: cuts c [] t else cuts c (cur ++ [b]) t := rfl
theorem cuts_length (c : UInt8) : ∀ (t cur : List UInt8), (cuts c cur t).length = t.count c + 1
  | [], cur => rfl
  | b :: t, cur => by
    rw [cuts_cons]
    by_cases hb : b = c
    · rw [if_pos hb, List.length_cons, cuts_length c t [], hb, List.count_cons_self]
    · rw [if_neg hb, cuts_length c t _, List.count_cons_of_ne hb]
theorem cuts_sizes (c : UInt8) : ∀ (t cur : List UInt8), ∀ l ∈ cuts c cur t, l.length ≤ cur.length + t.length
  | [], cur, l, h => by
    rw [show cuts c cur [] = [cur] from rfl, List.mem_singleton] at h
    rw [h]; exact Nat.le_add_right _ _
  | b :: t, cur, l, h => by
    rw [cuts_cons] at h
    by_cases hb : b = c
    · rw [if_pos hb] at h
      rcases List.mem_cons.1 h with rfl | h
      · exact Nat.le_add_right _ _
      · have := cuts_sizes c t [] l h
        simp at this ⊢; omega
    · rw [if_neg hb] at h
      have := cuts_sizes c t _ l h
      simp at this ⊢; omega
/-- Where no c stands, there is one piece. -/
theorem cuts_none (c : UInt8) : ∀ (t cur : List UInt8), c ∉ t → cuts c cur t = [cur ++ t]
  | [], cur, _ => by rw [List.append_nil]; rfl
  | b :: t, cur, h => by
    rw [cuts_cons, if_neg (fun e => h (by rw [e]; exact List.mem_cons_self ..)), cuts_none c t _ (fun e => h (List.mem_cons_of_mem _ e)), List.append_assoc]; rfl
/-- Where the first c stands behind w. -/
theorem cuts_at (c : UInt8) : ∀ (w cur t : List UInt8), c ∉ w → cuts c cur (w ++ c :: t) = (cur ++ w) :: cuts c [] t
  | [], cur, t, _ => by rw [List.nil_append, cuts_cons, if_pos rfl, List.append_nil]
  | b :: w, cur, t, h => by
    rw [List.cons_append, cuts_cons, if_neg (fun e => h (by rw [e]; exact List.mem_cons_self ..)), cuts_at c w _ t (fun e => h (List.mem_cons_of_mem _ e)), List.append_assoc]; rfl
/-- Each text has no c, or a first one. -/
theorem cut_cases (c : UInt8) : ∀ t : List UInt8, (Lib.indexByte t c = -1 ∧ c ∉ t) ∨ ∃ w r, t = w ++ c :: r ∧ c ∉ w ∧ Lib.indexByte t c = (w.length : Int)
  | [] => .inl ⟨rfl, by simp⟩
  | b :: t => by
    by_cases hb : b = c
    · refine .inr ⟨[], t, by rw [hb]; rfl, by simp, ?_⟩
      unfold Lib.indexByte
      rw [if_pos (by rw [hb]; simp)]; rfl
    · have hbb : (b == c) = false := beq_eq_false_iff_ne.2 hb
      rcases cut_cases c t with ⟨h1, h2⟩ | ⟨w, r, rfl, h2, h3⟩
      · refine .inl ⟨?_, ?_⟩
        · unfold Lib.indexByte
          rw [hbb, h1]; rfl
        · intro e
          rcases List.mem_cons.1 e with e | e
          · exact hb e.symm
          · exact h2 e
      · refine .inr ⟨b :: w, r, rfl, ?_, ?_⟩
        · intro e
          rcases List.mem_cons.1 e with e | e
          · exact hb e.symm
          · exact h2 e
        · unfold Lib.indexByte
          rw [hbb, h3, if_neg (by simp), if_neg (by simp), List.length_cons]; omega
theorem ev_cuts (c : UInt8) (t : List UInt8) (h : t.length ≤ 4000000) : Ev (fun k => spec_l01Split.f k (mk t) (c.toNat : Int)) ((cuts c [] t).map mk) := by
  have key : ∀ m i, i ≤ t.length → t.length - i = m → ∀ (s : Nat) (x5 : List ByteArray), s ≤ i → x5.length ≤ i → Ev (fun k => spec_l01Split.l0 k (mk t) (c.toNat : Int) x5 s i) (x5 ++ (cuts c ((t.drop s).take (i - s)) (t.drop i)).map mk) := by
    intro m
    induction m with
    | zero =>
      intro i hi hm s x5 hs hx
      have hl : i = t.length := by omega
      subst hl
      rw [List.drop_length]
      refine Ev.step (f := fun _ => some (x5 ++ [mk ((t.drop s).take (t.length - s))])) (fun k => ?_) (Ev.now _)
      simp only [spec_l01Split.l0]
      rw [if_neg (by rw [mk_size]; omega), if_pos (by omega), if_pos (by rw [mk_size]; omega), if_pos (by omega), Int.toNat_natCast, mk_extract, mk_size]
    | succ m ih =>
      intro i hi hm s x5 hs hx
      have hlt : i < t.length := by omega
      rw [List.drop_eq_getElem_cons hlt, cuts_cons]
      by_cases hb : t[i] = c
      · rw [if_pos hb]
        have h2 := ih (i + 1) (by omega) (by omega) (i + 1) (x5 ++ [mk ((t.drop s).take (i - s))]) (Nat.le_refl _) (by simp; omega)
        rw [Nat.sub_self, List.take_zero, List.append_assoc] at h2
        refine Ev.step (f := fun k => spec_l01Split.l0 k (mk t) (c.toNat : Int) (x5 ++ [mk ((t.drop s).take (i - s))]) ((i + 1 : Nat) : Int) ((i + 1 : Nat) : Int)) (fun k => ?_) h2
        simp only [spec_l01Split.l0]
        rw [if_pos (by rw [mk_size]; omega), if_pos (by omega), bt_mk t i hlt, if_pos (by rw [hb]), if_pos (by omega), if_pos (by omega), if_pos (by rw [mk_size]; omega), if_pos (by omega), Int.toNat_natCast, Int.toNat_natCast, mk_extract, wrap_succ hlt (by omega)]
      · rw [if_neg hb]
        have h2 := ih (i + 1) (by omega) (by omega) s x5 (by omega) (by omega)
        have he : (t.drop s).take (i + 1 - s) = (t.drop s).take (i - s) ++ [t[i]] := by
          rw [show i + 1 - s = (i - s) + 1 from by omega, List.take_succ_eq_append_getElem (by rw [List.length_drop]; omega), List.getElem_drop]
          congr 3
          omega
        rw [he] at h2
        refine Ev.step (f := fun k => spec_l01Split.l0 k (mk t) (c.toNat : Int) x5 s ((i + 1 : Nat) : Int)) (fun k => ?_) h2
        simp only [spec_l01Split.l0]
        rw [if_pos (by rw [mk_size]; omega), if_pos (by omega), bt_mk t i hlt, if_neg ?_, wrap_succ hlt (by omega)]
        intro e
        apply hb
        apply UInt8.toNat_inj.1
        omega
  have h2 := key t.length 0 (by omega) (by omega) 0 [] (Nat.le_refl _) (Nat.le_refl _)
  simpa [spec_l01Split.f] using h2
end Go.Proofs.YtooppfpbeljcbaaDoor.Pure
