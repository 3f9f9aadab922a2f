/- Words of my own for pure statements: rounds of loops, sums on words; the laws' helpers on lists of numbers (copies, equality, sizes). -/
import Derived.Test.YtecahhcbpgogkaaPAllx0
import Derived.Test.YtecahhcbpgogkaaPAllx1
import Derived.Test.YtecahhcbpgogkaaPAllx4
import Derived.Test.YtecahhcbpgogkaaPAllx5
import Derived.Test.YtecahhcbpgogkaaPAllx8
import Derived.Test.YtecahhcbpgogkaaPAllx9
import Derived.Test.YtecahhcbpgogkaaRow
import Derived.Test.YtecahhcbpgogkaaWWords
namespace Go.Proofs.Ytecahhcbpgogkaa.Pure
open Go.RowKit Go.Proofs.Ytecahhcbpgogkaa.PAll Go.Proofs.YtecahhcbpgogkaaOwn Go.Proofs.YtecahhcbpgogkaaW.PrintWords Go.Proofs.YtecahhcbpgogkaaW.PrintLast Go.Proofs.YtecahhcbpgogkaaW.PrintMore
set_option linter.unusedVariables false

theorem ev_down {n : Nat} {p : Nat → Prop} (last : p n) (step : ∀ i, i < n → p (i + 1) → p i) : ∀ i, i ≤ n → p i := by
  intro i hi
  obtain ⟨d, rfl⟩ : ∃ d, n = i + d := ⟨n - i, by omega⟩
  induction d generalizing i with
  | zero => exact last
  | succ d ih =>
    refine step i (by omega) (ih (i + 1) (by rw [show i + 1 + d = i + (d + 1) from by omega]; exact last) (fun j hj => step j (by omega)) (by omega))
theorem ev_const {α : Type} {a : Option α} {r : α} (h : a = some r) : Ev (fun _ => a) r := ⟨0, fun _ _ => h⟩
theorem ev_unique {α : Type} {g : Nat → Option α} {r q : α} (h : Ev g r) (h' : Ev g q) : r = q := by
  obtain ⟨K, h⟩ := h
  obtain ⟨K', h'⟩ := h'
  have h1 := h (max K K') (by omega)
  have h2 := h' (max K K') (by omega)
  exact Option.some.inj (h1.symm.trans h2)
theorem wrap_small {x : Int} (h0 : -9223372036854775808 ≤ x) (h1 : x ≤ 9223372036854775807) : wrap64 x = x := by
  unfold wrap64
  omega
theorem wrap_succ {i n : Nat} (h : i < n) (hn : n ≤ 9223372036854775807) : wrap64 ((i : Int) + 1) = ((i + 1 : Nat) : Int) := by
  rw [wrap_small (by omega) (by omega)]; omega
theorem rd_eq {l : List Int} {i : Nat} (h : i < l.length) : rd l (i : Int) = l[i] := by simp [rd, h]
theorem getD_eq {α : Type} {l : List α} {d : α} {i : Nat} (h : i < l.length) : l.getD i d = l[i] := by simp [h]
theorem set_take {α : Type} (l : List α) (z : α) (i : Nat) (h : i < l.length) : (l.take i ++ List.replicate (l.length - i) z).set i l[i] = l.take (i + 1) ++ List.replicate (l.length - (i + 1)) z := by
  have e : l.length - i = (l.length - (i + 1)) + 1 := by omega
  rw [e, List.replicate_succ, List.set_append_right _ _ (by simp; omega)]
  rw [List.length_take, Nat.min_eq_left (Nat.le_of_lt h), Nat.sub_self, List.set_cons_zero, List.take_succ_eq_append_getElem h, List.append_assoc]
  rfl
theorem ev_toInt64S (l : List Int) (h : l.length ≤ 1048576) : Ev (fun k => laws_toInt64S.f k l) l := by
  refine Ev.congr (f := fun k => laws_toInt64S.l0 k l (List.replicate l.length 0) 0) (fun k => by unfold laws_toInt64S.f; rw [if_pos (by omega), if_pos (by simp; omega)]; simp) ?_
  have key := ev_down (n := l.length) (p := fun i => Ev (fun k => laws_toInt64S.l0 k l (l.take i ++ List.replicate (l.length - i) 0) i) l) ?_ ?_ 0 (by omega)
  · exact key
  · refine Ev.step (f := fun _ => some l) (fun k => ?_) (Ev.now _)
    simp only [laws_toInt64S.l0]
    rw [if_neg (by omega)]
    simp
  · intro i hi ih
    refine Ev.step (f := fun k => laws_toInt64S.l0 k l (l.take (i + 1) ++ List.replicate (l.length - (i + 1)) 0) ((i + 1 : Nat) : Int)) (fun k => ?_) ih
    simp only [laws_toInt64S.l0]
    rw [if_pos (by omega), if_pos (by omega), if_pos (by simp; omega), wrap_succ hi (by omega), Int.toNat_natCast, rd_eq hi, set_take l 0 i hi]
theorem ev_toInt64SS (l : List (List Int)) (h : l.length ≤ 1048576) (hw : ∀ w ∈ l, w.length ≤ 1048576) : Ev (fun k => laws_toInt64SS.f k l) l := by
  refine Ev.congr (f := fun k => laws_toInt64SS.l0 k l (List.replicate l.length []) 0) (fun k => by unfold laws_toInt64SS.f; rw [if_pos (by omega), if_pos (by simp; omega)]; simp) ?_
  have key := ev_down (n := l.length) (p := fun i => Ev (fun k => laws_toInt64SS.l0 k l (l.take i ++ List.replicate (l.length - i) []) i) l) ?_ ?_ 0 (by omega)
  · exact key
  · refine Ev.step (f := fun _ => some l) (fun k => ?_) (Ev.now _)
    simp only [laws_toInt64SS.l0]
    rw [if_neg (by omega)]
    simp
  · intro i hi ih
    refine Ev.step (f := fun k => (laws_toInt64S.f k l[i]).bind fun t => laws_toInt64SS.l0 k l ((l.take i ++ List.replicate (l.length - i) []).set i t) ((i + 1 : Nat) : Int)) (fun k => ?_) (Ev.bind (ev_toInt64S _ (hw _ (List.getElem_mem hi))) ?_)
    · simp only [laws_toInt64SS.l0]
      rw [if_pos (by omega), if_pos (by omega)]
      simp only [rd_L1, Int.toNat_natCast, getD_eq hi]
      congr 1
      funext t
      rw [if_pos (by simp; omega), wrap_succ hi (by omega)]
    · refine Ev.congr (fun k => ?_) ih
      rw [set_take l [] i hi]
theorem drop_eq_iff {α : Type} {a b : List α} {i : Nat} (ha : i < a.length) (hb : i < b.length) : a.drop i = b.drop i ↔ a[i] = b[i] ∧ a.drop (i + 1) = b.drop (i + 1) := by
  rw [List.drop_eq_getElem_cons ha, List.drop_eq_getElem_cons hb, List.cons.injEq]
theorem ev_eqInt64S (a b : List Int) (h : a.length ≤ 9223372036854775807) : Ev (fun k => laws_eqInt64S.f k a b) (decide (a = b)) := by
  by_cases hl : a.length = b.length
  · refine Ev.congr (f := fun k => laws_eqInt64S.l0 k a b 0) (fun k => by unfold laws_eqInt64S.f; rw [if_pos (by omega)]) ?_
    have key := ev_down (n := a.length) (p := fun i => Ev (fun k => laws_eqInt64S.l0 k a b i) (decide (a.drop i = b.drop i))) ?_ ?_ 0 (by omega)
    · exact key
    · refine Ev.step (f := fun _ => some true) (fun k => ?_) ?_
      · simp only [laws_eqInt64S.l0]
        rw [if_neg (by omega)]
      · rw [List.drop_length, hl, List.drop_length]; exact ev_const (by simp)
    · intro i hi ih
      by_cases he : a[i] = b[i]
      · have hd : decide (a.drop i = b.drop i) = decide (a.drop (i + 1) = b.drop (i + 1)) := by
          rw [decide_eq_decide, drop_eq_iff hi (show i < b.length by omega)]; exact ⟨fun h => h.2, fun h => ⟨he, h⟩⟩
        rw [hd]
        refine Ev.step (f := fun k => laws_eqInt64S.l0 k a b ((i + 1 : Nat) : Int)) (fun k => ?_) ih
        simp only [laws_eqInt64S.l0]
        rw [if_pos (by omega), if_pos (by omega), if_pos (by omega), rd_eq hi, rd_eq (show i < b.length by omega), if_pos he, wrap_succ hi (by omega)]
      · have hd : decide (a.drop i = b.drop i) = false := by
          rw [decide_eq_false_iff_not, drop_eq_iff hi (show i < b.length by omega)]; exact fun h => he h.1
        rw [hd]
        refine Ev.step (f := fun _ => some false) (fun k => ?_) (Ev.now _)
        simp only [laws_eqInt64S.l0]
        rw [if_pos (by omega), if_pos (by omega), if_pos (by omega), rd_eq hi, rd_eq (show i < b.length by omega), if_neg he]
  · have hd : decide (a = b) = false := by
      simp; intro e; exact hl (by rw [e])
    rw [hd]
    refine Ev.congr (f := fun _ => some false) (fun k => ?_) (Ev.now _)
    unfold laws_eqInt64S.f; rw [if_neg (by omega)]
theorem ev_eqInt64SS (a b : List (List Int)) (h : a.length ≤ 9223372036854775807) (hw : ∀ w ∈ a, w.length ≤ 9223372036854775807) : Ev (fun k => laws_eqInt64SS.f k a b) (decide (a = b)) := by
  by_cases hl : a.length = b.length
  · refine Ev.congr (f := fun k => laws_eqInt64SS.l0 k a b 0) (fun k => by unfold laws_eqInt64SS.f; rw [if_pos (by omega)]) ?_
    have key := ev_down (n := a.length) (p := fun i => Ev (fun k => laws_eqInt64SS.l0 k a b i) (decide (a.drop i = b.drop i))) ?_ ?_ 0 (by omega)
    · exact key
    · refine Ev.step (f := fun _ => some true) (fun k => ?_) ?_
      · simp only [laws_eqInt64SS.l0]
        rw [if_neg (by omega)]
      · rw [List.drop_length, hl, List.drop_length]; exact ev_const (by simp)
    · intro i hi ih
      have hib : i < b.length := by omega
      refine Ev.step (f := fun k => (laws_eqInt64S.f k a[i] b[i]).bind fun t => if t = true then laws_eqInt64SS.l0 k a b ((i + 1 : Nat) : Int) else some false) (fun k => ?_) (Ev.bind (ev_eqInt64S _ _ (hw _ (List.getElem_mem hi))) ?_)
      · simp only [laws_eqInt64SS.l0]
        rw [if_pos (by omega), if_pos (by omega), if_pos (by omega), wrap_succ hi (by omega)]
        simp only [rd_L1, Int.toNat_natCast, getD_eq hi, getD_eq hib]
      · by_cases he : a[i] = b[i]
        · have hd : decide (a.drop i = b.drop i) = decide (a.drop (i + 1) = b.drop (i + 1)) := by
            rw [decide_eq_decide, drop_eq_iff hi hib]; exact ⟨fun h => h.2, fun h => ⟨he, h⟩⟩
          rw [hd]
          exact Ev.congr (fun k => by simp [he]) ih
        · have hd : decide (a.drop i = b.drop i) = false := by
            rw [decide_eq_false_iff_not, drop_eq_iff hi hib]; exact fun h => he h.1
          rw [hd]
          exact Ev.congr (f := fun _ => some false) (fun k => by simp [he]) (Ev.now _)
  · have hd : decide (a = b) = false := by
      simp; intro e; exact hl (by rw [e])
    rw [hd]
    refine Ev.congr (f := fun _ => some false) (fun k => ?_) (Ev.now _)
    unfold laws_eqInt64SS.f; rw [if_neg (by omega)]
/-- How much a list of lists takes. -/
def bulk (l : List (List Int)) : Nat := l.length + (l.map List.length).sum
theorem le_sum {x : Nat} : ∀ {l : List Nat}, x ∈ l → x ≤ l.sum
  | y :: t, h => by
    rcases List.mem_cons.1 h with rfl | h
    · simp
    · have := le_sum h; simp; omega
theorem bulk_mem {l : List (List Int)} {w : List Int} (h : w ∈ l) : w.length + l.length ≤ bulk l := by
  unfold bulk
  have := le_sum (List.mem_map.2 ⟨w, h, rfl⟩ : w.length ∈ l.map List.length)
  omega
theorem ev_szInt64SS (l : List (List Int)) (hl : l.length ≤ 9223372036854775807) (hw : ∀ w ∈ l, w.length ≤ 9223372036854775807) (a : Int) (h0 : 0 ≤ a) (h1 : a ≤ 1048576) : ∃ r, Ev (fun k => laws_szInt64SS.f k l a) r ∧ r ≤ 1048576 ∧ (¬ r < 0 → r = a - bulk l) := by
  have w1 : wrap64 (a - (l.length : Int)) = a - l.length := wrap_small (by omega) (by omega)
  by_cases hn : a - (l.length : Int) < 0
  · refine ⟨-1, Ev.congr (f := fun _ => some (-1)) (fun k => ?_) (Ev.now _), by omega, fun h => absurd (by omega) h⟩
    unfold laws_szInt64SS.f; rw [w1, if_pos hn]
  · have key : ∀ m : Nat, ∀ i ≤ l.length, l.length - i = m → ∀ b : Int, 0 ≤ b → b ≤ 1048576 → ∃ r, Ev (fun k => laws_szInt64SS.l0 k l b i) r ∧ r ≤ 1048576 ∧ (¬ r < 0 → r = b - ((l.drop i).map List.length).sum) := by
      intro m
      induction m with
      | zero =>
        intro i hi hm b b0 b1
        refine ⟨b, Ev.step (f := fun _ => some b) (fun k => ?_) (Ev.now _), b1, fun _ => ?_⟩
        · simp only [laws_szInt64SS.l0]
          rw [if_neg (by omega)]
        · rw [List.drop_of_length_le (by omega)]; simp
      | succ m ih =>
        intro i hi hm b b0 b1
        have hlt : i < l.length := by omega
        have hwl : (l[i].length : Int) ≤ 9223372036854775807 := by have := hw _ (List.getElem_mem hlt); omega
        have w2 : wrap64 (b - (l[i].length : Int)) = b - l[i].length := wrap_small (by omega) (by omega)
        have hsum : ((l.drop i).map List.length).sum = l[i].length + ((l.drop (i + 1)).map List.length).sum := by
          rw [List.drop_eq_getElem_cons hlt]; rfl
        by_cases hn2 : b - (l[i].length : Int) < 0
        · refine ⟨-1, Ev.step (f := fun _ => some (-1)) (fun k => ?_) (Ev.now _), by omega, fun h => absurd (by omega) h⟩
          simp only [laws_szInt64SS.l0]
          rw [if_pos (by omega), if_pos (by omega)]
          simp only [rd_L1, Int.toNat_natCast, getD_eq hlt, laws_szInt64S.f, w2]
          rw [if_pos hn2]; rfl
        · obtain ⟨r, hr, hr1, hr2⟩ := ih (i + 1) (by omega) (by omega) (b - l[i].length) (by omega) (by omega)
          refine ⟨r, Ev.step (f := fun k => laws_szInt64SS.l0 k l (b - l[i].length) ((i + 1 : Nat) : Int)) (fun k => ?_) hr, hr1, fun h => ?_⟩
          · simp only [laws_szInt64SS.l0]
            rw [if_pos (by omega), if_pos (by omega)]
            simp only [rd_L1, Int.toNat_natCast, getD_eq hlt, laws_szInt64S.f, w2]
            rw [if_neg hn2]
            simp only [Option.bind_some]
            rw [if_neg hn2, wrap_succ hlt (by omega)]
          · rw [hr2 h, hsum]; omega
    obtain ⟨r, hr, hr1, hr2⟩ := key l.length 0 (by omega) (by omega) (a - l.length) (by omega) (by omega)
    refine ⟨r, Ev.congr (fun k => ?_) hr, hr1, fun h => ?_⟩
    · unfold laws_szInt64SS.f; rw [w1, if_neg hn]; rfl
    · rw [hr2 h]; unfold bulk; simp; omega
end Go.Proofs.Ytecahhcbpgogkaa.Pure
