/- Pure: words, lines and suites read from their texts, in the reference and in the program. -/
import Derived.Test.YtpbonlmiicapfaaDoorPAllx1
import Derived.Test.YtpbonlmiicapfaaDoorPAllx10
import Derived.Test.YtpbonlmiicapfaaDoorPAllx2
import Derived.Test.YtpbonlmiicapfaaDoorPAllx3
import Derived.Test.YtpbonlmiicapfaaDoorPAllx5
import Derived.Test.YtpbonlmiicapfaaDoorPAllx6
import Derived.Test.YtpbonlmiicapfaaDoorPAllx7
import Derived.Test.YtpbonlmiicapfaaDoorPAllx8
import Derived.Test.YtpbonlmiicapfaaDoorPAllx9
import Derived.Test.YtpbonlmiicapfaaDoorRow
import Derived.Test.YtpbonlmiicapfaaDoorWWords
import Derived.Lib.LazyBuf
import Derived.Test.YtpbonlmiicapfaaDoorXSuite
namespace Go.Proofs.YtpbonlmiicapfaaDoor.Pure
open Go.RowKit Go.Proofs.YtpbonlmiicapfaaDoor.PAll Go.Proofs.YtpbonlmiicapfaaDoorOwn Go.Proofs.YtpbonlmiicapfaaDoorW.PrintWords Go.Proofs.YtpbonlmiicapfaaDoorW.PrintLast Go.Proofs.YtpbonlmiicapfaaDoorW.PrintMore
set_option linter.unusedVariables false

def mk (l : List UInt8) : ByteArray := ⟨l.toArray⟩
theorem mk_toList (l : List UInt8) : (mk l).toList = l := by rw [Go.Lib.toList_data]; rfl
theorem mk_size (l : List UInt8) : (mk l).size = l.length := by rw [Go.Lib.size_eq]; rfl
theorem eq_mk (a : ByteArray) : a = mk a.toList := by rw [Go.Lib.toList_data]; rfl
theorem bt_mk (l : List UInt8) (i : Nat) (h : i < l.length) : bt (mk l) (i : Int) = (l[i].toNat : Int) := by
  unfold bt
  rw [dif_pos (by rw [Int.toNat_natCast, mk_size]; exact h)]
  rfl
theorem mk_extract (l : List UInt8) (a b : Nat) : (mk l).extract a b = mk ((l.drop a).take (b - a)) := by
  have h : ((mk l).extract a b).data = (mk ((l.drop a).take (b - a))).data := by
    rw [ByteArray.data_extract]
    show (l.toArray).extract a b = ((l.drop a).take (b - a)).toArray
    rw [List.extract_toArray, List.extract_eq_take_drop]
  cases hx : (mk l).extract a b with
  | mk d => rw [hx] at h; cases h; rfl
theorem mk_append (a b : List UInt8) : mk a ++ mk b = mk (a ++ b) := by
  have h : (mk a ++ mk b).data = (mk (a ++ b)).data := by
    rw [ByteArray.data_append]
    show a.toArray ++ b.toArray = (a ++ b).toArray
    rw [List.append_toArray]
  cases hx : mk a ++ mk b with
  | mk d => rw [hx] at h; cases h; rfl
/-- A byte's letter. -/
def sub (b : UInt8) : Int := (b.toNat : Int) - 97
/-- The word of a text. -/
def rword (t : List UInt8) : Option (List Int) := if t = [45] then some [] else if t.all (fun b => isLet (sub b)) = true ∧ 0 < t.length ∧ t.length ≤ 400 then some (t.map sub) else none
theorem enc_sub (b : UInt8) : enc (sub b) = (b.toNat : Int) := by
  have := b.toNat_lt
  unfold enc sub
  omega
theorem wtext_sub (t : List UInt8) (h0 : t ≠ []) (ha : t.all (fun b => isLet (sub b)) = true) (hl : t.length ≤ 400) : (wtext (t.map sub)).toList = t := by
  unfold wtext
  rw [if_neg (by rw [List.length_map]; omega), if_pos (by rw [List.all_map]; exact ha), if_neg (by simpa using h0), List.map_map]
  rw [show enc ∘ sub = fun b => (b.toNat : Int) from funext enc_sub, Go.Lib.Lz.strOfNums_map, Go.Lib.toList_data]
theorem wtext_none (t : List UInt8) (h : ¬ (t.all (fun b => isLet (sub b)) = true ∧ t.length ≤ 400)) : (wtext (t.map sub)).toList = [] := by
  unfold wtext
  by_cases hl : t.length ≤ 400
  · rw [if_neg (by rw [List.length_map]; omega), if_neg (by rw [List.all_map]; exact fun h2 => h ⟨h2, hl⟩), Go.Lib.toList_data]
  · rw [if_pos (by rw [List.length_map]; omega), Go.Lib.toList_data]
theorem rword_text (t : List UInt8) (w : List Int) (h : rword t = some w) : (wtext w).toList = t ∧ t ≠ [] ∧ w.length ≤ 400 := by
  unfold rword at h
  by_cases h1 : t = [45]
  · rw [if_pos h1] at h
    obtain rfl := Option.some.inj h
    subst h1
    exact ⟨by rw [Go.Lib.toList_data]; rfl, by simp, by simp⟩
  · rw [if_neg h1] at h
    by_cases h2 : t.all (fun b => isLet (sub b)) = true ∧ 0 < t.length ∧ t.length ≤ 400
    · rw [if_pos h2] at h
      obtain rfl := Option.some.inj h
      have h0 : t ≠ [] := by intro e; rw [e] at h2; exact absurd h2.2.1 (by simp)
      exact ⟨wtext_sub t h0 h2.1 h2.2.2, h0, by rw [List.length_map]; exact h2.2.2⟩
    · rw [if_neg h2] at h
      exact absurd h (by simp)
def rout (r : Option (List Int)) : List Int × Int := match r with
  | some w => (w, 0)
  | none => ([], 5)
theorem map_take_sub (t : List UInt8) (i : Nat) (h : i < t.length) : (t.take i).map sub ++ [sub t[i]] = (t.take (i + 1)).map sub := by
  rw [List.take_succ_eq_append_getElem h, List.map_append]; rfl
theorem ev_implReadWord (t : List UInt8) (h : t.length ≤ 20000) : Ev (fun k => impl_ReadWord.f k (mk t)) (rout (rword t)) := by
  refine Ev.congr (f := fun k => impl_ReadWord.l0 k (mk t) [] t.length 0) (fun k => by unfold impl_ReadWord.f; rw [mk_size]) ?_
  by_cases h1 : t = [45]
  · have hr : rout (rword t) = ([], 0) := by unfold rword; rw [if_pos h1]; rfl
    rw [hr]
    refine Ev.step (f := fun k => impl_ReadWord.l0 k (mk t) [] t.length 1) (fun k => ?_) ?_
    · simp only [impl_ReadWord.l0]
      rw [if_pos (by rw [h1]; decide), if_pos (by rw [mk_toList]; exact h1), show wrap64 (0 + 1) = 1 from wrap_small (by omega) (by omega)]
    · refine Ev.step (f := fun k => (impl_WordText.f k []).bind fun t187 => if t187.toList = (mk t).toList then some ([], 0) else some ([], 5)) (fun k => ?_) (Ev.bind (ev_implWord []) ?_)
      · simp only [impl_ReadWord.l0]
        rw [if_neg (by rw [h1]; decide), if_neg (by rw [mk_toList, h1]; simp)]
      · refine Ev.congr (f := fun _ => some ([], 0)) (fun k => ?_) (Ev.now _)
        rw [if_pos (by rw [mk_toList, h1, Go.Lib.toList_data]; rfl)]
  · have key := ev_down (n := t.length) (p := fun i => Ev (fun k => impl_ReadWord.l0 k (mk t) ((t.take i).map sub) t.length i) (rout (rword t))) ?_ ?_ 0 (by omega)
    · exact key
    · by_cases h2 : t = []
      · refine Ev.step (f := fun _ => some ([], 5)) (fun k => ?_) ?_
        · simp only [impl_ReadWord.l0]
          rw [if_neg (by omega), if_pos (by rw [mk_toList]; exact h2)]
        · rw [show rout (rword t) = ([], 5) from by unfold rword; rw [if_neg h1, if_neg (by rw [h2]; simp)]; rfl]
          exact Ev.now _
      · refine Ev.step (f := fun k => (impl_WordText.f k (t.map sub)).bind fun t187 => if t187.toList = t then some (t.map sub, 0) else some ([], 5)) (fun k => ?_) (Ev.bind (ev_implWord _) ?_)
        · simp only [impl_ReadWord.l0]
          rw [if_neg (by omega), if_neg (by rw [mk_toList]; exact h2), List.take_length, mk_toList]
        · have hp : 0 < t.length := List.length_pos_iff.2 h2
          by_cases h3 : t.all (fun b => isLet (sub b)) = true ∧ t.length ≤ 400
          · rw [show rout (rword t) = (t.map sub, 0) from by unfold rword; rw [if_neg h1, if_pos ⟨h3.1, hp, h3.2⟩]; rfl]
            exact Ev.congr (f := fun _ => some (t.map sub, 0)) (fun k => by rw [if_pos (wtext_sub t h2 h3.1 h3.2)]) (Ev.now _)
          · rw [show rout (rword t) = ([], 5) from by unfold rword; rw [if_neg h1, if_neg (fun h4 => h3 ⟨h4.1, h4.2.2⟩)]; rfl]
            exact Ev.congr (f := fun _ => some ([], 5)) (fun k => by rw [if_neg (by rw [wtext_none t h3]; exact fun e => h2 e.symm)]) (Ev.now _)
    · intro i hi ih
      refine Ev.step (f := fun k => impl_ReadWord.l0 k (mk t) ((t.take (i + 1)).map sub) t.length ((i + 1 : Nat) : Int)) (fun k => ?_) ih
      have hb := (t[i]).toNat_lt
      simp only [impl_ReadWord.l0]
      rw [if_pos (by omega), if_neg (by rw [mk_toList]; exact h1), if_pos (by omega), if_pos (by rw [mk_size]; omega), if_pos (by simp; omega), bt_mk t i hi, wrap_small (x := ((t[i].toNat : Nat) : Int)) (by omega) (by omega), wrap_small (by omega) (by omega), wrap_succ hi (by omega)]
      rw [← map_take_sub t i hi]
      rfl
theorem in_eq (x a b : Int) : spec_l00In.f x a b = some (decide (a ≤ x) && decide (x ≤ b)) := by
  unfold spec_l00In.f
  by_cases h : x ≥ a
  · rw [if_pos h]; simp [show a ≤ x from h]
  · rw [if_neg h]; simp [show ¬ a ≤ x from h]
theorem ev_specReadWord (t : List UInt8) (h : t.length ≤ 20000) : Ev (fun k => spec_ReadWord.f k (mk t)) (rout (rword t)) := by
  by_cases h1 : t = [45]
  · have hr : rout (rword t) = ([], 0) := by unfold rword; rw [if_pos h1]; rfl
    rw [hr]
    refine Ev.congr (f := fun _ => some ([], 0)) (fun k => ?_) (Ev.now _)
    unfold spec_ReadWord.f
    simp only [Option.bind_some]
    rw [if_pos (by rw [mk_toList]; exact h1)]
  · refine Ev.congr (f := fun k => spec_ReadWord.l0 k (mk t) [] 0) (fun k => by unfold spec_ReadWord.f; simp only [Option.bind_some]; rw [if_neg (by rw [mk_toList]; exact h1)]) ?_
    have key := ev_down (n := t.length) (p := fun i => Ev (fun k => spec_ReadWord.l0 k (mk t) ((t.take i).map sub) i) (if (t.drop i).all (fun b => isLet (sub b)) = true ∧ 0 < t.length ∧ t.length ≤ 400 then (t.map sub, 0) else ([], 5))) ?_ ?_ 0 (by omega)
    · rw [show rout (rword t) = (if t.all (fun b => isLet (sub b)) = true ∧ 0 < t.length ∧ t.length ≤ 400 then (t.map sub, 0) else ([], 5)) from by
        unfold rword
        rw [if_neg h1]
        by_cases h2 : t.all (fun b => isLet (sub b)) = true ∧ 0 < t.length ∧ t.length ≤ 400
        · rw [if_pos h2, if_pos h2]; rfl
        · rw [if_neg h2, if_neg h2]; rfl]
      exact key
    · refine Ev.step (f := fun _ => if (decide ((1 : Int) ≤ t.length) && decide ((t.length : Int) ≤ 400)) = true then some (t.map sub, 0) else some ([], 5)) (fun k => ?_) ?_
      · simp only [spec_ReadWord.l0]
        rw [if_neg (by rw [mk_size]; omega), in_eq, List.take_length, List.length_map]
        rfl
      · rw [List.drop_length]
        by_cases h2 : 0 < t.length ∧ t.length ≤ 400
        · refine Ev.congr (f := fun _ => some (t.map sub, 0)) (fun k => by rw [if_pos]; simp; omega) ?_
          rw [if_pos ⟨by simp, h2⟩]
          exact Ev.now _
        · refine Ev.congr (f := fun _ => some ([], 5)) (fun k => by rw [if_neg]; simp; omega) ?_
          rw [if_neg (fun h3 => h2 h3.2)]
          exact Ev.now _
    · intro i hi ih
      have hb := (t[i]).toNat_lt
      have hd : (t.drop i).all (fun b => isLet (sub b)) = (isLet (sub t[i]) && (t.drop (i + 1)).all (fun b => isLet (sub b))) := by
        rw [List.drop_eq_getElem_cons hi, List.all_cons]
      cases hx : isLet (sub t[i]) with
      | true =>
        rw [hd, hx, Bool.true_and]
        have hx2 : 0 ≤ sub t[i] ∧ sub t[i] ≤ 2 := by simpa [isLet] using hx
        unfold sub at hx2
        refine Ev.step (f := fun k => spec_ReadWord.l0 k (mk t) ((t.take (i + 1)).map sub) ((i + 1 : Nat) : Int)) (fun k => ?_) ih
        simp only [spec_ReadWord.l0]
        rw [if_pos (by rw [mk_size]; omega), if_pos (by omega), bt_mk t i hi, if_neg (by omega), if_neg (by omega), if_pos (by simp; omega), wrap_succ hi (by omega), ← map_take_sub t i hi, show (((t[i].toNat : Nat) : Int) - 97) % 256 = sub t[i] from by unfold sub; omega]
      | false =>
        rw [hd, hx, Bool.false_and, if_neg (by simp)]
        have hx2 : ¬ (0 ≤ sub t[i] ∧ sub t[i] ≤ 2) := by intro h; simp [isLet, h.1, h.2] at hx
        unfold sub at hx2
        refine Ev.step (f := fun _ => some ([], 5)) (fun k => ?_) (Ev.now _)
        simp only [spec_ReadWord.l0]
        rw [if_pos (by rw [mk_size]; omega), if_pos (by omega), bt_mk t i hi]
        by_cases h5 : ((t[i].toNat : Nat) : Int) < 97
        · rw [if_pos h5]
        · rw [if_neg h5, if_pos (by omega)]
/-- The lines of a text (cur: what lies ahead of it in its line). -/
def piece : List UInt8 → List UInt8 → List (List UInt8)
  | cur, [] => [cur]
  | cur, b :: t => if b = 10 then cur :: piece [] t else piece (cur ++ [b]) t
theorem piece_cons (cur : List UInt8) (b : UInt8) (t : List UInt8) : piece cur (b :: t) = if b = 10 then cur :: piece [] t else piece (cur ++ [b]) t := rfl
theorem piece_length : ∀ (t cur : List UInt8), (piece cur t).length = t.count 10 + 1
  | [], cur => rfl
  | b :: t, cur => by
    rw [piece_cons]
    by_cases hb : b = 10
    · rw [if_pos hb, List.length_cons, piece_length t [], hb, List.count_cons_self]
    · rw [if_neg hb, piece_length t _, List.count_cons_of_ne hb]
theorem piece_sizes : ∀ (t cur : List UInt8), ∀ l ∈ piece cur t, l.length ≤ cur.length + t.length
  | [], cur, l, h => by
    rw [show piece cur [] = [cur] from rfl, List.mem_singleton] at h
    rw [h]; exact Nat.le_add_right _ _
  | b :: t, cur, l, h => by
    rw [piece_cons] at h
    by_cases hb : b = 10
    · rw [if_pos hb] at h
      rcases List.mem_cons.1 h with rfl | h
      · exact Nat.le_add_right _ _
      · have := piece_sizes t [] l h
        simp at this ⊢; omega
    · rw [if_neg hb] at h
      have := piece_sizes t _ l h
      simp at this ⊢; omega
def flat (ls : List (List UInt8)) : List UInt8 := (ls.map fun l => l ++ [10]).flatten
theorem flat_cons (x : List UInt8) (t : List (List UInt8)) : flat (x :: t) = x ++ 10 :: flat t := by
  unfold flat
  rw [List.map_cons, List.flatten_cons, List.append_assoc, List.singleton_append]
theorem piece_join : ∀ (t cur : List UInt8), ∃ body last, piece cur t = body ++ [last] ∧ cur ++ t = flat body ++ last
  | [], cur => ⟨[], cur, rfl, by simp [flat]⟩
  | b :: t, cur => by
    rw [piece_cons]
    by_cases hb : b = 10
    · obtain ⟨body, last, h1, h2⟩ := piece_join t []
      refine ⟨cur :: body, last, by rw [if_pos hb, h1]; rfl, ?_⟩
      rw [flat_cons, hb, List.append_assoc, List.cons_append, ← h2, List.nil_append]
    · obtain ⟨body, last, h1, h2⟩ := piece_join t (cur ++ [b])
      refine ⟨body, last, by rw [if_neg hb, h1], ?_⟩
      rw [← h2, List.append_assoc, List.singleton_append]
theorem ev_split (t : List UInt8) (h : t.length ≤ 20000) : Ev (fun k => spec_l01Split.f k (mk t) 10) ((piece [] t).map mk) := by
  have key : ∀ m i, i ≤ t.length → t.length - i = m → ∀ (s : Nat) (x5 : List ByteArray), s ≤ i → x5.length ≤ i → Ev (fun k => spec_l01Split.l0 k (mk t) 10 x5 s i) (x5 ++ (piece ((t.drop s).take (i - s)) (t.drop i)).map mk) := by
    intro m
    induction m with
    | zero =>
      intro i hi hm s x5 hs hx
      have hl : i = t.length := by omega
      subst hl
      rw [List.drop_length]
      refine Ev.step (f := fun _ => some (x5 ++ [mk ((t.drop s).take (t.length - s))])) (fun k => ?_) (Ev.now _)
      simp only [spec_l01Split.l0]
      rw [if_neg (by rw [mk_size]; omega), if_pos (by omega), if_pos (by rw [mk_size]; omega), if_pos (by omega), Int.toNat_natCast, mk_extract, mk_size]
    | succ m ih =>
      intro i hi hm s x5 hs hx
      have hlt : i < t.length := by omega
      rw [List.drop_eq_getElem_cons hlt, piece_cons]
      by_cases hb : t[i] = 10
      · rw [if_pos hb]
        have h2 := ih (i + 1) (by omega) (by omega) (i + 1) (x5 ++ [mk ((t.drop s).take (i - s))]) (Nat.le_refl _) (by simp; omega)
        rw [Nat.sub_self, List.take_zero, List.append_assoc] at h2
        refine Ev.step (f := fun k => spec_l01Split.l0 k (mk t) 10 (x5 ++ [mk ((t.drop s).take (i - s))]) ((i + 1 : Nat) : Int) ((i + 1 : Nat) : Int)) (fun k => ?_) h2
        simp only [spec_l01Split.l0]
        rw [if_pos (by rw [mk_size]; omega), if_pos (by omega), bt_mk t i hlt, if_pos (by rw [hb]; rfl), if_pos (by omega), if_pos (by omega), if_pos (by rw [mk_size]; omega), if_pos (by omega), Int.toNat_natCast, Int.toNat_natCast, mk_extract, wrap_succ hlt (by omega)]
      · rw [if_neg hb]
        have h2 := ih (i + 1) (by omega) (by omega) s x5 (by omega) (by omega)
        have he : (t.drop s).take (i + 1 - s) = (t.drop s).take (i - s) ++ [t[i]] := by
          rw [show i + 1 - s = (i - s) + 1 from by omega, List.take_succ_eq_append_getElem (by rw [List.length_drop]; omega), List.getElem_drop]
          congr 3
          omega
        rw [he] at h2
        refine Ev.step (f := fun k => spec_l01Split.l0 k (mk t) 10 x5 s ((i + 1 : Nat) : Int)) (fun k => ?_) h2
        simp only [spec_l01Split.l0]
        rw [if_pos (by rw [mk_size]; omega), if_pos (by omega), bt_mk t i hlt, if_neg ?_, wrap_succ hlt (by omega)]
        intro e
        apply hb
        apply UInt8.toNat_inj.1
        have : (10 : UInt8).toNat = 10 := rfl
        omega
  have h2 := key t.length 0 (by omega) (by omega) 0 [] (Nat.le_refl _) (Nat.le_refl _)
  simpa [spec_l01Split.f] using h2
theorem index_piece : ∀ l : List UInt8, (Lib.indexByte l 10 = -1 ∧ l.count 10 = 0 ∧ ∀ cur, piece cur l = [cur ++ l]) ∨ ∃ o : Nat, Lib.indexByte l 10 = o ∧ o < l.length ∧ l.count 10 = (l.drop (o + 1)).count 10 + 1 ∧ ∀ cur, piece cur l = (cur ++ l.take o) :: piece [] (l.drop (o + 1))
  | [] => .inl ⟨rfl, rfl, fun cur => by rw [List.append_nil]; rfl⟩
  | b :: t => by
    by_cases hb : b = 10
    · refine .inr ⟨0, ?_, by simp, ?_, fun cur => ?_⟩
      · unfold Lib.indexByte
        rw [if_pos (by rw [hb]; rfl)]; rfl
      · rw [hb, List.count_cons_self]; rfl
      · rw [piece_cons, if_pos hb, List.take_zero, List.append_nil]; rfl
    · have hbb : (b == (10 : UInt8)) = false := beq_eq_false_iff_ne.2 hb
      rcases index_piece t with ⟨h1, h2, h3⟩ | ⟨o, h1, h2, h3, h4⟩
      · refine .inl ⟨?_, ?_, fun cur => ?_⟩
        · unfold Lib.indexByte
          rw [hbb, h1]; rfl
        · rw [List.count_cons_of_ne hb, h2]
        · rw [piece_cons, if_neg hb, h3, List.append_assoc]; rfl
      · refine .inr ⟨o + 1, ?_, by simp; omega, ?_, fun cur => ?_⟩
        · unfold Lib.indexByte
          rw [hbb, h1, if_neg (by simp), if_neg (by simp)]; omega
        · rw [List.count_cons_of_ne hb, h3]; rfl
        · rw [piece_cons, if_neg hb, h4, List.append_assoc]; rfl
theorem nl_list : (⟨#[10]⟩ : ByteArray).toList = [10] := by rw [Go.Lib.toList_data]
theorem index_eq (l : List UInt8) : strings_Index.f (mk l) (⟨#[10]⟩ : ByteArray) = some (Lib.indexByte l 10) := by
  unfold strings_Index.f
  rw [nl_list, mk_toList]
theorem count_eq (l : List UInt8) : strings_Count.f (mk l) (⟨#[10]⟩ : ByteArray) = some ((l.count 10 : Nat) : Int) := by
  unfold strings_Count.f
  rw [nl_list, mk_toList]
  rfl
theorem set_done {α : Type} (done : List α) (x z : α) (n : Nat) : (done ++ List.replicate (n + 1) z).set done.length x = (done ++ [x]) ++ List.replicate n z := by
  rw [List.set_append_right _ _ (Nat.le_refl _), Nat.sub_self, List.replicate_succ, List.set_cons_zero, List.append_assoc, List.singleton_append]
theorem ev_gen : ∀ (c : Nat) (l : List UInt8) (done : List ByteArray), l.count 10 = c → done.length + c ≤ 20000 → l.length ≤ 20000 → Ev (fun k => strings_genSplit.l0 k (mk l) (⟨#[10]⟩ : ByteArray) 0 ((done.length + c : Nat) : Int) (done ++ List.replicate (c + 1) (⟨#[]⟩ : ByteArray)) (done.length : Nat)) (done ++ (piece [] l).map mk) := by
  intro c
  induction c with
  | zero =>
    intro l done hc hd hl
    rcases index_piece l with ⟨_, _, h3⟩ | ⟨o, _, _, h3, _⟩
    · refine Ev.step (f := fun _ => some (done ++ [mk l])) (fun k => ?_) (by rw [h3]; exact Ev.now _)
      have hlen : (done ++ List.replicate (0 + 1) (⟨#[]⟩ : ByteArray)).length = done.length + 1 := by simp
      simp only [strings_genSplit.l0]
      rw [if_neg (by omega), if_pos (by omega), if_pos (by rw [hlen]; omega), wrap_small (by omega) (by omega), if_pos (by omega), if_pos (by rw [hlen]; omega), Int.toNat_natCast, set_done]
      congr 1
      rw [show ((done.length : Int) + 1).toNat = (done ++ [mk l]).length from by simp, List.replicate_zero, List.append_nil, List.take_length]
    · omega
  | succ c ih =>
    intro l done hc hd hl
    rcases index_piece l with ⟨_, h3, _⟩ | ⟨o, h1, h2, h3, h4⟩
    · omega
    · have h5 := ih (l.drop (o + 1)) (done ++ [mk (l.take o)]) (by omega) (by simp; omega) (by rw [List.length_drop]; omega)
      rw [h4 [], List.map_cons, List.nil_append]
      rw [show (done ++ [mk (l.take o)]) ++ (piece [] (l.drop (o + 1))).map mk = done ++ mk (l.take o) :: (piece [] (l.drop (o + 1))).map mk from by simp] at h5
      refine Ev.step (fun k => ?_) h5
      have hlen : (done ++ List.replicate (c + 1 + 1) (⟨#[]⟩ : ByteArray)).length = done.length + (c + 2) := by simp
      have hs1 : ((⟨#[10]⟩ : ByteArray).size : Int) = 1 := rfl
      rw [strings_genSplit.l0, if_pos (by omega), index_eq, h1, Option.bind_some, if_neg (by omega), hs1, wrap_small (x := (o : Int) + 0) (by omega) (by omega), wrap_small (x := (o : Int) + 1) (by omega) (by omega), if_pos (by omega), if_pos (by rw [mk_size]; omega), if_pos (by omega), if_pos (by rw [hlen]; omega), if_pos (by omega), if_pos (by rw [mk_size]; omega), wrap_small (by omega) (by omega), Int.toNat_natCast]
      rw [show ((o : Int) + 0).toNat = o from by omega, show ((o : Int) + 1).toNat = o + 1 from by omega, mk_extract, mk_extract, set_done, mk_size, List.drop_zero, Nat.sub_zero]
      rw [show (l.drop (o + 1)).take (l.length - (o + 1)) = l.drop (o + 1) from List.take_of_length_le (by rw [List.length_drop]; omega)]
      congr 1
      · simp; omega
      · simp
theorem ev_strSplit (t : List UInt8) (h : t.length ≤ 20000) : Ev (fun k => strings_Split.f k (mk t) (⟨#[10]⟩ : ByteArray)) ((piece [] t).map mk) := by
  have hc : t.count 10 ≤ t.length := List.count_le_length
  refine Ev.bind (r := (piece [] t).map mk) ?_ (Ev.now _)
  refine Ev.congr (f := fun k => strings_genSplit.j0 k (mk t) (⟨#[10]⟩ : ByteArray) 0 ((t.count 10 + 1 : Nat) : Int)) (fun k => ?_) ?_
  · unfold strings_genSplit.f
    rw [if_neg (by decide), if_neg (by rw [nl_list]; simp), if_pos (by decide), count_eq]
    simp only [Option.bind_some]
    rw [wrap_small (by omega) (by omega)]
    rfl
  · have h2 := ev_gen (t.count 10) t [] rfl (by simp; omega) h
    refine Ev.step (fun k => ?_) h2
    have hm : mn ((t.count 10 + 1 : Nat) : Int) (wrap64 (((mk t).size : Int) + 1)) = ((t.count 10 + 1 : Nat) : Int) := by
      rw [mk_size, wrap_small (by omega) (by omega)]
      unfold mn
      omega
    simp only [strings_genSplit.j0]
    rw [hm, if_pos (by omega), if_pos (by omega), wrap_small (by omega) (by omega), Int.toNat_natCast]
    simp
/-- All lines read. -/
def rall : List (List UInt8) → Option (List (List Int))
  | [] => some []
  | x :: t => (rword x).bind fun w => (rall t).bind fun ws => some (w :: ws)
theorem rall_drop (ls : List (List UInt8)) (i : Nat) (h : i < ls.length) : rall (ls.drop i) = (rword ls[i]).bind fun w => (rall (ls.drop (i + 1))).bind fun ws => some (w :: ws) := by
  rw [List.drop_eq_getElem_cons h]; rfl
theorem rall_text : ∀ (ls : List (List UInt8)) (ws : List (List Int)), rall ls = some ws → ws.length = ls.length ∧ (∀ w ∈ ws, w.length ≤ 400) ∧ ∀ b : List UInt8, sgo ws (mk b) = some (mk (b ++ flat ls))
  | [], ws, h => by
    obtain rfl := Option.some.inj h
    exact ⟨rfl, fun w hw => absurd hw (by simp), fun b => by show some (mk b) = _; rw [show flat [] = [] from rfl, List.append_nil]⟩
  | x :: t, ws, h => by
    obtain ⟨w, hw, h⟩ := Option.bind_eq_some_iff.1 h
    obtain ⟨ws', hws, h⟩ := Option.bind_eq_some_iff.1 h
    obtain rfl := Option.some.inj h
    obtain ⟨h1, h2, h3⟩ := rall_text t ws' hws
    obtain ⟨h4, h5, h6⟩ := rword_text x w hw
    refine ⟨by rw [List.length_cons, List.length_cons, h1], fun y hy => ?_, fun b => ?_⟩
    · rcases List.mem_cons.1 hy with rfl | hy
      · exact h6
      · exact h2 y hy
    · simp only [sgo]
      rw [if_neg (by rw [h4]; exact h5), eq_mk (wtext w), h4, show nl = mk [10] from rfl, mk_append, mk_append, h3, flat_cons, List.append_assoc, List.append_assoc, List.singleton_append]
def sout (t : List UInt8) : List (List Int) × Int := match rall ((piece [] t).take ((piece [] t).length - 1)) with
  | some ws => if ws.length ≤ 400 ∧ (piece [] t).getD ((piece [] t).length - 1) [] = [] then (ws, 0) else ([], 5)
  | none => ([], 5)
theorem getD_map_mk (ls : List (List UInt8)) (i : Nat) (h : i < ls.length) : rdOf ByteArray.empty (ls.map mk) (i : Int) = mk ls[i] := by
  unfold rdOf
  rw [Int.toNat_natCast, List.getD_eq_getElem?_getD, List.getElem?_map, List.getElem?_eq_getElem h]
  rfl
theorem ev_specReadSuite (t : List UInt8) : Ev (fun k => spec_ReadSuite.f k (mk t)) (if t.length > 20000 then ([], 2) else sout t) := by
  by_cases h : t.length > 20000
  · rw [if_pos h]
    exact Ev.congr (f := fun _ => some ([], 2)) (fun k => by unfold spec_ReadSuite.f; rw [if_pos (by rw [mk_size]; omega)]) (Ev.now _)
  · rw [if_neg h]
    refine Ev.congr (f := fun k => (spec_l01Split.f k (mk t) 10).bind fun t129 => spec_ReadSuite.l0 k t129 (wrap64 ((t129.length : Int) - 1)) [] 0) (fun k => by unfold spec_ReadSuite.f; rw [if_neg (by rw [mk_size]; omega)]) (Ev.bind (ev_split t (by omega)) ?_)
    have hlen := piece_length t []
    have hcnt : t.count 10 ≤ t.length := List.count_le_length
    have hsz := piece_sizes t []
    unfold sout
    generalize piece [] t = ls at hlen hsz ⊢
    obtain ⟨n, hn⟩ : ∃ n, n = ls.length - 1 := ⟨_, rfl⟩
    have hn1 : ls.length = n + 1 := by omega
    rw [List.length_map, wrap_small (by omega) (by omega), ← hn, show (ls.length : Int) - 1 = (n : Int) from by omega]
    have key : ∀ m i, i ≤ n → n - i = m → i ≤ 400 → ∀ acc : List (List Int), acc.length = i → Ev (fun k => spec_ReadSuite.l0 k (ls.map mk) n acc i) (match rall ((ls.take n).drop i) with
        | some ws => if (acc ++ ws).length ≤ 400 ∧ ls.getD n [] = [] then (acc ++ ws, 0) else ([], 5)
        | none => ([], 5)) := by
      intro m
      induction m with
      | zero =>
        intro i hi hm h4 acc ha
        have : i = n := by omega
        subst this
        rw [show (ls.take i).drop i = [] from List.drop_of_length_le (by rw [List.length_take]; omega)]
        refine Ev.step (f := fun _ => if ls.getD i [] = [] then some (acc, 0) else some ([], 5)) (fun k => ?_) ?_
        · simp only [spec_ReadSuite.l0]
          rw [if_neg (by omega), if_pos (by omega), if_pos (by rw [List.length_map]; omega), getD_map_mk ls i (by omega), mk_toList, List.getD_eq_getElem?_getD, List.getElem?_eq_getElem (by omega), Option.getD_some]
        · simp only [rall, List.append_nil]
          by_cases hl : ls.getD i [] = []
          · refine Ev.congr (f := fun _ => some (acc, 0)) (fun k => by rw [if_pos hl]) ?_
            rw [if_pos ⟨by omega, hl⟩]
            exact Ev.now _
          · refine Ev.congr (f := fun _ => some ([], 5)) (fun k => by rw [if_neg hl]) ?_
            rw [if_neg (fun h5 => hl h5.2)]
            exact Ev.now _
      | succ m ih =>
        intro i hi hm h4 acc ha
        have hlt : i < n := by omega
        have hi2 : i < ls.length := by omega
        rw [rall_drop _ i (by rw [List.length_take]; omega), List.getElem_take]
        refine Ev.step (f := fun k => (spec_ReadWord.f k (mk ls[i])).bind fun bt136 => if bt136.2 = 0 then (if (i : Int) = 400 then some ([], 5) else if acc.length < 5864062014805 then spec_ReadSuite.l0 k (ls.map mk) n (acc ++ [bt136.1]) ((i + 1 : Nat) : Int) else none) else some ([], 5)) (fun k => ?_) (Ev.bind (ev_specReadWord ls[i] (by have := hsz _ (List.getElem_mem hi2); simp at this; omega)) ?_)
        · simp only [spec_ReadSuite.l0]
          rw [if_pos (by omega), if_pos (by omega), if_pos (by rw [List.length_map]; omega), getD_map_mk ls i hi2, wrap_succ hlt (by omega)]
        · cases hw : rword ls[i] with
          | none => exact Ev.congr (f := fun _ => some ([], 5)) (fun k => rfl) (Ev.now _)
          | some w =>
            simp only [Option.bind_some]
            by_cases h40 : i = 400
            · refine Ev.congr (f := fun _ => some ([], 5)) (fun k => ?_) ?_
              · simp only [rout, if_true]
                rw [if_pos (by omega)]
              · cases hr : rall ((ls.take n).drop (i + 1)) with
                | none => exact Ev.now _
                | some ws =>
                  simp only [Option.bind_some]
                  rw [if_neg (fun h5 => by have := h5.1; simp at this; omega)]
                  exact Ev.now _
            · have h2 := ih (i + 1) (by omega) (by omega) (by omega) (acc ++ [w]) (by simp; omega)
              refine Ev.congr (f := fun k => spec_ReadSuite.l0 k (ls.map mk) n (acc ++ [w]) ((i + 1 : Nat) : Int)) (fun k => ?_) ?_
              · simp only [rout, if_true]
                rw [if_neg (by omega), if_pos (by omega)]
              · cases hr : rall ((ls.take n).drop (i + 1)) with
                | none => rw [hr] at h2; exact h2
                | some ws =>
                  rw [hr] at h2
                  simp only [Option.bind_some]
                  simp only [List.append_assoc, List.singleton_append] at h2
                  exact h2
    have h2 := key n 0 (by omega) (by omega) (by omega) [] rfl
    simpa using h2
theorem flat_ne (ls : List (List UInt8)) (h : 0 < ls.length) : flat ls ≠ [] := by
  cases ls with
  | nil => exact absurd h (by simp)
  | cons x t => rw [flat_cons]; simp
theorem sout_text (t : List UInt8) : sout t = match rall ((piece [] t).take ((piece [] t).length - 1)) with
    | some ws => if ((stext ws).getD (⟨#[]⟩ : ByteArray)).toList = t then (ws, 0) else ([], 5)
    | none => ([], 5) := by
  obtain ⟨body, last, h1, h2⟩ := piece_join t []
  rw [List.nil_append] at h2
  unfold sout
  rw [h1]
  have hb : (body ++ [last]).take ((body ++ [last]).length - 1) = body := by
    rw [List.length_append, List.length_singleton, Nat.add_sub_cancel, List.take_left']
    rfl
  have hl : (body ++ [last]).getD ((body ++ [last]).length - 1) [] = last := by
    rw [List.length_append, List.length_singleton, Nat.add_sub_cancel, List.getD_eq_getElem?_getD, List.getElem?_append_right (Nat.le_refl _), Nat.sub_self]
    rfl
  rw [hb, hl]
  cases hr : rall body with
  | none => rfl
  | some ws =>
    obtain ⟨h3, _, h4⟩ := rall_text body ws hr
    have h5 := h4 []
    rw [List.nil_append] at h5
    by_cases hw : ws.length ≤ 400
    · have hst : stext ws = some (mk (flat body)) := by unfold stext; rw [if_neg (by omega)]; exact h5
      simp only []
      rw [hst, Option.getD_some, mk_toList]
      by_cases hl2 : last = []
      · rw [if_pos ⟨hw, hl2⟩, if_pos (by rw [h2, hl2, List.append_nil])]
      · rw [if_neg (fun h6 => hl2 h6.2), if_neg]
        intro e
        apply hl2
        rw [h2] at e
        exact List.append_right_eq_self.1 e.symm
    · have hst : stext ws = none := by unfold stext; rw [if_pos (by omega)]
      simp only []
      rw [if_neg (fun h6 => hw h6.1), hst, Option.getD_none, Go.Lib.toList_data, if_neg]
      intro e
      have h6 := flat_ne body (by omega)
      apply h6
      rw [h2] at e
      exact (List.append_eq_nil_iff.1 e.symm).1
theorem ev_implReadSuite (t : List UInt8) : Ev (fun k => impl_ReadSuite.f k (mk t)) (if t.length > 20000 then ([], 2) else sout t) := by
  by_cases h : t.length > 20000
  · rw [if_pos h]
    exact Ev.congr (f := fun _ => some ([], 2)) (fun k => by unfold impl_ReadSuite.f; rw [if_pos (by rw [mk_size]; omega)]) (Ev.now _)
  · rw [if_neg h]
    have hlen := piece_length t []
    have hcnt : t.count 10 ≤ t.length := List.count_le_length
    have hsz := piece_sizes t []
    rw [sout_text]
    generalize hls : piece [] t = ls at hlen hsz ⊢
    obtain ⟨n, hn⟩ : ∃ n, n = ls.length - 1 := ⟨_, rfl⟩
    have hn1 : ls.length = n + 1 := by omega
    refine Ev.congr (f := fun k => (strings_Split.f k (mk t) (⟨#[10]⟩ : ByteArray)).bind fun t191 => (if 0 ≤ (wrap64 ((t191.length : Int) - 1)) then (if (wrap64 ((t191.length : Int) - 1)) ≤ (t191.length : Int) then ((some (t191.take ((wrap64 ((t191.length : Int) - 1)) : Int).toNat : List ByteArray)).bind fun y194 => (impl_ReadSuite.l0 k (mk t) (([] : List (List Int))) y194 (y194.length : Int) 0)) else (none)) else (none))) (fun k => by unfold impl_ReadSuite.f; rw [if_neg (by rw [mk_size]; omega)]) (Ev.bind (by have := ev_strSplit t (by omega); rw [hls] at this; exact this) ?_)
    have hw : wrap64 (((ls.map mk).length : Int) - 1) = (n : Int) := by rw [List.length_map, wrap_small (by omega) (by omega)]; omega
    rw [← hn]
    have htk : (ls.map mk).take n = (ls.take n).map mk := by rw [List.map_take]
    refine Ev.congr (f := fun k => impl_ReadSuite.l0 k (mk t) [] ((ls.take n).map mk) n 0) (fun k => ?_) ?_
    · rw [hw, if_pos (by omega), if_pos (by rw [List.length_map]; omega), Int.toNat_natCast, htk]
      simp only [Option.bind_some]
      rw [List.length_map, List.length_take, Nat.min_eq_left (by omega)]
    have hbl : (ls.take n).length = n := by rw [List.length_take]; omega
    have hsz2 : ∀ l ∈ ls.take n, l.length ≤ 20000 := fun l hl => by have := hsz l (List.mem_of_mem_take hl); simp at this; omega
    generalize ls.take n = body at hbl hsz2 ⊢
    have key : ∀ m i, i ≤ n → n - i = m → ∀ acc : List (List Int), acc.length = i → Ev (fun k => impl_ReadSuite.l0 k (mk t) acc (body.map mk) n i) (match rall (body.drop i) with
        | some ws => if ((stext (acc ++ ws)).getD (⟨#[]⟩ : ByteArray)).toList = t then (acc ++ ws, 0) else ([], 5)
        | none => ([], 5)) := by
      intro m
      induction m with
      | zero =>
        intro i hi hm acc ha
        have : i = n := by omega
        subst this
        rw [show body.drop i = [] from List.drop_of_length_le (by omega)]
        refine Ev.step (f := fun k => (impl_SuiteText.f k acc).bind fun t205 => if t205.toList = t then some (acc, 0) else some ([], 5)) (fun k => ?_) (Ev.bind (ev_implSuite acc (by omega)) ?_)
        · simp only [impl_ReadSuite.l0]
          rw [if_neg (by omega), mk_toList]
        · simp only [rall, List.append_nil]
          by_cases hl : ((stext acc).getD (⟨#[]⟩ : ByteArray)).toList = t
          · refine Ev.congr (f := fun _ => some (acc, 0)) (fun k => by rw [if_pos hl]) ?_
            rw [if_pos hl]
            exact Ev.now _
          · refine Ev.congr (f := fun _ => some ([], 5)) (fun k => by rw [if_neg hl]) ?_
            rw [if_neg hl]
            exact Ev.now _
      | succ m ih =>
        intro i hi hm acc ha
        have hlt : i < n := by omega
        have hi2 : i < body.length := by omega
        rw [rall_drop _ i hi2]
        refine Ev.step (f := fun k => (impl_ReadWord.f k (mk body[i])).bind fun bt198 => if bt198.2 = 0 then (if acc.length < 5864062014805 then impl_ReadSuite.l0 k (mk t) (acc ++ [bt198.1]) (body.map mk) n ((i + 1 : Nat) : Int) else none) else some ([], 5)) (fun k => ?_) (Ev.bind (ev_implReadWord body[i] (hsz2 _ (List.getElem_mem hi2))) ?_)
        · simp only [impl_ReadSuite.l0]
          rw [if_pos (by omega), if_pos (by omega), if_pos (by rw [List.length_map]; omega), getD_map_mk body i hi2, wrap_succ hlt (by omega)]
        · cases hw : rword body[i] with
          | none => exact Ev.congr (f := fun _ => some ([], 5)) (fun k => rfl) (Ev.now _)
          | some w =>
            simp only [Option.bind_some]
            have h2 := ih (i + 1) (by omega) (by omega) (acc ++ [w]) (by simp; omega)
            refine Ev.congr (f := fun k => impl_ReadSuite.l0 k (mk t) (acc ++ [w]) (body.map mk) n ((i + 1 : Nat) : Int)) (fun k => ?_) ?_
            · simp only [rout, if_true]
              rw [if_pos (by omega)]
            · cases hr : rall (body.drop (i + 1)) with
              | none => rw [hr] at h2; exact h2
              | some ws =>
                rw [hr] at h2
                simp only [Option.bind_some]
                simp only [List.append_assoc, List.singleton_append] at h2
                exact h2
    have h2 := key n 0 (by omega) (by omega) [] rfl
    simpa using h2
theorem sout_small (t : List UInt8) : (sout t).1.length ≤ 400 ∧ ∀ w ∈ (sout t).1, w.length ≤ 400 := by
  unfold sout
  cases hr : rall ((piece [] t).take ((piece [] t).length - 1)) with
  | none => exact ⟨by simp, fun w hw => absurd hw (by simp)⟩
  | some ws =>
    obtain ⟨_, h2, _⟩ := rall_text _ ws hr
    by_cases hc : ws.length ≤ 400 ∧ (piece [] t).getD ((piece [] t).length - 1) [] = []
    · simp only [if_pos hc]
      exact ⟨hc.1, h2⟩
    · simp only [if_neg hc]
      exact ⟨by simp, fun w hw => absurd hw (by simp)⟩
end Go.Proofs.YtpbonlmiicapfaaDoor.Pure
