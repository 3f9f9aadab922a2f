/- Pure: the laws' marks on lists of lists: what was marked is held. -/
import Derived.Test.YtpbonlmiicapfaaDoorPAllx0
import Derived.Test.YtpbonlmiicapfaaDoorPAllx13
import Derived.Test.YtpbonlmiicapfaaDoorPAllx14
import Derived.Test.YtpbonlmiicapfaaDoorRow
import Derived.Test.YtpbonlmiicapfaaDoorWWords
import Derived.Test.YtpbonlmiicapfaaDoorXBase
namespace Go.Proofs.YtpbonlmiicapfaaDoor.Pure
open Go.RowKit Go.Proofs.YtpbonlmiicapfaaDoor.PAll Go.Proofs.YtpbonlmiicapfaaDoorOwn Go.Proofs.YtpbonlmiicapfaaDoorW.PrintWords Go.Proofs.YtpbonlmiicapfaaDoorW.PrintLast Go.Proofs.YtpbonlmiicapfaaDoorW.PrintMore
set_option linter.unusedVariables false

/-- n numbers from m on. -/
def iota : Nat → Int → List Int
  | 0, _ => []
  | n + 1, m => m :: iota n (m + 1)
theorem iota_length : ∀ (n : Nat) (m : Int), (iota n m).length = n
  | 0, _ => rfl
  | n + 1, m => by rw [iota, List.length_cons, iota_length n]
theorem iota_get : ∀ (n : Nat) (m : Int) (i : Nat) (h : i < (iota n m).length), (iota n m)[i] = m + i
  | 0, _, i, h => absurd h (by simp [iota])
  | n + 1, m, 0, h => by simp [iota]
  | n + 1, m, i + 1, h => by
    simp only [iota, List.getElem_cons_succ]
    rw [iota_get n (m + 1) i]
    omega
theorem iota_snoc (n : Nat) (m : Int) : iota (n + 1) m = iota n m ++ [m + n] := by
  induction n generalizing m with
  | zero => simp [iota]
  | succ n ih =>
    rw [iota, ih (m + 1), iota]
    simp
    omega
theorem ev_markInt64S (l : List Int) (m : Int) (h0 : 0 ≤ m) (h1 : m + l.length ≤ 4611686018427387904) : Ev (fun k => laws_markInt64S.f k l m) (m + l.length, iota l.length m) := by
  have key := ev_down (n := l.length) (p := fun i => Ev (fun k => laws_markInt64S.l0 k (iota i m ++ l.drop i) (m + i) i) (m + l.length, iota l.length m)) ?_ ?_ 0 (by omega)
  · refine Ev.congr (fun k => ?_) key
    unfold laws_markInt64S.f
    simp [iota]
  · refine Ev.step (f := fun _ => some (m + l.length, iota l.length m)) (fun k => ?_) (Ev.now _)
    simp only [laws_markInt64S.l0]
    rw [if_neg (by rw [List.length_append, iota_length, List.drop_length]; simp), List.drop_length, List.append_nil]
  · intro i hi ih
    refine Ev.step (fun k => ?_) ih
    simp only [laws_markInt64S.l0]
    have hlen : (iota i m ++ l.drop i).length = l.length := by rw [List.length_append, iota_length, List.length_drop]; omega
    rw [if_pos (by rw [hlen]; omega), if_pos (by omega), wrap_succ hi (by omega), wrap_small (by omega) (by omega), Int.toNat_natCast, iota_snoc, List.drop_eq_getElem_cons hi]
    congr 1
    · rw [List.set_append_right _ _ (by rw [iota_length]; exact Nat.le_refl _), iota_length, Nat.sub_self, List.set_cons_zero, List.append_assoc, List.singleton_append]
    · omega
theorem ev_heldInt64S (n : Nat) (m : Int) (h0 : 0 ≤ m) (h1 : m + n ≤ 4611686018427387904) : Ev (fun k => laws_heldInt64S.f k (iota n m) m) (m + n) := by
  have key := ev_down (n := n) (p := fun i => Ev (fun k => laws_heldInt64S.l0 k (iota n m) (m + i) i) (m + n)) ?_ ?_ 0 (by omega)
  · refine Ev.congr (fun k => ?_) key
    unfold laws_heldInt64S.f
    simp
  · refine Ev.step (f := fun _ => some (m + n)) (fun k => ?_) (Ev.now _)
    simp only [laws_heldInt64S.l0]
    rw [if_neg (by rw [iota_length]; omega)]
  · intro i hi ih
    refine Ev.step (fun k => ?_) ih
    have hl : i < (iota n m).length := by rw [iota_length]; exact hi
    simp only [laws_heldInt64S.l0]
    rw [if_pos (by rw [iota_length]; omega), if_pos (by omega), rd_eq hl, iota_get n m i hl, if_pos rfl, wrap_succ hi (by omega), wrap_small (by omega) (by omega)]
    congr 1
    omega
/-- The marks of a list of lists. -/
def marks : List (List Int) → Int → List (List Int)
  | [], _ => []
  | x :: t, m => iota x.length m :: marks t (m + x.length)
def letters (l : List (List Int)) : Nat := (l.map List.length).sum
theorem letters_cons (x : List Int) (t : List (List Int)) : letters (x :: t) = x.length + letters t := by simp [letters]
theorem ev_markInt64SS : ∀ (l : List (List Int)) (m : Int), 0 ≤ m → m + letters l ≤ 4611686018427387904 → Ev (fun k => laws_markInt64SS.f k l m) (m + letters l, marks l m)
  | [], m, h0, h1 => by
    rw [show m + (letters [] : Nat) = m from by simp [letters]]
    exact Ev.now _
  | x :: t, m, h0, h1 => by
    rw [letters_cons] at h1 ⊢
    refine Ev.congr (f := fun k => (laws_markInt64S.f k x m).bind fun p => (laws_markInt64SS.f k t p.1).bind fun q => some (q.1, p.2 :: q.2)) (fun k => rfl) (Ev.bind (ev_markInt64S x m h0 (by omega)) (Ev.bind (ev_markInt64SS t (m + x.length) (by omega) (by omega)) ?_))
    rw [show m + ((x.length + letters t : Nat) : Int) = m + x.length + letters t from by omega]
    exact Ev.now _
theorem ev_heldInt64SS (l : List (List Int)) (m : Int) (hl : l.length ≤ 4611686018427387904) (h0 : 0 ≤ m) (h1 : m + letters l ≤ 4611686018427387904) : Ev (fun k => laws_heldInt64SS.f k (marks l m) m) (m + letters l) := by
  have key : ∀ (t : List (List Int)) (done : List (List Int)) (m : Int), done.length + t.length ≤ 4611686018427387904 → 0 ≤ m → m + letters t ≤ 4611686018427387904 → Ev (fun k => laws_heldInt64SS.l0 k (done ++ marks t m) m (done.length : Nat)) (m + letters t) := by
    intro t
    induction t with
    | nil =>
      intro done m hd h0 h1
      rw [show m + (letters [] : Nat) = m from by simp [letters]]
      refine Ev.step (f := fun _ => some m) (fun k => ?_) (Ev.now _)
      simp only [laws_heldInt64SS.l0, marks, List.append_nil]
      rw [if_neg (by omega)]
    | cons x t ih =>
      intro done m hd h0 h1
      rw [letters_cons] at h1 ⊢
      rw [List.length_cons] at hd
      have h2 := ih (done ++ [iota x.length m]) (m + x.length) (by simp; omega) (by omega) (by omega)
      rw [List.append_assoc, List.singleton_append] at h2
      refine Ev.step (f := fun k => (laws_heldInt64S.f k (iota x.length m) m).bind fun t214 => if t214 < 0 then some (-1) else laws_heldInt64SS.l0 k (done ++ marks (x :: t) m) t214 ((done.length + 1 : Nat) : Int)) (fun k => ?_) (Ev.bind (ev_heldInt64S x.length m h0 (by omega)) ?_)
      · have hr : rd_L2 (done ++ marks (x :: t) m) (done.length : Int) = iota x.length m := by simp [rd_L2, marks]
        have hlen : done.length < (done ++ marks (x :: t) m).length := by simp [marks]
        simp only [laws_heldInt64SS.l0]
        rw [if_pos (by omega), if_pos (by omega), hr, wrap_small (by omega) (by omega)]
        rfl
      · rw [show m + ((x.length + letters t : Nat) : Int) = m + x.length + letters t from by omega]
        refine Ev.congr (fun k => ?_) h2
        rw [if_neg (by omega)]
        simp only [marks]
        rw [List.length_append, List.length_singleton]
  have h2 := key l [] m (by simp; omega) h0 h1
  exact h2
theorem letters_le (l : List (List Int)) (b : Nat) (h : ∀ w ∈ l, w.length ≤ b) : letters l ≤ l.length * b := by
  induction l with
  | nil => simp [letters]
  | cons x t ih =>
    rw [letters_cons, List.length_cons, Nat.succ_mul]
    have h1 := h x (List.mem_cons_self ..)
    have h2 := ih (fun w hw => h w (List.mem_cons_of_mem _ hw))
    omega
end Go.Proofs.YtpbonlmiicapfaaDoor.Pure
