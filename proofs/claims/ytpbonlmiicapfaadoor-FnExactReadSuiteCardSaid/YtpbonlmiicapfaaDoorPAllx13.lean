-- written by mkprint.py, a program of this repo that runs the kit's printer with contracts of its own (see NOTES.md)
import Derived.Test.YtpbonlmiicapfaaDoorPAllx0
namespace Go.Proofs.YtpbonlmiicapfaaDoor.PAll
open Go.RowKit Go.Proofs.YtpbonlmiicapfaaDoorW.PrintWords Go.Proofs.YtpbonlmiicapfaaDoorW.PrintLast Go.Proofs.YtpbonlmiicapfaaDoorW.PrintMore
attribute [local go_sem] max2_int min2_int max_two min_two max_three min_three max_four min_four   -- for this text's walks alone
open Go.Proofs.YtpbonlmiicapfaaDoorOwn
set_option linter.unusedVariables false
set_option linter.unusedSimpArgs false

/-! ### laws_markInt64S: function 23 -/
def laws_markInt64S.l0 : Nat → List Int → Int → Int → Option (Int × List Int)
  | 0, _, _, _ => none
  | k + 1, x0, x1, x5 => if x5 < (x0.length : Int) then (if 0 ≤ x5 then (laws_markInt64S.l0 k (x0.set (x5 : Int).toNat x1) (wrap64 (x1 + 1)) (wrap64 (x5 + 1))) else (none)) else (some (x1, x0))
def laws_markInt64S.f (k : Nat) (l0 : List Int) (a1 : Int) : Option (Int × List Int) := laws_markInt64S.l0 k l0 a1 0
theorem laws_markInt64S.mono_l : ∀ k, (∀ y0 y1 y2, LeO (laws_markInt64S.l0 k y0 y1 y2) (laws_markInt64S.l0 (k + 1) y0 y1 y2))
  | 0 => fun _ _ _ r h => by simp [laws_markInt64S.l0] at h
  | k + 1 => by
    have ih0 := laws_markInt64S.mono_l k
    · intro y0 y1 y2
      unfold laws_markInt64S.l0
      repeat' first
      | (with_reducible exact ih0 _ _ _)
      | (with_reducible exact LeO.refl _)
      | (with_reducible exact LeO.none _)
      | (with_reducible refine LeO.ite ?_ ?_)
      | (with_reducible refine LeO.bind ?_ (fun _ => ?_))
      | exact ih0 _ _ _
      | exact LeO.none _
      | refine LeO.ite ?_ ?_
      | refine LeO.bind ?_ (fun _ => ?_)
theorem laws_markInt64S.mono : ∀ a0 a1 k, LeO (laws_markInt64S.f k a0 a1) (laws_markInt64S.f (k + 1) a0 a1) := by
  intro a0 a1 k
  have ih0 := laws_markInt64S.mono_l k
  unfold laws_markInt64S.f
  repeat' first
      | (with_reducible exact ih0 _ _ _)
      | (with_reducible exact LeO.refl _)
      | (with_reducible exact LeO.none _)
      | (with_reducible refine LeO.ite ?_ ?_)
      | (with_reducible refine LeO.bind ?_ (fun _ => ?_))
      | exact ih0 _ _ _
      | exact LeO.none _
      | refine LeO.ite ?_ ?_
      | refine LeO.bind ?_ (fun _ => ?_)
set_option maxHeartbeats 8000000 in
set_option maxRecDepth 100000 in
theorem laws_markInt64S.calls (k : Nat) (P0_ : Nat → Prop) (u9000_ : Value) (l0 : List Int) (a1 : Int) (r1 : Int) (r2 : List Int) (w0 w : World) (hB : Below w0.heap.size w0 w) (ho0 : Kd.R (Kd.int .i64) 2 w w0.heap.size P0_ u9000_ l0) (h : laws_markInt64S.f k l0 a1 = some (r1, r2)) :
    Calls Tryd.prog 23 #[u9000_, .int .i64 a1] w fun e w' => e = .returned (.int .i64 r1) ∧ Kd.R (Kd.int .i64) 2 w' w0.heap.size (fun k_ => (P0_ k_ ∨ w.heap.size ≤ k_)) u9000_ r2 ∧ Below w0.heap.size w0 w' ∧ Kept w w' (fun k_ => P0_ k_) := by
  have HO0 := Aside0.mk (show Kd.R (Kd.int .i64) 2 w w0.heap.size (fun k_ => (P0_ k_ ∨ w.heap.size ≤ k_)) u9000_ l0 from Kd.R_mono ho0 (fun k_ hk => (.inl hk)))
  have HK := Aside0.mk (Kept.refl w (fun k_ => P0_ k_))
  have HW0 := Aside0.mk hB.size
  have HB := Aside0.mk hB
  clear hB
  have H : (laws_markInt64S.l0 k l0 a1 0) = some (r1, r2) := h
  clear h
  have H' := Aside0.mk H
  clear H
  go_enter Tryd.func23, Tryd.ntmps23
  go_wp2
  go_loopg [1, 5] k (fun kq v1 v5 w' => ∃ (x0_1 : List Int) (x1_1 : Int) (x5_1 : Int), v1 = .int .i64 x1_1 ∧ v5 = .int .i64 x5_1 ∧ Aside0 (laws_markInt64S.l0 kq x0_1 x1_1 x5_1 = some (r1, r2)) ∧ Aside0 (kq ≤ k) ∧ Aside0 (Kd.R (Kd.int .i64) 2 w' w0.heap.size (fun k_ => (P0_ k_ ∨ w.heap.size ≤ k_)) u9000_ x0_1) ∧ Aside0 (Kept w w' (fun k_ => P0_ k_)) ∧ Aside0 (Below w0.heap.size w0 w'))
  case atStart => exact ⟨(l0), (a1), (0), (by first | rfl | (simp; done) | (simp [*]; done)), (by first | rfl | (simp; done) | (simp [*]; done)), H', ⟨Nat.le_refl _⟩, ⟨by (with_reducible repeat (first | apply Kd.R_alloc | apply Kd.R_drewN | apply Kd.R_drew)); exact HO0.out⟩, ⟨by repeat (first | (with_reducible first | exact HK.out | apply Kept.alloc | apply Kept.drewN | apply Kept.drew) | exact HK.out)⟩, ⟨by repeat (first | (with_reducible first | exact HB.out | apply below_alloc | apply pw_below_drewN | apply below_drew1) | exact HB.out)⟩⟩
  case round =>
    clear H'
    try clear c2
    try clear p2
    obtain ⟨x0_1, x1_1, x5_1, rfl, rfl, HA, HK1, HO_0, HK, HB⟩ := hrel
    cases gk with
    | zero => exact absurd HA.out (by simp [laws_markInt64S.l0])
    | succ k1 =>
      have H := HA.out
      clear HA
      simp only [laws_markInt64S.l0] at H
      by_cases c3 : x5_1 < (x0_1.length : Int)
      · rw [if_pos c3] at H
        have c3b0 : decide (x5_1 < (x0_1.length : Int)) = true := decide_eq_true c3
        clear c3
        by_cases c4 : 0 ≤ x5_1
        · rw [if_pos c4] at H
          have c4b0 : decide (0 ≤ x5_1) = true := decide_eq_true c4
          clear c4
          obtain ⟨y211, hy211⟩ : ∃ y_ : List Int, y_ = (x0_1.set (x5_1 : Int).toNat x1_1) := ⟨_, rfl⟩
          replace H : (laws_markInt64S.l0 k1 y211 (wrap64 (x1_1 + 1)) (wrap64 (x5_1 + 1))) = some (r1, r2) := by first | (rw [hy211]; with_reducible exact H) | (have H2_ := (Option.bind_some _ _).symm.trans H; rw [hy211]; with_reducible exact H2_) | (have H2_ := (Option.bind_some _ _).symm.trans H; with_reducible exact H2_) | with_reducible exact H | (rw [hy211]; exact H) | exact H
          have Ny211 := Aside0.mk hy211
          clear hy211
          have H' := Aside0.mk H
          clear H
          obtain ⟨Ao6, co6, eo6⟩ := Kd.R_slice HO_0.out
          subst eo6
          have p5 : 0 ≤ (x5_1 : Int) := of_decide_eq_true (by first | (with_reducible assumption) | assumption)
          have q5 : (x5_1 : Int) < ((x0_1.length : Int) : Int) := of_decide_eq_true (by first | (with_reducible assumption) | assumption)
          obtain ⟨go5, co5, eo5, gb5, gl5, cl5, HG5⟩ := Kd.R_form HO_0.out (by omega)
          (first | cases eo5 | (injection eo5 with ea_ en_ ec_; (first | subst ea_ | (injection ea_ with ea_; subst ea_)); subst ec_; clear en_))
          have GB5 := Aside0.mk gb5
          have GG5 := Aside0.mk HG5
          clear gb5 gl5 HG5
          have HMgo5 := Aside0.mk (show (P0_ go5 ∨ w.heap.size ≤ go5) from (HO_0.out.1 _ rfl))
          obtain ⟨hx5_0, hf5_0⟩ := Kd.R_celln 0 HO_0.out (x5_1 : Int) p5 q5
          replace p5 := eq_true p5
          replace q5 := eq_true q5
          have HP7 := Kd.R_putg HO_0.out (x5_1 : Int) x1_1
          go_wp2_with (first | ((with_reducible refine gate_store (t := 2) (p := 15) rfl ?_); refine store_event (t := 2) (p := 15) (v := ?vo_w8) (w1 := (wr.setCell ⟨go5, (x5_1 : Int).toNat, none⟩ (.int .i64 x1_1))) ?hg ?ho ?hn ?hr ?_; (case ho => rfl); (case hg => rfl); (case hn => rfl); (case hr => first | (go_simp; done) | (go_simp; rfl)); intro w8 hw; have hg : wr.grownBy w8 (some go5) := (by rw [hw]; exact HP7.2); have hp_ : Kd.R (Kd.int .i64) 2 w8 w0.heap.size (fun k_ => (P0_ k_ ∨ w.heap.size ≤ k_)) (.slice (some ⟨go5, 0, none⟩) x0_1.length co6) y211 := (by rw [hw, Ny211.out]; exact HP7.1); clear HP7; have n0_ := Aside0.mk (hp_); have n1_ := Aside0.mk ((by rw [hw]; exact below_set (HB.out) GB5.out : Below w0.heap.size w0 w8)); have n2_ := Aside0.mk (Kept.of_grown (S := (fun k_ => P0_ k_)) hg (by repeat (first | (with_reducible first | exact HK.out | apply Kept.alloc | apply Kept.drewN | apply Kept.drew) | exact HK.out)) (fun k_ e_ => (HO_0.out.1 k_ e_))); clear HO_0; clear HB; clear HK; have HO_0 := n0_; have HB := n1_; have HK := n2_; clear n0_ n1_ n2_; clear hg hw hp_))
          go_roundg k1
          case measure => have := HK1.out; omega
          case rel => exact ⟨(y211), (wrap64 (x1_1 + 1)), (wrap64 (x5_1 + 1)), (by first | rfl | (simp; done) | (simp [*]; done)), (by first | rfl | (simp; done) | (simp [*]; done)), H', ⟨by have := HK1.out; omega⟩, ⟨by (with_reducible repeat (first | apply Kd.R_alloc | apply Kd.R_drewN | apply Kd.R_drew)); exact HO_0.out⟩, ⟨by repeat (first | (with_reducible first | exact HK.out | apply Kept.alloc | apply Kept.drewN | apply Kept.drew) | exact HK.out)⟩, ⟨by repeat (first | (with_reducible first | exact HB.out | apply below_alloc | apply pw_below_drewN | apply below_drew1) | exact HB.out)⟩⟩
        · rw [if_neg c4] at H
          exact absurd H (by simp)
      · rw [if_neg c3] at H
        have c3b0 : decide (x5_1 < (x0_1.length : Int)) = false := decide_eq_false c3
        clear c3
        simp only [Option.some.injEq, Prod.mk.injEq] at H
        obtain ⟨rfl, rfl⟩ := H
        obtain ⟨Ao9, co9, eo9⟩ := Kd.R_slice HO_0.out
        subst eo9
        go_wp2
        go_ret
        exact ⟨by first | rfl | (simp [errW_none, errW_some] <;> rfl) | (simp [*, errW_none, errW_some] <;> rfl), by (with_reducible repeat (first | apply Kd.R_alloc | apply Kd.R_drewN | apply Kd.R_drew)); exact HO_0.out, by repeat (first | (with_reducible first | exact HB.out | apply below_alloc | apply pw_below_drewN | apply below_drew1) | exact HB.out), by repeat (first | (with_reducible first | exact HK.out | apply Kept.alloc | apply Kept.drewN | apply Kept.drew) | exact HK.out)⟩

/-! ### laws_markInt64SS: function 8 -/
def laws_markInt64SS.f (k : Nat) : List (List Int) → Int → Option (Int × List (List Int))
  | [], m => some (m, [])
  | x :: t, m => (laws_markInt64S.f k x m).bind fun p => (laws_markInt64SS.f k t p.1).bind fun q => some (q.1, p.2 :: q.2)
theorem laws_markInt64SS.mono' (k : Nat) : ∀ (l : List (List Int)) (m : Int), LeO (laws_markInt64SS.f k l m) (laws_markInt64SS.f (k + 1) l m)
  | [], _ => LeO.refl _
  | x :: t, m => LeO.bind (laws_markInt64S.mono x m k) (fun p => LeO.bind (laws_markInt64SS.mono' k t p.1) (fun _ => LeO.refl _))
theorem laws_markInt64SS.mono : ∀ a0 a1 k, LeO (laws_markInt64SS.f k a0 a1) (laws_markInt64SS.f (k + 1) a0 a1) := fun a0 a1 k => laws_markInt64SS.mono' k a0 a1
theorem laws_markInt64SS.length (k : Nat) : ∀ (l : List (List Int)) (m r : Int) (l2 : List (List Int)), laws_markInt64SS.f k l m = some (r, l2) → l2.length = l.length
  | [], m, r, l2, h => by
    simp only [laws_markInt64SS.f, Option.some.injEq, Prod.mk.injEq] at h
    rw [← h.2]
  | x :: t, m, r, l2, h => by
    simp only [laws_markInt64SS.f] at h
    obtain ⟨p, _, h⟩ := Option.bind_eq_some_iff.1 h
    obtain ⟨q, hq, h⟩ := Option.bind_eq_some_iff.1 h
    simp only [Option.some.injEq, Prod.mk.injEq] at h
    rw [← h.2, List.length_cons, List.length_cons, laws_markInt64SS.length k t p.1 q.1 q.2 hq]
theorem mark_set_mid {α : Type} (done : List α) (x x' : α) (t : List α) : (done ++ x :: t).set done.length x' = (done ++ [x']) ++ t := by
  rw [List.set_append_right _ _ (Nat.le_refl _), Nat.sub_self, List.set_cons_zero, List.append_assoc, List.singleton_append]
set_option maxHeartbeats 4000000 in
set_option maxRecDepth 100000 in
/-- The rows (of the call's own since w0) are marked; nothing older is written. -/
theorem laws_markInt64SS.calls (k : Nat) (ok : Nat → Prop) (u : Value) (l0 : List (List Int)) (a1 r1 : Int) (r2 : List (List Int)) (w0 w : World) (hB : Below w0.heap.size w0 w) (ho0 : Kd.S (Kd.slice 2 (Kd.int .i64)) 37 w w0.heap.size ok u l0) (h : laws_markInt64SS.f k l0 a1 = some (r1, r2)) :
    Calls Tryd.prog 8 #[u, .int .i64 a1] w fun e w' => e = .returned (.int .i64 r1) ∧ Kd.S (Kd.slice 2 (Kd.int .i64)) 37 w' w0.heap.size ok u r2 ∧ Below w0.heap.size w0 w' := by
  obtain ⟨A, c, rfl⟩ := Kd.S_slice ho0
  have hm := (Kd.S_reads' ho0).2.2.2.1
  have HS0 := Aside0.mk ho0
  have HB0 := Aside0.mk hB
  have HF0 := Aside0.mk h
  clear ho0 hB h
  go_enter Tryd.func8, Tryd.ntmps8
  go_wp2
  go_loopg [1, 5] l0.length (fun gg s1 s5 wr => ∃ (j : Nat) (m : Int) (done rest : List (List Int)), Aside0 (j ≤ l0.length) ∧ Aside0 (l0.length - j ≤ gg) ∧ s1 = .int .i64 m ∧ s5 = .int .i64 j ∧ Aside0 (done.length = j) ∧ Aside0 (laws_markInt64SS.f k (l0.drop j) m = some (r1, rest)) ∧ Aside0 (r2 = done ++ rest) ∧ Aside0 (Kd.S (Kd.slice 2 (Kd.int .i64)) 37 wr w0.heap.size ok (.slice A l0.length c) (done ++ l0.drop j)) ∧ Aside0 (Below w0.heap.size w0 wr))
  case atStart => exact ⟨0, a1, [], r2, ⟨Nat.zero_le _⟩, ⟨by omega⟩, rfl, rfl, ⟨rfl⟩, ⟨by simpa using HF0.out⟩, ⟨rfl⟩, ⟨by simpa using HS0.out⟩, HB0⟩
  case round =>
    obtain ⟨j, m, done, rest, hj, hg, rfl, rfl, hd, HF, HR, HS, HB⟩ := hrel
    by_cases hlt : j < l0.length
    · have hltz : (j : Int) < (l0.length : Int) := by omega
      have hlen : (done ++ l0.drop j).length = l0.length := by rw [List.length_append, hd.out, List.length_drop]; omega
      obtain ⟨g, cap, ev, _, _, _⟩ := Kd.S_form HS.out (by omega)
      injection ev with eA eN eC
      subst eA
      clear eN eC hlen
      obtain ⟨oki, cc, hcl, ⟨v, rfl, hRv⟩, hcc, _, hoki, hH⟩ := Kd.S_elem HS.out ([] : List Int) (j : Int) (by omega) hltz
      have hcell : wr.cell? ⟨g, j, none⟩ = some v := by
        have := hcc 0 v rfl
        simpa [Kd.slice] using this
      have hf := HF.out
      rw [List.drop_eq_getElem_cons hlt] at hf
      simp only [laws_markInt64SS.f] at hf
      obtain ⟨p, hp, hf⟩ := Option.bind_eq_some_iff.1 hf
      obtain ⟨q, hq, hf⟩ := Option.bind_eq_some_iff.1 hf
      obtain ⟨p1, p2⟩ := p
      obtain ⟨q1, q2⟩ := q
      simp only [Option.some.injEq, Prod.mk.injEq] at hf
      obtain ⟨rfl, hf2⟩ := hf
      have hx : (done ++ l0.drop j).getD (j : Int).toNat ([] : List Int) = l0[j] := by
        rw [Int.toNat_natCast, List.getD_eq_getElem?_getD, List.getElem?_append_right (by rw [hd.out]; exact Nat.le_refl _), hd.out, Nat.sub_self, List.getElem?_drop, Nat.add_zero, List.getElem?_eq_getElem hlt, Option.getD_some]
      rw [hx] at hRv
      have hown : ∀ k_, some k_ = v.ownBlock → oki k_ := fun k_ hk => hRv.1 k_ hk.symm
      have hcall := laws_markInt64S.calls k (fun k_ => some k_ = v.ownBlock) v l0[j] m p1 p2 w0 wr HB.out (Kd.R_tight rfl hRv) hp
      have Hq := Aside0.mk hq
      have Hf2 := Aside0.mk hf2
      have HH := Aside0.mk hH
      have HO := Aside0.mk hown
      clear hq hf2 hH hown hp hRv hx HF HS hcc hoki hcl HS0 HF0
      go_wp2_with (go_at_call 23; refine hcall.mono ?_; rintro e w1 ⟨rfl, hR1, hb1, hk1⟩)
      go_roundg (l0.length - (j + 1))
      case measure => have := hg.out; omega
      case rel =>
        refine ⟨j + 1, p1, done ++ [p2], q2, ⟨by omega⟩, ⟨by have := hg.out; omega⟩, rfl, by go_num, ⟨by rw [List.length_append, hd.out]; rfl⟩, Hq, ⟨by rw [HR.out, ← Hf2.out, List.append_assoc]; rfl⟩, ⟨?_⟩, ⟨hb1⟩⟩
        have hH1 := Kd.H_kept HH.out hk1 (fun k_ _ hn hs => hn (HO.out k_ hs))
        have hS1 := Kd.H_back (x' := p2) hH1 ⟨v, rfl, Kd.R_tight rfl hR1⟩ (fun k_ hk => HO.out k_ hk)
        rw [Int.toNat_natCast, List.drop_eq_getElem_cons hlt] at hS1
        have he := mark_set_mid done l0[j] p2 (l0.drop (j + 1))
        rw [hd.out] at he
        rw [he] at hS1
        exact hS1
    · have hltz : ¬ (j : Int) < (l0.length : Int) := by omega
      have hjl : j = l0.length := by have := hj.out; omega
      have hf := HF.out
      rw [hjl, List.drop_length] at hf
      simp only [laws_markInt64SS.f, Option.some.injEq, Prod.mk.injEq] at hf
      obtain ⟨rfl, rfl⟩ := hf
      have hs := HS.out
      rw [hjl, List.drop_length] at hs
      have hr := HR.out
      have HS1 := Aside0.mk hs
      have HR1 := Aside0.mk hr
      clear hs hr HF HS HS0 HF0 HR
      go_wp2
      go_ret
      exact ⟨rfl, by rw [HR1.out]; exact HS1.out, HB.out⟩

end Go.Proofs.YtpbonlmiicapfaaDoor.PAll
