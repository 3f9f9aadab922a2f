-- written by mkprint.py, a program of this repo that runs the kit's printer with contracts of its own (see NOTES.md)
import Derived.Test.YtpbonlmiicapfaaDoorPAllx0
namespace Go.Proofs.YtpbonlmiicapfaaDoor.PAll
open Go.RowKit Go.Proofs.YtpbonlmiicapfaaDoorW.PrintWords Go.Proofs.YtpbonlmiicapfaaDoorW.PrintLast Go.Proofs.YtpbonlmiicapfaaDoorW.PrintMore
attribute [local go_sem] max2_int min2_int max_two min_two max_three min_three max_four min_four   -- for this text's walks alone
open Go.Proofs.YtpbonlmiicapfaaDoorOwn
set_option linter.unusedVariables false
set_option linter.unusedSimpArgs false

/-! ### slices_IndexFunc_int64_int64_67: function 67 -/
set_option maxHeartbeats 2000000 in
theorem slices_IndexFunc_int.calls (g : Nat) (lb : Array Value) (eg : ∀ args w, (callFunc g args).run Tryd.prog w = .ok (.enter g args) w) (p : Int → Option Bool) (A0 : Option Addr) (c0 : Nat) (l0 : List Int) (r : Int) (w : World) (hp : PredB Tryd.prog g lb (Kd.int .i64) p w) (hr0 : Kd.C (Kd.int .i64) w A0 l0.length l0) (h : idxO p 0 l0 = some r) :
    Calls Tryd.prog 67 #[.slice A0 l0.length c0, .func (.func g) #[] lb] w fun e w' => e = .returned (.int .i64 r) ∧ Below w.heap.size w w' := by
  have HP := Aside0.mk hp
  have HR := Aside0.mk hr0
  have HI := Aside0.mk h
  have hm := hr0.2.1
  clear hp hr0 h
  go_enter Tryd.func67, Tryd.ntmps67
  go_wp2
  go_loopg [5, 8] l0.length (fun gg _ s8 wr => ∃ kk : Nat, kk ≤ l0.length ∧ l0.length - kk ≤ gg ∧ s8 = .int .i64 kk ∧ Aside0 (idxO p kk (l0.drop kk) = some r) ∧ Aside0 (Below w.heap.size w wr))
  case atStart => exact ⟨0, Nat.zero_le _, by omega, rfl, ⟨by simpa using HI.out⟩, ⟨Below.refl _ _⟩⟩
  case round =>
    obtain ⟨kk, hkk, hg, rfl, HD, HB⟩ := hrel
    by_cases hlt : kk < l0.length
    · have hltz : (kk : Int) < (l0.length : Int) := by omega
      obtain ⟨ad, e, hcell⟩ := Kd.at_int (Kd.C_below HR.out HB.out) kk (by omega) hltz
      cases e
      have hi := HD.out
      rw [idxO_drop p l0 kk hlt] at hi
      obtain ⟨b, hb, hi⟩ := Option.bind_eq_some_iff.1 hi
      have hrd : rd l0 (kk : Int) = l0[kk] := rd_nat l0 kk hlt
      have hcall := HP.out.out wr (rd l0 (kk : Int)) (.int .i64 (rd l0 (kk : Int))) b HB.out rfl (by rw [hrd]; exact hb)
      have HI2 := Aside0.mk hi
      clear hi hb hrd HD HI
      simp only [Int.toNat_natCast] at hcell
      cases b with
      | true =>
        go_wp2_with (go_at_fn g; refine hcall.mono ?_; rintro e w' ⟨rfl, hb1⟩)
        go_ret
        have hi := HI2.out
        simp at hi
        exact ⟨by rw [hi]; rfl, below_then HB.out HB.out.size hb1⟩
      | false =>
        go_wp2_with (go_at_fn g; refine hcall.mono ?_; rintro e w' ⟨rfl, hb1⟩)
        go_roundg (l0.length - (kk + 1))
        case measure => omega
        case rel => exact ⟨kk + 1, by omega, by omega, by go_num, ⟨by have hi := HI2.out; simpa using hi⟩, ⟨below_then HB.out HB.out.size hb1⟩⟩
    · have hltz : ¬ (kk : Int) < (l0.length : Int) := by omega
      have hk : kk = l0.length := by omega
      have hi := HD.out
      rw [hk, List.drop_length] at hi
      simp [idxO] at hi
      have HI2 := Aside0.mk hi
      clear hi HD HI hk
      go_wp2
      go_ret
      exact ⟨by rw [HI2.out]; rfl, HB.out⟩
/-! ### slices_ContainsFunc_int64_int64_56: function 56 -/
theorem slices_ContainsFunc_int.calls (g : Nat) (lb : Array Value) (eg : ∀ args w, (callFunc g args).run Tryd.prog w = .ok (.enter g args) w) (p : Int → Option Bool) (A0 : Option Addr) (c0 : Nat) (l0 : List Int) (b : Bool) (w : World) (hp : PredB Tryd.prog g lb (Kd.int .i64) p w) (hr0 : Kd.C (Kd.int .i64) w A0 l0.length l0) (h : anyO p l0 = some b) :
    Calls Tryd.prog 56 #[.slice A0 l0.length c0, .func (.func g) #[] lb] w fun e w' => e = .returned (.bool b) ∧ Below w.heap.size w w' := by
  obtain ⟨r, hr, hd⟩ := anyO_idx p l0 0 b (by omega) h
  have hcall := slices_IndexFunc_int.calls g lb eg p A0 c0 l0 r w hp hr0 hr
  have HD := Aside0.mk hd
  clear hd h hr hp hr0
  go_enter Tryd.func56, Tryd.ntmps56
  go_wp2_with (go_at_call 67; refine hcall.mono ?_; rintro e w' ⟨rfl, hb1⟩)
  go_ret
  exact ⟨by rw [← HD.out]; rfl, hb1⟩
/-! ### impl_within: function 48 -/
def impl_within.f (a0 : Int) (a1 : Int) (a2 : Int) : Option (Bool) := if a0 ≥ a1 then (some (decide (a0 ≤ a2))) else (some false)
set_option maxHeartbeats 8000000 in
set_option maxRecDepth 100000 in
theorem impl_within.calls (a0 : Int) (a1 : Int) (a2 : Int) (r : Bool) (w : World) (h : impl_within.f a0 a1 a2 = some r) :
    Calls Tryd.prog 48 #[.int .i64 a0, .int .i64 a1, .int .i64 a2] w fun e w' => e = .returned (.bool r) ∧ Drawn0 w w' := by
  have H : (if a0 ≥ a1 then (some (decide (a0 ≤ a2))) else (some false)) = some r := h
  clear h
  by_cases c4 : a0 ≥ a1
  · rw [if_pos c4] at H
    have c4b0 : decide (a1 ≤ a0) = true := decide_eq_true c4
    clear c4
    obtain rfl := Option.some.inj H
    go_enter Tryd.func48, Tryd.ntmps48
    go_wp2
    go_ret
    exact ⟨by first | rfl | (simp; done) | (simp [*]; done), by repeat (first | exact Drawn0.refl _ | apply Drawn0.step)⟩
  · rw [if_neg c4] at H
    have c4b0 : decide (a1 ≤ a0) = false := decide_eq_false c4
    clear c4
    obtain rfl := Option.some.inj H
    go_enter Tryd.func48, Tryd.ntmps48
    go_wp2
    go_ret
    exact ⟨by first | rfl | (simp; done) | (simp [*]; done), by repeat (first | exact Drawn0.refl _ | apply Drawn0.step)⟩

/-! ### impl_areWithin_1: function 57 -/
theorem impl_areWithin_1.pred (a b : Nat) (lo hi : Int) (w : World) (ha : a < w.heap.size) (hb : b < w.heap.size) (hla : w.cell? ⟨a, 0, none⟩ = some (.int .i64 lo)) (hlb : w.cell? ⟨b, 0, none⟩ = some (.int .i64 hi)) :
    PredB Tryd.prog 57 #[.pointer (some ⟨a, 0, none⟩), .pointer (some ⟨b, 0, none⟩)] (Kd.int .i64) (fun x => some (!(decide (lo ≤ x) && decide (x ≤ hi)))) w := ⟨fun W x v r hW hK hp => by
  obtain rfl : v = .int .i64 x := by simpa [Kd.int, Kd.scalar] using hK
  have h1 : W.cell? ⟨a, 0, none⟩ = some (.int .i64 lo) := (hW.cell (p := ⟨a, 0, none⟩) ha).trans hla
  have h2 : W.cell? ⟨b, 0, none⟩ = some (.int .i64 hi) := (hW.cell (p := ⟨b, 0, none⟩) hb).trans hlb
  obtain rfl := Option.some.inj hp
  clear hla hlb hp hW
  show Calls Tryd.prog 57 #[.int .i64 x, .pointer (some ⟨a, 0, none⟩), .pointer (some ⟨b, 0, none⟩)] W _
  by_cases c1 : lo ≤ x <;> by_cases c2 : x ≤ hi
  all_goals
    go_enter Tryd.func57, Tryd.ntmps57
    go_wp2
    repeat (go_quiet (fail); try go_wp2)
    go_ret
    exact ⟨by simp [c1, c2], by repeat (first | exact Below.refl _ _ | apply pw_below_drewN)⟩⟩
/-! ### impl_areWithin: function 43 -/
def impl_areWithin.f (l0 : List Int) (a1 a2 : Int) : Option Bool := some (!(l0.any fun x => !(decide (a1 ≤ x) && decide (x ≤ a2))))
theorem impl_areWithin.calls (A0 : Option Addr) (c0 : Nat) (l0 : List Int) (a1 : Int) (a2 : Int) (r : Bool) (w : World) (hr0 : Kd.C (Kd.int .i64) w A0 l0.length l0) (hc0 : l0.length ≤ c0) (h : impl_areWithin.f l0 a1 a2 = some r) :
    Calls Tryd.prog 43 #[.slice A0 l0.length c0, .int .i64 a1, .int .i64 a2] w fun e w' => e = .returned (.bool r) ∧ Below w.heap.size w w' := by
  have eg : ∀ args w, (callFunc 57 args).run Tryd.prog w = .ok (.enter 57 args) w := enters_of Tryd.func57 (by kernel_rfl) rfl
  have hcall := slices_ContainsFunc_int.calls 57 #[.pointer (some ⟨w.heap.size, 0, none⟩), .pointer (some ⟨w.heap.size + 1, 0, none⟩)] eg _ A0 c0 l0 (l0.any fun x => !(decide (a1 ≤ x) && decide (x ≤ a2))) ((w.alloc (.cells #[.int .i64 a1] 2)).alloc (.cells #[.int .i64 a2] 2)) (impl_areWithin_1.pred w.heap.size (w.heap.size + 1) a1 a2 _ (by simp; omega) (by simp) (by simp) (by simp)) (Kd.C_alloc (Kd.C_alloc hr0 _) _) (anyO_total _ l0)
  obtain rfl := Option.some.inj h
  clear hr0 h
  generalize (l0.any fun x => !(decide (a1 ≤ x) && decide (x ≤ a2))) = b at hcall ⊢
  go_enter Tryd.func43, Tryd.ntmps43
  go_wp2_with (go_at_call 56; refine hcall.mono ?_; rintro e w' ⟨rfl, hb1⟩)
  go_ret
  exact ⟨rfl, below_then (below_alloc (below_alloc (Below.refl _ _) _) _) (by simp; omega) hb1⟩

end Go.Proofs.YtpbonlmiicapfaaDoor.PAll
