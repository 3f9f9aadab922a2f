-- written by mkprint.py, a program of this repo that runs the kit's printer with contracts of its own (see NOTES.md)
import Derived.Test.YtpbonlmiicapfaaDoorPAllx0
import Derived.Test.YtpbonlmiicapfaaDoorPAllx5
namespace Go.Proofs.YtpbonlmiicapfaaDoor.PAll
open Go.RowKit Go.Proofs.YtpbonlmiicapfaaDoorW.PrintWords Go.Proofs.YtpbonlmiicapfaaDoorW.PrintLast Go.Proofs.YtpbonlmiicapfaaDoorW.PrintMore
attribute [local go_sem] max2_int min2_int max_two min_two max_three min_three max_four min_four   -- for this text's walks alone
open Go.Proofs.YtpbonlmiicapfaaDoorOwn
set_option linter.unusedVariables false
set_option linter.unusedSimpArgs false

/-! ### strings_Builder_copyCheck: function 44 -/
theorem builderSize : (Tryd.prog.info? 55).map (·.size) = some 2 := by kernel_rfl
theorem builderLies : liesAt Tryd.prog Tryd.prog.depth 55 (2 / Tryd.prog.cellsOf 55) 0 55 1 = true := by kernel_rfl
set_option maxHeartbeats 1000000 in
set_option maxRecDepth 100000 in
theorem Builder_copyCheck_used (b : Nat) (w : World) (h0 : w.cell? ⟨b, 0, none⟩ = some (.pointer (some ⟨b, 0, none⟩))) :
    Calls Tryd.prog 44 #[.pointer (some ⟨b, 0, none⟩)] w fun e w' => e = .returned (.tuple #[]) ∧ w' = w := by
  obtain ⟨j, hj, _⟩ := Option.map_eq_some_iff.1 builderSize
  go_enter Tryd.func44, Tryd.ntmps44
  go_wp2
  rw [Lib.run_neq_ptr_same w _ Tryd.underlying53 hj]
  go_wp2
  go_end0
  exact ⟨rfl, rfl⟩
set_option maxHeartbeats 1000000 in
set_option maxRecDepth 100000 in
theorem Builder_copyCheck_fresh (b : Nat) (w : World) (h0 : w.cell? ⟨b, 0, none⟩ = some (.pointer none)) (hsh : w.shape? b = some (55, 2)) (hfz : w.frozen? ⟨b, 0, none⟩ = false) :
    Calls Tryd.prog 44 #[.pointer (some ⟨b, 0, none⟩)] w fun e w' => e = .returned (.tuple #[]) ∧ w' = w.setCell ⟨b, 0, none⟩ (.pointer (some ⟨b, 0, none⟩)) := by
  obtain ⟨j, hj, hjs⟩ := Option.map_eq_some_iff.1 builderSize
  go_enter Tryd.func44, Tryd.ntmps44
  go_wp2
  rw [Lib.run_to_unsafe w ⟨b, 0, none⟩ Tryd.underlying53 Tryd.underlying86 hj (by rw [hjs]; decide) hsh (Nat.zero_lt_succ 1)]
  simp only [Result.andThen]
  rw [Oper.upon_value]
  go_wp2
  rw [run_callFunc_extern Tryd.func58 (by kernel_rfl) (by kernel_rfl) (by kernel_rfl) (e := Extern.AbiNoEscape.same) (by kernel_rfl)]
  rw [Lib.run_noEscape]
  simp only [Result.andThen]
  rw [Oper.upon_value]
  go_wp2
  rw [Lib.run_from_unsafe w ⟨b, 0, none⟩ Tryd.underlying86 Tryd.underlying53 hj hsh builderLies]
  simp only [Result.andThen]
  rw [Oper.upon_value]
  go_wp2
  go_end0
  exact ⟨rfl, rfl⟩
theorem Builder_copyCheck (B b : Nat) (bs : List Value) (w : World) (h : Lib.IsBuilder 55 5 B b bs w) :
    Calls Tryd.prog 44 #[.pointer (some ⟨b, 0, none⟩)] w fun e w' => e = .returned (.tuple #[]) ∧ (Lib.BuilderAt 55 5 B b (.pointer (some ⟨b, 0, none⟩)) bs w' ∧ Below B w w') := by
  rcases h with h | h
  · refine (Builder_copyCheck_fresh b w h.cell0 h.shape h.frozen0).mono ?_
    rintro e w' ⟨rfl, rfl⟩
    exact ⟨rfl, h.used _, (Below.refl B w).setCell (p := ⟨b, 0, none⟩) h.1 _⟩
  · refine (Builder_copyCheck_used b w h.cell0).mono ?_
    rintro e w' ⟨rfl, rfl⟩
    exact ⟨rfl, h, Below.refl B _⟩
/-! ### strings_Builder_WriteString: function 31 -/
set_option maxHeartbeats 2000000 in
set_option maxRecDepth 100000 in
theorem Builder_WriteString (B b : Nat) (bs : List Value) (s : ByteArray) (w : World) (h : Lib.IsBuilder 55 5 B b bs w) (hlen : bs.length + s.size ≤ 140737488355328) (hBw : B ≤ w.heap.size) :
    Calls Tryd.prog 31 #[.pointer (some ⟨b, 0, none⟩), .string s] w fun e w' => e = .returned (.tuple #[.int .i64 s.size, .nilIface]) ∧ (Lib.BuilderAt 55 5 B b (.pointer (some ⟨b, 0, none⟩)) (bs ++ Lib.strCells s) w' ∧ Below B w w') := by
  obtain ⟨i0, hi, hz0, hz1, hz2⟩ := info_parts info5
  go_enter Tryd.func31, Tryd.ntmps31
  go_wp2_with (go_at_call 44; refine (Builder_copyCheck B b bs _ h).mono ?_)
  rintro e w1 ⟨rfl, h1, hb1⟩
  obtain ⟨hB, v, hbk, hown, hne⟩ := h1
  have c0 : w1.cell? ⟨b, 0, none⟩ = some (.pointer (some ⟨b, 0, none⟩)) := by rw [Lib.cell_of_heap hbk]; rfl
  have c1 : w1.cell? ⟨b, 1, none⟩ = some v := by rw [Lib.cell_of_heap hbk]; rfl
  go_wp2_with (at_builtin; refine Lib.wpList_append_own_string _ rfl _ _ 28 9 rfl B 5 i0 Tryd.underlying28 Tryd.underlying9 hi hz0 hz1 hz2 _ _ _ rfl hown s rfl ?c3 ?c4 ?c5 ?_)
  case c3 => unfold maxLen; omega
  case c4 => omega
  case c5 => have := hb1.size; omega
  intro v' w2 hown' hgrow _
  have hlt : b < w1.heap.size := by
    rcases Nat.lt_or_ge b w1.heap.size with h' | h'
    · exact h'
    · simp [Array.getElem?_eq_none h'] at hbk
  have hb2 : w2.heap[b]? = some (.cells #[.pointer (some ⟨b, 0, none⟩), v] 55 (0, 0)) := by
    rw [hgrow.block b hlt (fun e => hne e.symm)]
    exact hbk
  have d0 : w2.cell? ⟨b, 0, none⟩ = some (.pointer (some ⟨b, 0, none⟩)) := by rw [Lib.cell_of_heap hb2]; rfl
  have d1 : w2.cell? ⟨b, 1, none⟩ = some v := by rw [Lib.cell_of_heap hb2]; rfl
  have f1 : w2.frozen? ⟨b, 1, none⟩ = false := Lib.frozen_of_heap hb2 1
  obtain ⟨ao, n', cap, rfl⟩ : ∃ ao n' cap, v' = .slice ao n' cap := by
    rcases hown'.2 with ⟨hv, _⟩ | ⟨g, cap, cur, hv, _⟩
    · exact ⟨_, _, _, hv⟩
    · exact ⟨_, _, _, hv⟩
  go_wp2
  go_ret2
  refine ⟨rfl, ?_, ?_⟩
  · exact Lib.BuilderAt.put (T := 55) (e := 5) hB hb2 (bs' := bs ++ Lib.strCells s) (by simpa [Lib.strCells_length] using hown') (by decide)
  · exact (hb1.grown hgrow (by have := hb1.size; omega) (fun k hk => (hown.lt k hk).1)).setCell (p := ⟨b, 1, none⟩) hB _
/-! ### strings_Builder_String: function 32 -/
def Builder_lays169_ren : Go.Shelf.Ren := ⟨fun | 169 => 32 | n => n, fun | 70 => 53 | 9 => 9 | 0 => 0 | 72 => 55 | 37 => 28 | 127 => 75 | 3 => 3 | 5 => 5 | n => n, fun | n => n⟩
theorem Builder_lays169 : Go.Proofs.Lays.n169 Tryd.prog Builder_lays169_ren := {
  mixed := by kernel_rfl
  f169 := Tryd.func32.trans (congrArg some (by kernel_rfl))
  t0 := Tryd.underlying0
  a0 := Tryd.isAgg0
  z0 := Tryd.sizeOf0
  v0 := Tryd.zeroValue0
  t3 := Tryd.underlying3
  a3 := Tryd.isAgg3
  z3 := Tryd.sizeOf3
  v3 := Tryd.zeroValue3
  t9 := Tryd.underlying9
  a9 := Tryd.isAgg9
  z9 := Tryd.sizeOf9
  v9 := Tryd.zeroValue9
  t37 := Tryd.underlying28
  a37 := Tryd.isAgg28
  z37 := Tryd.sizeOf28
  v37 := Tryd.zeroValue28
  t70 := Tryd.underlying53
  a70 := Tryd.isAgg53
  z70 := Tryd.sizeOf53
  v70 := Tryd.zeroValue53
  t72 := Tryd.underlying55
  a72 := Tryd.isAgg55
  z72 := Tryd.sizeOf55
  v72 := Tryd.zeroValue55
  t127 := Tryd.underlying75
  a127 := Tryd.isAgg75
  z127 := Tryd.sizeOf75
  v127 := Tryd.zeroValue75 }
theorem Builder_Extra_169 : Go.Proofs.Builder.Extra Tryd.prog Builder_lays169_ren := {
  sizeBuilder := by kernel_rfl
  liesBuilder := by kernel_rfl
  t5 := Tryd.underlying5
  a5 := Tryd.isAgg5
  z5 := Tryd.sizeOf5
  v5 := Tryd.zeroValue5
  infoByte := by kernel_rfl
  cellsByte := by kernel_rfl
  sizeByte := by kernel_rfl
  neB5 := by decide }
theorem Builder_String_any (B b : Nat) (l : List UInt8) (w : World) (h : Lib.IsBuilder 55 5 B b (Lib.byteCells l) w) (hBw : B ≤ w.heap.size) :
    Calls Tryd.prog 32 #[.pointer (some ⟨b, 0, none⟩)] w fun e w' => e = .returned (.string ⟨l.toArray⟩) ∧ Below B w w' := Go.Proofs.Any.Builder_String_any Builder_lays169 Builder_Extra_169 B b l w h hBw

/-! ### impl_SuiteText: function 13 -/
def impl_SuiteText.l (k : Nat) : List (List Int) → ByteArray → Option (Option ByteArray)
  | [], b => some (some b)
  | w :: t, b => (impl_WordText.f k w).bind fun s => if s.toList = ([] : List UInt8) then some none else if b.size + (s.size + 1) ≤ 140737488355328 then impl_SuiteText.l k t (b ++ (s ++ (⟨#[10]⟩ : ByteArray))) else none
def impl_SuiteText.f (k : Nat) (l0 : List (List Int)) : Option ByteArray := (impl_SuiteText.l k l0 (⟨#[]⟩ : ByteArray)).bind fun r => match r with
  | none => some (⟨#[]⟩ : ByteArray)
  | some b => if (l0.length : Int) > 400 then some (⟨#[]⟩ : ByteArray) else some b
theorem impl_SuiteText.mono_l (k : Nat) : ∀ (l : List (List Int)) (b : ByteArray), LeO (impl_SuiteText.l k l b) (impl_SuiteText.l (k + 1) l b)
  | [], b => LeO.refl _
  | w :: t, b => LeO.bind (impl_WordText.mono w k) (fun s => LeO.ite (LeO.refl _) (LeO.ite (impl_SuiteText.mono_l k t _) (LeO.refl _)))
theorem impl_SuiteText.mono : ∀ a0 k, LeO (impl_SuiteText.f k a0) (impl_SuiteText.f (k + 1) a0) := fun a0 k => LeO.bind (impl_SuiteText.mono_l k a0 _) (fun r => LeO.refl _)
theorem impl_SuiteText.l_drop (k : Nat) (l : List (List Int)) (i : Nat) (h : i < l.length) (b : ByteArray) : impl_SuiteText.l k (l.drop i) b = (impl_WordText.f k l[i]).bind fun s => if s.toList = ([] : List UInt8) then some none else if b.size + (s.size + 1) ≤ 140737488355328 then impl_SuiteText.l k (l.drop (i + 1)) (b ++ (s ++ (⟨#[10]⟩ : ByteArray))) else none := by
  rw [List.drop_eq_getElem_cons h]; rfl
set_option maxHeartbeats 4000000 in
set_option maxRecDepth 100000 in
theorem impl_SuiteText.calls (k : Nat) (A0 : Option Addr) (c0 : Nat) (l0 : List (List Int)) (r : ByteArray) (w : World) (hr0 : Kd.C (Kd.slice 2 (Kd.int .i64)) w A0 l0.length l0) (hc0 : l0.length ≤ c0) (h : impl_SuiteText.f k l0 = some r) :
    Calls Tryd.prog 13 #[.slice A0 l0.length c0] w fun e w' => e = .returned (.string r) ∧ Below w.heap.size w w' := by
  have HR := Aside0.mk hr0
  have hm := hr0.2.1
  unfold impl_SuiteText.f at h
  obtain ⟨ro, hro, h⟩ := Option.bind_eq_some_iff.1 h
  have HO := Aside0.mk hro
  have HF := Aside0.mk h
  clear h hro hr0
  go_enter Tryd.func13, Tryd.ntmps13
  go_wp2
  go_loopg [10] l0.length (fun gg s10 wr => ∃ (kk : Nat) (b : ByteArray), kk ≤ l0.length ∧ l0.length - kk ≤ gg ∧ s10 = .int .i64 kk ∧ Aside0 (impl_SuiteText.l k (l0.drop kk) b = some ro) ∧ Aside0 (Lib.IsBuilder 55 5 w.heap.size w.heap.size (Lib.strCells b) wr) ∧ Aside0 (Below w.heap.size w wr))
  case atStart => exact ⟨0, ⟨#[]⟩, Nat.zero_le _, by omega, rfl, ⟨by simpa using HO.out⟩, ⟨Lib.fresh_isBuilder _ _ _⟩, ⟨below_alloc (Below.refl _ _) _⟩⟩
  case round =>
    obtain ⟨kk, b, hkk, hg, rfl, HD, HBu, HB⟩ := hrel
    by_cases hlt : kk < l0.length
    · have hltz : (kk : Int) < (l0.length : Int) := by omega
      obtain ⟨ad, A1, c1, e, hcell, hl1, hi1⟩ := at_L2 (Kd.C_below HR.out HB.out) kk (by omega) hltz
      cases e
      have hd := HD.out
      rw [impl_SuiteText.l_drop k l0 kk hlt] at hd
      obtain ⟨s, hs, hd⟩ := Option.bind_eq_some_iff.1 hd
      have hrd : rd_L2 l0 (kk : Int) = l0[kk] := by simp [rd_L2, hlt]
      have hcall := impl_WordText.calls k A1 c1 (rd_L2 l0 (kk : Int)) s wr hi1 hl1 (by rw [hrd]; exact hs)
      simp only [Int.toNat_natCast] at hcell
      clear hs hrd hi1 HD HO
      by_cases c1 : s.toList = ([] : List UInt8)
      · rw [if_pos c1] at hd
        have hd' := Aside0.mk (Option.some.inj hd)
        have c1b : (s.toList == ([] : List UInt8)) = true := beq_iff_eq.mpr c1
        have c1c : s.toList.isEmpty = true := by simp [c1]
        clear hd c1
        go_wp2_with (go_at_call 30; refine hcall.mono ?_; rintro e w' ⟨rfl, hb1⟩)
        go_ret
        have hf := HF.out
        rw [← hd'.out] at hf
        simp at hf
        exact ⟨by rw [← hf]; rfl, below_then HB.out HB.out.size hb1⟩
      · rw [if_neg c1] at hd
        have c1b : (s.toList == ([] : List UInt8)) = false := beq_eq_false_iff_ne.mpr c1
        have c1c : s.toList.isEmpty = false := by simpa using c1
        by_cases c2 : b.size + (s.size + 1) ≤ 140737488355328
        · rw [if_pos c2] at hd
          have HD2 := Aside0.mk hd
          clear hd c1
          have hsz : s.size + 1 ≤ 9223372036854775807 := by omega
          have hsz2 : decide (s.size + 1 ≤ 9223372036854775807) = true := decide_eq_true hsz
          go_wp2_with (go_at_call 30; refine hcall.mono ?_; rintro e w1 ⟨rfl, hb1⟩)
          have hbu := Aside0.mk (builder_below HBu.out hb1)
          have hbl := Aside0.mk (below_then HB.out HB.out.size hb1)
          clear HBu HB hb1
          refine (Builder_WriteString w.heap.size w.heap.size _ _ _ hbu.out ?hlen ?hBw).mono ?_
          case hlen => rw [Lib.strCells_length, size_nl]; omega
          case hBw => exact hbl.out.size
          rintro e w2 ⟨rfl, hbu2, hb2⟩
          have HB3 := Aside0.mk (hbl.out.trans hb2)
          have HU3 := Aside0.mk hbu2
          clear hbu hbl hbu2 hb2
          go_wp2
          go_roundg (l0.length - (kk + 1))
          case measure => omega
          case rel => exact ⟨kk + 1, b ++ (s ++ (⟨#[10]⟩ : ByteArray)), by omega, by omega, by go_num, HD2, ⟨.inr (by rw [strCells_append]; exact HU3.out)⟩, HB3⟩
        · rw [if_neg c2] at hd
          exact absurd hd (by simp)
    · have hltz : ¬ (kk : Int) < (l0.length : Int) := by omega
      have hk : kk = l0.length := by omega
      have hd := HD.out
      rw [hk, List.drop_length] at hd
      have hd' := Aside0.mk (Option.some.inj hd)
      clear hd HD HO hk
      by_cases c1 : (l0.length : Int) > 400
      · have hf := HF.out
        rw [← hd'.out] at hf
        simp only [if_pos c1] at hf
        have hr := Aside0.mk (Option.some.inj hf)
        have c1b : decide ((400 : Int) < (l0.length : Int)) = true := decide_eq_true c1
        clear hf hd' c1
        go_wp2
        go_ret
        exact ⟨by rw [← hr.out]; rfl, HB.out⟩
      · have hf := HF.out
        rw [← hd'.out] at hf
        simp only [if_neg c1] at hf
        have hr := Aside0.mk (Option.some.inj hf)
        have c1b : decide ((400 : Int) < (l0.length : Int)) = false := decide_eq_false c1
        have hstr := Builder_String_any w.heap.size w.heap.size b.toList wr (by rw [← strCells_eq]; exact HBu.out) HB.out.size
        rw [str_eta] at hstr
        clear hf hd' c1 HBu
        go_wp2_with (go_at_call 32; refine hstr.mono ?_; rintro e w1 ⟨rfl, hb1⟩)
        go_ret
        exact ⟨by rw [← hr.out]; rfl, HB.out.trans hb1⟩

/-! ### strings_explode: function 53 -/
/-- Nothing is said of explode: it is not reached where the separator is one byte. -/
def strings_explode.f (a0 : ByteArray) (a1 : Int) : Option (List ByteArray) := none
theorem strings_explode.calls (a0 : ByteArray) (a1 : Int) (r : List ByteArray) (w : World) (h : strings_explode.f a0 a1 = some r) :
    Calls Tryd.prog 53 #[.string a0, .int .i64 a1] w fun e w' => ∃ v0_ : Value, e = .returned (v0_) ∧ Kd.R Kd.string 9 w' w.heap.size (fun _ => True) v0_ r ∧ Below w.heap.size w w' := by
  unfold strings_explode.f at h
  exact absurd h (by simp)
end Go.Proofs.YtpbonlmiicapfaaDoor.PAll
