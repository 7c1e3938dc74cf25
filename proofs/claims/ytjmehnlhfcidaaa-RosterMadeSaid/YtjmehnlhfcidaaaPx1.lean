-- Written by a program of this work (wip/tools/mkprint.py) over the kit's print; Lean checks it.
import Derived.Test.YtjmehnlhfcidaaaPx0
namespace Go.Proofs.Ytjmehnlhfcidaaa.P
open Go.RowKit Go.Proofs.YtjmehnlhfcidaaaW.PrintWords Go.Proofs.YtjmehnlhfcidaaaW.PrintLast Go.Proofs.YtjmehnlhfcidaaaW.PrintMore Go.Proofs.Ytjmehnlhfcidaaa.HW
attribute [local go_sem] max2_int min2_int max_two min_two max_three min_three max_four min_four   -- for this text's walks alone

/-! ### deaddropref1_Ints: function 6 -/
def deaddropref1_Ints.l0 : Nat → List Int → List Int → Int → Option (Bool)
  | 0, _, _, _ => none
  | k + 1, x0, x1, x5 => if x5 < (x0.length : Int) then (if 0 ≤ x5 then (if x5 < (x1.length : Int) then (if (rd x0 x5) = (rd x1 x5) then (deaddropref1_Ints.l0 k x0 x1 (wrap64 (x5 + 1))) else (some false)) else (none)) else (none)) else (some true)
def deaddropref1_Ints.f (k : Nat) (l0 : List Int) (l1 : List Int) : Option (Bool) := if (l0.length : Int) = (l1.length : Int) then (deaddropref1_Ints.l0 k l0 l1 0) else (some false)
theorem deaddropref1_Ints.mono_l : ∀ k, (∀ y0 y1 y2, LeO (deaddropref1_Ints.l0 k y0 y1 y2) (deaddropref1_Ints.l0 (k + 1) y0 y1 y2))
  | 0 => fun _ _ _ r h => by simp [deaddropref1_Ints.l0] at h
  | k + 1 => by
    have ih0 := deaddropref1_Ints.mono_l k
    · intro y0 y1 y2
      unfold deaddropref1_Ints.l0
      repeat' first
      | (with_reducible exact ih0 _ _ _)
      | (with_reducible exact LeO.refl _)
      | (with_reducible exact LeO.none _)
      | (with_reducible refine LeO.ite ?_ ?_)
      | (with_reducible refine LeO.bind ?_ (fun _ => ?_))
      | exact ih0 _ _ _
      | exact LeO.none _
      | refine LeO.ite ?_ ?_
      | refine LeO.bind ?_ (fun _ => ?_)
theorem deaddropref1_Ints.mono : ∀ a0 a1 k, LeO (deaddropref1_Ints.f k a0 a1) (deaddropref1_Ints.f (k + 1) a0 a1) := by
  intro a0 a1 k
  have ih0 := deaddropref1_Ints.mono_l k
  unfold deaddropref1_Ints.f
  repeat' first
      | (with_reducible exact ih0 _ _ _)
      | (with_reducible exact LeO.refl _)
      | (with_reducible exact LeO.none _)
      | (with_reducible refine LeO.ite ?_ ?_)
      | (with_reducible refine LeO.bind ?_ (fun _ => ?_))
      | exact ih0 _ _ _
      | exact LeO.none _
      | refine LeO.ite ?_ ?_
      | refine LeO.bind ?_ (fun _ => ?_)
set_option maxHeartbeats 8000000 in
set_option maxRecDepth 100000 in
theorem deaddropref1_Ints.calls (k : Nat) (A0 : Option Addr) (c0 : Nat) (l0 : List Int) (A1 : Option Addr) (c1 : Nat) (l1 : List Int) (r : Bool) (w : World) (hr0 : Kd.C (Kd.int .i64) w A0 l0.length l0) (hc0 : l0.length ≤ c0) (hr1 : Kd.C (Kd.int .i64) w A1 l1.length l1) (hc1 : l1.length ≤ c1) (h : deaddropref1_Ints.f k l0 l1 = some r) :
    Calls Try.prog 6 #[.slice A0 l0.length c0, .slice A1 l1.length c1] w fun e w' => e = .returned (.bool r) ∧ Drawn0 w w' := by
  have HR0 := Aside0.mk hr0
  have HC0 := Aside0.mk hc0
  clear hr0 hc0
  have HR1 := Aside0.mk hr1
  have HC1 := Aside0.mk hc1
  clear hr1 hc1
  have H : (if (l0.length : Int) = (l1.length : Int) then (deaddropref1_Ints.l0 k l0 l1 0) else (some false)) = some r := h
  clear h
  by_cases c3 : (l0.length : Int) = (l1.length : Int)
  · rw [if_pos c3] at H
    have c3b0 : ((l0.length : Int) == (l1.length : Int)) = true := beq_iff_eq.mpr c3
    have c3b1 : ((l0.length : Int) != (l1.length : Int)) = false := bne_eq_false_iff_eq.mpr c3
    have c3b2 : (l0.length == l1.length) = true := by first | simpa using c3 | (simp at c3 ⊢; omega)
    clear c3
    have H' := Aside0.mk H
    clear H
    go_enter Try.func6, Try.ntmps6
    go_wp2
    repeat (go_quiet (fail); try go_wp2)
    go_loopg [5] k (fun kq v5 w' => ∃ (x5_1 : Int), v5 = .int .i64 x5_1 ∧ Aside0 (deaddropref1_Ints.l0 kq l0 l1 x5_1 = some r) ∧ Aside0 (kq ≤ k) ∧ Drawn0 w w')
    case atStart => exact ⟨(0), (by first | rfl | (simp; done) | (simp [*]; done) | (simp; exact isEmpty_bne_ _)), H', ⟨Nat.le_refl _⟩, by repeat (first | exact Drawn0.refl _ | apply Drawn0.step)⟩
    case round =>
      clear H'
      try clear c1
      try clear p2
      try clear c3
      try clear c3b0
      try clear c3b1
      try clear c3b2
      obtain ⟨x5_1, rfl, HA, HK1, ⟨m1, rfl⟩⟩ := hrel
      cases gk with
      | zero => exact absurd HA.out (by simp [deaddropref1_Ints.l0])
      | succ k1 =>
        have H := HA.out
        clear HA
        simp only [deaddropref1_Ints.l0] at H
        by_cases c4 : x5_1 < (l0.length : Int)
        · rw [if_pos c4] at H
          have c4b0 : decide (x5_1 < (l0.length : Int)) = true := decide_eq_true c4
          clear c4
          by_cases c5 : 0 ≤ x5_1
          · rw [if_pos c5] at H
            have c5b0 : decide (0 ≤ x5_1) = true := decide_eq_true c5
            clear c5
            by_cases c6 : x5_1 < (l1.length : Int)
            · rw [if_pos c6] at H
              have c6b0 : decide (x5_1 < (l1.length : Int)) = true := decide_eq_true c6
              clear c6
              by_cases c7 : (rd l0 x5_1) = (rd l1 x5_1)
              · rw [if_pos c7] at H
                have c7b0 : ((rd l0 x5_1) == (rd l1 x5_1)) = true := beq_iff_eq.mpr c7
                have c7b1 : ((rd l0 x5_1) != (rd l1 x5_1)) = false := bne_eq_false_iff_eq.mpr c7
                clear c7
                as_aux_lemma =>
                  have H' := Aside0.mk H
                  clear H
                  have p101 : 0 ≤ (x5_1 : Int) := of_decide_eq_true (by first | (with_reducible assumption) | assumption)
                  have q101 : x5_1 < (l0.length : Int) := of_decide_eq_true (by first | (with_reducible assumption) | assumption)
                  obtain ⟨ad101, e101, hx101_0⟩ := Kd.at_int HR0.out x5_1 p101 q101
                  cases e101
                  replace p101 := eq_true p101
                  replace q101 := eq_true q101
                  have p102 : 0 ≤ (x5_1 : Int) := of_decide_eq_true (by first | (with_reducible assumption) | assumption)
                  have q102 : x5_1 < (l1.length : Int) := of_decide_eq_true (by first | (with_reducible assumption) | assumption)
                  obtain ⟨ad102, e102, hx102_0⟩ := Kd.at_int HR1.out x5_1 p102 q102
                  cases e102
                  replace p102 := eq_true p102
                  replace q102 := eq_true q102
                  go_wp2
                  repeat (go_quiet (fail); try go_wp2)
                  go_roundg k1
                  case measure => have := HK1.out; omega
                  case rel => exact ⟨(wrap64 (x5_1 + 1)), (by first | rfl | (simp; done) | (simp [*]; done) | (simp; exact isEmpty_bne_ _)), H', ⟨by have := HK1.out; omega⟩, by repeat (first | exact Drawn0.refl _ | apply Drawn0.step)⟩
              · rw [if_neg c7] at H
                have c7b0 : ((rd l0 x5_1) == (rd l1 x5_1)) = false := beq_eq_false_iff_ne.mpr c7
                have c7b1 : ((rd l0 x5_1) != (rd l1 x5_1)) = true := bne_iff_ne.mpr c7
                as_aux_lemma =>
                  obtain rfl := Option.some.inj H
                  have p101 : 0 ≤ (x5_1 : Int) := of_decide_eq_true (by first | (with_reducible assumption) | assumption)
                  have q101 : x5_1 < (l0.length : Int) := of_decide_eq_true (by first | (with_reducible assumption) | assumption)
                  obtain ⟨ad101, e101, hx101_0⟩ := Kd.at_int HR0.out x5_1 p101 q101
                  cases e101
                  replace p101 := eq_true p101
                  replace q101 := eq_true q101
                  have p102 : 0 ≤ (x5_1 : Int) := of_decide_eq_true (by first | (with_reducible assumption) | assumption)
                  have q102 : x5_1 < (l1.length : Int) := of_decide_eq_true (by first | (with_reducible assumption) | assumption)
                  obtain ⟨ad102, e102, hx102_0⟩ := Kd.at_int HR1.out x5_1 p102 q102
                  cases e102
                  replace p102 := eq_true p102
                  replace q102 := eq_true q102
                  go_wp2
                  repeat (go_quiet (fail); try go_wp2)
                  go_ret
                  exact ⟨by first | rfl | (simp; done) | (simp [*]; done), by repeat (first | exact Drawn0.refl _ | apply Drawn0.step)⟩
            · rw [if_neg c6] at H
              exact absurd H (by simp)
          · rw [if_neg c5] at H
            exact absurd H (by simp)
        · rw [if_neg c4] at H
          have c4b0 : decide (x5_1 < (l0.length : Int)) = false := decide_eq_false c4
          clear c4
          as_aux_lemma =>
            obtain rfl := Option.some.inj H
            go_wp2
            repeat (go_quiet (fail); try go_wp2)
            go_ret
            exact ⟨by first | rfl | (simp; done) | (simp [*]; done), by repeat (first | exact Drawn0.refl _ | apply Drawn0.step)⟩
  · rw [if_neg c3] at H
    have c3b0 : ((l0.length : Int) == (l1.length : Int)) = false := beq_eq_false_iff_ne.mpr c3
    have c3b1 : ((l0.length : Int) != (l1.length : Int)) = true := bne_iff_ne.mpr c3
    have c3b2 : (l0.length == l1.length) = false := by first | simpa using c3 | (simp at c3 ⊢; omega)
    as_aux_lemma =>
      obtain rfl := Option.some.inj H
      go_enter Try.func6, Try.ntmps6
      go_wp2
      repeat (go_quiet (fail); try go_wp2)
      go_ret
      exact ⟨by first | rfl | (simp; done) | (simp [*]; done), by repeat (first | exact Drawn0.refl _ | apply Drawn0.step)⟩

/-! ### roster_Members: function 7 -/
/-- What one record does to who is in. -/
def roster_Members.Step (e : Int) (s : List Bool) (r : S32) : List Bool :=
  if e < r.f0 then s else if r.f3 < 0 then s else if 8 ≤ r.f3 then s else if r.f2 = 1 then s.set r.f3.toNat true else if r.f2 = 2 then s.set r.f3.toNat false else s
def roster_Members.Zero : List Bool := List.replicate 8 false
def roster_Members.At (l : List S32) (e : Int) (k : Nat) : List Bool := (l.take k).foldl (roster_Members.Step e) roster_Members.Zero
theorem roster_Members.Step_len (e : Int) (s : List Bool) (r : S32) : (roster_Members.Step e s r).length = s.length := by
  unfold roster_Members.Step; repeat' split
  all_goals simp
theorem roster_Members.At_len (l : List S32) (e : Int) (k : Nat) : (roster_Members.At l e k).length = 8 := by
  unfold roster_Members.At
  generalize hx : l.take k = x
  have : ∀ (x : List S32) (s : List Bool), (x.foldl (roster_Members.Step e) s).length = s.length := by
    intro x
    induction x with
    | nil => intro s; rfl
    | cons a t ih => intro s; rw [List.foldl_cons, ih, roster_Members.Step_len]
  rw [this]; rfl
theorem roster_Members.At_succ (l : List S32) (e : Int) (k : Nat) (h : k < l.length) : roster_Members.At l e (k + 1) = roster_Members.Step e (roster_Members.At l e k) (rd_T32 l k) := by
  unfold roster_Members.At rd_T32
  rw [List.take_succ_eq_append_getElem h, List.foldl_append]
  simp [List.getD_eq_getElem?_getD, List.getElem?_eq_getElem h]
theorem bools_set (xs : List Bool) (i : Nat) (b : Bool) : (bools (xs.set i b)).toArray = (bools xs).toArray.setIfInBounds i (.bool b) := by
  simp [bools, List.map_set]
def roster_Members.Out (s : List Bool) (k : Nat) : List Int := ((List.range k).filter fun (i : Nat) => s.getD i false).map (fun (i : Nat) => (i : Int))
theorem roster_Members.Out_yes (s : List Bool) (k : Nat) (h : s.getD k false = true) : roster_Members.Out s (k + 1) = roster_Members.Out s k ++ [(k : Int)] := by
  have h' : s[k]?.getD false = true := by simpa using h
  simp [roster_Members.Out, List.range_succ, h']
theorem roster_Members.Out_no (s : List Bool) (k : Nat) (h : s.getD k false = false) : roster_Members.Out s (k + 1) = roster_Members.Out s k := by
  have h' : s[k]?.getD false = false := by simpa using h
  simp [roster_Members.Out, List.range_succ, h']
theorem roster_Members.Out_len (s : List Bool) (k : Nat) : (roster_Members.Out s k).length ≤ k := by
  have := List.length_filter_le (fun i => s.getD i false) (List.range k)
  simpa [roster_Members.Out] using this
theorem info36 : (Try.prog.info? 36).map (·.size) = some 8 := by kernel_rfl
theorem info4s : (Try.prog.info? 4).map (·.size) = some 1 := by kernel_rfl
theorem index_arr36 (s : List Bool) (hs : s.length = 8) (j : Nat) (hj : j < 8) (W : World) : (Instr.index 36 (.agg (bools s).toArray) (.int .i64 (j : Int))).run Try.prog W = .ok (.bool (s.getD j false)) W := by
  obtain ⟨i4, h4, h4s⟩ := Option.map_eq_some_iff.1 info4s
  have hc : (bools s)[j]? = some (.bool (s[j]?.getD false)) := by
    simp [bools, hs, hj]
  simp [Instr.index, asIntOf, run_underlying Try.underlying36, part, isAgg, run_underlying Try.underlying4, sizeOf, typeInfo, h4, h4s, hj, hc]
def roster_Members.f (l0 : List (S32)) (a1 : Int) : Option (List Int) := some (roster_Members.Out (roster_Members.At l0 a1 l0.length) 8)
set_option maxHeartbeats 1000000 in
set_option maxRecDepth 100000 in
theorem roster_Members.calls (A0 : Option Addr) (c0 : Nat) (l0 : List (S32)) (a1 : Int) (r : List Int) (w : World) (hr0 : Kd.C k32 w A0 l0.length l0) (hc0 : l0.length ≤ c0) (h : roster_Members.f l0 a1 = some r) :
    Calls Try.prog 7 #[.slice A0 l0.length c0, .int .i64 a1] w fun e w' => ∃ v0_ : Value, e = .returned (v0_) ∧ Kd.R (Kd.int .i64) 3 w' w.heap.size (fun _ => True) v0_ r ∧ Below w.heap.size w w' := by
  obtain rfl := Option.some.inj h
  clear h
  have HR0 := Aside0.mk hr0
  have HC0 := Aside0.mk hc0
  have hmx : l0.length ≤ 9223372036854775807 := by have := hr0.2.1; omega
  clear hr0 hc0
  have hu32 := Try.underlying32
  go_enter Try.func7, Try.ntmps7
  go_wp2
  go_loopw [14] (fun i wr => ∃ k : Nat, i = .int .i64 k ∧ Aside0 (k ≤ l0.length) ∧ Aside0 (wr.heap[w.heap.size]? = some (.cells (bools (roster_Members.At l0 a1 k)).toArray 36 (0, 0))) ∧ Aside0 (Below w.heap.size w wr)) (fun i _ => l0.length - (intOf i).toNat)
  case atStart => exact ⟨0, rfl, ⟨Nat.zero_le _⟩, ⟨heap_alloc_new _ _⟩, ⟨(Below.refl _ _).alloc (Nat.le_refl _) _⟩⟩
  case round =>
    obtain ⟨k, rfl, HK, HS, HB⟩ := hrel
    by_cases hlt : k < l0.length
    · have HSu := Aside0.mk (roster_Members.At_succ l0 a1 k hlt)
      obtain ⟨ad, A4, c4, hA, hx0, hx1, hx2, hx3, hx4, hx5, hl4, hi4⟩ := at_T32 (Kd.C_below HR0.out HB.out) k (by omega) (by omega)
      cases hA
      clear hl4 hi4
      rw [Int.toNat_natCast] at hx0 hx1 hx2 hx3 hx4 hx5
      generalize rd_T32 l0 ↑k = rr at *
      have hb : ∃ b, (bools (roster_Members.At l0 a1 k)).toArray[rr.f3.toNat]? = some (.bool b) ∨ ¬ (rr.f3.toNat < 8) := by
        by_cases h8 : rr.f3.toNat < 8
        · refine ⟨(roster_Members.At l0 a1 k)[rr.f3.toNat]'(by rw [roster_Members.At_len]; exact h8), .inl ?_⟩
          simp [bools, roster_Members.At_len, h8]
        · exact ⟨true, .inr h8⟩
      have hlt8 : w.heap.size < wr.heap.size := blk_lt HS.out
      have HS1 : ∀ o, (wr.alloc o).heap[w.heap.size]? = some (.cells (bools (roster_Members.At l0 a1 k)).toArray 36 (0, 0)) := fun o => (heap_alloc_old _ _ hlt8).trans HS.out
      have HS1 := Aside0.mk HS1
      have HB1 := Aside0.mk (fun o => HB.out.alloc (Nat.le_of_lt hlt8) o)
      by_cases c1 : a1 < rr.f0
      · have c1b := decide_eq_true c1
        have HE : Aside0 (roster_Members.At l0 a1 (k + 1) = roster_Members.At l0 a1 k) := ⟨by rw [HSu.out]; unfold roster_Members.Step; rw [if_pos c1]⟩
        clear c1
        go_wp2
        go_roundw
        case rel => exact ⟨k + 1, by go_num, ⟨by omega⟩, ⟨by rw [HE.out]; exact HS1.out _⟩, ⟨HB1.out _⟩⟩
        case measure => simp [intOf]; omega
      have c1b := decide_eq_false c1
      by_cases c2 : rr.f3 < 0
      · have c2b := decide_eq_true c2
        have HE : Aside0 (roster_Members.At l0 a1 (k + 1) = roster_Members.At l0 a1 k) := ⟨by rw [HSu.out]; unfold roster_Members.Step; rw [if_neg c1, if_pos c2]⟩
        clear c1 c2
        go_wp2
        go_roundw
        case rel => exact ⟨k + 1, by go_num, ⟨by omega⟩, ⟨by rw [HE.out]; exact HS1.out _⟩, ⟨HB1.out _⟩⟩
        case measure => simp [intOf]; omega
      have c2b := decide_eq_false c2
      by_cases c3 : 8 ≤ rr.f3
      · have c3b := decide_eq_true c3
        have HE : Aside0 (roster_Members.At l0 a1 (k + 1) = roster_Members.At l0 a1 k) := ⟨by rw [HSu.out]; unfold roster_Members.Step; rw [if_neg c1, if_neg c2, if_pos c3]⟩
        clear c1 c2 c3
        go_wp2
        go_roundw
        case rel => exact ⟨k + 1, by go_num, ⟨by omega⟩, ⟨by rw [HE.out]; exact HS1.out _⟩, ⟨HB1.out _⟩⟩
        case measure => simp [intOf]; omega
      have c3b := decide_eq_false c3
      obtain ⟨b, hb⟩ := hb
      replace hb := hb.resolve_right (by omega)
      have hcell : ∀ o, (wr.alloc o).cell? ⟨w.heap.size, rr.f3.toNat, none⟩ = some (.bool b) := fun o => (blk_cell (HS1.out o) _).trans hb
      have hfz : ∀ o, (wr.alloc o).frozen? ⟨w.heap.size, rr.f3.toNat, none⟩ = false := fun o => blk_frozen (HS1.out o) _
      have h0 : 0 ≤ rr.f3 := by omega
      have h8 : rr.f3 < 8 := by omega
      by_cases c4 : rr.f2 = 1
      · have c4b : (rr.f2 == 1) = true := beq_iff_eq.mpr c4
        have HE : Aside0 (roster_Members.At l0 a1 (k + 1) = (roster_Members.At l0 a1 k).set rr.f3.toNat true) := ⟨by rw [HSu.out]; unfold roster_Members.Step; rw [if_neg c1, if_neg c2, if_neg c3, if_pos c4]⟩
        clear c1 c2 c3 c4
        go_wp2
        go_roundw
        case rel => exact ⟨k + 1, by go_num, ⟨by omega⟩, ⟨by rw [HE.out]; rw [bools_set]; exact (heap_alloc_old _ _ (blk_lt (blk_set HS.out _ _))).trans (blk_set HS.out _ _)⟩, ⟨(HB.out.setCell (Nat.le_refl _) _).alloc (Nat.le_of_lt (by simpa using hlt8)) _⟩⟩
        case measure => simp [intOf]; omega
      have c4b : (rr.f2 == 1) = false := beq_eq_false_iff_ne.mpr c4
      by_cases c5 : rr.f2 = 2
      · have c5b : (rr.f2 == 2) = true := beq_iff_eq.mpr c5
        have HE : Aside0 (roster_Members.At l0 a1 (k + 1) = (roster_Members.At l0 a1 k).set rr.f3.toNat false) := ⟨by rw [HSu.out]; unfold roster_Members.Step; rw [if_neg c1, if_neg c2, if_neg c3, if_neg c4, if_pos c5]⟩
        clear c1 c2 c3 c4 c5
        go_wp2
        go_roundw
        case rel => exact ⟨k + 1, by go_num, ⟨by omega⟩, ⟨by rw [HE.out]; rw [bools_set]; exact (heap_alloc_old _ _ (blk_lt (blk_set HS.out _ _))).trans (blk_set HS.out _ _)⟩, ⟨(HB.out.setCell (Nat.le_refl _) _).alloc (Nat.le_of_lt (by simpa using hlt8)) _⟩⟩
        case measure => simp [intOf]; omega
      have c5b : (rr.f2 == 2) = false := beq_eq_false_iff_ne.mpr c5
      have HE : Aside0 (roster_Members.At l0 a1 (k + 1) = roster_Members.At l0 a1 k) := ⟨by rw [HSu.out]; unfold roster_Members.Step; rw [if_neg c1, if_neg c2, if_neg c3, if_neg c4, if_neg c5]⟩
      clear c1 c2 c3 c4 c5
      go_wp2
      go_roundw
      case rel => exact ⟨k + 1, by go_num, ⟨by omega⟩, ⟨by rw [HE.out]; exact HS1.out _⟩, ⟨HB1.out _⟩⟩
      case measure => simp [intOf]; omega
    · obtain rfl : k = l0.length := by have := HK.out; omega
      have hg := HS.out
      have h36 : (Try.prog.info? 36).map (·.size) = some (bools (roster_Members.At l0 a1 l0.length)).toArray.size := by
        rw [show (bools (roster_Members.At l0 a1 l0.length)).toArray.size = 8 by simp [bools, roster_Members.At_len]]; exact info36
      have hidx : ∀ (j : Nat), j < 8 → ∀ W, (Instr.index 36 (.agg (bools (roster_Members.At l0 a1 l0.length)).toArray) (.int .i64 (j : Int))).run Try.prog W = .ok (.bool ((roster_Members.At l0 a1 l0.length).getD j false)) W :=
        fun j hj W => index_arr36 _ (roster_Members.At_len _ _ _) j hj W
      have HX := Aside0.mk hidx
      clear hidx
      go_wp2_with (refine wpList_load_row rfl 36 _ rfl w.heap.size rfl 36 _ _ _ hg Try.underlying36 rfl h36 ?_)
      clear h36 hg HS
      generalize hse : roster_Members.At l0 a1 l0.length = s at *
      have HSE := Aside0.mk hse
      clear hse
      go_loopw [9, 44] (fun v i wr => ∃ k : Nat, i = .int .i64 k ∧ Aside0 (k ≤ 8) ∧ Aside0 (Kd.R (Kd.int .i64) 3 wr w.heap.size (fun _ => True) v (roster_Members.Out s k)) ∧ Aside0 (Below w.heap.size w wr)) (fun _ i _ => 8 - (intOf i).toNat)
      case atStart => exact ⟨0, rfl, ⟨by omega⟩, ⟨(show Kd.R (Kd.int .i64) 3 wr w.heap.size (fun _ => True) (.slice none 0 0) [] from Kd.R_nil _ _ _ _ _)⟩, HB⟩
      case round =>
        clear HB
        obtain ⟨j, rfl, HJ, HO, HB⟩ := hrel
        by_cases hj : j < 8
        · have hix := HX.out j hj
          by_cases hs : s.getD j false = true
          · rw [hs] at hix
            have HE : Aside0 (roster_Members.Out s (j + 1) = roster_Members.Out s j ++ [(j : Int)]) := ⟨roster_Members.Out_yes s j hs⟩
            have HL : Aside0 ((roster_Members.Out s j).length ≤ j) := ⟨roster_Members.Out_len s j⟩
            clear hs
            go_wp2_with (at_builtin; refine Kd.R_append (Kd.int .i64) (w0 := w) w.heap.size rfl (.tmp 49) (.tmp 51) 24 3 (.int .i64 0) 8 rfl Try.underlying24 info3 rfl (by decide) (by omega) _ (roster_Members.Out s j) j [.int .i64 j] (fun _ => True) (fun _ => False) rfl rfl rfl (fun _ hk => hk.elim) (fun _ _ => trivial) HO.out HB.out (below_size HB.out) (by have := HL.out; omega) ?_; intro v1 w1 ho hb _ _; have HO1 := Aside0.mk ho; have HB1 := Aside0.mk hb; clear ho hb)
            go_roundw
            case rel => exact ⟨j + 1, by go_num, ⟨by omega⟩, ⟨by rw [HE.out]; exact HO1.out⟩, ⟨HB1.out⟩⟩
            case measure => simp [intOf]; omega
          · replace hs := Bool.eq_false_iff.mpr hs
            rw [hs] at hix
            have HE : Aside0 (roster_Members.Out s (j + 1) = roster_Members.Out s j) := ⟨roster_Members.Out_no s j hs⟩
            clear hs
            go_wp2
            go_roundw
            case rel => exact ⟨j + 1, by go_num, ⟨by omega⟩, ⟨by rw [HE.out]; exact HO.out⟩, ⟨HB.out⟩⟩
            case measure => simp [intOf]; omega
        · obtain rfl : j = 8 := by have := HJ.out; omega
          go_wp2
          go_ret
          exact ⟨_, rfl, by rw [HSE.out]; exact HO.out, HB.out⟩

/-! ### deaddropref14_In: function 10 -/
mutual
def deaddropref14_In.l0 : Nat → List (S32) → Int → Int → Bool → Int → Option (Bool)
 | 0, _, _, _, _, _ => none
 | k + 1, x0, x1, x2, x7, x8 => if x8 < (x0.length : Int) then (if 0 ≤ x8 then (if ((rd_T32 x0 x8).f0) ≤ x1 then (if ((rd_T32 x0 x8).f3) = x2 then (if ((rd_T32 x0 x8).f2) = 1 then (deaddropref14_In.j1 k x0 x1 x2 x7 x8 true) else (deaddropref14_In.j1 k x0 x1 x2 x7 x8 (((rd_T32 x0 x8).f2) == 2))) else (deaddropref14_In.j1 k x0 x1 x2 x7 x8 false)) else (deaddropref14_In.j1 k x0 x1 x2 x7 x8 false)) else (none)) else (if x7 = true then (if x2 ≥ 0 then (some (decide (x2 < 8))) else (some false)) else (some false))
def deaddropref14_In.j1 : Nat → List (S32) → Int → Int → Bool → Int → Bool → Option (Bool)
 | 0, _, _, _, _, _, _ => none
 | k + 1, x0, x1, x2, x7, x8, x46 => if x46 = true then (if 0 ≤ x8 then (if x8 < (x0.length : Int) then (deaddropref14_In.l0 k x0 x1 x2 (((rd_T32 x0 x8).f2) == 1) (wrap64 (x8 + 1))) else (none)) else (none)) else (deaddropref14_In.l0 k x0 x1 x2 x7 (wrap64 (x8 + 1)))
end
def deaddropref14_In.f (k : Nat) (l0 : List (S32)) (a1 : Int) (a2 : Int) : Option (Bool) := deaddropref14_In.l0 k l0 a1 a2 false 0
theorem deaddropref14_In.mono_l : ∀ k, (∀ y0 y1 y2 y3 y4, LeO (deaddropref14_In.l0 k y0 y1 y2 y3 y4) (deaddropref14_In.l0 (k + 1) y0 y1 y2 y3 y4)) ∧ (∀ y0 y1 y2 y3 y4 y5, LeO (deaddropref14_In.j1 k y0 y1 y2 y3 y4 y5) (deaddropref14_In.j1 (k + 1) y0 y1 y2 y3 y4 y5))
 | 0 => ⟨fun _ _ _ _ _ r h => by simp [deaddropref14_In.l0] at h, fun _ _ _ _ _ _ r h => by simp [deaddropref14_In.j1] at h⟩
 | k + 1 => by
  obtain ⟨ih0, ih1⟩ := deaddropref14_In.mono_l k
  refine ⟨?_, ?_⟩
  ·
   intro y0 y1 y2 y3 y4
   unfold deaddropref14_In.l0
   repeat' first
   | (with_reducible exact ih0 _ _ _ _ _)
   | (with_reducible exact ih1 _ _ _ _ _ _)
   | (with_reducible exact LeO.refl _)
   | (with_reducible exact LeO.none _)
   | (with_reducible refine LeO.ite ?_ ?_)
   | (with_reducible refine LeO.bind ?_ (fun _ => ?_))
   | exact ih0 _ _ _ _ _
   | exact ih1 _ _ _ _ _ _
   | exact LeO.none _
   | refine LeO.ite ?_ ?_
   | refine LeO.bind ?_ (fun _ => ?_)
  ·
   intro y0 y1 y2 y3 y4 y5
   unfold deaddropref14_In.j1
   repeat' first
   | (with_reducible exact ih0 _ _ _ _ _)
   | (with_reducible exact ih1 _ _ _ _ _ _)
   | (with_reducible exact LeO.refl _)
   | (with_reducible exact LeO.none _)
   | (with_reducible refine LeO.ite ?_ ?_)
   | (with_reducible refine LeO.bind ?_ (fun _ => ?_))
   | exact ih0 _ _ _ _ _
   | exact ih1 _ _ _ _ _ _
   | exact LeO.none _
   | refine LeO.ite ?_ ?_
   | refine LeO.bind ?_ (fun _ => ?_)
theorem deaddropref14_In.mono : ∀ a0 a1 a2 k, LeO (deaddropref14_In.f k a0 a1 a2) (deaddropref14_In.f (k + 1) a0 a1 a2) := by
 intro a0 a1 a2 k
 obtain ⟨ih0, ih1⟩ := deaddropref14_In.mono_l k
 unfold deaddropref14_In.f
 repeat' first
  | (with_reducible exact ih0 _ _ _ _ _)
  | (with_reducible exact ih1 _ _ _ _ _ _)
  | (with_reducible exact LeO.refl _)
  | (with_reducible exact LeO.none _)
  | (with_reducible refine LeO.ite ?_ ?_)
  | (with_reducible refine LeO.bind ?_ (fun _ => ?_))
  | exact ih0 _ _ _ _ _
  | exact ih1 _ _ _ _ _ _
  | exact LeO.none _
  | refine LeO.ite ?_ ?_
  | refine LeO.bind ?_ (fun _ => ?_)
set_option maxHeartbeats 8000000 in
set_option maxRecDepth 100000 in
theorem deaddropref14_In.calls (k : Nat) (A0 : Option Addr) (c0 : Nat) (l0 : List (S32)) (a1 : Int) (a2 : Int) (r : Bool) (w : World) (hr0 : Kd.C k32 w A0 l0.length l0) (hc0 : l0.length ≤ c0) (h : deaddropref14_In.f k l0 a1 a2 = some r) :
 Calls Try.prog 10 #[.slice A0 l0.length c0, .int .i64 a1, .int .i64 a2] w fun e w' => e = .returned (.bool r) ∧ Drawn0 w w' := by
 have HR0 := Aside0.mk hr0
 have HC0 := Aside0.mk hc0
 clear hr0 hc0
 have H : (deaddropref14_In.l0 k l0 a1 a2 false 0) = some r := h
 clear h
 have H' := Aside0.mk H
 clear H
 go_enter Try.func10, Try.ntmps10
 go_wp2
 go_loopg [7, 8] k (fun kq v7 v8 w' => ∃ (x7_1 : Bool) (x8_1 : Int), v7 = .bool x7_1 ∧ v8 = .int .i64 x8_1 ∧ Aside0 (deaddropref14_In.l0 kq l0 a1 a2 x7_1 x8_1 = some r) ∧ Aside0 (kq ≤ k) ∧ Drawn0 w w')
 case atStart => exact ⟨(false), (0), (by first | rfl | (simp; done) | (simp [*]; done) | (simp; exact isEmpty_bne_ _)), (by first | rfl | (simp; done) | (simp [*]; done) | (simp; exact isEmpty_bne_ _)), H', ⟨Nat.le_refl _⟩, by repeat (first | exact Drawn0.refl _ | apply Drawn0.step)⟩
 case round =>
  clear H'
  try clear c1
  try clear p2
  obtain ⟨x7_1, x8_1, rfl, rfl, HA, HK1, ⟨m1, rfl⟩⟩ := hrel
  cases gk with
  | zero => exact absurd HA.out (by simp [deaddropref14_In.l0])
  | succ k1 =>
   have H := HA.out
   clear HA
   simp only [deaddropref14_In.l0] at H
   by_cases c4 : x8_1 < (l0.length : Int)
   ·
    rw [if_pos c4] at H
    have c4b0 : decide (x8_1 < (l0.length : Int)) = true := decide_eq_true c4
    clear c4
    have HC5 := Aside0.mk H
    clear H
    go_upto_region 5 with (fail)
    go_cut [46] (fun v46 wc => ∃ (kq : Nat) (x46_4 : Bool), v46 = .bool x46_4 ∧ Aside0 (deaddropref14_In.j1 kq l0 a1 a2 x7_1 x8_1 x46_4 = some r) ∧ Aside0 (kq ≤ k1) ∧ Drawn0 w wc)
    case first =>
     have H := HC5.out
     clear HC5
     by_cases c6 : 0 ≤ x8_1
     ·
      rw [if_pos c6] at H
      have c6b0 : decide (0 ≤ x8_1) = true := decide_eq_true c6
      clear c6
      (first | rw [c6b0] | (simp only [i64_w, i32_w]; rw [c6b0]) | skip)
      by_cases c7 : ((rd_T32 l0 x8_1).f0) ≤ a1
      ·
       rw [if_pos c7] at H
       have c7b0 : decide (((rd_T32 l0 x8_1).f0) ≤ a1) = true := decide_eq_true c7
       clear c7
       by_cases c8 : ((rd_T32 l0 x8_1).f3) = a2
       ·
        rw [if_pos c8] at H
        have c8b0 : (((rd_T32 l0 x8_1).f3) == a2) = true := beq_iff_eq.mpr c8
        have c8b1 : (((rd_T32 l0 x8_1).f3) != a2) = false := bne_eq_false_iff_eq.mpr c8
        clear c8
        by_cases c9 : ((rd_T32 l0 x8_1).f2) = 1
        ·
         rw [if_pos c9] at H
         have c9b0 : (((rd_T32 l0 x8_1).f2) == 1) = true := beq_iff_eq.mpr c9
         have c9b1 : (((rd_T32 l0 x8_1).f2) != 1) = false := bne_eq_false_iff_eq.mpr c9
         clear c9
         as_aux_lemma =>
          have H' := Aside0.mk H
          clear H
          have p103 : 0 ≤ (x8_1 : Int) := of_decide_eq_true (by first | (with_reducible assumption) | assumption)
          have q103 : x8_1 < (l0.length : Int) := of_decide_eq_true (by first | (with_reducible assumption) | assumption)
          obtain ⟨ad103, A103_4, c103_4, e103, hx103_0, hx103_1, hx103_2, hx103_3, hx103_4, hx103_5, hl103_4, hi103_4⟩ := at_T32 HR0.out x8_1 p103 q103
          cases e103
          have HR103_4 := Aside0.mk hi103_4
          have HC103_4 := Aside0.mk hl103_4
          clear hi103_4 hl103_4
          replace p103 := eq_true p103
          replace q103 := eq_true q103
          have p104 : 0 ≤ (x8_1 : Int) := of_decide_eq_true (by first | (with_reducible assumption) | assumption)
          have q104 : x8_1 < (l0.length : Int) := of_decide_eq_true (by first | (with_reducible assumption) | assumption)
          obtain ⟨ad104, A104_4, c104_4, e104, hx104_0, hx104_1, hx104_2, hx104_3, hx104_4, hx104_5, hl104_4, hi104_4⟩ := at_T32 HR0.out x8_1 p104 q104
          obtain rfl : ad103 = ad104 := (by injection e104)
          have HR104_4 := Aside0.mk hi104_4
          have HC104_4 := Aside0.mk hl104_4
          clear hi104_4 hl104_4
          replace p104 := eq_true p104
          replace q104 := eq_true q104
          have ea_ := Option.some.inj (hx103_4.symm.trans hx104_4)
          injection ea_ with ea_ en_ ec_
          subst ea_
          subst ec_
          clear en_
          have p105 : 0 ≤ (x8_1 : Int) := of_decide_eq_true (by first | (with_reducible assumption) | assumption)
          have q105 : x8_1 < (l0.length : Int) := of_decide_eq_true (by first | (with_reducible assumption) | assumption)
          obtain ⟨ad105, A105_4, c105_4, e105, hx105_0, hx105_1, hx105_2, hx105_3, hx105_4, hx105_5, hl105_4, hi105_4⟩ := at_T32 HR0.out x8_1 p105 q105
          obtain rfl : ad103 = ad105 := (by injection e105)
          have HR105_4 := Aside0.mk hi105_4
          have HC105_4 := Aside0.mk hl105_4
          clear hi105_4 hl105_4
          replace p105 := eq_true p105
          replace q105 := eq_true q105
          have ea_ := Option.some.inj (hx103_4.symm.trans hx105_4)
          injection ea_ with ea_ en_ ec_
          subst ea_
          subst ec_
          clear en_
          go_wp2
          go_meet
          case rel => exact ⟨_, (true), (by first | rfl | (simp; done) | (simp [*]; done) | (simp; exact isEmpty_bne_ _)), H', ⟨by have := HK1.out; first | omega | exact Nat.le_refl _⟩, by repeat (first | exact Drawn0.refl _ | apply Drawn0.step)⟩
        ·
         rw [if_neg c9] at H
         have c9b0 : (((rd_T32 l0 x8_1).f2) == 1) = false := beq_eq_false_iff_ne.mpr c9
         have c9b1 : (((rd_T32 l0 x8_1).f2) != 1) = true := bne_iff_ne.mpr c9
         as_aux_lemma =>
          have H' := Aside0.mk H
          clear H
          have p103 : 0 ≤ (x8_1 : Int) := of_decide_eq_true (by first | (with_reducible assumption) | assumption)
          have q103 : x8_1 < (l0.length : Int) := of_decide_eq_true (by first | (with_reducible assumption) | assumption)
          obtain ⟨ad103, A103_4, c103_4, e103, hx103_0, hx103_1, hx103_2, hx103_3, hx103_4, hx103_5, hl103_4, hi103_4⟩ := at_T32 HR0.out x8_1 p103 q103
          cases e103
          have HR103_4 := Aside0.mk hi103_4
          have HC103_4 := Aside0.mk hl103_4
          clear hi103_4 hl103_4
          replace p103 := eq_true p103
          replace q103 := eq_true q103
          have p104 : 0 ≤ (x8_1 : Int) := of_decide_eq_true (by first | (with_reducible assumption) | assumption)
          have q104 : x8_1 < (l0.length : Int) := of_decide_eq_true (by first | (with_reducible assumption) | assumption)
          obtain ⟨ad104, A104_4, c104_4, e104, hx104_0, hx104_1, hx104_2, hx104_3, hx104_4, hx104_5, hl104_4, hi104_4⟩ := at_T32 HR0.out x8_1 p104 q104
          obtain rfl : ad103 = ad104 := (by injection e104)
          have HR104_4 := Aside0.mk hi104_4
          have HC104_4 := Aside0.mk hl104_4
          clear hi104_4 hl104_4
          replace p104 := eq_true p104
          replace q104 := eq_true q104
          have ea_ := Option.some.inj (hx103_4.symm.trans hx104_4)
          injection ea_ with ea_ en_ ec_
          subst ea_
          subst ec_
          clear en_
          have p105 : 0 ≤ (x8_1 : Int) := of_decide_eq_true (by first | (with_reducible assumption) | assumption)
          have q105 : x8_1 < (l0.length : Int) := of_decide_eq_true (by first | (with_reducible assumption) | assumption)
          obtain ⟨ad105, A105_4, c105_4, e105, hx105_0, hx105_1, hx105_2, hx105_3, hx105_4, hx105_5, hl105_4, hi105_4⟩ := at_T32 HR0.out x8_1 p105 q105
          obtain rfl : ad103 = ad105 := (by injection e105)
          have HR105_4 := Aside0.mk hi105_4
          have HC105_4 := Aside0.mk hl105_4
          clear hi105_4 hl105_4
          replace p105 := eq_true p105
          replace q105 := eq_true q105
          have ea_ := Option.some.inj (hx103_4.symm.trans hx105_4)
          injection ea_ with ea_ en_ ec_
          subst ea_
          subst ec_
          clear en_
          have p106 : 0 ≤ (x8_1 : Int) := of_decide_eq_true (by first | (with_reducible assumption) | assumption)
          have q106 : x8_1 < (l0.length : Int) := of_decide_eq_true (by first | (with_reducible assumption) | assumption)
          obtain ⟨ad106, A106_4, c106_4, e106, hx106_0, hx106_1, hx106_2, hx106_3, hx106_4, hx106_5, hl106_4, hi106_4⟩ := at_T32 HR0.out x8_1 p106 q106
          obtain rfl : ad103 = ad106 := (by injection e106)
          have HR106_4 := Aside0.mk hi106_4
          have HC106_4 := Aside0.mk hl106_4
          clear hi106_4 hl106_4
          replace p106 := eq_true p106
          replace q106 := eq_true q106
          have ea_ := Option.some.inj (hx103_4.symm.trans hx106_4)
          injection ea_ with ea_ en_ ec_
          subst ea_
          subst ec_
          clear en_
          go_wp2
          go_meet
          case rel => exact ⟨_, ((((rd_T32 l0 x8_1).f2) == 2)), (by first | rfl | (simp; done) | (simp [*]; done) | (simp; exact isEmpty_bne_ _)), H', ⟨by have := HK1.out; first | omega | exact Nat.le_refl _⟩, by repeat (first | exact Drawn0.refl _ | apply Drawn0.step)⟩
       ·
        rw [if_neg c8] at H
        have c8b0 : (((rd_T32 l0 x8_1).f3) == a2) = false := beq_eq_false_iff_ne.mpr c8
        have c8b1 : (((rd_T32 l0 x8_1).f3) != a2) = true := bne_iff_ne.mpr c8
        as_aux_lemma =>
         have H' := Aside0.mk H
         clear H
         have p103 : 0 ≤ (x8_1 : Int) := of_decide_eq_true (by first | (with_reducible assumption) | assumption)
         have q103 : x8_1 < (l0.length : Int) := of_decide_eq_true (by first | (with_reducible assumption) | assumption)
         obtain ⟨ad103, A103_4, c103_4, e103, hx103_0, hx103_1, hx103_2, hx103_3, hx103_4, hx103_5, hl103_4, hi103_4⟩ := at_T32 HR0.out x8_1 p103 q103
         cases e103
         have HR103_4 := Aside0.mk hi103_4
         have HC103_4 := Aside0.mk hl103_4
         clear hi103_4 hl103_4
         replace p103 := eq_true p103
         replace q103 := eq_true q103
         have p104 : 0 ≤ (x8_1 : Int) := of_decide_eq_true (by first | (with_reducible assumption) | assumption)
         have q104 : x8_1 < (l0.length : Int) := of_decide_eq_true (by first | (with_reducible assumption) | assumption)
         obtain ⟨ad104, A104_4, c104_4, e104, hx104_0, hx104_1, hx104_2, hx104_3, hx104_4, hx104_5, hl104_4, hi104_4⟩ := at_T32 HR0.out x8_1 p104 q104
         obtain rfl : ad103 = ad104 := (by injection e104)
         have HR104_4 := Aside0.mk hi104_4
         have HC104_4 := Aside0.mk hl104_4
         clear hi104_4 hl104_4
         replace p104 := eq_true p104
         replace q104 := eq_true q104
         have ea_ := Option.some.inj (hx103_4.symm.trans hx104_4)
         injection ea_ with ea_ en_ ec_
         subst ea_
         subst ec_
         clear en_
         go_wp2
         go_meet
         case rel => exact ⟨_, (false), (by first | rfl | (simp; done) | (simp [*]; done) | (simp; exact isEmpty_bne_ _)), H', ⟨by have := HK1.out; first | omega | exact Nat.le_refl _⟩, by repeat (first | exact Drawn0.refl _ | apply Drawn0.step)⟩
      ·
       rw [if_neg c7] at H
       have c7b0 : decide (((rd_T32 l0 x8_1).f0) ≤ a1) = false := decide_eq_false c7
       clear c7
       as_aux_lemma =>
        have H' := Aside0.mk H
        clear H
        have p103 : 0 ≤ (x8_1 : Int) := of_decide_eq_true (by first | (with_reducible assumption) | assumption)
        have q103 : x8_1 < (l0.length : Int) := of_decide_eq_true (by first | (with_reducible assumption) | assumption)
        obtain ⟨ad103, A103_4, c103_4, e103, hx103_0, hx103_1, hx103_2, hx103_3, hx103_4, hx103_5, hl103_4, hi103_4⟩ := at_T32 HR0.out x8_1 p103 q103
        cases e103
        have HR103_4 := Aside0.mk hi103_4
        have HC103_4 := Aside0.mk hl103_4
        clear hi103_4 hl103_4
        replace p103 := eq_true p103
        replace q103 := eq_true q103
        go_wp2
        go_meet
        case rel => exact ⟨_, (false), (by first | rfl | (simp; done) | (simp [*]; done) | (simp; exact isEmpty_bne_ _)), H', ⟨by have := HK1.out; first | omega | exact Nat.le_refl _⟩, by repeat (first | exact Drawn0.refl _ | apply Drawn0.step)⟩
     ·
      rw [if_neg c6] at H
      exact absurd H (by simp)
    case rest =>
     clear HC5
     try clear c1
     try clear p1
     try clear q1
     try clear hx1
     try clear p2
     try clear c4
     try clear c4b0
     try clear c6
     try clear c6b0
     try clear c7
     try clear c7b0
     try clear c8
     try clear c8b0
     try clear c8b1
     try clear c9
     try clear c9b0
     try clear c9b1
     try clear hx103_0
     try clear hx103_1
     try clear hx103_2
     try clear hx103_3
     try clear hx103_4
     try clear hx103_5
     try clear hx104_0
     try clear hx104_1
     try clear hx104_2
     try clear hx104_3
     try clear hx104_4
     try clear hx104_5
     try clear hx105_0
     try clear hx105_1
     try clear hx105_2
     try clear hx105_3
     try clear hx105_4
     try clear hx105_5
     try clear hx106_0
     try clear hx106_1
     try clear hx106_2
     try clear hx106_3
     try clear hx106_4
     try clear hx106_5
     try clear p103
     try clear p104
     try clear p105
     try clear p106
     try clear p2
     try clear q103
     try clear q104
     try clear q105
     try clear q106
     obtain ⟨kq, x46_4, rfl, HA, HJ4, ⟨mc4, rfl⟩⟩ := hcut
     cases kq with
     | zero => exact absurd HA.out (by simp [deaddropref14_In.j1])
     | succ kj4 =>
      have H := HA.out
      clear HA
      simp only [deaddropref14_In.j1] at H
      by_cases c10 : x46_4 = true
      ·
       subst c10
       have H1 : (if 0 ≤ x8_1 then (if x8_1 < (l0.length : Int) then (deaddropref14_In.l0 kj4 l0 a1 a2 (((rd_T32 l0 x8_1).f2) == 1) (wrap64 (x8_1 + 1))) else (none)) else (none)) = some r := by rw [if_pos rfl] at H; exact H
       clear H
       have H := H1
       clear H1
       by_cases c11 : 0 ≤ x8_1
       ·
        rw [if_pos c11] at H
        have c11b0 : decide (0 ≤ x8_1) = true := decide_eq_true c11
        clear c11
        by_cases c12 : x8_1 < (l0.length : Int)
        ·
         rw [if_pos c12] at H
         have c12b0 : decide (x8_1 < (l0.length : Int)) = true := decide_eq_true c12
         clear c12
         as_aux_lemma =>
          have H' := Aside0.mk H
          clear H
          have p107 : 0 ≤ (x8_1 : Int) := of_decide_eq_true (by first | (with_reducible assumption) | assumption)
          have q107 : x8_1 < (l0.length : Int) := of_decide_eq_true (by first | (with_reducible assumption) | assumption)
          obtain ⟨ad107, A107_4, c107_4, e107, hx107_0, hx107_1, hx107_2, hx107_3, hx107_4, hx107_5, hl107_4, hi107_4⟩ := at_T32 HR0.out x8_1 p107 q107
          cases e107
          have HR107_4 := Aside0.mk hi107_4
          have HC107_4 := Aside0.mk hl107_4
          clear hi107_4 hl107_4
          replace p107 := eq_true p107
          replace q107 := eq_true q107
          go_wp2
          go_roundg kj4
          case measure => have := HK1.out; have := HJ4.out; omega
          case rel => exact ⟨((((rd_T32 l0 x8_1).f2) == 1)), (wrap64 (x8_1 + 1)), (by first | rfl | (simp; done) | (simp [*]; done) | (simp; exact isEmpty_bne_ _)), (by first | rfl | (simp; done) | (simp [*]; done) | (simp; exact isEmpty_bne_ _)), H', ⟨by have := HK1.out; have := HJ4.out; omega⟩, by repeat (first | exact Drawn0.refl _ | apply Drawn0.step)⟩
        ·
         rw [if_neg c12] at H
         exact absurd H (by simp)
       ·
        rw [if_neg c11] at H
        exact absurd H (by simp)
      ·
       replace c10 := Bool.eq_false_iff.mpr c10
       subst c10
       have H1 : (deaddropref14_In.l0 kj4 l0 a1 a2 x7_1 (wrap64 (x8_1 + 1))) = some r := by rw [if_neg (show ¬ (false = true) by decide)] at H; exact H
       clear H
       have H := H1
       clear H1
       as_aux_lemma =>
        have H' := Aside0.mk H
        clear H
        go_wp2
        go_roundg kj4
        case measure => have := HK1.out; have := HJ4.out; omega
        case rel => exact ⟨(x7_1), (wrap64 (x8_1 + 1)), (by first | rfl | (simp; done) | (simp [*]; done) | (simp; exact isEmpty_bne_ _)), (by first | rfl | (simp; done) | (simp [*]; done) | (simp; exact isEmpty_bne_ _)), H', ⟨by have := HK1.out; have := HJ4.out; omega⟩, by repeat (first | exact Drawn0.refl _ | apply Drawn0.step)⟩
   ·
    rw [if_neg c4] at H
    have c4b0 : decide (x8_1 < (l0.length : Int)) = false := decide_eq_false c4
    clear c4
    by_cases c13 : x7_1 = true
    ·
     subst c13
     have H1 : (if a2 ≥ 0 then (some (decide (a2 < 8))) else (some false)) = some r := by rw [if_pos rfl] at H; exact H
     clear H
     have H := H1
     clear H1
     by_cases c14 : a2 ≥ 0
     ·
      rw [if_pos c14] at H
      have c14b0 : decide (0 ≤ a2) = true := decide_eq_true c14
      clear c14
      as_aux_lemma =>
       obtain rfl := Option.some.inj H
       go_wp2
       go_ret
       exact ⟨by first | rfl | (simp; done) | (simp [*]; done), by repeat (first | exact Drawn0.refl _ | apply Drawn0.step)⟩
     ·
      rw [if_neg c14] at H
      have c14b0 : decide (0 ≤ a2) = false := decide_eq_false c14
      clear c14
      as_aux_lemma =>
       obtain rfl := Option.some.inj H
       go_wp2
       go_ret
       exact ⟨by first | rfl | (simp; done) | (simp [*]; done), by repeat (first | exact Drawn0.refl _ | apply Drawn0.step)⟩
    ·
     replace c13 := Bool.eq_false_iff.mpr c13
     subst c13
     have H1 : (some false) = some r := by rw [if_neg (show ¬ (false = true) by decide)] at H; exact H
     clear H
     have H := H1
     clear H1
     as_aux_lemma =>
      obtain rfl := Option.some.inj H
      go_wp2
      go_ret
      exact ⟨by first | rfl | (simp; done) | (simp [*]; done), by repeat (first | exact Drawn0.refl _ | apply Drawn0.step)⟩

/-! ### deaddropref14_Members: function 8 -/
def deaddropref14_Members.l0 : Nat → List (S32) → Int → List Int → Int → Option (List Int)
  | 0, _, _, _, _ => none
  | k + 1, x0, x1, x5, x6 => if x6 < 8 then ((deaddropref14_In.f k x0 x1 x6).bind fun t108 => (if t108 = true then (if x5.length < 17592186044416 then (deaddropref14_Members.l0 k x0 x1 (x5 ++ [x6]) (wrap64 (x6 + 1))) else (none)) else (deaddropref14_Members.l0 k x0 x1 x5 (wrap64 (x6 + 1))))) else (some x5)
def deaddropref14_Members.f (k : Nat) (l0 : List (S32)) (a1 : Int) : Option (List Int) := deaddropref14_Members.l0 k l0 a1 ([] : List Int) 0
theorem deaddropref14_Members.mono_l : ∀ k, (∀ y0 y1 y2 y3, LeO (deaddropref14_Members.l0 k y0 y1 y2 y3) (deaddropref14_Members.l0 (k + 1) y0 y1 y2 y3))
  | 0 => fun _ _ _ _ r h => by simp [deaddropref14_Members.l0] at h
  | k + 1 => by
    have ih0 := deaddropref14_Members.mono_l k
    · intro y0 y1 y2 y3
      unfold deaddropref14_Members.l0
      repeat' first
      | (with_reducible exact ih0 _ _ _ _)
      | (with_reducible exact deaddropref14_In.mono _ _ _ _)
      | (with_reducible exact LeO.refl _)
      | (with_reducible exact LeO.none _)
      | (with_reducible refine LeO.ite ?_ ?_)
      | (with_reducible refine LeO.bind ?_ (fun _ => ?_))
      | exact ih0 _ _ _ _
      | exact deaddropref14_In.mono _ _ _ _
      | exact LeO.none _
      | refine LeO.ite ?_ ?_
      | refine LeO.bind ?_ (fun _ => ?_)
theorem deaddropref14_Members.mono : ∀ a0 a1 k, LeO (deaddropref14_Members.f k a0 a1) (deaddropref14_Members.f (k + 1) a0 a1) := by
  intro a0 a1 k
  have ih0 := deaddropref14_Members.mono_l k
  unfold deaddropref14_Members.f
  repeat' first
      | (with_reducible exact ih0 _ _ _ _)
      | (with_reducible exact deaddropref14_In.mono _ _ _ _)
      | (with_reducible exact LeO.refl _)
      | (with_reducible exact LeO.none _)
      | (with_reducible refine LeO.ite ?_ ?_)
      | (with_reducible refine LeO.bind ?_ (fun _ => ?_))
      | exact ih0 _ _ _ _
      | exact deaddropref14_In.mono _ _ _ _
      | exact LeO.none _
      | refine LeO.ite ?_ ?_
      | refine LeO.bind ?_ (fun _ => ?_)
set_option maxHeartbeats 8000000 in
set_option maxRecDepth 100000 in
theorem deaddropref14_Members.calls (k : Nat) (A0 : Option Addr) (c0 : Nat) (l0 : List (S32)) (a1 : Int) (r : List Int) (w : World) (hr0 : Kd.C k32 w A0 l0.length l0) (hc0 : l0.length ≤ c0) (h : deaddropref14_Members.f k l0 a1 = some r) :
    Calls Try.prog 8 #[.slice A0 l0.length c0, .int .i64 a1] w fun e w' => ∃ v0_ : Value, e = .returned (v0_) ∧ Kd.R (Kd.int .i64) 3 w' w.heap.size (fun _ => True) v0_ r ∧ Below w.heap.size w w' := by
  have HR0 := Aside0.mk hr0
  have HC0 := Aside0.mk hc0
  clear hr0 hc0
  have HB := Aside0.mk (Below.refl w.heap.size w)
  have H : (deaddropref14_Members.l0 k l0 a1 ([] : List Int) 0) = some r := h
  clear h
  have H' := Aside0.mk H
  clear H
  go_enter Try.func8, Try.ntmps8
  go_wp2
  go_loopg [5, 6] k (fun kq v5 v6 w' => ∃ (x5_1 : List Int) (x6_1 : Int), v6 = .int .i64 x6_1 ∧ Aside0 (deaddropref14_Members.l0 kq l0 a1 x5_1 x6_1 = some r) ∧ Aside0 (kq ≤ k) ∧ Aside0 (Kd.R (Kd.int .i64) 3 w' w.heap.size (fun _ => True) v5 x5_1) ∧ Aside0 (Below w.heap.size w w'))
  case atStart => exact ⟨(([] : List Int)), (0), (by first | rfl | (simp; done) | (simp [*]; done) | (simp; exact isEmpty_bne_ _)), H', ⟨Nat.le_refl _⟩, ⟨by first | exact Kd.R_nil _ _ _ _ _ | exact Kd.N_nil _ _ _ _ _ | exact Kd.V_nil _ _ _ _ _ | exact Kd.Q_nil _ _ _ _ _ | exact Kd.S_nil _ _ _ _ _⟩, ⟨by repeat (first | (with_reducible first | exact HB.out | apply below_alloc | apply pw_below_drewN | apply below_drew1) | exact HB.out)⟩⟩
  case round =>
    clear H'
    try clear p2
    obtain ⟨x5_1, x6_1, rfl, HA, HK1, HO_5, HB⟩ := hrel
    cases gk with
    | zero => exact absurd HA.out (by simp [deaddropref14_Members.l0])
    | succ k1 =>
      have H := HA.out
      clear HA
      simp only [deaddropref14_Members.l0] at H
      by_cases c3 : x6_1 < 8
      · rw [if_pos c3] at H
        have c3b0 : decide (x6_1 < 8) = true := decide_eq_true c3
        clear c3
        replace H := Option.bind_eq_some_iff.mp H
        obtain ⟨t108, A40, H⟩ := H
        replace H : (if t108 = true then (if x5_1.length < 17592186044416 then (deaddropref14_Members.l0 k1 l0 a1 (x5_1 ++ [x6_1]) (wrap64 (x6_1 + 1))) else (none)) else (deaddropref14_Members.l0 k1 l0 a1 x5_1 (wrap64 (x6_1 + 1)))) = some r := H
        have A4 := Aside0.mk A40
        clear A40
        by_cases c5 : t108 = true
        · subst c5
          have H1 : (if x5_1.length < 17592186044416 then (deaddropref14_Members.l0 k1 l0 a1 (x5_1 ++ [x6_1]) (wrap64 (x6_1 + 1))) else (none)) = some r := by rw [if_pos rfl] at H; exact H
          clear H
          have H := H1
          clear H1
          by_cases c6 : x5_1.length < 17592186044416
          · rw [if_pos c6] at H
            have LMc6 := Aside0.mk c6
            clear c6
            obtain ⟨y109, hy109⟩ : ∃ y_ : List Int, y_ = (x5_1 ++ [x6_1]) := ⟨_, rfl⟩
            replace H : (deaddropref14_Members.l0 k1 l0 a1 y109 (wrap64 (x6_1 + 1))) = some r := by first | (rw [hy109]; with_reducible exact H) | (have H2_ := (Option.bind_some _ _).symm.trans H; rw [hy109]; with_reducible exact H2_) | (have H2_ := (Option.bind_some _ _).symm.trans H; with_reducible exact H2_) | with_reducible exact H | (rw [hy109]; exact H) | exact H
            have Ny109 := Aside0.mk hy109
            clear hy109
            as_aux_lemma =>
              have H' := Aside0.mk H
              clear H
              go_wp2_with (first | ((with_reducible refine gate_callee (f := 10) rfl ?_); refine goesL_ (some 14) rfl rfl Try.func10 (by kernel_rfl) rfl #[.slice A0 l0.length c0, .int .i64 a1, .int .i64 x6_1] rfl (by (try simp only [List.map_toArray, List.map_cons, List.map_nil]); first | done | rfl | (simp only [List.length_drop, List.length_take]; rfl)) ?_; (with_reducible refine (deaddropref14_In.calls k1 _ _ l0 a1 x6_1 true _ ?side1 ?side2 A4.out).mono ?_); (case side1 => repeat (first | exact (Kd.C_below HR0.out HB.out) | (with_reducible refine Kd.C_alloc ?_ _) | (with_reducible refine Kd.C_drewN ?_ _) | (with_reducible refine Kd.C_drew ?_))); (case side2 => exact HC0.out); rintro e w' ⟨rfl, ⟨nd, rfl⟩⟩; refine ⟨_, rfl, ?_⟩) | ((with_reducible refine gate_builtin (b := .append) (xs := #[.tmp 15, .tmp 17]) rfl ?_); at_builtin; refine Kd.R_append (Kd.int .i64) (w0 := w) w.heap.size rfl (.tmp 15) (.tmp 17) 24 3 (.int .i64 0) 8 rfl Try.underlying24 info3 rfl (by decide) (by omega) u5 x5_1 x6_1 [.int .i64 x6_1] (fun _ => True) (fun _ => False) rfl rfl ?aP (fun _ hk => hk.elim) ?aF ?aO ?aB ?aS ?aL ?_; (case aP => exact rfl); (case aB => exact (by repeat (first | (with_reducible first | exact HB.out | apply below_alloc | apply pw_below_drewN | apply below_drew1) | exact HB.out))); (case aF => exact (fun _ _ => trivial)); (case aO => exact (by (with_reducible repeat (first | apply Kd.R_alloc | apply Kd.R_drewN | apply Kd.R_drew)); exact HO_5.out)); (case aS => exact (below_size (by repeat (first | (with_reducible first | exact HB.out | apply below_alloc | apply pw_below_drewN | apply below_drew1) | exact HB.out)))); (case aL => have := LMc6.out; omega); intro v110 w7 ho hb hg hat; rw [← Ny109.out] at ho; have n0_ := Aside0.mk (hb); have n1_ := Aside0.mk (ho); clear HB; clear HO_5; have HB := n0_; have HO111 := n1_; clear n0_ n1_; clear ho hb hg hat))
              go_roundg k1
              case measure => have := HK1.out; omega
              case rel => exact ⟨(y109), (wrap64 (x6_1 + 1)), (by first | rfl | (simp; done) | (simp [*]; done) | (simp; exact isEmpty_bne_ _)), H', ⟨by have := HK1.out; omega⟩, ⟨by (with_reducible repeat (first | apply Kd.R_alloc | apply Kd.R_drewN | apply Kd.R_drew)); exact HO111.out⟩, ⟨by repeat (first | (with_reducible first | exact HB.out | apply below_alloc | apply pw_below_drewN | apply below_drew1) | exact HB.out)⟩⟩
          · rw [if_neg c6] at H
            exact absurd H (by simp)
        · replace c5 := Bool.eq_false_iff.mpr c5
          subst c5
          have H1 : (deaddropref14_Members.l0 k1 l0 a1 x5_1 (wrap64 (x6_1 + 1))) = some r := by rw [if_neg (show ¬ (false = true) by decide)] at H; exact H
          clear H
          have H := H1
          clear H1
          as_aux_lemma =>
            have H' := Aside0.mk H
            clear H
            go_wp2_with (first | ((with_reducible refine gate_callee (f := 10) rfl ?_); refine goesL_ (some 14) rfl rfl Try.func10 (by kernel_rfl) rfl #[.slice A0 l0.length c0, .int .i64 a1, .int .i64 x6_1] rfl (by (try simp only [List.map_toArray, List.map_cons, List.map_nil]); first | done | rfl | (simp only [List.length_drop, List.length_take]; rfl)) ?_; (with_reducible refine (deaddropref14_In.calls k1 _ _ l0 a1 x6_1 false _ ?side1 ?side2 A4.out).mono ?_); (case side1 => repeat (first | exact (Kd.C_below HR0.out HB.out) | (with_reducible refine Kd.C_alloc ?_ _) | (with_reducible refine Kd.C_drewN ?_ _) | (with_reducible refine Kd.C_drew ?_))); (case side2 => exact HC0.out); rintro e w' ⟨rfl, ⟨nd, rfl⟩⟩; refine ⟨_, rfl, ?_⟩))
            go_roundg k1
            case measure => have := HK1.out; omega
            case rel => exact ⟨(x5_1), (wrap64 (x6_1 + 1)), (by first | rfl | (simp; done) | (simp [*]; done) | (simp; exact isEmpty_bne_ _)), H', ⟨by have := HK1.out; omega⟩, ⟨by (with_reducible repeat (first | apply Kd.R_alloc | apply Kd.R_drewN | apply Kd.R_drew)); exact HO_5.out⟩, ⟨by repeat (first | (with_reducible first | exact HB.out | apply below_alloc | apply pw_below_drewN | apply below_drew1) | exact HB.out)⟩⟩
      · rw [if_neg c3] at H
        have c3b0 : decide (x6_1 < 8) = false := decide_eq_false c3
        clear c3
        as_aux_lemma =>
          obtain rfl := Option.some.inj H
          go_wp2
          go_ret
          exact ⟨_, by first | rfl | (simp [errW_none, errW_some] <;> rfl) | (simp [*, errW_none, errW_some] <;> rfl), by (with_reducible repeat (first | apply Kd.R_alloc | apply Kd.R_drewN | apply Kd.R_drew)); exact HO_5.out, by repeat (first | (with_reducible first | exact HB.out | apply below_alloc | apply pw_below_drewN | apply below_drew1) | exact HB.out)⟩

end Go.Proofs.Ytjmehnlhfcidaaa.P
