-- Written by a program of this work (wip/tools/mkprint.py) over the kit's print; Lean checks it.
import Derived.Test.YticeijifmmegeaaQx0
namespace Go.Proofs.Yticeijifmmegeaa.Q
open Go.RowKit Go.Proofs.YticeijifmmegeaaW.PrintWords Go.Proofs.YticeijifmmegeaaW.PrintLast Go.Proofs.YticeijifmmegeaaW.PrintMore
attribute [local go_sem] max2_int min2_int max_two min_two max_three min_three max_four min_four   -- for this text's walks alone
set_option linter.unusedVariables false
set_option linter.unusedSimpArgs false

/-! ### chacha_may: function 16 -/
def chacha_may.f (a0 : ByteArray) (a1 : ByteArray) (a2 : Int) : Option (Bool) := if (a0.size : Int) = 32 then (if (a1.size : Int) = 12 then (if a2 ≥ 0 then (some (decide (a2 < 4294967296))) else (some false)) else (some false)) else (some false)
set_option maxHeartbeats 8000000 in
set_option maxRecDepth 100000 in
theorem chacha_may.calls (a0 : ByteArray) (a1 : ByteArray) (a2 : Int) (r : Bool) (w : World) (h : chacha_may.f a0 a1 a2 = some r) :
    Calls Try.prog 16 #[.string a0, .string a1, .int .i64 a2] w fun e w' => e = .returned (.bool r) ∧ Drawn0 w w' := by
  have H : (if (a0.size : Int) = 32 then (if (a1.size : Int) = 12 then (if a2 ≥ 0 then (some (decide (a2 < 4294967296))) else (some false)) else (some false)) else (some false)) = some r := h
  clear h
  by_cases c4 : (a0.size : Int) = 32
  · rw [if_pos c4] at H
    have c4b0 : ((a0.size : Int) == 32) = true := beq_iff_eq.mpr c4
    have c4b1 : ((a0.size : Int) != 32) = false := bne_eq_false_iff_eq.mpr c4
    clear c4
    by_cases c5 : (a1.size : Int) = 12
    · rw [if_pos c5] at H
      have c5b0 : ((a1.size : Int) == 12) = true := beq_iff_eq.mpr c5
      have c5b1 : ((a1.size : Int) != 12) = false := bne_eq_false_iff_eq.mpr c5
      clear c5
      by_cases c6 : a2 ≥ 0
      · rw [if_pos c6] at H
        have c6b0 : decide (0 ≤ a2) = true := decide_eq_true c6
        clear c6
        obtain rfl := Option.some.inj H
        go_enter Try.func16, Try.ntmps16
        go_wp2
        go_ret
        exact ⟨by first | rfl | (simp; done) | (simp [*]; done), by repeat (first | exact Drawn0.refl _ | apply Drawn0.step)⟩
      · rw [if_neg c6] at H
        have c6b0 : decide (0 ≤ a2) = false := decide_eq_false c6
        clear c6
        obtain rfl := Option.some.inj H
        go_enter Try.func16, Try.ntmps16
        go_wp2
        go_ret
        exact ⟨by first | rfl | (simp; done) | (simp [*]; done), by repeat (first | exact Drawn0.refl _ | apply Drawn0.step)⟩
    · rw [if_neg c5] at H
      have c5b0 : ((a1.size : Int) == 12) = false := beq_eq_false_iff_ne.mpr c5
      have c5b1 : ((a1.size : Int) != 12) = true := bne_iff_ne.mpr c5
      obtain rfl := Option.some.inj H
      go_enter Try.func16, Try.ntmps16
      go_wp2
      go_ret
      exact ⟨by first | rfl | (simp; done) | (simp [*]; done), by repeat (first | exact Drawn0.refl _ | apply Drawn0.step)⟩
  · rw [if_neg c4] at H
    have c4b0 : ((a0.size : Int) == 32) = false := beq_eq_false_iff_ne.mpr c4
    have c4b1 : ((a0.size : Int) != 32) = true := bne_iff_ne.mpr c4
    obtain rfl := Option.some.inj H
    go_enter Try.func16, Try.ntmps16
    go_wp2
    go_ret
    exact ⟨by first | rfl | (simp; done) | (simp [*]; done), by repeat (first | exact Drawn0.refl _ | apply Drawn0.step)⟩

/-! ### chacha_word: function 20 -/
def chacha_word.f (a0 : ByteArray) (a1 : Int) : Option (Int) := if 0 ≤ a1 then (if a1 < (a0.size : Int) then (if 0 ≤ (wrap64 (a1 + 1)) then (if (wrap64 (a1 + 1)) < (a0.size : Int) then (if 0 ≤ (wrap64 (a1 + 2)) then (if (wrap64 (a1 + 2)) < (a0.size : Int) then (if 0 ≤ (wrap64 (a1 + 3)) then (if (wrap64 (a1 + 3)) < (a0.size : Int) then (some (Go.bits .or .u32 (Go.bits .or .u32 (Go.bits .or .u32 ((bt a0 a1) % 4294967296) ((((bt a0 (wrap64 (a1 + 1))) % 4294967296) * 256) % 4294967296)) ((((bt a0 (wrap64 (a1 + 2))) % 4294967296) * 65536) % 4294967296)) ((((bt a0 (wrap64 (a1 + 3))) % 4294967296) * 16777216) % 4294967296))) else (none)) else (none)) else (none)) else (none)) else (none)) else (none)) else (none)) else (none)
set_option maxHeartbeats 8000000 in
set_option maxRecDepth 100000 in
theorem chacha_word.calls (a0 : ByteArray) (a1 : Int) (r : Int) (w : World) (h : chacha_word.f a0 a1 = some r) :
    Calls Try.prog 20 #[.string a0, .int .i64 a1] w fun e w' => e = .returned (.int .u32 r) ∧ Drawn0 w w' := by
  have H : (if 0 ≤ a1 then (if a1 < (a0.size : Int) then (if 0 ≤ (wrap64 (a1 + 1)) then (if (wrap64 (a1 + 1)) < (a0.size : Int) then (if 0 ≤ (wrap64 (a1 + 2)) then (if (wrap64 (a1 + 2)) < (a0.size : Int) then (if 0 ≤ (wrap64 (a1 + 3)) then (if (wrap64 (a1 + 3)) < (a0.size : Int) then (some (Go.bits .or .u32 (Go.bits .or .u32 (Go.bits .or .u32 ((bt a0 a1) % 4294967296) ((((bt a0 (wrap64 (a1 + 1))) % 4294967296) * 256) % 4294967296)) ((((bt a0 (wrap64 (a1 + 2))) % 4294967296) * 65536) % 4294967296)) ((((bt a0 (wrap64 (a1 + 3))) % 4294967296) * 16777216) % 4294967296))) else (none)) else (none)) else (none)) else (none)) else (none)) else (none)) else (none)) else (none)) = some r := h
  clear h
  by_cases c3 : 0 ≤ a1
  · rw [if_pos c3] at H
    have c3b0 : decide (0 ≤ a1) = true := decide_eq_true c3
    clear c3
    by_cases c4 : a1 < (a0.size : Int)
    · rw [if_pos c4] at H
      have c4b0 : decide (a1 < (a0.size : Int)) = true := decide_eq_true c4
      clear c4
      obtain ⟨ji6, hji6⟩ : ∃ j_ : Int, (wrap64 (a1 + 1)) = j_ := ⟨_, rfl⟩
      replace H : (if 0 ≤ (ji6) then (if (ji6) < (a0.size : Int) then (if 0 ≤ (wrap64 (a1 + 2)) then (if (wrap64 (a1 + 2)) < (a0.size : Int) then (if 0 ≤ (wrap64 (a1 + 3)) then (if (wrap64 (a1 + 3)) < (a0.size : Int) then (some (Go.bits .or .u32 (Go.bits .or .u32 (Go.bits .or .u32 ((bt a0 a1) % 4294967296) ((((bt a0 (ji6)) % 4294967296) * 256) % 4294967296)) ((((bt a0 (wrap64 (a1 + 2))) % 4294967296) * 65536) % 4294967296)) ((((bt a0 (wrap64 (a1 + 3))) % 4294967296) * 16777216) % 4294967296))) else (none)) else (none)) else (none)) else (none)) else (none)) else (none)) = some r := by first | (rw [hji6] at H; exact H) | (simp only [hji6] at H ⊢; exact H)
      have hji6w : (IntKind.i64.wrap (a1 + 1)) = ji6 := (i64_w _).trans hji6
      by_cases c7 : 0 ≤ (ji6)
      · rw [if_pos c7] at H
        have c7b0 : decide (0 ≤ (ji6)) = true := decide_eq_true c7
        clear c7
        by_cases c8 : (ji6) < (a0.size : Int)
        · rw [if_pos c8] at H
          have c8b0 : decide ((ji6) < (a0.size : Int)) = true := decide_eq_true c8
          clear c8
          obtain ⟨ji10, hji10⟩ : ∃ j_ : Int, (wrap64 (a1 + 2)) = j_ := ⟨_, rfl⟩
          replace H : (if 0 ≤ (ji10) then (if (ji10) < (a0.size : Int) then (if 0 ≤ (wrap64 (a1 + 3)) then (if (wrap64 (a1 + 3)) < (a0.size : Int) then (some (Go.bits .or .u32 (Go.bits .or .u32 (Go.bits .or .u32 ((bt a0 a1) % 4294967296) ((((bt a0 (ji6)) % 4294967296) * 256) % 4294967296)) ((((bt a0 (ji10)) % 4294967296) * 65536) % 4294967296)) ((((bt a0 (wrap64 (a1 + 3))) % 4294967296) * 16777216) % 4294967296))) else (none)) else (none)) else (none)) else (none)) = some r := by first | (rw [hji10] at H; exact H) | (simp only [hji10] at H ⊢; exact H)
          have hji10w : (IntKind.i64.wrap (a1 + 2)) = ji10 := (i64_w _).trans hji10
          by_cases c11 : 0 ≤ (ji10)
          · rw [if_pos c11] at H
            have c11b0 : decide (0 ≤ (ji10)) = true := decide_eq_true c11
            clear c11
            by_cases c12 : (ji10) < (a0.size : Int)
            · rw [if_pos c12] at H
              have c12b0 : decide ((ji10) < (a0.size : Int)) = true := decide_eq_true c12
              clear c12
              obtain ⟨ji14, hji14⟩ : ∃ j_ : Int, (wrap64 (a1 + 3)) = j_ := ⟨_, rfl⟩
              replace H : (if 0 ≤ (ji14) then (if (ji14) < (a0.size : Int) then (some (Go.bits .or .u32 (Go.bits .or .u32 (Go.bits .or .u32 ((bt a0 a1) % 4294967296) ((((bt a0 (ji6)) % 4294967296) * 256) % 4294967296)) ((((bt a0 (ji10)) % 4294967296) * 65536) % 4294967296)) ((((bt a0 (ji14)) % 4294967296) * 16777216) % 4294967296))) else (none)) else (none)) = some r := by first | (rw [hji14] at H; exact H) | (simp only [hji14] at H ⊢; exact H)
              have hji14w : (IntKind.i64.wrap (a1 + 3)) = ji14 := (i64_w _).trans hji14
              by_cases c15 : 0 ≤ (ji14)
              · rw [if_pos c15] at H
                have c15b0 : decide (0 ≤ (ji14)) = true := decide_eq_true c15
                clear c15
                by_cases c16 : (ji14) < (a0.size : Int)
                · rw [if_pos c16] at H
                  have c16b0 : decide ((ji14) < (a0.size : Int)) = true := decide_eq_true c16
                  clear c16
                  obtain rfl := Option.some.inj H
                  have p5 : 0 ≤ (a1 : Int) := of_decide_eq_true (by first | (with_reducible assumption) | assumption)
                  have q5 : a1 < (a0.size : Int) := of_decide_eq_true (by first | (with_reducible assumption) | assumption)
                  have hx5 := bt_at a0 a1
                  replace p5 := eq_true p5
                  replace q5 := eq_true q5
                  have p9 : 0 ≤ ((ji6) : Int) := of_decide_eq_true (by first | (with_reducible assumption) | assumption)
                  have q9 : (ji6) < (a0.size : Int) := of_decide_eq_true (by first | (with_reducible assumption) | assumption)
                  have hx9 := bt_at a0 (ji6)
                  replace p9 := eq_true p9
                  replace q9 := eq_true q9
                  have p13 : 0 ≤ ((ji10) : Int) := of_decide_eq_true (by first | (with_reducible assumption) | assumption)
                  have q13 : (ji10) < (a0.size : Int) := of_decide_eq_true (by first | (with_reducible assumption) | assumption)
                  have hx13 := bt_at a0 (ji10)
                  replace p13 := eq_true p13
                  replace q13 := eq_true q13
                  have p17 : 0 ≤ ((ji14) : Int) := of_decide_eq_true (by first | (with_reducible assumption) | assumption)
                  have q17 : (ji14) < (a0.size : Int) := of_decide_eq_true (by first | (with_reducible assumption) | assumption)
                  have hx17 := bt_at a0 (ji14)
                  replace p17 := eq_true p17
                  replace q17 := eq_true q17
                  go_enter Try.func20, Try.ntmps20
                  go_wp2
                  repeat (go_quiet (fail); try go_wp2)
                  go_ret
                  exact ⟨by first | rfl | (simp; done) | (simp only [← hji6, ← hji10, ← hji14] <;> (first | rfl | simp)) | (simp [*]; done), by repeat (first | exact Drawn0.refl _ | apply Drawn0.step)⟩
                · rw [if_neg c16] at H
                  exact absurd H (by simp)
              · rw [if_neg c15] at H
                exact absurd H (by simp)
            · rw [if_neg c12] at H
              exact absurd H (by simp)
          · rw [if_neg c11] at H
            exact absurd H (by simp)
        · rw [if_neg c8] at H
          exact absurd H (by simp)
      · rw [if_neg c7] at H
        exact absurd H (by simp)
    · rw [if_neg c4] at H
      exact absurd H (by simp)
  · rw [if_neg c3] at H
    exact absurd H (by simp)

/-! ### bits_RotateLeft32: function 24 -/
def bits_RotateLeft32.f (a0 : Int) (a1 : Int) : Option (Int) := if 0 ≤ (Go.bits .and .u64 (IntKind.u64.wrap (a1)) 31) then (if 0 ≤ (IntKind.u64.wrap (32 - (Go.bits .and .u64 (IntKind.u64.wrap (a1)) 31))) then (some (Go.bits .or .u32 (shl .u32 a0 (Go.bits .and .u64 (IntKind.u64.wrap (a1)) 31)) (shr .u32 a0 (IntKind.u64.wrap (32 - (Go.bits .and .u64 (IntKind.u64.wrap (a1)) 31)))))) else (none)) else (none)
set_option maxHeartbeats 8000000 in
set_option maxRecDepth 100000 in
theorem bits_RotateLeft32.calls (a0 : Int) (a1 : Int) (r : Int) (w : World) (h : bits_RotateLeft32.f a0 a1 = some r) :
    Calls Try.prog 24 #[.int .u32 a0, .int .i64 a1] w fun e w' => e = .returned (.int .u32 r) ∧ Drawn0 w w' := by
  have H : (if 0 ≤ (Go.bits .and .u64 (IntKind.u64.wrap (a1)) 31) then (if 0 ≤ (IntKind.u64.wrap (32 - (Go.bits .and .u64 (IntKind.u64.wrap (a1)) 31))) then (some (Go.bits .or .u32 (shl .u32 a0 (Go.bits .and .u64 (IntKind.u64.wrap (a1)) 31)) (shr .u32 a0 (IntKind.u64.wrap (32 - (Go.bits .and .u64 (IntKind.u64.wrap (a1)) 31)))))) else (none)) else (none)) = some r := h
  clear h
  obtain ⟨ji3, hji3⟩ : ∃ j_ : Int, (Go.bits .and .u64 (IntKind.u64.wrap (a1)) 31) = j_ := ⟨_, rfl⟩
  replace H : (if 0 ≤ (ji3) then (if 0 ≤ (IntKind.u64.wrap (32 - (ji3))) then (some (Go.bits .or .u32 (shl .u32 a0 (ji3)) (shr .u32 a0 (IntKind.u64.wrap (32 - (ji3)))))) else (none)) else (none)) = some r := by first | (rw [hji3] at H; exact H) | (simp only [hji3] at H ⊢; exact H)
  by_cases c4 : 0 ≤ (ji3)
  · rw [if_pos c4] at H
    have c4b0 := eq_true c4
    have c4b1 : decide (0 ≤ (ji3)) = true := decide_eq_true c4
    clear c4
    obtain ⟨ji5, hji5⟩ : ∃ j_ : Int, (shl .u32 a0 (ji3)) = j_ := ⟨_, rfl⟩
    replace H : (if 0 ≤ (IntKind.u64.wrap (32 - (ji3))) then (some (Go.bits .or .u32 (ji5) (shr .u32 a0 (IntKind.u64.wrap (32 - (ji3)))))) else (none)) = some r := by first | (rw [hji5] at H; exact H) | (simp only [hji5] at H ⊢; exact H)
    have hji5_ : (IntKind.u32.wrap (a0 * 2 ^ min (ji3).toNat 32)) = ji5 := hji5
    have hji5z : (ji3) ≤ 32 → (IntKind.u32.wrap (a0 * 2 ^ (ji3).toNat)) = ji5 := shl_small hji5
    obtain ⟨ji6, hji6⟩ : ∃ j_ : Int, (IntKind.u64.wrap (32 - (ji3))) = j_ := ⟨_, rfl⟩
    replace H : (if 0 ≤ (ji6) then (some (Go.bits .or .u32 (ji5) (shr .u32 a0 (ji6)))) else (none)) = some r := by first | (rw [hji6] at H; exact H) | (simp only [hji6] at H ⊢; exact H)
    by_cases c7 : 0 ≤ (ji6)
    · rw [if_pos c7] at H
      have c7b0 := eq_true c7
      have c7b1 : decide (0 ≤ (ji6)) = true := decide_eq_true c7
      clear c7
      obtain ⟨ji8, hji8⟩ : ∃ j_ : Int, (shr .u32 a0 (ji6)) = j_ := ⟨_, rfl⟩
      replace H : (some (Go.bits .or .u32 (ji5) (ji8))) = some r := by first | (rw [hji8] at H; exact H) | (simp only [hji8] at H ⊢; exact H)
      have hji8_ : (a0 / 2 ^ min (ji6).toNat 32) = ji8 := hji8
      have hji8z : (ji6) ≤ 32 → (a0 / 2 ^ (ji6).toNat) = ji8 := shr_small hji8
      obtain rfl := Option.some.inj H
      go_enter Try.func24, Try.ntmps24
      go_wp2
      go_ret
      exact ⟨by first | rfl | (simp; done) | (simp only [← hji3, ← hji5, ← hji6, ← hji8] <;> (first | rfl | simp)) | (simp [*]; done), by repeat (first | exact Drawn0.refl _ | apply Drawn0.step)⟩
    · rw [if_neg c7] at H
      exact absurd H (by simp)
  · rw [if_neg c4] at H
    exact absurd H (by simp)

-- NOT PRINTED: function 23 (chacha_words_step)

-- NOT PRINTED: function 21 (chacha_words_quarter)

-- NOT PRINTED: function 17 (chacha_block)

/-! ### chacha_Block: function 10 -/
def cc_rot (x n : Int) : Int := Go.bits .or .u32 (shl .u32 x n) (shr .u32 x (32 - n))
theorem cc_rot_is (x n : Int) (hn : n = 16 ∨ n = 12 ∨ n = 8 ∨ n = 7) : bits_RotateLeft32.f x n = some (cc_rot x n) := by
 have e : ∀ m : Int, m = 16 ∨ m = 12 ∨ m = 8 ∨ m = 7 → Go.bits .and .u64 (IntKind.u64.wrap m) 31 = m ∧ IntKind.u64.wrap (32 - m) = 32 - m := by
  rintro m (rfl | rfl | rfl | rfl) <;> exact ⟨by decide +kernel, by decide +kernel⟩
 unfold bits_RotateLeft32.f
 rw [(e n hn).1, (e n hn).2, if_pos (by omega), if_pos (by omega)]
 rfl
def cc_stepL (xs : List Int) (a b d n : Int) : List Int :=
 (xs.set a.toNat ((rd xs a + rd xs b) % 4294967296)).set d.toNat (cc_rot (Go.bits .xor .u32 (rd (xs.set a.toNat ((rd xs a + rd xs b) % 4294967296)) d) (rd (xs.set a.toNat ((rd xs a + rd xs b) % 4294967296)) a)) n)
theorem cc_stepL_length (xs : List Int) (a b d n : Int) : (cc_stepL xs a b d n).length = xs.length := by simp [cc_stepL]
theorem cc_nums_set (xs : List Int) (i : Nat) (x : Int) : (nums .u32 (xs.set i x)).toArray = (nums .u32 xs).toArray.setIfInBounds i (.int .u32 x) := by
 simp [nums, List.map_set]
theorem cc_cell {W : World} {g : Nat} {xs : List Int} (h : W.heap[g]? = some (.cells (nums .u32 xs).toArray 44 (0, 0))) (i : Int) (h0 : 0 ≤ i) (h1 : i < xs.length) :
 W.cell? ⟨g, i.toNat, none⟩ = some (.int .u32 (rd xs i)) ∧ W.frozen? ⟨g, i.toNat, none⟩ = false := by
 refine ⟨(blk_cell h _).trans ?_, blk_frozen h _⟩
 have hi : i.toNat < xs.length := by omega
 simp [nums, rd, List.getD_eq_getElem?_getD, hi]
theorem cc_g_trans {w w1 w2 : World} {r : Option Nat} (h : w.grownBy w1 r) (k : w1.grownBy w2 r) : w.grownBy w2 r :=
 ⟨k.os.trans h.os, k.tape.trans h.tape, k.output.trans h.output, Nat.le_trans h.size k.size, fun i hi hn => (k.block i (Nat.lt_of_lt_of_le hi h.size) hn).trans (h.block i hi hn)⟩
theorem cc_g_set (w : World) (g i : Nat) (u : Value) : w.grownBy (w.setCell ⟨g, i, none⟩ u) (some g) :=
 ⟨rfl, rfl, rfl, by simp, fun k _ hk => Below.heap_setCell _ _ _ k (fun e => hk (by rw [e]))⟩
theorem cc_g_drewN (w : World) (n : Nat) (r : Option Nat) : w.grownBy (w.drewN n) r := ⟨rfl, rfl, rfl, Nat.le_refl _, fun _ _ _ => rfl⟩
theorem cc_g_drew (w : World) (r : Option Nat) : w.grownBy w.drew r := ⟨rfl, rfl, rfl, Nat.le_refl _, fun _ _ _ => rfl⟩
def chacha_words_step.T1 : Bool × List (List Nat × List Nat) := (true, [([], []), ([], []), ([], []), ([], []), ([2], [2]), ([4, 3], [3, 4]), ([5], [5]), ([], []), ([], []), ([7], [7]), ([9, 8], [8, 9]), ([10], [10]), ([6, 11], [6, 11]), ([], []), ([12, 13], [12, 13]), ([0], [0]), ([15, 1, 0, 1, 2, 3, 4, 5, 6, 7, 8, 9, 10, 11, 12, 13, 14], [1, 15]), ([16, 14, 14, 0, 1, 2, 3, 4, 5, 6, 7, 8, 9, 10, 11, 12, 13, 14], [14, 16])])
def chacha_words_step.B1 : List Nat := [0, 0, 0, 0, 4, 28, 60, 0, 0, 128, 896, 1920, 4092, 0, 16380, 1, 65535, 131071]
theorem chacha_words_step.tab1 : rtab .any (opsOf Try.f23 1) = chacha_words_step.T1 := by kernel_rfl
theorem chacha_words_step.bits1 : waitsOk chacha_words_step.T1.2 chacha_words_step.B1 = true := by kernel_rfl
set_option maxHeartbeats 1000000 in
set_option maxRecDepth 100000 in
theorem chacha_words_step.calls (g : Nat) (xs : List Int) (a b d n : Int) (w : World) (hc : w.heap[g]? = some (.cells (nums .u32 xs).toArray 44 (0, 0))) (hl : xs.length = 16) (ha : 0 ≤ a ∧ a < 16) (hb : 0 ≤ b ∧ b < 16) (hd : 0 ≤ d ∧ d < 16) (hn : n = 16 ∨ n = 12 ∨ n = 8 ∨ n = 7) :
 Calls Try.prog 23 #[.pointer (some ⟨g, 0, none⟩), .int .i64 a, .int .i64 b, .int .i64 d, .int .i64 n] w fun e w' => e = .returned (.tuple #[]) ∧ w'.heap[g]? = some (.cells (nums .u32 (cc_stepL xs a b d n)).toArray 44 (0, 0)) ∧ w.grownBy w' (some g) := by
 obtain ⟨a0, a16⟩ := ha
 obtain ⟨b0, b16⟩ := hb
 obtain ⟨d0, d16⟩ := hd
 obtain ⟨ca, fa⟩ := cc_cell hc a a0 (by omega)
 obtain ⟨cb, fb⟩ := cc_cell hc b b0 (by omega)
 obtain ⟨y, hy⟩ : ∃ y, y = xs.set a.toNat ((rd xs a + rd xs b) % 4294967296) := ⟨_, rfl⟩
 go_enter Try.func23, Try.ntmps23
 go_wp2
 go_region
 go_wp2
 have hc1 : ((w.setCell ⟨g, a.toNat, none⟩ (.int .u32 ((rd xs a + rd xs b) % 4294967296))).drew).heap[g]? = some (.cells (nums .u32 y).toArray 44 (0, 0)) := by
  rw [hy, cc_nums_set]
  exact blk_drew (blk_set hc _ _)
 have hg1 : w.grownBy ((w.setCell ⟨g, a.toNat, none⟩ (.int .u32 ((rd xs a + rd xs b) % 4294967296))).drew) (some g) := cc_g_trans (cc_g_set _ _ _ _) (cc_g_drew _ _)
 generalize ((w.setCell ⟨g, a.toNat, none⟩ (.int .u32 ((rd xs a + rd xs b) % 4294967296))).drew) = w1 at hc1 hg1 ⊢
 have hl1 : y.length = 16 := by rw [hy, List.length_set, hl]
 obtain ⟨ca1, _⟩ := cc_cell hc1 a a0 (by omega)
 obtain ⟨cd1, fd1⟩ := cc_cell hc1 d d0 (by omega)
 clear ca fa cb fb hc
 have Ny := Aside0.mk hy
 clear hy
 refine start_ (n := 18) (S := fun w' => w'.cell? ⟨g, d.toNat, none⟩ = some (.int .u32 (rd y d)) ∧ w'.cell? ⟨g, a.toNat, none⟩ = some (.int .u32 (rd y a))) (ds := [17]) #[false, false, false, false, false, false, false, false, false, false, false, false, false, false, false, false, false, false] (by kernel_rfl) rfl rfl ⟨cd1, ca1⟩ (fun hHeld => ?_); refine with_tabW chacha_words_step.tab1 chacha_words_step.bits1 (fun HT_ HW_ => ?_)
 refine pure_ (i := 0) (N := some 23) (v := ?_) (a' := ?_) #[true, false, false, false, false, false, false, false, false, false, false, false, false, false, false, false, false, false] rfl rfl (any_of HT_.out (by kernel_rfl)) (fun _ _ _ h => h) (Or.inl ⟨by rfl, ?_⟩) ?_ ?_
 rotate_left
 ·
  intro w'
  go_simp
  with_reducible rfl
 rotate_left
 ·
  simp only [Act.put, List.setIfInBounds_toArray, List.set_cons_zero, List.set_cons_succ]
  rfl
 refine pure_ (i := 1) (N := some 24) (v := ?_) (a' := ?_) #[true, true, false, false, false, false, false, false, false, false, false, false, false, false, false, false, false, false] rfl rfl (any_of HT_.out (by kernel_rfl)) (fun _ _ _ h => h) (Or.inl ⟨by rfl, ?_⟩) ?_ ?_
 rotate_left
 ·
  intro w'
  go_simp
  with_reducible rfl
 rotate_left
 ·
  simp only [Act.put, List.setIfInBounds_toArray, List.set_cons_zero, List.set_cons_succ]
  rfl
 refine pure_ (i := 2) (N := some 25) (v := ?_) (a' := ?_) #[true, true, true, false, false, false, false, false, false, false, false, false, false, false, false, false, false, false] rfl rfl (any_of HT_.out (by kernel_rfl)) (fun _ _ _ h => h) (Or.inl ⟨by rfl, ?_⟩) ?_ ?_
 rotate_left
 ·
  intro w'
  go_simp
  with_reducible rfl
 rotate_left
 ·
  simp only [Act.put, List.setIfInBounds_toArray, List.set_cons_zero, List.set_cons_succ]
  rfl
 refine pure_ (i := 3) (N := some 26) (v := ?_) (a' := ?_) #[true, true, true, true, false, false, false, false, false, false, false, false, false, false, false, false, false, false] rfl rfl (any_of HT_.out (by kernel_rfl)) (fun _ _ _ h => h) (Or.inl ⟨by rfl, ?_⟩) ?_ ?_
 rotate_left
 ·
  intro w'
  go_simp
  with_reducible rfl
 rotate_left
 ·
  simp only [Act.put, List.setIfInBounds_toArray, List.set_cons_zero, List.set_cons_succ]
  rfl
 refine pure_ (i := 4) (N := some 27) (v := ?_) (a' := ?_) #[true, true, true, true, true, false, false, false, false, false, false, false, false, false, false, false, false, false] rfl rfl (any_of HT_.out (by kernel_rfl)) (fun _ _ _ h => h) (Or.inl ⟨by rfl, ?_⟩) ?_ ?_
 rotate_left
 ·
  intro w'
  go_simp
  with_reducible rfl
 rotate_left
 ·
  simp only [Act.put, List.setIfInBounds_toArray, List.set_cons_zero, List.set_cons_succ]
  rfl
 refine pure_ (i := 5) (N := some 28) (v := ?_) (a' := ?_) #[true, true, true, true, true, true, false, false, false, false, false, false, false, false, false, false, false, false] rfl rfl (any_of HT_.out (by kernel_rfl)) (fun _ _ _ h => h) (Or.inl ⟨by rfl, ?_⟩) ?_ ?_
 rotate_left
 ·
  intro w'
  go_simp
  with_reducible rfl
 rotate_left
 ·
  simp only [Act.put, List.setIfInBounds_toArray, List.set_cons_zero, List.set_cons_succ]
  rfl
 refine pure_ (i := 7) (N := some 30) (v := ?_) (a' := ?_) #[true, true, true, true, true, true, false, true, false, false, false, false, false, false, false, false, false, false] rfl rfl (any_of HT_.out (by kernel_rfl)) (fun _ _ _ h => h) (Or.inl ⟨by rfl, ?_⟩) ?_ ?_
 rotate_left
 ·
  intro w'
  go_simp
  with_reducible rfl
 rotate_left
 ·
  simp only [Act.put, List.setIfInBounds_toArray, List.set_cons_zero, List.set_cons_succ]
  rfl
 refine pure_ (i := 8) (N := some 31) (v := ?_) (a' := ?_) #[true, true, true, true, true, true, false, true, true, false, false, false, false, false, false, false, false, false] rfl rfl (any_of HT_.out (by kernel_rfl)) (fun _ _ _ h => h) (Or.inl ⟨by rfl, ?_⟩) ?_ ?_
 rotate_left
 ·
  intro w'
  go_simp
  with_reducible rfl
 rotate_left
 ·
  simp only [Act.put, List.setIfInBounds_toArray, List.set_cons_zero, List.set_cons_succ]
  rfl
 refine pure_ (i := 9) (N := some 32) (v := ?_) (a' := ?_) #[true, true, true, true, true, true, false, true, true, true, false, false, false, false, false, false, false, false] rfl rfl (any_of HT_.out (by kernel_rfl)) (fun _ _ _ h => h) (Or.inl ⟨by rfl, ?_⟩) ?_ ?_
 rotate_left
 ·
  intro w'
  go_simp
  with_reducible rfl
 rotate_left
 ·
  simp only [Act.put, List.setIfInBounds_toArray, List.set_cons_zero, List.set_cons_succ]
  rfl
 refine pure_ (i := 10) (N := some 33) (v := ?_) (a' := ?_) #[true, true, true, true, true, true, false, true, true, true, true, false, false, false, false, false, false, false] rfl rfl (any_of HT_.out (by kernel_rfl)) (fun _ _ _ h => h) (Or.inl ⟨by rfl, ?_⟩) ?_ ?_
 rotate_left
 ·
  intro w'
  go_simp
  with_reducible rfl
 rotate_left
 ·
  simp only [Act.put, List.setIfInBounds_toArray, List.set_cons_zero, List.set_cons_succ]
  rfl
 refine pure_ (i := 13) (N := some 36) (v := ?_) (a' := ?_) #[true, true, true, true, true, true, false, true, true, true, true, false, false, true, false, false, false, false] rfl rfl (any_of HT_.out (by kernel_rfl)) (fun _ _ _ h => h) (Or.inl ⟨by rfl, ?_⟩) ?_ ?_
 rotate_left
 ·
  intro w'
  go_simp
  with_reducible rfl
 rotate_left
 ·
  simp only [Act.put, List.setIfInBounds_toArray, List.set_cons_zero, List.set_cons_succ]
  rfl
 refine pure_ (i := 15) (N := some 38) (v := ?_) (a' := ?_) #[true, true, true, true, true, true, false, true, true, true, true, false, false, true, false, true, false, false] rfl rfl (any_of HT_.out (by kernel_rfl)) (fun _ _ _ h => h) (Or.inl ⟨by rfl, ?_⟩) ?_ ?_
 rotate_left
 ·
  intro w'
  go_simp
  with_reducible rfl
 rotate_left
 ·
  simp only [Act.put, List.setIfInBounds_toArray, List.set_cons_zero, List.set_cons_succ]
  rfl
 refine take_ (i := 6) (N := some 29) (v := ?_) (a' := ?_) #[true, true, true, true, true, true, true, true, true, true, true, false, false, true, false, true, false, false] rfl rfl (take_ofW HT_.out HW_.out (by kernel_rfl)) (fun _ _ _ h => h) (Or.inl ⟨by rfl, ?_⟩) hHeld ?_ ?_
 rotate_left
 ·
  rintro w' ⟨s0, s1⟩
  go_simp
  with_reducible rfl
 rotate_left
 ·
  simp only [Act.put, List.setIfInBounds_toArray, List.set_cons_zero, List.set_cons_succ]
  rfl
 refine take_ (i := 11) (N := some 34) (v := ?_) (a' := ?_) #[true, true, true, true, true, true, true, true, true, true, true, true, false, true, false, true, false, false] rfl rfl (take_ofW HT_.out HW_.out (by kernel_rfl)) (fun _ _ _ h => h) (Or.inl ⟨by rfl, ?_⟩) hHeld ?_ ?_
 rotate_left
 ·
  rintro w' ⟨s0, s1⟩
  go_simp
  with_reducible rfl
 rotate_left
 ·
  simp only [Act.put, List.setIfInBounds_toArray, List.set_cons_zero, List.set_cons_succ]
  rfl
 refine pure_ (i := 12) (N := some 35) (v := ?_) (a' := ?_) #[true, true, true, true, true, true, true, true, true, true, true, true, true, true, false, true, false, false] rfl rfl (any_of HT_.out (by kernel_rfl)) (fun _ _ _ h => h) (Or.inl ⟨by rfl, ?_⟩) ?_ ?_
 rotate_left
 ·
  intro w'
  go_simp
  with_reducible rfl
 rotate_left
 ·
  simp only [Act.put, List.setIfInBounds_toArray, List.set_cons_zero, List.set_cons_succ]
  rfl
 refine one_ (i := 14) (N := some 37) #[true, true, true, true, true, true, true, true, true, true, true, true, true, true, true, true, false, false] rfl rfl (one_of HT_.out (by kernel_rfl)) (by decide) (fun K hK => ?_)
 refine goes_ Try.func24 (by kernel_rfl) rfl #[.int .u32 (Go.bits .xor .u32 (rd y d) (rd y a)), .int .i64 n] (by rfl) rfl rfl (by (try simp only [List.map_toArray, List.map_cons, List.map_nil]); first | done | rfl) ?_
 with_reducible refine (bits_RotateLeft32.calls (Go.bits .xor .u32 (rd y d) (rd y a)) n _ _ (cc_rot_is _ n hn)).mono ?_
 rintro e w' ⟨rfl, ⟨nd, rfl⟩⟩
 refine ⟨_, rfl, ?_⟩
 refine hK.out _ _ ⟨hHeld.1, hHeld.2⟩ (fun hHeld => ?_)
 clear hK K
 refine norm_ (a' := ?_) ?_ ?_
 rotate_left
 ·
  show Act.put _ (some 37) _ = _
  simp only [Act.put, List.setIfInBounds_toArray, List.set_cons_zero, List.set_cons_succ]
  rfl
 refine pure_ (i := 16) (N := some 39) (v := ?_) (a' := ?_) #[true, true, true, true, true, true, true, true, true, true, true, true, true, true, true, true, true, false] rfl rfl (any_of HT_.out (by kernel_rfl)) (fun _ _ _ h => h) (Or.inl ⟨by rfl, ?_⟩) ?_ ?_
 rotate_left
 ·
  intro w'
  go_simp
  with_reducible rfl
 rotate_left
 ·
  simp only [Act.put, List.setIfInBounds_toArray, List.set_cons_zero, List.set_cons_succ]
  rfl
 refine last_ (i := 17) (N := none) #[true, true, true, true, true, true, true, true, true, true, true, true, true, true, true, true, true, true] rfl rfl (one_of HT_.out (by kernel_rfl)) (by decide) (fun K hK => ?_)
 refine skip_ (w1 := ?_) (by rfl) rfl ?_ ?_
 rotate_left
 ·
  go_simp
  rfl
 refine hK.out _ _ ?_
 clear hK K
 refine done_ (done_of HT_.out (by kernel_rfl)) ?_
 go_wp2
 go_end0
 refine ⟨rfl, ?_, ?_⟩
 ·
  unfold cc_stepL
  rw [← Ny.out, cc_nums_set]
  exact blk_set hc1 _ _
 ·
  exact cc_g_trans hg1 (cc_g_trans (cc_g_drewN _ _ _) (cc_g_set _ _ _ _))
def cc_quarterL (xs : List Int) (a b c d : Int) : List Int := cc_stepL (cc_stepL (cc_stepL (cc_stepL xs a b d 16) c d b 12) a b d 8) c d b 7
theorem cc_quarterL_length (xs : List Int) (a b c d : Int) : (cc_quarterL xs a b c d).length = xs.length := by simp [cc_quarterL, cc_stepL_length]
set_option maxHeartbeats 1000000 in
set_option maxRecDepth 100000 in
theorem chacha_words_quarter.calls (g : Nat) (xs : List Int) (a b c d : Int) (w : World) (hc : w.heap[g]? = some (.cells (nums .u32 xs).toArray 44 (0, 0))) (hl : xs.length = 16) (ha : 0 ≤ a ∧ a < 16) (hb : 0 ≤ b ∧ b < 16) (hc' : 0 ≤ c ∧ c < 16) (hd : 0 ≤ d ∧ d < 16) :
 Calls Try.prog 21 #[.pointer (some ⟨g, 0, none⟩), .int .i64 a, .int .i64 b, .int .i64 c, .int .i64 d] w fun e w' => e = .returned (.tuple #[]) ∧ w'.heap[g]? = some (.cells (nums .u32 (cc_quarterL xs a b c d)).toArray 44 (0, 0)) ∧ w.grownBy w' (some g) := by
 have l1 : (cc_stepL xs a b d 16).length = 16 := by rw [cc_stepL_length, hl]
 have l2 : (cc_stepL (cc_stepL xs a b d 16) c d b 12).length = 16 := by rw [cc_stepL_length, l1]
 have l3 : (cc_stepL (cc_stepL (cc_stepL xs a b d 16) c d b 12) a b d 8).length = 16 := by rw [cc_stepL_length, l2]
 go_enter Try.func21, Try.ntmps21
 go_wp2_with (first | ((with_reducible refine gate_callee (f := 23) rfl ?_); refine goesL_ (some 14) rfl rfl Try.func23 (by kernel_rfl) rfl #[.pointer (some ⟨g, 0, none⟩), .int .i64 a, .int .i64 b, .int .i64 d, .int .i64 16] rfl (by (try simp only [List.map_toArray, List.map_cons, List.map_nil]); first | done | rfl) ?_; (with_reducible refine (chacha_words_step.calls g xs a b d 16 _ hc hl ha hb hd (.inl rfl)).mono ?_); rintro e w1 ⟨rfl, h1, g1⟩; refine ⟨_, rfl, ?_⟩) | ((with_reducible refine gate_callee (f := 23) rfl ?_); refine goesL_ (some 19) rfl rfl Try.func23 (by kernel_rfl) rfl #[.pointer (some ⟨g, 0, none⟩), .int .i64 c, .int .i64 d, .int .i64 b, .int .i64 12] rfl (by (try simp only [List.map_toArray, List.map_cons, List.map_nil]); first | done | rfl) ?_; (with_reducible refine (chacha_words_step.calls g _ c d b 12 _ h1 l1 hc' hd hb (.inr (.inl rfl))).mono ?_); rintro e w2 ⟨rfl, h2, g2⟩; refine ⟨_, rfl, ?_⟩) | ((with_reducible refine gate_callee (f := 23) rfl ?_); refine goesL_ (some 24) rfl rfl Try.func23 (by kernel_rfl) rfl #[.pointer (some ⟨g, 0, none⟩), .int .i64 a, .int .i64 b, .int .i64 d, .int .i64 8] rfl (by (try simp only [List.map_toArray, List.map_cons, List.map_nil]); first | done | rfl) ?_; (with_reducible refine (chacha_words_step.calls g _ a b d 8 _ h2 l2 ha hb hd (.inr (.inr (.inl rfl)))).mono ?_); rintro e w3 ⟨rfl, h3, g3⟩; refine ⟨_, rfl, ?_⟩) | ((with_reducible refine gate_callee (f := 23) rfl ?_); refine goesL_ (some 29) rfl rfl Try.func23 (by kernel_rfl) rfl #[.pointer (some ⟨g, 0, none⟩), .int .i64 c, .int .i64 d, .int .i64 b, .int .i64 7] rfl (by (try simp only [List.map_toArray, List.map_cons, List.map_nil]); first | done | rfl) ?_; (with_reducible refine (chacha_words_step.calls g _ c d b 7 _ h3 l3 hc' hd hb (.inr (.inr (.inr rfl)))).mono ?_); rintro e w4 ⟨rfl, h4, g4⟩; refine ⟨_, rfl, ?_⟩))
 go_end0
 exact ⟨rfl, h4, cc_g_trans g1 (cc_g_trans g2 (cc_g_trans g3 g4))⟩
def cc_le (s : ByteArray) (at_ : Int) : Int := Go.bits .or .u32 (Go.bits .or .u32 (Go.bits .or .u32 ((bt s at_) % 4294967296) ((((bt s (at_ + 1)) % 4294967296) * 256) % 4294967296)) ((((bt s (at_ + 2)) % 4294967296) * 65536) % 4294967296)) ((((bt s (at_ + 3)) % 4294967296) * 16777216) % 4294967296)
theorem cc_le_is (s : ByteArray) (at_ : Int) (h0 : 0 ≤ at_) (h1 : at_ + 4 ≤ s.size) (h2 : (s.size : Int) < 1000) : chacha_word.f s at_ = some (cc_le s at_) := by
 have w1 : wrap64 (at_ + 1) = at_ + 1 := by unfold wrap64; omega
 have w2 : wrap64 (at_ + 2) = at_ + 2 := by unfold wrap64; omega
 have w3 : wrap64 (at_ + 3) = at_ + 3 := by unfold wrap64; omega
 simp only [chacha_word.f, w1, w2, w3]
 rw [if_pos (by omega), if_pos (by omega), if_pos (by omega), if_pos (by omega), if_pos (by omega), if_pos (by omega), if_pos (by omega), if_pos (by omega)]
 rfl
/-- The document's words at the head. -/
def cc_head : ByteArray := ⟨#[101, 120, 112, 97, 110, 100, 32, 51, 50, 45, 98, 121, 116, 101, 32, 107]⟩
def cc_fill1 (t : ByteArray) (k : Nat) : List Int := (List.range k).foldl (fun xs i => xs.set i (cc_le t (4 * (i : Int)))) (List.replicate 16 0)
theorem cc_fill1_succ (t : ByteArray) (k : Nat) : cc_fill1 t (k + 1) = (cc_fill1 t k).set k (cc_le t (4 * (k : Int))) := by
 simp [cc_fill1, List.range_succ]
def cc_fill2 (xs : List Int) (t : ByteArray) (k : Nat) : List Int := (List.range k).foldl (fun xs i => xs.set (13 + i) (cc_le t (4 * (i : Int)))) xs
theorem cc_fill2_succ (xs : List Int) (t : ByteArray) (k : Nat) : cc_fill2 xs t (k + 1) = (cc_fill2 xs t k).set (13 + k) (cc_le t (4 * (k : Int))) := by
 simp [cc_fill2, List.range_succ]
def cc_col (xs : List Int) (k : Nat) : List Int := (List.range k).foldl (fun xs (i : Nat) => cc_quarterL xs i (4 + i) (8 + i) (12 + i)) xs
theorem cc_col_succ (xs : List Int) (k : Nat) : cc_col xs (k + 1) = cc_quarterL (cc_col xs k) k (4 + k) (8 + k) (12 + k) := by
 simp [cc_col, List.range_succ]
def cc_diag (xs : List Int) (k : Nat) : List Int := (List.range k).foldl (fun xs (i : Nat) => cc_quarterL xs i (4 + ((i : Int) + 1) % 4) (8 + ((i : Int) + 2) % 4) (12 + ((i : Int) + 3) % 4)) xs
theorem cc_diag_succ (xs : List Int) (k : Nat) : cc_diag xs (k + 1) = cc_quarterL (cc_diag xs k) k (4 + ((k : Int) + 1) % 4) (8 + ((k : Int) + 2) % 4) (12 + ((k : Int) + 3) % 4) := by
 simp [cc_diag, List.range_succ]
def cc_rounds (xs : List Int) : Nat → List Int
 | 0 => xs
 | k + 1 => cc_diag (cc_col (cc_rounds xs k) 4) 4
def cc_byte (was now : List Int) (j : Nat) : Int := (((rd was ((j / 4 : Nat) : Int) + rd now ((j / 4 : Nat) : Int)) % 4294967296) / 2 ^ (8 * (j % 4))) % 256
def cc_out (was now : List Int) (n : Nat) : List Int := (List.range n).foldl (fun o j => o.set j (cc_byte was now j)) (List.replicate 64 0)
theorem cc_out_succ (was now : List Int) (n : Nat) : cc_out was now (n + 1) = (cc_out was now n).set n (cc_byte was now n) := by
 simp [cc_out, List.range_succ]
/-- The state before the rounds. -/
def cc_start (key nonce : ByteArray) (ctr : Int) : List Int := cc_fill2 ((cc_fill1 (cc_head ++ key) 12).set 12 ctr) nonce 3
def cc_block (key nonce : ByteArray) (ctr : Int) : List Int := cc_out (cc_start key nonce ctr) (cc_rounds (cc_start key nonce ctr) 10) 64
/-- The memory while the block is made: the result's cell, the words. -/
structure cc_W (w W : World) (xs : List Int) : Prop where
 res : W.heap[w.heap.size]? = some (.cells (nums .u8 (List.replicate 64 0)).toArray 37 (0, 0))
 arr : W.heap[w.heap.size + 1]? = some (.cells (nums .u32 xs).toArray 44 (0, 0))
 bel : Below w.heap.size w W
 len : xs.length = 16
theorem cc_W.put {w W : World} {xs : List Int} (h : cc_W w W xs) (i : Nat) (x : Int) : cc_W w (W.setCell ⟨w.heap.size + 1, i, none⟩ (.int .u32 x)) (xs.set i x) :=
 ⟨blk_far h.res (by simp) _, by rw [cc_nums_set]; exact blk_set h.arr _ _, h.bel.setCell (by simp) _, by rw [List.length_set]; exact h.len⟩
theorem cc_W.drewN {w W : World} {xs : List Int} (h : cc_W w W xs) (n : Nat) : cc_W w (W.drewN n) xs := ⟨h.res, h.arr, pw_below_drewN h.bel _, h.len⟩
theorem cc_W.call {w W W1 : World} {xs ys : List Int} (h : cc_W w W xs) (ha : W1.heap[w.heap.size + 1]? = some (.cells (nums .u32 ys).toArray 44 (0, 0))) (hg : W.grownBy W1 (some (w.heap.size + 1))) (hl : ys.length = 16) : cc_W w W1 ys :=
 ⟨blk_grown h.res hg (by simp), ha, h.bel.grown hg (Nat.le_of_lt (blk_lt h.res)) (fun k hk => by cases hk; omega), hl⟩
theorem cc_g_alloc (w : World) (o : Obj) (r : Option Nat) : w.grownBy (w.alloc o) r := World.grownBy_alloc w o r
/-- .. and the words as they were, in a block of their own. -/
structure cc_W2 (w W : World) (g : Nat) (st xs : List Int) : Prop where
 one : cc_W w W xs
 was : W.heap[g]? = some (.cells (nums .u32 st).toArray 44 (0, 0))
 far : w.heap.size + 2 ≤ g
theorem cc_W2.call {w W W1 : World} {g : Nat} {st xs ys : List Int} (h : cc_W2 w W g st xs) (ha : W1.heap[w.heap.size + 1]? = some (.cells (nums .u32 ys).toArray 44 (0, 0))) (hg : W.grownBy W1 (some (w.heap.size + 1))) (hl : ys.length = 16) : cc_W2 w W1 g st ys :=
 ⟨h.one.call ha hg hl, blk_grown h.was hg (by have := h.far; intro e; cases e; omega), h.far⟩
theorem cc_W.copy {w W : World} {xs : List Int} (h : cc_W w W xs) : cc_W2 w ((W.alloc (.cells (nums .u32 (List.replicate 16 0)).toArray 44 (0, 0))).setRow W.heap.size (nums .u32 xs).toArray) W.heap.size xs xs := by
 have h1 := blk_lt h.arr
 have h0 := blk_lt h.res
 refine ⟨⟨?_, ?_, ?_, h.len⟩, ?_, h1⟩
 ·
  rw [setRow_other _ _ _ _ (by omega)]
  exact blk_alloc h.res _
 ·
  rw [setRow_other _ _ _ _ (by omega)]
  exact blk_alloc h.arr _
 ·
  exact Go.below_setRow (h.bel.alloc (by omega) _) (by omega) _
 ·
  exact setRow_heap _ _ _ _ _ _ (heap_alloc_new _ _)
theorem cc_out_length (was now : List Int) (n : Nat) : (cc_out was now n).length = 64 := by
 induction n with
 | zero => rfl
 | succ n ih => rw [cc_out_succ, List.length_set, ih]
theorem cc_nums_set8 (xs : List Int) (i : Nat) (x : Int) : (nums .u8 (xs.set i x)).toArray = (nums .u8 xs).toArray.setIfInBounds i (.int .u8 x) := by
 simp [nums, List.map_set]
/-- .. and what comes out. -/
structure cc_W3 (w W : World) (g q : Nat) (st xs o : List Int) : Prop where
 two : cc_W2 w W g st xs
 out : W.heap[q]? = some (.cells (nums .u8 o).toArray 37 (0, 0))
 far : g < q
theorem cc_W3.put {w W : World} {g q : Nat} {st xs o : List Int} (h : cc_W3 w W g q st xs o) (i : Nat) (x : Int) : cc_W3 w (W.setCell ⟨q, i, none⟩ (.int .u8 x)) g q st xs (o.set i x) := by
 have h1 := h.far
 have h2 := h.two.far
 have h3 : w.heap.size ≤ q := by omega
 exact ⟨⟨⟨blk_far h.two.one.res (by show w.heap.size ≠ q; omega) _, blk_far h.two.one.arr (by show w.heap.size + 1 ≠ q; omega) _, h.two.one.bel.setCell h3 _, h.two.one.len⟩, blk_far h.two.was (by show g ≠ q; omega) _, h.two.far⟩, by rw [cc_nums_set8]; exact blk_set h.out _ _, h.far⟩
theorem cc_W2.made {w W : World} {g : Nat} {st xs : List Int} (h : cc_W2 w W g st xs) : cc_W3 w (W.alloc (.cells (nums .u8 (List.replicate 64 0)).toArray 37 (0, 0))) g W.heap.size st xs (List.replicate 64 0) :=
 ⟨⟨⟨blk_alloc h.one.res _, blk_alloc h.one.arr _, h.one.bel.alloc (Nat.le_of_lt (blk_lt h.one.res)) _, h.one.len⟩, blk_alloc h.was _, h.far⟩, heap_alloc_new _ _, blk_lt h.was⟩
theorem cc_cell8 {W : World} {g : Nat} {xs : List Int} (h : W.heap[g]? = some (.cells (nums .u8 xs).toArray 37 (0, 0))) (i : Nat) (h1 : i < xs.length) :
 W.cell? ⟨g, i, none⟩ = some (.int .u8 (rd xs i)) ∧ W.frozen? ⟨g, i, none⟩ = false := by
 refine ⟨(blk_cell h _).trans ?_, blk_frozen h _⟩
 simp [nums, rd, List.getD_eq_getElem?_getD, h1]
theorem cc_fill1_length (t : ByteArray) (k : Nat) : (cc_fill1 t k).length = 16 := by
 induction k with
 | zero => rfl
 | succ k ih => rw [cc_fill1_succ, List.length_set, ih]
theorem cc_fill2_length (xs : List Int) (t : ByteArray) (k : Nat) : (cc_fill2 xs t k).length = xs.length := by
 induction k with
 | zero => rfl
 | succ k ih => rw [cc_fill2_succ, List.length_set, ih]
theorem cc_start_length (t n : ByteArray) (c : Int) : (cc_fill2 ((cc_fill1 t 12).set 12 c) n 3).length = 16 := by rw [cc_fill2_length, List.length_set, cc_fill1_length]
theorem cc_byte_at (was now : List Int) (j k : Nat) (hk : k < 4) : cc_byte was now (4 * j + k) = (rd was (j : Int) + rd now (j : Int)) % 4294967296 / 2 ^ (8 * k) % 256 := by
 have e1 : (4 * j + k) / 4 = j := by omega
 have e2 : (4 * j + k) % 4 = k := by omega
 unfold cc_byte
 rw [e1, e2]
theorem cc_new2 (w : World) (o o' : Obj) : ((w.alloc o).alloc o').heap[w.heap.size + 1]? = some o' := by
 have := heap_alloc_new (w.alloc o) o'
 simpa using this
theorem cc_info35 : (Try.prog.info? 35).map (·.size) = some 1 := by kernel_rfl
theorem cc_info44 : (Try.prog.info? 44).map (·.size) = some 16 := by kernel_rfl
theorem cc_info37 : (Try.prog.info? 37).map (·.size) = some 64 := by kernel_rfl
theorem cc_index44 (s : List Int) (hs : s.length = 16) (j : Nat) (hj : j < 16) (W : World) : (Instr.index 44 (.agg (nums .u32 s).toArray) (.int .i64 (j : Int))).run Try.prog W = .ok (.int .u32 (rd s j)) W := by
 obtain ⟨i4, h4, h4s⟩ := Option.map_eq_some_iff.1 cc_info35
 have hc : (nums .u32 s)[j]? = some (.int .u32 (s[j]?.getD 0)) := by
  simp [nums, hs, hj]
 simp [Instr.index, asIntOf, run_underlying Try.underlying44, part, isAgg, run_underlying Try.underlying35, sizeOf, typeInfo, h4, h4s, hj, hc, rd]
set_option maxHeartbeats 2000000 in
set_option maxRecDepth 100000 in
theorem chacha_block.calls (key nonce : ByteArray) (ctr : Int) (w : World) (hk : key.size = 32) (hn : nonce.size = 12) (hc : 0 ≤ ctr ∧ ctr < 4294967296) :
 Calls Try.prog 17 #[.string key, .string nonce, .int .i64 ctr] w fun e w' => e = .returned (.agg (nums .u8 (cc_block key nonce ctr)).toArray) ∧ Below w.heap.size w w' := by
 obtain ⟨c0, c1⟩ := hc
 obtain ⟨text, ht⟩ : ∃ t, t = cc_head ++ key := ⟨_, rfl⟩
 have hts : text.size = 48 := by rw [ht, ByteArray.size_append, hk]; rfl
 have ht' : Aside0 ((⟨#[101, 120, 112, 97, 110, 100, 32, 51, 50, 45, 98, 121, 116, 101, 32, 107]⟩ : ByteArray) ++ key = text) := ⟨ht.symm⟩
 have HT := Aside0.mk ht
 clear ht
 go_enter Try.func17, Try.ntmps17
 go_wp2
 rw [ht'.out]
 go_loopw [20] (fun v wr => ∃ (i : Int) (k : Nat), v = .int .i64 i ∧ Aside0 (i = (k : Int)) ∧ Aside0 (k ≤ 12) ∧ Aside0 (cc_W w wr (cc_fill1 text k))) (fun v _ => 12 - (intOf v).toNat)
 case atStart => exact ⟨0, 0, rfl, ⟨rfl⟩, ⟨by omega⟩, ⟨⟨(heap_alloc_old _ _ (by simp)).trans (heap_alloc_new _ _), cc_new2 _ _ _, ((Below.refl _ _).alloc (Nat.le_refl _) _).alloc (by simp) _, rfl⟩⟩⟩
 case round =>
  obtain ⟨i, k, rfl, HI, HK, HW⟩ := hrel
  by_cases hlt : k < 12
  ·
   obtain rfl := HI.out
   clear HI
   have hf := cc_le_is text (4 * (k : Int)) (by omega) (by omega) (by omega)
   obtain ⟨hcl, hfz⟩ := cc_cell HW.out.arr (k : Int) (by omega) (by rw [HW.out.len]; omega)
   rw [Int.toNat_natCast] at hcl hfz
   go_wp2_with ((with_reducible refine gate_callee (f := 20) rfl ?_); refine goesL_ (some 27) rfl rfl Try.func20 (by kernel_rfl) rfl #[.string text, .int .i64 (4 * (k : Int))] rfl (by (try simp only [List.map_toArray, List.map_cons, List.map_nil]); first | done | rfl) ?_; (with_reducible refine (chacha_word.calls text (4 * (k : Int)) _ _ hf).mono ?_); rintro e w1 ⟨rfl, ⟨nd, rfl⟩⟩; refine ⟨_, rfl, ?_⟩)
   go_roundw
   case rel => exact ⟨(k : Int) + 1, k + 1, by first | rfl | go_num, ⟨by omega⟩, ⟨by omega⟩, ⟨by rw [cc_fill1_succ]; exact (HW.out.drewN _).put _ _⟩⟩
   case measure => simp [intOf]; omega
  ·
   obtain rfl : k = 12 := by have := HK.out; omega
   obtain rfl : i = 12 := HI.out
   clear HI
   clear hlt HK
   have hcl : wr.cell? ⟨w.heap.size + 1, 12, none⟩ = some (.int .u32 (rd (cc_fill1 text 12) 12)) := (cc_cell HW.out.arr 12 (by omega) (by rw [HW.out.len]; omega)).1
   have hfz : wr.frozen? ⟨w.heap.size + 1, 12, none⟩ = false := (cc_cell HW.out.arr 12 (by omega) (by rw [HW.out.len]; omega)).2
   go_wp2
   have HW2 := Aside0.mk (HW.out.put 12 ctr)
   generalize wr.setCell ⟨w.heap.size + 1, 12, none⟩ (.int .u32 ctr) = wx at HW2 ⊢
   clear hcl hfz HW
   obtain ⟨x2, hx2⟩ : ∃ x, x = (cc_fill1 text 12).set 12 ctr := ⟨_, rfl⟩
   rw [← hx2] at HW2
   have HX2 := Aside0.mk hx2
   clear hx2
   go_loopw [33] (fun v wr => ∃ (i : Int) (k : Nat), v = .int .i64 i ∧ Aside0 (i = (k : Int)) ∧ Aside0 (k ≤ 3) ∧ Aside0 (cc_W w wr (cc_fill2 x2 nonce k))) (fun v _ => 3 - (intOf v).toNat)
   case atStart => exact ⟨0, 0, rfl, ⟨rfl⟩, ⟨by omega⟩, HW2⟩
   case round =>
    obtain ⟨i, k, rfl, HI, HK, HW⟩ := hrel
    by_cases hlt : k < 3
    ·
     obtain rfl := HI.out
     clear HI
     have hf := cc_le_is nonce (4 * (k : Int)) (by omega) (by omega) (by omega)
     obtain ⟨hcl, hfz⟩ := cc_cell HW.out.arr (13 + (k : Int)) (by omega) (by rw [HW.out.len]; omega)
     have e13 : Aside0 ((13 + (k : Int)).toNat = 13 + k) := ⟨by omega⟩
     rw [e13.out] at hcl hfz
     go_wp2_with ((with_reducible refine gate_callee (f := 20) rfl ?_); refine goesL_ (some 41) rfl rfl Try.func20 (by kernel_rfl) rfl #[.string nonce, .int .i64 (4 * (k : Int))] rfl (by (try simp only [List.map_toArray, List.map_cons, List.map_nil]); first | done | rfl) ?_; (with_reducible refine (chacha_word.calls nonce (4 * (k : Int)) _ _ hf).mono ?_); rintro e w1 ⟨rfl, ⟨nd, rfl⟩⟩; refine ⟨_, rfl, ?_⟩)
     go_roundw
     case rel => exact ⟨(k : Int) + 1, k + 1, by first | rfl | go_num, ⟨by omega⟩, ⟨by omega⟩, ⟨by rw [cc_fill2_succ]; exact (HW.out.drewN _).put _ _⟩⟩
     case measure => simp [intOf]; omega
    ·
     obtain rfl : k = 3 := by have := HK.out; omega
     obtain rfl : i = 3 := HI.out
     clear HI
     clear hlt HK
     obtain ⟨st, hst⟩ : ∃ x, x = cc_fill2 x2 nonce 3 := ⟨_, rfl⟩
     rw [← hst] at HW
     have HST := Aside0.mk hst
     clear hst HW2
     have hall : (nums .u32 st).toArray.all (·.oneCell') = true := by simp [nums, Value.oneCell']
     have hln : (nums .u32 st).toArray.size = 16 := by simp [nums, HW.out.len]
     go_wp2_with (first | (refine wpList_load_row rfl 44 (.tmp 7) rfl (w.heap.size + 1) (by simp [Act.eval]) 44 (nums .u32 st).toArray (0, 0) _ HW.out.arr Try.underlying44 rfl (by rw [cc_info44, hln]) ?_) | (refine wpList_store_row rfl 44 (.tmp 11) (.tmp 44) rfl wr.heap.size (nums .u32 st).toArray (by simp [Act.eval]) (by simp [Act.eval]) 44 _ (heap_alloc_new _ _) (by rw [cc_info44, hln]) (by rw [hln]; rfl) hall ?_))
     obtain ⟨g2, hg2⟩ : ∃ g, g = wr.heap.size := ⟨_, rfl⟩
     have HG2 : Aside0 (w.heap.size + 2 ≤ g2) := ⟨by rw [hg2]; exact blk_lt HW.out.arr⟩
     have HW3 : Aside0 (cc_W2 w ((wr.alloc (.cells (nums .u32 (List.replicate 16 0)).toArray 44 (0, 0))).setRow g2 (nums .u32 st).toArray) g2 st st) := ⟨by
      rw [hg2]
      exact HW.out.copy⟩
     rw [← hg2]
     replace HW3 : Aside0 (cc_W2 w ((wr.alloc (.cells #[.int .u32 0, .int .u32 0, .int .u32 0, .int .u32 0, .int .u32 0, .int .u32 0, .int .u32 0, .int .u32 0, .int .u32 0, .int .u32 0, .int .u32 0, .int .u32 0, .int .u32 0, .int .u32 0, .int .u32 0, .int .u32 0] 44 (0, 0))).setRow g2 (nums .u32 st).toArray) g2 st st) := HW3
     generalize ((wr.alloc (.cells #[.int .u32 0, .int .u32 0, .int .u32 0, .int .u32 0, .int .u32 0, .int .u32 0, .int .u32 0, .int .u32 0, .int .u32 0, .int .u32 0, .int .u32 0, .int .u32 0, .int .u32 0, .int .u32 0, .int .u32 0, .int .u32 0] 44 (0, 0))).setRow g2 (nums .u32 st).toArray) = wy at HW3 ⊢
     clear hg2 HW
     go_loopw [45] (fun v wr => ∃ (i : Int) (r : Nat), v = .int .i64 i ∧ Aside0 (i = (r : Int)) ∧ Aside0 (r ≤ 10) ∧ Aside0 (cc_W2 w wr g2 st (cc_rounds st r))) (fun v _ => 10 - (intOf v).toNat)
     case atStart => exact ⟨0, 0, rfl, ⟨rfl⟩, ⟨by omega⟩, HW3⟩
     case round =>
      clear HW3
      obtain ⟨i, r, rfl, HI, HK, HW⟩ := hrel
      by_cases hlt : r < 10
      ·
       obtain rfl := HI.out
       clear HI
       have hb10 : decide ((r : Int) < 10) = true := decide_eq_true (by omega)
       obtain ⟨x3, hx3⟩ : ∃ x, x = cc_rounds st r := ⟨_, rfl⟩
       rw [← hx3] at HW
       have HX3 := Aside0.mk hx3
       clear hx3
       go_wp2
       go_loopw [47] (fun v wr => ∃ (i : Int) (k : Nat), v = .int .i64 i ∧ Aside0 (i = (k : Int)) ∧ Aside0 (k ≤ 4) ∧ Aside0 (cc_W2 w wr g2 st (cc_col x3 k))) (fun v _ => 4 - (intOf v).toNat)
       case atStart => exact ⟨0, 0, rfl, ⟨rfl⟩, ⟨by omega⟩, HW⟩
       case round =>
        clear HW
        obtain ⟨i, k, rfl, HI, HK1, HW⟩ := hrel
        by_cases hlt1 : k < 4
        ·
         obtain rfl := HI.out
         clear HI
         go_wp2_with ((with_reducible refine gate_callee (f := 21) rfl ?_); refine goesL_ (some 57) rfl rfl Try.func21 (by kernel_rfl) rfl #[.pointer (some ⟨w.heap.size + 1, 0, none⟩), .int .i64 (k : Int), .int .i64 (4 + (k : Int)), .int .i64 (8 + (k : Int)), .int .i64 (12 + (k : Int))] rfl (by (try simp only [List.map_toArray, List.map_cons, List.map_nil]); first | done | rfl) ?_; (with_reducible refine (chacha_words_quarter.calls (w.heap.size + 1) _ (k : Int) (4 + (k : Int)) (8 + (k : Int)) (12 + (k : Int)) _ HW.out.one.arr HW.out.one.len (by omega) (by omega) (by omega) (by omega)).mono ?_); rintro e w1 ⟨rfl, h1, hg1⟩; refine ⟨_, rfl, ?_⟩)
         go_roundw
         case rel => exact ⟨(k : Int) + 1, k + 1, by first | rfl | go_num, ⟨by omega⟩, ⟨by omega⟩, ⟨by rw [cc_col_succ]; exact HW.out.call h1 hg1 (by rw [cc_quarterL_length]; exact HW.out.one.len)⟩⟩
         case measure => simp [intOf]; omega
        ·
         obtain rfl : k = 4 := by have := HK1.out; omega
         obtain rfl : i = 4 := HI.out
         clear HI
         clear hlt1 HK1
         obtain ⟨x4, hx4⟩ : ∃ x, x = cc_col x3 4 := ⟨_, rfl⟩
         rw [← hx4] at HW
         have HX4 := Aside0.mk hx4
         clear hx4
         go_wp2
         go_loopw [59] (fun v wr => ∃ (i : Int) (k : Nat), v = .int .i64 i ∧ Aside0 (i = (k : Int)) ∧ Aside0 (k ≤ 4) ∧ Aside0 (cc_W2 w wr g2 st (cc_diag x4 k))) (fun v _ => 4 - (intOf v).toNat)
         case atStart => exact ⟨0, 0, rfl, ⟨rfl⟩, ⟨by omega⟩, HW⟩
         case round =>
          clear HW
          obtain ⟨i, k, rfl, HI, HK1, HW⟩ := hrel
          by_cases hlt1 : k < 4
          ·
           obtain rfl := HI.out
           clear HI
           have t1 : Int.tmod ((k : Int) + 1) 4 = ((k : Int) + 1) % 4 := Int.tmod_eq_emod_of_nonneg (by omega)
           have t2 : Int.tmod ((k : Int) + 2) 4 = ((k : Int) + 2) % 4 := Int.tmod_eq_emod_of_nonneg (by omega)
           have t3 : Int.tmod ((k : Int) + 3) 4 = ((k : Int) + 3) % 4 := Int.tmod_eq_emod_of_nonneg (by omega)
           go_wp2_with ((with_reducible refine gate_callee (f := 21) rfl ?_); refine goesL_ (some 75) rfl rfl Try.func21 (by kernel_rfl) rfl #[.pointer (some ⟨w.heap.size + 1, 0, none⟩), .int .i64 (k : Int), .int .i64 (4 + ((k : Int) + 1) % 4), .int .i64 (8 + ((k : Int) + 2) % 4), .int .i64 (12 + ((k : Int) + 3) % 4)] rfl (by (try simp only [List.map_toArray, List.map_cons, List.map_nil]); first | done | rfl) ?_; (with_reducible refine (chacha_words_quarter.calls (w.heap.size + 1) _ (k : Int) (4 + ((k : Int) + 1) % 4) (8 + ((k : Int) + 2) % 4) (12 + ((k : Int) + 3) % 4) _ HW.out.one.arr HW.out.one.len (by omega) (by omega) (by omega) (by omega)).mono ?_); rintro e w1 ⟨rfl, h1, hg1⟩; refine ⟨_, rfl, ?_⟩)
           go_roundw
           case rel => exact ⟨(k : Int) + 1, k + 1, by first | rfl | go_num, ⟨by omega⟩, ⟨by omega⟩, ⟨by rw [cc_diag_succ]; exact HW.out.call h1 hg1 (by rw [cc_quarterL_length]; exact HW.out.one.len)⟩⟩
           case measure => simp [intOf]; omega
          ·
           obtain rfl : k = 4 := by have := HK1.out; omega
           obtain rfl : i = 4 := HI.out
           clear HI
           clear hlt1 HK1
           go_wp2
           go_roundw
           case rel => exact ⟨(r : Int) + 1, r + 1, by first | rfl | go_num, ⟨by omega⟩, ⟨by omega⟩, ⟨by rw [show cc_rounds st (r + 1) = cc_diag (cc_col (cc_rounds st r) 4) 4 from rfl, ← HX3.out, ← HX4.out]; exact HW.out⟩⟩
           case measure => simp [intOf]; omega
      ·
       obtain rfl : r = 10 := by have := HK.out; omega
       obtain rfl : i = 10 := HI.out
       clear HI
       clear hlt HK
       obtain ⟨now, hnow⟩ : ∃ x, x = cc_rounds st 10 := ⟨_, rfl⟩
       rw [← hnow] at HW
       have HNOW := Aside0.mk hnow
       clear hnow
       have hsl : st.length = 16 := by
        rw [HST.out, HX2.out]
        exact cc_start_length text nonce ctr
       have hln1 : (nums .u32 st).toArray.size = 16 := by simp [nums, hsl]
       go_wp2_with (first | (refine wpList_load_row rfl 44 (.tmp 11) rfl g2 (by simp [Act.eval]) 44 (nums .u32 st).toArray (0, 0) _ (blk_alloc HW.out.was _) Try.underlying44 rfl (by rw [cc_info44, hln1]) ?_))
       obtain ⟨g3, hg3⟩ : ∃ g, g = wr.heap.size := ⟨_, rfl⟩
       have HW4 := Aside0.mk HW.out.made
       rw [← hg3] at HW4
       rw [← hg3]
       clear hg3
       go_loopw [79] (fun v wr => ∃ (i : Int) (j : Nat), v = .int .i64 i ∧ Aside0 (i = (j : Int)) ∧ Aside0 (j ≤ 16) ∧ Aside0 (cc_W3 w wr g2 g3 st now (cc_out st now (4 * j)))) (fun v _ => 16 - (intOf v).toNat)
       case atStart => exact ⟨0, 0, rfl, ⟨rfl⟩, ⟨by omega⟩, HW4⟩
       case round =>
        clear HW4 HW
        obtain ⟨i, j, rfl, HI, HK, HW⟩ := hrel
        by_cases hlt : j < 16
        ·
         obtain rfl := HI.out
         clear HI
         have hb16 : decide ((j : Int) < 16) = true := decide_eq_true (by omega)
         have hix := cc_index44 st hsl j hlt
         obtain ⟨hcl, hfz⟩ := cc_cell HW.out.two.one.arr (j : Int) (by omega) (by rw [HW.out.two.one.len]; omega)
         rw [Int.toNat_natCast] at hcl hfz
         go_wp2
         clear hcl hfz
         go_loopw [88] (fun v wr => ∃ (i : Int) (k : Nat), v = .int .i64 i ∧ Aside0 (i = (k : Int)) ∧ Aside0 (k ≤ 4) ∧ Aside0 (cc_W3 w wr g2 g3 st now (cc_out st now (4 * j + k)))) (fun v _ => 4 - (intOf v).toNat)
         case atStart => exact ⟨0, 0, rfl, ⟨rfl⟩, ⟨by omega⟩, HW⟩
         case round =>
          clear HW
          obtain ⟨i, k, rfl, HI, HK1, HW⟩ := hrel
          by_cases hlt1 : k < 4
          ·
           obtain rfl := HI.out
           clear HI
           obtain ⟨hcl, hfz⟩ := cc_cell8 HW.out.out (4 * j + k) (by rw [cc_out_length]; omega)
           go_wp2
           go_roundw
           case rel => exact ⟨(k : Int) + 1, k + 1, by first | rfl | go_num, ⟨by omega⟩, ⟨by omega⟩, ⟨by rw [show 4 * j + (k + 1) = (4 * j + k) + 1 from rfl, cc_out_succ, cc_byte_at st now j k hlt1]; exact HW.out.put _ _⟩⟩
           case measure => simp [intOf]; omega
          ·
           obtain rfl : k = 4 := by have := HK1.out; omega
           obtain rfl : i = 4 := HI.out
           clear HI
           clear hlt1 HK1
           go_wp2
           go_roundw
           case rel => exact ⟨(j : Int) + 1, j + 1, by first | rfl | go_num, ⟨by omega⟩, ⟨by omega⟩, HW⟩
           case measure => simp [intOf]; omega
        ·
         obtain rfl : j = 16 := by have := HK.out; omega
         obtain rfl : i = 16 := HI.out
         clear HI
         clear hlt HK
         have ho := cc_out_length st now 64
         have hall8 : (nums .u8 (cc_out st now 64)).toArray.all (·.oneCell') = true := by simp [nums, Value.oneCell']
         have hln8 : (nums .u8 (cc_out st now 64)).toArray.size = 64 := by simp [nums, ho]
         go_wp2_with (first | (refine wpList_load_row rfl 37 (.tmp 14) rfl g3 (by simp [Act.eval]) 37 (nums .u8 (cc_out st now 64)).toArray (0, 0) _ HW.out.out Try.underlying37 rfl (by rw [cc_info37, hln8]) ?_) | (refine wpList_store_row rfl 37 (.tmp 6) (.tmp 103) rfl w.heap.size (nums .u8 (cc_out st now 64)).toArray (by simp [Act.eval, Act.put]) (by simp [Act.eval, Act.put]) 37 _ HW.out.two.one.res (by rw [cc_info37, hln8]) (by rw [hln8]; rfl) hall8 ?_))
         refine bodyPost_ret (results_cell_row rfl _ _ w.heap.size 37 (nums .u8 (cc_out st now 64)).toArray (0, 0) _ (by simp [Act.put]) (setRow_heap _ _ _ _ _ _ HW.out.two.one.res) Try.underlying37 rfl (by rw [cc_info37, hln8])) (by simp [Act.put]) ⟨?_, ?_⟩
         ·
          rw [HNOW.out, HST.out, HX2.out, HT.out]
          rfl
         ·
          exact Go.below_setRow HW.out.two.one.bel (Nat.le_refl _) _
def chacha_Block.f (a0 : ByteArray) (a1 : ByteArray) (a2 : Int) : Option (ByteArray) := some (if a0.size = 32 ∧ a1.size = 12 ∧ 0 ≤ a2 ∧ a2 < 4294967296 then strOfNums (cc_block a0 a1 a2) else (⟨#[]⟩ : ByteArray))
theorem cc_may_yes (a0 a1 : ByteArray) (a2 : Int) (h : a0.size = 32 ∧ a1.size = 12 ∧ 0 ≤ a2 ∧ a2 < 4294967296) : chacha_may.f a0 a1 a2 = some true := by
 obtain ⟨h0, h1, h2, h3⟩ := h
 unfold chacha_may.f
 rw [if_pos (by omega), if_pos (by omega), if_pos (by omega), decide_eq_true h3]
theorem cc_may_no (a0 a1 : ByteArray) (a2 : Int) (h : ¬ (a0.size = 32 ∧ a1.size = 12 ∧ 0 ≤ a2 ∧ a2 < 4294967296)) : chacha_may.f a0 a1 a2 = some false := by
 unfold chacha_may.f
 by_cases h0 : (a0.size : Int) = 32
 ·
  by_cases h1 : (a1.size : Int) = 12
  ·
   by_cases h2 : a2 ≥ 0
   ·
    rw [if_pos h0, if_pos h1, if_pos h2, decide_eq_false (fun h3 => h ⟨by omega, by omega, by omega, h3⟩)]
   ·
    rw [if_pos h0, if_pos h1, if_neg h2]
  ·
   rw [if_pos h0, if_neg h1]
 ·
  rw [if_neg h0]
theorem cc_block_length (key nonce : ByteArray) (ctr : Int) : (cc_block key nonce ctr).length = 64 := cc_out_length _ _ _
theorem cc_conv (W : World) (g : Nat) (bl : List Int) (h : W.heap[g]? = some (.cells (nums .u8 bl).toArray 37 (0, 0))) (hl : bl.length = 64) :
 (convert 25 9 (.slice (some ⟨g, 0, none⟩) 64 64)).run Try.prog W = .ok (.string (strOfNums bl)) W := by
 refine string_of_reads (n := 64) (c := 64) Try.underlying25 Try.underlying5 Try.underlying9 ⟨hl, by decide, fun _ => ⟨_, rfl, fun j hj => ?_⟩⟩
 rw [add_plain, (cc_cell8 h j (by omega)).1]
 simp [rd]
set_option maxHeartbeats 1000000 in
set_option maxRecDepth 100000 in
theorem chacha_Block.calls (a0 : ByteArray) (a1 : ByteArray) (a2 : Int) (r : ByteArray) (w : World) (h : chacha_Block.f a0 a1 a2 = some r) :
 Calls Try.prog 10 #[.string a0, .string a1, .int .i64 a2] w fun e w' => e = .returned (.string r) ∧ Below w.heap.size w w' := by
 obtain rfl := Option.some.inj h
 clear h
 by_cases hm : a0.size = 32 ∧ a1.size = 12 ∧ 0 ≤ a2 ∧ a2 < 4294967296
 ·
  rw [if_pos hm]
  have hmy := cc_may_yes a0 a1 a2 hm
  have HM := Aside0.mk hm
  clear hm
  have hl := cc_block_length a0 a1 a2
  have hbc := chacha_block.calls a0 a1 a2
  generalize cc_block a0 a1 a2 = bl at hl hbc ⊢
  have hall8 : (nums .u8 bl).toArray.all (·.oneCell') = true := by simp [nums, Value.oneCell']
  have hln8 : (nums .u8 bl).toArray.size = 64 := by simp [nums, hl]
  have HA := Aside0.mk hall8
  clear hall8
  go_enter Try.func10, Try.ntmps10
  go_wp2_with (first | ((with_reducible refine gate_callee (f := 16) rfl ?_); refine goesL_ (some 11) rfl rfl Try.func16 (by kernel_rfl) rfl #[.string a0, .string a1, .int .i64 a2] rfl (by (try simp only [List.map_toArray, List.map_cons, List.map_nil]); first | done | rfl) ?_; (with_reducible refine (chacha_may.calls a0 a1 a2 _ _ hmy).mono ?_); rintro e w1 ⟨rfl, ⟨nd, rfl⟩⟩; refine ⟨_, rfl, ?_⟩) | ((with_reducible refine gate_callee (f := 17) rfl ?_); refine goesL_ (some 16) rfl rfl Try.func17 (by kernel_rfl) rfl #[.string a0, .string a1, .int .i64 a2] rfl (by (try simp only [List.map_toArray, List.map_cons, List.map_nil]); first | done | rfl) ?_; (with_reducible refine (hbc _ HM.out.1 HM.out.2.1 HM.out.2.2).mono ?_); rintro e w2 ⟨rfl, hb2_⟩; have hb2 : Below w.heap.size w w2 := below_then (pw_below_drewN (Below.refl w.heap.size w) nd) (Nat.le_refl _) hb2_; refine ⟨_, rfl, ?_⟩) | ((with_reducible refine gate_dst (N := 7) rfl ?_); refine box_event ?hg (N := 7) ?hd (cs := (nums .u8 (List.replicate 64 0)).toArray) (t := 37) ?hr ?_; (case hd => rfl); (case hg => rfl); (case hr => first | (go_simp; done) | (go_simp; rfl)); intro g3 hg3 w3 hbox hb3; have HG3 := Aside0.mk hg3; clear hg3) | (refine wpList_store_row rfl 37 (.tmp 7) (.tmp 16) rfl g3 (nums .u8 bl).toArray (by simp [Act.eval, Act.put]) (by simp [Act.eval, Act.put]) 37 _ hbox (by rw [cc_info37, hln8]) (by rw [hln8]; rfl) HA.out ?_; have h9 := setRow_heap _ _ _ (nums .u8 bl).toArray _ _ hbox; have hb9 : Below w.heap.size w (w3.setRow g3 (nums .u8 bl).toArray) := Go.below_setRow (below_then hb2 hb2.size hb3) (by rw [HG3.out]; exact hb2.size) _; generalize w3.setRow g3 (nums .u8 bl).toArray = w4 at h9 hb9 ⊢; have hcv := cc_conv w4 g3 bl h9 hl))
  go_ret
  exact ⟨rfl, hb9⟩
 ·
  rw [if_neg hm]
  have hmn := cc_may_no a0 a1 a2 hm
  clear hm
  go_enter Try.func10, Try.ntmps10
  go_wp2_with (first | ((with_reducible refine gate_callee (f := 16) rfl ?_); refine goesL_ (some 11) rfl rfl Try.func16 (by kernel_rfl) rfl #[.string a0, .string a1, .int .i64 a2] rfl (by (try simp only [List.map_toArray, List.map_cons, List.map_nil]); first | done | rfl) ?_; (with_reducible refine (chacha_may.calls a0 a1 a2 _ _ hmn).mono ?_); rintro e w1 ⟨rfl, ⟨nd, rfl⟩⟩; refine ⟨_, rfl, ?_⟩))
  go_ret
  exact ⟨rfl, pw_below_drewN (Below.refl _ _) _⟩
theorem cc_own {W : World} {b : Nat} {ok : Nat → Prop} {v : Value} {xs : List Int} {k : IntKind} {e : Nat} (h : Kd.R (Kd.int k) e W b ok v xs) : Kd.R (Kd.int k) e W b (fun k => some k = v.ownBlock) v xs :=
 Kd.R_of_own (Kd.own_of_R h) (fun _ hk => hk.symm)

end Go.Proofs.Yticeijifmmegeaa.Q
