-- Written by a program of this work (wip/tools/mkprint.py) over the kit's print; Lean checks it.
import Derived.Test.YtaonemedoikieaaMx0
import Derived.Test.YtaonemedoikieaaMx2
import Derived.Test.YtaonemedoikieaaHAbb2
namespace Go.Proofs.Ytaonemedoikieaa.M
open Go.RowKit Go.Proofs.YtaonemedoikieaaW.PrintWords Go.Proofs.YtaonemedoikieaaW.PrintLast Go.Proofs.YtaonemedoikieaaW.PrintMore Go.Proofs.Ytaonemedoikieaa.AB
attribute [local go_sem] max2_int min2_int max_two min_two max_three min_three max_four min_four   -- for this text's walks alone
set_option linter.unusedVariables false
set_option linter.unusedSimpArgs false

/-! ### deaddropref7_mix: function 38 -/
mutual
def deaddropref7_mix.l0 : Nat → Int → List (S70) → List (S70) → Bool → List Int → Int → Option ((List (S70)))
 | 0, _, _, _, _, _, _ => none
 | k + 1, x0, x1, x2, x3, x9, x10 => if x10 < (x1.length : Int) then (if 0 ≤ x10 then (if ((rd_T70 x1 x10).f0) = x0 then ((deaddropref7_mark.f k x9 ((rd_T70 x1 x10).f1)).bind fun t149 => ((deaddropref7_mark.f k t149 (wrap64 (((rd_T70 x1 x10).f2) + 1))).bind fun t153 => (deaddropref7_mix.l0 k x0 x1 x2 x3 t153 (wrap64 (x10 + 1))))) else (deaddropref7_mix.l0 k x0 x1 x2 x3 x9 (wrap64 (x10 + 1)))) else (none)) else (deaddropref7_mix.l1 k x0 x1 x2 x3 x9 0)
def deaddropref7_mix.l1 : Nat → Int → List (S70) → List (S70) → Bool → List Int → Int → Option ((List (S70)))
 | 0, _, _, _, _, _, _ => none
 | k + 1, x0, x1, x2, x3, x9, x11 => if x11 < (x2.length : Int) then (if 0 ≤ x11 then (if ((rd_T70 x2 x11).f0) = x0 then ((deaddropref7_mark.f k x9 ((rd_T70 x2 x11).f1)).bind fun t158 => ((deaddropref7_mark.f k t158 (wrap64 (((rd_T70 x2 x11).f2) + 1))).bind fun t162 => (deaddropref7_mix.l1 k x0 x1 x2 x3 t162 (wrap64 (x11 + 1))))) else (deaddropref7_mix.l1 k x0 x1 x2 x3 x9 (wrap64 (x11 + 1)))) else (none)) else (deaddropref7_mix.l2 k x0 x1 x2 x3 x9 ([] : List (S70)) 0)
def deaddropref7_mix.l2 : Nat → Int → List (S70) → List (S70) → Bool → List Int → List (S70) → Int → Option ((List (S70)))
 | 0, _, _, _, _, _, _, _ => none
 | k + 1, x0, x1, x2, x3, x9, x12, x13 => if (wrap64 (x13 + 1)) < (x9.length : Int) then (if 0 ≤ x13 then (if x13 < (x9.length : Int) then ((deaddropref7_Has.f k x1 x0 (rd x9 x13)).bind fun t167 => ((deaddropref7_Has.f k x2 x0 (rd x9 x13)).bind fun t168 => (if x3 = true then (none) else (if t167 = true then (deaddropref7_mix.j3 k x0 x1 x2 x3 x9 x12 x13 false) else (deaddropref7_mix.j3 k x0 x1 x2 x3 x9 x12 x13 (!t168)))))) else (none)) else (none)) else (some x12)
def deaddropref7_mix.j3 : Nat → Int → List (S70) → List (S70) → Bool → List Int → List (S70) → Int → Bool → Option ((List (S70)))
 | 0, _, _, _, _, _, _, _, _ => none
 | k + 1, x0, x1, x2, x3, x9, x12, x13, x105 => if x105 = true then (deaddropref7_mix.l2 k x0 x1 x2 x3 x9 x12 (wrap64 (x13 + 1))) else (if (x12.length : Int) > 0 then (if 0 ≤ (wrap64 ((x12.length : Int) - 1)) then (if (wrap64 ((x12.length : Int) - 1)) < (x12.length : Int) then (if 0 ≤ x13 then (if x13 < (x9.length : Int) then (if ((rd_T70 x12 (wrap64 ((x12.length : Int) - 1))).f2) = (wrap64 ((rd x9 x13) - 1)) then (if 0 ≤ (wrap64 (x13 + 1)) then (if (wrap64 (x13 + 1)) < (x9.length : Int) then (deaddropref7_mix.l2 k x0 x1 x2 x3 x9 (x12.set ((wrap64 ((x12.length : Int) - 1)) : Int).toNat (⟨(rd_T70 x12 (wrap64 ((x12.length : Int) - 1))).f0, (rd_T70 x12 (wrap64 ((x12.length : Int) - 1))).f1, wrap64 ((rd x9 (wrap64 (x13 + 1))) - 1)⟩ : S70)) (wrap64 (x13 + 1))) else (none)) else (none)) else (if 0 ≤ (wrap64 (x13 + 1)) then (if (wrap64 (x13 + 1)) < (x9.length : Int) then (if x12.length < 5864062014805 then (deaddropref7_mix.l2 k x0 x1 x2 x3 x9 (x12 ++ [(⟨x0, rd x9 x13, wrap64 ((rd x9 (wrap64 (x13 + 1))) - 1)⟩ : S70)]) (wrap64 (x13 + 1))) else (none)) else (none)) else (none))) else (none)) else (none)) else (none)) else (none)) else (if 0 ≤ x13 then (if x13 < (x9.length : Int) then (if 0 ≤ (wrap64 (x13 + 1)) then (if (wrap64 (x13 + 1)) < (x9.length : Int) then (if x12.length < 5864062014805 then (deaddropref7_mix.l2 k x0 x1 x2 x3 x9 (x12 ++ [(⟨x0, rd x9 x13, wrap64 ((rd x9 (wrap64 (x13 + 1))) - 1)⟩ : S70)]) (wrap64 (x13 + 1))) else (none)) else (none)) else (none)) else (none)) else (none)))
end
def deaddropref7_mix.f (k : Nat) (a0 : Int) (l1 : List (S70)) (l2 : List (S70)) (a3 : Bool) : Option ((List (S70))) := deaddropref7_mix.l0 k a0 l1 l2 a3 ([] : List Int) 0
theorem deaddropref7_mix.mono_l : ∀ k, (∀ y0 y1 y2 y3 y4 y5, LeO (deaddropref7_mix.l0 k y0 y1 y2 y3 y4 y5) (deaddropref7_mix.l0 (k + 1) y0 y1 y2 y3 y4 y5)) ∧ (∀ y0 y1 y2 y3 y4 y5, LeO (deaddropref7_mix.l1 k y0 y1 y2 y3 y4 y5) (deaddropref7_mix.l1 (k + 1) y0 y1 y2 y3 y4 y5)) ∧ (∀ y0 y1 y2 y3 y4 y5 y6, LeO (deaddropref7_mix.l2 k y0 y1 y2 y3 y4 y5 y6) (deaddropref7_mix.l2 (k + 1) y0 y1 y2 y3 y4 y5 y6)) ∧ (∀ y0 y1 y2 y3 y4 y5 y6 y7, LeO (deaddropref7_mix.j3 k y0 y1 y2 y3 y4 y5 y6 y7) (deaddropref7_mix.j3 (k + 1) y0 y1 y2 y3 y4 y5 y6 y7))
 | 0 => by refine ⟨?_, ?_, ?_, ?_⟩ <;> (intros; intro r h; simp [deaddropref7_mix.l0, deaddropref7_mix.l1, deaddropref7_mix.l2, deaddropref7_mix.j3] at h)
 | k + 1 => by
  obtain ⟨ih0, ih1, ih2, ih3⟩ := deaddropref7_mix.mono_l k
  refine ⟨?_, ?_, ?_, ?_⟩ <;> intros <;> (first | unfold deaddropref7_mix.l0 | unfold deaddropref7_mix.l1 | unfold deaddropref7_mix.l2 | unfold deaddropref7_mix.j3) <;>
  repeat' first
  | with_reducible (first | exact ih0 _ _ _ _ _ _ | exact ih1 _ _ _ _ _ _ | exact ih2 _ _ _ _ _ _ _ | exact ih3 _ _ _ _ _ _ _ _ | exact deaddropref7_Has.mono _ _ _ _ | exact deaddropref7_mark.mono _ _ _ | exact LeO.refl _ | exact LeO.none _ | refine LeO.ite ?_ ?_ | refine LeO.bind ?_ (fun _ => ?_))
  | exact ih0 _ _ _ _ _ _ | exact ih1 _ _ _ _ _ _ | exact ih2 _ _ _ _ _ _ _ | exact ih3 _ _ _ _ _ _ _ _ | exact deaddropref7_Has.mono _ _ _ _ | exact deaddropref7_mark.mono _ _ _ | exact LeO.none _ | refine LeO.ite ?_ ?_ | refine LeO.bind ?_ (fun _ => ?_)
theorem deaddropref7_mix.mono : ∀ a0 a1 a2 a3 k, LeO (deaddropref7_mix.f k a0 a1 a2 a3) (deaddropref7_mix.f (k + 1) a0 a1 a2 a3) := by
 intro a0 a1 a2 a3 k
 obtain ⟨ih0, ih1, ih2, ih3⟩ := deaddropref7_mix.mono_l k
 unfold deaddropref7_mix.f
 repeat' first
  | with_reducible (first | exact ih0 _ _ _ _ _ _ | exact ih1 _ _ _ _ _ _ | exact ih2 _ _ _ _ _ _ _ | exact ih3 _ _ _ _ _ _ _ _ | exact deaddropref7_Has.mono _ _ _ _ | exact deaddropref7_mark.mono _ _ _ | exact LeO.refl _ | exact LeO.none _ | refine LeO.ite ?_ ?_ | refine LeO.bind ?_ (fun _ => ?_))
  | exact ih0 _ _ _ _ _ _ | exact ih1 _ _ _ _ _ _ | exact ih2 _ _ _ _ _ _ _ | exact ih3 _ _ _ _ _ _ _ _ | exact deaddropref7_Has.mono _ _ _ _ | exact deaddropref7_mark.mono _ _ _ | exact LeO.none _ | refine LeO.ite ?_ ?_ | refine LeO.bind ?_ (fun _ => ?_)
def deaddropref7_mix.T6 : Bool × List (List Nat × List Nat) := (true, [([], []), ([], []), ([], []), ([1, 2], [1, 2]), ([3], [3]), ([4], [4]), ([0, 5], [0, 5]), ([], []), ([], []), ([7, 8], [7, 8]), ([9], [9]), ([10], [10]), ([11], [11]), ([6, 12, 6], [6, 12]), ([13, 13, 0, 1, 2, 3, 4, 5, 6, 7, 8, 9, 10, 11, 12, 13], [0, 13])])
def deaddropref7_mix.B6 : List Nat := [0, 0, 0, 6, 14, 30, 63, 0, 0, 384, 896, 1920, 3968, 8191, 16383]
theorem deaddropref7_mix.tab6 : rtab .any (opsOf Try.f38 6) = deaddropref7_mix.T6 := by kernel_rfl
theorem deaddropref7_mix.bits6 : waitsOk deaddropref7_mix.T6.2 deaddropref7_mix.B6 = true := by kernel_rfl
def deaddropref7_mix.T11 : Bool × List (List Nat × List Nat) := (true, [([], []), ([], []), ([], []), ([1, 2], [1, 2]), ([3], [3]), ([4], [4]), ([0, 5], [0, 5]), ([], []), ([], []), ([7, 8], [7, 8]), ([9], [9]), ([10], [10]), ([11], [11]), ([6, 12, 6], [6, 12]), ([13, 13, 0, 1, 2, 3, 4, 5, 6, 7, 8, 9, 10, 11, 12, 13], [0, 13])])
def deaddropref7_mix.B11 : List Nat := [0, 0, 0, 6, 14, 30, 63, 0, 0, 384, 896, 1920, 3968, 8191, 16383]
theorem deaddropref7_mix.tab11 : rtab .any (opsOf Try.f38 11) = deaddropref7_mix.T11 := by kernel_rfl
theorem deaddropref7_mix.bits11 : waitsOk deaddropref7_mix.T11.2 deaddropref7_mix.B11 = true := by kernel_rfl
def deaddropref7_mix.T17 : Bool × List (List Nat × List Nat) := (true, [([], []), ([], []), ([0, 1], [0, 1]), ([], []), ([], []), ([3, 4, 2], [3, 4]), ([2, 5, 0, 1, 2], [2]), ([5, 6, 0, 1, 2, 3, 4, 5, 6], [5])])
def deaddropref7_mix.B17 : List Nat := [0, 0, 3, 0, 0, 31, 63, 127]
theorem deaddropref7_mix.tab17 : rtab .any (opsOf Try.f38 17) = deaddropref7_mix.T17 := by kernel_rfl
theorem deaddropref7_mix.bits17 : waitsOk deaddropref7_mix.T17.2 deaddropref7_mix.B17 = true := by kernel_rfl
def deaddropref7_mix.T18 : Bool × List (List Nat × List Nat) := (true, [([], []), ([], []), ([], []), ([], []), ([2, 3], [2, 3]), ([4], [4]), ([], []), ([], []), ([7], [7]), ([6, 8], [6, 8]), ([9], [9]), ([10], [10]), ([1, 5, 11], [1, 5, 11]), ([12], [12]), ([0, 13], [0, 13]), ([14, 14, 0, 1, 2, 3, 4, 5, 6, 7, 8, 9, 10, 11, 12, 13, 14], [0, 14])])
def deaddropref7_mix.B18 : List Nat := [0, 0, 0, 0, 12, 28, 0, 0, 128, 448, 960, 1984, 4094, 8190, 16383, 32767]
theorem deaddropref7_mix.tab18 : rtab .any (opsOf Try.f38 18) = deaddropref7_mix.T18 := by kernel_rfl
theorem deaddropref7_mix.bits18 : waitsOk deaddropref7_mix.T18.2 deaddropref7_mix.B18 = true := by kernel_rfl
def deaddropref7_mix.T20 : Bool × List (List Nat × List Nat) := (true, [([], []), ([0], [0]), ([1], [1]), ([2], [2]), ([3], [3]), ([3], [3]), ([5, 3], [3, 5]), ([6, 3], [3, 6]), ([4, 7, 3], [3, 4, 7]), ([8, 3], [3, 8]), ([9, 3], [3, 9]), ([3], [3]), ([3], [3]), ([11, 12, 3], [3, 11, 12]), ([13, 3], [3, 13]), ([14, 3], [3, 14]), ([10, 15, 3], [3, 10, 15]), ([3, 16], [3, 16]), ([17, 3], [17])])
def deaddropref7_mix.B20 : List Nat := [0, 1, 3, 7, 15, 15, 47, 111, 255, 511, 1023, 15, 15, 6159, 14351, 30735, 65535, 131071, 262143]
theorem deaddropref7_mix.tab20 : rtab .any (opsOf Try.f38 20) = deaddropref7_mix.T20 := by kernel_rfl
theorem deaddropref7_mix.bits20 : waitsOk deaddropref7_mix.T20.2 deaddropref7_mix.B20 = true := by kernel_rfl
set_option maxHeartbeats 8000000 in
set_option maxRecDepth 100000 in
theorem deaddropref7_mix.calls (k : Nat) (a0 : Int) (A1 : Option Addr) (c1 : Nat) (l1 : List (S70)) (A2 : Option Addr) (c2 : Nat) (l2 : List (S70)) (a3 : Bool) (r : List (S70)) (w : World) (hr1 : Kd.C k70 w A1 l1.length l1) (hc1 : l1.length ≤ c1) (hr2 : Kd.C k70 w A2 l2.length l2) (hc2 : l2.length ≤ c2) (h : deaddropref7_mix.f k a0 l1 l2 a3 = some r) :
 Calls Try.prog 38 #[.int .i64 a0, .slice A1 l1.length c1, .slice A2 l2.length c2, .bool a3] w fun e w' => ∃ v0_ : Value, e = .returned (v0_) ∧ Kd.R k70 70 w' w.heap.size (fun _ => True) v0_ r ∧ Below w.heap.size w w' := by
 have hu32 := Try.underlying32
 have hu70 := Try.underlying70
 have HR1 := Aside0.mk hr1
 have HC1 := Aside0.mk hc1
 clear hr1 hc1
 have HR2 := Aside0.mk hr2
 have HC2 := Aside0.mk hc2
 clear hr2 hc2
 have HB := Aside0.mk (Below.refl w.heap.size w)
 have H : (deaddropref7_mix.l0 k a0 l1 l2 a3 ([] : List Int) 0) = some r := h
 clear h
 have H' := Aside0.mk H
 clear H
 go_enter Try.func38, Try.ntmps38
 go_wp2
 go_loopg [9, 10] k (fun kq v9 v10 w' => ∃ (x9_1 : List Int) (x10_1 : Int), v10 = .int .i64 x10_1 ∧ Aside0 (deaddropref7_mix.l0 kq a0 l1 l2 a3 x9_1 x10_1 = some r) ∧ Aside0 (kq ≤ k) ∧ Aside0 (Kd.R (Kd.int .i64) 3 w' w.heap.size (fun _ => True) v9 x9_1) ∧ Aside0 (Below w.heap.size w w'))
 case atStart => exact ⟨(([] : List Int)), (0), ok_, H', ⟨Nat.le_refl _⟩, ⟨by first | exact Kd.R_nil _ _ _ _ _ | exact Kd.N_nil _ _ _ _ _ | exact Kd.V_nil _ _ _ _ _ | exact Kd.Q_nil _ _ _ _ _ | exact Kd.S_nil _ _ _ _ _⟩, ⟨bw HB.out⟩⟩
 case round =>
  clear H'
  try clear c1
  try clear c2
  obtain ⟨x9_1, x10_1, rfl, HA, HK1, HO_9, HB⟩ := hrel
  cases gk with
  | zero => exact absurd HA.out (by simp [deaddropref7_mix.l0])
  | succ k1 =>
   have H := HA.out
   clear HA
   simp only [deaddropref7_mix.l0] at H
   by_cases c5 : x10_1 < (l1.length : Int)
   ·
    rw [if_pos c5] at H
    have c5b0 : decide (x10_1 < (l1.length : Int)) = true := decide_eq_true c5
    clear c5
    by_cases c6 : 0 ≤ x10_1
    rotate_left
    ·
     rw [if_neg c6] at H
     exact absurd H (by simp)
    rw [if_pos c6] at H
    have c6b0 : decide (0 ≤ x10_1) = true := decide_eq_true c6
    clear c6
    by_cases c7 : ((rd_T70 l1 x10_1).f0) = a0
    ·
     rw [if_pos c7] at H
     have c7b0 : (((rd_T70 l1 x10_1).f0) == a0) = true := beq_iff_eq.mpr c7
     have c7b1 : (((rd_T70 l1 x10_1).f0) != a0) = false := bne_eq_false_iff_eq.mpr c7
     clear c7
     replace H := Option.bind_eq_some_iff.mp H
     obtain ⟨t149, A80, H⟩ := H
     replace H : ((deaddropref7_mark.f k1 t149 (wrap64 (((rd_T70 l1 x10_1).f2) + 1))).bind fun t153 => (deaddropref7_mix.l0 k1 a0 l1 l2 a3 t153 (wrap64 (x10_1 + 1)))) = some r := H
     have A8 := Aside0.mk A80
     clear A80
     replace H := Option.bind_eq_some_iff.mp H
     obtain ⟨t153, A90, H⟩ := H
     replace H : (deaddropref7_mix.l0 k1 a0 l1 l2 a3 t153 (wrap64 (x10_1 + 1))) = some r := H
     have A9 := Aside0.mk A90
     clear A90
     have H' := Aside0.mk H
     clear H
     have p147 : 0 ≤ (x10_1 : Int) := of_decide_eq_true as_
     have q147 : x10_1 < (l1.length : Int) := of_decide_eq_true as_
     obtain ⟨ad147, e147, hx147_0, hx147_1, hx147_2⟩ := at_T70 HR1.out x10_1 p147 q147
     cases e147
     replace hx147_0 := (HB.out.cell (World.block_lt_of_cell? w _ hx147_0)).trans hx147_0
     replace hx147_1 := (HB.out.cell (World.block_lt_of_cell? w _ hx147_1)).trans hx147_1
     replace hx147_2 := (HB.out.cell (World.block_lt_of_cell? w _ hx147_2)).trans hx147_2
     replace p147 := eq_true p147
     replace q147 := eq_true q147
     try go_wp2
     replace HO_9 := Aside0.mk (Kd.R_drew HO_9.out)
     replace HB := Aside0.mk (below_drew1 HB.out)
     have p148 : 0 ≤ (x10_1 : Int) := of_decide_eq_true as_
     have q148 : x10_1 < (l1.length : Int) := of_decide_eq_true as_
     obtain ⟨ad148, e148, hx148_0, hx148_1, hx148_2⟩ := at_T70 HR1.out x10_1 p148 q148
     have hw148_2 := hx148_2
     have hw148_1 := hx148_1
     have hw148_0 := hx148_0
     obtain rfl : ad147 = ad148 := (by injection e148)
     replace hx148_0 := (HB.out.cell (World.block_lt_of_cell? w _ hx148_0)).trans hx148_0
     replace hx148_1 := (HB.out.cell (World.block_lt_of_cell? w _ hx148_1)).trans hx148_1
     replace hx148_2 := (HB.out.cell (World.block_lt_of_cell? w _ hx148_2)).trans hx148_2
     replace p148 := eq_true p148
     replace q148 := eq_true q148
     have p152 : 0 ≤ (x10_1 : Int) := of_decide_eq_true as_
     have q152 : x10_1 < (l1.length : Int) := of_decide_eq_true as_
     obtain ⟨ad152, e152, hx152_0, hx152_1, hx152_2⟩ := at_T70 HR1.out x10_1 p152 q152
     have hw152_2 := hx152_2
     have hw152_1 := hx152_1
     have hw152_0 := hx152_0
     obtain rfl : ad147 = ad152 := (by injection e152)
     replace hx152_0 := (HB.out.cell (World.block_lt_of_cell? w _ hx152_0)).trans hx152_0
     replace hx152_1 := (HB.out.cell (World.block_lt_of_cell? w _ hx152_1)).trans hx152_1
     replace hx152_2 := (HB.out.cell (World.block_lt_of_cell? w _ hx152_2)).trans hx152_2
     replace p152 := eq_true p152
     replace q152 := eq_true q152
     obtain ⟨Ao11, co11, eo11⟩ := Kd.R_slice HO_9.out
     (first | subst eo11 | (injection eo11 with f1_ f2_ f3_; have f4_ := f1_.symm; have f5_ := f3_.symm; clear f1_ f2_ f3_; subst f4_; subst f5_))
     refine start_ (n := 15) (S := fun w' => w'.cell? (ad147.add ((x10_1).toNat * 3)) = some (.int .i64 ((rd_T70 l1 x10_1).f0)) ∧ w'.cell? ⟨(ad147.add ((x10_1).toNat * 3)).block, (ad147.add ((x10_1).toNat * 3)).off + 1, none⟩ = some (.int .i64 ((rd_T70 l1 x10_1).f1)) ∧ w'.cell? ⟨(ad147.add ((x10_1).toNat * 3)).block, (ad147.add ((x10_1).toNat * 3)).off + 2, none⟩ = some (.int .i64 ((rd_T70 l1 x10_1).f2)) ∧ w'.cell? (ad147.add ((x10_1).toNat * 3)) = some (.int .i64 ((rd_T70 l1 x10_1).f0)) ∧ w'.cell? ⟨(ad147.add ((x10_1).toNat * 3)).block, (ad147.add ((x10_1).toNat * 3)).off + 1, none⟩ = some (.int .i64 ((rd_T70 l1 x10_1).f1)) ∧ w'.cell? ⟨(ad147.add ((x10_1).toNat * 3)).block, (ad147.add ((x10_1).toNat * 3)).off + 2, none⟩ = some (.int .i64 ((rd_T70 l1 x10_1).f2))) (ds := []) (fl 0 15) (by kernel_rfl) rfl rfl ⟨(bc HB.out hw148_0), (bc HB.out hw148_1), (bc HB.out hw148_2), (bc HB.out hw152_0), (bc HB.out hw152_1), (bc HB.out hw152_2)⟩ (fun hHeld => ?_); refine with_tabW deaddropref7_mix.tab6 deaddropref7_mix.bits6 (fun HT_ HW_ => ?_)
     generalize wr.drew = w10 at HO_9 HB hx148_0 hx148_1 hx148_2 hx152_0 hx152_1 hx152_2 hHeld ⊢
     refine pure_ (i := 0) (N := some 30) (fl 1 15) rfl rfl (any_of HT_.out (by kernel_rfl)) (fun _ _ _ h => h) (Or.inl ⟨by rfl, py⟩) pa ?_
     refine pure_ (i := 1) (N := some 31) (fl 2 15) rfl rfl (any_of HT_.out (by kernel_rfl)) (fun _ _ _ h => h) (Or.inl ⟨by rfl, py⟩) pa ?_
     refine pure_ (i := 2) (N := some 32) (fl 3 15) rfl rfl (any_of HT_.out (by kernel_rfl)) (fun _ _ _ h => h) (Or.inl ⟨by rfl, py⟩) pa ?_
     refine pure_ (i := 3) (N := some 33) (fl 4 15) rfl rfl (any_of HT_.out (by kernel_rfl)) (fun _ _ _ h => h) (Or.inl ⟨by rfl, py⟩) pa ?_
     refine pure_ (i := 4) (N := some 34) (fl 5 15) rfl rfl (any_of HT_.out (by kernel_rfl)) (fun _ _ _ h => h) (Or.inl ⟨by rfl, py⟩) pa ?_
     refine pure_ (i := 7) (N := some 37) #[true, true, true, true, true, false, false, true, false, false, false, false, false, false, false] rfl rfl (any_of HT_.out (by kernel_rfl)) (fun _ _ _ h => h) (Or.inl ⟨by rfl, py⟩) pa ?_
     refine pure_ (i := 8) (N := some 38) #[true, true, true, true, true, false, false, true, true, false, false, false, false, false, false] rfl rfl (any_of HT_.out (by kernel_rfl)) (fun _ _ _ h => h) (Or.inl ⟨by rfl, py⟩) pa ?_
     refine pure_ (i := 9) (N := some 39) #[true, true, true, true, true, false, false, true, true, true, false, false, false, false, false] rfl rfl (any_of HT_.out (by kernel_rfl)) (fun _ _ _ h => h) (Or.inl ⟨by rfl, py⟩) pa ?_
     refine pure_ (i := 10) (N := some 40) #[true, true, true, true, true, false, false, true, true, true, true, false, false, false, false] rfl rfl (any_of HT_.out (by kernel_rfl)) (fun _ _ _ h => h) (Or.inl ⟨by rfl, py⟩) pa ?_
     refine take_ (i := 5) (N := some 35) #[true, true, true, true, true, true, false, true, true, true, true, false, false, false, false] rfl rfl (take_ofW HT_.out HW_.out (by kernel_rfl)) (fun _ _ _ h => h) (Or.inl ⟨by rfl, tk⟩) hHeld pa ?_
     refine take_ (i := 11) (N := some 41) #[true, true, true, true, true, true, false, true, true, true, true, true, false, false, false] rfl rfl (take_ofW HT_.out HW_.out (by kernel_rfl)) (fun _ _ _ h => h) (Or.inl ⟨by rfl, tk⟩) hHeld pa ?_
     refine pure_ (i := 12) (N := some 42) #[true, true, true, true, true, true, false, true, true, true, true, true, true, false, false] rfl rfl (any_of HT_.out (by kernel_rfl)) (fun _ _ _ h => h) (Or.inl ⟨by rfl, py⟩) pa ?_
     refine one_ (i := 6) (N := some 36) (fl 13 15) rfl rfl (one_of HT_.out (by kernel_rfl)) (by decide) (fun K hK => ?_)
     refine goes_ Try.func42 (by kernel_rfl) rfl #[.slice Ao11 x9_1.length co11, .int .i64 ((rd_T70 l1 x10_1).f1)] (by rfl) rfl rfl ar_ ?_
     with_reducible refine (deaddropref7_mark.calls k1 (fun k_ => some k_ = (.slice Ao11 x9_1.length co11 : Value).ownBlock) (.slice Ao11 x9_1.length co11) x9_1 ((rd_T70 l1 x10_1).f1) t149 w _ ?side1 ?side2 A8.out).mono ?_
     (case side1 => repeat (first | (with_reducible first | exact HB.out | apply below_alloc | apply pw_below_drewN | apply below_drew1) | exact HB.out))
     (case side2 => exact Kd.R_tight rfl HO_9.out)
     rintro e w12 ⟨v150, rfl, ho0, hb, hkp⟩
     refine ⟨_, rfl, ?_⟩
     have HO151 := Aside0.mk (Kd.R_mono (ok' := fun k_ => True) ho0 (fun k_ hk_ => trivial))
     replace HB := Aside0.mk (hb)
     clear HO_9
     (try clear hb)
     (try clear hkp)
     (try clear ho0)
     obtain ⟨Ao13, co13, eo13⟩ := Kd.R_slice HO151.out
     (first | subst eo13 | (injection eo13 with f1_ f2_ f3_; have f4_ := f1_.symm; have f5_ := f3_.symm; clear f1_ f2_ f3_; subst f4_; subst f5_))
     refine hK.out _ _ ⟨(bc HB.out hw148_0), (bc HB.out hw148_1), (bc HB.out hw148_2), (bc HB.out hw152_0), (bc HB.out hw152_1), (bc HB.out hw152_2)⟩ (fun hHeld => ?_)
     clear hK K
     refine norm_ (a' := ?_) ?_ ?_
     rotate_left
     ·
      show Act.put _ (some 36) _ = _
      simp only [Act.put, List.setIfInBounds_toArray, List.set_cons_zero, List.set_cons_succ, i64_w, i32_w]
      rfl
     refine one_ (i := 13) (N := some 43) (fl 14 15) rfl rfl (one_of HT_.out (by kernel_rfl)) (by decide) (fun K hK => ?_)
     refine goes_ Try.func42 (by kernel_rfl) rfl #[.slice Ao13 t149.length co13, .int .i64 (wrap64 (((rd_T70 l1 x10_1).f2) + 1))] (by rfl) rfl rfl ar_ ?_
     with_reducible refine (deaddropref7_mark.calls k1 (fun k_ => some k_ = (.slice Ao13 t149.length co13 : Value).ownBlock) (.slice Ao13 t149.length co13) t149 (wrap64 (((rd_T70 l1 x10_1).f2) + 1)) t153 w _ ?side1 ?side2 A9.out).mono ?_
     (case side1 => repeat (first | (with_reducible first | exact HB.out | apply below_alloc | apply pw_below_drewN | apply below_drew1) | exact HB.out))
     (case side2 => exact Kd.R_tight rfl HO151.out)
     rintro e w14 ⟨v154, rfl, ho0, hb, hkp⟩
     refine ⟨_, rfl, ?_⟩
     have HO155 := Aside0.mk (Kd.R_mono (ok' := fun k_ => True) ho0 (fun k_ hk_ => trivial))
     replace HB := Aside0.mk (hb)
     clear HO151
     (try clear hb)
     (try clear hkp)
     (try clear ho0)
     refine hK.out _ _ ⟨(bc HB.out hw148_0), (bc HB.out hw148_1), (bc HB.out hw148_2), (bc HB.out hw152_0), (bc HB.out hw152_1), (bc HB.out hw152_2)⟩ (fun hHeld => ?_)
     clear hK K
     refine norm_ (a' := ?_) ?_ ?_
     rotate_left
     ·
      show Act.put _ (some 43) _ = _
      simp only [Act.put, List.setIfInBounds_toArray, List.set_cons_zero, List.set_cons_succ, i64_w, i32_w]
      rfl
     refine pure_ (i := 14) (N := some 9) (fl 15 15) rfl rfl (any_of HT_.out (by kernel_rfl)) (fun _ _ _ h => h) (Or.inl ⟨by rfl, py⟩) pa ?_
     refine done_ (done_of HT_.out (by kernel_rfl)) ?_
     try go_wp2
     go_roundg k1
     case measure => have := HK1.out; omega
     case rel => exact ⟨(t153), (wrap64 (x10_1 + 1)), ok_, H', ⟨by have := HK1.out; omega⟩, ⟨rk HO155.out⟩, ⟨bw HB.out⟩⟩
    ·
     rw [if_neg c7] at H
     have c7b0 : (((rd_T70 l1 x10_1).f0) == a0) = false := beq_eq_false_iff_ne.mpr c7
     have c7b1 : (((rd_T70 l1 x10_1).f0) != a0) = true := bne_iff_ne.mpr c7
     have H' := Aside0.mk H
     clear H
     have p147 : 0 ≤ (x10_1 : Int) := of_decide_eq_true as_
     have q147 : x10_1 < (l1.length : Int) := of_decide_eq_true as_
     obtain ⟨ad147, e147, hx147_0, hx147_1, hx147_2⟩ := at_T70 HR1.out x10_1 p147 q147
     cases e147
     replace hx147_0 := (HB.out.cell (World.block_lt_of_cell? w _ hx147_0)).trans hx147_0
     replace hx147_1 := (HB.out.cell (World.block_lt_of_cell? w _ hx147_1)).trans hx147_1
     replace hx147_2 := (HB.out.cell (World.block_lt_of_cell? w _ hx147_2)).trans hx147_2
     replace p147 := eq_true p147
     replace q147 := eq_true q147
     go_wp2
     go_roundg k1
     case measure => have := HK1.out; omega
     case rel => exact ⟨(x9_1), (wrap64 (x10_1 + 1)), ok_, H', ⟨by have := HK1.out; omega⟩, ⟨rk HO_9.out⟩, ⟨bw HB.out⟩⟩
   ·
    rw [if_neg c5] at H
    have c5b0 : decide (x10_1 < (l1.length : Int)) = false := decide_eq_false c5
    clear c5
    have H' := Aside0.mk H
    clear H
    go_wp2
    go_loopg [9, 11] k1 (fun kq v9 v11 w' => ∃ (x9_2 : List Int) (x11_2 : Int), v11 = .int .i64 x11_2 ∧ Aside0 (deaddropref7_mix.l1 kq a0 l1 l2 a3 x9_2 x11_2 = some r) ∧ Aside0 (kq ≤ k1) ∧ Aside0 (Kd.R (Kd.int .i64) 3 w' w.heap.size (fun _ => True) v9 x9_2) ∧ Aside0 (Below w.heap.size w w'))
    case atStart => exact ⟨(x9_1), (0), ok_, H', ⟨Nat.le_refl _⟩, ⟨rk HO_9.out⟩, ⟨bw HB.out⟩⟩
    case round =>
     clear H'
     try clear c1
     try clear c2
     try clear c5
     try clear c5b0
     obtain ⟨x9_2, x11_2, rfl, HA, HK2, HO_9, HB⟩ := hrel
     cases gk with
     | zero => exact absurd HA.out (by simp [deaddropref7_mix.l1])
     | succ k2 =>
      have H := HA.out
      clear HA
      simp only [deaddropref7_mix.l1] at H
      by_cases c15 : x11_2 < (l2.length : Int)
      ·
       rw [if_pos c15] at H
       have c15b0 : decide (x11_2 < (l2.length : Int)) = true := decide_eq_true c15
       clear c15
       by_cases c16 : 0 ≤ x11_2
       rotate_left
       ·
        rw [if_neg c16] at H
        exact absurd H (by simp)
       rw [if_pos c16] at H
       have c16b0 : decide (0 ≤ x11_2) = true := decide_eq_true c16
       clear c16
       by_cases c17 : ((rd_T70 l2 x11_2).f0) = a0
       ·
        rw [if_pos c17] at H
        have c17b0 : (((rd_T70 l2 x11_2).f0) == a0) = true := beq_iff_eq.mpr c17
        have c17b1 : (((rd_T70 l2 x11_2).f0) != a0) = false := bne_eq_false_iff_eq.mpr c17
        clear c17
        replace H := Option.bind_eq_some_iff.mp H
        obtain ⟨t158, A180, H⟩ := H
        replace H : ((deaddropref7_mark.f k2 t158 (wrap64 (((rd_T70 l2 x11_2).f2) + 1))).bind fun t162 => (deaddropref7_mix.l1 k2 a0 l1 l2 a3 t162 (wrap64 (x11_2 + 1)))) = some r := H
        have A18 := Aside0.mk A180
        clear A180
        replace H := Option.bind_eq_some_iff.mp H
        obtain ⟨t162, A190, H⟩ := H
        replace H : (deaddropref7_mix.l1 k2 a0 l1 l2 a3 t162 (wrap64 (x11_2 + 1))) = some r := H
        have A19 := Aside0.mk A190
        clear A190
        have H' := Aside0.mk H
        clear H
        have p156 : 0 ≤ (x11_2 : Int) := of_decide_eq_true as_
        have q156 : x11_2 < (l2.length : Int) := of_decide_eq_true as_
        obtain ⟨ad156, e156, hx156_0, hx156_1, hx156_2⟩ := at_T70 HR2.out x11_2 p156 q156
        cases e156
        replace hx156_0 := (HB.out.cell (World.block_lt_of_cell? w _ hx156_0)).trans hx156_0
        replace hx156_1 := (HB.out.cell (World.block_lt_of_cell? w _ hx156_1)).trans hx156_1
        replace hx156_2 := (HB.out.cell (World.block_lt_of_cell? w _ hx156_2)).trans hx156_2
        replace p156 := eq_true p156
        replace q156 := eq_true q156
        try go_wp2
        replace HO_9 := Aside0.mk (Kd.R_drew HO_9.out)
        replace HB := Aside0.mk (below_drew1 HB.out)
        have p157 : 0 ≤ (x11_2 : Int) := of_decide_eq_true as_
        have q157 : x11_2 < (l2.length : Int) := of_decide_eq_true as_
        obtain ⟨ad157, e157, hx157_0, hx157_1, hx157_2⟩ := at_T70 HR2.out x11_2 p157 q157
        have hw157_2 := hx157_2
        have hw157_1 := hx157_1
        have hw157_0 := hx157_0
        obtain rfl : ad156 = ad157 := (by injection e157)
        replace hx157_0 := (HB.out.cell (World.block_lt_of_cell? w _ hx157_0)).trans hx157_0
        replace hx157_1 := (HB.out.cell (World.block_lt_of_cell? w _ hx157_1)).trans hx157_1
        replace hx157_2 := (HB.out.cell (World.block_lt_of_cell? w _ hx157_2)).trans hx157_2
        replace p157 := eq_true p157
        replace q157 := eq_true q157
        have p161 : 0 ≤ (x11_2 : Int) := of_decide_eq_true as_
        have q161 : x11_2 < (l2.length : Int) := of_decide_eq_true as_
        obtain ⟨ad161, e161, hx161_0, hx161_1, hx161_2⟩ := at_T70 HR2.out x11_2 p161 q161
        have hw161_2 := hx161_2
        have hw161_1 := hx161_1
        have hw161_0 := hx161_0
        obtain rfl : ad156 = ad161 := (by injection e161)
        replace hx161_0 := (HB.out.cell (World.block_lt_of_cell? w _ hx161_0)).trans hx161_0
        replace hx161_1 := (HB.out.cell (World.block_lt_of_cell? w _ hx161_1)).trans hx161_1
        replace hx161_2 := (HB.out.cell (World.block_lt_of_cell? w _ hx161_2)).trans hx161_2
        replace p161 := eq_true p161
        replace q161 := eq_true q161
        obtain ⟨Ao21, co21, eo21⟩ := Kd.R_slice HO_9.out
        (first | subst eo21 | (injection eo21 with f1_ f2_ f3_; have f4_ := f1_.symm; have f5_ := f3_.symm; clear f1_ f2_ f3_; subst f4_; subst f5_))
        refine start_ (n := 15) (S := fun w' => w'.cell? (ad156.add ((x11_2).toNat * 3)) = some (.int .i64 ((rd_T70 l2 x11_2).f0)) ∧ w'.cell? ⟨(ad156.add ((x11_2).toNat * 3)).block, (ad156.add ((x11_2).toNat * 3)).off + 1, none⟩ = some (.int .i64 ((rd_T70 l2 x11_2).f1)) ∧ w'.cell? ⟨(ad156.add ((x11_2).toNat * 3)).block, (ad156.add ((x11_2).toNat * 3)).off + 2, none⟩ = some (.int .i64 ((rd_T70 l2 x11_2).f2)) ∧ w'.cell? (ad156.add ((x11_2).toNat * 3)) = some (.int .i64 ((rd_T70 l2 x11_2).f0)) ∧ w'.cell? ⟨(ad156.add ((x11_2).toNat * 3)).block, (ad156.add ((x11_2).toNat * 3)).off + 1, none⟩ = some (.int .i64 ((rd_T70 l2 x11_2).f1)) ∧ w'.cell? ⟨(ad156.add ((x11_2).toNat * 3)).block, (ad156.add ((x11_2).toNat * 3)).off + 2, none⟩ = some (.int .i64 ((rd_T70 l2 x11_2).f2))) (ds := []) (fl 0 15) (by kernel_rfl) rfl rfl ⟨(bc HB.out hw157_0), (bc HB.out hw157_1), (bc HB.out hw157_2), (bc HB.out hw161_0), (bc HB.out hw161_1), (bc HB.out hw161_2)⟩ (fun hHeld => ?_); refine with_tabW deaddropref7_mix.tab11 deaddropref7_mix.bits11 (fun HT_ HW_ => ?_)
        generalize wr.drew = w20 at HO_9 HB hx157_0 hx157_1 hx157_2 hx161_0 hx161_1 hx161_2 hHeld ⊢
        refine pure_ (i := 0) (N := some 57) (fl 1 15) rfl rfl (any_of HT_.out (by kernel_rfl)) (fun _ _ _ h => h) (Or.inl ⟨by rfl, py⟩) pa ?_
        refine pure_ (i := 1) (N := some 58) (fl 2 15) rfl rfl (any_of HT_.out (by kernel_rfl)) (fun _ _ _ h => h) (Or.inl ⟨by rfl, py⟩) pa ?_
        refine pure_ (i := 2) (N := some 59) (fl 3 15) rfl rfl (any_of HT_.out (by kernel_rfl)) (fun _ _ _ h => h) (Or.inl ⟨by rfl, py⟩) pa ?_
        refine pure_ (i := 3) (N := some 60) (fl 4 15) rfl rfl (any_of HT_.out (by kernel_rfl)) (fun _ _ _ h => h) (Or.inl ⟨by rfl, py⟩) pa ?_
        refine pure_ (i := 4) (N := some 61) (fl 5 15) rfl rfl (any_of HT_.out (by kernel_rfl)) (fun _ _ _ h => h) (Or.inl ⟨by rfl, py⟩) pa ?_
        refine pure_ (i := 7) (N := some 64) #[true, true, true, true, true, false, false, true, false, false, false, false, false, false, false] rfl rfl (any_of HT_.out (by kernel_rfl)) (fun _ _ _ h => h) (Or.inl ⟨by rfl, py⟩) pa ?_
        refine pure_ (i := 8) (N := some 65) #[true, true, true, true, true, false, false, true, true, false, false, false, false, false, false] rfl rfl (any_of HT_.out (by kernel_rfl)) (fun _ _ _ h => h) (Or.inl ⟨by rfl, py⟩) pa ?_
        refine pure_ (i := 9) (N := some 66) #[true, true, true, true, true, false, false, true, true, true, false, false, false, false, false] rfl rfl (any_of HT_.out (by kernel_rfl)) (fun _ _ _ h => h) (Or.inl ⟨by rfl, py⟩) pa ?_
        refine pure_ (i := 10) (N := some 67) #[true, true, true, true, true, false, false, true, true, true, true, false, false, false, false] rfl rfl (any_of HT_.out (by kernel_rfl)) (fun _ _ _ h => h) (Or.inl ⟨by rfl, py⟩) pa ?_
        refine take_ (i := 5) (N := some 62) #[true, true, true, true, true, true, false, true, true, true, true, false, false, false, false] rfl rfl (take_ofW HT_.out HW_.out (by kernel_rfl)) (fun _ _ _ h => h) (Or.inl ⟨by rfl, tk⟩) hHeld pa ?_
        refine take_ (i := 11) (N := some 68) #[true, true, true, true, true, true, false, true, true, true, true, true, false, false, false] rfl rfl (take_ofW HT_.out HW_.out (by kernel_rfl)) (fun _ _ _ h => h) (Or.inl ⟨by rfl, tk⟩) hHeld pa ?_
        refine pure_ (i := 12) (N := some 69) #[true, true, true, true, true, true, false, true, true, true, true, true, true, false, false] rfl rfl (any_of HT_.out (by kernel_rfl)) (fun _ _ _ h => h) (Or.inl ⟨by rfl, py⟩) pa ?_
        refine one_ (i := 6) (N := some 63) (fl 13 15) rfl rfl (one_of HT_.out (by kernel_rfl)) (by decide) (fun K hK => ?_)
        refine goes_ Try.func42 (by kernel_rfl) rfl #[.slice Ao21 x9_2.length co21, .int .i64 ((rd_T70 l2 x11_2).f1)] (by rfl) rfl rfl ar_ ?_
        with_reducible refine (deaddropref7_mark.calls k2 (fun k_ => some k_ = (.slice Ao21 x9_2.length co21 : Value).ownBlock) (.slice Ao21 x9_2.length co21) x9_2 ((rd_T70 l2 x11_2).f1) t158 w _ ?side1 ?side2 A18.out).mono ?_
        (case side1 => repeat (first | (with_reducible first | exact HB.out | apply below_alloc | apply pw_below_drewN | apply below_drew1) | exact HB.out))
        (case side2 => exact Kd.R_tight rfl HO_9.out)
        rintro e w22 ⟨v159, rfl, ho0, hb, hkp⟩
        refine ⟨_, rfl, ?_⟩
        have HO160 := Aside0.mk (Kd.R_mono (ok' := fun k_ => True) ho0 (fun k_ hk_ => trivial))
        replace HB := Aside0.mk (hb)
        clear HO_9
        (try clear hb)
        (try clear hkp)
        (try clear ho0)
        obtain ⟨Ao23, co23, eo23⟩ := Kd.R_slice HO160.out
        (first | subst eo23 | (injection eo23 with f1_ f2_ f3_; have f4_ := f1_.symm; have f5_ := f3_.symm; clear f1_ f2_ f3_; subst f4_; subst f5_))
        refine hK.out _ _ ⟨(bc HB.out hw157_0), (bc HB.out hw157_1), (bc HB.out hw157_2), (bc HB.out hw161_0), (bc HB.out hw161_1), (bc HB.out hw161_2)⟩ (fun hHeld => ?_)
        clear hK K
        refine norm_ (a' := ?_) ?_ ?_
        rotate_left
        ·
         show Act.put _ (some 63) _ = _
         simp only [Act.put, List.setIfInBounds_toArray, List.set_cons_zero, List.set_cons_succ, i64_w, i32_w]
         rfl
        refine one_ (i := 13) (N := some 70) (fl 14 15) rfl rfl (one_of HT_.out (by kernel_rfl)) (by decide) (fun K hK => ?_)
        refine goes_ Try.func42 (by kernel_rfl) rfl #[.slice Ao23 t158.length co23, .int .i64 (wrap64 (((rd_T70 l2 x11_2).f2) + 1))] (by rfl) rfl rfl ar_ ?_
        with_reducible refine (deaddropref7_mark.calls k2 (fun k_ => some k_ = (.slice Ao23 t158.length co23 : Value).ownBlock) (.slice Ao23 t158.length co23) t158 (wrap64 (((rd_T70 l2 x11_2).f2) + 1)) t162 w _ ?side1 ?side2 A19.out).mono ?_
        (case side1 => repeat (first | (with_reducible first | exact HB.out | apply below_alloc | apply pw_below_drewN | apply below_drew1) | exact HB.out))
        (case side2 => exact Kd.R_tight rfl HO160.out)
        rintro e w24 ⟨v163, rfl, ho0, hb, hkp⟩
        refine ⟨_, rfl, ?_⟩
        have HO164 := Aside0.mk (Kd.R_mono (ok' := fun k_ => True) ho0 (fun k_ hk_ => trivial))
        replace HB := Aside0.mk (hb)
        clear HO160
        (try clear hb)
        (try clear hkp)
        (try clear ho0)
        refine hK.out _ _ ⟨(bc HB.out hw157_0), (bc HB.out hw157_1), (bc HB.out hw157_2), (bc HB.out hw161_0), (bc HB.out hw161_1), (bc HB.out hw161_2)⟩ (fun hHeld => ?_)
        clear hK K
        refine norm_ (a' := ?_) ?_ ?_
        rotate_left
        ·
         show Act.put _ (some 70) _ = _
         simp only [Act.put, List.setIfInBounds_toArray, List.set_cons_zero, List.set_cons_succ, i64_w, i32_w]
         rfl
        refine pure_ (i := 14) (N := some 9) (fl 15 15) rfl rfl (any_of HT_.out (by kernel_rfl)) (fun _ _ _ h => h) (Or.inl ⟨by rfl, py⟩) pa ?_
        refine done_ (done_of HT_.out (by kernel_rfl)) ?_
        try go_wp2
        go_roundg k2
        case measure => have := HK1.out; have := HK2.out; omega
        case rel => exact ⟨(t162), (wrap64 (x11_2 + 1)), ok_, H', ⟨by have := HK1.out; have := HK2.out; omega⟩, ⟨rk HO164.out⟩, ⟨bw HB.out⟩⟩
       ·
        rw [if_neg c17] at H
        have c17b0 : (((rd_T70 l2 x11_2).f0) == a0) = false := beq_eq_false_iff_ne.mpr c17
        have c17b1 : (((rd_T70 l2 x11_2).f0) != a0) = true := bne_iff_ne.mpr c17
        have H' := Aside0.mk H
        clear H
        have p156 : 0 ≤ (x11_2 : Int) := of_decide_eq_true as_
        have q156 : x11_2 < (l2.length : Int) := of_decide_eq_true as_
        obtain ⟨ad156, e156, hx156_0, hx156_1, hx156_2⟩ := at_T70 HR2.out x11_2 p156 q156
        cases e156
        replace hx156_0 := (HB.out.cell (World.block_lt_of_cell? w _ hx156_0)).trans hx156_0
        replace hx156_1 := (HB.out.cell (World.block_lt_of_cell? w _ hx156_1)).trans hx156_1
        replace hx156_2 := (HB.out.cell (World.block_lt_of_cell? w _ hx156_2)).trans hx156_2
        replace p156 := eq_true p156
        replace q156 := eq_true q156
        go_wp2
        go_roundg k2
        case measure => have := HK1.out; have := HK2.out; omega
        case rel => exact ⟨(x9_2), (wrap64 (x11_2 + 1)), ok_, H', ⟨by have := HK1.out; have := HK2.out; omega⟩, ⟨rk HO_9.out⟩, ⟨bw HB.out⟩⟩
      ·
       rw [if_neg c15] at H
       have c15b0 : decide (x11_2 < (l2.length : Int)) = false := decide_eq_false c15
       clear c15
       have H' := Aside0.mk H
       clear H
       go_wp2
       go_loopg [12, 13] k2 (fun kq v12 v13 w' => ∃ (x12_3 : List (S70)) (x13_3 : Int), v13 = .int .i64 x13_3 ∧ Aside0 (deaddropref7_mix.l2 kq a0 l1 l2 a3 x9_2 x12_3 x13_3 = some r) ∧ Aside0 (kq ≤ k2) ∧ Aside0 (Kd.R (Kd.int .i64) 3 w' w.heap.size (fun _ => True) u9 x9_2) ∧ Aside0 (Kd.R k70 70 w' w.heap.size (fun _ => True) v12 x12_3) ∧ Aside0 (Below w.heap.size w w'))
       case atStart => exact ⟨(([] : List (S70))), (0), ok_, H', ⟨Nat.le_refl _⟩, ⟨rk HO_9.out⟩, ⟨by first | exact Kd.R_nil _ _ _ _ _ | exact Kd.N_nil _ _ _ _ _ | exact Kd.V_nil _ _ _ _ _ | exact Kd.Q_nil _ _ _ _ _ | exact Kd.S_nil _ _ _ _ _⟩, ⟨bw HB.out⟩⟩
       case round =>
        clear H'
        try clear c1
        try clear c2
        try clear c5
        try clear c5b0
        try clear c15
        try clear c15b0
        obtain ⟨x12_3, x13_3, rfl, HA, HK3, HO_9, HO_12, HB⟩ := hrel
        cases gk with
        | zero => exact absurd HA.out (by simp [deaddropref7_mix.l2])
        | succ k3 =>
         have H := HA.out
         clear HA
         simp only [deaddropref7_mix.l2] at H
         by_cases c25 : (wrap64 (x13_3 + 1)) < (x9_2.length : Int)
         ·
          rw [if_pos c25] at H
          have c25b0 : decide ((wrap64 (x13_3 + 1)) < (x9_2.length : Int)) = true := decide_eq_true c25
          clear c25
          by_cases c26 : 0 ≤ x13_3
          rotate_left
          ·
           rw [if_neg c26] at H
           exact absurd H (by simp)
          rw [if_pos c26] at H
          have c26b0 : decide (0 ≤ x13_3) = true := decide_eq_true c26
          clear c26
          by_cases c27 : x13_3 < (x9_2.length : Int)
          rotate_left
          ·
           rw [if_neg c27] at H
           exact absurd H (by simp)
          rw [if_pos c27] at H
          have c27b0 : decide (x13_3 < (x9_2.length : Int)) = true := decide_eq_true c27
          clear c27
          replace H := Option.bind_eq_some_iff.mp H
          obtain ⟨t167, A280, H⟩ := H
          replace H : ((deaddropref7_Has.f k3 l2 a0 (rd x9_2 x13_3)).bind fun t168 => (if a3 = true then (none) else (if t167 = true then (deaddropref7_mix.j3 k3 a0 l1 l2 a3 x9_2 x12_3 x13_3 false) else (deaddropref7_mix.j3 k3 a0 l1 l2 a3 x9_2 x12_3 x13_3 (!t168))))) = some r := H
          have A28 := Aside0.mk A280
          clear A280
          replace H := Option.bind_eq_some_iff.mp H
          obtain ⟨t168, A290, H⟩ := H
          replace H : (if a3 = true then (none) else (if t167 = true then (deaddropref7_mix.j3 k3 a0 l1 l2 a3 x9_2 x12_3 x13_3 false) else (deaddropref7_mix.j3 k3 a0 l1 l2 a3 x9_2 x12_3 x13_3 (!t168)))) = some r := H
          have A29 := Aside0.mk A290
          clear A290
          have HC30 := Aside0.mk H
          clear H
          obtain ⟨Ao31, co31, eo31⟩ := Kd.R_slice HO_9.out
          subst eo31
          have p165 : 0 ≤ (x13_3 : Int) := of_decide_eq_true as_
          have q165 : x13_3 < (x9_2.length : Int) := of_decide_eq_true as_
          obtain ⟨ad165, e165, hx165_0⟩ := Kd.at_int (Kd.R_reads' HO_9.out).2.2 x13_3 p165 q165
          cases e165
          replace p165 := eq_true p165
          replace q165 := eq_true q165
          try go_wp2_with (first | ((with_reducible refine gate_dst (N := 14) rfl ?_); (try (refine gate_guard (by rfl) ?_; dsimp only)); refine box_event ?hg (N := 14) ?hd (cs := #[.int .i64 0, .int .i64 0]) (t := 32) ?hr ?_; (case hd => rfl); (case hg => rfl); (case hr => first | (go_simp; done) | (go_simp; rfl)); intro gb166 hg w32 hbox hb; replace HO_9 := Aside0.mk (Kd.R_below (rk HO_9.out) hb); replace HO_12 := Aside0.mk (Kd.R_below (rk HO_12.out) hb); have BK166 := Aside0.mk (hbox); have GW166 := Aside0.mk ((by rw [hg]; exact (below_size (bw HB.out)) : w.heap.size ≤ gb166)); have GE166 := GW166; replace HB := Aside0.mk (below_step (bw HB.out) hb); clear hb hbox hg; obtain ⟨hcz33_0, hcz33_1⟩ := bx2 BK166.out; obtain ⟨hfz33_0, hfz33_1⟩ := bf2 BK166.out))
          have n0_ : Aside0 (Kd.R (Kd.int .i64) 3 ((w32.setCell ⟨gb166, 0, none⟩ (.int .i64 a0)).setCell ⟨gb166, 1, none⟩ (.int .i64 (rd x9_2 x13_3))) w.heap.size (fun _ => True) (.slice (some ad165) x9_2.length co31) x9_2) := ⟨by (with_reducible repeat (first | apply Kd.R_alloc | apply Kd.R_drewN | apply Kd.R_drew)); exact Kd.R_mono (Kd.R_far (p := ⟨gb166, 1, none⟩) (Kd.R_far (p := ⟨gb166, 0, none⟩) (Kd.R_types HO_9.out BK166.out (by decide)) (fun _ hk => hk.2) (.int .i64 a0)) (fun _ hk => hk.2) (.int .i64 (rd x9_2 x13_3))) (fun _ hk => trivial)⟩
          have n1_ : Aside0 (Kd.R k70 70 ((w32.setCell ⟨gb166, 0, none⟩ (.int .i64 a0)).setCell ⟨gb166, 1, none⟩ (.int .i64 (rd x9_2 x13_3))) w.heap.size (fun _ => True) u12 x12_3) := ⟨by (with_reducible repeat (first | apply Kd.R_alloc | apply Kd.R_drewN | apply Kd.R_drew)); exact Kd.R_mono (Kd.R_far (p := ⟨gb166, 1, none⟩) (Kd.R_far (p := ⟨gb166, 0, none⟩) (Kd.R_types HO_12.out BK166.out (by decide)) (fun _ hk => hk.2) (.int .i64 a0)) (fun _ hk => hk.2) (.int .i64 (rd x9_2 x13_3))) (fun _ hk => trivial)⟩
          have n2_ : Aside0 (((w32.setCell ⟨gb166, 0, none⟩ (.int .i64 a0)).setCell ⟨gb166, 1, none⟩ (.int .i64 (rd x9_2 x13_3))).heap[gb166]? = some (.cells #[.int .i64 a0, .int .i64 (rd x9_2 x13_3)] 32 (0, 0))) := ⟨by (with_reducible repeat (first | refine blk_drewN ?_ _ | refine blk_drew ?_ | refine blk_alloc ?_ _)); refine blk_put (cs := #[.int .i64 a0, .int .i64 0]) ?_ 1 _ rfl; (with_reducible repeat (first | refine blk_drewN ?_ _ | refine blk_drew ?_ | refine blk_alloc ?_ _)); refine blk_put (cs := #[.int .i64 0, .int .i64 0]) ?_ 0 _ rfl; (with_reducible repeat (first | refine blk_drewN ?_ _ | refine blk_drew ?_ | refine blk_alloc ?_ _)); exact BK166.out⟩
          have n3_ : Aside0 (Below w.heap.size w ((w32.setCell ⟨gb166, 0, none⟩ (.int .i64 a0)).setCell ⟨gb166, 1, none⟩ (.int .i64 (rd x9_2 x13_3)))) := ⟨bw1 HB.out GE166.out⟩
          (try clear HO_9)
          (try clear HO_12)
          (try clear BK166)
          (try clear HB)
          generalize ((w32.setCell ⟨gb166, 0, none⟩ (.int .i64 a0)).setCell ⟨gb166, 1, none⟩ (.int .i64 (rd x9_2 x13_3))) = w34 at n0_ n1_ n2_ n3_ ⊢
          have HO_9 := n0_
          have HO_12 := n1_
          have BK166 := n2_
          have HB := n3_
          clear n0_ n1_ n2_ n3_
          replace HO_9 := Aside0.mk (Kd.R_drew HO_9.out)
          replace HO_12 := Aside0.mk (Kd.R_drew HO_12.out)
          replace BK166 := Aside0.mk (blk_drew BK166.out)
          replace HB := Aside0.mk (below_drew1 HB.out)
          refine start_ (n := 8) (S := fun w' => w'.cell? ⟨gb166, 0, none⟩ = some (.int .i64 a0) ∧ w'.cell? ⟨gb166, 1, none⟩ = some (.int .i64 (rd x9_2 x13_3))) (ds := []) (fl 0 8) (by kernel_rfl) rfl rfl ⟨(blk_cell BK166.out 0).trans rfl, (blk_cell BK166.out 1).trans rfl⟩ (fun hHeld => ?_); refine with_tabW deaddropref7_mix.tab17 deaddropref7_mix.bits17 (fun HT_ HW_ => ?_)
          generalize w34.drew = w35 at HO_9 HO_12 BK166 HB hHeld ⊢
          refine pure_ (i := 0) (N := some 84) (fl 1 8) rfl rfl (any_of HT_.out (by kernel_rfl)) (fun _ _ _ h => h) (Or.inl ⟨by rfl, py⟩) pa ?_
          refine pure_ (i := 3) (N := some 87) #[true, false, false, true, false, false, false, false] rfl rfl (any_of HT_.out (by kernel_rfl)) (fun _ _ _ h => h) (Or.inl ⟨by rfl, py⟩) pa ?_
          refine take_ (i := 1) (N := some 85) #[true, true, false, true, false, false, false, false] rfl rfl (take_ofW HT_.out HW_.out (by kernel_rfl)) (fun _ _ _ h => h) (Or.inl ⟨by rfl, tk⟩) hHeld pa ?_
          refine take_ (i := 4) (N := some 88) #[true, true, false, true, true, false, false, false] rfl rfl (take_ofW HT_.out HW_.out (by kernel_rfl)) (fun _ _ _ h => h) (Or.inl ⟨by rfl, tk⟩) hHeld pa ?_
          refine one_ (i := 2) (N := some 86) (fl 5 8) rfl rfl (one_of HT_.out (by kernel_rfl)) (by decide) (fun K hK => ?_)
          refine goes_ Try.func25 (by kernel_rfl) rfl #[.slice A1 l1.length c1, .agg #[.int .i64 a0, .int .i64 (rd x9_2 x13_3)]] (by rfl) rfl rfl ar_ ?_
          with_reducible refine (deaddropref7_Has.calls k3 _ _ l1 a0 (rd x9_2 x13_3) t167 _ ?side1 ?side2 A28.out).mono ?_
          (case side1 => exact cr (Kd.C_below HR1.out HB.out))
          (case side2 => exact HC1.out)
          rintro e w36 ⟨rfl, hb⟩
          refine ⟨_, rfl, ?_⟩
          replace HO_9 := Aside0.mk (Kd.R_below (rk HO_9.out) hb)
          replace HO_12 := Aside0.mk (Kd.R_below (rk HO_12.out) hb)
          replace BK166 := Aside0.mk (bkb BK166.out hb)
          replace HB := Aside0.mk (below_step (bw1 HB.out GE166.out) hb)
          (try clear hb)
          (try clear hb2)
          (try clear hk)
          (try clear hi)
          refine hK.out _ _ ⟨(blk_cell BK166.out 0).trans rfl, (blk_cell BK166.out 1).trans rfl⟩ (fun hHeld => ?_)
          clear hK K
          refine norm_ (a' := ?_) ?_ ?_
          rotate_left
          ·
           show Act.put _ (some 86) _ = _
           simp only [Act.put, List.setIfInBounds_toArray, List.set_cons_zero, List.set_cons_succ, i64_w, i32_w]
           rfl
          refine one_ (i := 5) (N := some 89) (fl 6 8) rfl rfl (one_of HT_.out (by kernel_rfl)) (by decide) (fun K hK => ?_)
          refine goes_ Try.func25 (by kernel_rfl) rfl #[.slice A2 l2.length c2, .agg #[.int .i64 a0, .int .i64 (rd x9_2 x13_3)]] (by rfl) rfl rfl ar_ ?_
          with_reducible refine (deaddropref7_Has.calls k3 _ _ l2 a0 (rd x9_2 x13_3) t168 _ ?side1 ?side2 A29.out).mono ?_
          (case side1 => exact cr (Kd.C_below HR2.out HB.out))
          (case side2 => exact HC2.out)
          rintro e w37 ⟨rfl, hb⟩
          refine ⟨_, rfl, ?_⟩
          replace HO_9 := Aside0.mk (Kd.R_below (rk HO_9.out) hb)
          replace HO_12 := Aside0.mk (Kd.R_below (rk HO_12.out) hb)
          replace BK166 := Aside0.mk (bkb BK166.out hb)
          replace HB := Aside0.mk (below_step (bw1 HB.out GE166.out) hb)
          (try clear hb)
          (try clear hb2)
          (try clear hk)
          (try clear hi)
          refine hK.out _ _ ⟨(blk_cell BK166.out 0).trans rfl, (blk_cell BK166.out 1).trans rfl⟩ (fun hHeld => ?_)
          clear hK K
          refine norm_ (a' := ?_) ?_ ?_
          rotate_left
          ·
           show Act.put _ (some 89) _ = _
           simp only [Act.put, List.setIfInBounds_toArray, List.set_cons_zero, List.set_cons_succ, i64_w, i32_w]
           rfl
          refine pure_ (i := 6) (N := some 15) (fl 7 8) rfl rfl (any_of HT_.out (by kernel_rfl)) (fun _ _ _ h => h) (Or.inl ⟨by rfl, py⟩) pa ?_
          refine pure_ (i := 7) (N := some 16) (fl 8 8) rfl rfl (any_of HT_.out (by kernel_rfl)) (fun _ _ _ h => h) (Or.inl ⟨by rfl, py⟩) pa ?_
          refine done_ (done_of HT_.out (by kernel_rfl)) ?_
          go_upto_region 19 with (fail)
          go_cut [105] (fun v105 wc => ∃ (kq : Nat) (x105_29 : Bool), v105 = .bool x105_29 ∧ Aside0 (deaddropref7_mix.j3 kq a0 l1 l2 a3 x9_2 x12_3 x13_3 x105_29 = some r) ∧ Aside0 (kq ≤ k3) ∧ Aside0 (Kd.R (Kd.int .i64) 3 wc w.heap.size (fun _ => True) (.slice (some ad165) x9_2.length co31) x9_2) ∧ Aside0 (Kd.R k70 70 wc w.heap.size (fun _ => True) u12 x12_3) ∧ Aside0 (wc.heap[gb166]? = some (.cells #[.int .i64 a0, .int .i64 (rd x9_2 x13_3)] 32 (0, 0))) ∧ Aside0 (Below w.heap.size w wc))
          case first =>
           have H := HC30.out
           clear HC30
           by_cases c38 : a3 = true
           ·
            subst c38
            have H1 : (none) = some r := by rw [if_pos rfl] at H; exact H
            clear H
            have H := H1
            clear H1
            exact absurd H (by simp)
           replace c38 := Bool.eq_false_iff.mpr c38
           subst c38
           have H1 : (if t167 = true then (deaddropref7_mix.j3 k3 a0 l1 l2 false x9_2 x12_3 x13_3 false) else (deaddropref7_mix.j3 k3 a0 l1 l2 false x9_2 x12_3 x13_3 (!t168))) = some r := by rw [if_neg (show ¬ (false = true) by decide)] at H; exact H
           clear H
           have H := H1
           clear H1
           by_cases c39 : t167 = true
           ·
            subst c39
            have H1 : (deaddropref7_mix.j3 k3 a0 l1 l2 false x9_2 x12_3 x13_3 false) = some r := by rw [if_pos rfl] at H; exact H
            clear H
            have H := H1
            clear H1
            have H' := Aside0.mk H
            clear H
            go_wp2
            go_meet
            case rel => exact ⟨_, (false), ok_, H', ⟨by have := HK1.out; have := HK2.out; have := HK3.out; first | omega | exact Nat.le_refl _⟩, ⟨rk HO_9.out⟩, ⟨rk HO_12.out⟩, ⟨bk BK166.out⟩, ⟨bw1 HB.out GE166.out⟩⟩
           ·
            replace c39 := Bool.eq_false_iff.mpr c39
            subst c39
            have H1 : (deaddropref7_mix.j3 k3 a0 l1 l2 false x9_2 x12_3 x13_3 (!t168)) = some r := by rw [if_neg (show ¬ (false = true) by decide)] at H; exact H
            clear H
            have H := H1
            clear H1
            have H' := Aside0.mk H
            clear H
            go_wp2
            go_meet
            case rel => exact ⟨_, (!t168), ok_, H', ⟨by have := HK1.out; have := HK2.out; have := HK3.out; first | omega | exact Nat.le_refl _⟩, ⟨rk HO_9.out⟩, ⟨rk HO_12.out⟩, ⟨bk BK166.out⟩, ⟨bw1 HB.out GE166.out⟩⟩
          case rest =>
           clear HC30
           try clear c1
           try clear c2
           try clear c5
           try clear c5b0
           try clear c15
           try clear c15b0
           try clear c25
           try clear c25b0
           try clear c26
           try clear c26b0
           try clear c27
           try clear c27b0
           try clear hcz33_0
           try clear hcz33_1
           try clear hfz33_0
           try clear hfz33_1
           try clear hx165_0
           try clear p165
           try clear q165
           obtain ⟨kq, x105_29, rfl, HA, HJ29, HO_9, HO_12, BK166, HB⟩ := hcut
           cases kq with
           | zero => exact absurd HA.out (by simp [deaddropref7_mix.j3])
           | succ kj29 =>
            have H := HA.out
            clear HA
            simp only [deaddropref7_mix.j3] at H
            by_cases c40 : x105_29 = true
            ·
             subst c40
             have H1 : (deaddropref7_mix.l2 kj29 a0 l1 l2 a3 x9_2 x12_3 (wrap64 (x13_3 + 1))) = some r := by rw [if_pos rfl] at H; exact H
             clear H
             have H := H1
             clear H1
             have H' := Aside0.mk H
             clear H
             go_wp2
             go_roundg kj29
             case measure => have := HK1.out; have := HK2.out; have := HK3.out; have := HJ29.out; omega
             case rel => exact ⟨(x12_3), (wrap64 (x13_3 + 1)), ok_, H', ⟨by have := HK1.out; have := HK2.out; have := HK3.out; have := HJ29.out; omega⟩, ⟨rk HO_9.out⟩, ⟨rk HO_12.out⟩, ⟨bw1 HB.out GE166.out⟩⟩
            ·
             replace c40 := Bool.eq_false_iff.mpr c40
             subst c40
             have H1 : (if (x12_3.length : Int) > 0 then (if 0 ≤ (wrap64 ((x12_3.length : Int) - 1)) then (if (wrap64 ((x12_3.length : Int) - 1)) < (x12_3.length : Int) then (if 0 ≤ x13_3 then (if x13_3 < (x9_2.length : Int) then (if ((rd_T70 x12_3 (wrap64 ((x12_3.length : Int) - 1))).f2) = (wrap64 ((rd x9_2 x13_3) - 1)) then (if 0 ≤ (wrap64 (x13_3 + 1)) then (if (wrap64 (x13_3 + 1)) < (x9_2.length : Int) then (deaddropref7_mix.l2 kj29 a0 l1 l2 a3 x9_2 (x12_3.set ((wrap64 ((x12_3.length : Int) - 1)) : Int).toNat (⟨(rd_T70 x12_3 (wrap64 ((x12_3.length : Int) - 1))).f0, (rd_T70 x12_3 (wrap64 ((x12_3.length : Int) - 1))).f1, wrap64 ((rd x9_2 (wrap64 (x13_3 + 1))) - 1)⟩ : S70)) (wrap64 (x13_3 + 1))) else (none)) else (none)) else (if 0 ≤ (wrap64 (x13_3 + 1)) then (if (wrap64 (x13_3 + 1)) < (x9_2.length : Int) then (if x12_3.length < 5864062014805 then (deaddropref7_mix.l2 kj29 a0 l1 l2 a3 x9_2 (x12_3 ++ [(⟨a0, rd x9_2 x13_3, wrap64 ((rd x9_2 (wrap64 (x13_3 + 1))) - 1)⟩ : S70)]) (wrap64 (x13_3 + 1))) else (none)) else (none)) else (none))) else (none)) else (none)) else (none)) else (none)) else (if 0 ≤ x13_3 then (if x13_3 < (x9_2.length : Int) then (if 0 ≤ (wrap64 (x13_3 + 1)) then (if (wrap64 (x13_3 + 1)) < (x9_2.length : Int) then (if x12_3.length < 5864062014805 then (deaddropref7_mix.l2 kj29 a0 l1 l2 a3 x9_2 (x12_3 ++ [(⟨a0, rd x9_2 x13_3, wrap64 ((rd x9_2 (wrap64 (x13_3 + 1))) - 1)⟩ : S70)]) (wrap64 (x13_3 + 1))) else (none)) else (none)) else (none)) else (none)) else (none))) = some r := by rw [if_neg (show ¬ (false = true) by decide)] at H; exact H
             clear H
             have H := H1
             clear H1
             by_cases c41 : (x12_3.length : Int) > 0
             ·
              rw [if_pos c41] at H
              have c41b0 : decide (0 < (x12_3.length : Int)) = true := decide_eq_true c41
              have c41b1 : decide (0 < x12_3.length) = true := decide_eq_true (by omega)
              clear c41
              obtain ⟨ji42, hji42⟩ : ∃ j_ : Int, (wrap64 ((x12_3.length : Int) - 1)) = j_ := ⟨_, rfl⟩
              replace H : (if 0 ≤ (ji42) then (if (ji42) < (x12_3.length : Int) then (if 0 ≤ x13_3 then (if x13_3 < (x9_2.length : Int) then (if ((rd_T70 x12_3 (ji42)).f2) = (wrap64 ((rd x9_2 x13_3) - 1)) then (if 0 ≤ (wrap64 (x13_3 + 1)) then (if (wrap64 (x13_3 + 1)) < (x9_2.length : Int) then (deaddropref7_mix.l2 kj29 a0 l1 l2 a3 x9_2 (x12_3.set ((ji42) : Int).toNat (⟨(rd_T70 x12_3 (ji42)).f0, (rd_T70 x12_3 (ji42)).f1, wrap64 ((rd x9_2 (wrap64 (x13_3 + 1))) - 1)⟩ : S70)) (wrap64 (x13_3 + 1))) else (none)) else (none)) else (if 0 ≤ (wrap64 (x13_3 + 1)) then (if (wrap64 (x13_3 + 1)) < (x9_2.length : Int) then (if x12_3.length < 5864062014805 then (deaddropref7_mix.l2 kj29 a0 l1 l2 a3 x9_2 (x12_3 ++ [(⟨a0, rd x9_2 x13_3, wrap64 ((rd x9_2 (wrap64 (x13_3 + 1))) - 1)⟩ : S70)]) (wrap64 (x13_3 + 1))) else (none)) else (none)) else (none))) else (none)) else (none)) else (none)) else (none)) = some r := by first | (rw [hji42] at H; exact H) | (simp only [hji42] at H ⊢; exact H)
              have hji42w : (IntKind.i64.wrap ((x12_3.length : Int) - 1)) = ji42 := (i64_w _).trans hji42
              by_cases c43 : 0 ≤ (ji42)
              rotate_left
              ·
               rw [if_neg c43] at H
               exact absurd H (by simp)
              rw [if_pos c43] at H
              have c43b0 : decide (0 ≤ (ji42)) = true := decide_eq_true c43
              clear c43
              by_cases c44 : (ji42) < (x12_3.length : Int)
              rotate_left
              ·
               rw [if_neg c44] at H
               exact absurd H (by simp)
              rw [if_pos c44] at H
              have c44b0 : decide ((ji42) < (x12_3.length : Int)) = true := decide_eq_true c44
              clear c44
              by_cases c45 : 0 ≤ x13_3
              rotate_left
              ·
               rw [if_neg c45] at H
               exact absurd H (by simp)
              rw [if_pos c45] at H
              have c45b0 : decide (0 ≤ x13_3) = true := decide_eq_true c45
              clear c45
              by_cases c46 : x13_3 < (x9_2.length : Int)
              rotate_left
              ·
               rw [if_neg c46] at H
               exact absurd H (by simp)
              rw [if_pos c46] at H
              have c46b0 : decide (x13_3 < (x9_2.length : Int)) = true := decide_eq_true c46
              clear c46
              by_cases c47 : ((rd_T70 x12_3 (ji42)).f2) = (wrap64 ((rd x9_2 x13_3) - 1))
              ·
               rw [if_pos c47] at H
               have c47b0 : (((rd_T70 x12_3 (ji42)).f2) == (wrap64 ((rd x9_2 x13_3) - 1))) = true := beq_iff_eq.mpr c47
               have c47b1 : (((rd_T70 x12_3 (ji42)).f2) != (wrap64 ((rd x9_2 x13_3) - 1))) = false := bne_eq_false_iff_eq.mpr c47
               clear c47
               obtain ⟨ji48, hji48⟩ : ∃ j_ : Int, (wrap64 (x13_3 + 1)) = j_ := ⟨_, rfl⟩
               replace H : (if 0 ≤ (ji48) then (if (ji48) < (x9_2.length : Int) then (deaddropref7_mix.l2 kj29 a0 l1 l2 a3 x9_2 (x12_3.set ((ji42) : Int).toNat (⟨(rd_T70 x12_3 (ji42)).f0, (rd_T70 x12_3 (ji42)).f1, wrap64 ((rd x9_2 (ji48)) - 1)⟩ : S70)) ji48) else (none)) else (none)) = some r := by first | (rw [hji48] at H; exact H) | (simp only [hji48] at H ⊢; exact H)
               (try rw [hji48] at c25b0)
               have hji48w : (IntKind.i64.wrap (x13_3 + 1)) = ji48 := (i64_w _).trans hji48
               by_cases c49 : 0 ≤ (ji48)
               rotate_left
               ·
                rw [if_neg c49] at H
                exact absurd H (by simp)
               rw [if_pos c49] at H
               have c49b0 : decide (0 ≤ (ji48)) = true := decide_eq_true c49
               clear c49
               by_cases c50 : (ji48) < (x9_2.length : Int)
               rotate_left
               ·
                rw [if_neg c50] at H
                exact absurd H (by simp)
               rw [if_pos c50] at H
               have c50b0 : decide ((ji48) < (x9_2.length : Int)) = true := decide_eq_true c50
               clear c50
               obtain ⟨y172, hy172⟩ : ∃ y_ : List (S70), y_ = (x12_3.set ((ji42) : Int).toNat (⟨(rd_T70 x12_3 (ji42)).f0, (rd_T70 x12_3 (ji42)).f1, wrap64 ((rd x9_2 (ji48)) - 1)⟩ : S70)) := ⟨_, rfl⟩
               replace H : (deaddropref7_mix.l2 kj29 a0 l1 l2 a3 x9_2 y172 ji48) = some r := by first | (rw [hy172]; with_reducible exact H) | (have H2_ := (Option.bind_some _ _).symm.trans H; rw [hy172]; with_reducible exact H2_) | (have H2_ := (Option.bind_some _ _).symm.trans H; with_reducible exact H2_) | with_reducible exact H | (rw [hy172]; exact H) | exact H
               have Ny172 := Aside0.mk hy172
               clear hy172
               have H' := Aside0.mk H
               clear H
               try go_wp2
               replace HO_9 := Aside0.mk (Kd.R_drew HO_9.out)
               replace HO_12 := Aside0.mk (Kd.R_drew HO_12.out)
               replace BK166 := Aside0.mk (blk_drew BK166.out)
               replace HB := Aside0.mk (below_drew1 HB.out)
               obtain ⟨Ao53, co53, eo53⟩ := Kd.R_slice HO_12.out
               (first | subst eo53 | (injection eo53 with f1_ f2_ f3_; have f4_ := f1_.symm; have f5_ := f3_.symm; clear f1_ f2_ f3_; subst f4_; subst f5_))
               have p169 : 0 ≤ ((ji42) : Int) := of_decide_eq_true as_
               have q169 : (ji42) < (x12_3.length : Int) := of_decide_eq_true as_
               obtain ⟨ad169, e169, hx169_0, hx169_1, hx169_2⟩ := at_T70 (Kd.R_reads' HO_12.out).2.2 (ji42) p169 q169
               cases e169
               replace p169 := eq_true p169
               replace q169 := eq_true q169
               have p170 : 0 ≤ (x13_3 : Int) := of_decide_eq_true as_
               have q170 : x13_3 < (x9_2.length : Int) := of_decide_eq_true as_
               obtain ⟨ad170, e170, hx170_0⟩ := Kd.at_int (Kd.R_reads' HO_9.out).2.2 x13_3 p170 q170
               obtain rfl : ad165 = ad170 := (by injection e170)
               replace p170 := eq_true p170
               replace q170 := eq_true q170
               refine start_ (n := 19) (S := fun w' => w'.cell? (ad169.add (((ji42)).toNat * 3)) = some (.int .i64 ((rd_T70 x12_3 (ji42)).f0)) ∧ w'.cell? ⟨(ad169.add (((ji42)).toNat * 3)).block, (ad169.add (((ji42)).toNat * 3)).off + 1, none⟩ = some (.int .i64 ((rd_T70 x12_3 (ji42)).f1)) ∧ w'.cell? ⟨(ad169.add (((ji42)).toNat * 3)).block, (ad169.add (((ji42)).toNat * 3)).off + 2, none⟩ = some (.int .i64 ((rd_T70 x12_3 (ji42)).f2)) ∧ w'.cell? (ad165.add (x13_3).toNat) = some (.int .i64 (rd x9_2 x13_3))) (ds := []) (fl 0 19) (by kernel_rfl) rfl rfl ⟨hx169_0, hx169_1, hx169_2, hx170_0⟩ (fun hHeld => ?_); refine with_tabW deaddropref7_mix.tab20 deaddropref7_mix.bits20 (fun HT_ HW_ => ?_)
               generalize wc.drew = w52 at HO_9 HO_12 BK166 HB hx169_0 hx169_1 hx169_2 hx170_0 hHeld ⊢
               refine pure_ (i := 0) (N := some 123) (fl 1 19) rfl rfl (any_of HT_.out (by kernel_rfl)) (fun _ _ _ h => h) (Or.inl ⟨by rfl, py⟩) pa ?_
               refine pure_ (i := 1) (N := some 124) (fl 2 19) rfl rfl (any_of HT_.out (by kernel_rfl)) (fun _ _ _ h => h) (Or.inl ⟨by rfl, py⟩) pa ?_
               refine pure_ (i := 2) (N := some 125) (fl 3 19) rfl rfl (any_of HT_.out (by kernel_rfl)) (fun _ _ _ h => h) (Or.inl ⟨by rfl, py⟩) pa ?_
               refine pure_ (i := 3) (N := some 126) (fl 4 19) rfl rfl (any_of HT_.out (by kernel_rfl)) (fun _ _ _ h => h) (Or.inl ⟨by rfl, py⟩) pa ?_
               refine pure_ (i := 4) (N := some 127) (fl 5 19) rfl rfl (any_of HT_.out (by kernel_rfl)) (fun _ _ _ h => h) (Or.inl ⟨by rfl, py⟩) pa ?_
               refine pure_ (i := 5) (N := some 128) (fl 6 19) rfl rfl (any_of HT_.out (by kernel_rfl)) (fun _ _ _ h => h) (Or.inl ⟨by rfl, py⟩) pa ?_
               refine pure_ (i := 6) (N := some 129) (fl 7 19) rfl rfl (any_of HT_.out (by kernel_rfl)) (fun _ _ _ h => h) (Or.inl ⟨by rfl, py⟩) pa ?_
               refine pure_ (i := 7) (N := some 130) (fl 8 19) rfl rfl (any_of HT_.out (by kernel_rfl)) (fun _ _ _ h => h) (Or.inl ⟨by rfl, py⟩) pa ?_
               refine pure_ (i := 8) (N := some 131) (fl 9 19) rfl rfl (any_of HT_.out (by kernel_rfl)) (fun _ _ _ h => h) (Or.inl ⟨by rfl, py⟩) pa ?_
               refine pure_ (i := 9) (N := some 132) (fl 10 19) rfl rfl (any_of HT_.out (by kernel_rfl)) (fun _ _ _ h => h) (Or.inl ⟨by rfl, py⟩) pa ?_
               refine pure_ (i := 11) (N := some 134) #[true, true, true, true, true, true, true, true, true, true, false, true, false, false, false, false, false, false, false] rfl rfl (any_of HT_.out (by kernel_rfl)) (fun _ _ _ h => h) (Or.inl ⟨by rfl, py⟩) pa ?_
               refine pure_ (i := 12) (N := some 135) #[true, true, true, true, true, true, true, true, true, true, false, true, true, false, false, false, false, false, false] rfl rfl (any_of HT_.out (by kernel_rfl)) (fun _ _ _ h => h) (Or.inl ⟨by rfl, py⟩) pa ?_
               refine pure_ (i := 13) (N := some 136) #[true, true, true, true, true, true, true, true, true, true, false, true, true, true, false, false, false, false, false] rfl rfl (any_of HT_.out (by kernel_rfl)) (fun _ _ _ h => h) (Or.inl ⟨by rfl, py⟩) pa ?_
               refine take_ (i := 10) (N := some 133) (fl 14 19) rfl rfl (take_ofW HT_.out HW_.out (by kernel_rfl)) (fun _ _ _ h => h) (Or.inl ⟨by rfl, tk⟩) hHeld pa ?_
               refine take_ (i := 14) (N := some 137) (fl 15 19) rfl rfl (take_ofW HT_.out HW_.out (by kernel_rfl)) (fun _ _ _ h => h) (Or.inl ⟨by rfl, tk⟩) hHeld pa ?_
               refine pure_ (i := 15) (N := some 138) (fl 16 19) rfl rfl (any_of HT_.out (by kernel_rfl)) (fun _ _ _ h => h) (Or.inl ⟨by rfl, py⟩) pa ?_
               refine pure_ (i := 16) (N := some 139) (fl 17 19) rfl rfl (any_of HT_.out (by kernel_rfl)) (fun _ _ _ h => h) (Or.inl ⟨by rfl, py⟩) pa ?_
               refine pure_ (i := 17) (N := some 140) (fl 18 19) rfl rfl (any_of HT_.out (by kernel_rfl)) (fun _ _ _ h => h) (Or.inl ⟨by rfl, py⟩) pa ?_
               refine pure_ (i := 18) (N := some 122) (fl 19 19) rfl rfl (any_of HT_.out (by kernel_rfl)) (fun _ _ _ h => h) (Or.inl ⟨by rfl, py⟩) pa ?_
               refine done_ (done_of HT_.out (by kernel_rfl)) ?_
               have p171 : 0 ≤ ((ji48) : Int) := of_decide_eq_true as_
               have q171 : (ji48) < (x9_2.length : Int) := of_decide_eq_true as_
               obtain ⟨ad171, e171, hx171_0⟩ := Kd.at_int (Kd.R_reads' HO_9.out).2.2 (ji48) p171 q171
               obtain rfl : ad165 = ad171 := (by injection e171)
               replace p171 := eq_true p171
               replace q171 := eq_true q171
               have p51 : 0 ≤ ((ji42) : Int) := of_decide_eq_true as_
               have q51 : ((ji42) : Int) < ((x12_3.length : Int) : Int) := of_decide_eq_true as_
               obtain ⟨go51, co51, eo51, gb51, gl51, cl51, HG51⟩ := Kd.R_form HO_12.out (by omega)
               (first | cases eo51 | (injection eo51 with ea_ en_ ec_; (first | subst ea_ | (injection ea_ with ea_; subst ea_)); subst ec_; clear en_))
               have GB51 := Aside0.mk gb51
               have GG51 := Aside0.mk HG51
               clear gb51 gl51 HG51
               (first | simp only [add_plain] at hx169_0 | skip)
               (first | simp only [add_plain] at hx169_1 | skip)
               (first | simp only [add_plain] at hx169_2 | skip)
               obtain ⟨ce51, hcl51, hM51, hcc51, hfr51⟩ := Kd.R_elem HO_12.out z70 ((ji42) : Int) p51 q51
               obtain rfl := k70_openM hM51
               have hx51_0 : w52.cell? ⟨go51, ((ji42) : Int).toNat * 3, none⟩ = some (.int .i64 ((rd_T70 x12_3 (ji42)).f0)) := hcc51 0 _ rfl
               have hx51_1 : w52.cell? ⟨go51, ((ji42) : Int).toNat * 3 + 1, none⟩ = some (.int .i64 ((rd_T70 x12_3 (ji42)).f1)) := hcc51 1 _ rfl
               have hx51_2 : w52.cell? ⟨go51, ((ji42) : Int).toNat * 3 + 2, none⟩ = some (.int .i64 ((rd_T70 x12_3 (ji42)).f2)) := hcc51 2 _ rfl
               have hf51_0 : w52.frozen? ⟨go51, ((ji42) : Int).toNat * 3, none⟩ = false := hfr51 0
               have hf51_1 : w52.frozen? ⟨go51, ((ji42) : Int).toNat * 3 + 1, none⟩ = false := hfr51 1
               have hf51_2 : w52.frozen? ⟨go51, ((ji42) : Int).toNat * 3 + 2, none⟩ = false := hfr51 2
               clear hcl51 hcc51 hfr51 hM51
               replace p51 := eq_true p51
               replace q51 := eq_true q51
               have HX54 := Aside0.mk (show Kd.R k70 70 w52 w.heap.size (fun _ => True) (.slice (some ⟨go51, 0, none⟩) x12_3.length co53) x12_3 from (rk HO_12.out))
               obtain ⟨ce54, hcl54, hM54, hcc54, hfr54⟩ := Kd.R_elem HX54.out z70 ((ji42) : Int) (of_decide_eq_true as_) (by have h_ : ((ji42) : Int) < ((x12_3.length : Int) : Int) := of_decide_eq_true as_; first | exact h_ | (have e_ := (Kd.R_reads' HO_12.out).1; omega) | simpa using h_)
               obtain rfl := k70_openM hM54
               have HP54 := Kd.R_seg HX54.out ((ji42) : Int) (of_decide_eq_true as_) (by have h_ : ((ji42) : Int) < ((x12_3.length : Int) : Int) := of_decide_eq_true as_; first | exact h_ | (have e_ := (Kd.R_reads' HO_12.out).1; omega) | simpa using h_) (seg := [.int .i64 (wrap64 ((rd x9_2 (ji48)) - 1))]) (j := 2) hcl54 hcc54 (show 3 ≤ 3 from by decide) (x' := (⟨(rd_T70 x12_3 (ji42)).f0, (rd_T70 x12_3 (ji42)).f1, wrap64 ((rd x9_2 (ji48)) - 1)⟩ : S70)) (k70_mkM _ _ _ (⟨(rd_T70 x12_3 (ji42)).f0, (rd_T70 x12_3 (ji42)).f1, wrap64 ((rd x9_2 (ji48)) - 1)⟩ : S70) ) (fun _ hk => hk)
               have hx54_2 := hcc54 2 _ rfl
               (try simp only [show (k70).sz = 3 from rfl, Nat.mul_one, Nat.add_zero] at hx54_2)
               have hf54_2 := hfr54 2
               (try simp only [show (k70).sz = 3 from rfl, Nat.mul_one, Nat.add_zero] at hf54_2)
               clear hcl54 hcc54 hfr54 hM54
               try go_wp2_with (first | ((with_reducible refine gate_store (t := 3) (p := 152) rfl ?_); refine store_event (t := 3) (p := 152) (v := ?vo_w55) (w1 := (w52.setCell ⟨go51, ((ji42) : Int).toNat * 3 + 2, none⟩ (.int .i64 (wrap64 ((rd x9_2 (ji48)) - 1))))) ?hg ?ho ?hn ?hr ?_; (case ho => rfl); (case hg => rfl); (case hn => rfl); (case hr => first | (go_simp; done) | (go_simp; rfl)); intro w55 hw; have hg : w52.grownBy w55 (some go51) := (by rw [hw]; exact HP54.2); have hp_ : Kd.R k70 70 w55 w.heap.size (fun _ => True) (.slice (some ⟨go51, 0, none⟩) x12_3.length co53) y172 := (by rw [hw, Ny172.out]; exact HP54.1); clear HP54; replace HO_9 := Aside0.mk (Kd.R_over' (v := (.slice (some ⟨go51, 0, none⟩) x12_3.length co53)) (rk HO_9.out) (Kd.R_typed HO_12.out) (by decide) hg); replace BK166 := Aside0.mk (bkg BK166.out hg (Kd.R_ne HO_12.out BK166.out (by decide))); replace HO_12 := Aside0.mk (hp_); replace HB := Aside0.mk ((by rw [hw]; exact below_set (HB.out) GB51.out : Below w.heap.size w w55)); clear hg hw hp_))
               go_roundg kj29
               case measure => have := HK1.out; have := HK2.out; have := HK3.out; have := HJ29.out; omega
               case rel => exact ⟨(y172), (ji48), (by first | rfl | (simp; done) | (simp only [← hji48] <;> (first | rfl | simp)) | (simp [*]; done)), H', ⟨by have := HK1.out; have := HK2.out; have := HK3.out; have := HJ29.out; omega⟩, ⟨rk HO_9.out⟩, ⟨rk HO_12.out⟩, ⟨bw1 HB.out GE166.out⟩⟩
              ·
               rw [if_neg c47] at H
               have c47b0 : (((rd_T70 x12_3 (ji42)).f2) == (wrap64 ((rd x9_2 x13_3) - 1))) = false := beq_eq_false_iff_ne.mpr c47
               have c47b1 : (((rd_T70 x12_3 (ji42)).f2) != (wrap64 ((rd x9_2 x13_3) - 1))) = true := bne_iff_ne.mpr c47
               obtain ⟨ji56, hji56⟩ : ∃ j_ : Int, (wrap64 (x13_3 + 1)) = j_ := ⟨_, rfl⟩
               replace H : (if 0 ≤ (ji56) then (if (ji56) < (x9_2.length : Int) then (if x12_3.length < 5864062014805 then (deaddropref7_mix.l2 kj29 a0 l1 l2 a3 x9_2 (x12_3 ++ [(⟨a0, rd x9_2 x13_3, wrap64 ((rd x9_2 (ji56)) - 1)⟩ : S70)]) ji56) else (none)) else (none)) else (none)) = some r := by first | (rw [hji56] at H; exact H) | (simp only [hji56] at H ⊢; exact H)
               (try rw [hji56] at c25b0)
               have hji56w : (IntKind.i64.wrap (x13_3 + 1)) = ji56 := (i64_w _).trans hji56
               by_cases c57 : 0 ≤ (ji56)
               rotate_left
               ·
                rw [if_neg c57] at H
                exact absurd H (by simp)
               rw [if_pos c57] at H
               have c57b0 : decide (0 ≤ (ji56)) = true := decide_eq_true c57
               clear c57
               by_cases c58 : (ji56) < (x9_2.length : Int)
               rotate_left
               ·
                rw [if_neg c58] at H
                exact absurd H (by simp)
               rw [if_pos c58] at H
               have c58b0 : decide ((ji56) < (x9_2.length : Int)) = true := decide_eq_true c58
               clear c58
               by_cases c59 : x12_3.length < 5864062014805
               rotate_left
               ·
                rw [if_neg c59] at H
                exact absurd H (by simp)
               rw [if_pos c59] at H
               have LMc59 := Aside0.mk c59
               clear c59
               obtain ⟨y175, hy175⟩ : ∃ y_ : List (S70), y_ = (x12_3 ++ [(⟨a0, rd x9_2 x13_3, wrap64 ((rd x9_2 (ji56)) - 1)⟩ : S70)]) := ⟨_, rfl⟩
               replace H : (deaddropref7_mix.l2 kj29 a0 l1 l2 a3 x9_2 y175 ji56) = some r := by first | (rw [hy175]; with_reducible exact H) | (have H2_ := (Option.bind_some _ _).symm.trans H; rw [hy175]; with_reducible exact H2_) | (have H2_ := (Option.bind_some _ _).symm.trans H; with_reducible exact H2_) | with_reducible exact H | (rw [hy175]; exact H) | exact H
               have Ny175 := Aside0.mk hy175
               clear hy175
               have H' := Aside0.mk H
               clear H
               try go_wp2
               replace HO_9 := Aside0.mk (Kd.R_drew HO_9.out)
               replace HO_12 := Aside0.mk (Kd.R_drew HO_12.out)
               replace BK166 := Aside0.mk (blk_drew BK166.out)
               replace HB := Aside0.mk (below_drew1 HB.out)
               obtain ⟨Ao61, co61, eo61⟩ := Kd.R_slice HO_12.out
               (first | subst eo61 | (injection eo61 with f1_ f2_ f3_; have f4_ := f1_.symm; have f5_ := f3_.symm; clear f1_ f2_ f3_; subst f4_; subst f5_))
               have p169 : 0 ≤ ((ji42) : Int) := of_decide_eq_true as_
               have q169 : (ji42) < (x12_3.length : Int) := of_decide_eq_true as_
               obtain ⟨ad169, e169, hx169_0, hx169_1, hx169_2⟩ := at_T70 (Kd.R_reads' HO_12.out).2.2 (ji42) p169 q169
               cases e169
               replace p169 := eq_true p169
               replace q169 := eq_true q169
               have p170 : 0 ≤ (x13_3 : Int) := of_decide_eq_true as_
               have q170 : x13_3 < (x9_2.length : Int) := of_decide_eq_true as_
               obtain ⟨ad170, e170, hx170_0⟩ := Kd.at_int (Kd.R_reads' HO_9.out).2.2 x13_3 p170 q170
               obtain rfl : ad165 = ad170 := (by injection e170)
               replace p170 := eq_true p170
               replace q170 := eq_true q170
               refine start_ (n := 19) (S := fun w' => w'.cell? (ad169.add (((ji42)).toNat * 3)) = some (.int .i64 ((rd_T70 x12_3 (ji42)).f0)) ∧ w'.cell? ⟨(ad169.add (((ji42)).toNat * 3)).block, (ad169.add (((ji42)).toNat * 3)).off + 1, none⟩ = some (.int .i64 ((rd_T70 x12_3 (ji42)).f1)) ∧ w'.cell? ⟨(ad169.add (((ji42)).toNat * 3)).block, (ad169.add (((ji42)).toNat * 3)).off + 2, none⟩ = some (.int .i64 ((rd_T70 x12_3 (ji42)).f2)) ∧ w'.cell? (ad165.add (x13_3).toNat) = some (.int .i64 (rd x9_2 x13_3))) (ds := []) (fl 0 19) (by kernel_rfl) rfl rfl ⟨hx169_0, hx169_1, hx169_2, hx170_0⟩ (fun hHeld => ?_); refine with_tabW deaddropref7_mix.tab20 deaddropref7_mix.bits20 (fun HT_ HW_ => ?_)
               generalize wc.drew = w60 at HO_9 HO_12 BK166 HB hx169_0 hx169_1 hx169_2 hx170_0 hHeld ⊢
               refine pure_ (i := 0) (N := some 123) (fl 1 19) rfl rfl (any_of HT_.out (by kernel_rfl)) (fun _ _ _ h => h) (Or.inl ⟨by rfl, py⟩) pa ?_
               refine pure_ (i := 1) (N := some 124) (fl 2 19) rfl rfl (any_of HT_.out (by kernel_rfl)) (fun _ _ _ h => h) (Or.inl ⟨by rfl, py⟩) pa ?_
               refine pure_ (i := 2) (N := some 125) (fl 3 19) rfl rfl (any_of HT_.out (by kernel_rfl)) (fun _ _ _ h => h) (Or.inl ⟨by rfl, py⟩) pa ?_
               refine pure_ (i := 3) (N := some 126) (fl 4 19) rfl rfl (any_of HT_.out (by kernel_rfl)) (fun _ _ _ h => h) (Or.inl ⟨by rfl, py⟩) pa ?_
               refine pure_ (i := 4) (N := some 127) (fl 5 19) rfl rfl (any_of HT_.out (by kernel_rfl)) (fun _ _ _ h => h) (Or.inl ⟨by rfl, py⟩) pa ?_
               refine pure_ (i := 5) (N := some 128) (fl 6 19) rfl rfl (any_of HT_.out (by kernel_rfl)) (fun _ _ _ h => h) (Or.inl ⟨by rfl, py⟩) pa ?_
               refine pure_ (i := 6) (N := some 129) (fl 7 19) rfl rfl (any_of HT_.out (by kernel_rfl)) (fun _ _ _ h => h) (Or.inl ⟨by rfl, py⟩) pa ?_
               refine pure_ (i := 7) (N := some 130) (fl 8 19) rfl rfl (any_of HT_.out (by kernel_rfl)) (fun _ _ _ h => h) (Or.inl ⟨by rfl, py⟩) pa ?_
               refine pure_ (i := 8) (N := some 131) (fl 9 19) rfl rfl (any_of HT_.out (by kernel_rfl)) (fun _ _ _ h => h) (Or.inl ⟨by rfl, py⟩) pa ?_
               refine pure_ (i := 9) (N := some 132) (fl 10 19) rfl rfl (any_of HT_.out (by kernel_rfl)) (fun _ _ _ h => h) (Or.inl ⟨by rfl, py⟩) pa ?_
               refine pure_ (i := 11) (N := some 134) #[true, true, true, true, true, true, true, true, true, true, false, true, false, false, false, false, false, false, false] rfl rfl (any_of HT_.out (by kernel_rfl)) (fun _ _ _ h => h) (Or.inl ⟨by rfl, py⟩) pa ?_
               refine pure_ (i := 12) (N := some 135) #[true, true, true, true, true, true, true, true, true, true, false, true, true, false, false, false, false, false, false] rfl rfl (any_of HT_.out (by kernel_rfl)) (fun _ _ _ h => h) (Or.inl ⟨by rfl, py⟩) pa ?_
               refine pure_ (i := 13) (N := some 136) #[true, true, true, true, true, true, true, true, true, true, false, true, true, true, false, false, false, false, false] rfl rfl (any_of HT_.out (by kernel_rfl)) (fun _ _ _ h => h) (Or.inl ⟨by rfl, py⟩) pa ?_
               refine take_ (i := 10) (N := some 133) (fl 14 19) rfl rfl (take_ofW HT_.out HW_.out (by kernel_rfl)) (fun _ _ _ h => h) (Or.inl ⟨by rfl, tk⟩) hHeld pa ?_
               refine take_ (i := 14) (N := some 137) (fl 15 19) rfl rfl (take_ofW HT_.out HW_.out (by kernel_rfl)) (fun _ _ _ h => h) (Or.inl ⟨by rfl, tk⟩) hHeld pa ?_
               refine pure_ (i := 15) (N := some 138) (fl 16 19) rfl rfl (any_of HT_.out (by kernel_rfl)) (fun _ _ _ h => h) (Or.inl ⟨by rfl, py⟩) pa ?_
               refine pure_ (i := 16) (N := some 139) (fl 17 19) rfl rfl (any_of HT_.out (by kernel_rfl)) (fun _ _ _ h => h) (Or.inl ⟨by rfl, py⟩) pa ?_
               refine pure_ (i := 17) (N := some 140) (fl 18 19) rfl rfl (any_of HT_.out (by kernel_rfl)) (fun _ _ _ h => h) (Or.inl ⟨by rfl, py⟩) pa ?_
               refine pure_ (i := 18) (N := some 122) (fl 19 19) rfl rfl (any_of HT_.out (by kernel_rfl)) (fun _ _ _ h => h) (Or.inl ⟨by rfl, py⟩) pa ?_
               refine done_ (done_of HT_.out (by kernel_rfl)) ?_
               try go_wp2
               replace HO_9 := Aside0.mk (Kd.R_drew HO_9.out)
               replace HO_12 := Aside0.mk (Kd.R_drew HO_12.out)
               replace BK166 := Aside0.mk (blk_drew BK166.out)
               replace HB := Aside0.mk (below_drew1 HB.out)
               have p173 : 0 ≤ (x13_3 : Int) := of_decide_eq_true as_
               have q173 : x13_3 < (x9_2.length : Int) := of_decide_eq_true as_
               obtain ⟨ad173, e173, hx173_0⟩ := Kd.at_int (Kd.R_reads' HO_9.out).2.2 x13_3 p173 q173
               obtain rfl : ad165 = ad173 := (by injection e173)
               replace p173 := eq_true p173
               replace q173 := eq_true q173
               have p174 : 0 ≤ ((ji56) : Int) := of_decide_eq_true as_
               have q174 : (ji56) < (x9_2.length : Int) := of_decide_eq_true as_
               obtain ⟨ad174, e174, hx174_0⟩ := Kd.at_int (Kd.R_reads' HO_9.out).2.2 (ji56) p174 q174
               obtain rfl : ad165 = ad174 := (by injection e174)
               replace p174 := eq_true p174
               replace q174 := eq_true q174
               refine start_ (n := 16) (S := fun w' => w'.cell? (ad165.add (x13_3).toNat) = some (.int .i64 (rd x9_2 x13_3)) ∧ w'.cell? (ad165.add ((ji56)).toNat) = some (.int .i64 (rd x9_2 (ji56)))) (ds := [13, 14]) (fl 0 16) (by kernel_rfl) rfl rfl ⟨hx173_0, hx174_0⟩ (fun hHeld => ?_); refine with_tabW deaddropref7_mix.tab18 deaddropref7_mix.bits18 (fun HT_ HW_ => ?_)
               generalize w60.drew = w62 at HO_9 HO_12 BK166 HB hx173_0 hx174_0 hHeld ⊢
               refine pure_ (i := 0) (N := some 90) (fl 1 16) rfl rfl (any_of HT_.out (by kernel_rfl)) (fun _ _ _ h => h) (Or.inl ⟨by rfl, py⟩) pa ?_
               refine pure_ (i := 1) (N := some 91) (fl 2 16) rfl rfl (any_of HT_.out (by kernel_rfl)) (fun _ _ _ h => h) (Or.inl ⟨by rfl, py⟩) pa ?_
               refine pure_ (i := 2) (N := some 92) (fl 3 16) rfl rfl (any_of HT_.out (by kernel_rfl)) (fun _ _ _ h => h) (Or.inl ⟨by rfl, py⟩) pa ?_
               refine pure_ (i := 3) (N := some 93) (fl 4 16) rfl rfl (any_of HT_.out (by kernel_rfl)) (fun _ _ _ h => h) (Or.inl ⟨by rfl, py⟩) pa ?_
               refine pure_ (i := 4) (N := some 94) (fl 5 16) rfl rfl (any_of HT_.out (by kernel_rfl)) (fun _ _ _ h => h) (Or.inl ⟨by rfl, py⟩) pa ?_
               refine pure_ (i := 6) (N := some 96) #[true, true, true, true, true, false, true, false, false, false, false, false, false, false, false, false] rfl rfl (any_of HT_.out (by kernel_rfl)) (fun _ _ _ h => h) (Or.inl ⟨by rfl, py⟩) pa ?_
               refine pure_ (i := 7) (N := some 97) #[true, true, true, true, true, false, true, true, false, false, false, false, false, false, false, false] rfl rfl (any_of HT_.out (by kernel_rfl)) (fun _ _ _ h => h) (Or.inl ⟨by rfl, py⟩) pa ?_
               refine pure_ (i := 8) (N := some 98) #[true, true, true, true, true, false, true, true, true, false, false, false, false, false, false, false] rfl rfl (any_of HT_.out (by kernel_rfl)) (fun _ _ _ h => h) (Or.inl ⟨by rfl, py⟩) pa ?_
               refine pure_ (i := 9) (N := some 99) #[true, true, true, true, true, false, true, true, true, true, false, false, false, false, false, false] rfl rfl (any_of HT_.out (by kernel_rfl)) (fun _ _ _ h => h) (Or.inl ⟨by rfl, py⟩) pa ?_
               refine take_ (i := 5) (N := some 95) (fl 10 16) rfl rfl (take_ofW HT_.out HW_.out (by kernel_rfl)) (fun _ _ _ h => h) (Or.inl ⟨by rfl, tk⟩) hHeld pa ?_
               refine take_ (i := 10) (N := some 100) (fl 11 16) rfl rfl (take_ofW HT_.out HW_.out (by kernel_rfl)) (fun _ _ _ h => h) (Or.inl ⟨by rfl, tk⟩) hHeld pa ?_
               refine pure_ (i := 11) (N := some 101) (fl 12 16) rfl rfl (any_of HT_.out (by kernel_rfl)) (fun _ _ _ h => h) (Or.inl ⟨by rfl, py⟩) pa ?_
               refine pure_ (i := 12) (N := some 102) (fl 13 16) rfl rfl (any_of HT_.out (by kernel_rfl)) (fun _ _ _ h => h) (Or.inl ⟨by rfl, py⟩) pa ?_
               refine last_ (i := 13) (N := some 103) (fl 14 16) rfl rfl (one_of HT_.out (by kernel_rfl)) (by decide) (fun K hK => ?_)
               refine value_ (w1 := ?_) (v := ?_) (by rfl) rfl ?_ ?_
               rotate_left 2
               ·
                go_simp
                constructor
                ·
                 rfl
                ·
                 rfl
               refine hK.out _ _ ?_
               clear hK K
               refine norm_ (a' := ?_) ?_ ?_
               rotate_left
               ·
                show Act.put _ (some 103) _ = _
                simp only [Act.put, List.setIfInBounds_toArray, List.set_cons_zero, List.set_cons_succ, i64_w, i32_w]
                rfl
               refine last_ (i := 14) (N := some 104) (fl 15 16) rfl rfl (one_of HT_.out (by kernel_rfl)) (by decide) (fun K hK => ?_)
               refine Kd.R_append_step k70 (w0 := w) w.heap.size (by rfl) (.tmp 90) (.tmp 103) 25 70 (.agg #[(.int .i64 0), (.int .i64 0), (.int .i64 0)]) 24 rfl Try.underlying25 info70 rfl (by decide) (by omega) (.slice (some ad169) x12_3.length co61) x12_3 (⟨a0, rd x9_2 x13_3, wrap64 ((rd x9_2 (ji56)) - 1)⟩ : S70) [.int .i64 a0, .int .i64 (rd x9_2 x13_3), .int .i64 (wrap64 ((rd x9_2 (ji56)) - 1))] (fun _ => True) (fun _ => False) rfl rfl ?aP (fun _ hk => hk.elim) ?aF ?aO ?aB ?aS ?aL ?_
               (case aP => exact k70_mkM _ _ _ (⟨a0, rd x9_2 x13_3, wrap64 ((rd x9_2 (ji56)) - 1)⟩ : S70))
               (case aB => exact (bw1 HB.out GE166.out))
               (case aF => exact (fun _ _ => trivial))
               (case aO => exact (rk HO_12.out))
               (case aS => exact (below_size (bw1 HB.out GE166.out)))
               (case aL => have := LMc59.out; omega)
               intro v176 w63 ho hb hg hat
               rw [← Ny175.out] at ho
               replace HO_9 := Aside0.mk (Kd.R_over' (rk HO_9.out) (Kd.R_typed (rk HO_12.out)) (by decide) hg)
               replace BK166 := Aside0.mk (bkg BK166.out hg (Kd.R_ne HO_12.out BK166.out (by decide)))
               replace HB := Aside0.mk (hb)
               have HO177 := Aside0.mk (ho)
               clear HO_12
               clear ho hb hg hat
               refine hK.out _ _ ?_
               clear hK K
               refine norm_ (a' := ?_) ?_ ?_
               rotate_left
               ·
                show Act.put _ (some 104) _ = _
                simp only [Act.put, List.setIfInBounds_toArray, List.set_cons_zero, List.set_cons_succ, i64_w, i32_w]
                rfl
               refine pure_ (i := 15) (N := some 12) (fl 16 16) rfl rfl (any_of HT_.out (by kernel_rfl)) (fun _ _ _ h => h) (Or.inl ⟨by rfl, py⟩) pa ?_
               refine done_ (done_of HT_.out (by kernel_rfl)) ?_
               try go_wp2
               go_roundg kj29
               case measure => have := HK1.out; have := HK2.out; have := HK3.out; have := HJ29.out; omega
               case rel => exact ⟨(y175), (ji56), (by first | rfl | (simp; done) | (simp only [← hji56] <;> (first | rfl | simp)) | (simp [*]; done)), H', ⟨by have := HK1.out; have := HK2.out; have := HK3.out; have := HJ29.out; omega⟩, ⟨rk HO_9.out⟩, ⟨rk HO177.out⟩, ⟨bw1 HB.out GE166.out⟩⟩
             ·
              rw [if_neg c41] at H
              have c41b0 : decide (0 < (x12_3.length : Int)) = false := decide_eq_false c41
              have c41b1 : decide (0 < x12_3.length) = false := decide_eq_false (by omega)
              clear c41
              by_cases c64 : 0 ≤ x13_3
              rotate_left
              ·
               rw [if_neg c64] at H
               exact absurd H (by simp)
              rw [if_pos c64] at H
              have c64b0 : decide (0 ≤ x13_3) = true := decide_eq_true c64
              clear c64
              by_cases c65 : x13_3 < (x9_2.length : Int)
              rotate_left
              ·
               rw [if_neg c65] at H
               exact absurd H (by simp)
              rw [if_pos c65] at H
              have c65b0 : decide (x13_3 < (x9_2.length : Int)) = true := decide_eq_true c65
              clear c65
              obtain ⟨ji66, hji66⟩ : ∃ j_ : Int, (wrap64 (x13_3 + 1)) = j_ := ⟨_, rfl⟩
              replace H : (if 0 ≤ (ji66) then (if (ji66) < (x9_2.length : Int) then (if x12_3.length < 5864062014805 then (deaddropref7_mix.l2 kj29 a0 l1 l2 a3 x9_2 (x12_3 ++ [(⟨a0, rd x9_2 x13_3, wrap64 ((rd x9_2 (ji66)) - 1)⟩ : S70)]) ji66) else (none)) else (none)) else (none)) = some r := by first | (rw [hji66] at H; exact H) | (simp only [hji66] at H ⊢; exact H)
              (try rw [hji66] at c25b0)
              have hji66w : (IntKind.i64.wrap (x13_3 + 1)) = ji66 := (i64_w _).trans hji66
              by_cases c67 : 0 ≤ (ji66)
              rotate_left
              ·
               rw [if_neg c67] at H
               exact absurd H (by simp)
              rw [if_pos c67] at H
              have c67b0 : decide (0 ≤ (ji66)) = true := decide_eq_true c67
              clear c67
              by_cases c68 : (ji66) < (x9_2.length : Int)
              rotate_left
              ·
               rw [if_neg c68] at H
               exact absurd H (by simp)
              rw [if_pos c68] at H
              have c68b0 : decide ((ji66) < (x9_2.length : Int)) = true := decide_eq_true c68
              clear c68
              by_cases c69 : x12_3.length < 5864062014805
              rotate_left
              ·
               rw [if_neg c69] at H
               exact absurd H (by simp)
              rw [if_pos c69] at H
              have LMc69 := Aside0.mk c69
              clear c69
              obtain ⟨y180, hy180⟩ : ∃ y_ : List (S70), y_ = (x12_3 ++ [(⟨a0, rd x9_2 x13_3, wrap64 ((rd x9_2 (ji66)) - 1)⟩ : S70)]) := ⟨_, rfl⟩
              replace H : (deaddropref7_mix.l2 kj29 a0 l1 l2 a3 x9_2 y180 ji66) = some r := by first | (rw [hy180]; with_reducible exact H) | (have H2_ := (Option.bind_some _ _).symm.trans H; rw [hy180]; with_reducible exact H2_) | (have H2_ := (Option.bind_some _ _).symm.trans H; with_reducible exact H2_) | with_reducible exact H | (rw [hy180]; exact H) | exact H
              have Ny180 := Aside0.mk hy180
              clear hy180
              have H' := Aside0.mk H
              clear H
              try go_wp2
              replace HO_9 := Aside0.mk (Kd.R_drew HO_9.out)
              replace HO_12 := Aside0.mk (Kd.R_drew HO_12.out)
              replace BK166 := Aside0.mk (blk_drew BK166.out)
              replace HB := Aside0.mk (below_drew1 HB.out)
              obtain ⟨Ao71, co71, eo71⟩ := Kd.R_slice HO_12.out
              (first | subst eo71 | (injection eo71 with f1_ f2_ f3_; have f4_ := f1_.symm; have f5_ := f3_.symm; clear f1_ f2_ f3_; subst f4_; subst f5_))
              refine start_ (n := 19) (S := fun w' => True) (ds := []) (fl 0 19) (by kernel_rfl) rfl rfl trivial (fun hHeld => ?_); refine with_tabW deaddropref7_mix.tab20 deaddropref7_mix.bits20 (fun HT_ HW_ => ?_)
              generalize wc.drew = w70 at HO_9 HO_12 BK166 HB hHeld ⊢
              refine pure_ (i := 0) (N := some 123) (fl 1 19) rfl rfl (any_of HT_.out (by kernel_rfl)) (fun _ _ _ h => h) (Or.inl ⟨by rfl, py⟩) pa ?_
              refine pure_ (i := 1) (N := some 124) (fl 2 19) rfl rfl (any_of HT_.out (by kernel_rfl)) (fun _ _ _ h => h) (Or.inl ⟨by rfl, py⟩) pa ?_
              refine pure_ (i := 2) (N := some 125) (fl 3 19) rfl rfl (any_of HT_.out (by kernel_rfl)) (fun _ _ _ h => h) (Or.inl ⟨by rfl, py⟩) pa ?_
              refine pure_ (i := 3) (N := some 126) (fl 4 19) rfl rfl (any_of HT_.out (by kernel_rfl)) (fun _ _ _ h => h) (Or.inl ⟨by rfl, py⟩) pa ?_
              refine pure_ (i := 4) (N := some 127) (v := undef) (a' := ?_) (fl 5 19) rfl rfl (any_of HT_.out (by kernel_rfl)) (fun _ _ _ h => h) (Or.inr ⟨by rfl, rfl⟩) ?_ ?_
              rotate_left
              ·
               simp only [Act.put, List.setIfInBounds_toArray, List.set_cons_zero, List.set_cons_succ, i64_w, i32_w]
               rfl
              refine pure_ (i := 5) (N := some 128) (v := undef) (a' := ?_) (fl 6 19) rfl rfl (any_of HT_.out (by kernel_rfl)) (fun _ _ _ h => h) (Or.inr ⟨by rfl, rfl⟩) ?_ ?_
              rotate_left
              ·
               simp only [Act.put, List.setIfInBounds_toArray, List.set_cons_zero, List.set_cons_succ, i64_w, i32_w]
               rfl
              refine pure_ (i := 6) (N := some 129) (v := undef) (a' := ?_) (fl 7 19) rfl rfl (any_of HT_.out (by kernel_rfl)) (fun _ _ _ h => h) (Or.inr ⟨by rfl, rfl⟩) ?_ ?_
              rotate_left
              ·
               simp only [Act.put, List.setIfInBounds_toArray, List.set_cons_zero, List.set_cons_succ, i64_w, i32_w]
               rfl
              refine pure_ (i := 7) (N := some 130) (v := undef) (a' := ?_) (fl 8 19) rfl rfl (any_of HT_.out (by kernel_rfl)) (fun _ _ _ h => h) (Or.inr ⟨by rfl, rfl⟩) ?_ ?_
              rotate_left
              ·
               simp only [Act.put, List.setIfInBounds_toArray, List.set_cons_zero, List.set_cons_succ, i64_w, i32_w]
               rfl
              refine pure_ (i := 8) (N := some 131) (v := undef) (a' := ?_) (fl 9 19) rfl rfl (any_of HT_.out (by kernel_rfl)) (fun _ _ _ h => h) (Or.inr ⟨by rfl, rfl⟩) ?_ ?_
              rotate_left
              ·
               simp only [Act.put, List.setIfInBounds_toArray, List.set_cons_zero, List.set_cons_succ, i64_w, i32_w]
               rfl
              refine pure_ (i := 9) (N := some 132) (v := undef) (a' := ?_) (fl 10 19) rfl rfl (any_of HT_.out (by kernel_rfl)) (fun _ _ _ h => h) (Or.inr ⟨by rfl, rfl⟩) ?_ ?_
              rotate_left
              ·
               simp only [Act.put, List.setIfInBounds_toArray, List.set_cons_zero, List.set_cons_succ, i64_w, i32_w]
               rfl
              refine pure_ (i := 10) (N := some 133) (v := undef) (a' := ?_) (fl 11 19) rfl rfl (any_of HT_.out (by kernel_rfl)) (fun _ _ _ h => h) (Or.inr ⟨by rfl, rfl⟩) ?_ ?_
              rotate_left
              ·
               simp only [Act.put, List.setIfInBounds_toArray, List.set_cons_zero, List.set_cons_succ, i64_w, i32_w]
               rfl
              refine pure_ (i := 11) (N := some 134) (v := undef) (a' := ?_) (fl 12 19) rfl rfl (any_of HT_.out (by kernel_rfl)) (fun _ _ _ h => h) (Or.inr ⟨by rfl, rfl⟩) ?_ ?_
              rotate_left
              ·
               simp only [Act.put, List.setIfInBounds_toArray, List.set_cons_zero, List.set_cons_succ, i64_w, i32_w]
               rfl
              refine pure_ (i := 12) (N := some 135) (v := undef) (a' := ?_) (fl 13 19) rfl rfl (any_of HT_.out (by kernel_rfl)) (fun _ _ _ h => h) (Or.inr ⟨by rfl, rfl⟩) ?_ ?_
              rotate_left
              ·
               simp only [Act.put, List.setIfInBounds_toArray, List.set_cons_zero, List.set_cons_succ, i64_w, i32_w]
               rfl
              refine pure_ (i := 13) (N := some 136) (v := undef) (a' := ?_) (fl 14 19) rfl rfl (any_of HT_.out (by kernel_rfl)) (fun _ _ _ h => h) (Or.inr ⟨by rfl, rfl⟩) ?_ ?_
              rotate_left
              ·
               simp only [Act.put, List.setIfInBounds_toArray, List.set_cons_zero, List.set_cons_succ, i64_w, i32_w]
               rfl
              refine pure_ (i := 14) (N := some 137) (v := undef) (a' := ?_) (fl 15 19) rfl rfl (any_of HT_.out (by kernel_rfl)) (fun _ _ _ h => h) (Or.inr ⟨by rfl, rfl⟩) ?_ ?_
              rotate_left
              ·
               simp only [Act.put, List.setIfInBounds_toArray, List.set_cons_zero, List.set_cons_succ, i64_w, i32_w]
               rfl
              refine pure_ (i := 15) (N := some 138) (v := undef) (a' := ?_) (fl 16 19) rfl rfl (any_of HT_.out (by kernel_rfl)) (fun _ _ _ h => h) (Or.inr ⟨by rfl, rfl⟩) ?_ ?_
              rotate_left
              ·
               simp only [Act.put, List.setIfInBounds_toArray, List.set_cons_zero, List.set_cons_succ, i64_w, i32_w]
               rfl
              refine pure_ (i := 16) (N := some 139) (v := undef) (a' := ?_) (fl 17 19) rfl rfl (any_of HT_.out (by kernel_rfl)) (fun _ _ _ h => h) (Or.inr ⟨by rfl, rfl⟩) ?_ ?_
              rotate_left
              ·
               simp only [Act.put, List.setIfInBounds_toArray, List.set_cons_zero, List.set_cons_succ, i64_w, i32_w]
               rfl
              refine pure_ (i := 17) (N := some 140) (fl 18 19) rfl rfl (any_of HT_.out (by kernel_rfl)) (fun _ _ _ h => h) (Or.inl ⟨by rfl, py⟩) pa ?_
              refine pure_ (i := 18) (N := some 122) (fl 19 19) rfl rfl (any_of HT_.out (by kernel_rfl)) (fun _ _ _ h => h) (Or.inl ⟨by rfl, py⟩) pa ?_
              refine done_ (done_of HT_.out (by kernel_rfl)) ?_
              try go_wp2
              replace HO_9 := Aside0.mk (Kd.R_drew HO_9.out)
              replace HO_12 := Aside0.mk (Kd.R_drew HO_12.out)
              replace BK166 := Aside0.mk (blk_drew BK166.out)
              replace HB := Aside0.mk (below_drew1 HB.out)
              have p178 : 0 ≤ (x13_3 : Int) := of_decide_eq_true as_
              have q178 : x13_3 < (x9_2.length : Int) := of_decide_eq_true as_
              obtain ⟨ad178, e178, hx178_0⟩ := Kd.at_int (Kd.R_reads' HO_9.out).2.2 x13_3 p178 q178
              obtain rfl : ad165 = ad178 := (by injection e178)
              replace p178 := eq_true p178
              replace q178 := eq_true q178
              have p179 : 0 ≤ ((ji66) : Int) := of_decide_eq_true as_
              have q179 : (ji66) < (x9_2.length : Int) := of_decide_eq_true as_
              obtain ⟨ad179, e179, hx179_0⟩ := Kd.at_int (Kd.R_reads' HO_9.out).2.2 (ji66) p179 q179
              obtain rfl : ad165 = ad179 := (by injection e179)
              replace p179 := eq_true p179
              replace q179 := eq_true q179
              refine start_ (n := 16) (S := fun w' => w'.cell? (ad165.add (x13_3).toNat) = some (.int .i64 (rd x9_2 x13_3)) ∧ w'.cell? (ad165.add ((ji66)).toNat) = some (.int .i64 (rd x9_2 (ji66)))) (ds := [13, 14]) (fl 0 16) (by kernel_rfl) rfl rfl ⟨hx178_0, hx179_0⟩ (fun hHeld => ?_); refine with_tabW deaddropref7_mix.tab18 deaddropref7_mix.bits18 (fun HT_ HW_ => ?_)
              generalize w70.drew = w72 at HO_9 HO_12 BK166 HB hx178_0 hx179_0 hHeld ⊢
              refine pure_ (i := 0) (N := some 90) (fl 1 16) rfl rfl (any_of HT_.out (by kernel_rfl)) (fun _ _ _ h => h) (Or.inl ⟨by rfl, py⟩) pa ?_
              refine pure_ (i := 1) (N := some 91) (fl 2 16) rfl rfl (any_of HT_.out (by kernel_rfl)) (fun _ _ _ h => h) (Or.inl ⟨by rfl, py⟩) pa ?_
              refine pure_ (i := 2) (N := some 92) (fl 3 16) rfl rfl (any_of HT_.out (by kernel_rfl)) (fun _ _ _ h => h) (Or.inl ⟨by rfl, py⟩) pa ?_
              refine pure_ (i := 3) (N := some 93) (fl 4 16) rfl rfl (any_of HT_.out (by kernel_rfl)) (fun _ _ _ h => h) (Or.inl ⟨by rfl, py⟩) pa ?_
              refine pure_ (i := 4) (N := some 94) (fl 5 16) rfl rfl (any_of HT_.out (by kernel_rfl)) (fun _ _ _ h => h) (Or.inl ⟨by rfl, py⟩) pa ?_
              refine pure_ (i := 6) (N := some 96) #[true, true, true, true, true, false, true, false, false, false, false, false, false, false, false, false] rfl rfl (any_of HT_.out (by kernel_rfl)) (fun _ _ _ h => h) (Or.inl ⟨by rfl, py⟩) pa ?_
              refine pure_ (i := 7) (N := some 97) #[true, true, true, true, true, false, true, true, false, false, false, false, false, false, false, false] rfl rfl (any_of HT_.out (by kernel_rfl)) (fun _ _ _ h => h) (Or.inl ⟨by rfl, py⟩) pa ?_
              refine pure_ (i := 8) (N := some 98) #[true, true, true, true, true, false, true, true, true, false, false, false, false, false, false, false] rfl rfl (any_of HT_.out (by kernel_rfl)) (fun _ _ _ h => h) (Or.inl ⟨by rfl, py⟩) pa ?_
              refine pure_ (i := 9) (N := some 99) #[true, true, true, true, true, false, true, true, true, true, false, false, false, false, false, false] rfl rfl (any_of HT_.out (by kernel_rfl)) (fun _ _ _ h => h) (Or.inl ⟨by rfl, py⟩) pa ?_
              refine take_ (i := 5) (N := some 95) (fl 10 16) rfl rfl (take_ofW HT_.out HW_.out (by kernel_rfl)) (fun _ _ _ h => h) (Or.inl ⟨by rfl, tk⟩) hHeld pa ?_
              refine take_ (i := 10) (N := some 100) (fl 11 16) rfl rfl (take_ofW HT_.out HW_.out (by kernel_rfl)) (fun _ _ _ h => h) (Or.inl ⟨by rfl, tk⟩) hHeld pa ?_
              refine pure_ (i := 11) (N := some 101) (fl 12 16) rfl rfl (any_of HT_.out (by kernel_rfl)) (fun _ _ _ h => h) (Or.inl ⟨by rfl, py⟩) pa ?_
              refine pure_ (i := 12) (N := some 102) (fl 13 16) rfl rfl (any_of HT_.out (by kernel_rfl)) (fun _ _ _ h => h) (Or.inl ⟨by rfl, py⟩) pa ?_
              refine last_ (i := 13) (N := some 103) (fl 14 16) rfl rfl (one_of HT_.out (by kernel_rfl)) (by decide) (fun K hK => ?_)
              refine value_ (w1 := ?_) (v := ?_) (by rfl) rfl ?_ ?_
              rotate_left 2
              ·
               go_simp
               constructor
               ·
                rfl
               ·
                rfl
              refine hK.out _ _ ?_
              clear hK K
              refine norm_ (a' := ?_) ?_ ?_
              rotate_left
              ·
               show Act.put _ (some 103) _ = _
               simp only [Act.put, List.setIfInBounds_toArray, List.set_cons_zero, List.set_cons_succ, i64_w, i32_w]
               rfl
              refine last_ (i := 14) (N := some 104) (fl 15 16) rfl rfl (one_of HT_.out (by kernel_rfl)) (by decide) (fun K hK => ?_)
              refine Kd.R_append_step k70 (w0 := w) w.heap.size (by rfl) (.tmp 90) (.tmp 103) 25 70 (.agg #[(.int .i64 0), (.int .i64 0), (.int .i64 0)]) 24 rfl Try.underlying25 info70 rfl (by decide) (by omega) (.slice Ao71 x12_3.length co71) x12_3 (⟨a0, rd x9_2 x13_3, wrap64 ((rd x9_2 (ji66)) - 1)⟩ : S70) [.int .i64 a0, .int .i64 (rd x9_2 x13_3), .int .i64 (wrap64 ((rd x9_2 (ji66)) - 1))] (fun _ => True) (fun _ => False) rfl rfl ?aP (fun _ hk => hk.elim) ?aF ?aO ?aB ?aS ?aL ?_
              (case aP => exact k70_mkM _ _ _ (⟨a0, rd x9_2 x13_3, wrap64 ((rd x9_2 (ji66)) - 1)⟩ : S70))
              (case aB => exact (bw1 HB.out GE166.out))
              (case aF => exact (fun _ _ => trivial))
              (case aO => exact (rk HO_12.out))
              (case aS => exact (below_size (bw1 HB.out GE166.out)))
              (case aL => have := LMc69.out; omega)
              intro v181 w73 ho hb hg hat
              rw [← Ny180.out] at ho
              replace HO_9 := Aside0.mk (Kd.R_over' (rk HO_9.out) (Kd.R_typed (rk HO_12.out)) (by decide) hg)
              replace BK166 := Aside0.mk (bkg BK166.out hg (Kd.R_ne HO_12.out BK166.out (by decide)))
              replace HB := Aside0.mk (hb)
              have HO182 := Aside0.mk (ho)
              clear HO_12
              clear ho hb hg hat
              refine hK.out _ _ ?_
              clear hK K
              refine norm_ (a' := ?_) ?_ ?_
              rotate_left
              ·
               show Act.put _ (some 104) _ = _
               simp only [Act.put, List.setIfInBounds_toArray, List.set_cons_zero, List.set_cons_succ, i64_w, i32_w]
               rfl
              refine pure_ (i := 15) (N := some 12) (fl 16 16) rfl rfl (any_of HT_.out (by kernel_rfl)) (fun _ _ _ h => h) (Or.inl ⟨by rfl, py⟩) pa ?_
              refine done_ (done_of HT_.out (by kernel_rfl)) ?_
              try go_wp2
              go_roundg kj29
              case measure => have := HK1.out; have := HK2.out; have := HK3.out; have := HJ29.out; omega
              case rel => exact ⟨(y180), (ji66), (by first | rfl | (simp; done) | (simp only [← hji66] <;> (first | rfl | simp)) | (simp [*]; done)), H', ⟨by have := HK1.out; have := HK2.out; have := HK3.out; have := HJ29.out; omega⟩, ⟨rk HO_9.out⟩, ⟨rk HO182.out⟩, ⟨bw1 HB.out GE166.out⟩⟩
         ·
          rw [if_neg c25] at H
          have c25b0 : decide ((wrap64 (x13_3 + 1)) < (x9_2.length : Int)) = false := decide_eq_false c25
          clear c25
          obtain rfl := Option.some.inj H
          obtain ⟨Ao74, co74, eo74⟩ := Kd.R_slice HO_9.out
          subst eo74
          go_wp2
          go_ret
          exact ⟨_, by first | rfl | (simp [errW_none, errW_some] <;> rfl) | (simp [*, errW_none, errW_some] <;> rfl), rk HO_12.out, bw HB.out⟩

end Go.Proofs.Ytaonemedoikieaa.M
