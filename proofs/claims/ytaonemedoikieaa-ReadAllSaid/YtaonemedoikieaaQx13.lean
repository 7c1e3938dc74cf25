-- Written by a program of this work (wip/tools/mkprint.py) over the kit's print; Lean checks it.
import Derived.Test.YtaonemedoikieaaQx0
import Derived.Test.YtaonemedoikieaaQx11
import Derived.Test.YtaonemedoikieaaQx12
import Derived.Test.YtaonemedoikieaaHAbb
namespace Go.Proofs.Ytaonemedoikieaa.Q
open Go.RowKit Go.Proofs.YtaonemedoikieaaW.PrintWords Go.Proofs.YtaonemedoikieaaW.PrintLast Go.Proofs.YtaonemedoikieaaW.PrintMore Go.Proofs.Ytaonemedoikieaa.AB
attribute [local go_sem] max2_int min2_int max_two min_two max_three min_three max_four min_four   -- for this text's walks alone
set_option linter.unusedVariables false
set_option linter.unusedSimpArgs false

/-! ### deaddropref7_mix: function 38 -/
mutual
def deaddropref7_mix.l0 : Nat → Int → List (S70) → List (S70) → Bool → List Int → Int → Option ((List (S70)))
 | 0, _, _, _, _, _, _ => none
 | k + 1, x0, x1, x2, x3, x9, x10 => if x10 < (x1.length : Int) then (none) else (deaddropref7_mix.l1 k x0 x1 x2 x3 x9 0)
def deaddropref7_mix.l1 : Nat → Int → List (S70) → List (S70) → Bool → List Int → Int → Option ((List (S70)))
 | 0, _, _, _, _, _, _ => none
 | k + 1, x0, x1, x2, x3, x9, x11 => if x11 < (x2.length : Int) then (if 0 ≤ x11 then (if ((rd_T70 x2 x11).f0) = x0 then ((deaddropref7_mark.f k x9 ((rd_T70 x2 x11).f1)).bind fun t282 => ((deaddropref7_mark.f k t282 (wrap64 (((rd_T70 x2 x11).f2) + 1))).bind fun t286 => (deaddropref7_mix.l1 k x0 x1 x2 x3 t286 (wrap64 (x11 + 1))))) else (deaddropref7_mix.l1 k x0 x1 x2 x3 x9 (wrap64 (x11 + 1)))) else (none)) else (deaddropref7_mix.l2 k x0 x1 x2 x3 x9 ([] : List (S70)) 0)
def deaddropref7_mix.l2 : Nat → Int → List (S70) → List (S70) → Bool → List Int → List (S70) → Int → Option ((List (S70)))
 | 0, _, _, _, _, _, _, _ => none
 | k + 1, x0, x1, x2, x3, x9, x12, x13 => if (wrap64 (x13 + 1)) < (x9.length : Int) then (if 0 ≤ x13 then (if x13 < (x9.length : Int) then ((deaddropref7_Has.f k x1 x0 (rd x9 x13)).bind fun t291 => ((deaddropref7_Has.f k x2 x0 (rd x9 x13)).bind fun t292 => (if x3 = true then (none) else (if t291 = true then (deaddropref7_mix.j3 k x0 x1 x2 x3 x9 x12 x13 false) else (deaddropref7_mix.j3 k x0 x1 x2 x3 x9 x12 x13 (!t292)))))) else (none)) else (none)) else (some x12)
def deaddropref7_mix.j3 : Nat → Int → List (S70) → List (S70) → Bool → List Int → List (S70) → Int → Bool → Option ((List (S70)))
 | 0, _, _, _, _, _, _, _, _ => none
 | k + 1, x0, x1, x2, x3, x9, x12, x13, x105 => if x105 = true then (deaddropref7_mix.l2 k x0 x1 x2 x3 x9 x12 (wrap64 (x13 + 1))) else (if (x12.length : Int) > 0 then (none) else (if 0 ≤ x13 then (if x13 < (x9.length : Int) then (if 0 ≤ (wrap64 (x13 + 1)) then (if (wrap64 (x13 + 1)) < (x9.length : Int) then (if x12.length < 5864062014805 then (deaddropref7_mix.l2 k x0 x1 x2 x3 x9 (x12 ++ [(⟨x0, rd x9 x13, wrap64 ((rd x9 (wrap64 (x13 + 1))) - 1)⟩ : S70)]) (wrap64 (x13 + 1))) else (none)) else (none)) else (none)) else (none)) else (none)))
end
def deaddropref7_mix.f (k : Nat) (a0 : Int) (l1 : List (S70)) (l2 : List (S70)) (a3 : Bool) : Option ((List (S70))) := deaddropref7_mix.l0 k a0 l1 l2 a3 ([] : List Int) 0
theorem deaddropref7_mix.mono_l : ∀ k, (∀ y0 y1 y2 y3 y4 y5, LeO (deaddropref7_mix.l0 k y0 y1 y2 y3 y4 y5) (deaddropref7_mix.l0 (k + 1) y0 y1 y2 y3 y4 y5)) ∧ (∀ y0 y1 y2 y3 y4 y5, LeO (deaddropref7_mix.l1 k y0 y1 y2 y3 y4 y5) (deaddropref7_mix.l1 (k + 1) y0 y1 y2 y3 y4 y5)) ∧ (∀ y0 y1 y2 y3 y4 y5 y6, LeO (deaddropref7_mix.l2 k y0 y1 y2 y3 y4 y5 y6) (deaddropref7_mix.l2 (k + 1) y0 y1 y2 y3 y4 y5 y6)) ∧ (∀ y0 y1 y2 y3 y4 y5 y6 y7, LeO (deaddropref7_mix.j3 k y0 y1 y2 y3 y4 y5 y6 y7) (deaddropref7_mix.j3 (k + 1) y0 y1 y2 y3 y4 y5 y6 y7))
 | 0 => ⟨fun _ _ _ _ _ _ r h => by simp [deaddropref7_mix.l0] at h, fun _ _ _ _ _ _ r h => by simp [deaddropref7_mix.l1] at h, fun _ _ _ _ _ _ _ r h => by simp [deaddropref7_mix.l2] at h, fun _ _ _ _ _ _ _ _ r h => by simp [deaddropref7_mix.j3] at h⟩
 | k + 1 => by
  obtain ⟨ih0, ih1, ih2, ih3⟩ := deaddropref7_mix.mono_l k
  refine ⟨?_, ?_, ?_, ?_⟩
  ·
   intro y0 y1 y2 y3 y4 y5
   unfold deaddropref7_mix.l0
   repeat' first
   | (with_reducible exact ih0 _ _ _ _ _ _)
   | (with_reducible exact ih1 _ _ _ _ _ _)
   | (with_reducible exact ih2 _ _ _ _ _ _ _)
   | (with_reducible exact ih3 _ _ _ _ _ _ _ _)
   | (with_reducible exact deaddropref7_Has.mono _ _ _ _)
   | (with_reducible exact deaddropref7_mark.mono _ _ _)
   | (with_reducible exact LeO.refl _)
   | (with_reducible exact LeO.none _)
   | (with_reducible refine LeO.ite ?_ ?_)
   | (with_reducible refine LeO.bind ?_ (fun _ => ?_))
   | exact ih0 _ _ _ _ _ _
   | exact ih1 _ _ _ _ _ _
   | exact ih2 _ _ _ _ _ _ _
   | exact ih3 _ _ _ _ _ _ _ _
   | exact deaddropref7_Has.mono _ _ _ _
   | exact deaddropref7_mark.mono _ _ _
   | exact LeO.none _
   | refine LeO.ite ?_ ?_
   | refine LeO.bind ?_ (fun _ => ?_)
  ·
   intro y0 y1 y2 y3 y4 y5
   unfold deaddropref7_mix.l1
   repeat' first
   | (with_reducible exact ih0 _ _ _ _ _ _)
   | (with_reducible exact ih1 _ _ _ _ _ _)
   | (with_reducible exact ih2 _ _ _ _ _ _ _)
   | (with_reducible exact ih3 _ _ _ _ _ _ _ _)
   | (with_reducible exact deaddropref7_Has.mono _ _ _ _)
   | (with_reducible exact deaddropref7_mark.mono _ _ _)
   | (with_reducible exact LeO.refl _)
   | (with_reducible exact LeO.none _)
   | (with_reducible refine LeO.ite ?_ ?_)
   | (with_reducible refine LeO.bind ?_ (fun _ => ?_))
   | exact ih0 _ _ _ _ _ _
   | exact ih1 _ _ _ _ _ _
   | exact ih2 _ _ _ _ _ _ _
   | exact ih3 _ _ _ _ _ _ _ _
   | exact deaddropref7_Has.mono _ _ _ _
   | exact deaddropref7_mark.mono _ _ _
   | exact LeO.none _
   | refine LeO.ite ?_ ?_
   | refine LeO.bind ?_ (fun _ => ?_)
  ·
   intro y0 y1 y2 y3 y4 y5 y6
   unfold deaddropref7_mix.l2
   repeat' first
   | (with_reducible exact ih0 _ _ _ _ _ _)
   | (with_reducible exact ih1 _ _ _ _ _ _)
   | (with_reducible exact ih2 _ _ _ _ _ _ _)
   | (with_reducible exact ih3 _ _ _ _ _ _ _ _)
   | (with_reducible exact deaddropref7_Has.mono _ _ _ _)
   | (with_reducible exact deaddropref7_mark.mono _ _ _)
   | (with_reducible exact LeO.refl _)
   | (with_reducible exact LeO.none _)
   | (with_reducible refine LeO.ite ?_ ?_)
   | (with_reducible refine LeO.bind ?_ (fun _ => ?_))
   | exact ih0 _ _ _ _ _ _
   | exact ih1 _ _ _ _ _ _
   | exact ih2 _ _ _ _ _ _ _
   | exact ih3 _ _ _ _ _ _ _ _
   | exact deaddropref7_Has.mono _ _ _ _
   | exact deaddropref7_mark.mono _ _ _
   | exact LeO.none _
   | refine LeO.ite ?_ ?_
   | refine LeO.bind ?_ (fun _ => ?_)
  ·
   intro y0 y1 y2 y3 y4 y5 y6 y7
   unfold deaddropref7_mix.j3
   repeat' first
   | (with_reducible exact ih0 _ _ _ _ _ _)
   | (with_reducible exact ih1 _ _ _ _ _ _)
   | (with_reducible exact ih2 _ _ _ _ _ _ _)
   | (with_reducible exact ih3 _ _ _ _ _ _ _ _)
   | (with_reducible exact deaddropref7_Has.mono _ _ _ _)
   | (with_reducible exact deaddropref7_mark.mono _ _ _)
   | (with_reducible exact LeO.refl _)
   | (with_reducible exact LeO.none _)
   | (with_reducible refine LeO.ite ?_ ?_)
   | (with_reducible refine LeO.bind ?_ (fun _ => ?_))
   | exact ih0 _ _ _ _ _ _
   | exact ih1 _ _ _ _ _ _
   | exact ih2 _ _ _ _ _ _ _
   | exact ih3 _ _ _ _ _ _ _ _
   | exact deaddropref7_Has.mono _ _ _ _
   | exact deaddropref7_mark.mono _ _ _
   | exact LeO.none _
   | refine LeO.ite ?_ ?_
   | refine LeO.bind ?_ (fun _ => ?_)
theorem deaddropref7_mix.mono : ∀ a0 a1 a2 a3 k, LeO (deaddropref7_mix.f k a0 a1 a2 a3) (deaddropref7_mix.f (k + 1) a0 a1 a2 a3) := by
 intro a0 a1 a2 a3 k
 obtain ⟨ih0, ih1, ih2, ih3⟩ := deaddropref7_mix.mono_l k
 unfold deaddropref7_mix.f
 repeat' first
  | (with_reducible exact ih0 _ _ _ _ _ _)
  | (with_reducible exact ih1 _ _ _ _ _ _)
  | (with_reducible exact ih2 _ _ _ _ _ _ _)
  | (with_reducible exact ih3 _ _ _ _ _ _ _ _)
  | (with_reducible exact deaddropref7_Has.mono _ _ _ _)
  | (with_reducible exact deaddropref7_mark.mono _ _ _)
  | (with_reducible exact LeO.refl _)
  | (with_reducible exact LeO.none _)
  | (with_reducible refine LeO.ite ?_ ?_)
  | (with_reducible refine LeO.bind ?_ (fun _ => ?_))
  | exact ih0 _ _ _ _ _ _
  | exact ih1 _ _ _ _ _ _
  | exact ih2 _ _ _ _ _ _ _
  | exact ih3 _ _ _ _ _ _ _ _
  | exact deaddropref7_Has.mono _ _ _ _
  | exact deaddropref7_mark.mono _ _ _
  | exact LeO.none _
  | refine LeO.ite ?_ ?_
  | refine LeO.bind ?_ (fun _ => ?_)
def deaddropref7_mix.T11 : Bool × List (List Nat × List Nat) := (true, [([], []), ([], []), ([], []), ([1, 2], [1, 2]), ([3], [3]), ([4], [4]), ([0, 5], [0, 5]), ([], []), ([], []), ([7, 8], [7, 8]), ([9], [9]), ([10], [10]), ([11], [11]), ([6, 12, 6], [6, 12]), ([13, 13, 0, 1, 2, 3, 4, 5, 6, 7, 8, 9, 10, 11, 12, 13], [0, 13])])
def deaddropref7_mix.B11 : List Nat := [0, 0, 0, 6, 14, 30, 63, 0, 0, 384, 896, 1920, 3968, 8191, 16383]
theorem deaddropref7_mix.tab11 : rtab .any (opsOf Try.f38 11) = deaddropref7_mix.T11 := by kernel_rfl
theorem deaddropref7_mix.bits11 : waitsOk deaddropref7_mix.T11.2 deaddropref7_mix.B11 = true := by kernel_rfl
def deaddropref7_mix.T17 : Bool × List (List Nat × List Nat) := (true, [([], []), ([], []), ([0, 1], [0, 1]), ([], []), ([], []), ([3, 4, 2], [3, 4]), ([2, 5, 0, 1, 2], [2]), ([5, 6, 0, 1, 2, 3, 4, 5, 6], [5])])
def deaddropref7_mix.B17 : List Nat := [0, 0, 3, 0, 0, 31, 63, 127]
theorem deaddropref7_mix.tab17 : rtab .any (opsOf Try.f38 17) = deaddropref7_mix.T17 := by kernel_rfl
theorem deaddropref7_mix.bits17 : waitsOk deaddropref7_mix.T17.2 deaddropref7_mix.B17 = true := by kernel_rfl
def deaddropref7_mix.T18 : Bool × List (List Nat × List Nat) := (true, [([], []), ([], []), ([], []), ([], []), ([2, 3], [2, 3]), ([4], [4]), ([], []), ([], []), ([7], [7]), ([6, 8], [6, 8]), ([9], [9]), ([10], [10]), ([1, 5, 11], [1, 5, 11]), ([12], [12]), ([0, 13], [0, 13]), ([14, 14, 0, 1, 2, 3, 4, 5, 6, 7, 8, 9, 10, 11, 12, 13, 14], [0, 14])])
def deaddropref7_mix.B18 : List Nat := [0, 0, 0, 0, 12, 28, 0, 0, 128, 448, 960, 1984, 4094, 8190, 16383, 32767]
theorem deaddropref7_mix.tab18 : rtab .any (opsOf Try.f38 18) = deaddropref7_mix.T18 := by kernel_rfl
theorem deaddropref7_mix.bits18 : waitsOk deaddropref7_mix.T18.2 deaddropref7_mix.B18 = true := by kernel_rfl
def deaddropref7_mix.T20 : Bool × List (List Nat × List Nat) := (true, [([], []), ([0], [0]), ([1], [1]), ([2], [2]), ([3], [3]), ([3], [3]), ([5, 3], [3, 5]), ([6, 3], [3, 6]), ([4, 7, 3], [3, 4, 7]), ([8, 3], [3, 8]), ([9, 3], [3, 9]), ([3], [3]), ([3], [3]), ([11, 12, 3], [3, 11, 12]), ([13, 3], [3, 13]), ([14, 3], [3, 14]), ([10, 15, 3], [3, 10, 15]), ([3, 16], [3, 16]), ([17, 3], [17])])
def deaddropref7_mix.B20 : List Nat := [0, 1, 3, 7, 15, 15, 47, 111, 255, 511, 1023, 15, 15, 6159, 14351, 30735, 65535, 131071, 262143]
theorem deaddropref7_mix.tab20 : rtab .any (opsOf Try.f38 20) = deaddropref7_mix.T20 := by kernel_rfl
theorem deaddropref7_mix.bits20 : waitsOk deaddropref7_mix.T20.2 deaddropref7_mix.B20 = true := by kernel_rfl
set_option maxHeartbeats 8000000 in
set_option maxRecDepth 100000 in
theorem deaddropref7_mix.calls (k : Nat) (a0 : Int) (A1 : Option Addr) (c1 : Nat) (l1 : List (S70)) (A2 : Option Addr) (c2 : Nat) (l2 : List (S70)) (a3 : Bool) (r : List (S70)) (w : World) (hr1 : Kd.C k70 w A1 l1.length l1) (hc1 : l1.length ≤ c1) (hr2 : Kd.C k70 w A2 l2.length l2) (hc2 : l2.length ≤ c2) (h : deaddropref7_mix.f k a0 l1 l2 a3 = some r) :
 Calls Try.prog 38 #[.int .i64 a0, .slice A1 l1.length c1, .slice A2 l2.length c2, .bool a3] w fun e w' => ∃ v0_ : Value, e = .returned (v0_) ∧ Kd.R k70 70 w' w.heap.size (fun _ => True) v0_ r ∧ Below w.heap.size w w' := by
 have hu32 := Try.underlying32
 have hu70 := Try.underlying70
 have HR1 := Aside0.mk hr1
 have HC1 := Aside0.mk hc1
 clear hr1 hc1
 have HR2 := Aside0.mk hr2
 have HC2 := Aside0.mk hc2
 clear hr2 hc2
 have HB := Aside0.mk (Below.refl w.heap.size w)
 have H : (deaddropref7_mix.l0 k a0 l1 l2 a3 ([] : List Int) 0) = some r := h
 clear h
 have H' := Aside0.mk H
 clear H
 go_enter Try.func38, Try.ntmps38
 go_wp2
 go_loopg [9, 10] k (fun kq v9 v10 w' => ∃ (x9_1 : List Int) (x10_1 : Int), v10 = .int .i64 x10_1 ∧ Aside0 (deaddropref7_mix.l0 kq a0 l1 l2 a3 x9_1 x10_1 = some r) ∧ Aside0 (kq ≤ k) ∧ Aside0 (Kd.R (Kd.int .i64) 3 w' w.heap.size (fun _ => True) v9 x9_1) ∧ Aside0 (Below w.heap.size w w'))
 case atStart => exact ⟨(([] : List Int)), (0), ok_, H', ⟨Nat.le_refl _⟩, ⟨by first | exact Kd.R_nil _ _ _ _ _ | exact Kd.N_nil _ _ _ _ _ | exact Kd.V_nil _ _ _ _ _ | exact Kd.Q_nil _ _ _ _ _ | exact Kd.S_nil _ _ _ _ _⟩, ⟨by repeat (first | (with_reducible first | exact HB.out | apply below_alloc | apply pw_below_drewN | apply below_drew1) | exact HB.out)⟩⟩
 case round =>
  clear H'
  try clear c1
  try clear c2
  try clear p2
  try clear c3
  obtain ⟨x9_1, x10_1, rfl, HA, HK1, HO_9, HB⟩ := hrel
  cases gk with
  | zero => exact absurd HA.out (by simp [deaddropref7_mix.l0])
  | succ k1 =>
   have H := HA.out
   clear HA
   simp only [deaddropref7_mix.l0] at H
   by_cases c5 : x10_1 < (l1.length : Int)
   ·
    rw [if_pos c5] at H
    exact absurd H (by simp)
   rw [if_neg c5] at H
   have c5b0 : decide (x10_1 < (l1.length : Int)) = false := decide_eq_false c5
   clear c5
   have H' := Aside0.mk H
   clear H
   go_wp2
   go_loopg [9, 11] k1 (fun kq v9 v11 w' => ∃ (x9_2 : List Int) (x11_2 : Int), v11 = .int .i64 x11_2 ∧ Aside0 (deaddropref7_mix.l1 kq a0 l1 l2 a3 x9_2 x11_2 = some r) ∧ Aside0 (kq ≤ k1) ∧ Aside0 (Kd.R (Kd.int .i64) 3 w' w.heap.size (fun _ => True) v9 x9_2) ∧ Aside0 (Below w.heap.size w w'))
   case atStart => exact ⟨(x9_1), (0), ok_, H', ⟨Nat.le_refl _⟩, ⟨by (with_reducible repeat (first | apply Kd.R_alloc | apply Kd.R_drewN | apply Kd.R_drew)); exact HO_9.out⟩, ⟨by repeat (first | (with_reducible first | exact HB.out | apply below_alloc | apply pw_below_drewN | apply below_drew1) | exact HB.out)⟩⟩
   case round =>
    clear H'
    try clear c1
    try clear c2
    try clear p2
    try clear c3
    try clear c5
    try clear c5b0
    try clear p2
    obtain ⟨x9_2, x11_2, rfl, HA, HK2, HO_9, HB⟩ := hrel
    cases gk with
    | zero => exact absurd HA.out (by simp [deaddropref7_mix.l1])
    | succ k2 =>
     have H := HA.out
     clear HA
     simp only [deaddropref7_mix.l1] at H
     by_cases c6 : x11_2 < (l2.length : Int)
     ·
      rw [if_pos c6] at H
      have c6b0 : decide (x11_2 < (l2.length : Int)) = true := decide_eq_true c6
      clear c6
      by_cases c7 : 0 ≤ x11_2
      rotate_left
      ·
       rw [if_neg c7] at H
       exact absurd H (by simp)
      rw [if_pos c7] at H
      have c7b0 : decide (0 ≤ x11_2) = true := decide_eq_true c7
      clear c7
      by_cases c8 : ((rd_T70 l2 x11_2).f0) = a0
      ·
       rw [if_pos c8] at H
       have c8b0 : (((rd_T70 l2 x11_2).f0) == a0) = true := beq_iff_eq.mpr c8
       have c8b1 : (((rd_T70 l2 x11_2).f0) != a0) = false := bne_eq_false_iff_eq.mpr c8
       clear c8
       replace H := Option.bind_eq_some_iff.mp H
       obtain ⟨t282, A90, H⟩ := H
       replace H : ((deaddropref7_mark.f k2 t282 (wrap64 (((rd_T70 l2 x11_2).f2) + 1))).bind fun t286 => (deaddropref7_mix.l1 k2 a0 l1 l2 a3 t286 (wrap64 (x11_2 + 1)))) = some r := H
       have A9 := Aside0.mk A90
       clear A90
       replace H := Option.bind_eq_some_iff.mp H
       obtain ⟨t286, A100, H⟩ := H
       replace H : (deaddropref7_mix.l1 k2 a0 l1 l2 a3 t286 (wrap64 (x11_2 + 1))) = some r := H
       have A10 := Aside0.mk A100
       clear A100
       have H' := Aside0.mk H
       clear H
       have p280 : 0 ≤ (x11_2 : Int) := of_decide_eq_true as_
       have q280 : x11_2 < (l2.length : Int) := of_decide_eq_true as_
       obtain ⟨ad280, e280, hx280_0, hx280_1, hx280_2⟩ := at_T70 HR2.out x11_2 p280 q280
       cases e280
       replace hx280_0 := (HB.out.cell (World.block_lt_of_cell? w _ hx280_0)).trans hx280_0
       replace hx280_1 := (HB.out.cell (World.block_lt_of_cell? w _ hx280_1)).trans hx280_1
       replace hx280_2 := (HB.out.cell (World.block_lt_of_cell? w _ hx280_2)).trans hx280_2
       replace p280 := eq_true p280
       replace q280 := eq_true q280
       try go_wp2
       replace HO_9 := Aside0.mk (Kd.R_drew HO_9.out)
       replace HB := Aside0.mk (below_drew1 HB.out)
       have p281 : 0 ≤ (x11_2 : Int) := of_decide_eq_true as_
       have q281 : x11_2 < (l2.length : Int) := of_decide_eq_true as_
       obtain ⟨ad281, e281, hx281_0, hx281_1, hx281_2⟩ := at_T70 HR2.out x11_2 p281 q281
       have hw281_2 := hx281_2
       have hw281_1 := hx281_1
       have hw281_0 := hx281_0
       obtain rfl : ad280 = ad281 := (by injection e281)
       replace hx281_0 := (HB.out.cell (World.block_lt_of_cell? w _ hx281_0)).trans hx281_0
       replace hx281_1 := (HB.out.cell (World.block_lt_of_cell? w _ hx281_1)).trans hx281_1
       replace hx281_2 := (HB.out.cell (World.block_lt_of_cell? w _ hx281_2)).trans hx281_2
       replace p281 := eq_true p281
       replace q281 := eq_true q281
       have p285 : 0 ≤ (x11_2 : Int) := of_decide_eq_true as_
       have q285 : x11_2 < (l2.length : Int) := of_decide_eq_true as_
       obtain ⟨ad285, e285, hx285_0, hx285_1, hx285_2⟩ := at_T70 HR2.out x11_2 p285 q285
       have hw285_2 := hx285_2
       have hw285_1 := hx285_1
       have hw285_0 := hx285_0
       obtain rfl : ad280 = ad285 := (by injection e285)
       replace hx285_0 := (HB.out.cell (World.block_lt_of_cell? w _ hx285_0)).trans hx285_0
       replace hx285_1 := (HB.out.cell (World.block_lt_of_cell? w _ hx285_1)).trans hx285_1
       replace hx285_2 := (HB.out.cell (World.block_lt_of_cell? w _ hx285_2)).trans hx285_2
       replace p285 := eq_true p285
       replace q285 := eq_true q285
       obtain ⟨Ao12, co12, eo12⟩ := Kd.R_slice HO_9.out
       (first | subst eo12 | (injection eo12 with f1_ f2_ f3_; have f4_ := f1_.symm; have f5_ := f3_.symm; clear f1_ f2_ f3_; subst f4_; subst f5_))
       refine start_ (n := 15) (S := fun w' => w'.cell? (ad280.add ((x11_2).toNat * 3)) = some (.int .i64 ((rd_T70 l2 x11_2).f0)) ∧ w'.cell? ⟨(ad280.add ((x11_2).toNat * 3)).block, (ad280.add ((x11_2).toNat * 3)).off + 1, none⟩ = some (.int .i64 ((rd_T70 l2 x11_2).f1)) ∧ w'.cell? ⟨(ad280.add ((x11_2).toNat * 3)).block, (ad280.add ((x11_2).toNat * 3)).off + 2, none⟩ = some (.int .i64 ((rd_T70 l2 x11_2).f2)) ∧ w'.cell? (ad280.add ((x11_2).toNat * 3)) = some (.int .i64 ((rd_T70 l2 x11_2).f0)) ∧ w'.cell? ⟨(ad280.add ((x11_2).toNat * 3)).block, (ad280.add ((x11_2).toNat * 3)).off + 1, none⟩ = some (.int .i64 ((rd_T70 l2 x11_2).f1)) ∧ w'.cell? ⟨(ad280.add ((x11_2).toNat * 3)).block, (ad280.add ((x11_2).toNat * 3)).off + 2, none⟩ = some (.int .i64 ((rd_T70 l2 x11_2).f2))) (ds := []) (fl 0 15) (by kernel_rfl) rfl rfl ⟨(bc HB.out hw281_0), (bc HB.out hw281_1), (bc HB.out hw281_2), (bc HB.out hw285_0), (bc HB.out hw285_1), (bc HB.out hw285_2)⟩ (fun hHeld => ?_); refine with_tabW deaddropref7_mix.tab11 deaddropref7_mix.bits11 (fun HT_ HW_ => ?_)
       generalize wr.drew = w11 at HO_9 HB hx281_0 hx281_1 hx281_2 hx285_0 hx285_1 hx285_2 hHeld ⊢
       refine pure_ (i := 0) (N := some 57) (fl 1 15) rfl rfl (any_of HT_.out (by kernel_rfl)) (fun _ _ _ h => h) (Or.inl ⟨by rfl, py⟩) pa ?_
       refine pure_ (i := 1) (N := some 58) (fl 2 15) rfl rfl (any_of HT_.out (by kernel_rfl)) (fun _ _ _ h => h) (Or.inl ⟨by rfl, py⟩) pa ?_
       refine pure_ (i := 2) (N := some 59) (fl 3 15) rfl rfl (any_of HT_.out (by kernel_rfl)) (fun _ _ _ h => h) (Or.inl ⟨by rfl, py⟩) pa ?_
       refine pure_ (i := 3) (N := some 60) (fl 4 15) rfl rfl (any_of HT_.out (by kernel_rfl)) (fun _ _ _ h => h) (Or.inl ⟨by rfl, py⟩) pa ?_
       refine pure_ (i := 4) (N := some 61) (fl 5 15) rfl rfl (any_of HT_.out (by kernel_rfl)) (fun _ _ _ h => h) (Or.inl ⟨by rfl, py⟩) pa ?_
       refine pure_ (i := 7) (N := some 64) #[true, true, true, true, true, false, false, true, false, false, false, false, false, false, false] rfl rfl (any_of HT_.out (by kernel_rfl)) (fun _ _ _ h => h) (Or.inl ⟨by rfl, py⟩) pa ?_
       refine pure_ (i := 8) (N := some 65) #[true, true, true, true, true, false, false, true, true, false, false, false, false, false, false] rfl rfl (any_of HT_.out (by kernel_rfl)) (fun _ _ _ h => h) (Or.inl ⟨by rfl, py⟩) pa ?_
       refine pure_ (i := 9) (N := some 66) #[true, true, true, true, true, false, false, true, true, true, false, false, false, false, false] rfl rfl (any_of HT_.out (by kernel_rfl)) (fun _ _ _ h => h) (Or.inl ⟨by rfl, py⟩) pa ?_
       refine pure_ (i := 10) (N := some 67) #[true, true, true, true, true, false, false, true, true, true, true, false, false, false, false] rfl rfl (any_of HT_.out (by kernel_rfl)) (fun _ _ _ h => h) (Or.inl ⟨by rfl, py⟩) pa ?_
       refine take_ (i := 5) (N := some 62) (v := ?_) (a' := ?_) #[true, true, true, true, true, true, false, true, true, true, true, false, false, false, false] rfl rfl (take_ofW HT_.out HW_.out (by kernel_rfl)) (fun _ _ _ h => h) (Or.inl ⟨by rfl, ?_⟩) hHeld ?_ ?_
       rotate_left
       ·
        rintro w' ⟨s0, s1, s2, s3, s4, s5⟩
        go_simp
        with_reducible rfl
       rotate_left
       ·
        simp only [Act.put, List.setIfInBounds_toArray, List.set_cons_zero, List.set_cons_succ, i64_w, i32_w]
        rfl
       refine take_ (i := 11) (N := some 68) (v := ?_) (a' := ?_) #[true, true, true, true, true, true, false, true, true, true, true, true, false, false, false] rfl rfl (take_ofW HT_.out HW_.out (by kernel_rfl)) (fun _ _ _ h => h) (Or.inl ⟨by rfl, ?_⟩) hHeld ?_ ?_
       rotate_left
       ·
        rintro w' ⟨s0, s1, s2, s3, s4, s5⟩
        go_simp
        with_reducible rfl
       rotate_left
       ·
        simp only [Act.put, List.setIfInBounds_toArray, List.set_cons_zero, List.set_cons_succ, i64_w, i32_w]
        rfl
       refine pure_ (i := 12) (N := some 69) #[true, true, true, true, true, true, false, true, true, true, true, true, true, false, false] rfl rfl (any_of HT_.out (by kernel_rfl)) (fun _ _ _ h => h) (Or.inl ⟨by rfl, py⟩) pa ?_
       refine one_ (i := 6) (N := some 63) (fl 13 15) rfl rfl (one_of HT_.out (by kernel_rfl)) (by decide) (fun K hK => ?_)
       refine goes_ Try.func42 (by kernel_rfl) rfl #[.slice Ao12 x9_2.length co12, .int .i64 ((rd_T70 l2 x11_2).f1)] (by rfl) rfl rfl ar_ ?_
       with_reducible refine (deaddropref7_mark.calls k2 (fun k_ => some k_ = (.slice Ao12 x9_2.length co12 : Value).ownBlock) (.slice Ao12 x9_2.length co12) x9_2 ((rd_T70 l2 x11_2).f1) t282 w _ ?side1 ?side2 A9.out).mono ?_
       (case side1 => repeat (first | (with_reducible first | exact HB.out | apply below_alloc | apply pw_below_drewN | apply below_drew1) | exact HB.out))
       (case side2 => exact Kd.R_tight rfl HO_9.out)
       rintro e w13 ⟨v283, rfl, ho0, hb, hkp⟩
       refine ⟨_, rfl, ?_⟩
       have HO284 := Aside0.mk (Kd.R_mono (ok' := fun k_ => True) ho0 (fun k_ hk_ => trivial))
       replace HB := Aside0.mk (hb)
       clear HO_9
       (try clear hb)
       (try clear hkp)
       (try clear ho0)
       obtain ⟨Ao14, co14, eo14⟩ := Kd.R_slice HO284.out
       (first | subst eo14 | (injection eo14 with f1_ f2_ f3_; have f4_ := f1_.symm; have f5_ := f3_.symm; clear f1_ f2_ f3_; subst f4_; subst f5_))
       refine hK.out _ _ ⟨(bc HB.out hw281_0), (bc HB.out hw281_1), (bc HB.out hw281_2), (bc HB.out hw285_0), (bc HB.out hw285_1), (bc HB.out hw285_2)⟩ (fun hHeld => ?_)
       clear hK K
       refine norm_ (a' := ?_) ?_ ?_
       rotate_left
       ·
        show Act.put _ (some 63) _ = _
        simp only [Act.put, List.setIfInBounds_toArray, List.set_cons_zero, List.set_cons_succ, i64_w, i32_w]
        rfl
       refine one_ (i := 13) (N := some 70) (fl 14 15) rfl rfl (one_of HT_.out (by kernel_rfl)) (by decide) (fun K hK => ?_)
       refine goes_ Try.func42 (by kernel_rfl) rfl #[.slice Ao14 t282.length co14, .int .i64 (wrap64 (((rd_T70 l2 x11_2).f2) + 1))] (by rfl) rfl rfl ar_ ?_
       with_reducible refine (deaddropref7_mark.calls k2 (fun k_ => some k_ = (.slice Ao14 t282.length co14 : Value).ownBlock) (.slice Ao14 t282.length co14) t282 (wrap64 (((rd_T70 l2 x11_2).f2) + 1)) t286 w _ ?side1 ?side2 A10.out).mono ?_
       (case side1 => repeat (first | (with_reducible first | exact HB.out | apply below_alloc | apply pw_below_drewN | apply below_drew1) | exact HB.out))
       (case side2 => exact Kd.R_tight rfl HO284.out)
       rintro e w15 ⟨v287, rfl, ho0, hb, hkp⟩
       refine ⟨_, rfl, ?_⟩
       have HO288 := Aside0.mk (Kd.R_mono (ok' := fun k_ => True) ho0 (fun k_ hk_ => trivial))
       replace HB := Aside0.mk (hb)
       clear HO284
       (try clear hb)
       (try clear hkp)
       (try clear ho0)
       refine hK.out _ _ ⟨(bc HB.out hw281_0), (bc HB.out hw281_1), (bc HB.out hw281_2), (bc HB.out hw285_0), (bc HB.out hw285_1), (bc HB.out hw285_2)⟩ (fun hHeld => ?_)
       clear hK K
       refine norm_ (a' := ?_) ?_ ?_
       rotate_left
       ·
        show Act.put _ (some 70) _ = _
        simp only [Act.put, List.setIfInBounds_toArray, List.set_cons_zero, List.set_cons_succ, i64_w, i32_w]
        rfl
       refine pure_ (i := 14) (N := some 9) (fl 15 15) rfl rfl (any_of HT_.out (by kernel_rfl)) (fun _ _ _ h => h) (Or.inl ⟨by rfl, py⟩) pa ?_
       refine done_ (done_of HT_.out (by kernel_rfl)) ?_
       try go_wp2
       go_roundg k2
       case measure => have := HK1.out; have := HK2.out; omega
       case rel => exact ⟨(t286), (wrap64 (x11_2 + 1)), ok_, H', ⟨by have := HK1.out; have := HK2.out; omega⟩, ⟨by (with_reducible repeat (first | apply Kd.R_alloc | apply Kd.R_drewN | apply Kd.R_drew)); exact HO288.out⟩, ⟨by repeat (first | (with_reducible first | exact HB.out | apply below_alloc | apply pw_below_drewN | apply below_drew1) | exact HB.out)⟩⟩
      ·
       rw [if_neg c8] at H
       have c8b0 : (((rd_T70 l2 x11_2).f0) == a0) = false := beq_eq_false_iff_ne.mpr c8
       have c8b1 : (((rd_T70 l2 x11_2).f0) != a0) = true := bne_iff_ne.mpr c8
       have H' := Aside0.mk H
       clear H
       have p280 : 0 ≤ (x11_2 : Int) := of_decide_eq_true as_
       have q280 : x11_2 < (l2.length : Int) := of_decide_eq_true as_
       obtain ⟨ad280, e280, hx280_0, hx280_1, hx280_2⟩ := at_T70 HR2.out x11_2 p280 q280
       cases e280
       replace hx280_0 := (HB.out.cell (World.block_lt_of_cell? w _ hx280_0)).trans hx280_0
       replace hx280_1 := (HB.out.cell (World.block_lt_of_cell? w _ hx280_1)).trans hx280_1
       replace hx280_2 := (HB.out.cell (World.block_lt_of_cell? w _ hx280_2)).trans hx280_2
       replace p280 := eq_true p280
       replace q280 := eq_true q280
       go_wp2
       go_roundg k2
       case measure => have := HK1.out; have := HK2.out; omega
       case rel => exact ⟨(x9_2), (wrap64 (x11_2 + 1)), ok_, H', ⟨by have := HK1.out; have := HK2.out; omega⟩, ⟨by (with_reducible repeat (first | apply Kd.R_alloc | apply Kd.R_drewN | apply Kd.R_drew)); exact HO_9.out⟩, ⟨by repeat (first | (with_reducible first | exact HB.out | apply below_alloc | apply pw_below_drewN | apply below_drew1) | exact HB.out)⟩⟩
     ·
      rw [if_neg c6] at H
      have c6b0 : decide (x11_2 < (l2.length : Int)) = false := decide_eq_false c6
      clear c6
      have H' := Aside0.mk H
      clear H
      go_wp2
      go_loopg [12, 13] k2 (fun kq v12 v13 w' => ∃ (x12_3 : List (S70)) (x13_3 : Int), v13 = .int .i64 x13_3 ∧ Aside0 (deaddropref7_mix.l2 kq a0 l1 l2 a3 x9_2 x12_3 x13_3 = some r) ∧ Aside0 (kq ≤ k2) ∧ Aside0 (Kd.R (Kd.int .i64) 3 w' w.heap.size (fun _ => True) u9 x9_2) ∧ Aside0 (Kd.R k70 70 w' w.heap.size (fun _ => True) v12 x12_3) ∧ Aside0 (Below w.heap.size w w'))
      case atStart => exact ⟨(([] : List (S70))), (0), ok_, H', ⟨Nat.le_refl _⟩, ⟨by (with_reducible repeat (first | apply Kd.R_alloc | apply Kd.R_drewN | apply Kd.R_drew)); exact HO_9.out⟩, ⟨by first | exact Kd.R_nil _ _ _ _ _ | exact Kd.N_nil _ _ _ _ _ | exact Kd.V_nil _ _ _ _ _ | exact Kd.Q_nil _ _ _ _ _ | exact Kd.S_nil _ _ _ _ _⟩, ⟨by repeat (first | (with_reducible first | exact HB.out | apply below_alloc | apply pw_below_drewN | apply below_drew1) | exact HB.out)⟩⟩
      case round =>
       clear H'
       try clear c1
       try clear c2
       try clear p2
       try clear q2
       try clear hx2
       try clear c3
       try clear c4
       try clear c5
       try clear c5b0
       try clear c6
       try clear c6b0
       try clear p6
       try clear c7
       try clear c7b0
       try clear c8
       try clear c8b0
       try clear c8b1
       try clear hx280_0
       try clear hx280_1
       try clear hx280_2
       try clear hx281_0
       try clear hx281_1
       try clear hx281_2
       try clear hx285_0
       try clear hx285_1
       try clear hx285_2
       try clear p2
       try clear p280
       try clear p281
       try clear p285
       try clear q280
       try clear q281
       try clear q285
       obtain ⟨x12_3, x13_3, rfl, HA, HK3, HO_9, HO_12, HB⟩ := hrel
       cases gk with
       | zero => exact absurd HA.out (by simp [deaddropref7_mix.l2])
       | succ k3 =>
        have H := HA.out
        clear HA
        simp only [deaddropref7_mix.l2] at H
        by_cases c16 : (wrap64 (x13_3 + 1)) < (x9_2.length : Int)
        ·
         rw [if_pos c16] at H
         have c16b0 : decide ((wrap64 (x13_3 + 1)) < (x9_2.length : Int)) = true := decide_eq_true c16
         clear c16
         by_cases c17 : 0 ≤ x13_3
         rotate_left
         ·
          rw [if_neg c17] at H
          exact absurd H (by simp)
         rw [if_pos c17] at H
         have c17b0 : decide (0 ≤ x13_3) = true := decide_eq_true c17
         clear c17
         by_cases c18 : x13_3 < (x9_2.length : Int)
         rotate_left
         ·
          rw [if_neg c18] at H
          exact absurd H (by simp)
         rw [if_pos c18] at H
         have c18b0 : decide (x13_3 < (x9_2.length : Int)) = true := decide_eq_true c18
         clear c18
         replace H := Option.bind_eq_some_iff.mp H
         obtain ⟨t291, A190, H⟩ := H
         replace H : ((deaddropref7_Has.f k3 l2 a0 (rd x9_2 x13_3)).bind fun t292 => (if a3 = true then (none) else (if t291 = true then (deaddropref7_mix.j3 k3 a0 l1 l2 a3 x9_2 x12_3 x13_3 false) else (deaddropref7_mix.j3 k3 a0 l1 l2 a3 x9_2 x12_3 x13_3 (!t292))))) = some r := H
         have A19 := Aside0.mk A190
         clear A190
         replace H := Option.bind_eq_some_iff.mp H
         obtain ⟨t292, A200, H⟩ := H
         replace H : (if a3 = true then (none) else (if t291 = true then (deaddropref7_mix.j3 k3 a0 l1 l2 a3 x9_2 x12_3 x13_3 false) else (deaddropref7_mix.j3 k3 a0 l1 l2 a3 x9_2 x12_3 x13_3 (!t292)))) = some r := H
         have A20 := Aside0.mk A200
         clear A200
         have HC21 := Aside0.mk H
         clear H
         obtain ⟨Ao22, co22, eo22⟩ := Kd.R_slice HO_9.out
         subst eo22
         have p289 : 0 ≤ (x13_3 : Int) := of_decide_eq_true as_
         have q289 : x13_3 < (x9_2.length : Int) := of_decide_eq_true as_
         obtain ⟨ad289, e289, hx289_0⟩ := Kd.at_int (Kd.R_reads' HO_9.out).2.2 x13_3 p289 q289
         cases e289
         replace p289 := eq_true p289
         replace q289 := eq_true q289
         try go_wp2_with (first | ((with_reducible refine gate_dst (N := 14) rfl ?_); (try (refine gate_guard (by rfl) ?_; dsimp only)); refine box_event ?hg (N := 14) ?hd (cs := #[.int .i64 0, .int .i64 0]) (t := 32) ?hr ?_; (case hd => rfl); (case hg => rfl); (case hr => first | (go_simp; done) | (go_simp; rfl)); intro gb290 hg w23 hbox hb; replace HO_9 := Aside0.mk (Kd.R_below (rk HO_9.out) hb); replace HO_12 := Aside0.mk (Kd.R_below (rk HO_12.out) hb); have BK290 := Aside0.mk (hbox); have GW290 := Aside0.mk ((by rw [hg]; exact (below_size (bw HB.out)) : w.heap.size ≤ gb290)); have GE290 := Aside0.mk ((by rw [hg]; exact (below_size (bw HB.out)) : w.heap.size ≤ gb290)); replace HB := Aside0.mk (below_step (bw HB.out) hb); clear hb hbox hg; have hcz24_0 : w23.cell? ⟨gb290, 0, none⟩ = some (.int .i64 0) := (blk_cell BK290.out 0).trans rfl; have hcz24_1 : w23.cell? ⟨gb290, 1, none⟩ = some (.int .i64 0) := (blk_cell BK290.out 1).trans rfl; have hfz24_0 := blk_frozen BK290.out 0; have hfz24_1 := blk_frozen BK290.out 1))
         have n0_ : Aside0 (Kd.R (Kd.int .i64) 3 ((w23.setCell ⟨gb290, 0, none⟩ (.int .i64 a0)).setCell ⟨gb290, 1, none⟩ (.int .i64 (rd x9_2 x13_3))) w.heap.size (fun _ => True) (.slice (some ad289) x9_2.length co22) x9_2) := ⟨by (with_reducible repeat (first | apply Kd.R_alloc | apply Kd.R_drewN | apply Kd.R_drew)); exact Kd.R_mono (Kd.R_far (p := ⟨gb290, 1, none⟩) (Kd.R_far (p := ⟨gb290, 0, none⟩) (Kd.R_types HO_9.out BK290.out (by decide)) (fun _ hk => hk.2) (.int .i64 a0)) (fun _ hk => hk.2) (.int .i64 (rd x9_2 x13_3))) (fun _ hk => trivial)⟩
         have n1_ : Aside0 (Kd.R k70 70 ((w23.setCell ⟨gb290, 0, none⟩ (.int .i64 a0)).setCell ⟨gb290, 1, none⟩ (.int .i64 (rd x9_2 x13_3))) w.heap.size (fun _ => True) u12 x12_3) := ⟨by (with_reducible repeat (first | apply Kd.R_alloc | apply Kd.R_drewN | apply Kd.R_drew)); exact Kd.R_mono (Kd.R_far (p := ⟨gb290, 1, none⟩) (Kd.R_far (p := ⟨gb290, 0, none⟩) (Kd.R_types HO_12.out BK290.out (by decide)) (fun _ hk => hk.2) (.int .i64 a0)) (fun _ hk => hk.2) (.int .i64 (rd x9_2 x13_3))) (fun _ hk => trivial)⟩
         have n2_ : Aside0 (((w23.setCell ⟨gb290, 0, none⟩ (.int .i64 a0)).setCell ⟨gb290, 1, none⟩ (.int .i64 (rd x9_2 x13_3))).heap[gb290]? = some (.cells #[.int .i64 a0, .int .i64 (rd x9_2 x13_3)] 32 (0, 0))) := ⟨by (with_reducible repeat (first | refine blk_drewN ?_ _ | refine blk_drew ?_ | refine blk_alloc ?_ _)); refine blk_put (cs := #[.int .i64 a0, .int .i64 0]) ?_ 1 _ rfl; (with_reducible repeat (first | refine blk_drewN ?_ _ | refine blk_drew ?_ | refine blk_alloc ?_ _)); refine blk_put (cs := #[.int .i64 0, .int .i64 0]) ?_ 0 _ rfl; (with_reducible repeat (first | refine blk_drewN ?_ _ | refine blk_drew ?_ | refine blk_alloc ?_ _)); exact BK290.out⟩
         have n3_ : Aside0 (Below w.heap.size w ((w23.setCell ⟨gb290, 0, none⟩ (.int .i64 a0)).setCell ⟨gb290, 1, none⟩ (.int .i64 (rd x9_2 x13_3)))) := ⟨by repeat (first | (with_reducible first | exact HB.out | apply below_alloc | apply pw_below_drewN | apply below_drew1 | refine below_set ?_ GE290.out) | exact HB.out)⟩
         (try clear HO_9)
         (try clear HO_12)
         (try clear BK290)
         (try clear HB)
         generalize ((w23.setCell ⟨gb290, 0, none⟩ (.int .i64 a0)).setCell ⟨gb290, 1, none⟩ (.int .i64 (rd x9_2 x13_3))) = w25 at n0_ n1_ n2_ n3_ ⊢
         have HO_9 := n0_
         have HO_12 := n1_
         have BK290 := n2_
         have HB := n3_
         clear n0_ n1_ n2_ n3_
         replace HO_9 := Aside0.mk (Kd.R_drew HO_9.out)
         replace HO_12 := Aside0.mk (Kd.R_drew HO_12.out)
         replace BK290 := Aside0.mk (blk_drew BK290.out)
         replace HB := Aside0.mk (below_drew1 HB.out)
         refine start_ (n := 8) (S := fun w' => w'.cell? ⟨gb290, 0, none⟩ = some (.int .i64 a0) ∧ w'.cell? ⟨gb290, 1, none⟩ = some (.int .i64 (rd x9_2 x13_3))) (ds := []) (fl 0 8) (by kernel_rfl) rfl rfl ⟨(blk_cell BK290.out 0).trans rfl, (blk_cell BK290.out 1).trans rfl⟩ (fun hHeld => ?_); refine with_tabW deaddropref7_mix.tab17 deaddropref7_mix.bits17 (fun HT_ HW_ => ?_)
         generalize w25.drew = w26 at HO_9 HO_12 BK290 HB hHeld ⊢
         refine pure_ (i := 0) (N := some 84) (fl 1 8) rfl rfl (any_of HT_.out (by kernel_rfl)) (fun _ _ _ h => h) (Or.inl ⟨by rfl, py⟩) pa ?_
         refine pure_ (i := 3) (N := some 87) #[true, false, false, true, false, false, false, false] rfl rfl (any_of HT_.out (by kernel_rfl)) (fun _ _ _ h => h) (Or.inl ⟨by rfl, py⟩) pa ?_
         refine take_ (i := 1) (N := some 85) (v := ?_) (a' := ?_) #[true, true, false, true, false, false, false, false] rfl rfl (take_ofW HT_.out HW_.out (by kernel_rfl)) (fun _ _ _ h => h) (Or.inl ⟨by rfl, ?_⟩) hHeld ?_ ?_
         rotate_left
         ·
          rintro w' ⟨s0, s1⟩
          go_simp
          with_reducible rfl
         rotate_left
         ·
          simp only [Act.put, List.setIfInBounds_toArray, List.set_cons_zero, List.set_cons_succ, i64_w, i32_w]
          rfl
         refine take_ (i := 4) (N := some 88) (v := ?_) (a' := ?_) #[true, true, false, true, true, false, false, false] rfl rfl (take_ofW HT_.out HW_.out (by kernel_rfl)) (fun _ _ _ h => h) (Or.inl ⟨by rfl, ?_⟩) hHeld ?_ ?_
         rotate_left
         ·
          rintro w' ⟨s0, s1⟩
          go_simp
          with_reducible rfl
         rotate_left
         ·
          simp only [Act.put, List.setIfInBounds_toArray, List.set_cons_zero, List.set_cons_succ, i64_w, i32_w]
          rfl
         refine one_ (i := 2) (N := some 86) (fl 5 8) rfl rfl (one_of HT_.out (by kernel_rfl)) (by decide) (fun K hK => ?_)
         refine goes_ Try.func25 (by kernel_rfl) rfl #[.slice A1 l1.length c1, .agg #[.int .i64 a0, .int .i64 (rd x9_2 x13_3)]] (by rfl) rfl rfl ar_ ?_
         with_reducible refine (deaddropref7_Has.calls k3 _ _ l1 a0 (rd x9_2 x13_3) t291 _ ?side1 ?side2 A19.out).mono ?_
         (case side1 => exact cr (Kd.C_below HR1.out HB.out))
         (case side2 => exact HC1.out)
         rintro e w27 ⟨rfl, hb⟩
         refine ⟨_, rfl, ?_⟩
         replace HO_9 := Aside0.mk (Kd.R_below (rk HO_9.out) hb)
         replace HO_12 := Aside0.mk (Kd.R_below (rk HO_12.out) hb)
         replace BK290 := Aside0.mk (blk_below (g := gb290) (o := .cells #[.int .i64 a0, .int .i64 (rd x9_2 x13_3)] 32 (0, 0)) (bk BK290.out) hb)
         replace HB := Aside0.mk (below_step (bw1 HB.out GE290.out) hb)
         (try clear hb)
         (try clear hb2)
         (try clear hk)
         (try clear hi)
         refine hK.out _ _ ⟨(blk_cell BK290.out 0).trans rfl, (blk_cell BK290.out 1).trans rfl⟩ (fun hHeld => ?_)
         clear hK K
         refine norm_ (a' := ?_) ?_ ?_
         rotate_left
         ·
          show Act.put _ (some 86) _ = _
          simp only [Act.put, List.setIfInBounds_toArray, List.set_cons_zero, List.set_cons_succ, i64_w, i32_w]
          rfl
         refine one_ (i := 5) (N := some 89) (fl 6 8) rfl rfl (one_of HT_.out (by kernel_rfl)) (by decide) (fun K hK => ?_)
         refine goes_ Try.func25 (by kernel_rfl) rfl #[.slice A2 l2.length c2, .agg #[.int .i64 a0, .int .i64 (rd x9_2 x13_3)]] (by rfl) rfl rfl ar_ ?_
         with_reducible refine (deaddropref7_Has.calls k3 _ _ l2 a0 (rd x9_2 x13_3) t292 _ ?side1 ?side2 A20.out).mono ?_
         (case side1 => exact cr (Kd.C_below HR2.out HB.out))
         (case side2 => exact HC2.out)
         rintro e w28 ⟨rfl, hb⟩
         refine ⟨_, rfl, ?_⟩
         replace HO_9 := Aside0.mk (Kd.R_below (rk HO_9.out) hb)
         replace HO_12 := Aside0.mk (Kd.R_below (rk HO_12.out) hb)
         replace BK290 := Aside0.mk (blk_below (g := gb290) (o := .cells #[.int .i64 a0, .int .i64 (rd x9_2 x13_3)] 32 (0, 0)) (bk BK290.out) hb)
         replace HB := Aside0.mk (below_step (bw1 HB.out GE290.out) hb)
         (try clear hb)
         (try clear hb2)
         (try clear hk)
         (try clear hi)
         refine hK.out _ _ ⟨(blk_cell BK290.out 0).trans rfl, (blk_cell BK290.out 1).trans rfl⟩ (fun hHeld => ?_)
         clear hK K
         refine norm_ (a' := ?_) ?_ ?_
         rotate_left
         ·
          show Act.put _ (some 89) _ = _
          simp only [Act.put, List.setIfInBounds_toArray, List.set_cons_zero, List.set_cons_succ, i64_w, i32_w]
          rfl
         refine pure_ (i := 6) (N := some 15) (fl 7 8) rfl rfl (any_of HT_.out (by kernel_rfl)) (fun _ _ _ h => h) (Or.inl ⟨by rfl, py⟩) pa ?_
         refine pure_ (i := 7) (N := some 16) (fl 8 8) rfl rfl (any_of HT_.out (by kernel_rfl)) (fun _ _ _ h => h) (Or.inl ⟨by rfl, py⟩) pa ?_
         refine done_ (done_of HT_.out (by kernel_rfl)) ?_
         go_upto_region 19 with (fail)
         go_cut [105] (fun v105 wc => ∃ (kq : Nat) (x105_20 : Bool), v105 = .bool x105_20 ∧ Aside0 (deaddropref7_mix.j3 kq a0 l1 l2 a3 x9_2 x12_3 x13_3 x105_20 = some r) ∧ Aside0 (kq ≤ k3) ∧ Aside0 (Kd.R (Kd.int .i64) 3 wc w.heap.size (fun _ => True) (.slice (some ad289) x9_2.length co22) x9_2) ∧ Aside0 (Kd.R k70 70 wc w.heap.size (fun _ => True) u12 x12_3) ∧ Aside0 (wc.heap[gb290]? = some (.cells #[.int .i64 a0, .int .i64 (rd x9_2 x13_3)] 32 (0, 0))) ∧ Aside0 (Below w.heap.size w wc))
         case first =>
          have H := HC21.out
          clear HC21
          by_cases c29 : a3 = true
          ·
           subst c29
           have H1 : (none) = some r := by rw [if_pos rfl] at H; exact H
           clear H
           have H := H1
           clear H1
           exact absurd H (by simp)
          replace c29 := Bool.eq_false_iff.mpr c29
          subst c29
          have H1 : (if t291 = true then (deaddropref7_mix.j3 k3 a0 l1 l2 false x9_2 x12_3 x13_3 false) else (deaddropref7_mix.j3 k3 a0 l1 l2 false x9_2 x12_3 x13_3 (!t292))) = some r := by rw [if_neg (show ¬ (false = true) by decide)] at H; exact H
          clear H
          have H := H1
          clear H1
          by_cases c30 : t291 = true
          ·
           subst c30
           have H1 : (deaddropref7_mix.j3 k3 a0 l1 l2 false x9_2 x12_3 x13_3 false) = some r := by rw [if_pos rfl] at H; exact H
           clear H
           have H := H1
           clear H1
           have H' := Aside0.mk H
           clear H
           go_wp2
           go_meet
           case rel => exact ⟨_, (false), ok_, H', ⟨by have := HK1.out; have := HK2.out; have := HK3.out; first | omega | exact Nat.le_refl _⟩, ⟨by (with_reducible repeat (first | apply Kd.R_alloc | apply Kd.R_drewN | apply Kd.R_drew)); exact HO_9.out⟩, ⟨by (with_reducible repeat (first | apply Kd.R_alloc | apply Kd.R_drewN | apply Kd.R_drew)); exact HO_12.out⟩, ⟨by (with_reducible repeat (first | refine blk_drewN ?_ _ | refine blk_drew ?_ | refine blk_alloc ?_ _)); exact BK290.out⟩, ⟨by repeat (first | (with_reducible first | exact HB.out | apply below_alloc | apply pw_below_drewN | apply below_drew1 | refine below_set ?_ GE290.out) | exact HB.out)⟩⟩
          ·
           replace c30 := Bool.eq_false_iff.mpr c30
           subst c30
           have H1 : (deaddropref7_mix.j3 k3 a0 l1 l2 false x9_2 x12_3 x13_3 (!t292)) = some r := by rw [if_neg (show ¬ (false = true) by decide)] at H; exact H
           clear H
           have H := H1
           clear H1
           have H' := Aside0.mk H
           clear H
           go_wp2
           go_meet
           case rel => exact ⟨_, (!t292), ok_, H', ⟨by have := HK1.out; have := HK2.out; have := HK3.out; first | omega | exact Nat.le_refl _⟩, ⟨by (with_reducible repeat (first | apply Kd.R_alloc | apply Kd.R_drewN | apply Kd.R_drew)); exact HO_9.out⟩, ⟨by (with_reducible repeat (first | apply Kd.R_alloc | apply Kd.R_drewN | apply Kd.R_drew)); exact HO_12.out⟩, ⟨by (with_reducible repeat (first | refine blk_drewN ?_ _ | refine blk_drew ?_ | refine blk_alloc ?_ _)); exact BK290.out⟩, ⟨by repeat (first | (with_reducible first | exact HB.out | apply below_alloc | apply pw_below_drewN | apply below_drew1 | refine below_set ?_ GE290.out) | exact HB.out)⟩⟩
         case rest =>
          clear HC21
          try clear c1
          try clear c2
          try clear p2
          try clear q2
          try clear hx2
          try clear c3
          try clear c4
          try clear c5
          try clear c5b0
          try clear c6
          try clear c6b0
          try clear p6
          try clear c7
          try clear c7b0
          try clear c8
          try clear c8b0
          try clear c8b1
          try clear c16
          try clear c16b0
          try clear c17
          try clear c17b0
          try clear c18
          try clear c18b0
          try clear c25
          try clear p28
          try clear q28
          try clear hx28
          try clear c29
          try clear c30
          try clear hcz24_0
          try clear hcz24_1
          try clear hfz24_0
          try clear hfz24_1
          try clear hx280_0
          try clear hx280_1
          try clear hx280_2
          try clear hx281_0
          try clear hx281_1
          try clear hx281_2
          try clear hx285_0
          try clear hx285_1
          try clear hx285_2
          try clear hx289_0
          try clear p2
          try clear p280
          try clear p281
          try clear p285
          try clear p289
          try clear p6
          try clear q2
          try clear q280
          try clear q281
          try clear q285
          try clear q289
          obtain ⟨kq, x105_20, rfl, HA, HJ20, HO_9, HO_12, BK290, HB⟩ := hcut
          cases kq with
          | zero => exact absurd HA.out (by simp [deaddropref7_mix.j3])
          | succ kj20 =>
           have H := HA.out
           clear HA
           simp only [deaddropref7_mix.j3] at H
           by_cases c31 : x105_20 = true
           ·
            subst c31
            have H1 : (deaddropref7_mix.l2 kj20 a0 l1 l2 a3 x9_2 x12_3 (wrap64 (x13_3 + 1))) = some r := by rw [if_pos rfl] at H; exact H
            clear H
            have H := H1
            clear H1
            have H' := Aside0.mk H
            clear H
            go_wp2
            go_roundg kj20
            case measure => have := HK1.out; have := HK2.out; have := HK3.out; have := HJ20.out; omega
            case rel => exact ⟨(x12_3), (wrap64 (x13_3 + 1)), ok_, H', ⟨by have := HK1.out; have := HK2.out; have := HK3.out; have := HJ20.out; omega⟩, ⟨by (with_reducible repeat (first | apply Kd.R_alloc | apply Kd.R_drewN | apply Kd.R_drew)); exact HO_9.out⟩, ⟨by (with_reducible repeat (first | apply Kd.R_alloc | apply Kd.R_drewN | apply Kd.R_drew)); exact HO_12.out⟩, ⟨by repeat (first | (with_reducible first | exact HB.out | apply below_alloc | apply pw_below_drewN | apply below_drew1 | refine below_set ?_ GE290.out) | exact HB.out)⟩⟩
           ·
            replace c31 := Bool.eq_false_iff.mpr c31
            subst c31
            have H1 : (if (x12_3.length : Int) > 0 then (none) else (if 0 ≤ x13_3 then (if x13_3 < (x9_2.length : Int) then (if 0 ≤ (wrap64 (x13_3 + 1)) then (if (wrap64 (x13_3 + 1)) < (x9_2.length : Int) then (if x12_3.length < 5864062014805 then (deaddropref7_mix.l2 kj20 a0 l1 l2 a3 x9_2 (x12_3 ++ [(⟨a0, rd x9_2 x13_3, wrap64 ((rd x9_2 (wrap64 (x13_3 + 1))) - 1)⟩ : S70)]) (wrap64 (x13_3 + 1))) else (none)) else (none)) else (none)) else (none)) else (none))) = some r := by rw [if_neg (show ¬ (false = true) by decide)] at H; exact H
            clear H
            have H := H1
            clear H1
            by_cases c32 : (x12_3.length : Int) > 0
            ·
             rw [if_pos c32] at H
             exact absurd H (by simp)
            rw [if_neg c32] at H
            have c32b0 : decide (0 < (x12_3.length : Int)) = false := decide_eq_false c32
            have c32b1 : decide (0 < x12_3.length) = false := decide_eq_false (by omega)
            clear c32
            by_cases c33 : 0 ≤ x13_3
            rotate_left
            ·
             rw [if_neg c33] at H
             exact absurd H (by simp)
            rw [if_pos c33] at H
            have c33b0 : decide (0 ≤ x13_3) = true := decide_eq_true c33
            clear c33
            by_cases c34 : x13_3 < (x9_2.length : Int)
            rotate_left
            ·
             rw [if_neg c34] at H
             exact absurd H (by simp)
            rw [if_pos c34] at H
            have c34b0 : decide (x13_3 < (x9_2.length : Int)) = true := decide_eq_true c34
            clear c34
            obtain ⟨ji35, hji35⟩ : ∃ j_ : Int, (wrap64 (x13_3 + 1)) = j_ := ⟨_, rfl⟩
            replace H : (if 0 ≤ (ji35) then (if (ji35) < (x9_2.length : Int) then (if x12_3.length < 5864062014805 then (deaddropref7_mix.l2 kj20 a0 l1 l2 a3 x9_2 (x12_3 ++ [(⟨a0, rd x9_2 x13_3, wrap64 ((rd x9_2 (ji35)) - 1)⟩ : S70)]) ji35) else (none)) else (none)) else (none)) = some r := by first | (rw [hji35] at H; exact H) | (simp only [hji35] at H ⊢; exact H)
            (try rw [hji35] at c16b0)
            have hji35w : (IntKind.i64.wrap (x13_3 + 1)) = ji35 := (i64_w _).trans hji35
            by_cases c36 : 0 ≤ (ji35)
            rotate_left
            ·
             rw [if_neg c36] at H
             exact absurd H (by simp)
            rw [if_pos c36] at H
            have c36b0 : decide (0 ≤ (ji35)) = true := decide_eq_true c36
            clear c36
            by_cases c37 : (ji35) < (x9_2.length : Int)
            rotate_left
            ·
             rw [if_neg c37] at H
             exact absurd H (by simp)
            rw [if_pos c37] at H
            have c37b0 : decide ((ji35) < (x9_2.length : Int)) = true := decide_eq_true c37
            clear c37
            by_cases c38 : x12_3.length < 5864062014805
            rotate_left
            ·
             rw [if_neg c38] at H
             exact absurd H (by simp)
            rw [if_pos c38] at H
            have LMc38 := Aside0.mk c38
            clear c38
            obtain ⟨y295, hy295⟩ : ∃ y_ : List (S70), y_ = (x12_3 ++ [(⟨a0, rd x9_2 x13_3, wrap64 ((rd x9_2 (ji35)) - 1)⟩ : S70)]) := ⟨_, rfl⟩
            replace H : (deaddropref7_mix.l2 kj20 a0 l1 l2 a3 x9_2 y295 ji35) = some r := by first | (rw [hy295]; with_reducible exact H) | (have H2_ := (Option.bind_some _ _).symm.trans H; rw [hy295]; with_reducible exact H2_) | (have H2_ := (Option.bind_some _ _).symm.trans H; with_reducible exact H2_) | with_reducible exact H | (rw [hy295]; exact H) | exact H
            have Ny295 := Aside0.mk hy295
            clear hy295
            have H' := Aside0.mk H
            clear H
            try go_wp2
            replace HO_9 := Aside0.mk (Kd.R_drew HO_9.out)
            replace HO_12 := Aside0.mk (Kd.R_drew HO_12.out)
            replace BK290 := Aside0.mk (blk_drew BK290.out)
            replace HB := Aside0.mk (below_drew1 HB.out)
            obtain ⟨Ao40, co40, eo40⟩ := Kd.R_slice HO_12.out
            (first | subst eo40 | (injection eo40 with f1_ f2_ f3_; have f4_ := f1_.symm; have f5_ := f3_.symm; clear f1_ f2_ f3_; subst f4_; subst f5_))
            refine start_ (n := 19) (S := fun w' => True) (ds := []) (fl 0 19) (by kernel_rfl) rfl rfl trivial (fun hHeld => ?_); refine with_tabW deaddropref7_mix.tab20 deaddropref7_mix.bits20 (fun HT_ HW_ => ?_)
            generalize wc.drew = w39 at HO_9 HO_12 BK290 HB hHeld ⊢
            refine pure_ (i := 0) (N := some 123) (fl 1 19) rfl rfl (any_of HT_.out (by kernel_rfl)) (fun _ _ _ h => h) (Or.inl ⟨by rfl, py⟩) pa ?_
            refine pure_ (i := 1) (N := some 124) (fl 2 19) rfl rfl (any_of HT_.out (by kernel_rfl)) (fun _ _ _ h => h) (Or.inl ⟨by rfl, py⟩) pa ?_
            refine pure_ (i := 2) (N := some 125) (fl 3 19) rfl rfl (any_of HT_.out (by kernel_rfl)) (fun _ _ _ h => h) (Or.inl ⟨by rfl, py⟩) pa ?_
            refine pure_ (i := 3) (N := some 126) (fl 4 19) rfl rfl (any_of HT_.out (by kernel_rfl)) (fun _ _ _ h => h) (Or.inl ⟨by rfl, py⟩) pa ?_
            refine pure_ (i := 4) (N := some 127) (v := undef) (a' := ?_) (fl 5 19) rfl rfl (any_of HT_.out (by kernel_rfl)) (fun _ _ _ h => h) (Or.inr ⟨by rfl, rfl⟩) ?_ ?_
            rotate_left
            ·
             simp only [Act.put, List.setIfInBounds_toArray, List.set_cons_zero, List.set_cons_succ, i64_w, i32_w]
             rfl
            refine pure_ (i := 5) (N := some 128) (v := undef) (a' := ?_) (fl 6 19) rfl rfl (any_of HT_.out (by kernel_rfl)) (fun _ _ _ h => h) (Or.inr ⟨by rfl, rfl⟩) ?_ ?_
            rotate_left
            ·
             simp only [Act.put, List.setIfInBounds_toArray, List.set_cons_zero, List.set_cons_succ, i64_w, i32_w]
             rfl
            refine pure_ (i := 6) (N := some 129) (v := undef) (a' := ?_) (fl 7 19) rfl rfl (any_of HT_.out (by kernel_rfl)) (fun _ _ _ h => h) (Or.inr ⟨by rfl, rfl⟩) ?_ ?_
            rotate_left
            ·
             simp only [Act.put, List.setIfInBounds_toArray, List.set_cons_zero, List.set_cons_succ, i64_w, i32_w]
             rfl
            refine pure_ (i := 7) (N := some 130) (v := undef) (a' := ?_) (fl 8 19) rfl rfl (any_of HT_.out (by kernel_rfl)) (fun _ _ _ h => h) (Or.inr ⟨by rfl, rfl⟩) ?_ ?_
            rotate_left
            ·
             simp only [Act.put, List.setIfInBounds_toArray, List.set_cons_zero, List.set_cons_succ, i64_w, i32_w]
             rfl
            refine pure_ (i := 8) (N := some 131) (v := undef) (a' := ?_) (fl 9 19) rfl rfl (any_of HT_.out (by kernel_rfl)) (fun _ _ _ h => h) (Or.inr ⟨by rfl, rfl⟩) ?_ ?_
            rotate_left
            ·
             simp only [Act.put, List.setIfInBounds_toArray, List.set_cons_zero, List.set_cons_succ, i64_w, i32_w]
             rfl
            refine pure_ (i := 9) (N := some 132) (v := undef) (a' := ?_) (fl 10 19) rfl rfl (any_of HT_.out (by kernel_rfl)) (fun _ _ _ h => h) (Or.inr ⟨by rfl, rfl⟩) ?_ ?_
            rotate_left
            ·
             simp only [Act.put, List.setIfInBounds_toArray, List.set_cons_zero, List.set_cons_succ, i64_w, i32_w]
             rfl
            refine pure_ (i := 10) (N := some 133) (v := undef) (a' := ?_) (fl 11 19) rfl rfl (any_of HT_.out (by kernel_rfl)) (fun _ _ _ h => h) (Or.inr ⟨by rfl, rfl⟩) ?_ ?_
            rotate_left
            ·
             simp only [Act.put, List.setIfInBounds_toArray, List.set_cons_zero, List.set_cons_succ, i64_w, i32_w]
             rfl
            refine pure_ (i := 11) (N := some 134) (v := undef) (a' := ?_) (fl 12 19) rfl rfl (any_of HT_.out (by kernel_rfl)) (fun _ _ _ h => h) (Or.inr ⟨by rfl, rfl⟩) ?_ ?_
            rotate_left
            ·
             simp only [Act.put, List.setIfInBounds_toArray, List.set_cons_zero, List.set_cons_succ, i64_w, i32_w]
             rfl
            refine pure_ (i := 12) (N := some 135) (v := undef) (a' := ?_) (fl 13 19) rfl rfl (any_of HT_.out (by kernel_rfl)) (fun _ _ _ h => h) (Or.inr ⟨by rfl, rfl⟩) ?_ ?_
            rotate_left
            ·
             simp only [Act.put, List.setIfInBounds_toArray, List.set_cons_zero, List.set_cons_succ, i64_w, i32_w]
             rfl
            refine pure_ (i := 13) (N := some 136) (v := undef) (a' := ?_) (fl 14 19) rfl rfl (any_of HT_.out (by kernel_rfl)) (fun _ _ _ h => h) (Or.inr ⟨by rfl, rfl⟩) ?_ ?_
            rotate_left
            ·
             simp only [Act.put, List.setIfInBounds_toArray, List.set_cons_zero, List.set_cons_succ, i64_w, i32_w]
             rfl
            refine pure_ (i := 14) (N := some 137) (v := undef) (a' := ?_) (fl 15 19) rfl rfl (any_of HT_.out (by kernel_rfl)) (fun _ _ _ h => h) (Or.inr ⟨by rfl, rfl⟩) ?_ ?_
            rotate_left
            ·
             simp only [Act.put, List.setIfInBounds_toArray, List.set_cons_zero, List.set_cons_succ, i64_w, i32_w]
             rfl
            refine pure_ (i := 15) (N := some 138) (v := undef) (a' := ?_) (fl 16 19) rfl rfl (any_of HT_.out (by kernel_rfl)) (fun _ _ _ h => h) (Or.inr ⟨by rfl, rfl⟩) ?_ ?_
            rotate_left
            ·
             simp only [Act.put, List.setIfInBounds_toArray, List.set_cons_zero, List.set_cons_succ, i64_w, i32_w]
             rfl
            refine pure_ (i := 16) (N := some 139) (v := undef) (a' := ?_) (fl 17 19) rfl rfl (any_of HT_.out (by kernel_rfl)) (fun _ _ _ h => h) (Or.inr ⟨by rfl, rfl⟩) ?_ ?_
            rotate_left
            ·
             simp only [Act.put, List.setIfInBounds_toArray, List.set_cons_zero, List.set_cons_succ, i64_w, i32_w]
             rfl
            refine pure_ (i := 17) (N := some 140) (fl 18 19) rfl rfl (any_of HT_.out (by kernel_rfl)) (fun _ _ _ h => h) (Or.inl ⟨by rfl, py⟩) pa ?_
            refine pure_ (i := 18) (N := some 122) (fl 19 19) rfl rfl (any_of HT_.out (by kernel_rfl)) (fun _ _ _ h => h) (Or.inl ⟨by rfl, py⟩) pa ?_
            refine done_ (done_of HT_.out (by kernel_rfl)) ?_
            try go_wp2
            replace HO_9 := Aside0.mk (Kd.R_drew HO_9.out)
            replace HO_12 := Aside0.mk (Kd.R_drew HO_12.out)
            replace BK290 := Aside0.mk (blk_drew BK290.out)
            replace HB := Aside0.mk (below_drew1 HB.out)
            have p293 : 0 ≤ (x13_3 : Int) := of_decide_eq_true as_
            have q293 : x13_3 < (x9_2.length : Int) := of_decide_eq_true as_
            obtain ⟨ad293, e293, hx293_0⟩ := Kd.at_int (Kd.R_reads' HO_9.out).2.2 x13_3 p293 q293
            obtain rfl : ad289 = ad293 := (by injection e293)
            replace p293 := eq_true p293
            replace q293 := eq_true q293
            have p294 : 0 ≤ ((ji35) : Int) := of_decide_eq_true as_
            have q294 : (ji35) < (x9_2.length : Int) := of_decide_eq_true as_
            obtain ⟨ad294, e294, hx294_0⟩ := Kd.at_int (Kd.R_reads' HO_9.out).2.2 (ji35) p294 q294
            obtain rfl : ad289 = ad294 := (by injection e294)
            replace p294 := eq_true p294
            replace q294 := eq_true q294
            refine start_ (n := 16) (S := fun w' => w'.cell? (ad289.add (x13_3).toNat) = some (.int .i64 (rd x9_2 x13_3)) ∧ w'.cell? (ad289.add ((ji35)).toNat) = some (.int .i64 (rd x9_2 (ji35)))) (ds := [13, 14]) (fl 0 16) (by kernel_rfl) rfl rfl ⟨hx293_0, hx294_0⟩ (fun hHeld => ?_); refine with_tabW deaddropref7_mix.tab18 deaddropref7_mix.bits18 (fun HT_ HW_ => ?_)
            generalize w39.drew = w41 at HO_9 HO_12 BK290 HB hx293_0 hx294_0 hHeld ⊢
            refine pure_ (i := 0) (N := some 90) (fl 1 16) rfl rfl (any_of HT_.out (by kernel_rfl)) (fun _ _ _ h => h) (Or.inl ⟨by rfl, py⟩) pa ?_
            refine pure_ (i := 1) (N := some 91) (fl 2 16) rfl rfl (any_of HT_.out (by kernel_rfl)) (fun _ _ _ h => h) (Or.inl ⟨by rfl, py⟩) pa ?_
            refine pure_ (i := 2) (N := some 92) (fl 3 16) rfl rfl (any_of HT_.out (by kernel_rfl)) (fun _ _ _ h => h) (Or.inl ⟨by rfl, py⟩) pa ?_
            refine pure_ (i := 3) (N := some 93) (fl 4 16) rfl rfl (any_of HT_.out (by kernel_rfl)) (fun _ _ _ h => h) (Or.inl ⟨by rfl, py⟩) pa ?_
            refine pure_ (i := 4) (N := some 94) (fl 5 16) rfl rfl (any_of HT_.out (by kernel_rfl)) (fun _ _ _ h => h) (Or.inl ⟨by rfl, py⟩) pa ?_
            refine pure_ (i := 6) (N := some 96) #[true, true, true, true, true, false, true, false, false, false, false, false, false, false, false, false] rfl rfl (any_of HT_.out (by kernel_rfl)) (fun _ _ _ h => h) (Or.inl ⟨by rfl, py⟩) pa ?_
            refine pure_ (i := 7) (N := some 97) #[true, true, true, true, true, false, true, true, false, false, false, false, false, false, false, false] rfl rfl (any_of HT_.out (by kernel_rfl)) (fun _ _ _ h => h) (Or.inl ⟨by rfl, py⟩) pa ?_
            refine pure_ (i := 8) (N := some 98) #[true, true, true, true, true, false, true, true, true, false, false, false, false, false, false, false] rfl rfl (any_of HT_.out (by kernel_rfl)) (fun _ _ _ h => h) (Or.inl ⟨by rfl, py⟩) pa ?_
            refine pure_ (i := 9) (N := some 99) #[true, true, true, true, true, false, true, true, true, true, false, false, false, false, false, false] rfl rfl (any_of HT_.out (by kernel_rfl)) (fun _ _ _ h => h) (Or.inl ⟨by rfl, py⟩) pa ?_
            refine take_ (i := 5) (N := some 95) (v := ?_) (a' := ?_) (fl 10 16) rfl rfl (take_ofW HT_.out HW_.out (by kernel_rfl)) (fun _ _ _ h => h) (Or.inl ⟨by rfl, ?_⟩) hHeld ?_ ?_
            rotate_left
            ·
             rintro w' ⟨s0, s1⟩
             go_simp
             with_reducible rfl
            rotate_left
            ·
             simp only [Act.put, List.setIfInBounds_toArray, List.set_cons_zero, List.set_cons_succ, i64_w, i32_w]
             rfl
            refine take_ (i := 10) (N := some 100) (v := ?_) (a' := ?_) (fl 11 16) rfl rfl (take_ofW HT_.out HW_.out (by kernel_rfl)) (fun _ _ _ h => h) (Or.inl ⟨by rfl, ?_⟩) hHeld ?_ ?_
            rotate_left
            ·
             rintro w' ⟨s0, s1⟩
             go_simp
             with_reducible rfl
            rotate_left
            ·
             simp only [Act.put, List.setIfInBounds_toArray, List.set_cons_zero, List.set_cons_succ, i64_w, i32_w]
             rfl
            refine pure_ (i := 11) (N := some 101) (fl 12 16) rfl rfl (any_of HT_.out (by kernel_rfl)) (fun _ _ _ h => h) (Or.inl ⟨by rfl, py⟩) pa ?_
            refine pure_ (i := 12) (N := some 102) (fl 13 16) rfl rfl (any_of HT_.out (by kernel_rfl)) (fun _ _ _ h => h) (Or.inl ⟨by rfl, py⟩) pa ?_
            refine last_ (i := 13) (N := some 103) (fl 14 16) rfl rfl (one_of HT_.out (by kernel_rfl)) (by decide) (fun K hK => ?_)
            refine value_ (w1 := ?_) (v := ?_) (by rfl) rfl ?_ ?_
            rotate_left 2
            ·
             go_simp
             constructor
             ·
              rfl
             ·
              rfl
            refine hK.out _ _ ?_
            clear hK K
            refine norm_ (a' := ?_) ?_ ?_
            rotate_left
            ·
             show Act.put _ (some 103) _ = _
             simp only [Act.put, List.setIfInBounds_toArray, List.set_cons_zero, List.set_cons_succ, i64_w, i32_w]
             rfl
            refine last_ (i := 14) (N := some 104) (fl 15 16) rfl rfl (one_of HT_.out (by kernel_rfl)) (by decide) (fun K hK => ?_)
            refine Kd.R_append_step k70 (w0 := w) w.heap.size (by rfl) (.tmp 90) (.tmp 103) 25 70 (.agg #[(.int .i64 0), (.int .i64 0), (.int .i64 0)]) 24 rfl Try.underlying25 info70 rfl (by decide) (by omega) (.slice Ao40 x12_3.length co40) x12_3 (⟨a0, rd x9_2 x13_3, wrap64 ((rd x9_2 (ji35)) - 1)⟩ : S70) [.int .i64 a0, .int .i64 (rd x9_2 x13_3), .int .i64 (wrap64 ((rd x9_2 (ji35)) - 1))] (fun _ => True) (fun _ => False) rfl rfl ?aP (fun _ hk => hk.elim) ?aF ?aO ?aB ?aS ?aL ?_
            (case aP => exact k70_mkM _ _ _ (⟨a0, rd x9_2 x13_3, wrap64 ((rd x9_2 (ji35)) - 1)⟩ : S70))
            (case aB => exact (bw1 HB.out GE290.out))
            (case aF => exact (fun _ _ => trivial))
            (case aO => exact (rk HO_12.out))
            (case aS => exact (below_size (bw1 HB.out GE290.out)))
            (case aL => have := LMc38.out; omega)
            intro v296 w42 ho hb hg hat
            rw [← Ny295.out] at ho
            replace HO_9 := Aside0.mk (Kd.R_over' (rk HO_9.out) (Kd.R_typed (rk HO_12.out)) (by decide) hg)
            replace BK290 := Aside0.mk (blk_grown (g := gb290) (o := .cells #[.int .i64 a0, .int .i64 (rd x9_2 x13_3)] 32 (0, 0)) (bk BK290.out) hg (Kd.R_ne HO_12.out BK290.out (by decide)))
            replace HB := Aside0.mk (hb)
            have HO297 := Aside0.mk (ho)
            clear HO_12
            clear ho hb hg hat
            refine hK.out _ _ ?_
            clear hK K
            refine norm_ (a' := ?_) ?_ ?_
            rotate_left
            ·
             show Act.put _ (some 104) _ = _
             simp only [Act.put, List.setIfInBounds_toArray, List.set_cons_zero, List.set_cons_succ, i64_w, i32_w]
             rfl
            refine pure_ (i := 15) (N := some 12) (fl 16 16) rfl rfl (any_of HT_.out (by kernel_rfl)) (fun _ _ _ h => h) (Or.inl ⟨by rfl, py⟩) pa ?_
            refine done_ (done_of HT_.out (by kernel_rfl)) ?_
            try go_wp2
            go_roundg kj20
            case measure => have := HK1.out; have := HK2.out; have := HK3.out; have := HJ20.out; omega
            case rel => exact ⟨(y295), (ji35), (by first | rfl | (simp; done) | (simp only [← hji35] <;> (first | rfl | simp)) | (simp [*]; done)), H', ⟨by have := HK1.out; have := HK2.out; have := HK3.out; have := HJ20.out; omega⟩, ⟨by (with_reducible repeat (first | apply Kd.R_alloc | apply Kd.R_drewN | apply Kd.R_drew)); exact HO_9.out⟩, ⟨by (with_reducible repeat (first | apply Kd.R_alloc | apply Kd.R_drewN | apply Kd.R_drew)); exact HO297.out⟩, ⟨by repeat (first | (with_reducible first | exact HB.out | apply below_alloc | apply pw_below_drewN | apply below_drew1 | refine below_set ?_ GE290.out) | exact HB.out)⟩⟩
        ·
         rw [if_neg c16] at H
         have c16b0 : decide ((wrap64 (x13_3 + 1)) < (x9_2.length : Int)) = false := decide_eq_false c16
         clear c16
         obtain rfl := Option.some.inj H
         obtain ⟨Ao43, co43, eo43⟩ := Kd.R_slice HO_9.out
         subst eo43
         go_wp2
         go_ret
         exact ⟨_, by first | rfl | (simp [errW_none, errW_some] <;> rfl) | (simp [*, errW_none, errW_some] <;> rfl), by (with_reducible repeat (first | apply Kd.R_alloc | apply Kd.R_drewN | apply Kd.R_drew)); exact HO_12.out, by repeat (first | (with_reducible first | exact HB.out | apply below_alloc | apply pw_below_drewN | apply below_drew1) | exact HB.out)⟩

end Go.Proofs.Ytaonemedoikieaa.Q
