-- Written by a program of this work (wip/tools/mkprint.py) over the kit's print; Lean checks it.
import Derived.Test.YtaonemedoikieaaQx0
import Derived.Test.YtaonemedoikieaaQx15
import Derived.Test.YtaonemedoikieaaQx16
import Derived.Test.YtaonemedoikieaaQx18
import Derived.Test.YtaonemedoikieaaHAbb
namespace Go.Proofs.Ytaonemedoikieaa.Q
open Go.RowKit Go.Proofs.YtaonemedoikieaaW.PrintWords Go.Proofs.YtaonemedoikieaaW.PrintLast Go.Proofs.YtaonemedoikieaaW.PrintMore Go.Proofs.Ytaonemedoikieaa.AB
attribute [local go_sem] max2_int min2_int max_two min_two max_three min_three max_four min_four   -- for this text's walks alone
set_option linter.unusedVariables false
set_option linter.unusedSimpArgs false

/-! ### deaddropref7_Do: function 13 -/
def deaddropref7_Do.l0 : Nat → Int → List (S32) → Int → List (S70) → List (S34) → Int → ByteArray → ByteArray → Int → Option ((List (S70)) × (List (S34)) × Int)
 | 0, _, _, _, _, _, _, _, _, _ => none
 | k + 1, x1, x8, x10, x348000, x348001, x349000, x349001, x349002, x349003 => if x10 < (x348001.length : Int) then (none) else (if (x8.length : Int) = 0 then (if x349000 = 3 then (none) else (if x349000 = 5 then (none) else ((deaddropref7_Last.f k x348000 x1).bind fun t351 => (if x349000 = 4 then (none) else (if (wrap64 (t351 + 1)) > 4503599627370496 then (none) else (if 0 < (-1099511627776) then (none) else (if 0 > 1099511627776 then (none) else (if x8.length < 8796093022208 then ((some (([(⟨(⟨x1, wrap64 (t351 + 1)⟩ : S32), x349001, x349000, x349002, 0⟩ : S34)] : List (S34)) : List (S34))).bind fun y356 => ((deaddropref7_Of.f k (x8 ++ [(⟨x1, wrap64 (t351 + 1)⟩ : S32)])).bind fun t359 => ((deaddropref7_Join.f k x348000 x348001 t359 y356).bind fun bt362 => (if (bt362.2.length : Int) > 400 then (none) else (some (t359, y356, 0)))))) else (none))))))))) else (none))
def deaddropref7_Do.f (k : Nat) (l0_0 : List (S70)) (l0_1 : List (S34)) (a1 : Int) (a2_0 : Int) (a2_1 : ByteArray) (a2_2 : ByteArray) (a2_3 : Int) : Option ((List (S70)) × (List (S34)) × Int) := if a2_0 = 1 then (if a1 < 0 then (none) else (if a1 ≥ 8 then (none) else (if a2_0 < 1 then (none) else (if a2_0 > 5 then (none) else (if (a2_1.size : Int) > 40 then (none) else (if (a2_2.size : Int) > 200 then (none) else (if a2_0 = 4 then (none) else (deaddropref7_Do.l0 k a1 ([] : List (S32)) 0 l0_0 l0_1 a2_0 a2_1 a2_2 a2_3)))))))) else (none)
theorem deaddropref7_Do.mono_l : ∀ k, (∀ y0 y1 y2 y3 y4 y5 y6 y7 y8, LeO (deaddropref7_Do.l0 k y0 y1 y2 y3 y4 y5 y6 y7 y8) (deaddropref7_Do.l0 (k + 1) y0 y1 y2 y3 y4 y5 y6 y7 y8))
 | 0 => fun _ _ _ _ _ _ _ _ _ r h => by simp [deaddropref7_Do.l0] at h
 | k + 1 => by
  have ih0 := deaddropref7_Do.mono_l k
  ·
   intro y0 y1 y2 y3 y4 y5 y6 y7 y8
   unfold deaddropref7_Do.l0
   repeat' first
   | (with_reducible exact ih0 _ _ _ _ _ _ _ _ _)
   | (with_reducible exact deaddropref7_Join.mono _ _ _ _ _)
   | (with_reducible exact deaddropref7_Last.mono _ _ _)
   | (with_reducible exact deaddropref7_Of.mono _ _)
   | (with_reducible exact LeO.refl _)
   | (with_reducible exact LeO.none _)
   | (with_reducible refine LeO.ite ?_ ?_)
   | (with_reducible refine LeO.bind ?_ (fun _ => ?_))
   | exact ih0 _ _ _ _ _ _ _ _ _
   | exact deaddropref7_Join.mono _ _ _ _ _
   | exact deaddropref7_Last.mono _ _ _
   | exact deaddropref7_Of.mono _ _
   | exact LeO.none _
   | refine LeO.ite ?_ ?_
   | refine LeO.bind ?_ (fun _ => ?_)
theorem deaddropref7_Do.mono : ∀ a0 a1 a2 a3 a4 a5 a6 k, LeO (deaddropref7_Do.f k a0 a1 a2 a3 a4 a5 a6) (deaddropref7_Do.f (k + 1) a0 a1 a2 a3 a4 a5 a6) := by
 intro a0 a1 a2 a3 a4 a5 a6 k
 have ih0 := deaddropref7_Do.mono_l k
 unfold deaddropref7_Do.f
 repeat' first
  | (with_reducible exact ih0 _ _ _ _ _ _ _ _ _)
  | (with_reducible exact deaddropref7_Join.mono _ _ _ _ _)
  | (with_reducible exact deaddropref7_Last.mono _ _ _)
  | (with_reducible exact deaddropref7_Of.mono _ _)
  | (with_reducible exact LeO.refl _)
  | (with_reducible exact LeO.none _)
  | (with_reducible refine LeO.ite ?_ ?_)
  | (with_reducible refine LeO.bind ?_ (fun _ => ?_))
  | exact ih0 _ _ _ _ _ _ _ _ _
  | exact deaddropref7_Join.mono _ _ _ _ _
  | exact deaddropref7_Last.mono _ _ _
  | exact deaddropref7_Of.mono _ _
  | exact LeO.none _
  | refine LeO.ite ?_ ?_
  | refine LeO.bind ?_ (fun _ => ?_)
def deaddropref7_Do.T16 : Bool × List (List Nat × List Nat) := (true, [([], []), ([], []), ([1], [1]), ([], []), ([2, 3], [2, 3]), ([4], [4]), ([0, 5], [0, 5]), ([], []), ([7], [7]), ([], []), ([9], [9]), ([], []), ([11], [11]), ([6, 8, 10, 12], [6, 8, 10, 12]), ([], []), ([14, 13, 4, 0, 1, 2, 3, 4, 5, 6, 7, 8, 9, 10, 11, 12, 13, 14], [13, 14])])
def deaddropref7_Do.B16 : List Nat := [0, 0, 2, 0, 14, 30, 63, 0, 128, 0, 512, 0, 2048, 8191, 0, 32767]
theorem deaddropref7_Do.tab16 : rtab .any (opsOf Try.f13 16) = deaddropref7_Do.T16 := by kernel_rfl
theorem deaddropref7_Do.bits16 : waitsOk deaddropref7_Do.T16.2 deaddropref7_Do.B16 = true := by kernel_rfl
theorem field28 (a b : Value) (W : World) : (Instr.field 28 (.agg #[a, b]) 1).run Try.prog W = .ok b W := by
  have hu26 := Try.underlying26
  have hu28 := Try.underlying28
  simp [Instr.field, asAgg, part, isAgg, run_underlying hu28, run_underlying hu26]
attribute [local go_sem] field28
set_option maxHeartbeats 8000000 in
set_option maxRecDepth 100000 in
theorem deaddropref7_Do.calls (k : Nat) (A0_0 : Option Addr) (c0_0 : Nat) (l0_0 : List (S70)) (A0_1 : Option Addr) (c0_1 : Nat) (l0_1 : List (S34)) (a1 : Int) (a2_0 : Int) (a2_1 : ByteArray) (a2_2 : ByteArray) (a2_3 : Int) (r1 : List (S70)) (r2 : List (S34)) (r3 : Int) (w : World) (hr0_0 : Kd.C k70 w A0_0 l0_0.length l0_0) (hc0_0 : l0_0.length ≤ c0_0) (hr0_1 : Kd.C k34 w A0_1 l0_1.length l0_1) (hc0_1 : l0_1.length ≤ c0_1) (h : deaddropref7_Do.f k l0_0 l0_1 a1 a2_0 a2_1 a2_2 a2_3 = some (r1, r2, r3)) :
 Calls Try.prog 13 #[.agg #[.slice A0_0 l0_0.length c0_0, .slice A0_1 l0_1.length c0_1], .int .i64 a1, .agg #[.int .i64 a2_0, .string a2_1, .string a2_2, .int .i64 a2_3]] w fun e w' => ∃ v0_ v1_ : Value, e = .returned (.agg #[v0_, v1_, .int .i64 r3]) ∧ Kd.R k70 70 w' w.heap.size (fun _ => True) v0_ r1 ∧ Kd.R k34 34 w' w.heap.size (fun _ => True) v1_ r2 ∧ Below w.heap.size w w' := by
 have hu28 := Try.underlying28
 have hu40 := Try.underlying40
 have hu43 := Try.underlying43
 have hu34 := Try.underlying34
 have hu32 := Try.underlying32
 have HR0_0 := Aside0.mk hr0_0
 have HC0_0 := Aside0.mk hc0_0
 clear hr0_0 hc0_0
 have HR0_1 := Aside0.mk hr0_1
 have HC0_1 := Aside0.mk hc0_1
 clear hr0_1 hc0_1
 have HB := Aside0.mk (Below.refl w.heap.size w)
 have H : (if a2_0 = 1 then (if a1 < 0 then (none) else (if a1 ≥ 8 then (none) else (if a2_0 < 1 then (none) else (if a2_0 > 5 then (none) else (if (a2_1.size : Int) > 40 then (none) else (if (a2_2.size : Int) > 200 then (none) else (if a2_0 = 4 then (none) else (deaddropref7_Do.l0 k a1 ([] : List (S32)) 0 l0_0 l0_1 a2_0 a2_1 a2_2 a2_3)))))))) else (none)) = some (r1, r2, r3) := h
 clear h
 by_cases c4 : a2_0 = 1
 rotate_left
 ·
  rw [if_neg c4] at H
  exact absurd H (by simp)

 rw [if_pos c4] at H
 have c4b0 : (a2_0 == 1) = true := beq_iff_eq.mpr c4
 have c4b1 : (a2_0 != 1) = false := bne_eq_false_iff_eq.mpr c4
 clear c4
 by_cases c5 : a1 < 0
 ·
  rw [if_pos c5] at H
  exact absurd H (by simp)
 rw [if_neg c5] at H
 have c5b0 : decide (a1 < 0) = false := decide_eq_false c5
 clear c5
 by_cases c6 : a1 ≥ 8
 ·
  rw [if_pos c6] at H
  exact absurd H (by simp)
 rw [if_neg c6] at H
 have c6b0 : decide (8 ≤ a1) = false := decide_eq_false c6
 clear c6
 by_cases c7 : a2_0 < 1
 ·
  rw [if_pos c7] at H
  exact absurd H (by simp)
 rw [if_neg c7] at H
 have c7b0 : decide (a2_0 < 1) = false := decide_eq_false c7
 clear c7
 by_cases c8 : a2_0 > 5
 ·
  rw [if_pos c8] at H
  exact absurd H (by simp)
 rw [if_neg c8] at H
 have c8b0 : decide (5 < a2_0) = false := decide_eq_false c8
 clear c8
 by_cases c9 : (a2_1.size : Int) > 40
 ·
  rw [if_pos c9] at H
  exact absurd H (by simp)
 rw [if_neg c9] at H
 have c9b0 : decide (40 < (a2_1.size : Int)) = false := decide_eq_false c9
 have c9b1 : decide (40 < a2_1.size) = false := decide_eq_false (by omega)
 clear c9
 by_cases c10 : (a2_2.size : Int) > 200
 ·
  rw [if_pos c10] at H
  exact absurd H (by simp)
 rw [if_neg c10] at H
 have c10b0 : decide (200 < (a2_2.size : Int)) = false := decide_eq_false c10
 have c10b1 : decide (200 < a2_2.size) = false := decide_eq_false (by omega)
 clear c10
 by_cases c11 : a2_0 = 4
 ·
  rw [if_pos c11] at H
  exact absurd H (by simp)
 rw [if_neg c11] at H
 have c11b0 : (a2_0 == 4) = false := beq_eq_false_iff_ne.mpr c11
 have c11b1 : (a2_0 != 4) = true := bne_iff_ne.mpr c11
 have H' := Aside0.mk H
 clear H
 go_enter Try.func13, Try.ntmps13
 go_wp2_with (first | ((with_reducible refine gate_dst (N := 3) rfl ?_); (try (refine gate_guard (by rfl) ?_; dsimp only)); refine box_event ?hg (N := 3) ?hd (cs := #[.slice A0_0 l0_0.length c0_0, .slice A0_1 l0_1.length c0_1]) (t := 28) ?hr ?_; (case hd => rfl); (case hg => rfl); (case hr => first | (go_simp; done) | (go_simp; rfl)); intro gb347 hg w12 hbox hb; have BK347 := Aside0.mk (hbox); have GW347 := Aside0.mk ((by rw [hg]; exact (below_size (bw HB.out)) : w.heap.size ≤ gb347)); have GE347 := Aside0.mk ((by rw [hg]; exact (below_size (bw HB.out)) : w.heap.size ≤ gb347)); replace HB := Aside0.mk (below_step (bw HB.out) hb); clear hb hbox hg) | ((with_reducible refine gate_dst (N := 5) rfl ?_); (try (refine gate_guard (by rfl) ?_; dsimp only)); refine box_event ?hg (N := 5) ?hd (cs := #[.int .i64 a2_0, .string a2_1, .string a2_2, .int .i64 a2_3]) (t := 40) ?hr ?_; (case hd => rfl); (case hg => rfl); (case hr => first | (go_simp; done) | (go_simp; rfl)); intro gb348 hg w13 hbox hb; have BK348 := Aside0.mk (hbox); have GW348 := Aside0.mk ((by rw [hg]; exact (below_size (bw1 HB.out GE347.out)) : w.heap.size ≤ gb348)); have GE348 := Aside0.mk ((by rw [hg]; exact (below_size (bw1 HB.out GE347.out)) : w.heap.size ≤ gb348)); replace HB := Aside0.mk (below_step (bw1 HB.out GE347.out) hb); have NB347_348 := Aside0.mk ((by rw [hg]; exact Nat.ne_of_lt (blk_lt (g := gb347) (o := .cells #[.slice A0_0 l0_0.length c0_0, .slice A0_1 l0_1.length c0_1] 28 (0, 0)) (bk BK347.out)) : gb347 ≠ gb348)); have NB348_347 := Aside0.mk ((by rw [hg]; exact Nat.ne_of_gt (blk_lt (g := gb347) (o := .cells #[.slice A0_0 l0_0.length c0_0, .slice A0_1 l0_1.length c0_1] 28 (0, 0)) (bk BK347.out)) : gb348 ≠ gb347)); replace BK347 := Aside0.mk (blk_below (g := gb347) (o := .cells #[.slice A0_0 l0_0.length c0_0, .slice A0_1 l0_1.length c0_1] 28 (0, 0)) (bk BK347.out) hb); clear hb hbox hg) | ((with_reducible refine gate_dst (N := 6) rfl ?_); (try (refine gate_guard (by rfl) ?_; dsimp only)); refine box_event ?hg (N := 6) ?hd (cs := #[.slice none 0 0, .slice none 0 0, .int .i64 0]) (t := 43) ?hr ?_; (case hd => rfl); (case hg => rfl); (case hr => first | (go_simp; done) | (go_simp; rfl)); intro gb349 hg w14 hbox hb; have BK349 := Aside0.mk (hbox); have GW349 := Aside0.mk ((by rw [hg]; exact (below_size (bw2 HB.out GE347.out GE348.out)) : w.heap.size ≤ gb349)); have GE349 := Aside0.mk ((by rw [hg]; exact (below_size (bw2 HB.out GE347.out GE348.out)) : w.heap.size ≤ gb349)); replace HB := Aside0.mk (below_step (bw2 HB.out GE347.out GE348.out) hb); have NB347_349 := Aside0.mk ((by rw [hg]; exact Nat.ne_of_lt (blk_lt (g := gb347) (o := .cells #[.slice A0_0 l0_0.length c0_0, .slice A0_1 l0_1.length c0_1] 28 (0, 0)) (bk BK347.out)) : gb347 ≠ gb349)); have NB349_347 := Aside0.mk ((by rw [hg]; exact Nat.ne_of_gt (blk_lt (g := gb347) (o := .cells #[.slice A0_0 l0_0.length c0_0, .slice A0_1 l0_1.length c0_1] 28 (0, 0)) (bk BK347.out)) : gb349 ≠ gb347)); replace BK347 := Aside0.mk (blk_below (g := gb347) (o := .cells #[.slice A0_0 l0_0.length c0_0, .slice A0_1 l0_1.length c0_1] 28 (0, 0)) (bk BK347.out) hb); have NB348_349 := Aside0.mk ((by rw [hg]; exact Nat.ne_of_lt (blk_lt (g := gb348) (o := .cells #[.int .i64 a2_0, .string a2_1, .string a2_2, .int .i64 a2_3] 40 (0, 0)) (bk BK348.out)) : gb348 ≠ gb349)); have NB349_348 := Aside0.mk ((by rw [hg]; exact Nat.ne_of_gt (blk_lt (g := gb348) (o := .cells #[.int .i64 a2_0, .string a2_1, .string a2_2, .int .i64 a2_3] 40 (0, 0)) (bk BK348.out)) : gb349 ≠ gb348)); replace BK348 := Aside0.mk (blk_below (g := gb348) (o := .cells #[.int .i64 a2_0, .string a2_1, .string a2_2, .int .i64 a2_3] 40 (0, 0)) (bk BK348.out) hb); clear hb hbox hg; have hnb15 := NB348_347.out; have hnc15 := NB347_348.out; have hnb16 := NB348_349.out; have hnc16 := NB349_348.out; have hcz17_0 : w14.cell? ⟨gb348, 0, none⟩ = some (.int .i64 a2_0) := (blk_cell BK348.out 0).trans rfl; have hcz17_1 : w14.cell? ⟨gb348, 1, none⟩ = some (.string a2_1) := (blk_cell BK348.out 1).trans rfl; have hcz17_2 : w14.cell? ⟨gb348, 2, none⟩ = some (.string a2_2) := (blk_cell BK348.out 2).trans rfl; have hcz17_3 : w14.cell? ⟨gb348, 3, none⟩ = some (.int .i64 a2_3) := (blk_cell BK348.out 3).trans rfl; have hfz17_0 := blk_frozen BK348.out 0; have hfz17_1 := blk_frozen BK348.out 1; have hfz17_2 := blk_frozen BK348.out 2; have hfz17_3 := blk_frozen BK348.out 3))
 go_loopg [8, 10] k (fun kq v8 v10 w' => ∃ (x8_1 : List (S32)) (x10_1 : Int), v10 = .int .i64 x10_1 ∧ Aside0 (deaddropref7_Do.l0 kq a1 x8_1 x10_1 l0_0 l0_1 a2_0 a2_1 a2_2 a2_3 = some (r1, r2, r3)) ∧ Aside0 (kq ≤ k) ∧ Aside0 (Kd.R k32 32 w' w.heap.size (fun _ => True) v8 x8_1) ∧ Aside0 (w'.heap[gb347]? = some (.cells #[(.slice A0_0 l0_0.length c0_0), (.slice A0_1 l0_1.length c0_1)] 28 (0, 0))) ∧ Aside0 (w'.heap[gb348]? = some (.cells #[.int .i64 a2_0, .string a2_1, .string a2_2, .int .i64 a2_3] 40 (0, 0))) ∧ Aside0 (w'.heap[gb349]? = some (.cells #[(.slice none 0 0), (.slice none 0 0), .int .i64 0] 43 (0, 0))) ∧ Aside0 (Below w.heap.size w w'))
 case atStart => exact ⟨(([] : List (S32))), (0), ok_, H', ⟨Nat.le_refl _⟩, ⟨by first | exact Kd.R_nil _ _ _ _ _ | exact Kd.N_nil _ _ _ _ _ | exact Kd.V_nil _ _ _ _ _ | exact Kd.Q_nil _ _ _ _ _ | exact Kd.S_nil _ _ _ _ _⟩, ⟨by (with_reducible repeat (first | refine blk_drewN ?_ _ | refine blk_drew ?_ | refine blk_alloc ?_ _)); exact BK347.out⟩, ⟨by (with_reducible repeat (first | refine blk_drewN ?_ _ | refine blk_drew ?_ | refine blk_alloc ?_ _)); exact BK348.out⟩, ⟨by (with_reducible repeat (first | refine blk_drewN ?_ _ | refine blk_drew ?_ | refine blk_alloc ?_ _)); exact BK349.out⟩, ⟨by repeat (first | (with_reducible first | exact HB.out | apply below_alloc | apply pw_below_drewN | apply below_drew1 | refine below_set ?_ GE347.out | refine below_set ?_ GE348.out | refine below_set ?_ GE349.out) | exact HB.out)⟩⟩
 case round =>
  clear H'
  try clear c1
  try clear p2
  try clear c4
  try clear c4b0
  try clear c4b1
  try clear c5
  try clear c5b0
  try clear c6
  try clear c6b0
  try clear c7
  try clear c7b0
  try clear c8
  try clear c8b0
  try clear c9
  try clear c9b0
  try clear c9b1
  try clear c10
  try clear c10b0
  try clear c10b1
  try clear c11
  try clear c11b0
  try clear c11b1
  try clear c13
  try clear c15
  try clear c16
  try clear hcz17_0
  try clear hcz17_1
  try clear hcz17_2
  try clear hcz17_3
  try clear hfz17_0
  try clear hfz17_1
  try clear hfz17_2
  try clear hfz17_3
  obtain ⟨x8_1, x10_1, rfl, HA, HK1, HO_8, BK347, BK348, BK349, HB⟩ := hrel
  cases gk with
  | zero => exact absurd HA.out (by simp [deaddropref7_Do.l0])
  | succ k1 =>
   have H := HA.out
   clear HA
   simp only [deaddropref7_Do.l0] at H
   by_cases c18 : x10_1 < (l0_1.length : Int)
   ·
    rw [if_pos c18] at H
    exact absurd H (by simp)
   rw [if_neg c18] at H
   have c18b0 : decide (x10_1 < (l0_1.length : Int)) = false := decide_eq_false c18
   clear c18
   by_cases c19 : (x8_1.length : Int) = 0
   rotate_left
   ·
    rw [if_neg c19] at H
    exact absurd H (by simp)
   rw [if_pos c19] at H
   have c19b0 : ((x8_1.length : Int) == 0) = true := beq_iff_eq.mpr c19
   have c19b1 : ((x8_1.length : Int) != 0) = false := bne_eq_false_iff_eq.mpr c19
   clear c19
   by_cases c20 : a2_0 = 3
   ·
    rw [if_pos c20] at H
    exact absurd H (by simp)
   rw [if_neg c20] at H
   have c20b0 : (a2_0 == 3) = false := beq_eq_false_iff_ne.mpr c20
   have c20b1 : (a2_0 != 3) = true := bne_iff_ne.mpr c20
   by_cases c21 : a2_0 = 5
   ·
    rw [if_pos c21] at H
    exact absurd H (by simp)
   rw [if_neg c21] at H
   have c21b0 : (a2_0 == 5) = false := beq_eq_false_iff_ne.mpr c21
   have c21b1 : (a2_0 != 5) = true := bne_iff_ne.mpr c21
   replace H := Option.bind_eq_some_iff.mp H
   obtain ⟨t351, A220, H⟩ := H
   replace H : (if a2_0 = 4 then (none) else (if (wrap64 (t351 + 1)) > 4503599627370496 then (none) else (if 0 < (-1099511627776) then (none) else (if 0 > 1099511627776 then (none) else (if x8_1.length < 8796093022208 then ((some (([(⟨(⟨a1, wrap64 (t351 + 1)⟩ : S32), a2_1, a2_0, a2_2, 0⟩ : S34)] : List (S34)) : List (S34))).bind fun y356 => ((deaddropref7_Of.f k1 (x8_1 ++ [(⟨a1, wrap64 (t351 + 1)⟩ : S32)])).bind fun t359 => ((deaddropref7_Join.f k1 l0_0 l0_1 t359 y356).bind fun bt362 => (if (bt362.2.length : Int) > 400 then (none) else (some (t359, y356, 0)))))) else (none)))))) = some (r1, r2, r3) := H
   have A22 := Aside0.mk A220
   clear A220
   by_cases c23 : a2_0 = 4
   ·
    rw [if_pos c23] at H
    exact absurd H (by simp)
   rw [if_neg c23] at H
   have c23b0 : (a2_0 == 4) = false := beq_eq_false_iff_ne.mpr c23
   have c23b1 : (a2_0 != 4) = true := bne_iff_ne.mpr c23
   by_cases c24 : (wrap64 (t351 + 1)) > 4503599627370496
   ·
    rw [if_pos c24] at H
    exact absurd H (by simp)
   rw [if_neg c24] at H
   have c24b0 : decide (4503599627370496 < (wrap64 (t351 + 1))) = false := decide_eq_false c24
   clear c24
   by_cases c25 : 0 < (-1099511627776)
   ·
    rw [if_pos c25] at H
    exact absurd H (by simp)
   rw [if_neg c25] at H
   have c25b0 : decide (0 < (-1099511627776)) = false := decide_eq_false c25
   clear c25
   by_cases c26 : 0 > 1099511627776
   ·
    rw [if_pos c26] at H
    exact absurd H (by simp)
   rw [if_neg c26] at H
   have c26b0 : decide (1099511627776 < 0) = false := decide_eq_false c26
   clear c26
   by_cases c27 : x8_1.length < 8796093022208
   rotate_left
   ·
    rw [if_neg c27] at H
    exact absurd H (by simp)
   rw [if_pos c27] at H
   have LMc27 := Aside0.mk c27
   clear c27
   obtain ⟨y353, hy353⟩ : ∃ y_ : List (S32), y_ = (x8_1 ++ [(⟨a1, wrap64 (t351 + 1)⟩ : S32)]) := ⟨_, rfl⟩
   replace H : ((some (([(⟨(⟨a1, wrap64 (t351 + 1)⟩ : S32), a2_1, a2_0, a2_2, 0⟩ : S34)] : List (S34)) : List (S34))).bind fun y356 => ((deaddropref7_Of.f k1 y353).bind fun t359 => ((deaddropref7_Join.f k1 l0_0 l0_1 t359 y356).bind fun bt362 => (if (bt362.2.length : Int) > 400 then (none) else (some (t359, y356, 0)))))) = some (r1, r2, r3) := by first | (rw [hy353]; with_reducible exact H) | (have H2_ := (Option.bind_some _ _).symm.trans H; rw [hy353]; with_reducible exact H2_) | (have H2_ := (Option.bind_some _ _).symm.trans H; with_reducible exact H2_) | with_reducible exact H | (rw [hy353]; exact H) | exact H
   have Ny353 := Aside0.mk hy353
   clear hy353
   obtain ⟨y356, hy356⟩ : ∃ y_ : List (S34), y_ = (([(⟨(⟨a1, wrap64 (t351 + 1)⟩ : S32), a2_1, a2_0, a2_2, 0⟩ : S34)] : List (S34))) := ⟨_, rfl⟩
   replace H : ((deaddropref7_Of.f k1 y353).bind fun t359 => ((deaddropref7_Join.f k1 l0_0 l0_1 t359 y356).bind fun bt362 => (if (bt362.2.length : Int) > 400 then (none) else (some (t359, y356, 0))))) = some (r1, r2, r3) := by first | (rw [hy356]; with_reducible exact H) | (have H2_ := (Option.bind_some _ _).symm.trans H; rw [hy356]; with_reducible exact H2_) | (have H2_ := (Option.bind_some _ _).symm.trans H; with_reducible exact H2_) | with_reducible exact H | (rw [hy356]; exact H) | exact H
   have Ny356 := Aside0.mk hy356
   clear hy356
   replace H := Option.bind_eq_some_iff.mp H
   obtain ⟨t359, A280, H⟩ := H
   replace H : ((deaddropref7_Join.f k1 l0_0 l0_1 t359 y356).bind fun bt362 => (if (bt362.2.length : Int) > 400 then (none) else (some (t359, y356, 0)))) = some (r1, r2, r3) := H
   have A28 := Aside0.mk A280
   clear A280
   replace H := Option.bind_eq_some_iff.mp H
   obtain ⟨⟨t362, t365⟩, A290, H⟩ := H
   replace H : (if (t365.length : Int) > 400 then (none) else (some (t359, y356, 0))) = some (r1, r2, r3) := H
   have A29 := Aside0.mk A290
   clear A290
   by_cases c30 : (t365.length : Int) > 400
   ·
    rw [if_pos c30] at H
    exact absurd H (by simp)
   rw [if_neg c30] at H
   have c30b0 : decide (400 < (t365.length : Int)) = false := decide_eq_false c30
   have c30b1 : decide (400 < t365.length) = false := decide_eq_false (by omega)
   clear c30
   simp only [Option.some.injEq, Prod.mk.injEq] at H
   obtain ⟨rfl, rfl, rfl⟩ := H
   have hnb31 := NB347_348.out
   have hnc31 := NB348_347.out
   have hnb32 := NB347_349.out
   have hnc32 := NB349_347.out
   have hcz33_0 : wr.cell? ⟨gb347, 0, none⟩ = some (.slice A0_0 l0_0.length c0_0) := (blk_cell BK347.out 0).trans rfl
   have hcz33_1 : wr.cell? ⟨gb347, 1, none⟩ = some (.slice A0_1 l0_1.length c0_1) := (blk_cell BK347.out 1).trans rfl
   have hfz33_0 := blk_frozen BK347.out 0
   have hfz33_1 := blk_frozen BK347.out 1
   obtain ⟨Ao34, co34, eo34⟩ := Kd.R_slice HO_8.out
   subst eo34
   have hnb35 := NB348_349.out
   have hnc35 := NB349_348.out
   have hcz36_0 : wr.cell? ⟨gb348, 0, none⟩ = some (.int .i64 a2_0) := (blk_cell BK348.out 0).trans rfl
   have hcz36_1 : wr.cell? ⟨gb348, 1, none⟩ = some (.string a2_1) := (blk_cell BK348.out 1).trans rfl
   have hcz36_2 : wr.cell? ⟨gb348, 2, none⟩ = some (.string a2_2) := (blk_cell BK348.out 2).trans rfl
   have hcz36_3 : wr.cell? ⟨gb348, 3, none⟩ = some (.int .i64 a2_3) := (blk_cell BK348.out 3).trans rfl
   have hfz36_0 := blk_frozen BK348.out 0
   have hfz36_1 := blk_frozen BK348.out 1
   have hfz36_2 := blk_frozen BK348.out 2
   have hfz36_3 := blk_frozen BK348.out 3
   try go_wp2_with (first | ((with_reducible refine gate_dst (N := 11) rfl ?_); (try (refine gate_guard (by rfl) ?_; dsimp only)); refine box_event ?hg (N := 11) ?hd (cs := #[.slice none 0 0, .slice none 0 0]) (t := 28) ?hr ?_; (case hd => rfl); (case hg => rfl); (case hr => first | (go_simp; done) | (go_simp; rfl)); intro gb350 hg w37 hbox hb; replace HO_8 := Aside0.mk (Kd.R_below (rk HO_8.out) hb); have BK350 := Aside0.mk (hbox); have GW350 := Aside0.mk ((by rw [hg]; exact (below_size (bw3 HB.out GE347.out GE348.out GE349.out)) : w.heap.size ≤ gb350)); have GE350 := Aside0.mk ((by rw [hg]; exact (below_size (bw3 HB.out GE347.out GE348.out GE349.out)) : w.heap.size ≤ gb350)); replace HB := Aside0.mk (below_step (bw3 HB.out GE347.out GE348.out GE349.out) hb); have NB347_350 := Aside0.mk ((by rw [hg]; exact Nat.ne_of_lt (blk_lt (g := gb347) (o := .cells #[.slice A0_0 l0_0.length c0_0, .slice A0_1 l0_1.length c0_1] 28 (0, 0)) (bk BK347.out)) : gb347 ≠ gb350)); have NB350_347 := Aside0.mk ((by rw [hg]; exact Nat.ne_of_gt (blk_lt (g := gb347) (o := .cells #[.slice A0_0 l0_0.length c0_0, .slice A0_1 l0_1.length c0_1] 28 (0, 0)) (bk BK347.out)) : gb350 ≠ gb347)); replace BK347 := Aside0.mk (blk_below (g := gb347) (o := .cells #[.slice A0_0 l0_0.length c0_0, .slice A0_1 l0_1.length c0_1] 28 (0, 0)) (bk BK347.out) hb); have NB348_350 := Aside0.mk ((by rw [hg]; exact Nat.ne_of_lt (blk_lt (g := gb348) (o := .cells #[.int .i64 a2_0, .string a2_1, .string a2_2, .int .i64 a2_3] 40 (0, 0)) (bk BK348.out)) : gb348 ≠ gb350)); have NB350_348 := Aside0.mk ((by rw [hg]; exact Nat.ne_of_gt (blk_lt (g := gb348) (o := .cells #[.int .i64 a2_0, .string a2_1, .string a2_2, .int .i64 a2_3] 40 (0, 0)) (bk BK348.out)) : gb350 ≠ gb348)); replace BK348 := Aside0.mk (blk_below (g := gb348) (o := .cells #[.int .i64 a2_0, .string a2_1, .string a2_2, .int .i64 a2_3] 40 (0, 0)) (bk BK348.out) hb); have NB349_350 := Aside0.mk ((by rw [hg]; exact Nat.ne_of_lt (blk_lt (g := gb349) (o := .cells #[.slice none 0 0, .slice none 0 0, .int .i64 0] 43 (0, 0)) (bk BK349.out)) : gb349 ≠ gb350)); have NB350_349 := Aside0.mk ((by rw [hg]; exact Nat.ne_of_gt (blk_lt (g := gb349) (o := .cells #[.slice none 0 0, .slice none 0 0, .int .i64 0] 43 (0, 0)) (bk BK349.out)) : gb350 ≠ gb349)); replace BK349 := Aside0.mk (blk_below (g := gb349) (o := .cells #[.slice none 0 0, .slice none 0 0, .int .i64 0] 43 (0, 0)) (bk BK349.out) hb); clear hb hbox hg; have hnb38 := NB348_350.out; have hnc38 := NB350_348.out; have hcz39_0 : w37.cell? ⟨gb348, 0, none⟩ = some (.int .i64 a2_0) := (blk_cell BK348.out 0).trans rfl; have hcz39_1 : w37.cell? ⟨gb348, 1, none⟩ = some (.string a2_1) := (blk_cell BK348.out 1).trans rfl; have hcz39_2 : w37.cell? ⟨gb348, 2, none⟩ = some (.string a2_2) := (blk_cell BK348.out 2).trans rfl; have hcz39_3 : w37.cell? ⟨gb348, 3, none⟩ = some (.int .i64 a2_3) := (blk_cell BK348.out 3).trans rfl; have hfz39_0 := blk_frozen BK348.out 0; have hfz39_1 := blk_frozen BK348.out 1; have hfz39_2 := blk_frozen BK348.out 2; have hfz39_3 := blk_frozen BK348.out 3))
   replace HO_8 := Aside0.mk (Kd.R_drew HO_8.out)
   replace BK347 := Aside0.mk (blk_drew BK347.out)
   replace BK348 := Aside0.mk (blk_drew BK348.out)
   replace BK349 := Aside0.mk (blk_drew BK349.out)
   replace BK350 := Aside0.mk (blk_drew BK350.out)
   replace HB := Aside0.mk (below_drew1 HB.out)
   refine start_ (n := 16) (S := fun w' => w'.cell? ⟨gb347, 0, none⟩ = some (.slice A0_0 l0_0.length c0_0) ∧ w'.cell? ⟨gb347, 1, none⟩ = some (.slice A0_1 l0_1.length c0_1) ∧ w'.cell? ⟨gb348, 0, none⟩ = some (.int .i64 a2_0) ∧ w'.cell? ⟨gb348, 1, none⟩ = some (.string a2_1) ∧ w'.cell? ⟨gb348, 2, none⟩ = some (.string a2_2) ∧ w'.cell? ⟨gb348, 3, none⟩ = some (.int .i64 a2_3)) (ds := []) (fl 0 16) (by kernel_rfl) rfl rfl ⟨(blk_cell BK347.out 0).trans rfl, (blk_cell BK347.out 1).trans rfl, (blk_cell BK348.out 0).trans rfl, (blk_cell BK348.out 1).trans rfl, (blk_cell BK348.out 2).trans rfl, (blk_cell BK348.out 3).trans rfl⟩ (fun hHeld => ?_); refine with_tabW deaddropref7_Do.tab16 deaddropref7_Do.bits16 (fun HT_ HW_ => ?_)
   generalize w37.drew = w40 at HO_8 BK347 BK348 BK349 BK350 HB hHeld ⊢
   refine pure_ (i := 0) (N := some 129) (fl 1 16) rfl rfl (any_of HT_.out (by kernel_rfl)) (fun _ _ _ h => h) (Or.inl ⟨by rfl, py⟩) pa ?_
   refine pure_ (i := 1) (N := some 130) (fl 2 16) rfl rfl (any_of HT_.out (by kernel_rfl)) (fun _ _ _ h => h) (Or.inl ⟨by rfl, py⟩) pa ?_
   refine pure_ (i := 3) (N := some 132) #[true, true, false, true, false, false, false, false, false, false, false, false, false, false, false, false] rfl rfl (any_of HT_.out (by kernel_rfl)) (fun _ _ _ h => h) (Or.inl ⟨by rfl, py⟩) pa ?_
   refine pure_ (i := 7) (N := some 136) #[true, true, false, true, false, false, false, true, false, false, false, false, false, false, false, false] rfl rfl (any_of HT_.out (by kernel_rfl)) (fun _ _ _ h => h) (Or.inl ⟨by rfl, py⟩) pa ?_
   refine pure_ (i := 9) (N := some 138) #[true, true, false, true, false, false, false, true, false, true, false, false, false, false, false, false] rfl rfl (any_of HT_.out (by kernel_rfl)) (fun _ _ _ h => h) (Or.inl ⟨by rfl, py⟩) pa ?_
   refine pure_ (i := 11) (N := some 140) #[true, true, false, true, false, false, false, true, false, true, false, true, false, false, false, false] rfl rfl (any_of HT_.out (by kernel_rfl)) (fun _ _ _ h => h) (Or.inl ⟨by rfl, py⟩) pa ?_
   refine take_ (i := 2) (N := some 131) (v := ?_) (a' := ?_) #[true, true, true, true, false, false, false, true, false, true, false, true, false, false, false, false] rfl rfl (take_ofW HT_.out HW_.out (by kernel_rfl)) (fun _ _ _ h => h) (Or.inl ⟨by rfl, ?_⟩) hHeld ?_ ?_
   rotate_left
   ·
    rintro w' ⟨s0, s1, s2, s3, s4, s5⟩
    go_simp
    with_reducible rfl
   rotate_left
   ·
    simp only [Act.put, List.setIfInBounds_toArray, List.set_cons_zero, List.set_cons_succ, i64_w, i32_w]
    rfl
   refine take_ (i := 8) (N := some 137) (v := ?_) (a' := ?_) #[true, true, true, true, false, false, false, true, true, true, false, true, false, false, false, false] rfl rfl (take_ofW HT_.out HW_.out (by kernel_rfl)) (fun _ _ _ h => h) (Or.inl ⟨by rfl, ?_⟩) hHeld ?_ ?_
   rotate_left
   ·
    rintro w' ⟨s0, s1, s2, s3, s4, s5⟩
    go_simp
    with_reducible rfl
   rotate_left
   ·
    simp only [Act.put, List.setIfInBounds_toArray, List.set_cons_zero, List.set_cons_succ, i64_w, i32_w]
    rfl
   refine take_ (i := 10) (N := some 139) (v := ?_) (a' := ?_) #[true, true, true, true, false, false, false, true, true, true, true, true, false, false, false, false] rfl rfl (take_ofW HT_.out HW_.out (by kernel_rfl)) (fun _ _ _ h => h) (Or.inl ⟨by rfl, ?_⟩) hHeld ?_ ?_
   rotate_left
   ·
    rintro w' ⟨s0, s1, s2, s3, s4, s5⟩
    go_simp
    with_reducible rfl
   rotate_left
   ·
    simp only [Act.put, List.setIfInBounds_toArray, List.set_cons_zero, List.set_cons_succ, i64_w, i32_w]
    rfl
   refine take_ (i := 12) (N := some 141) (v := ?_) (a' := ?_) #[true, true, true, true, false, false, false, true, true, true, true, true, true, false, false, false] rfl rfl (take_ofW HT_.out HW_.out (by kernel_rfl)) (fun _ _ _ h => h) (Or.inl ⟨by rfl, ?_⟩) hHeld ?_ ?_
   rotate_left
   ·
    rintro w' ⟨s0, s1, s2, s3, s4, s5⟩
    go_simp
    with_reducible rfl
   rotate_left
   ·
    simp only [Act.put, List.setIfInBounds_toArray, List.set_cons_zero, List.set_cons_succ, i64_w, i32_w]
    rfl
   refine join_ (σ := Nat) 1 (fl 15 16) (fun s_ => [(133, .int .i64 t351), (12, .pointer (some ⟨s_, 0, none⟩)), (134, .int .i64 (wrap64 (t351 + 1))), (135, .agg #[.int .i64 a1, .int .i64 (wrap64 (t351 + 1))]), (142, .agg #[.int .i64 a1, .int .i64 (wrap64 (t351 + 1)), .string a2_1, .int .i64 a2_0, .string a2_2, .int .i64 0])]) (fun s_ w' => (w'.cell? ⟨gb347, 0, none⟩ = some (.slice A0_0 l0_0.length c0_0) ∧ w'.cell? ⟨gb347, 1, none⟩ = some (.slice A0_1 l0_1.length c0_1) ∧ w'.cell? ⟨gb348, 0, none⟩ = some (.int .i64 a2_0) ∧ w'.cell? ⟨gb348, 1, none⟩ = some (.string a2_1) ∧ w'.cell? ⟨gb348, 2, none⟩ = some (.string a2_2) ∧ w'.cell? ⟨gb348, 3, none⟩ = some (.int .i64 a2_3)) ∧ (Kd.R k32 32 w' w.heap.size (fun _ => True) (.slice Ao34 x8_1.length co34) x8_1) ∧ (w'.heap[gb347]? = some (.cells #[.slice A0_0 l0_0.length c0_0, .slice A0_1 l0_1.length c0_1] 28 (0, 0))) ∧ (w'.heap[gb348]? = some (.cells #[.int .i64 a2_0, .string a2_1, .string a2_2, .int .i64 a2_3] 40 (0, 0))) ∧ (w'.heap[gb349]? = some (.cells #[.slice none 0 0, .slice none 0 0, .int .i64 0] 43 (0, 0))) ∧ (w'.heap[gb350]? = some (.cells #[.slice none 0 0, .slice none 0 0] 28 (0, 0))) ∧ (w'.heap[s_]? = some (.cells #[.int .i64 0, .int .i64 0, .string (⟨#[]⟩ : ByteArray), .int .i64 0, .string (⟨#[]⟩ : ByteArray), .int .i64 0] 34 (0, 0))) ∧ (w.heap.size ≤ s_) ∧ (w.heap.size ≤ s_) ∧ (gb347 ≠ s_) ∧ (s_ ≠ gb347) ∧ (gb348 ≠ s_) ∧ (s_ ≠ gb348) ∧ (gb349 ≠ s_) ∧ (s_ ≠ gb349) ∧ (gb350 ≠ s_) ∧ (s_ ≠ gb350) ∧ (Below w.heap.size w w')) ?_ ?_
   rotate_left
   ·
    intro hCont
    refine two_ (i := 4) (j := 14) (Ni := some 133) (Nj := some 12) #[true, true, true, true, true, false, false, true, true, true, true, true, true, false, false, false] #[true, true, true, true, false, false, false, true, true, true, true, true, true, false, true, false] rfl rfl rfl rfl (two_of HT_.out (by kernel_rfl)) (by decide) (by decide) (fun K hK => ?_) (fun K hK => ?_)
    ·
     skip
     refine goes_ Try.func30 (by kernel_rfl) rfl #[.slice A0_0 l0_0.length c0_0, .int .i64 a1] (by rfl) rfl rfl ar_ ?_
     with_reducible refine (deaddropref7_Last.calls k1 _ _ l0_0 a1 t351 _ ?side1 ?side2 A22.out).mono ?_
     (case side1 => exact cr (Kd.C_below HR0_0.out HB.out))
     (case side2 => exact HC0_0.out)
     rintro e w41 ⟨rfl, hb⟩
     refine ⟨_, rfl, ?_⟩
     replace HO_8 := Aside0.mk (Kd.R_below (rk HO_8.out) hb)
     replace BK347 := Aside0.mk (blk_below (g := gb347) (o := .cells #[.slice A0_0 l0_0.length c0_0, .slice A0_1 l0_1.length c0_1] 28 (0, 0)) (bk BK347.out) hb)
     replace BK348 := Aside0.mk (blk_below (g := gb348) (o := .cells #[.int .i64 a2_0, .string a2_1, .string a2_2, .int .i64 a2_3] 40 (0, 0)) (bk BK348.out) hb)
     replace BK349 := Aside0.mk (blk_below (g := gb349) (o := .cells #[.slice none 0 0, .slice none 0 0, .int .i64 0] 43 (0, 0)) (bk BK349.out) hb)
     replace BK350 := Aside0.mk (blk_below (g := gb350) (o := .cells #[.slice none 0 0, .slice none 0 0] 28 (0, 0)) (bk BK350.out) hb)
     replace HB := Aside0.mk (below_step (bw4 HB.out GE347.out GE348.out GE349.out GE350.out) hb)
     (try clear hb)
     (try clear hb2)
     (try clear hk)
     (try clear hi)
     refine hK.out _ _ ⟨(blk_cell BK347.out 0).trans rfl, (blk_cell BK347.out 1).trans rfl, (blk_cell BK348.out 0).trans rfl, (blk_cell BK348.out 1).trans rfl, (blk_cell BK348.out 2).trans rfl, (blk_cell BK348.out 3).trans rfl⟩ (fun hHeld => ?_)
     clear hK K
     refine norm_ (a' := ?_) ?_ ?_
     rotate_left
     ·
      show Act.put _ (some 133) _ = _
      simp only [Act.put, List.setIfInBounds_toArray, List.set_cons_zero, List.set_cons_succ, i64_w, i32_w]
      rfl
     refine pure_ (i := 5) (N := some 134) #[true, true, true, true, true, true, false, true, true, true, true, true, true, false, false, false] rfl rfl (any_of HT_.out (by kernel_rfl)) (fun _ _ _ h => h) (Or.inl ⟨by rfl, py⟩) pa ?_
     refine pure_ (i := 6) (N := some 135) (fl 13 16) rfl rfl (any_of HT_.out (by kernel_rfl)) (fun _ _ _ h => h) (Or.inl ⟨by rfl, py⟩) pa ?_
     refine pure_ (i := 13) (N := some 142) (fl 14 16) rfl rfl (any_of HT_.out (by kernel_rfl)) (fun _ _ _ h => h) (Or.inl ⟨by rfl, py⟩) pa ?_
     refine one_ (i := 14) (N := some 12) (fl 15 16) rfl rfl (one_of HT_.out (by kernel_rfl)) (by decide) (fun K hK => ?_)
     refine box_step ?hg (N := 12) ?hd (cs := #[.int .i64 0, .int .i64 0, .string (⟨#[]⟩ : ByteArray), .int .i64 0, .string (⟨#[]⟩ : ByteArray), .int .i64 0]) (t := 34) ?hr ?_; (case hd => rfl); (case hg => rfl); (case hr => first | (go_simp; done) | (go_simp; rfl))
     intro gb352 hg w42 hbox hb
     replace HO_8 := Aside0.mk (Kd.R_below (rk HO_8.out) hb)
     have BK352 := Aside0.mk (hbox)
     have GW352 := Aside0.mk ((by rw [hg]; exact (below_size (bw4 HB.out GE347.out GE348.out GE349.out GE350.out)) : w.heap.size ≤ gb352))
     have GE352 := Aside0.mk ((by rw [hg]; exact (below_size (bw4 HB.out GE347.out GE348.out GE349.out GE350.out)) : w.heap.size ≤ gb352))
     replace HB := Aside0.mk (below_step (bw4 HB.out GE347.out GE348.out GE349.out GE350.out) hb)
     have NB347_352 := Aside0.mk ((by rw [hg]; exact Nat.ne_of_lt (blk_lt (g := gb347) (o := .cells #[.slice A0_0 l0_0.length c0_0, .slice A0_1 l0_1.length c0_1] 28 (0, 0)) (bk BK347.out)) : gb347 ≠ gb352))
     have NB352_347 := Aside0.mk ((by rw [hg]; exact Nat.ne_of_gt (blk_lt (g := gb347) (o := .cells #[.slice A0_0 l0_0.length c0_0, .slice A0_1 l0_1.length c0_1] 28 (0, 0)) (bk BK347.out)) : gb352 ≠ gb347))
     replace BK347 := Aside0.mk (blk_below (g := gb347) (o := .cells #[.slice A0_0 l0_0.length c0_0, .slice A0_1 l0_1.length c0_1] 28 (0, 0)) (bk BK347.out) hb)
     have NB348_352 := Aside0.mk ((by rw [hg]; exact Nat.ne_of_lt (blk_lt (g := gb348) (o := .cells #[.int .i64 a2_0, .string a2_1, .string a2_2, .int .i64 a2_3] 40 (0, 0)) (bk BK348.out)) : gb348 ≠ gb352))
     have NB352_348 := Aside0.mk ((by rw [hg]; exact Nat.ne_of_gt (blk_lt (g := gb348) (o := .cells #[.int .i64 a2_0, .string a2_1, .string a2_2, .int .i64 a2_3] 40 (0, 0)) (bk BK348.out)) : gb352 ≠ gb348))
     replace BK348 := Aside0.mk (blk_below (g := gb348) (o := .cells #[.int .i64 a2_0, .string a2_1, .string a2_2, .int .i64 a2_3] 40 (0, 0)) (bk BK348.out) hb)
     have NB349_352 := Aside0.mk ((by rw [hg]; exact Nat.ne_of_lt (blk_lt (g := gb349) (o := .cells #[.slice none 0 0, .slice none 0 0, .int .i64 0] 43 (0, 0)) (bk BK349.out)) : gb349 ≠ gb352))
     have NB352_349 := Aside0.mk ((by rw [hg]; exact Nat.ne_of_gt (blk_lt (g := gb349) (o := .cells #[.slice none 0 0, .slice none 0 0, .int .i64 0] 43 (0, 0)) (bk BK349.out)) : gb352 ≠ gb349))
     replace BK349 := Aside0.mk (blk_below (g := gb349) (o := .cells #[.slice none 0 0, .slice none 0 0, .int .i64 0] 43 (0, 0)) (bk BK349.out) hb)
     have NB350_352 := Aside0.mk ((by rw [hg]; exact Nat.ne_of_lt (blk_lt (g := gb350) (o := .cells #[.slice none 0 0, .slice none 0 0] 28 (0, 0)) (bk BK350.out)) : gb350 ≠ gb352))
     have NB352_350 := Aside0.mk ((by rw [hg]; exact Nat.ne_of_gt (blk_lt (g := gb350) (o := .cells #[.slice none 0 0, .slice none 0 0] 28 (0, 0)) (bk BK350.out)) : gb352 ≠ gb350))
     replace BK350 := Aside0.mk (blk_below (g := gb350) (o := .cells #[.slice none 0 0, .slice none 0 0] 28 (0, 0)) (bk BK350.out) hb)
     clear hb hbox hg
     refine hK.out _ _ ⟨(blk_cell BK347.out 0).trans rfl, (blk_cell BK347.out 1).trans rfl, (blk_cell BK348.out 0).trans rfl, (blk_cell BK348.out 1).trans rfl, (blk_cell BK348.out 2).trans rfl, (blk_cell BK348.out 3).trans rfl⟩ (fun hHeld => ?_)
     clear hK K
     refine norm_ (a' := ?_) ?_ ?_
     rotate_left
     ·
      show Act.put _ (some 12) _ = _
      simp only [Act.put, List.setIfInBounds_toArray, List.set_cons_zero, List.set_cons_succ, i64_w, i32_w]
      rfl
     exact norm_ (by simp only [putAll, Act.put, List.setIfInBounds_toArray, List.set_cons_zero, List.set_cons_succ]) (hCont (gb352) _ ⟨hHeld, (rk HO_8.out), (bk BK347.out), (bk BK348.out), (bk BK349.out), (bk BK350.out), (bk BK352.out), GW352.out, GE352.out, NB347_352.out, NB352_347.out, NB348_352.out, NB352_348.out, NB349_352.out, NB352_349.out, NB350_352.out, NB352_350.out, (bw5 HB.out GE347.out GE348.out GE349.out GE350.out GE352.out)⟩)
    ·
     skip
     refine box_step ?hg (N := 12) ?hd (cs := #[.int .i64 0, .int .i64 0, .string (⟨#[]⟩ : ByteArray), .int .i64 0, .string (⟨#[]⟩ : ByteArray), .int .i64 0]) (t := 34) ?hr ?_; (case hd => rfl); (case hg => rfl); (case hr => first | (go_simp; done) | (go_simp; rfl))
     intro gb352 hg w41 hbox hb
     replace HO_8 := Aside0.mk (Kd.R_below (rk HO_8.out) hb)
     have BK352 := Aside0.mk (hbox)
     have GW352 := Aside0.mk ((by rw [hg]; exact (below_size (bw4 HB.out GE347.out GE348.out GE349.out GE350.out)) : w.heap.size ≤ gb352))
     have GE352 := Aside0.mk ((by rw [hg]; exact (below_size (bw4 HB.out GE347.out GE348.out GE349.out GE350.out)) : w.heap.size ≤ gb352))
     replace HB := Aside0.mk (below_step (bw4 HB.out GE347.out GE348.out GE349.out GE350.out) hb)
     have NB347_352 := Aside0.mk ((by rw [hg]; exact Nat.ne_of_lt (blk_lt (g := gb347) (o := .cells #[.slice A0_0 l0_0.length c0_0, .slice A0_1 l0_1.length c0_1] 28 (0, 0)) (bk BK347.out)) : gb347 ≠ gb352))
     have NB352_347 := Aside0.mk ((by rw [hg]; exact Nat.ne_of_gt (blk_lt (g := gb347) (o := .cells #[.slice A0_0 l0_0.length c0_0, .slice A0_1 l0_1.length c0_1] 28 (0, 0)) (bk BK347.out)) : gb352 ≠ gb347))
     replace BK347 := Aside0.mk (blk_below (g := gb347) (o := .cells #[.slice A0_0 l0_0.length c0_0, .slice A0_1 l0_1.length c0_1] 28 (0, 0)) (bk BK347.out) hb)
     have NB348_352 := Aside0.mk ((by rw [hg]; exact Nat.ne_of_lt (blk_lt (g := gb348) (o := .cells #[.int .i64 a2_0, .string a2_1, .string a2_2, .int .i64 a2_3] 40 (0, 0)) (bk BK348.out)) : gb348 ≠ gb352))
     have NB352_348 := Aside0.mk ((by rw [hg]; exact Nat.ne_of_gt (blk_lt (g := gb348) (o := .cells #[.int .i64 a2_0, .string a2_1, .string a2_2, .int .i64 a2_3] 40 (0, 0)) (bk BK348.out)) : gb352 ≠ gb348))
     replace BK348 := Aside0.mk (blk_below (g := gb348) (o := .cells #[.int .i64 a2_0, .string a2_1, .string a2_2, .int .i64 a2_3] 40 (0, 0)) (bk BK348.out) hb)
     have NB349_352 := Aside0.mk ((by rw [hg]; exact Nat.ne_of_lt (blk_lt (g := gb349) (o := .cells #[.slice none 0 0, .slice none 0 0, .int .i64 0] 43 (0, 0)) (bk BK349.out)) : gb349 ≠ gb352))
     have NB352_349 := Aside0.mk ((by rw [hg]; exact Nat.ne_of_gt (blk_lt (g := gb349) (o := .cells #[.slice none 0 0, .slice none 0 0, .int .i64 0] 43 (0, 0)) (bk BK349.out)) : gb352 ≠ gb349))
     replace BK349 := Aside0.mk (blk_below (g := gb349) (o := .cells #[.slice none 0 0, .slice none 0 0, .int .i64 0] 43 (0, 0)) (bk BK349.out) hb)
     have NB350_352 := Aside0.mk ((by rw [hg]; exact Nat.ne_of_lt (blk_lt (g := gb350) (o := .cells #[.slice none 0 0, .slice none 0 0] 28 (0, 0)) (bk BK350.out)) : gb350 ≠ gb352))
     have NB352_350 := Aside0.mk ((by rw [hg]; exact Nat.ne_of_gt (blk_lt (g := gb350) (o := .cells #[.slice none 0 0, .slice none 0 0] 28 (0, 0)) (bk BK350.out)) : gb352 ≠ gb350))
     replace BK350 := Aside0.mk (blk_below (g := gb350) (o := .cells #[.slice none 0 0, .slice none 0 0] 28 (0, 0)) (bk BK350.out) hb)
     clear hb hbox hg
     refine hK.out _ _ ⟨(blk_cell BK347.out 0).trans rfl, (blk_cell BK347.out 1).trans rfl, (blk_cell BK348.out 0).trans rfl, (blk_cell BK348.out 1).trans rfl, (blk_cell BK348.out 2).trans rfl, (blk_cell BK348.out 3).trans rfl⟩ (fun hHeld => ?_)
     clear hK K
     refine norm_ (a' := ?_) ?_ ?_
     rotate_left
     ·
      show Act.put _ (some 12) _ = _
      simp only [Act.put, List.setIfInBounds_toArray, List.set_cons_zero, List.set_cons_succ, i64_w, i32_w]
      rfl
     refine one_ (i := 4) (N := some 133) #[true, true, true, true, true, false, false, true, true, true, true, true, true, false, true, false] rfl rfl (one_of HT_.out (by kernel_rfl)) (by decide) (fun K hK => ?_)
     refine goes_ Try.func30 (by kernel_rfl) rfl #[.slice A0_0 l0_0.length c0_0, .int .i64 a1] (by rfl) rfl rfl ar_ ?_
     with_reducible refine (deaddropref7_Last.calls k1 _ _ l0_0 a1 t351 _ ?side1 ?side2 A22.out).mono ?_
     (case side1 => exact cr (Kd.C_below HR0_0.out HB.out))
     (case side2 => exact HC0_0.out)
     rintro e w42 ⟨rfl, hb⟩
     refine ⟨_, rfl, ?_⟩
     replace HO_8 := Aside0.mk (Kd.R_below (rk HO_8.out) hb)
     replace BK347 := Aside0.mk (blk_below (g := gb347) (o := .cells #[.slice A0_0 l0_0.length c0_0, .slice A0_1 l0_1.length c0_1] 28 (0, 0)) (bk BK347.out) hb)
     replace BK348 := Aside0.mk (blk_below (g := gb348) (o := .cells #[.int .i64 a2_0, .string a2_1, .string a2_2, .int .i64 a2_3] 40 (0, 0)) (bk BK348.out) hb)
     replace BK349 := Aside0.mk (blk_below (g := gb349) (o := .cells #[.slice none 0 0, .slice none 0 0, .int .i64 0] 43 (0, 0)) (bk BK349.out) hb)
     replace BK350 := Aside0.mk (blk_below (g := gb350) (o := .cells #[.slice none 0 0, .slice none 0 0] 28 (0, 0)) (bk BK350.out) hb)
     replace BK352 := Aside0.mk (blk_below (g := gb352) (o := .cells #[.int .i64 0, .int .i64 0, .string (⟨#[]⟩ : ByteArray), .int .i64 0, .string (⟨#[]⟩ : ByteArray), .int .i64 0] 34 (0, 0)) (bk BK352.out) hb)
     replace HB := Aside0.mk (below_step (bw5 HB.out GE347.out GE348.out GE349.out GE350.out GE352.out) hb)
     (try clear hb)
     (try clear hb2)
     (try clear hk)
     (try clear hi)
     refine hK.out _ _ ⟨(blk_cell BK347.out 0).trans rfl, (blk_cell BK347.out 1).trans rfl, (blk_cell BK348.out 0).trans rfl, (blk_cell BK348.out 1).trans rfl, (blk_cell BK348.out 2).trans rfl, (blk_cell BK348.out 3).trans rfl⟩ (fun hHeld => ?_)
     clear hK K
     refine norm_ (a' := ?_) ?_ ?_
     rotate_left
     ·
      show Act.put _ (some 133) _ = _
      simp only [Act.put, List.setIfInBounds_toArray, List.set_cons_zero, List.set_cons_succ, i64_w, i32_w]
      rfl
     refine pure_ (i := 5) (N := some 134) #[true, true, true, true, true, true, false, true, true, true, true, true, true, false, true, false] rfl rfl (any_of HT_.out (by kernel_rfl)) (fun _ _ _ h => h) (Or.inl ⟨by rfl, py⟩) pa ?_
     refine pure_ (i := 6) (N := some 135) #[true, true, true, true, true, true, true, true, true, true, true, true, true, false, true, false] rfl rfl (any_of HT_.out (by kernel_rfl)) (fun _ _ _ h => h) (Or.inl ⟨by rfl, py⟩) pa ?_
     refine pure_ (i := 13) (N := some 142) (fl 15 16) rfl rfl (any_of HT_.out (by kernel_rfl)) (fun _ _ _ h => h) (Or.inl ⟨by rfl, py⟩) pa ?_
     exact norm_ (by simp only [putAll, Act.put, List.setIfInBounds_toArray, List.set_cons_zero, List.set_cons_succ]) (hCont (gb352) _ ⟨hHeld, (rk HO_8.out), (bk BK347.out), (bk BK348.out), (bk BK349.out), (bk BK350.out), (bk BK352.out), GW352.out, GE352.out, NB347_352.out, NB352_347.out, NB348_352.out, NB352_348.out, NB349_352.out, NB352_349.out, NB350_352.out, NB352_350.out, (bw5 HB.out GE347.out GE348.out GE349.out GE350.out GE352.out)⟩)
   rintro gb352 w43 ⟨hS_, h0_, h1_, h2_, h3_, h4_, h5_, h6_, h7_, h8_, h9_, h10_, h11_, h12_, h13_, h14_, h15_, h16_⟩
   have n0_ : Aside0 (Kd.R k32 32 w43 w.heap.size (fun _ => True) (.slice Ao34 x8_1.length co34) x8_1) := ⟨h0_⟩
   have n1_ : Aside0 (w43.heap[gb347]? = some (.cells #[.slice A0_0 l0_0.length c0_0, .slice A0_1 l0_1.length c0_1] 28 (0, 0))) := ⟨h1_⟩
   have n2_ : Aside0 (w43.heap[gb348]? = some (.cells #[.int .i64 a2_0, .string a2_1, .string a2_2, .int .i64 a2_3] 40 (0, 0))) := ⟨h2_⟩
   have n3_ : Aside0 (w43.heap[gb349]? = some (.cells #[.slice none 0 0, .slice none 0 0, .int .i64 0] 43 (0, 0))) := ⟨h3_⟩
   have n4_ : Aside0 (w43.heap[gb350]? = some (.cells #[.slice none 0 0, .slice none 0 0] 28 (0, 0))) := ⟨h4_⟩
   have n5_ : Aside0 (w43.heap[gb352]? = some (.cells #[.int .i64 0, .int .i64 0, .string (⟨#[]⟩ : ByteArray), .int .i64 0, .string (⟨#[]⟩ : ByteArray), .int .i64 0] 34 (0, 0))) := ⟨h5_⟩
   have n6_ : Aside0 (w.heap.size ≤ gb352) := ⟨h6_⟩
   have n7_ : Aside0 (w.heap.size ≤ gb352) := ⟨h7_⟩
   have n8_ : Aside0 (gb347 ≠ gb352) := ⟨h8_⟩
   have n9_ : Aside0 (gb352 ≠ gb347) := ⟨h9_⟩
   have n10_ : Aside0 (gb348 ≠ gb352) := ⟨h10_⟩
   have n11_ : Aside0 (gb352 ≠ gb348) := ⟨h11_⟩
   have n12_ : Aside0 (gb349 ≠ gb352) := ⟨h12_⟩
   have n13_ : Aside0 (gb352 ≠ gb349) := ⟨h13_⟩
   have n14_ : Aside0 (gb350 ≠ gb352) := ⟨h14_⟩
   have n15_ : Aside0 (gb352 ≠ gb350) := ⟨h15_⟩
   have n16_ : Aside0 (Below w.heap.size w w43) := ⟨h16_⟩
   clear HO_8
   clear BK347
   clear BK348
   clear BK349
   clear BK350
   clear HB
   clear h0_ h1_ h2_ h3_ h4_ h5_ h6_ h7_ h8_ h9_ h10_ h11_ h12_ h13_ h14_ h15_ h16_
   have HO_8 := n0_
   have BK347 := n1_
   have BK348 := n2_
   have BK349 := n3_
   have BK350 := n4_
   have BK352 := n5_
   have GW352 := n6_
   have GE352 := n7_
   have NB347_352 := n8_
   have NB352_347 := n9_
   have NB348_352 := n10_
   have NB352_348 := n11_
   have NB349_352 := n12_
   have NB352_349 := n13_
   have NB350_352 := n14_
   have NB352_350 := n15_
   have HB := n16_
   clear n0_ n1_ n2_ n3_ n4_ n5_ n6_ n7_ n8_ n9_ n10_ n11_ n12_ n13_ n14_ n15_ n16_
   have hHeld : w43.cell? ⟨gb347, 0, none⟩ = some (.slice A0_0 l0_0.length c0_0) ∧ w43.cell? ⟨gb347, 1, none⟩ = some (.slice A0_1 l0_1.length c0_1) ∧ w43.cell? ⟨gb348, 0, none⟩ = some (.int .i64 a2_0) ∧ w43.cell? ⟨gb348, 1, none⟩ = some (.string a2_1) ∧ w43.cell? ⟨gb348, 2, none⟩ = some (.string a2_2) ∧ w43.cell? ⟨gb348, 3, none⟩ = some (.int .i64 a2_3) := hS_
   refine norm_ (a' := ?_) ?_ ?_
   rotate_left
   ·
    simp only [putAll, Act.put, List.setIfInBounds_toArray, List.set_cons_zero, List.set_cons_succ]
    rfl
   refine one_ (i := 15) (N := none) (fl 16 16) rfl rfl (one_of HT_.out (by kernel_rfl)) (by decide) (fun K hK => ?_)
   have hs44 : w43.cell? ⟨gb352, 0, none⟩ = some (.int .i64 0) := (blk_cell BK352.out 0).trans rfl
   have hfs44 := blk_frozen BK352.out 0
   have hns44_0 := NB347_352.out
   have hns44_1 := NB348_352.out
   have hns44_2 := NB349_352.out
   have hns44_3 := NB350_352.out
   have hms44_0 := NB352_347.out
   have hms44_1 := NB352_348.out
   have hms44_2 := NB352_349.out
   have hms44_3 := NB352_350.out
   have hs45 : w43.cell? ⟨gb352, 1, none⟩ = some (.int .i64 0) := (blk_cell BK352.out 1).trans rfl
   have hfs45 := blk_frozen BK352.out 1
   have hns45_0 := NB347_352.out
   have hns45_1 := NB348_352.out
   have hns45_2 := NB349_352.out
   have hns45_3 := NB350_352.out
   have hms45_0 := NB352_347.out
   have hms45_1 := NB352_348.out
   have hms45_2 := NB352_349.out
   have hms45_3 := NB352_350.out
   have hs46 : w43.cell? ⟨gb352, 2, none⟩ = some (.string (⟨#[]⟩ : ByteArray)) := (blk_cell BK352.out 2).trans rfl
   have hfs46 := blk_frozen BK352.out 2
   have hns46_0 := NB347_352.out
   have hns46_1 := NB348_352.out
   have hns46_2 := NB349_352.out
   have hns46_3 := NB350_352.out
   have hms46_0 := NB352_347.out
   have hms46_1 := NB352_348.out
   have hms46_2 := NB352_349.out
   have hms46_3 := NB352_350.out
   have hs47 : w43.cell? ⟨gb352, 3, none⟩ = some (.int .i64 0) := (blk_cell BK352.out 3).trans rfl
   have hfs47 := blk_frozen BK352.out 3
   have hns47_0 := NB347_352.out
   have hns47_1 := NB348_352.out
   have hns47_2 := NB349_352.out
   have hns47_3 := NB350_352.out
   have hms47_0 := NB352_347.out
   have hms47_1 := NB352_348.out
   have hms47_2 := NB352_349.out
   have hms47_3 := NB352_350.out
   have hs48 : w43.cell? ⟨gb352, 4, none⟩ = some (.string (⟨#[]⟩ : ByteArray)) := (blk_cell BK352.out 4).trans rfl
   have hfs48 := blk_frozen BK352.out 4
   have hns48_0 := NB347_352.out
   have hns48_1 := NB348_352.out
   have hns48_2 := NB349_352.out
   have hns48_3 := NB350_352.out
   have hms48_0 := NB352_347.out
   have hms48_1 := NB352_348.out
   have hms48_2 := NB352_349.out
   have hms48_3 := NB352_350.out
   have hs49 : w43.cell? ⟨gb352, 5, none⟩ = some (.int .i64 0) := (blk_cell BK352.out 5).trans rfl
   have hfs49 := blk_frozen BK352.out 5
   have hns49_0 := NB347_352.out
   have hns49_1 := NB348_352.out
   have hns49_2 := NB349_352.out
   have hns49_3 := NB350_352.out
   have hms49_0 := NB352_347.out
   have hms49_1 := NB352_348.out
   have hms49_2 := NB352_349.out
   have hms49_3 := NB352_350.out
   refine skip_ (w1 := ?_) (by rfl) rfl ?_ ?_
   rotate_left
   ·
    go_simp
    rfl
   refine hK.out _ _ ⟨((cell_far (p := ⟨gb352, _, none⟩) NB347_352.out _).trans (((cell_far (p := ⟨gb352, _, none⟩) NB347_352.out _).trans (((cell_far (p := ⟨gb352, _, none⟩) NB347_352.out _).trans (((cell_far (p := ⟨gb352, _, none⟩) NB347_352.out _).trans (((cell_far (p := ⟨gb352, _, none⟩) NB347_352.out _).trans (((cell_far (p := ⟨gb352, _, none⟩) NB347_352.out _).trans (hHeld.1)))))))))))), ((cell_far (p := ⟨gb352, _, none⟩) NB347_352.out _).trans (((cell_far (p := ⟨gb352, _, none⟩) NB347_352.out _).trans (((cell_far (p := ⟨gb352, _, none⟩) NB347_352.out _).trans (((cell_far (p := ⟨gb352, _, none⟩) NB347_352.out _).trans (((cell_far (p := ⟨gb352, _, none⟩) NB347_352.out _).trans (((cell_far (p := ⟨gb352, _, none⟩) NB347_352.out _).trans (hHeld.2.1)))))))))))), ((cell_far (p := ⟨gb352, _, none⟩) NB348_352.out _).trans (((cell_far (p := ⟨gb352, _, none⟩) NB348_352.out _).trans (((cell_far (p := ⟨gb352, _, none⟩) NB348_352.out _).trans (((cell_far (p := ⟨gb352, _, none⟩) NB348_352.out _).trans (((cell_far (p := ⟨gb352, _, none⟩) NB348_352.out _).trans (((cell_far (p := ⟨gb352, _, none⟩) NB348_352.out _).trans (hHeld.2.2.1)))))))))))), ((cell_far (p := ⟨gb352, _, none⟩) NB348_352.out _).trans (((cell_far (p := ⟨gb352, _, none⟩) NB348_352.out _).trans (((cell_far (p := ⟨gb352, _, none⟩) NB348_352.out _).trans (((cell_far (p := ⟨gb352, _, none⟩) NB348_352.out _).trans (((cell_far (p := ⟨gb352, _, none⟩) NB348_352.out _).trans (((cell_far (p := ⟨gb352, _, none⟩) NB348_352.out _).trans (hHeld.2.2.2.1)))))))))))), ((cell_far (p := ⟨gb352, _, none⟩) NB348_352.out _).trans (((cell_far (p := ⟨gb352, _, none⟩) NB348_352.out _).trans (((cell_far (p := ⟨gb352, _, none⟩) NB348_352.out _).trans (((cell_far (p := ⟨gb352, _, none⟩) NB348_352.out _).trans (((cell_far (p := ⟨gb352, _, none⟩) NB348_352.out _).trans (((cell_far (p := ⟨gb352, _, none⟩) NB348_352.out _).trans (hHeld.2.2.2.2.1)))))))))))), ((cell_far (p := ⟨gb352, _, none⟩) NB348_352.out _).trans (((cell_far (p := ⟨gb352, _, none⟩) NB348_352.out _).trans (((cell_far (p := ⟨gb352, _, none⟩) NB348_352.out _).trans (((cell_far (p := ⟨gb352, _, none⟩) NB348_352.out _).trans (((cell_far (p := ⟨gb352, _, none⟩) NB348_352.out _).trans (((cell_far (p := ⟨gb352, _, none⟩) NB348_352.out _).trans (hHeld.2.2.2.2.2))))))))))))⟩ (fun hHeld => ?_)
   clear hK K
   refine done_ (done_of HT_.out (by kernel_rfl)) ?_
   have hnb50 := NB348_352.out
   have hnc50 := NB352_348.out
   have hcz51_0 : w43.cell? ⟨gb348, 0, none⟩ = some (.int .i64 a2_0) := (blk_cell BK348.out 0).trans rfl
   have hcz51_1 : w43.cell? ⟨gb348, 1, none⟩ = some (.string a2_1) := (blk_cell BK348.out 1).trans rfl
   have hcz51_2 : w43.cell? ⟨gb348, 2, none⟩ = some (.string a2_2) := (blk_cell BK348.out 2).trans rfl
   have hcz51_3 : w43.cell? ⟨gb348, 3, none⟩ = some (.int .i64 a2_3) := (blk_cell BK348.out 3).trans rfl
   have hfz51_0 := blk_frozen BK348.out 0
   have hfz51_1 := blk_frozen BK348.out 1
   have hfz51_2 := blk_frozen BK348.out 2
   have hfz51_3 := blk_frozen BK348.out 3
   have hnb52 := NB352_347.out
   have hnc52 := NB347_352.out
   have hnb53 := NB352_349.out
   have hnc53 := NB349_352.out
   have hnb54 := NB352_350.out
   have hnc54 := NB350_352.out
   have hcz55_0 : w43.cell? ⟨gb352, 0, none⟩ = some (.int .i64 0) := (blk_cell BK352.out 0).trans rfl
   have hcz55_1 : w43.cell? ⟨gb352, 1, none⟩ = some (.int .i64 0) := (blk_cell BK352.out 1).trans rfl
   have hcz55_2 : w43.cell? ⟨gb352, 2, none⟩ = some (.string (⟨#[]⟩ : ByteArray)) := (blk_cell BK352.out 2).trans rfl
   have hcz55_3 : w43.cell? ⟨gb352, 3, none⟩ = some (.int .i64 0) := (blk_cell BK352.out 3).trans rfl
   have hcz55_4 : w43.cell? ⟨gb352, 4, none⟩ = some (.string (⟨#[]⟩ : ByteArray)) := (blk_cell BK352.out 4).trans rfl
   have hcz55_5 : w43.cell? ⟨gb352, 5, none⟩ = some (.int .i64 0) := (blk_cell BK352.out 5).trans rfl
   have hfz55_0 := blk_frozen BK352.out 0
   have hfz55_1 := blk_frozen BK352.out 1
   have hfz55_2 := blk_frozen BK352.out 2
   have hfz55_3 := blk_frozen BK352.out 3
   have hfz55_4 := blk_frozen BK352.out 4
   have hfz55_5 := blk_frozen BK352.out 5
   try go_wp2_with (first | ((with_reducible refine gate_builtin (b := .append) (xs := #[.tmp 165, .tmp 168]) rfl ?_); (try (refine gate_guard (by rfl) ?_; dsimp only)); at_builtin; refine Kd.R_append k32 (w0 := w) w.heap.size rfl (.tmp 165) (.tmp 168) 60 32 (.agg #[(.int .i64 0), (.int .i64 0)]) 16 rfl Try.underlying60 info32 rfl (by decide) (by omega) (.slice Ao34 x8_1.length co34) x8_1 (⟨a1, wrap64 (t351 + 1)⟩ : S32) [.int .i64 a1, .int .i64 (wrap64 (t351 + 1))] (fun _ => True) (fun _ => False) rfl (by first | (go_simp; done) | (go_simp; rfl)) ?aP (fun _ hk => hk.elim) ?aF ?aO ?aB ?aS ?aL ?_; (case aP => exact k32_mkM _ _ _ (⟨a1, wrap64 (t351 + 1)⟩ : S32)); (case aB => exact (bw5 HB.out GE347.out GE348.out GE349.out GE350.out GE352.out)); (case aF => exact (fun _ _ => trivial)); (case aO => exact (by (with_reducible repeat (first | apply Kd.R_alloc | apply Kd.R_drewN | apply Kd.R_drew)); exact Kd.R_mono (Kd.R_far (p := ⟨gb352, 5, none⟩) (Kd.R_far (p := ⟨gb352, 4, none⟩) (Kd.R_far (p := ⟨gb352, 3, none⟩) (Kd.R_far (p := ⟨gb352, 2, none⟩) (Kd.R_far (p := ⟨gb352, 1, none⟩) (Kd.R_far (p := ⟨gb352, 0, none⟩) (Kd.R_types HO_8.out BK352.out (by decide)) (fun _ hk => hk.2) (.int .i64 a1)) (fun _ hk => hk.2) (.int .i64 (wrap64 (t351 + 1)))) (fun _ hk => hk.2) (.string a2_1)) (fun _ hk => hk.2) (.int .i64 a2_0)) (fun _ hk => hk.2) (.string a2_2)) (fun _ hk => hk.2) (.int .i64 0)) (fun _ hk => trivial))); (case aS => exact (below_size (bw5 HB.out GE347.out GE348.out GE349.out GE350.out GE352.out))); (case aL => have := LMc27.out; omega); intro v354 w56 ho hb hg hat; rw [← Ny353.out] at ho; replace BK347 := Aside0.mk (blk_grown (g := gb347) (o := .cells #[.slice A0_0 l0_0.length c0_0, .slice A0_1 l0_1.length c0_1] 28 (0, 0)) (by (with_reducible repeat (first | refine blk_drewN ?_ _ | refine blk_drew ?_ | refine blk_alloc ?_ _)); refine blk_far ?_ NB347_352.out _; (with_reducible repeat (first | refine blk_drewN ?_ _ | refine blk_drew ?_ | refine blk_alloc ?_ _)); refine blk_far ?_ NB347_352.out _; (with_reducible repeat (first | refine blk_drewN ?_ _ | refine blk_drew ?_ | refine blk_alloc ?_ _)); refine blk_far ?_ NB347_352.out _; (with_reducible repeat (first | refine blk_drewN ?_ _ | refine blk_drew ?_ | refine blk_alloc ?_ _)); refine blk_far ?_ NB347_352.out _; (with_reducible repeat (first | refine blk_drewN ?_ _ | refine blk_drew ?_ | refine blk_alloc ?_ _)); refine blk_far ?_ NB347_352.out _; (with_reducible repeat (first | refine blk_drewN ?_ _ | refine blk_drew ?_ | refine blk_alloc ?_ _)); refine blk_far ?_ NB347_352.out _; (with_reducible repeat (first | refine blk_drewN ?_ _ | refine blk_drew ?_ | refine blk_alloc ?_ _)); exact BK347.out) hg (Kd.R_ne HO_8.out BK347.out (by decide))); replace BK348 := Aside0.mk (blk_grown (g := gb348) (o := .cells #[.int .i64 a2_0, .string a2_1, .string a2_2, .int .i64 a2_3] 40 (0, 0)) (by (with_reducible repeat (first | refine blk_drewN ?_ _ | refine blk_drew ?_ | refine blk_alloc ?_ _)); refine blk_far ?_ NB348_352.out _; (with_reducible repeat (first | refine blk_drewN ?_ _ | refine blk_drew ?_ | refine blk_alloc ?_ _)); refine blk_far ?_ NB348_352.out _; (with_reducible repeat (first | refine blk_drewN ?_ _ | refine blk_drew ?_ | refine blk_alloc ?_ _)); refine blk_far ?_ NB348_352.out _; (with_reducible repeat (first | refine blk_drewN ?_ _ | refine blk_drew ?_ | refine blk_alloc ?_ _)); refine blk_far ?_ NB348_352.out _; (with_reducible repeat (first | refine blk_drewN ?_ _ | refine blk_drew ?_ | refine blk_alloc ?_ _)); refine blk_far ?_ NB348_352.out _; (with_reducible repeat (first | refine blk_drewN ?_ _ | refine blk_drew ?_ | refine blk_alloc ?_ _)); refine blk_far ?_ NB348_352.out _; (with_reducible repeat (first | refine blk_drewN ?_ _ | refine blk_drew ?_ | refine blk_alloc ?_ _)); exact BK348.out) hg (Kd.R_ne HO_8.out BK348.out (by decide))); replace BK349 := Aside0.mk (blk_grown (g := gb349) (o := .cells #[.slice none 0 0, .slice none 0 0, .int .i64 0] 43 (0, 0)) (by (with_reducible repeat (first | refine blk_drewN ?_ _ | refine blk_drew ?_ | refine blk_alloc ?_ _)); refine blk_far ?_ NB349_352.out _; (with_reducible repeat (first | refine blk_drewN ?_ _ | refine blk_drew ?_ | refine blk_alloc ?_ _)); refine blk_far ?_ NB349_352.out _; (with_reducible repeat (first | refine blk_drewN ?_ _ | refine blk_drew ?_ | refine blk_alloc ?_ _)); refine blk_far ?_ NB349_352.out _; (with_reducible repeat (first | refine blk_drewN ?_ _ | refine blk_drew ?_ | refine blk_alloc ?_ _)); refine blk_far ?_ NB349_352.out _; (with_reducible repeat (first | refine blk_drewN ?_ _ | refine blk_drew ?_ | refine blk_alloc ?_ _)); refine blk_far ?_ NB349_352.out _; (with_reducible repeat (first | refine blk_drewN ?_ _ | refine blk_drew ?_ | refine blk_alloc ?_ _)); refine blk_far ?_ NB349_352.out _; (with_reducible repeat (first | refine blk_drewN ?_ _ | refine blk_drew ?_ | refine blk_alloc ?_ _)); exact BK349.out) hg (Kd.R_ne HO_8.out BK349.out (by decide))); replace BK350 := Aside0.mk (blk_grown (g := gb350) (o := .cells #[.slice none 0 0, .slice none 0 0] 28 (0, 0)) (by (with_reducible repeat (first | refine blk_drewN ?_ _ | refine blk_drew ?_ | refine blk_alloc ?_ _)); refine blk_far ?_ NB350_352.out _; (with_reducible repeat (first | refine blk_drewN ?_ _ | refine blk_drew ?_ | refine blk_alloc ?_ _)); refine blk_far ?_ NB350_352.out _; (with_reducible repeat (first | refine blk_drewN ?_ _ | refine blk_drew ?_ | refine blk_alloc ?_ _)); refine blk_far ?_ NB350_352.out _; (with_reducible repeat (first | refine blk_drewN ?_ _ | refine blk_drew ?_ | refine blk_alloc ?_ _)); refine blk_far ?_ NB350_352.out _; (with_reducible repeat (first | refine blk_drewN ?_ _ | refine blk_drew ?_ | refine blk_alloc ?_ _)); refine blk_far ?_ NB350_352.out _; (with_reducible repeat (first | refine blk_drewN ?_ _ | refine blk_drew ?_ | refine blk_alloc ?_ _)); refine blk_far ?_ NB350_352.out _; (with_reducible repeat (first | refine blk_drewN ?_ _ | refine blk_drew ?_ | refine blk_alloc ?_ _)); exact BK350.out) hg (Kd.R_ne HO_8.out BK350.out (by decide))); replace BK352 := Aside0.mk (blk_grown (g := gb352) (o := .cells #[.int .i64 a1, .int .i64 (wrap64 (t351 + 1)), .string a2_1, .int .i64 a2_0, .string a2_2, .int .i64 0] 34 (0, 0)) (by (with_reducible repeat (first | refine blk_drewN ?_ _ | refine blk_drew ?_ | refine blk_alloc ?_ _)); refine blk_put (cs := #[.int .i64 a1, .int .i64 (wrap64 (t351 + 1)), .string a2_1, .int .i64 a2_0, .string a2_2, .int .i64 0]) ?_ 5 _ rfl; (with_reducible repeat (first | refine blk_drewN ?_ _ | refine blk_drew ?_ | refine blk_alloc ?_ _)); refine blk_put (cs := #[.int .i64 a1, .int .i64 (wrap64 (t351 + 1)), .string a2_1, .int .i64 a2_0, .string (⟨#[]⟩ : ByteArray), .int .i64 0]) ?_ 4 _ rfl; (with_reducible repeat (first | refine blk_drewN ?_ _ | refine blk_drew ?_ | refine blk_alloc ?_ _)); refine blk_put (cs := #[.int .i64 a1, .int .i64 (wrap64 (t351 + 1)), .string a2_1, .int .i64 0, .string (⟨#[]⟩ : ByteArray), .int .i64 0]) ?_ 3 _ rfl; (with_reducible repeat (first | refine blk_drewN ?_ _ | refine blk_drew ?_ | refine blk_alloc ?_ _)); refine blk_put (cs := #[.int .i64 a1, .int .i64 (wrap64 (t351 + 1)), .string (⟨#[]⟩ : ByteArray), .int .i64 0, .string (⟨#[]⟩ : ByteArray), .int .i64 0]) ?_ 2 _ rfl; (with_reducible repeat (first | refine blk_drewN ?_ _ | refine blk_drew ?_ | refine blk_alloc ?_ _)); refine blk_put (cs := #[.int .i64 a1, .int .i64 0, .string (⟨#[]⟩ : ByteArray), .int .i64 0, .string (⟨#[]⟩ : ByteArray), .int .i64 0]) ?_ 1 _ rfl; (with_reducible repeat (first | refine blk_drewN ?_ _ | refine blk_drew ?_ | refine blk_alloc ?_ _)); refine blk_put (cs := #[.int .i64 0, .int .i64 0, .string (⟨#[]⟩ : ByteArray), .int .i64 0, .string (⟨#[]⟩ : ByteArray), .int .i64 0]) ?_ 0 _ rfl; (with_reducible repeat (first | refine blk_drewN ?_ _ | refine blk_drew ?_ | refine blk_alloc ?_ _)); exact BK352.out) hg (Kd.R_ne HO_8.out BK352.out (by decide))); replace HB := Aside0.mk (hb); have HO355 := Aside0.mk (ho); clear HO_8; clear ho hb hg hat; have hcz57_0 : w56.cell? ⟨gb352, 0, none⟩ = some (.int .i64 a1) := (blk_cell BK352.out 0).trans rfl; have hcz57_1 : w56.cell? ⟨gb352, 1, none⟩ = some (.int .i64 (wrap64 (t351 + 1))) := (blk_cell BK352.out 1).trans rfl; have hcz57_2 : w56.cell? ⟨gb352, 2, none⟩ = some (.string a2_1) := (blk_cell BK352.out 2).trans rfl; have hcz57_3 : w56.cell? ⟨gb352, 3, none⟩ = some (.int .i64 a2_0) := (blk_cell BK352.out 3).trans rfl; have hcz57_4 : w56.cell? ⟨gb352, 4, none⟩ = some (.string a2_2) := (blk_cell BK352.out 4).trans rfl; have hcz57_5 : w56.cell? ⟨gb352, 5, none⟩ = some (.int .i64 0) := (blk_cell BK352.out 5).trans rfl; have hfz57_0 := blk_frozen BK352.out 0; have hfz57_1 := blk_frozen BK352.out 1; have hfz57_2 := blk_frozen BK352.out 2; have hfz57_3 := blk_frozen BK352.out 3; have hfz57_4 := blk_frozen BK352.out 4; have hfz57_5 := blk_frozen BK352.out 5) | ((with_reducible refine gate_dst (N := 171) rfl ?_); (try (refine gate_guard (by rfl) ?_; dsimp only)); refine Kd.R_lit k34 _ 34 ?hg (N := 171) ?hd (xs := ([(⟨(⟨a1, wrap64 (t351 + 1)⟩ : S32), a2_1, a2_0, a2_2, 0⟩ : S34)] : List (S34))) (inner := [.int .i64 a1, .int .i64 (wrap64 (t351 + 1)), .string a2_1, .int .i64 a2_0, .string a2_2, .int .i64 0]) (ok := fun _ => True) (okp := fun _ => True) ?hr ?hp (fun _ hk => hk) trivial (Below.refl _ _) (Nat.le_refl _) (by simp) ?_; (case hd => rfl); (case hg => rfl); (case hr => first | (go_simp; done) | (go_simp; rfl)); (case hp => exact (Reps.c6 (show Kd.M k34 _ _ _ (⟨(⟨a1, wrap64 (t351 + 1)⟩ : S32), a2_1, a2_0, a2_2, 0⟩ : S34) [.int .i64 a1, .int .i64 (wrap64 (t351 + 1)), .string a2_1, .int .i64 a2_0, .string a2_2, .int .i64 0] from (k34_mkM _ _ _ (⟨(⟨a1, wrap64 (t351 + 1)⟩ : S32), a2_1, a2_0, a2_2, 0⟩ : S34) )) (Reps.none _ _))); intro v357 w58 ho59 hb hg_ hnew_; clear hg_ hnew_; (first | rw [← Ny356.out] at ho59 | (simp only [Int.reduceToNat] at ho59; rw [← Ny356.out] at ho59)); replace HO355 := Aside0.mk (Kd.R_below (rk HO355.out) hb); have HO358 := Aside0.mk (Kd.R_lower (Kd.R_newB ho59 (g := gb352) (o := .cells #[.int .i64 a1, .int .i64 (wrap64 (t351 + 1)), .string a2_1, .int .i64 a2_0, .string a2_2, .int .i64 0] 34 (0, 0)) (bk BK352.out)) (below_size (bw5 HB.out GE347.out GE348.out GE349.out GE350.out GE352.out))); replace BK347 := Aside0.mk (blk_below (g := gb347) (o := .cells #[.slice A0_0 l0_0.length c0_0, .slice A0_1 l0_1.length c0_1] 28 (0, 0)) (bk BK347.out) hb); replace BK348 := Aside0.mk (blk_below (g := gb348) (o := .cells #[.int .i64 a2_0, .string a2_1, .string a2_2, .int .i64 a2_3] 40 (0, 0)) (bk BK348.out) hb); replace BK349 := Aside0.mk (blk_below (g := gb349) (o := .cells #[.slice none 0 0, .slice none 0 0, .int .i64 0] 43 (0, 0)) (bk BK349.out) hb); replace BK350 := Aside0.mk (blk_below (g := gb350) (o := .cells #[.slice none 0 0, .slice none 0 0] 28 (0, 0)) (bk BK350.out) hb); replace BK352 := Aside0.mk (blk_below (g := gb352) (o := .cells #[.int .i64 a1, .int .i64 (wrap64 (t351 + 1)), .string a2_1, .int .i64 a2_0, .string a2_2, .int .i64 0] 34 (0, 0)) (bk BK352.out) hb); replace HB := Aside0.mk (below_step (bw5 HB.out GE347.out GE348.out GE349.out GE350.out GE352.out) hb); clear hb ho59; obtain ⟨Ao60, co60, eo60⟩ := Kd.R_slice HO358.out; subst eo60; have hnb61 := NB350_347.out; have hnc61 := NB347_350.out; have hnb62 := NB350_349.out; have hnc62 := NB349_350.out; have hcz63_0 : w58.cell? ⟨gb350, 0, none⟩ = some (.slice none 0 0) := (blk_cell BK350.out 0).trans rfl; have hcz63_1 : w58.cell? ⟨gb350, 1, none⟩ = some (.slice none 0 0) := (blk_cell BK350.out 1).trans rfl; have hfz63_0 := blk_frozen BK350.out 0; have hfz63_1 := blk_frozen BK350.out 1; obtain ⟨Ao64, co64, eo64⟩ := Kd.R_slice HO355.out; subst eo64) | ((with_reducible refine gate_callee (f := 31) rfl ?_); refine goesL_ (some 174) rfl rfl Try.func31 (by kernel_rfl) rfl #[.slice Ao64 y353.length co64] rfl ar_ ?_; (with_reducible refine (deaddropref7_Of.calls k1 _ _ y353 t359 _ ?side1 ?side2 A28.out).mono ?_); (case side1 => refine (Kd.R_reads' (e := 32) (base := w.heap.size) (ok := fun k_ => True) (n := y353.length) (c := co64) ?_).2.2; exact (by (with_reducible repeat (first | apply Kd.R_alloc | apply Kd.R_drewN | apply Kd.R_drew)); exact (Kd.R_mono (Kd.R_far (p := ⟨gb350, 1, none⟩) (Kd.R_types HO355.out BK350.out (by decide)) (fun _ hk => hk.2) (.slice Ao60 y356.length co60)) (fun _ h_ => h_.1)))); (case side2 => exact (Kd.R_reads' HO355.out).2.1); rintro e w65 ⟨v360, rfl, ho0, hb⟩; refine ⟨_, rfl, ?_⟩; replace HO355 := Aside0.mk (Kd.R_below (by (with_reducible repeat (first | apply Kd.R_alloc | apply Kd.R_drewN | apply Kd.R_drew)); exact (Kd.R_mono (Kd.R_far (p := ⟨gb350, 1, none⟩) (Kd.R_types HO355.out BK350.out (by decide)) (fun _ hk => hk.2) (.slice Ao60 y356.length co60)) (fun _ h_ => h_.1))) hb); replace HO358 := Aside0.mk (Kd.R_below (by (with_reducible repeat (first | apply Kd.R_alloc | apply Kd.R_drewN | apply Kd.R_drew)); exact (Kd.R_mono (Kd.R_far (p := ⟨gb350, 1, none⟩) (Kd.R_types HO358.out BK350.out (by decide)) (fun _ hk => hk.2) (.slice Ao60 y356.length co60)) (fun _ h_ => h_.1))) hb); have HO361 := Aside0.mk (Kd.R_lower ho0 (below_size (bw5 HB.out GE347.out GE348.out GE349.out GE350.out GE352.out))); replace BK347 := Aside0.mk (blk_below (g := gb347) (o := .cells #[.slice A0_0 l0_0.length c0_0, .slice A0_1 l0_1.length c0_1] 28 (0, 0)) (by (with_reducible repeat (first | refine blk_drewN ?_ _ | refine blk_drew ?_ | refine blk_alloc ?_ _)); refine blk_far ?_ NB347_350.out _; (with_reducible repeat (first | refine blk_drewN ?_ _ | refine blk_drew ?_ | refine blk_alloc ?_ _)); exact BK347.out) hb); replace BK348 := Aside0.mk (blk_below (g := gb348) (o := .cells #[.int .i64 a2_0, .string a2_1, .string a2_2, .int .i64 a2_3] 40 (0, 0)) (by (with_reducible repeat (first | refine blk_drewN ?_ _ | refine blk_drew ?_ | refine blk_alloc ?_ _)); refine blk_far ?_ NB348_350.out _; (with_reducible repeat (first | refine blk_drewN ?_ _ | refine blk_drew ?_ | refine blk_alloc ?_ _)); exact BK348.out) hb); replace BK349 := Aside0.mk (blk_below (g := gb349) (o := .cells #[.slice none 0 0, .slice none 0 0, .int .i64 0] 43 (0, 0)) (by (with_reducible repeat (first | refine blk_drewN ?_ _ | refine blk_drew ?_ | refine blk_alloc ?_ _)); refine blk_far ?_ NB349_350.out _; (with_reducible repeat (first | refine blk_drewN ?_ _ | refine blk_drew ?_ | refine blk_alloc ?_ _)); exact BK349.out) hb); replace BK350 := Aside0.mk (blk_below (g := gb350) (o := .cells #[.slice none 0 0, .slice Ao60 y356.length co60] 28 (0, 0)) (by (with_reducible repeat (first | refine blk_drewN ?_ _ | refine blk_drew ?_ | refine blk_alloc ?_ _)); refine blk_put (cs := #[.slice none 0 0, .slice none 0 0]) ?_ 1 _ rfl; (with_reducible repeat (first | refine blk_drewN ?_ _ | refine blk_drew ?_ | refine blk_alloc ?_ _)); exact BK350.out) hb); replace BK352 := Aside0.mk (blk_below (g := gb352) (o := .cells #[.int .i64 a1, .int .i64 (wrap64 (t351 + 1)), .string a2_1, .int .i64 a2_0, .string a2_2, .int .i64 0] 34 (0, 0)) (by (with_reducible repeat (first | refine blk_drewN ?_ _ | refine blk_drew ?_ | refine blk_alloc ?_ _)); refine blk_far ?_ NB352_350.out _; (with_reducible repeat (first | refine blk_drewN ?_ _ | refine blk_drew ?_ | refine blk_alloc ?_ _)); exact BK352.out) hb); replace HB := Aside0.mk (below_step (bw5 HB.out GE347.out GE348.out GE349.out GE350.out GE352.out) hb); (try clear hb); (try clear hb2); (try clear hk); (try clear hi); (try clear ho0); obtain ⟨Ao66, co66, eo66⟩ := Kd.R_slice HO361.out; subst eo66; have hcz67_0 : w65.cell? ⟨gb350, 0, none⟩ = some (.slice none 0 0) := (blk_cell BK350.out 0).trans rfl; have hcz67_1 : w65.cell? ⟨gb350, 1, none⟩ = some (.slice Ao60 y356.length co60) := (blk_cell BK350.out 1).trans rfl; have hfz67_0 := blk_frozen BK350.out 0; have hfz67_1 := blk_frozen BK350.out 1; have hcz68_0 : w65.cell? ⟨gb347, 0, none⟩ = some (.slice A0_0 l0_0.length c0_0) := (blk_cell BK347.out 0).trans rfl; have hcz68_1 : w65.cell? ⟨gb347, 1, none⟩ = some (.slice A0_1 l0_1.length c0_1) := (blk_cell BK347.out 1).trans rfl; have hfz68_0 := blk_frozen BK347.out 0; have hfz68_1 := blk_frozen BK347.out 1) | ((with_reducible refine gate_callee (f := 8) rfl ?_); refine goesL_ (some 178) rfl rfl Try.func8 (by kernel_rfl) rfl #[.agg #[.slice A0_0 l0_0.length c0_0, .slice A0_1 l0_1.length c0_1], .agg #[.slice Ao66 t359.length co66, .slice Ao60 y356.length co60]] rfl ar_ ?_; (with_reducible refine (deaddropref7_Join.calls k1 _ _ l0_0 _ _ l0_1 _ _ t359 _ _ y356 t362 t365 _ ?side1 ?side2 ?side3 ?side4 ?side5 ?side6 ?side7 ?side8 A29.out).mono ?_); (case side1 => exact Kd.C_below HR0_0.out (bw5 HB.out GE347.out GE348.out GE349.out GE350.out GE352.out)); (case side2 => exact HC0_0.out); (case side3 => exact Kd.C_below HR0_1.out (bw5 HB.out GE347.out GE348.out GE349.out GE350.out GE352.out)); (case side4 => exact HC0_1.out); (case side5 => refine (Kd.R_reads' (e := 70) (base := w.heap.size) (ok := fun k_ => True) (n := t359.length) (c := co66) ?_).2.2; exact (by (with_reducible repeat (first | apply Kd.R_alloc | apply Kd.R_drewN | apply Kd.R_drew)); exact (Kd.R_mono (Kd.R_far (p := ⟨gb350, 0, none⟩) (Kd.R_types HO361.out BK350.out (by decide)) (fun _ hk => hk.2) (.slice Ao66 t359.length co66)) (fun _ h_ => h_.1)))); (case side6 => exact (Kd.R_reads' HO361.out).2.1); (case side7 => refine (Kd.R_reads' (e := 34) (base := w.heap.size) (ok := fun k_ => (True ∧ k_ ≠ gb352)) (n := y356.length) (c := co60) ?_).2.2; exact (by (with_reducible repeat (first | apply Kd.R_alloc | apply Kd.R_drewN | apply Kd.R_drew)); exact (Kd.R_mono (Kd.R_far (p := ⟨gb350, 0, none⟩) (Kd.R_types HO358.out BK350.out (by decide)) (fun _ hk => hk.2) (.slice Ao66 t359.length co66)) (fun _ h_ => h_.1)))); (case side8 => exact (Kd.R_reads' HO358.out).2.1); rintro e w69 ⟨v363, v366, rfl, ho0, ho1, hb⟩; refine ⟨_, rfl, ?_⟩; replace HO355 := Aside0.mk (Kd.R_below (by (with_reducible repeat (first | apply Kd.R_alloc | apply Kd.R_drewN | apply Kd.R_drew)); exact (Kd.R_mono (Kd.R_far (p := ⟨gb350, 0, none⟩) (Kd.R_types HO355.out BK350.out (by decide)) (fun _ hk => hk.2) (.slice Ao66 t359.length co66)) (fun _ h_ => h_.1))) hb); have HO364 := Aside0.mk (Kd.R_lower (Kd.R_new' ho0 (Kd.R_lt (by (with_reducible repeat (first | apply Kd.R_alloc | apply Kd.R_drewN | apply Kd.R_drew)); exact (Kd.R_mono (Kd.R_far (p := ⟨gb350, 0, none⟩) (Kd.R_types HO361.out BK350.out (by decide)) (fun _ hk => hk.2) (.slice Ao66 t359.length co66)) (fun _ h_ => h_.1))))) (below_size (bw5 HB.out GE347.out GE348.out GE349.out GE350.out GE352.out))); replace HO361 := Aside0.mk (Kd.R_elder' (by (with_reducible repeat (first | apply Kd.R_alloc | apply Kd.R_drewN | apply Kd.R_drew)); exact (Kd.R_mono (Kd.R_far (p := ⟨gb350, 0, none⟩) (Kd.R_types HO361.out BK350.out (by decide)) (fun _ hk => hk.2) (.slice Ao66 t359.length co66)) (fun _ h_ => h_.1))) (Kd.R_base ho0) hb); have HO367 := Aside0.mk (Kd.R_lower (Kd.R_newB (Kd.R_new' ho1 (Kd.R_lt (by (with_reducible repeat (first | apply Kd.R_alloc | apply Kd.R_drewN | apply Kd.R_drew)); exact (Kd.R_mono (Kd.R_far (p := ⟨gb350, 0, none⟩) (Kd.R_types HO358.out BK350.out (by decide)) (fun _ hk => hk.2) (.slice Ao66 t359.length co66)) (fun _ h_ => h_.1))))) (g := gb352) (o := .cells #[.int .i64 a1, .int .i64 (wrap64 (t351 + 1)), .string a2_1, .int .i64 a2_0, .string a2_2, .int .i64 0] 34 (0, 0)) (by (with_reducible repeat (first | refine blk_drewN ?_ _ | refine blk_drew ?_ | refine blk_alloc ?_ _)); refine blk_far ?_ NB352_350.out _; (with_reducible repeat (first | refine blk_drewN ?_ _ | refine blk_drew ?_ | refine blk_alloc ?_ _)); exact BK352.out)) (below_size (bw5 HB.out GE347.out GE348.out GE349.out GE350.out GE352.out))); replace HO358 := Aside0.mk (Kd.R_elder' (by (with_reducible repeat (first | apply Kd.R_alloc | apply Kd.R_drewN | apply Kd.R_drew)); exact (Kd.R_mono (Kd.R_far (p := ⟨gb350, 0, none⟩) (Kd.R_types HO358.out BK350.out (by decide)) (fun _ hk => hk.2) (.slice Ao66 t359.length co66)) (fun _ h_ => h_.1))) (Kd.R_base ho1) hb); replace BK347 := Aside0.mk (blk_below (g := gb347) (o := .cells #[.slice A0_0 l0_0.length c0_0, .slice A0_1 l0_1.length c0_1] 28 (0, 0)) (by (with_reducible repeat (first | refine blk_drewN ?_ _ | refine blk_drew ?_ | refine blk_alloc ?_ _)); refine blk_far ?_ NB347_350.out _; (with_reducible repeat (first | refine blk_drewN ?_ _ | refine blk_drew ?_ | refine blk_alloc ?_ _)); exact BK347.out) hb); replace BK348 := Aside0.mk (blk_below (g := gb348) (o := .cells #[.int .i64 a2_0, .string a2_1, .string a2_2, .int .i64 a2_3] 40 (0, 0)) (by (with_reducible repeat (first | refine blk_drewN ?_ _ | refine blk_drew ?_ | refine blk_alloc ?_ _)); refine blk_far ?_ NB348_350.out _; (with_reducible repeat (first | refine blk_drewN ?_ _ | refine blk_drew ?_ | refine blk_alloc ?_ _)); exact BK348.out) hb); replace BK349 := Aside0.mk (blk_below (g := gb349) (o := .cells #[.slice none 0 0, .slice none 0 0, .int .i64 0] 43 (0, 0)) (by (with_reducible repeat (first | refine blk_drewN ?_ _ | refine blk_drew ?_ | refine blk_alloc ?_ _)); refine blk_far ?_ NB349_350.out _; (with_reducible repeat (first | refine blk_drewN ?_ _ | refine blk_drew ?_ | refine blk_alloc ?_ _)); exact BK349.out) hb); replace BK350 := Aside0.mk (blk_below (g := gb350) (o := .cells #[.slice Ao66 t359.length co66, .slice Ao60 y356.length co60] 28 (0, 0)) (by (with_reducible repeat (first | refine blk_drewN ?_ _ | refine blk_drew ?_ | refine blk_alloc ?_ _)); refine blk_put (cs := #[.slice none 0 0, .slice Ao60 y356.length co60]) ?_ 0 _ rfl; (with_reducible repeat (first | refine blk_drewN ?_ _ | refine blk_drew ?_ | refine blk_alloc ?_ _)); exact BK350.out) hb); replace BK352 := Aside0.mk (blk_below (g := gb352) (o := .cells #[.int .i64 a1, .int .i64 (wrap64 (t351 + 1)), .string a2_1, .int .i64 a2_0, .string a2_2, .int .i64 0] 34 (0, 0)) (by (with_reducible repeat (first | refine blk_drewN ?_ _ | refine blk_drew ?_ | refine blk_alloc ?_ _)); refine blk_far ?_ NB352_350.out _; (with_reducible repeat (first | refine blk_drewN ?_ _ | refine blk_drew ?_ | refine blk_alloc ?_ _)); exact BK352.out) hb); replace HB := Aside0.mk (below_step (bw5 HB.out GE347.out GE348.out GE349.out GE350.out GE352.out) hb); (try clear hb); (try clear hb2); (try clear hk); (try clear hi); (try clear ho0); (try clear ho1); obtain ⟨Ao70, co70, eo70⟩ := Kd.R_slice HO367.out; subst eo70; have hcz71_0 : w69.cell? ⟨gb350, 0, none⟩ = some (.slice Ao66 t359.length co66) := (blk_cell BK350.out 0).trans rfl; have hcz71_1 : w69.cell? ⟨gb350, 1, none⟩ = some (.slice Ao60 y356.length co60) := (blk_cell BK350.out 1).trans rfl; have hfz71_0 := blk_frozen BK350.out 0; have hfz71_1 := blk_frozen BK350.out 1; have hcz72_0 : w69.cell? ⟨gb349, 0, none⟩ = some (.slice none 0 0) := (blk_cell BK349.out 0).trans rfl; have hcz72_1 : w69.cell? ⟨gb349, 1, none⟩ = some (.slice none 0 0) := (blk_cell BK349.out 1).trans rfl; have hcz72_2 : w69.cell? ⟨gb349, 2, none⟩ = some (.int .i64 0) := (blk_cell BK349.out 2).trans rfl; have hfz72_0 := blk_frozen BK349.out 0; have hfz72_1 := blk_frozen BK349.out 1; have hfz72_2 := blk_frozen BK349.out 2))
   refine bodyPost_ret (results_cell_row rfl _ _ gb349 43 #[.slice Ao66 t359.length co66, .slice Ao60 y356.length co60, .int .i64 0] (0, 0) _ rfl (by (with_reducible repeat (first | refine blk_drewN ?_ _ | refine blk_drew ?_ | refine blk_alloc ?_ _)); refine blk_put (cs := #[.slice Ao66 t359.length co66, .slice Ao60 y356.length co60, .int .i64 0]) ?_ 2 _ rfl; (with_reducible repeat (first | refine blk_drewN ?_ _ | refine blk_drew ?_ | refine blk_alloc ?_ _)); refine blk_put (cs := #[.slice Ao66 t359.length co66, .slice none 0 0, .int .i64 0]) ?_ 1 _ rfl; (with_reducible repeat (first | refine blk_drewN ?_ _ | refine blk_drew ?_ | refine blk_alloc ?_ _)); refine blk_put (cs := #[.slice none 0 0, .slice none 0 0, .int .i64 0]) ?_ 0 _ rfl; (with_reducible repeat (first | refine blk_drewN ?_ _ | refine blk_drew ?_ | refine blk_alloc ?_ _)); exact BK349.out) Try.underlying43 rfl (by kernel_rfl)) rfl ?_
   exact ⟨_, _, by first | rfl | (simp [errW_none, errW_some] <;> rfl) | (simp [*, errW_none, errW_some] <;> rfl), by (with_reducible repeat (first | apply Kd.R_alloc | apply Kd.R_drewN | apply Kd.R_drew)); exact Kd.R_mono (Kd.R_far (p := ⟨gb349, 2, none⟩) (Kd.R_far (p := ⟨gb349, 1, none⟩) (Kd.R_far (p := ⟨gb349, 0, none⟩) (Kd.R_types HO361.out BK349.out (by decide)) (fun _ hk => hk.2) (.slice Ao66 t359.length co66)) (fun _ hk => hk.2) (.slice Ao60 y356.length co60)) (fun _ hk => hk.2) (.int .i64 0)) (fun _ hk => trivial), by (with_reducible repeat (first | apply Kd.R_alloc | apply Kd.R_drewN | apply Kd.R_drew)); exact Kd.R_mono (Kd.R_far (p := ⟨gb349, 2, none⟩) (Kd.R_far (p := ⟨gb349, 1, none⟩) (Kd.R_far (p := ⟨gb349, 0, none⟩) (Kd.R_types HO358.out BK349.out (by decide)) (fun _ hk => hk.2) (.slice Ao66 t359.length co66)) (fun _ hk => hk.2) (.slice Ao60 y356.length co60)) (fun _ hk => hk.2) (.int .i64 0)) (fun _ hk => trivial), by repeat (first | (with_reducible first | exact HB.out | apply below_alloc | apply pw_below_drewN | apply below_drew1 | refine below_set ?_ GE347.out | refine below_set ?_ GE348.out | refine below_set ?_ GE349.out | refine below_set ?_ GE350.out | refine below_set ?_ GE352.out) | exact HB.out)⟩
end Go.Proofs.Ytaonemedoikieaa.Q
