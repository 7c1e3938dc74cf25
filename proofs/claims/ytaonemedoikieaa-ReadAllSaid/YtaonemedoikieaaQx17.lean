-- Written by a program of this work (wip/tools/mkprint.py) over the kit's print; Lean checks it.
import Derived.Test.YtaonemedoikieaaQx0
import Derived.Test.YtaonemedoikieaaHAbb
namespace Go.Proofs.Ytaonemedoikieaa.Q
open Go.RowKit Go.Proofs.YtaonemedoikieaaW.PrintWords Go.Proofs.YtaonemedoikieaaW.PrintLast Go.Proofs.YtaonemedoikieaaW.PrintMore Go.Proofs.Ytaonemedoikieaa.AB
attribute [local go_sem] max2_int min2_int max_two min_two max_three min_three max_four min_four   -- for this text's walks alone
set_option linter.unusedVariables false
set_option linter.unusedSimpArgs false

/-! ### deaddropref7_MayRuns: function 33 -/
mutual
def deaddropref7_MayRuns.l0 : Nat → List (S70) → Int → Option (Bool)
 | 0, _, _ => none
 | k + 1, x0, x3 => if x3 < (x0.length : Int) then (if 0 ≤ x3 then (if ((rd_T70 x0 x3).f0) < 0 then (deaddropref7_MayRuns.j1 k x0 x3 true ((rd_T70 x0 x3).f0) ((rd_T70 x0 x3).f1) ((rd_T70 x0 x3).f2)) else (if ((rd_T70 x0 x3).f0) ≥ 8 then (deaddropref7_MayRuns.j1 k x0 x3 true ((rd_T70 x0 x3).f0) ((rd_T70 x0 x3).f1) ((rd_T70 x0 x3).f2)) else (if ((rd_T70 x0 x3).f1) < 1 then (deaddropref7_MayRuns.j1 k x0 x3 true ((rd_T70 x0 x3).f0) ((rd_T70 x0 x3).f1) ((rd_T70 x0 x3).f2)) else (if ((rd_T70 x0 x3).f2) < ((rd_T70 x0 x3).f1) then (deaddropref7_MayRuns.j1 k x0 x3 true ((rd_T70 x0 x3).f0) ((rd_T70 x0 x3).f1) ((rd_T70 x0 x3).f2)) else (deaddropref7_MayRuns.j1 k x0 x3 (decide (((rd_T70 x0 x3).f2) > 4503599627370496)) ((rd_T70 x0 x3).f0) ((rd_T70 x0 x3).f1) ((rd_T70 x0 x3).f2)))))) else (none)) else (some true)
def deaddropref7_MayRuns.j1 : Nat → List (S70) → Int → Bool → Int → Int → Int → Option (Bool)
 | 0, _, _, _, _, _, _ => none
 | k + 1, x0, x3, x39, x334000, x334001, x334002 => if x39 = true then (some false) else (if x3 > 0 then (if 0 ≤ (wrap64 (x3 - 1)) then (if (wrap64 (x3 - 1)) < (x0.length : Int) then (if x334000 < ((rd_T70 x0 (wrap64 (x3 - 1))).f0) then (deaddropref7_MayRuns.j2 k x0 x3 true) else (if x334000 = ((rd_T70 x0 (wrap64 (x3 - 1))).f0) then (deaddropref7_MayRuns.j2 k x0 x3 (decide (x334001 ≤ (wrap64 (((rd_T70 x0 (wrap64 (x3 - 1))).f2) + 1))))) else (deaddropref7_MayRuns.j2 k x0 x3 false))) else (none)) else (none)) else (deaddropref7_MayRuns.j2 k x0 x3 false))
def deaddropref7_MayRuns.j2 : Nat → List (S70) → Int → Bool → Option (Bool)
 | 0, _, _, _ => none
 | k + 1, x0, x3, x75 => if x75 = true then (some false) else (deaddropref7_MayRuns.l0 k x0 (wrap64 (x3 + 1)))
end
def deaddropref7_MayRuns.f (k : Nat) (l0 : List (S70)) : Option (Bool) := deaddropref7_MayRuns.l0 k l0 0
theorem deaddropref7_MayRuns.mono_l : ∀ k, (∀ y0 y1, LeO (deaddropref7_MayRuns.l0 k y0 y1) (deaddropref7_MayRuns.l0 (k + 1) y0 y1)) ∧ (∀ y0 y1 y2 y3 y4 y5, LeO (deaddropref7_MayRuns.j1 k y0 y1 y2 y3 y4 y5) (deaddropref7_MayRuns.j1 (k + 1) y0 y1 y2 y3 y4 y5)) ∧ (∀ y0 y1 y2, LeO (deaddropref7_MayRuns.j2 k y0 y1 y2) (deaddropref7_MayRuns.j2 (k + 1) y0 y1 y2))
 | 0 => ⟨fun _ _ r h => by simp [deaddropref7_MayRuns.l0] at h, fun _ _ _ _ _ _ r h => by simp [deaddropref7_MayRuns.j1] at h, fun _ _ _ r h => by simp [deaddropref7_MayRuns.j2] at h⟩
 | k + 1 => by
  obtain ⟨ih0, ih1, ih2⟩ := deaddropref7_MayRuns.mono_l k
  refine ⟨?_, ?_, ?_⟩
  ·
   intro y0 y1
   unfold deaddropref7_MayRuns.l0
   repeat' first
   | (with_reducible exact ih0 _ _)
   | (with_reducible exact ih1 _ _ _ _ _ _)
   | (with_reducible exact ih2 _ _ _)
   | (with_reducible exact LeO.refl _)
   | (with_reducible exact LeO.none _)
   | (with_reducible refine LeO.ite ?_ ?_)
   | (with_reducible refine LeO.bind ?_ (fun _ => ?_))
   | exact ih0 _ _
   | exact ih1 _ _ _ _ _ _
   | exact ih2 _ _ _
   | exact LeO.none _
   | refine LeO.ite ?_ ?_
   | refine LeO.bind ?_ (fun _ => ?_)
  ·
   intro y0 y1 y2 y3 y4 y5
   unfold deaddropref7_MayRuns.j1
   repeat' first
   | (with_reducible exact ih0 _ _)
   | (with_reducible exact ih1 _ _ _ _ _ _)
   | (with_reducible exact ih2 _ _ _)
   | (with_reducible exact LeO.refl _)
   | (with_reducible exact LeO.none _)
   | (with_reducible refine LeO.ite ?_ ?_)
   | (with_reducible refine LeO.bind ?_ (fun _ => ?_))
   | exact ih0 _ _
   | exact ih1 _ _ _ _ _ _
   | exact ih2 _ _ _
   | exact LeO.none _
   | refine LeO.ite ?_ ?_
   | refine LeO.bind ?_ (fun _ => ?_)
  ·
   intro y0 y1 y2
   unfold deaddropref7_MayRuns.j2
   repeat' first
   | (with_reducible exact ih0 _ _)
   | (with_reducible exact ih1 _ _ _ _ _ _)
   | (with_reducible exact ih2 _ _ _)
   | (with_reducible exact LeO.refl _)
   | (with_reducible exact LeO.none _)
   | (with_reducible refine LeO.ite ?_ ?_)
   | (with_reducible refine LeO.bind ?_ (fun _ => ?_))
   | exact ih0 _ _
   | exact ih1 _ _ _ _ _ _
   | exact ih2 _ _ _
   | exact LeO.none _
   | refine LeO.ite ?_ ?_
   | refine LeO.bind ?_ (fun _ => ?_)
theorem deaddropref7_MayRuns.mono : ∀ a0 k, LeO (deaddropref7_MayRuns.f k a0) (deaddropref7_MayRuns.f (k + 1) a0) := by
 intro a0 k
 obtain ⟨ih0, ih1, ih2⟩ := deaddropref7_MayRuns.mono_l k
 unfold deaddropref7_MayRuns.f
 repeat' first
  | (with_reducible exact ih0 _ _)
  | (with_reducible exact ih1 _ _ _ _ _ _)
  | (with_reducible exact ih2 _ _ _)
  | (with_reducible exact LeO.refl _)
  | (with_reducible exact LeO.none _)
  | (with_reducible refine LeO.ite ?_ ?_)
  | (with_reducible refine LeO.bind ?_ (fun _ => ?_))
  | exact ih0 _ _
  | exact ih1 _ _ _ _ _ _
  | exact ih2 _ _ _
  | exact LeO.none _
  | refine LeO.ite ?_ ?_
  | refine LeO.bind ?_ (fun _ => ?_)
set_option maxHeartbeats 8000000 in
set_option maxRecDepth 100000 in
theorem deaddropref7_MayRuns.calls (k : Nat) (A0 : Option Addr) (c0 : Nat) (l0 : List (S70)) (r : Bool) (w : World) (hr0 : Kd.C k70 w A0 l0.length l0) (hc0 : l0.length ≤ c0) (h : deaddropref7_MayRuns.f k l0 = some r) :
 Calls Try.prog 33 #[.slice A0 l0.length c0] w fun e w' => e = .returned (.bool r) ∧ Below w.heap.size w w' := by
 have hu70 := Try.underlying70
 have HR0 := Aside0.mk hr0
 have HC0 := Aside0.mk hc0
 clear hr0 hc0
 have HB := Aside0.mk (Below.refl w.heap.size w)
 have H : (deaddropref7_MayRuns.l0 k l0 0) = some r := h
 clear h
 have H' := Aside0.mk H
 clear H
 go_enter Try.func33, Try.ntmps33
 go_wp2
 repeat (go_quiet (fail); try go_wp2)
 go_loopg [3] k (fun kq v3 w' => ∃ (x3_1 : Int), v3 = .int .i64 x3_1 ∧ Aside0 (deaddropref7_MayRuns.l0 kq l0 x3_1 = some r) ∧ Aside0 (kq ≤ k) ∧ Aside0 (Below w.heap.size w w'))
 case atStart => exact ⟨(0), ok_, H', ⟨Nat.le_refl _⟩, ⟨by repeat (first | (with_reducible first | exact HB.out | apply below_alloc | apply pw_below_drewN | apply below_drew1) | exact HB.out)⟩⟩
 case round =>
  clear H'
  obtain ⟨x3_1, rfl, HA, HK1, HB⟩ := hrel
  cases gk with
  | zero => exact absurd HA.out (by simp [deaddropref7_MayRuns.l0])
  | succ k1 =>
   have H := HA.out
   clear HA
   simp only [deaddropref7_MayRuns.l0] at H
   by_cases c2 : x3_1 < (l0.length : Int)
   ·
    rw [if_pos c2] at H
    have c2b0 : decide (x3_1 < (l0.length : Int)) = true := decide_eq_true c2
    clear c2
    by_cases c3 : 0 ≤ x3_1
    rotate_left
    ·
     rw [if_neg c3] at H
     exact absurd H (by simp)
    rw [if_pos c3] at H
    have c3b0 : decide (0 ≤ x3_1) = true := decide_eq_true c3
    clear c3
    have HC4 := Aside0.mk H
    clear H
    have p332 : 0 ≤ (x3_1 : Int) := of_decide_eq_true as_
    have q332 : x3_1 < (l0.length : Int) := of_decide_eq_true as_
    obtain ⟨ad332, e332, hx332_0, hx332_1, hx332_2⟩ := at_T70 HR0.out x3_1 p332 q332
    cases e332
    replace hx332_0 := (HB.out.cell (World.block_lt_of_cell? w _ hx332_0)).trans hx332_0
    replace hx332_1 := (HB.out.cell (World.block_lt_of_cell? w _ hx332_1)).trans hx332_1
    replace hx332_2 := (HB.out.cell (World.block_lt_of_cell? w _ hx332_2)).trans hx332_2
    replace p332 := eq_true p332
    replace q332 := eq_true q332
    go_upto_region 5 with (first | ((with_reducible refine gate_dst (N := 4) rfl ?_); refine box_event ?hg (N := 4) ?hd (cs := #[.int .i64 0, .int .i64 0, .int .i64 0]) (t := 70) ?hr ?_; (case hd => rfl); (case hg => rfl); (case hr => first | (go_simp; done) | (go_simp; rfl)); intro gb333 hg w5 hbox hb; have BK333 := Aside0.mk (hbox); have GW333 := Aside0.mk ((by rw [hg]; exact (below_size (bw HB.out)) : w.heap.size ≤ gb333)); have GE333 := Aside0.mk ((by rw [hg]; exact (below_size (bw HB.out)) : w.heap.size ≤ gb333)); replace HB := Aside0.mk (below_step (bw HB.out) hb); clear hb hbox hg; have hcz6_0 : w5.cell? ⟨gb333, 0, none⟩ = some (.int .i64 0) := (blk_cell BK333.out 0).trans rfl; have hcz6_1 : w5.cell? ⟨gb333, 1, none⟩ = some (.int .i64 0) := (blk_cell BK333.out 1).trans rfl; have hcz6_2 : w5.cell? ⟨gb333, 2, none⟩ = some (.int .i64 0) := (blk_cell BK333.out 2).trans rfl; have hfz6_0 := blk_frozen BK333.out 0; have hfz6_1 := blk_frozen BK333.out 1; have hfz6_2 := blk_frozen BK333.out 2))
    repeat (go_quiet (first | ((with_reducible refine gate_dst (N := 4) rfl ?_); refine box_event ?hg (N := 4) ?hd (cs := #[.int .i64 0, .int .i64 0, .int .i64 0]) (t := 70) ?hr ?_; (case hd => rfl); (case hg => rfl); (case hr => first | (go_simp; done) | (go_simp; rfl)); intro gb333 hg w5 hbox hb; have BK333 := Aside0.mk (hbox); have GW333 := Aside0.mk ((by rw [hg]; exact (below_size (bw HB.out)) : w.heap.size ≤ gb333)); have GE333 := Aside0.mk ((by rw [hg]; exact (below_size (bw HB.out)) : w.heap.size ≤ gb333)); replace HB := Aside0.mk (below_step (bw HB.out) hb); clear hb hbox hg; have hcz6_0 : w5.cell? ⟨gb333, 0, none⟩ = some (.int .i64 0) := (blk_cell BK333.out 0).trans rfl; have hcz6_1 : w5.cell? ⟨gb333, 1, none⟩ = some (.int .i64 0) := (blk_cell BK333.out 1).trans rfl; have hcz6_2 : w5.cell? ⟨gb333, 2, none⟩ = some (.int .i64 0) := (blk_cell BK333.out 2).trans rfl; have hfz6_0 := blk_frozen BK333.out 0; have hfz6_1 := blk_frozen BK333.out 1; have hfz6_2 := blk_frozen BK333.out 2)); go_upto_region 5 with (first | ((with_reducible refine gate_dst (N := 4) rfl ?_); refine box_event ?hg (N := 4) ?hd (cs := #[.int .i64 0, .int .i64 0, .int .i64 0]) (t := 70) ?hr ?_; (case hd => rfl); (case hg => rfl); (case hr => first | (go_simp; done) | (go_simp; rfl)); intro gb333 hg w5 hbox hb; have BK333 := Aside0.mk (hbox); have GW333 := Aside0.mk ((by rw [hg]; exact (below_size (bw HB.out)) : w.heap.size ≤ gb333)); have GE333 := Aside0.mk ((by rw [hg]; exact (below_size (bw HB.out)) : w.heap.size ≤ gb333)); replace HB := Aside0.mk (below_step (bw HB.out) hb); clear hb hbox hg; have hcz6_0 : w5.cell? ⟨gb333, 0, none⟩ = some (.int .i64 0) := (blk_cell BK333.out 0).trans rfl; have hcz6_1 : w5.cell? ⟨gb333, 1, none⟩ = some (.int .i64 0) := (blk_cell BK333.out 1).trans rfl; have hcz6_2 : w5.cell? ⟨gb333, 2, none⟩ = some (.int .i64 0) := (blk_cell BK333.out 2).trans rfl; have hfz6_0 := blk_frozen BK333.out 0; have hfz6_1 := blk_frozen BK333.out 1; have hfz6_2 := blk_frozen BK333.out 2)))
    (try simp only [Act.put, List.setIfInBounds_toArray, List.set_cons_zero, List.set_cons_succ])
    go_cut [39] (fun v39 wc => ∃ (kq : Nat) (x39_3 : Bool), v39 = .bool x39_3 ∧ Aside0 (deaddropref7_MayRuns.j1 kq l0 x3_1 x39_3 ((rd_T70 l0 x3_1).f0) ((rd_T70 l0 x3_1).f1) ((rd_T70 l0 x3_1).f2) = some r) ∧ Aside0 (kq ≤ k1) ∧ Aside0 (wc.heap[gb333]? = some (.cells #[.int .i64 ((rd_T70 l0 x3_1).f0), .int .i64 ((rd_T70 l0 x3_1).f1), .int .i64 ((rd_T70 l0 x3_1).f2)] 70 (0, 0))) ∧ Aside0 (Below w.heap.size w wc))
    case first =>
     have H := HC4.out
     clear HC4
     by_cases c7 : ((rd_T70 l0 x3_1).f0) < 0
     ·
      rw [if_pos c7] at H
      have c7b0 : decide (((rd_T70 l0 x3_1).f0) < 0) = true := decide_eq_true c7
      clear c7
      (first | rw [c7b0] | (simp only [i64_w, i32_w]; rw [c7b0]) | skip)
      have H' := Aside0.mk H
      clear H
      have hcz8_0 : w5.cell? ⟨gb333, 0, none⟩ = some (.int .i64 0) := (blk_cell BK333.out 0).trans rfl
      have hcz8_1 : w5.cell? ⟨gb333, 1, none⟩ = some (.int .i64 0) := (blk_cell BK333.out 1).trans rfl
      have hcz8_2 : w5.cell? ⟨gb333, 2, none⟩ = some (.int .i64 0) := (blk_cell BK333.out 2).trans rfl
      have hfz8_0 := blk_frozen BK333.out 0
      have hfz8_1 := blk_frozen BK333.out 1
      have hfz8_2 := blk_frozen BK333.out 2
      go_wp2
      repeat (go_quiet (fail); try go_wp2)
      go_meet
      case rel => exact ⟨_, (true), ok_, H', ⟨by have := HK1.out; first | omega | exact Nat.le_refl _⟩, ⟨by (with_reducible repeat (first | refine blk_drewN ?_ _ | refine blk_drew ?_ | refine blk_alloc ?_ _)); refine blk_put (cs := #[.int .i64 ((rd_T70 l0 x3_1).f0), .int .i64 ((rd_T70 l0 x3_1).f1), .int .i64 0]) ?_ 2 _ rfl; (with_reducible repeat (first | refine blk_drewN ?_ _ | refine blk_drew ?_ | refine blk_alloc ?_ _)); refine blk_put (cs := #[.int .i64 ((rd_T70 l0 x3_1).f0), .int .i64 0, .int .i64 0]) ?_ 1 _ rfl; (with_reducible repeat (first | refine blk_drewN ?_ _ | refine blk_drew ?_ | refine blk_alloc ?_ _)); refine blk_put (cs := #[.int .i64 0, .int .i64 0, .int .i64 0]) ?_ 0 _ rfl; (with_reducible repeat (first | refine blk_drewN ?_ _ | refine blk_drew ?_ | refine blk_alloc ?_ _)); exact BK333.out⟩, ⟨by repeat (first | (with_reducible first | exact HB.out | apply below_alloc | apply pw_below_drewN | apply below_drew1 | refine below_set ?_ GE333.out) | exact HB.out)⟩⟩
     ·
      rw [if_neg c7] at H
      have c7b0 : decide (((rd_T70 l0 x3_1).f0) < 0) = false := decide_eq_false c7
      clear c7
      (first | rw [c7b0] | (simp only [i64_w, i32_w]; rw [c7b0]) | skip)
      by_cases c9 : ((rd_T70 l0 x3_1).f0) ≥ 8
      ·
       rw [if_pos c9] at H
       have c9b0 : decide (8 ≤ ((rd_T70 l0 x3_1).f0)) = true := decide_eq_true c9
       clear c9
       have H' := Aside0.mk H
       clear H
       have hcz10_0 : w5.cell? ⟨gb333, 0, none⟩ = some (.int .i64 0) := (blk_cell BK333.out 0).trans rfl
       have hcz10_1 : w5.cell? ⟨gb333, 1, none⟩ = some (.int .i64 0) := (blk_cell BK333.out 1).trans rfl
       have hcz10_2 : w5.cell? ⟨gb333, 2, none⟩ = some (.int .i64 0) := (blk_cell BK333.out 2).trans rfl
       have hfz10_0 := blk_frozen BK333.out 0
       have hfz10_1 := blk_frozen BK333.out 1
       have hfz10_2 := blk_frozen BK333.out 2
       go_wp2
       repeat (go_quiet (fail); try go_wp2)
       go_meet
       case rel => exact ⟨_, (true), ok_, H', ⟨by have := HK1.out; first | omega | exact Nat.le_refl _⟩, ⟨by (with_reducible repeat (first | refine blk_drewN ?_ _ | refine blk_drew ?_ | refine blk_alloc ?_ _)); refine blk_put (cs := #[.int .i64 ((rd_T70 l0 x3_1).f0), .int .i64 ((rd_T70 l0 x3_1).f1), .int .i64 0]) ?_ 2 _ rfl; (with_reducible repeat (first | refine blk_drewN ?_ _ | refine blk_drew ?_ | refine blk_alloc ?_ _)); refine blk_put (cs := #[.int .i64 ((rd_T70 l0 x3_1).f0), .int .i64 0, .int .i64 0]) ?_ 1 _ rfl; (with_reducible repeat (first | refine blk_drewN ?_ _ | refine blk_drew ?_ | refine blk_alloc ?_ _)); refine blk_put (cs := #[.int .i64 0, .int .i64 0, .int .i64 0]) ?_ 0 _ rfl; (with_reducible repeat (first | refine blk_drewN ?_ _ | refine blk_drew ?_ | refine blk_alloc ?_ _)); exact BK333.out⟩, ⟨by repeat (first | (with_reducible first | exact HB.out | apply below_alloc | apply pw_below_drewN | apply below_drew1 | refine below_set ?_ GE333.out) | exact HB.out)⟩⟩
      ·
       rw [if_neg c9] at H
       have c9b0 : decide (8 ≤ ((rd_T70 l0 x3_1).f0)) = false := decide_eq_false c9
       clear c9
       by_cases c11 : ((rd_T70 l0 x3_1).f1) < 1
       ·
        rw [if_pos c11] at H
        have c11b0 : decide (((rd_T70 l0 x3_1).f1) < 1) = true := decide_eq_true c11
        clear c11
        have H' := Aside0.mk H
        clear H
        have hcz12_0 : w5.cell? ⟨gb333, 0, none⟩ = some (.int .i64 0) := (blk_cell BK333.out 0).trans rfl
        have hcz12_1 : w5.cell? ⟨gb333, 1, none⟩ = some (.int .i64 0) := (blk_cell BK333.out 1).trans rfl
        have hcz12_2 : w5.cell? ⟨gb333, 2, none⟩ = some (.int .i64 0) := (blk_cell BK333.out 2).trans rfl
        have hfz12_0 := blk_frozen BK333.out 0
        have hfz12_1 := blk_frozen BK333.out 1
        have hfz12_2 := blk_frozen BK333.out 2
        go_wp2
        repeat (go_quiet (fail); try go_wp2)
        go_meet
        case rel => exact ⟨_, (true), ok_, H', ⟨by have := HK1.out; first | omega | exact Nat.le_refl _⟩, ⟨by (with_reducible repeat (first | refine blk_drewN ?_ _ | refine blk_drew ?_ | refine blk_alloc ?_ _)); refine blk_put (cs := #[.int .i64 ((rd_T70 l0 x3_1).f0), .int .i64 ((rd_T70 l0 x3_1).f1), .int .i64 0]) ?_ 2 _ rfl; (with_reducible repeat (first | refine blk_drewN ?_ _ | refine blk_drew ?_ | refine blk_alloc ?_ _)); refine blk_put (cs := #[.int .i64 ((rd_T70 l0 x3_1).f0), .int .i64 0, .int .i64 0]) ?_ 1 _ rfl; (with_reducible repeat (first | refine blk_drewN ?_ _ | refine blk_drew ?_ | refine blk_alloc ?_ _)); refine blk_put (cs := #[.int .i64 0, .int .i64 0, .int .i64 0]) ?_ 0 _ rfl; (with_reducible repeat (first | refine blk_drewN ?_ _ | refine blk_drew ?_ | refine blk_alloc ?_ _)); exact BK333.out⟩, ⟨by repeat (first | (with_reducible first | exact HB.out | apply below_alloc | apply pw_below_drewN | apply below_drew1 | refine below_set ?_ GE333.out) | exact HB.out)⟩⟩
       ·
        rw [if_neg c11] at H
        have c11b0 : decide (((rd_T70 l0 x3_1).f1) < 1) = false := decide_eq_false c11
        clear c11
        by_cases c13 : ((rd_T70 l0 x3_1).f2) < ((rd_T70 l0 x3_1).f1)
        ·
         rw [if_pos c13] at H
         have c13b0 : decide (((rd_T70 l0 x3_1).f2) < ((rd_T70 l0 x3_1).f1)) = true := decide_eq_true c13
         clear c13
         have H' := Aside0.mk H
         clear H
         have hcz14_0 : w5.cell? ⟨gb333, 0, none⟩ = some (.int .i64 0) := (blk_cell BK333.out 0).trans rfl
         have hcz14_1 : w5.cell? ⟨gb333, 1, none⟩ = some (.int .i64 0) := (blk_cell BK333.out 1).trans rfl
         have hcz14_2 : w5.cell? ⟨gb333, 2, none⟩ = some (.int .i64 0) := (blk_cell BK333.out 2).trans rfl
         have hfz14_0 := blk_frozen BK333.out 0
         have hfz14_1 := blk_frozen BK333.out 1
         have hfz14_2 := blk_frozen BK333.out 2
         go_wp2
         repeat (go_quiet (fail); try go_wp2)
         go_meet
         case rel => exact ⟨_, (true), ok_, H', ⟨by have := HK1.out; first | omega | exact Nat.le_refl _⟩, ⟨by (with_reducible repeat (first | refine blk_drewN ?_ _ | refine blk_drew ?_ | refine blk_alloc ?_ _)); refine blk_put (cs := #[.int .i64 ((rd_T70 l0 x3_1).f0), .int .i64 ((rd_T70 l0 x3_1).f1), .int .i64 0]) ?_ 2 _ rfl; (with_reducible repeat (first | refine blk_drewN ?_ _ | refine blk_drew ?_ | refine blk_alloc ?_ _)); refine blk_put (cs := #[.int .i64 ((rd_T70 l0 x3_1).f0), .int .i64 0, .int .i64 0]) ?_ 1 _ rfl; (with_reducible repeat (first | refine blk_drewN ?_ _ | refine blk_drew ?_ | refine blk_alloc ?_ _)); refine blk_put (cs := #[.int .i64 0, .int .i64 0, .int .i64 0]) ?_ 0 _ rfl; (with_reducible repeat (first | refine blk_drewN ?_ _ | refine blk_drew ?_ | refine blk_alloc ?_ _)); exact BK333.out⟩, ⟨by repeat (first | (with_reducible first | exact HB.out | apply below_alloc | apply pw_below_drewN | apply below_drew1 | refine below_set ?_ GE333.out) | exact HB.out)⟩⟩
        ·
         rw [if_neg c13] at H
         have c13b0 : decide (((rd_T70 l0 x3_1).f2) < ((rd_T70 l0 x3_1).f1)) = false := decide_eq_false c13
         clear c13
         have H' := Aside0.mk H
         clear H
         have hcz15_0 : w5.cell? ⟨gb333, 0, none⟩ = some (.int .i64 0) := (blk_cell BK333.out 0).trans rfl
         have hcz15_1 : w5.cell? ⟨gb333, 1, none⟩ = some (.int .i64 0) := (blk_cell BK333.out 1).trans rfl
         have hcz15_2 : w5.cell? ⟨gb333, 2, none⟩ = some (.int .i64 0) := (blk_cell BK333.out 2).trans rfl
         have hfz15_0 := blk_frozen BK333.out 0
         have hfz15_1 := blk_frozen BK333.out 1
         have hfz15_2 := blk_frozen BK333.out 2
         go_wp2
         repeat (go_quiet (fail); try go_wp2)
         go_meet
         case rel => exact ⟨_, (decide (((rd_T70 l0 x3_1).f2) > 4503599627370496)), ok_, H', ⟨by have := HK1.out; first | omega | exact Nat.le_refl _⟩, ⟨by (with_reducible repeat (first | refine blk_drewN ?_ _ | refine blk_drew ?_ | refine blk_alloc ?_ _)); refine blk_put (cs := #[.int .i64 ((rd_T70 l0 x3_1).f0), .int .i64 ((rd_T70 l0 x3_1).f1), .int .i64 0]) ?_ 2 _ rfl; (with_reducible repeat (first | refine blk_drewN ?_ _ | refine blk_drew ?_ | refine blk_alloc ?_ _)); refine blk_put (cs := #[.int .i64 ((rd_T70 l0 x3_1).f0), .int .i64 0, .int .i64 0]) ?_ 1 _ rfl; (with_reducible repeat (first | refine blk_drewN ?_ _ | refine blk_drew ?_ | refine blk_alloc ?_ _)); refine blk_put (cs := #[.int .i64 0, .int .i64 0, .int .i64 0]) ?_ 0 _ rfl; (with_reducible repeat (first | refine blk_drewN ?_ _ | refine blk_drew ?_ | refine blk_alloc ?_ _)); exact BK333.out⟩, ⟨by repeat (first | (with_reducible first | exact HB.out | apply below_alloc | apply pw_below_drewN | apply below_drew1 | refine below_set ?_ GE333.out) | exact HB.out)⟩⟩
    case rest =>
     clear HC4
     try clear c1
     try clear c2
     try clear c2b0
     try clear p2
     try clear c3
     try clear c3b0
     try clear p3
     try clear q3
     try clear hx3
     try clear c7
     try clear c7b0
     try clear c9
     try clear c9b0
     try clear c11
     try clear c11b0
     try clear c13
     try clear c13b0
     try clear hcz10_0
     try clear hcz10_1
     try clear hcz10_2
     try clear hcz12_0
     try clear hcz12_1
     try clear hcz12_2
     try clear hcz14_0
     try clear hcz14_1
     try clear hcz14_2
     try clear hcz15_0
     try clear hcz15_1
     try clear hcz15_2
     try clear hcz6_0
     try clear hcz6_1
     try clear hcz6_2
     try clear hcz8_0
     try clear hcz8_1
     try clear hcz8_2
     try clear hfz10_0
     try clear hfz10_1
     try clear hfz10_2
     try clear hfz12_0
     try clear hfz12_1
     try clear hfz12_2
     try clear hfz14_0
     try clear hfz14_1
     try clear hfz14_2
     try clear hfz15_0
     try clear hfz15_1
     try clear hfz15_2
     try clear hfz6_0
     try clear hfz6_1
     try clear hfz6_2
     try clear hfz8_0
     try clear hfz8_1
     try clear hfz8_2
     try clear hx332_0
     try clear hx332_1
     try clear hx332_2
     try clear p332
     try clear q332
     obtain ⟨kq, x39_3, rfl, HA, HJ3, BK333, HB⟩ := hcut
     cases kq with
     | zero => exact absurd HA.out (by simp [deaddropref7_MayRuns.j1])
     | succ kj3 =>
      have H := HA.out
      clear HA
      simp only [deaddropref7_MayRuns.j1] at H
      by_cases c16 : x39_3 = true
      ·
       subst c16
       have H1 : (some false) = some r := by rw [if_pos rfl] at H; exact H
       clear H
       have H := H1
       clear H1
       obtain rfl := Option.some.inj H
       go_wp2
       repeat (go_quiet (fail); try go_wp2)
       go_ret
       exact ⟨by first | rfl | (simp [errW_none, errW_some] <;> rfl) | (simp [*, errW_none, errW_some] <;> rfl), by repeat (first | (with_reducible first | exact HB.out | apply below_alloc | apply pw_below_drewN | apply below_drew1 | refine below_set ?_ GE333.out) | exact HB.out)⟩
      ·
       replace c16 := Bool.eq_false_iff.mpr c16
       subst c16
       have H1 : (if x3_1 > 0 then (if 0 ≤ (wrap64 (x3_1 - 1)) then (if (wrap64 (x3_1 - 1)) < (l0.length : Int) then (if ((rd_T70 l0 x3_1).f0) < ((rd_T70 l0 (wrap64 (x3_1 - 1))).f0) then (deaddropref7_MayRuns.j2 kj3 l0 x3_1 true) else (if ((rd_T70 l0 x3_1).f0) = ((rd_T70 l0 (wrap64 (x3_1 - 1))).f0) then (deaddropref7_MayRuns.j2 kj3 l0 x3_1 (decide (((rd_T70 l0 x3_1).f1) ≤ (wrap64 (((rd_T70 l0 (wrap64 (x3_1 - 1))).f2) + 1))))) else (deaddropref7_MayRuns.j2 kj3 l0 x3_1 false))) else (none)) else (none)) else (deaddropref7_MayRuns.j2 kj3 l0 x3_1 false)) = some r := by rw [if_neg (show ¬ (false = true) by decide)] at H; exact H
       clear H
       have H := H1
       clear H1
       have HC17 := Aside0.mk H
       clear H
       go_upto_region 7 with (fail)
       repeat (go_quiet (fail); go_upto_region 7 with (fail))
       go_cut [75] (fun v75 wc => ∃ (kq : Nat) (x75_16 : Bool), v75 = .bool x75_16 ∧ Aside0 (deaddropref7_MayRuns.j2 kq l0 x3_1 x75_16 = some r) ∧ Aside0 (kq ≤ kj3) ∧ Aside0 (wc.heap[gb333]? = some (.cells #[.int .i64 ((rd_T70 l0 x3_1).f0), .int .i64 ((rd_T70 l0 x3_1).f1), .int .i64 ((rd_T70 l0 x3_1).f2)] 70 (0, 0))) ∧ Aside0 (Below w.heap.size w wc))
       case first =>
        have H := HC17.out
        clear HC17
        by_cases c18 : x3_1 > 0
        ·
         rw [if_pos c18] at H
         have c18b0 : decide (0 < x3_1) = true := decide_eq_true c18
         clear c18
         (first | rw [c18b0] | (simp only [i64_w, i32_w]; rw [c18b0]) | skip)
         obtain ⟨ji19, hji19⟩ : ∃ j_ : Int, (wrap64 (x3_1 - 1)) = j_ := ⟨_, rfl⟩
         replace H : (if 0 ≤ (ji19) then (if (ji19) < (l0.length : Int) then (if ((rd_T70 l0 x3_1).f0) < ((rd_T70 l0 (ji19)).f0) then (deaddropref7_MayRuns.j2 kj3 l0 x3_1 true) else (if ((rd_T70 l0 x3_1).f0) = ((rd_T70 l0 (ji19)).f0) then (deaddropref7_MayRuns.j2 kj3 l0 x3_1 (decide (((rd_T70 l0 x3_1).f1) ≤ (wrap64 (((rd_T70 l0 (ji19)).f2) + 1))))) else (deaddropref7_MayRuns.j2 kj3 l0 x3_1 false))) else (none)) else (none)) = some r := by first | (rw [hji19] at H; exact H) | (simp only [hji19] at H ⊢; exact H)
         have hji19w : (IntKind.i64.wrap (x3_1 - 1)) = ji19 := (i64_w _).trans hji19
         by_cases c20 : 0 ≤ (ji19)
         rotate_left
         ·
          rw [if_neg c20] at H
          exact absurd H (by simp)
         rw [if_pos c20] at H
         have c20b0 : decide (0 ≤ (ji19)) = true := decide_eq_true c20
         clear c20
         by_cases c21 : (ji19) < (l0.length : Int)
         rotate_left
         ·
          rw [if_neg c21] at H
          exact absurd H (by simp)
         rw [if_pos c21] at H
         have c21b0 : decide ((ji19) < (l0.length : Int)) = true := decide_eq_true c21
         clear c21
         by_cases c22 : ((rd_T70 l0 x3_1).f0) < ((rd_T70 l0 (ji19)).f0)
         ·
          rw [if_pos c22] at H
          have c22b0 : decide (((rd_T70 l0 x3_1).f0) < ((rd_T70 l0 (ji19)).f0)) = true := decide_eq_true c22
          clear c22
          have H' := Aside0.mk H
          clear H
          have hcz23_0 : wc.cell? ⟨gb333, 0, none⟩ = some (.int .i64 ((rd_T70 l0 x3_1).f0)) := (blk_cell BK333.out 0).trans rfl
          have hcz23_1 : wc.cell? ⟨gb333, 1, none⟩ = some (.int .i64 ((rd_T70 l0 x3_1).f1)) := (blk_cell BK333.out 1).trans rfl
          have hcz23_2 : wc.cell? ⟨gb333, 2, none⟩ = some (.int .i64 ((rd_T70 l0 x3_1).f2)) := (blk_cell BK333.out 2).trans rfl
          have hfz23_0 := blk_frozen BK333.out 0
          have hfz23_1 := blk_frozen BK333.out 1
          have hfz23_2 := blk_frozen BK333.out 2
          have p334 : 0 ≤ ((ji19) : Int) := of_decide_eq_true as_
          have q334 : (ji19) < (l0.length : Int) := of_decide_eq_true as_
          obtain ⟨ad334, e334, hx334_0, hx334_1, hx334_2⟩ := at_T70 HR0.out (ji19) p334 q334
          obtain rfl : ad332 = ad334 := (by injection e334)
          replace hx334_0 := (HB.out.cell (World.block_lt_of_cell? w _ hx334_0)).trans hx334_0
          replace hx334_1 := (HB.out.cell (World.block_lt_of_cell? w _ hx334_1)).trans hx334_1
          replace hx334_2 := (HB.out.cell (World.block_lt_of_cell? w _ hx334_2)).trans hx334_2
          replace p334 := eq_true p334
          replace q334 := eq_true q334
          go_wp2
          repeat (go_quiet (fail); try go_wp2)
          go_meet
          case rel => exact ⟨_, (true), ok_, H', ⟨by have := HK1.out; have := HJ3.out; first | omega | exact Nat.le_refl _⟩, ⟨by (with_reducible repeat (first | refine blk_drewN ?_ _ | refine blk_drew ?_ | refine blk_alloc ?_ _)); exact BK333.out⟩, ⟨by repeat (first | (with_reducible first | exact HB.out | apply below_alloc | apply pw_below_drewN | apply below_drew1 | refine below_set ?_ GE333.out) | exact HB.out)⟩⟩
         ·
          rw [if_neg c22] at H
          have c22b0 : decide (((rd_T70 l0 x3_1).f0) < ((rd_T70 l0 (ji19)).f0)) = false := decide_eq_false c22
          clear c22
          by_cases c24 : ((rd_T70 l0 x3_1).f0) = ((rd_T70 l0 (ji19)).f0)
          ·
           rw [if_pos c24] at H
           have c24b0 : (((rd_T70 l0 x3_1).f0) == ((rd_T70 l0 (ji19)).f0)) = true := beq_iff_eq.mpr c24
           have c24b1 : (((rd_T70 l0 x3_1).f0) != ((rd_T70 l0 (ji19)).f0)) = false := bne_eq_false_iff_eq.mpr c24
           clear c24
           have H' := Aside0.mk H
           clear H
           have hcz25_0 : wc.cell? ⟨gb333, 0, none⟩ = some (.int .i64 ((rd_T70 l0 x3_1).f0)) := (blk_cell BK333.out 0).trans rfl
           have hcz25_1 : wc.cell? ⟨gb333, 1, none⟩ = some (.int .i64 ((rd_T70 l0 x3_1).f1)) := (blk_cell BK333.out 1).trans rfl
           have hcz25_2 : wc.cell? ⟨gb333, 2, none⟩ = some (.int .i64 ((rd_T70 l0 x3_1).f2)) := (blk_cell BK333.out 2).trans rfl
           have hfz25_0 := blk_frozen BK333.out 0
           have hfz25_1 := blk_frozen BK333.out 1
           have hfz25_2 := blk_frozen BK333.out 2
           have p334 : 0 ≤ ((ji19) : Int) := of_decide_eq_true as_
           have q334 : (ji19) < (l0.length : Int) := of_decide_eq_true as_
           obtain ⟨ad334, e334, hx334_0, hx334_1, hx334_2⟩ := at_T70 HR0.out (ji19) p334 q334
           obtain rfl : ad332 = ad334 := (by injection e334)
           replace hx334_0 := (HB.out.cell (World.block_lt_of_cell? w _ hx334_0)).trans hx334_0
           replace hx334_1 := (HB.out.cell (World.block_lt_of_cell? w _ hx334_1)).trans hx334_1
           replace hx334_2 := (HB.out.cell (World.block_lt_of_cell? w _ hx334_2)).trans hx334_2
           replace p334 := eq_true p334
           replace q334 := eq_true q334
           have p335 : 0 ≤ ((ji19) : Int) := of_decide_eq_true as_
           have q335 : (ji19) < (l0.length : Int) := of_decide_eq_true as_
           obtain ⟨ad335, e335, hx335_0, hx335_1, hx335_2⟩ := at_T70 HR0.out (ji19) p335 q335
           obtain rfl : ad332 = ad335 := (by injection e335)
           replace hx335_0 := (HB.out.cell (World.block_lt_of_cell? w _ hx335_0)).trans hx335_0
           replace hx335_1 := (HB.out.cell (World.block_lt_of_cell? w _ hx335_1)).trans hx335_1
           replace hx335_2 := (HB.out.cell (World.block_lt_of_cell? w _ hx335_2)).trans hx335_2
           replace p335 := eq_true p335
           replace q335 := eq_true q335
           have p336 : 0 ≤ ((ji19) : Int) := of_decide_eq_true as_
           have q336 : (ji19) < (l0.length : Int) := of_decide_eq_true as_
           obtain ⟨ad336, e336, hx336_0, hx336_1, hx336_2⟩ := at_T70 HR0.out (ji19) p336 q336
           obtain rfl : ad332 = ad336 := (by injection e336)
           replace hx336_0 := (HB.out.cell (World.block_lt_of_cell? w _ hx336_0)).trans hx336_0
           replace hx336_1 := (HB.out.cell (World.block_lt_of_cell? w _ hx336_1)).trans hx336_1
           replace hx336_2 := (HB.out.cell (World.block_lt_of_cell? w _ hx336_2)).trans hx336_2
           replace p336 := eq_true p336
           replace q336 := eq_true q336
           go_wp2
           repeat (go_quiet (fail); try go_wp2)
           go_meet
           case rel => exact ⟨_, (decide (((rd_T70 l0 x3_1).f1) ≤ (wrap64 (((rd_T70 l0 (ji19)).f2) + 1)))), (by first | rfl | (simp; done) | (simp only [← hji19] <;> (first | rfl | simp)) | (simp [*]; done)), H', ⟨by have := HK1.out; have := HJ3.out; first | omega | exact Nat.le_refl _⟩, ⟨by (with_reducible repeat (first | refine blk_drewN ?_ _ | refine blk_drew ?_ | refine blk_alloc ?_ _)); exact BK333.out⟩, ⟨by repeat (first | (with_reducible first | exact HB.out | apply below_alloc | apply pw_below_drewN | apply below_drew1 | refine below_set ?_ GE333.out) | exact HB.out)⟩⟩
          ·
           rw [if_neg c24] at H
           have c24b0 : (((rd_T70 l0 x3_1).f0) == ((rd_T70 l0 (ji19)).f0)) = false := beq_eq_false_iff_ne.mpr c24
           have c24b1 : (((rd_T70 l0 x3_1).f0) != ((rd_T70 l0 (ji19)).f0)) = true := bne_iff_ne.mpr c24
           have H' := Aside0.mk H
           clear H
           have hcz26_0 : wc.cell? ⟨gb333, 0, none⟩ = some (.int .i64 ((rd_T70 l0 x3_1).f0)) := (blk_cell BK333.out 0).trans rfl
           have hcz26_1 : wc.cell? ⟨gb333, 1, none⟩ = some (.int .i64 ((rd_T70 l0 x3_1).f1)) := (blk_cell BK333.out 1).trans rfl
           have hcz26_2 : wc.cell? ⟨gb333, 2, none⟩ = some (.int .i64 ((rd_T70 l0 x3_1).f2)) := (blk_cell BK333.out 2).trans rfl
           have hfz26_0 := blk_frozen BK333.out 0
           have hfz26_1 := blk_frozen BK333.out 1
           have hfz26_2 := blk_frozen BK333.out 2
           have p334 : 0 ≤ ((ji19) : Int) := of_decide_eq_true as_
           have q334 : (ji19) < (l0.length : Int) := of_decide_eq_true as_
           obtain ⟨ad334, e334, hx334_0, hx334_1, hx334_2⟩ := at_T70 HR0.out (ji19) p334 q334
           obtain rfl : ad332 = ad334 := (by injection e334)
           replace hx334_0 := (HB.out.cell (World.block_lt_of_cell? w _ hx334_0)).trans hx334_0
           replace hx334_1 := (HB.out.cell (World.block_lt_of_cell? w _ hx334_1)).trans hx334_1
           replace hx334_2 := (HB.out.cell (World.block_lt_of_cell? w _ hx334_2)).trans hx334_2
           replace p334 := eq_true p334
           replace q334 := eq_true q334
           have p335 : 0 ≤ ((ji19) : Int) := of_decide_eq_true as_
           have q335 : (ji19) < (l0.length : Int) := of_decide_eq_true as_
           obtain ⟨ad335, e335, hx335_0, hx335_1, hx335_2⟩ := at_T70 HR0.out (ji19) p335 q335
           obtain rfl : ad332 = ad335 := (by injection e335)
           replace hx335_0 := (HB.out.cell (World.block_lt_of_cell? w _ hx335_0)).trans hx335_0
           replace hx335_1 := (HB.out.cell (World.block_lt_of_cell? w _ hx335_1)).trans hx335_1
           replace hx335_2 := (HB.out.cell (World.block_lt_of_cell? w _ hx335_2)).trans hx335_2
           replace p335 := eq_true p335
           replace q335 := eq_true q335
           go_wp2
           repeat (go_quiet (fail); try go_wp2)
           go_meet
           case rel => exact ⟨_, (false), ok_, H', ⟨by have := HK1.out; have := HJ3.out; first | omega | exact Nat.le_refl _⟩, ⟨by (with_reducible repeat (first | refine blk_drewN ?_ _ | refine blk_drew ?_ | refine blk_alloc ?_ _)); exact BK333.out⟩, ⟨by repeat (first | (with_reducible first | exact HB.out | apply below_alloc | apply pw_below_drewN | apply below_drew1 | refine below_set ?_ GE333.out) | exact HB.out)⟩⟩
        ·
         rw [if_neg c18] at H
         have c18b0 : decide (0 < x3_1) = false := decide_eq_false c18
         clear c18
         (first | rw [c18b0] | (simp only [i64_w, i32_w]; rw [c18b0]) | skip)
         have H' := Aside0.mk H
         clear H
         go_wp2
         repeat (go_quiet (fail); try go_wp2)
         go_meet
         case rel => exact ⟨_, (false), ok_, H', ⟨by have := HK1.out; have := HJ3.out; first | omega | exact Nat.le_refl _⟩, ⟨by (with_reducible repeat (first | refine blk_drewN ?_ _ | refine blk_drew ?_ | refine blk_alloc ?_ _)); exact BK333.out⟩, ⟨by repeat (first | (with_reducible first | exact HB.out | apply below_alloc | apply pw_below_drewN | apply below_drew1 | refine below_set ?_ GE333.out) | exact HB.out)⟩⟩
       case rest =>
        clear HC17
        try clear c1
        try clear c2
        try clear c2b0
        try clear p2
        try clear c3
        try clear c3b0
        try clear p3
        try clear q3
        try clear hx3
        try clear p6
        try clear c7
        try clear c7b0
        try clear c9
        try clear c9b0
        try clear c11
        try clear c11b0
        try clear c13
        try clear c13b0
        try clear c16
        try clear c18
        try clear c18b0
        try clear c20
        try clear c20b0
        try clear c21
        try clear c21b0
        try clear c22
        try clear c22b0
        try clear c24
        try clear c24b0
        try clear c24b1
        try clear hcz10_0
        try clear hcz10_1
        try clear hcz10_2
        try clear hcz12_0
        try clear hcz12_1
        try clear hcz12_2
        try clear hcz14_0
        try clear hcz14_1
        try clear hcz14_2
        try clear hcz15_0
        try clear hcz15_1
        try clear hcz15_2
        try clear hcz23_0
        try clear hcz23_1
        try clear hcz23_2
        try clear hcz25_0
        try clear hcz25_1
        try clear hcz25_2
        try clear hcz26_0
        try clear hcz26_1
        try clear hcz26_2
        try clear hcz6_0
        try clear hcz6_1
        try clear hcz6_2
        try clear hcz8_0
        try clear hcz8_1
        try clear hcz8_2
        try clear hfz10_0
        try clear hfz10_1
        try clear hfz10_2
        try clear hfz12_0
        try clear hfz12_1
        try clear hfz12_2
        try clear hfz14_0
        try clear hfz14_1
        try clear hfz14_2
        try clear hfz15_0
        try clear hfz15_1
        try clear hfz15_2
        try clear hfz23_0
        try clear hfz23_1
        try clear hfz23_2
        try clear hfz25_0
        try clear hfz25_1
        try clear hfz25_2
        try clear hfz26_0
        try clear hfz26_1
        try clear hfz26_2
        try clear hfz6_0
        try clear hfz6_1
        try clear hfz6_2
        try clear hfz8_0
        try clear hfz8_1
        try clear hfz8_2
        try clear hx332_0
        try clear hx332_1
        try clear hx332_2
        try clear hx334_0
        try clear hx334_1
        try clear hx334_2
        try clear hx335_0
        try clear hx335_1
        try clear hx335_2
        try clear hx336_0
        try clear hx336_1
        try clear hx336_2
        try clear p2
        try clear p3
        try clear p332
        try clear p334
        try clear p335
        try clear p336
        try clear q3
        try clear q332
        try clear q334
        try clear q335
        try clear q336
        obtain ⟨kq, x75_16, rfl, HA, HJ16, BK333, HB⟩ := hcut
        cases kq with
        | zero => exact absurd HA.out (by simp [deaddropref7_MayRuns.j2])
        | succ kj16 =>
         have H := HA.out
         clear HA
         simp only [deaddropref7_MayRuns.j2] at H
         by_cases c27 : x75_16 = true
         ·
          subst c27
          have H1 : (some false) = some r := by rw [if_pos rfl] at H; exact H
          clear H
          have H := H1
          clear H1
          obtain rfl := Option.some.inj H
          go_wp2
          repeat (go_quiet (fail); try go_wp2)
          go_ret
          exact ⟨by first | rfl | (simp [errW_none, errW_some] <;> rfl) | (simp [*, errW_none, errW_some] <;> rfl), by repeat (first | (with_reducible first | exact HB.out | apply below_alloc | apply pw_below_drewN | apply below_drew1 | refine below_set ?_ GE333.out) | exact HB.out)⟩
         ·
          replace c27 := Bool.eq_false_iff.mpr c27
          subst c27
          have H1 : (deaddropref7_MayRuns.l0 kj16 l0 (wrap64 (x3_1 + 1))) = some r := by rw [if_neg (show ¬ (false = true) by decide)] at H; exact H
          clear H
          have H := H1
          clear H1
          have H' := Aside0.mk H
          clear H
          go_wp2
          repeat (go_quiet (fail); try go_wp2)
          go_roundg kj16
          case measure => have := HK1.out; have := HJ3.out; have := HJ16.out; omega
          case rel => exact ⟨(wrap64 (x3_1 + 1)), ok_, H', ⟨by have := HK1.out; have := HJ3.out; have := HJ16.out; omega⟩, ⟨by repeat (first | (with_reducible first | exact HB.out | apply below_alloc | apply pw_below_drewN | apply below_drew1 | refine below_set ?_ GE333.out) | exact HB.out)⟩⟩
   ·
    rw [if_neg c2] at H
    have c2b0 : decide (x3_1 < (l0.length : Int)) = false := decide_eq_false c2
    clear c2
    obtain rfl := Option.some.inj H
    go_wp2
    repeat (go_quiet (fail); try go_wp2)
    go_ret
    exact ⟨by first | rfl | (simp [errW_none, errW_some] <;> rfl) | (simp [*, errW_none, errW_some] <;> rfl), by repeat (first | (with_reducible first | exact HB.out | apply below_alloc | apply pw_below_drewN | apply below_drew1) | exact HB.out)⟩

end Go.Proofs.Ytaonemedoikieaa.Q
