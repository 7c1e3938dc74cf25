-- Written by a program of this work (wip/tools/mkprint.py) over the kit's print; Lean checks it.
import Derived.Test.YtaonemedoikieaaQx0
import Derived.Test.YtaonemedoikieaaQx15
import Derived.Test.YtaonemedoikieaaQx16
import Derived.Test.YtaonemedoikieaaQx19
import Derived.Test.YtaonemedoikieaaHAbb
namespace Go.Proofs.Ytaonemedoikieaa.Q
open Go.RowKit Go.Proofs.YtaonemedoikieaaW.PrintWords Go.Proofs.YtaonemedoikieaaW.PrintLast Go.Proofs.YtaonemedoikieaaW.PrintMore Go.Proofs.Ytaonemedoikieaa.AB
attribute [local go_sem] max2_int min2_int max_two min_two max_three min_three max_four min_four   -- for this text's walks alone
set_option linter.unusedVariables false
set_option linter.unusedSimpArgs false

/-! ### deaddroplaw8_Make: function 28 -/
mutual
def deaddroplaw8_Make.l0 : Nat → List Int → Int → List (S70) → List (S34) → Option ((List (S70)) × (List (S34)))
 | 0, _, _, _, _ => none
 | k + 1, x0, x4, x370000, x370001 => if (wrap64 (x4 + 1)) < (x0.length : Int) then (deaddroplaw8_Make.j1 k x0 x4 (decide (x4 < 80)) x370000 x370001) else (deaddroplaw8_Make.j1 k x0 x4 false x370000 x370001)
def deaddroplaw8_Make.j1 : Nat → List Int → Int → Bool → List (S70) → List (S34) → Option ((List (S70)) × (List (S34)))
 | 0, _, _, _, _, _ => none
 | k + 1, x0, x4, x14, x370000, x370001 => if x14 = true then (if 0 ≤ x4 then (if x4 < (x0.length : Int) then (if 0 ≤ (wrap64 (x4 + 1)) then (if (wrap64 (x4 + 1)) < (x0.length : Int) then ((deaddroplaw8_Op.f (rd x0 x4) (rd x0 (wrap64 (x4 + 1)))).bind fun bt373 => ((deaddropref7_Do.f k x370000 x370001 (Int.tmod (wrap64 (Int.tdiv (wrap64 (rd x0 x4)) 16)) 4) bt373.1 bt373.2.1 bt373.2.2.1 bt373.2.2.2).bind fun bt377 => (if bt377.2.2 = 0 then ((deaddropref7_Join.f k x370000 x370001 bt377.1 bt377.2.1).bind fun bt385 => (deaddroplaw8_Make.l0 k x0 (wrap64 (x4 + 2)) bt385.1 bt385.2)) else (none)))) else (none)) else (none)) else (none)) else (none)) else (some (x370000, x370001))
end
def deaddroplaw8_Make.f (k : Nat) (l0 : List Int) : Option ((List (S70)) × (List (S34))) := deaddroplaw8_Make.l0 k l0 0 ([] : List (S70)) ([] : List (S34))
theorem deaddroplaw8_Make.mono_l : ∀ k, (∀ y0 y1 y2 y3, LeO (deaddroplaw8_Make.l0 k y0 y1 y2 y3) (deaddroplaw8_Make.l0 (k + 1) y0 y1 y2 y3)) ∧ (∀ y0 y1 y2 y3 y4, LeO (deaddroplaw8_Make.j1 k y0 y1 y2 y3 y4) (deaddroplaw8_Make.j1 (k + 1) y0 y1 y2 y3 y4))
 | 0 => ⟨fun _ _ _ _ r h => by simp [deaddroplaw8_Make.l0] at h, fun _ _ _ _ _ r h => by simp [deaddroplaw8_Make.j1] at h⟩
 | k + 1 => by
  obtain ⟨ih0, ih1⟩ := deaddroplaw8_Make.mono_l k
  refine ⟨?_, ?_⟩
  ·
   intro y0 y1 y2 y3
   unfold deaddroplaw8_Make.l0
   repeat' first
   | (with_reducible exact ih0 _ _ _ _)
   | (with_reducible exact ih1 _ _ _ _ _)
   | (with_reducible exact deaddropref7_Do.mono _ _ _ _ _ _ _ _)
   | (with_reducible exact deaddropref7_Join.mono _ _ _ _ _)
   | (with_reducible exact LeO.refl _)
   | (with_reducible exact LeO.none _)
   | (with_reducible refine LeO.ite ?_ ?_)
   | (with_reducible refine LeO.bind ?_ (fun _ => ?_))
   | exact ih0 _ _ _ _
   | exact ih1 _ _ _ _ _
   | exact deaddropref7_Do.mono _ _ _ _ _ _ _ _
   | exact deaddropref7_Join.mono _ _ _ _ _
   | exact LeO.none _
   | refine LeO.ite ?_ ?_
   | refine LeO.bind ?_ (fun _ => ?_)
  ·
   intro y0 y1 y2 y3 y4
   unfold deaddroplaw8_Make.j1
   repeat' first
   | (with_reducible exact ih0 _ _ _ _)
   | (with_reducible exact ih1 _ _ _ _ _)
   | (with_reducible exact deaddropref7_Do.mono _ _ _ _ _ _ _ _)
   | (with_reducible exact deaddropref7_Join.mono _ _ _ _ _)
   | (with_reducible exact LeO.refl _)
   | (with_reducible exact LeO.none _)
   | (with_reducible refine LeO.ite ?_ ?_)
   | (with_reducible refine LeO.bind ?_ (fun _ => ?_))
   | exact ih0 _ _ _ _
   | exact ih1 _ _ _ _ _
   | exact deaddropref7_Do.mono _ _ _ _ _ _ _ _
   | exact deaddropref7_Join.mono _ _ _ _ _
   | exact LeO.none _
   | refine LeO.ite ?_ ?_
   | refine LeO.bind ?_ (fun _ => ?_)
theorem deaddroplaw8_Make.mono : ∀ a0 k, LeO (deaddroplaw8_Make.f k a0) (deaddroplaw8_Make.f (k + 1) a0) := by
 intro a0 k
 obtain ⟨ih0, ih1⟩ := deaddroplaw8_Make.mono_l k
 unfold deaddroplaw8_Make.f
 repeat' first
  | (with_reducible exact ih0 _ _ _ _)
  | (with_reducible exact ih1 _ _ _ _ _)
  | (with_reducible exact deaddropref7_Do.mono _ _ _ _ _ _ _ _)
  | (with_reducible exact deaddropref7_Join.mono _ _ _ _ _)
  | (with_reducible exact LeO.refl _)
  | (with_reducible exact LeO.none _)
  | (with_reducible refine LeO.ite ?_ ?_)
  | (with_reducible refine LeO.bind ?_ (fun _ => ?_))
  | exact ih0 _ _ _ _
  | exact ih1 _ _ _ _ _
  | exact deaddropref7_Do.mono _ _ _ _ _ _ _ _
  | exact deaddropref7_Join.mono _ _ _ _ _
  | exact LeO.none _
  | refine LeO.ite ?_ ?_
  | refine LeO.bind ?_ (fun _ => ?_)
def deaddroplaw8_Make.T5 : Bool × List (List Nat × List Nat) := (true, [([], []), ([], []), ([], []), ([1, 2], [1, 2]), ([3], [3]), ([4], [4]), ([5], [5]), ([6], [6]), ([], []), ([], []), ([8, 9], [8, 9]), ([10], [10]), ([], []), ([], []), ([13], [13]), ([12, 14], [12, 14]), ([15], [15]), ([11, 16], [11, 16]), ([0, 7, 17, 17], [0, 7, 17]), ([], []), ([19, 18, 18, 0, 1, 2, 3, 4, 5, 6, 7, 8, 9, 10, 11, 12, 13, 14, 15, 16, 17, 18, 19], [18, 19])])
def deaddroplaw8_Make.B5 : List Nat := [0, 0, 0, 6, 14, 30, 62, 126, 0, 0, 768, 1792, 0, 0, 8192, 28672, 61440, 130816, 262143, 0, 1048575]
theorem deaddroplaw8_Make.tab5 : rtab .any (opsOf Try.f28 5) = deaddroplaw8_Make.T5 := by kernel_rfl
theorem deaddroplaw8_Make.bits5 : waitsOk deaddroplaw8_Make.T5.2 deaddroplaw8_Make.B5 = true := by kernel_rfl
set_option maxHeartbeats 8000000 in
set_option maxRecDepth 100000 in
theorem deaddroplaw8_Make.calls (k : Nat) (A0 : Option Addr) (c0 : Nat) (l0 : List Int) (r1 : List (S70)) (r2 : List (S34)) (w : World) (hr0 : Kd.C (Kd.int .u8) w A0 l0.length l0) (hc0 : l0.length ≤ c0) (h : deaddroplaw8_Make.f k l0 = some (r1, r2)) :
 Calls Try.prog 28 #[.slice A0 l0.length c0] w fun e w' => ∃ v0_ v1_ : Value, e = .returned (.agg #[v0_, v1_]) ∧ Kd.R k70 70 w' w.heap.size (fun _ => True) v0_ r1 ∧ Kd.R k34 34 w' w.heap.size (fun _ => True) v1_ r2 ∧ Below w.heap.size w w' := by
 have hu28 := Try.underlying28
 have hu43 := Try.underlying43
 have HR0 := Aside0.mk hr0
 have HC0 := Aside0.mk hc0
 clear hr0 hc0
 have HB := Aside0.mk (Below.refl w.heap.size w)
 have H : (deaddroplaw8_Make.l0 k l0 0 ([] : List (S70)) ([] : List (S34))) = some (r1, r2) := h
 clear h
 have H' := Aside0.mk H
 clear H
 go_enter Try.func28, Try.ntmps28
 go_wp2_with (first | ((with_reducible refine gate_dst (N := 2) rfl ?_); refine box_event ?hg (N := 2) ?hd (cs := #[.slice none 0 0, .slice none 0 0]) (t := 28) ?hr ?_; (case hd => rfl); (case hg => rfl); (case hr => first | (go_simp; done) | (go_simp; rfl)); intro gb368 hg w2 hbox hb; have BK368 := Aside0.mk (hbox); have GW368 := Aside0.mk ((by rw [hg]; exact (below_size (bw HB.out)) : w.heap.size ≤ gb368)); have GE368 := Aside0.mk ((by rw [hg]; exact (below_size (bw HB.out)) : w.heap.size ≤ gb368)); replace HB := Aside0.mk (below_step (bw HB.out) hb); clear hb hbox hg) | ((with_reducible refine gate_dst (N := 3) rfl ?_); refine box_event ?hg (N := 3) ?hd (cs := #[.slice none 0 0, .slice none 0 0]) (t := 28) ?hr ?_; (case hd => rfl); (case hg => rfl); (case hr => first | (go_simp; done) | (go_simp; rfl)); intro gb369 hg w3 hbox hb; have BK369 := Aside0.mk (hbox); have GW369 := Aside0.mk ((by rw [hg]; exact (below_size (bw1 HB.out GE368.out)) : w.heap.size ≤ gb369)); have GE369 := Aside0.mk ((by rw [hg]; exact (below_size (bw1 HB.out GE368.out)) : w.heap.size ≤ gb369)); replace HB := Aside0.mk (below_step (bw1 HB.out GE368.out) hb); have NB368_369 := Aside0.mk ((by rw [hg]; exact Nat.ne_of_lt (blk_lt (g := gb368) (o := .cells #[.slice none 0 0, .slice none 0 0] 28 (0, 0)) (bk BK368.out)) : gb368 ≠ gb369)); have NB369_368 := Aside0.mk ((by rw [hg]; exact Nat.ne_of_gt (blk_lt (g := gb368) (o := .cells #[.slice none 0 0, .slice none 0 0] 28 (0, 0)) (bk BK368.out)) : gb369 ≠ gb368)); replace BK368 := Aside0.mk (blk_below (g := gb368) (o := .cells #[.slice none 0 0, .slice none 0 0] 28 (0, 0)) (bk BK368.out) hb); clear hb hbox hg))
 go_loopg [4] k (fun kq v4 w' => ∃ (x4_1 : Int) (x370000_1 : List (S70)) (x370001_1 : List (S34)) (u370000 : Value) (u370001 : Value), v4 = .int .i64 x4_1 ∧ Aside0 (deaddroplaw8_Make.l0 kq l0 x4_1 x370000_1 x370001_1 = some (r1, r2)) ∧ Aside0 (kq ≤ k) ∧ Aside0 (Kd.R k70 70 w' w.heap.size (fun _ => True) u370000 x370000_1) ∧ Aside0 (Kd.R k34 34 w' w.heap.size (fun _ => True) u370001 x370001_1) ∧ Aside0 (w'.heap[gb368]? = some (.cells #[(.slice none 0 0), (.slice none 0 0)] 28 (0, 0))) ∧ Aside0 (w'.heap[gb369]? = some (.cells #[u370000, u370001] 28 (0, 0))) ∧ Aside0 (Below w.heap.size w w'))
 case atStart => exact ⟨(0), (([] : List (S70))), (([] : List (S34))), (.slice none 0 0), (.slice none 0 0), ok_, H', ⟨Nat.le_refl _⟩, ⟨by first | exact Kd.R_nil _ _ _ _ _ | exact Kd.N_nil _ _ _ _ _ | exact Kd.V_nil _ _ _ _ _ | exact Kd.Q_nil _ _ _ _ _ | exact Kd.S_nil _ _ _ _ _⟩, ⟨by first | exact Kd.R_nil _ _ _ _ _ | exact Kd.N_nil _ _ _ _ _ | exact Kd.V_nil _ _ _ _ _ | exact Kd.Q_nil _ _ _ _ _ | exact Kd.S_nil _ _ _ _ _⟩, ⟨by (with_reducible repeat (first | refine blk_drewN ?_ _ | refine blk_drew ?_ | refine blk_alloc ?_ _)); exact BK368.out⟩, ⟨by (with_reducible repeat (first | refine blk_drewN ?_ _ | refine blk_drew ?_ | refine blk_alloc ?_ _)); exact BK369.out⟩, ⟨by repeat (first | (with_reducible first | exact HB.out | apply below_alloc | apply pw_below_drewN | apply below_drew1 | refine below_set ?_ GE368.out | refine below_set ?_ GE369.out) | exact HB.out)⟩⟩
 case round =>
  clear H'
  try clear c2
  try clear p2
  obtain ⟨x4_1, x370000_1, x370001_1, u370000, u370001, rfl, HA, HK1, HO_370000, HO_370001, BK368, BK369, HB⟩ := hrel
  cases gk with
  | zero => exact absurd HA.out (by simp [deaddroplaw8_Make.l0])
  | succ k1 =>
   have H := HA.out
   clear HA
   simp only [deaddroplaw8_Make.l0] at H
   have HC4 := Aside0.mk H
   clear H
   go_upto_region 3 with (fail)
   go_cut [14] (fun v14 wc => ∃ (kq : Nat) (x14_3 : Bool), v14 = .bool x14_3 ∧ Aside0 (deaddroplaw8_Make.j1 kq l0 x4_1 x14_3 x370000_1 x370001_1 = some (r1, r2)) ∧ Aside0 (kq ≤ k1) ∧ Aside0 (Kd.R k70 70 wc w.heap.size (fun _ => True) u370000 x370000_1) ∧ Aside0 (Kd.R k34 34 wc w.heap.size (fun _ => True) u370001 x370001_1) ∧ Aside0 (wc.heap[gb368]? = some (.cells #[(.slice none 0 0), (.slice none 0 0)] 28 (0, 0))) ∧ Aside0 (wc.heap[gb369]? = some (.cells #[u370000, u370001] 28 (0, 0))) ∧ Aside0 (Below w.heap.size w wc))
   case first =>
    have H := HC4.out
    clear HC4
    by_cases c5 : (wrap64 (x4_1 + 1)) < (l0.length : Int)
    ·
     rw [if_pos c5] at H
     have c5b0 : decide ((wrap64 (x4_1 + 1)) < (l0.length : Int)) = true := decide_eq_true c5
     clear c5
     (first | rw [c5b0] | (simp only [i64_w, i32_w]; rw [c5b0]) | skip)
     have H' := Aside0.mk H
     clear H
     go_wp2
     go_meet
     case rel => exact ⟨_, (decide (x4_1 < 80)), ok_, H', ⟨by have := HK1.out; first | omega | exact Nat.le_refl _⟩, ⟨by (with_reducible repeat (first | apply Kd.R_alloc | apply Kd.R_drewN | apply Kd.R_drew)); exact HO_370000.out⟩, ⟨by (with_reducible repeat (first | apply Kd.R_alloc | apply Kd.R_drewN | apply Kd.R_drew)); exact HO_370001.out⟩, ⟨by (with_reducible repeat (first | refine blk_drewN ?_ _ | refine blk_drew ?_ | refine blk_alloc ?_ _)); exact BK368.out⟩, ⟨by (with_reducible repeat (first | refine blk_drewN ?_ _ | refine blk_drew ?_ | refine blk_alloc ?_ _)); exact BK369.out⟩, ⟨by repeat (first | (with_reducible first | exact HB.out | apply below_alloc | apply pw_below_drewN | apply below_drew1 | refine below_set ?_ GE368.out | refine below_set ?_ GE369.out) | exact HB.out)⟩⟩
    ·
     rw [if_neg c5] at H
     have c5b0 : decide ((wrap64 (x4_1 + 1)) < (l0.length : Int)) = false := decide_eq_false c5
     clear c5
     (first | rw [c5b0] | (simp only [i64_w, i32_w]; rw [c5b0]) | skip)
     have H' := Aside0.mk H
     clear H
     go_wp2
     go_meet
     case rel => exact ⟨_, (false), ok_, H', ⟨by have := HK1.out; first | omega | exact Nat.le_refl _⟩, ⟨by (with_reducible repeat (first | apply Kd.R_alloc | apply Kd.R_drewN | apply Kd.R_drew)); exact HO_370000.out⟩, ⟨by (with_reducible repeat (first | apply Kd.R_alloc | apply Kd.R_drewN | apply Kd.R_drew)); exact HO_370001.out⟩, ⟨by (with_reducible repeat (first | refine blk_drewN ?_ _ | refine blk_drew ?_ | refine blk_alloc ?_ _)); exact BK368.out⟩, ⟨by (with_reducible repeat (first | refine blk_drewN ?_ _ | refine blk_drew ?_ | refine blk_alloc ?_ _)); exact BK369.out⟩, ⟨by repeat (first | (with_reducible first | exact HB.out | apply below_alloc | apply pw_below_drewN | apply below_drew1 | refine below_set ?_ GE368.out | refine below_set ?_ GE369.out) | exact HB.out)⟩⟩
   case rest =>
    clear HC4
    try clear c2
    try clear p2
    try clear c5
    try clear c5b0
    try clear p2
    obtain ⟨kq, x14_3, rfl, HA, HJ3, HO_370000, HO_370001, BK368, BK369, HB⟩ := hcut
    cases kq with
    | zero => exact absurd HA.out (by simp [deaddroplaw8_Make.j1])
    | succ kj3 =>
     have H := HA.out
     clear HA
     simp only [deaddroplaw8_Make.j1] at H
     by_cases c6 : x14_3 = true
     ·
      subst c6
      have H1 : (if 0 ≤ x4_1 then (if x4_1 < (l0.length : Int) then (if 0 ≤ (wrap64 (x4_1 + 1)) then (if (wrap64 (x4_1 + 1)) < (l0.length : Int) then ((deaddroplaw8_Op.f (rd l0 x4_1) (rd l0 (wrap64 (x4_1 + 1)))).bind fun bt373 => ((deaddropref7_Do.f kj3 x370000_1 x370001_1 (Int.tmod (wrap64 (Int.tdiv (wrap64 (rd l0 x4_1)) 16)) 4) bt373.1 bt373.2.1 bt373.2.2.1 bt373.2.2.2).bind fun bt377 => (if bt377.2.2 = 0 then ((deaddropref7_Join.f kj3 x370000_1 x370001_1 bt377.1 bt377.2.1).bind fun bt385 => (deaddroplaw8_Make.l0 kj3 l0 (wrap64 (x4_1 + 2)) bt385.1 bt385.2)) else (none)))) else (none)) else (none)) else (none)) else (none)) = some (r1, r2) := by rw [if_pos rfl] at H; exact H
      clear H
      have H := H1
      clear H1
      by_cases c7 : 0 ≤ x4_1
      rotate_left
      ·
       rw [if_neg c7] at H
       exact absurd H (by simp)
      rw [if_pos c7] at H
      have c7b0 : decide (0 ≤ x4_1) = true := decide_eq_true c7
      clear c7
      by_cases c8 : x4_1 < (l0.length : Int)
      rotate_left
      ·
       rw [if_neg c8] at H
       exact absurd H (by simp)
      rw [if_pos c8] at H
      have c8b0 : decide (x4_1 < (l0.length : Int)) = true := decide_eq_true c8
      clear c8
      obtain ⟨ji9, hji9⟩ : ∃ j_ : Int, (wrap64 (x4_1 + 1)) = j_ := ⟨_, rfl⟩
      replace H : (if 0 ≤ (ji9) then (if (ji9) < (l0.length : Int) then ((deaddroplaw8_Op.f (rd l0 x4_1) (rd l0 (ji9))).bind fun bt373 => ((deaddropref7_Do.f kj3 x370000_1 x370001_1 (Int.tmod (wrap64 (Int.tdiv (wrap64 (rd l0 x4_1)) 16)) 4) bt373.1 bt373.2.1 bt373.2.2.1 bt373.2.2.2).bind fun bt377 => (if bt377.2.2 = 0 then ((deaddropref7_Join.f kj3 x370000_1 x370001_1 bt377.1 bt377.2.1).bind fun bt385 => (deaddroplaw8_Make.l0 kj3 l0 (wrap64 (x4_1 + 2)) bt385.1 bt385.2)) else (none)))) else (none)) else (none)) = some (r1, r2) := by first | (rw [hji9] at H; exact H) | (simp only [hji9] at H ⊢; exact H)
      have hji9w : (IntKind.i64.wrap (x4_1 + 1)) = ji9 := (i64_w _).trans hji9
      by_cases c10 : 0 ≤ (ji9)
      rotate_left
      ·
       rw [if_neg c10] at H
       exact absurd H (by simp)
      rw [if_pos c10] at H
      have c10b0 : decide (0 ≤ (ji9)) = true := decide_eq_true c10
      clear c10
      by_cases c11 : (ji9) < (l0.length : Int)
      rotate_left
      ·
       rw [if_neg c11] at H
       exact absurd H (by simp)
      rw [if_pos c11] at H
      have c11b0 : decide ((ji9) < (l0.length : Int)) = true := decide_eq_true c11
      clear c11
      replace H := Option.bind_eq_some_iff.mp H
      obtain ⟨⟨t373, t374, t375, t376⟩, A120, H⟩ := H
      replace H : ((deaddropref7_Do.f kj3 x370000_1 x370001_1 (Int.tmod (wrap64 (Int.tdiv (wrap64 (rd l0 x4_1)) 16)) 4) t373 t374 t375 t376).bind fun bt377 => (if bt377.2.2 = 0 then ((deaddropref7_Join.f kj3 x370000_1 x370001_1 bt377.1 bt377.2.1).bind fun bt385 => (deaddroplaw8_Make.l0 kj3 l0 (wrap64 (x4_1 + 2)) bt385.1 bt385.2)) else (none))) = some (r1, r2) := H
      have A12 := Aside0.mk A120
      clear A120
      replace H := Option.bind_eq_some_iff.mp H
      obtain ⟨⟨t377, t380, t383⟩, A130, H⟩ := H
      replace H : (if t383 = 0 then ((deaddropref7_Join.f kj3 x370000_1 x370001_1 t377 t380).bind fun bt385 => (deaddroplaw8_Make.l0 kj3 l0 (wrap64 (x4_1 + 2)) bt385.1 bt385.2)) else (none)) = some (r1, r2) := H
      have A13 := Aside0.mk A130
      clear A130
      by_cases c14 : t383 = 0
      rotate_left
      ·
       rw [if_neg c14] at H
       exact absurd H (by simp)
      rw [if_pos c14] at H
      have c14b0 : (t383 == 0) = true := beq_iff_eq.mpr c14
      have c14b1 : (t383 != 0) = false := bne_eq_false_iff_eq.mpr c14
      clear c14
      replace H := Option.bind_eq_some_iff.mp H
      obtain ⟨⟨t385, t388⟩, A150, H⟩ := H
      replace H : (deaddroplaw8_Make.l0 kj3 l0 (wrap64 (x4_1 + 2)) t385 t388) = some (r1, r2) := H
      have A15 := Aside0.mk A150
      clear A150
      have H' := Aside0.mk H
      clear H
      obtain ⟨Ao16, co16, eo16⟩ := Kd.R_slice HO_370000.out
      subst eo16
      obtain ⟨Ao17, co17, eo17⟩ := Kd.R_slice HO_370001.out
      subst eo17
      try go_wp2
      replace HO_370000 := Aside0.mk (Kd.R_drew HO_370000.out)
      replace HO_370001 := Aside0.mk (Kd.R_drew HO_370001.out)
      replace BK368 := Aside0.mk (blk_drew BK368.out)
      replace BK369 := Aside0.mk (blk_drew BK369.out)
      replace HB := Aside0.mk (below_drew1 HB.out)
      have p370 : 0 ≤ (x4_1 : Int) := of_decide_eq_true as_
      have q370 : x4_1 < (l0.length : Int) := of_decide_eq_true as_
      obtain ⟨ad370, e370, hx370_0⟩ := Kd.at_int HR0.out x4_1 p370 q370
      have hw370_0 := hx370_0
      cases e370
      replace hx370_0 := (HB.out.cell (World.block_lt_of_cell? w _ hx370_0)).trans hx370_0
      replace p370 := eq_true p370
      replace q370 := eq_true q370
      have p371 : 0 ≤ (x4_1 : Int) := of_decide_eq_true as_
      have q371 : x4_1 < (l0.length : Int) := of_decide_eq_true as_
      obtain ⟨ad371, e371, hx371_0⟩ := Kd.at_int HR0.out x4_1 p371 q371
      have hw371_0 := hx371_0
      obtain rfl : ad370 = ad371 := (by injection e371)
      replace hx371_0 := (HB.out.cell (World.block_lt_of_cell? w _ hx371_0)).trans hx371_0
      replace p371 := eq_true p371
      replace q371 := eq_true q371
      have p372 : 0 ≤ ((ji9) : Int) := of_decide_eq_true as_
      have q372 : (ji9) < (l0.length : Int) := of_decide_eq_true as_
      obtain ⟨ad372, e372, hx372_0⟩ := Kd.at_int HR0.out (ji9) p372 q372
      have hw372_0 := hx372_0
      obtain rfl : ad370 = ad372 := (by injection e372)
      replace hx372_0 := (HB.out.cell (World.block_lt_of_cell? w _ hx372_0)).trans hx372_0
      replace p372 := eq_true p372
      replace q372 := eq_true q372
      refine start_ (n := 21) (S := fun w' => w'.cell? ⟨gb369, 0, none⟩ = some (.slice Ao16 x370000_1.length co16) ∧ w'.cell? ⟨gb369, 1, none⟩ = some (.slice Ao17 x370001_1.length co17) ∧ w'.cell? (ad370.add (x4_1).toNat) = some (.int .u8 (rd l0 x4_1)) ∧ w'.cell? (ad370.add (x4_1).toNat) = some (.int .u8 (rd l0 x4_1)) ∧ w'.cell? (ad370.add ((ji9)).toNat) = some (.int .u8 (rd l0 (ji9)))) (ds := []) (fl 0 21) (by kernel_rfl) rfl rfl ⟨(blk_cell BK369.out 0).trans rfl, (blk_cell BK369.out 1).trans rfl, (bc HB.out hw370_0), (bc HB.out hw371_0), (bc HB.out hw372_0)⟩ (fun hHeld => ?_); refine with_tabW deaddroplaw8_Make.tab5 deaddroplaw8_Make.bits5 (fun HT_ HW_ => ?_)
      generalize wc.drew = w18 at HO_370000 HO_370001 BK368 BK369 HB hx370_0 hx371_0 hx372_0 hHeld ⊢
      refine pure_ (i := 1) (N := some 18) #[false, true, false, false, false, false, false, false, false, false, false, false, false, false, false, false, false, false, false, false, false] rfl rfl (any_of HT_.out (by kernel_rfl)) (fun _ _ _ h => h) (Or.inl ⟨by rfl, py⟩) pa ?_
      refine pure_ (i := 2) (N := some 19) #[false, true, true, false, false, false, false, false, false, false, false, false, false, false, false, false, false, false, false, false, false] rfl rfl (any_of HT_.out (by kernel_rfl)) (fun _ _ _ h => h) (Or.inl ⟨by rfl, py⟩) pa ?_
      refine pure_ (i := 3) (N := some 20) #[false, true, true, true, false, false, false, false, false, false, false, false, false, false, false, false, false, false, false, false, false] rfl rfl (any_of HT_.out (by kernel_rfl)) (fun _ _ _ h => h) (Or.inl ⟨by rfl, py⟩) pa ?_
      refine pure_ (i := 8) (N := some 25) #[false, true, true, true, false, false, false, false, true, false, false, false, false, false, false, false, false, false, false, false, false] rfl rfl (any_of HT_.out (by kernel_rfl)) (fun _ _ _ h => h) (Or.inl ⟨by rfl, py⟩) pa ?_
      refine pure_ (i := 9) (N := some 26) #[false, true, true, true, false, false, false, false, true, true, false, false, false, false, false, false, false, false, false, false, false] rfl rfl (any_of HT_.out (by kernel_rfl)) (fun _ _ _ h => h) (Or.inl ⟨by rfl, py⟩) pa ?_
      refine pure_ (i := 10) (N := some 27) #[false, true, true, true, false, false, false, false, true, true, true, false, false, false, false, false, false, false, false, false, false] rfl rfl (any_of HT_.out (by kernel_rfl)) (fun _ _ _ h => h) (Or.inl ⟨by rfl, py⟩) pa ?_
      refine pure_ (i := 12) (N := some 29) #[false, true, true, true, false, false, false, false, true, true, true, false, true, false, false, false, false, false, false, false, false] rfl rfl (any_of HT_.out (by kernel_rfl)) (fun _ _ _ h => h) (Or.inl ⟨by rfl, py⟩) pa ?_
      refine pure_ (i := 13) (N := some 30) #[false, true, true, true, false, false, false, false, true, true, true, false, true, true, false, false, false, false, false, false, false] rfl rfl (any_of HT_.out (by kernel_rfl)) (fun _ _ _ h => h) (Or.inl ⟨by rfl, py⟩) pa ?_
      refine pure_ (i := 14) (N := some 31) #[false, true, true, true, false, false, false, false, true, true, true, false, true, true, true, false, false, false, false, false, false] rfl rfl (any_of HT_.out (by kernel_rfl)) (fun _ _ _ h => h) (Or.inl ⟨by rfl, py⟩) pa ?_
      refine pure_ (i := 15) (N := some 32) #[false, true, true, true, false, false, false, false, true, true, true, false, true, true, true, true, false, false, false, false, false] rfl rfl (any_of HT_.out (by kernel_rfl)) (fun _ _ _ h => h) (Or.inl ⟨by rfl, py⟩) pa ?_
      refine take_ (i := 0) (N := some 17) (v := ?_) (a' := ?_) #[true, true, true, true, false, false, false, false, true, true, true, false, true, true, true, true, false, false, false, false, false] rfl rfl (take_ofW HT_.out HW_.out (by kernel_rfl)) (fun _ _ _ h => h) (Or.inl ⟨by rfl, ?_⟩) hHeld ?_ ?_
      rotate_left
      ·
       rintro w' ⟨s0, s1, s2, s3, s4⟩
       go_simp
       with_reducible rfl
      rotate_left
      ·
       simp only [Act.put, List.setIfInBounds_toArray, List.set_cons_zero, List.set_cons_succ, i64_w, i32_w]
       rfl
      refine take_ (i := 4) (N := some 21) (v := ?_) (a' := ?_) #[true, true, true, true, true, false, false, false, true, true, true, false, true, true, true, true, false, false, false, false, false] rfl rfl (take_ofW HT_.out HW_.out (by kernel_rfl)) (fun _ _ _ h => h) (Or.inl ⟨by rfl, ?_⟩) hHeld ?_ ?_
      rotate_left
      ·
       rintro w' ⟨s0, s1, s2, s3, s4⟩
       go_simp
       with_reducible rfl
      rotate_left
      ·
       simp only [Act.put, List.setIfInBounds_toArray, List.set_cons_zero, List.set_cons_succ, i64_w, i32_w]
       rfl
      refine pure_ (i := 5) (N := some 22) #[true, true, true, true, true, true, false, false, true, true, true, false, true, true, true, true, false, false, false, false, false] rfl rfl (any_of HT_.out (by kernel_rfl)) (fun _ _ _ h => h) (Or.inl ⟨by rfl, py⟩) pa ?_
      refine pure_ (i := 6) (N := some 23) #[true, true, true, true, true, true, true, false, true, true, true, false, true, true, true, true, false, false, false, false, false] rfl rfl (any_of HT_.out (by kernel_rfl)) (fun _ _ _ h => h) (Or.inl ⟨by rfl, py⟩) pa ?_
      refine pure_ (i := 7) (N := some 24) #[true, true, true, true, true, true, true, true, true, true, true, false, true, true, true, true, false, false, false, false, false] rfl rfl (any_of HT_.out (by kernel_rfl)) (fun _ _ _ h => h) (Or.inl ⟨by rfl, py⟩) pa ?_
      refine take_ (i := 11) (N := some 28) (v := ?_) (a' := ?_) (fl 16 21) rfl rfl (take_ofW HT_.out HW_.out (by kernel_rfl)) (fun _ _ _ h => h) (Or.inl ⟨by rfl, ?_⟩) hHeld ?_ ?_
      rotate_left
      ·
       rintro w' ⟨s0, s1, s2, s3, s4⟩
       go_simp
       with_reducible rfl
      rotate_left
      ·
       simp only [Act.put, List.setIfInBounds_toArray, List.set_cons_zero, List.set_cons_succ, i64_w, i32_w]
       rfl
      refine take_ (i := 16) (N := some 33) (v := ?_) (a' := ?_) (fl 17 21) rfl rfl (take_ofW HT_.out HW_.out (by kernel_rfl)) (fun _ _ _ h => h) (Or.inl ⟨by rfl, ?_⟩) hHeld ?_ ?_
      rotate_left
      ·
       rintro w' ⟨s0, s1, s2, s3, s4⟩
       go_simp
       with_reducible rfl
      rotate_left
      ·
       simp only [Act.put, List.setIfInBounds_toArray, List.set_cons_zero, List.set_cons_succ, i64_w, i32_w]
       rfl
      refine join_ (σ := Value × Value × Nat) 1 (fl 20 21) (fun s_ => [(34, .agg #[.int .i64 t373, .string t374, .string t375, .int .i64 t376]), (35, .agg #[s_.1, s_.2.1, .int .i64 t383]), (5, .pointer (some ⟨s_.2.2, 0, none⟩))]) (fun s_ w' => (w'.cell? ⟨gb369, 0, none⟩ = some (.slice Ao16 x370000_1.length co16) ∧ w'.cell? ⟨gb369, 1, none⟩ = some (.slice Ao17 x370001_1.length co17) ∧ w'.cell? (ad370.add (x4_1).toNat) = some (.int .u8 (rd l0 x4_1)) ∧ w'.cell? (ad370.add (x4_1).toNat) = some (.int .u8 (rd l0 x4_1)) ∧ w'.cell? (ad370.add ((ji9)).toNat) = some (.int .u8 (rd l0 (ji9)))) ∧ (Kd.R k70 70 w' w.heap.size (fun k_ => some k_ ≠ (.slice Ao16 x370000_1.length co16 : Value).ownBlock) s_.1 t377) ∧ (Kd.R k34 34 w' w.heap.size (fun k_ => some k_ ≠ (.slice Ao17 x370001_1.length co17 : Value).ownBlock) s_.2.1 t380) ∧ (Kd.R k70 70 w' w.heap.size (fun k_ => some k_ ≠ (s_.1 : Value).ownBlock) (.slice Ao16 x370000_1.length co16) x370000_1) ∧ (Kd.R k34 34 w' w.heap.size (fun k_ => some k_ ≠ (s_.2.1 : Value).ownBlock) (.slice Ao17 x370001_1.length co17) x370001_1) ∧ (w'.heap[gb368]? = some (.cells #[.slice none 0 0, .slice none 0 0] 28 (0, 0))) ∧ (w'.heap[gb369]? = some (.cells #[.slice Ao16 x370000_1.length co16, .slice Ao17 x370001_1.length co17] 28 (0, 0))) ∧ (w'.heap[s_.2.2]? = some (.cells #[.slice none 0 0, .slice none 0 0, .int .i64 0] 43 (0, 0))) ∧ (w.heap.size ≤ s_.2.2) ∧ (w.heap.size ≤ s_.2.2) ∧ (gb368 ≠ s_.2.2) ∧ (s_.2.2 ≠ gb368) ∧ (gb369 ≠ s_.2.2) ∧ (s_.2.2 ≠ gb369) ∧ (Below w.heap.size w w')) ?_ ?_
      rotate_left
      ·
       intro hCont
       refine two_ (i := 17) (j := 19) (Ni := some 34) (Nj := some 5) (fl 18 21) #[true, true, true, true, true, true, true, true, true, true, true, true, true, true, true, true, true, false, false, true, false] rfl rfl rfl rfl (two_of HT_.out (by kernel_rfl)) (by decide) (by decide) (fun K hK => ?_) (fun K hK => ?_)
       ·
        skip
        refine goes_ Try.func12 (by kernel_rfl) rfl #[.int .u8 (rd l0 x4_1), .int .u8 (rd l0 (ji9))] (by rfl) rfl rfl (by (try simp only [List.map_toArray, List.map_cons, List.map_nil]); first | done | (simp only [hji9]; rfl) | rfl | (simp only [List.length_drop, List.length_take]; rfl)) ?_
        with_reducible refine (deaddroplaw8_Op.calls (rd l0 x4_1) (rd l0 (ji9)) t373 t374 t375 t376 _ A12.out).mono ?_
        rintro e w19 ⟨rfl, hb⟩
        refine ⟨_, rfl, ?_⟩
        replace HO_370000 := Aside0.mk (Kd.R_below (rk HO_370000.out) hb)
        replace HO_370001 := Aside0.mk (Kd.R_below (rk HO_370001.out) hb)
        replace BK368 := Aside0.mk (blk_below (g := gb368) (o := .cells #[.slice none 0 0, .slice none 0 0] 28 (0, 0)) (bk BK368.out) hb)
        replace BK369 := Aside0.mk (blk_below (g := gb369) (o := .cells #[.slice Ao16 x370000_1.length co16, .slice Ao17 x370001_1.length co17] 28 (0, 0)) (bk BK369.out) hb)
        replace HB := Aside0.mk (below_step (bw2 HB.out GE368.out GE369.out) hb)
        (try clear hb)
        (try clear hb2)
        (try clear hk)
        (try clear hi)
        refine hK.out _ _ ⟨(blk_cell BK369.out 0).trans rfl, (blk_cell BK369.out 1).trans rfl, (bc HB.out hw370_0), (bc HB.out hw371_0), (bc HB.out hw372_0)⟩ (fun hHeld => ?_)
        clear hK K
        refine norm_ (a' := ?_) ?_ ?_
        rotate_left
        ·
         show Act.put _ (some 34) _ = _
         simp only [Act.put, List.setIfInBounds_toArray, List.set_cons_zero, List.set_cons_succ, i64_w, i32_w]
         rfl
        refine two_ (i := 18) (j := 19) (Ni := some 35) (Nj := some 5) (fl 19 21) #[true, true, true, true, true, true, true, true, true, true, true, true, true, true, true, true, true, true, false, true, false] rfl rfl rfl rfl (two_of HT_.out (by kernel_rfl)) (by decide) (by decide) (fun K hK => ?_) (fun K hK => ?_)
        ·
         skip
         refine goes_ Try.func13 (by kernel_rfl) rfl #[.agg #[.slice Ao16 x370000_1.length co16, .slice Ao17 x370001_1.length co17], .int .i64 (Int.tmod (wrap64 (Int.tdiv (wrap64 (rd l0 x4_1)) 16)) 4), .agg #[.int .i64 t373, .string t374, .string t375, .int .i64 t376]] (by rfl) rfl rfl ar_ ?_
         with_reducible refine (deaddropref7_Do.calls kj3 _ _ x370000_1 _ _ x370001_1 (Int.tmod (wrap64 (Int.tdiv (wrap64 (rd l0 x4_1)) 16)) 4) t373 t374 t375 t376 t377 t380 t383 _ ?side1 ?side2 ?side3 ?side4 A13.out).mono ?_
         (case side1 => exact cr (Kd.R_reads' HO_370000.out).2.2)
         (case side2 => exact (Kd.R_reads' HO_370000.out).2.1)
         (case side3 => exact cr (Kd.R_reads' HO_370001.out).2.2)
         (case side4 => exact (Kd.R_reads' HO_370001.out).2.1)
         rintro e w20 ⟨v378, v381, rfl, ho0, ho1, hb⟩
         refine ⟨_, rfl, ?_⟩
         have HO379 := Aside0.mk (Kd.R_lower (Kd.R_new' ho0 (Kd.R_lt (rk HO_370000.out))) (below_size (bw2 HB.out GE368.out GE369.out)))
         replace HO_370000 := Aside0.mk (Kd.R_elder' (rk HO_370000.out) (Kd.R_base ho0) hb)
         have HO382 := Aside0.mk (Kd.R_lower (Kd.R_new' ho1 (Kd.R_lt (rk HO_370001.out))) (below_size (bw2 HB.out GE368.out GE369.out)))
         replace HO_370001 := Aside0.mk (Kd.R_elder' (rk HO_370001.out) (Kd.R_base ho1) hb)
         replace BK368 := Aside0.mk (blk_below (g := gb368) (o := .cells #[.slice none 0 0, .slice none 0 0] 28 (0, 0)) (bk BK368.out) hb)
         replace BK369 := Aside0.mk (blk_below (g := gb369) (o := .cells #[.slice Ao16 x370000_1.length co16, .slice Ao17 x370001_1.length co17] 28 (0, 0)) (bk BK369.out) hb)
         replace HB := Aside0.mk (below_step (bw2 HB.out GE368.out GE369.out) hb)
         (try clear hb)
         (try clear hb2)
         (try clear hk)
         (try clear hi)
         (try clear ho0)
         (try clear ho1)
         refine hK.out _ _ ⟨(blk_cell BK369.out 0).trans rfl, (blk_cell BK369.out 1).trans rfl, (bc HB.out hw370_0), (bc HB.out hw371_0), (bc HB.out hw372_0)⟩ (fun hHeld => ?_)
         clear hK K
         refine norm_ (a' := ?_) ?_ ?_
         rotate_left
         ·
          show Act.put _ (some 35) _ = _
          simp only [Act.put, List.setIfInBounds_toArray, List.set_cons_zero, List.set_cons_succ, i64_w, i32_w]
          rfl
         refine one_ (i := 19) (N := some 5) (fl 20 21) rfl rfl (one_of HT_.out (by kernel_rfl)) (by decide) (fun K hK => ?_)
         refine box_step ?hg (N := 5) ?hd (cs := #[.slice none 0 0, .slice none 0 0, .int .i64 0]) (t := 43) ?hr ?_; (case hd => rfl); (case hg => rfl); (case hr => first | (go_simp; done) | (go_simp; rfl))
         intro gb384 hg w21 hbox hb
         replace HO_370000 := Aside0.mk (Kd.R_below (rk HO_370000.out) hb)
         replace HO_370001 := Aside0.mk (Kd.R_below (rk HO_370001.out) hb)
         replace HO379 := Aside0.mk (Kd.R_below (rk HO379.out) hb)
         replace HO382 := Aside0.mk (Kd.R_below (rk HO382.out) hb)
         have BK384 := Aside0.mk (hbox)
         have GW384 := Aside0.mk ((by rw [hg]; exact (below_size (bw2 HB.out GE368.out GE369.out)) : w.heap.size ≤ gb384))
         have GE384 := Aside0.mk ((by rw [hg]; exact (below_size (bw2 HB.out GE368.out GE369.out)) : w.heap.size ≤ gb384))
         replace HB := Aside0.mk (below_step (bw2 HB.out GE368.out GE369.out) hb)
         have NB368_384 := Aside0.mk ((by rw [hg]; exact Nat.ne_of_lt (blk_lt (g := gb368) (o := .cells #[.slice none 0 0, .slice none 0 0] 28 (0, 0)) (bk BK368.out)) : gb368 ≠ gb384))
         have NB384_368 := Aside0.mk ((by rw [hg]; exact Nat.ne_of_gt (blk_lt (g := gb368) (o := .cells #[.slice none 0 0, .slice none 0 0] 28 (0, 0)) (bk BK368.out)) : gb384 ≠ gb368))
         replace BK368 := Aside0.mk (blk_below (g := gb368) (o := .cells #[.slice none 0 0, .slice none 0 0] 28 (0, 0)) (bk BK368.out) hb)
         have NB369_384 := Aside0.mk ((by rw [hg]; exact Nat.ne_of_lt (blk_lt (g := gb369) (o := .cells #[.slice Ao16 x370000_1.length co16, .slice Ao17 x370001_1.length co17] 28 (0, 0)) (bk BK369.out)) : gb369 ≠ gb384))
         have NB384_369 := Aside0.mk ((by rw [hg]; exact Nat.ne_of_gt (blk_lt (g := gb369) (o := .cells #[.slice Ao16 x370000_1.length co16, .slice Ao17 x370001_1.length co17] 28 (0, 0)) (bk BK369.out)) : gb384 ≠ gb369))
         replace BK369 := Aside0.mk (blk_below (g := gb369) (o := .cells #[.slice Ao16 x370000_1.length co16, .slice Ao17 x370001_1.length co17] 28 (0, 0)) (bk BK369.out) hb)
         clear hb hbox hg
         refine hK.out _ _ ⟨(blk_cell BK369.out 0).trans rfl, (blk_cell BK369.out 1).trans rfl, (bc HB.out hw370_0), (bc HB.out hw371_0), (bc HB.out hw372_0)⟩ (fun hHeld => ?_)
         clear hK K
         refine norm_ (a' := ?_) ?_ ?_
         rotate_left
         ·
          show Act.put _ (some 5) _ = _
          simp only [Act.put, List.setIfInBounds_toArray, List.set_cons_zero, List.set_cons_succ, i64_w, i32_w]
          rfl
         exact norm_ (by simp only [putAll, Act.put, List.setIfInBounds_toArray, List.set_cons_zero, List.set_cons_succ]) (hCont (v378, v381, gb384) _ ⟨hHeld, (by (with_reducible repeat (first | apply Kd.R_alloc | apply Kd.R_drewN | apply Kd.R_drew)); exact Kd.R_mono HO379.out (fun _ hk => hk.2)), (by (with_reducible repeat (first | apply Kd.R_alloc | apply Kd.R_drewN | apply Kd.R_drew)); exact Kd.R_mono HO382.out (fun _ hk => hk.2)), (by (with_reducible repeat (first | apply Kd.R_alloc | apply Kd.R_drewN | apply Kd.R_drew)); exact Kd.R_mono HO_370000.out (fun _ hk => hk.2)), (by (with_reducible repeat (first | apply Kd.R_alloc | apply Kd.R_drewN | apply Kd.R_drew)); exact Kd.R_mono HO_370001.out (fun _ hk => hk.2)), (bk BK368.out), (bk BK369.out), (bk BK384.out), GW384.out, GE384.out, NB368_384.out, NB384_368.out, NB369_384.out, NB384_369.out, (bw3 HB.out GE368.out GE369.out GE384.out)⟩)
        ·
         skip
         refine box_step ?hg (N := 5) ?hd (cs := #[.slice none 0 0, .slice none 0 0, .int .i64 0]) (t := 43) ?hr ?_; (case hd => rfl); (case hg => rfl); (case hr => first | (go_simp; done) | (go_simp; rfl))
         intro gb384 hg w20 hbox hb
         replace HO_370000 := Aside0.mk (Kd.R_below (rk HO_370000.out) hb)
         replace HO_370001 := Aside0.mk (Kd.R_below (rk HO_370001.out) hb)
         have BK384 := Aside0.mk (hbox)
         have GW384 := Aside0.mk ((by rw [hg]; exact (below_size (bw2 HB.out GE368.out GE369.out)) : w.heap.size ≤ gb384))
         have GE384 := Aside0.mk ((by rw [hg]; exact (below_size (bw2 HB.out GE368.out GE369.out)) : w.heap.size ≤ gb384))
         replace HB := Aside0.mk (below_step (bw2 HB.out GE368.out GE369.out) hb)
         have NB368_384 := Aside0.mk ((by rw [hg]; exact Nat.ne_of_lt (blk_lt (g := gb368) (o := .cells #[.slice none 0 0, .slice none 0 0] 28 (0, 0)) (bk BK368.out)) : gb368 ≠ gb384))
         have NB384_368 := Aside0.mk ((by rw [hg]; exact Nat.ne_of_gt (blk_lt (g := gb368) (o := .cells #[.slice none 0 0, .slice none 0 0] 28 (0, 0)) (bk BK368.out)) : gb384 ≠ gb368))
         replace BK368 := Aside0.mk (blk_below (g := gb368) (o := .cells #[.slice none 0 0, .slice none 0 0] 28 (0, 0)) (bk BK368.out) hb)
         have NB369_384 := Aside0.mk ((by rw [hg]; exact Nat.ne_of_lt (blk_lt (g := gb369) (o := .cells #[.slice Ao16 x370000_1.length co16, .slice Ao17 x370001_1.length co17] 28 (0, 0)) (bk BK369.out)) : gb369 ≠ gb384))
         have NB384_369 := Aside0.mk ((by rw [hg]; exact Nat.ne_of_gt (blk_lt (g := gb369) (o := .cells #[.slice Ao16 x370000_1.length co16, .slice Ao17 x370001_1.length co17] 28 (0, 0)) (bk BK369.out)) : gb384 ≠ gb369))
         replace BK369 := Aside0.mk (blk_below (g := gb369) (o := .cells #[.slice Ao16 x370000_1.length co16, .slice Ao17 x370001_1.length co17] 28 (0, 0)) (bk BK369.out) hb)
         clear hb hbox hg
         refine hK.out _ _ ⟨(blk_cell BK369.out 0).trans rfl, (blk_cell BK369.out 1).trans rfl, (bc HB.out hw370_0), (bc HB.out hw371_0), (bc HB.out hw372_0)⟩ (fun hHeld => ?_)
         clear hK K
         refine norm_ (a' := ?_) ?_ ?_
         rotate_left
         ·
          show Act.put _ (some 5) _ = _
          simp only [Act.put, List.setIfInBounds_toArray, List.set_cons_zero, List.set_cons_succ, i64_w, i32_w]
          rfl
         refine one_ (i := 18) (N := some 35) (fl 20 21) rfl rfl (one_of HT_.out (by kernel_rfl)) (by decide) (fun K hK => ?_)
         refine goes_ Try.func13 (by kernel_rfl) rfl #[.agg #[.slice Ao16 x370000_1.length co16, .slice Ao17 x370001_1.length co17], .int .i64 (Int.tmod (wrap64 (Int.tdiv (wrap64 (rd l0 x4_1)) 16)) 4), .agg #[.int .i64 t373, .string t374, .string t375, .int .i64 t376]] (by rfl) rfl rfl ar_ ?_
         with_reducible refine (deaddropref7_Do.calls kj3 _ _ x370000_1 _ _ x370001_1 (Int.tmod (wrap64 (Int.tdiv (wrap64 (rd l0 x4_1)) 16)) 4) t373 t374 t375 t376 t377 t380 t383 _ ?side1 ?side2 ?side3 ?side4 A13.out).mono ?_
         (case side1 => exact cr (Kd.R_reads' HO_370000.out).2.2)
         (case side2 => exact (Kd.R_reads' HO_370000.out).2.1)
         (case side3 => exact cr (Kd.R_reads' HO_370001.out).2.2)
         (case side4 => exact (Kd.R_reads' HO_370001.out).2.1)
         rintro e w21 ⟨v378, v381, rfl, ho0, ho1, hb⟩
         refine ⟨_, rfl, ?_⟩
         have HO379 := Aside0.mk (Kd.R_lower (Kd.R_new' ho0 (Kd.R_lt (rk HO_370000.out))) (below_size (bw3 HB.out GE368.out GE369.out GE384.out)))
         replace HO_370000 := Aside0.mk (Kd.R_elder' (rk HO_370000.out) (Kd.R_base ho0) hb)
         have HO382 := Aside0.mk (Kd.R_lower (Kd.R_new' ho1 (Kd.R_lt (rk HO_370001.out))) (below_size (bw3 HB.out GE368.out GE369.out GE384.out)))
         replace HO_370001 := Aside0.mk (Kd.R_elder' (rk HO_370001.out) (Kd.R_base ho1) hb)
         replace BK368 := Aside0.mk (blk_below (g := gb368) (o := .cells #[.slice none 0 0, .slice none 0 0] 28 (0, 0)) (bk BK368.out) hb)
         replace BK369 := Aside0.mk (blk_below (g := gb369) (o := .cells #[.slice Ao16 x370000_1.length co16, .slice Ao17 x370001_1.length co17] 28 (0, 0)) (bk BK369.out) hb)
         replace BK384 := Aside0.mk (blk_below (g := gb384) (o := .cells #[.slice none 0 0, .slice none 0 0, .int .i64 0] 43 (0, 0)) (bk BK384.out) hb)
         replace HB := Aside0.mk (below_step (bw3 HB.out GE368.out GE369.out GE384.out) hb)
         (try clear hb)
         (try clear hb2)
         (try clear hk)
         (try clear hi)
         (try clear ho0)
         (try clear ho1)
         refine hK.out _ _ ⟨(blk_cell BK369.out 0).trans rfl, (blk_cell BK369.out 1).trans rfl, (bc HB.out hw370_0), (bc HB.out hw371_0), (bc HB.out hw372_0)⟩ (fun hHeld => ?_)
         clear hK K
         refine norm_ (a' := ?_) ?_ ?_
         rotate_left
         ·
          show Act.put _ (some 35) _ = _
          simp only [Act.put, List.setIfInBounds_toArray, List.set_cons_zero, List.set_cons_succ, i64_w, i32_w]
          rfl
         exact norm_ (by simp only [putAll, Act.put, List.setIfInBounds_toArray, List.set_cons_zero, List.set_cons_succ]) (hCont (v378, v381, gb384) _ ⟨hHeld, (by (with_reducible repeat (first | apply Kd.R_alloc | apply Kd.R_drewN | apply Kd.R_drew)); exact Kd.R_mono HO379.out (fun _ hk => hk.2)), (by (with_reducible repeat (first | apply Kd.R_alloc | apply Kd.R_drewN | apply Kd.R_drew)); exact Kd.R_mono HO382.out (fun _ hk => hk.2)), (by (with_reducible repeat (first | apply Kd.R_alloc | apply Kd.R_drewN | apply Kd.R_drew)); exact Kd.R_mono HO_370000.out (fun _ hk => hk.2)), (by (with_reducible repeat (first | apply Kd.R_alloc | apply Kd.R_drewN | apply Kd.R_drew)); exact Kd.R_mono HO_370001.out (fun _ hk => hk.2)), (bk BK368.out), (bk BK369.out), (bk BK384.out), GW384.out, GE384.out, NB368_384.out, NB384_368.out, NB369_384.out, NB384_369.out, (bw3 HB.out GE368.out GE369.out GE384.out)⟩)
       ·
        skip
        refine box_step ?hg (N := 5) ?hd (cs := #[.slice none 0 0, .slice none 0 0, .int .i64 0]) (t := 43) ?hr ?_; (case hd => rfl); (case hg => rfl); (case hr => first | (go_simp; done) | (go_simp; rfl))
        intro gb384 hg w19 hbox hb
        replace HO_370000 := Aside0.mk (Kd.R_below (rk HO_370000.out) hb)
        replace HO_370001 := Aside0.mk (Kd.R_below (rk HO_370001.out) hb)
        have BK384 := Aside0.mk (hbox)
        have GW384 := Aside0.mk ((by rw [hg]; exact (below_size (bw2 HB.out GE368.out GE369.out)) : w.heap.size ≤ gb384))
        have GE384 := Aside0.mk ((by rw [hg]; exact (below_size (bw2 HB.out GE368.out GE369.out)) : w.heap.size ≤ gb384))
        replace HB := Aside0.mk (below_step (bw2 HB.out GE368.out GE369.out) hb)
        have NB368_384 := Aside0.mk ((by rw [hg]; exact Nat.ne_of_lt (blk_lt (g := gb368) (o := .cells #[.slice none 0 0, .slice none 0 0] 28 (0, 0)) (bk BK368.out)) : gb368 ≠ gb384))
        have NB384_368 := Aside0.mk ((by rw [hg]; exact Nat.ne_of_gt (blk_lt (g := gb368) (o := .cells #[.slice none 0 0, .slice none 0 0] 28 (0, 0)) (bk BK368.out)) : gb384 ≠ gb368))
        replace BK368 := Aside0.mk (blk_below (g := gb368) (o := .cells #[.slice none 0 0, .slice none 0 0] 28 (0, 0)) (bk BK368.out) hb)
        have NB369_384 := Aside0.mk ((by rw [hg]; exact Nat.ne_of_lt (blk_lt (g := gb369) (o := .cells #[.slice Ao16 x370000_1.length co16, .slice Ao17 x370001_1.length co17] 28 (0, 0)) (bk BK369.out)) : gb369 ≠ gb384))
        have NB384_369 := Aside0.mk ((by rw [hg]; exact Nat.ne_of_gt (blk_lt (g := gb369) (o := .cells #[.slice Ao16 x370000_1.length co16, .slice Ao17 x370001_1.length co17] 28 (0, 0)) (bk BK369.out)) : gb384 ≠ gb369))
        replace BK369 := Aside0.mk (blk_below (g := gb369) (o := .cells #[.slice Ao16 x370000_1.length co16, .slice Ao17 x370001_1.length co17] 28 (0, 0)) (bk BK369.out) hb)
        clear hb hbox hg
        refine hK.out _ _ ⟨(blk_cell BK369.out 0).trans rfl, (blk_cell BK369.out 1).trans rfl, (bc HB.out hw370_0), (bc HB.out hw371_0), (bc HB.out hw372_0)⟩ (fun hHeld => ?_)
        clear hK K
        refine norm_ (a' := ?_) ?_ ?_
        rotate_left
        ·
         show Act.put _ (some 5) _ = _
         simp only [Act.put, List.setIfInBounds_toArray, List.set_cons_zero, List.set_cons_succ, i64_w, i32_w]
         rfl
        refine one_ (i := 17) (N := some 34) #[true, true, true, true, true, true, true, true, true, true, true, true, true, true, true, true, true, true, false, true, false] rfl rfl (one_of HT_.out (by kernel_rfl)) (by decide) (fun K hK => ?_)
        refine goes_ Try.func12 (by kernel_rfl) rfl #[.int .u8 (rd l0 x4_1), .int .u8 (rd l0 (ji9))] (by rfl) rfl rfl (by (try simp only [List.map_toArray, List.map_cons, List.map_nil]); first | done | (simp only [hji9]; rfl) | rfl | (simp only [List.length_drop, List.length_take]; rfl)) ?_
        with_reducible refine (deaddroplaw8_Op.calls (rd l0 x4_1) (rd l0 (ji9)) t373 t374 t375 t376 _ A12.out).mono ?_
        rintro e w20 ⟨rfl, hb⟩
        refine ⟨_, rfl, ?_⟩
        replace HO_370000 := Aside0.mk (Kd.R_below (rk HO_370000.out) hb)
        replace HO_370001 := Aside0.mk (Kd.R_below (rk HO_370001.out) hb)
        replace BK368 := Aside0.mk (blk_below (g := gb368) (o := .cells #[.slice none 0 0, .slice none 0 0] 28 (0, 0)) (bk BK368.out) hb)
        replace BK369 := Aside0.mk (blk_below (g := gb369) (o := .cells #[.slice Ao16 x370000_1.length co16, .slice Ao17 x370001_1.length co17] 28 (0, 0)) (bk BK369.out) hb)
        replace BK384 := Aside0.mk (blk_below (g := gb384) (o := .cells #[.slice none 0 0, .slice none 0 0, .int .i64 0] 43 (0, 0)) (bk BK384.out) hb)
        replace HB := Aside0.mk (below_step (bw3 HB.out GE368.out GE369.out GE384.out) hb)
        (try clear hb)
        (try clear hb2)
        (try clear hk)
        (try clear hi)
        refine hK.out _ _ ⟨(blk_cell BK369.out 0).trans rfl, (blk_cell BK369.out 1).trans rfl, (bc HB.out hw370_0), (bc HB.out hw371_0), (bc HB.out hw372_0)⟩ (fun hHeld => ?_)
        clear hK K
        refine norm_ (a' := ?_) ?_ ?_
        rotate_left
        ·
         show Act.put _ (some 34) _ = _
         simp only [Act.put, List.setIfInBounds_toArray, List.set_cons_zero, List.set_cons_succ, i64_w, i32_w]
         rfl
        refine one_ (i := 18) (N := some 35) (fl 20 21) rfl rfl (one_of HT_.out (by kernel_rfl)) (by decide) (fun K hK => ?_)
        refine goes_ Try.func13 (by kernel_rfl) rfl #[.agg #[.slice Ao16 x370000_1.length co16, .slice Ao17 x370001_1.length co17], .int .i64 (Int.tmod (wrap64 (Int.tdiv (wrap64 (rd l0 x4_1)) 16)) 4), .agg #[.int .i64 t373, .string t374, .string t375, .int .i64 t376]] (by rfl) rfl rfl ar_ ?_
        with_reducible refine (deaddropref7_Do.calls kj3 _ _ x370000_1 _ _ x370001_1 (Int.tmod (wrap64 (Int.tdiv (wrap64 (rd l0 x4_1)) 16)) 4) t373 t374 t375 t376 t377 t380 t383 _ ?side1 ?side2 ?side3 ?side4 A13.out).mono ?_
        (case side1 => exact cr (Kd.R_reads' HO_370000.out).2.2)
        (case side2 => exact (Kd.R_reads' HO_370000.out).2.1)
        (case side3 => exact cr (Kd.R_reads' HO_370001.out).2.2)
        (case side4 => exact (Kd.R_reads' HO_370001.out).2.1)
        rintro e w21 ⟨v378, v381, rfl, ho0, ho1, hb⟩
        refine ⟨_, rfl, ?_⟩
        have HO379 := Aside0.mk (Kd.R_lower (Kd.R_new' ho0 (Kd.R_lt (rk HO_370000.out))) (below_size (bw3 HB.out GE368.out GE369.out GE384.out)))
        replace HO_370000 := Aside0.mk (Kd.R_elder' (rk HO_370000.out) (Kd.R_base ho0) hb)
        have HO382 := Aside0.mk (Kd.R_lower (Kd.R_new' ho1 (Kd.R_lt (rk HO_370001.out))) (below_size (bw3 HB.out GE368.out GE369.out GE384.out)))
        replace HO_370001 := Aside0.mk (Kd.R_elder' (rk HO_370001.out) (Kd.R_base ho1) hb)
        replace BK368 := Aside0.mk (blk_below (g := gb368) (o := .cells #[.slice none 0 0, .slice none 0 0] 28 (0, 0)) (bk BK368.out) hb)
        replace BK369 := Aside0.mk (blk_below (g := gb369) (o := .cells #[.slice Ao16 x370000_1.length co16, .slice Ao17 x370001_1.length co17] 28 (0, 0)) (bk BK369.out) hb)
        replace BK384 := Aside0.mk (blk_below (g := gb384) (o := .cells #[.slice none 0 0, .slice none 0 0, .int .i64 0] 43 (0, 0)) (bk BK384.out) hb)
        replace HB := Aside0.mk (below_step (bw3 HB.out GE368.out GE369.out GE384.out) hb)
        (try clear hb)
        (try clear hb2)
        (try clear hk)
        (try clear hi)
        (try clear ho0)
        (try clear ho1)
        refine hK.out _ _ ⟨(blk_cell BK369.out 0).trans rfl, (blk_cell BK369.out 1).trans rfl, (bc HB.out hw370_0), (bc HB.out hw371_0), (bc HB.out hw372_0)⟩ (fun hHeld => ?_)
        clear hK K
        refine norm_ (a' := ?_) ?_ ?_
        rotate_left
        ·
         show Act.put _ (some 35) _ = _
         simp only [Act.put, List.setIfInBounds_toArray, List.set_cons_zero, List.set_cons_succ, i64_w, i32_w]
         rfl
        exact norm_ (by simp only [putAll, Act.put, List.setIfInBounds_toArray, List.set_cons_zero, List.set_cons_succ]) (hCont (v378, v381, gb384) _ ⟨hHeld, (by (with_reducible repeat (first | apply Kd.R_alloc | apply Kd.R_drewN | apply Kd.R_drew)); exact Kd.R_mono HO379.out (fun _ hk => hk.2)), (by (with_reducible repeat (first | apply Kd.R_alloc | apply Kd.R_drewN | apply Kd.R_drew)); exact Kd.R_mono HO382.out (fun _ hk => hk.2)), (by (with_reducible repeat (first | apply Kd.R_alloc | apply Kd.R_drewN | apply Kd.R_drew)); exact Kd.R_mono HO_370000.out (fun _ hk => hk.2)), (by (with_reducible repeat (first | apply Kd.R_alloc | apply Kd.R_drewN | apply Kd.R_drew)); exact Kd.R_mono HO_370001.out (fun _ hk => hk.2)), (bk BK368.out), (bk BK369.out), (bk BK384.out), GW384.out, GE384.out, NB368_384.out, NB384_368.out, NB369_384.out, NB384_369.out, (bw3 HB.out GE368.out GE369.out GE384.out)⟩)
      rintro ⟨v378, v381, gb384⟩ w22 ⟨hS_, h0_, h1_, h2_, h3_, h4_, h5_, h6_, h7_, h8_, h9_, h10_, h11_, h12_, h13_⟩
      have n0_ : Aside0 (Kd.R k70 70 w22 w.heap.size (fun k_ => some k_ ≠ (.slice Ao16 x370000_1.length co16 : Value).ownBlock) v378 t377) := ⟨h0_⟩
      have n1_ : Aside0 (Kd.R k34 34 w22 w.heap.size (fun k_ => some k_ ≠ (.slice Ao17 x370001_1.length co17 : Value).ownBlock) v381 t380) := ⟨h1_⟩
      have n2_ : Aside0 (Kd.R k70 70 w22 w.heap.size (fun k_ => some k_ ≠ (v378 : Value).ownBlock) (.slice Ao16 x370000_1.length co16) x370000_1) := ⟨h2_⟩
      have n3_ : Aside0 (Kd.R k34 34 w22 w.heap.size (fun k_ => some k_ ≠ (v381 : Value).ownBlock) (.slice Ao17 x370001_1.length co17) x370001_1) := ⟨h3_⟩
      have n4_ : Aside0 (w22.heap[gb368]? = some (.cells #[.slice none 0 0, .slice none 0 0] 28 (0, 0))) := ⟨h4_⟩
      have n5_ : Aside0 (w22.heap[gb369]? = some (.cells #[.slice Ao16 x370000_1.length co16, .slice Ao17 x370001_1.length co17] 28 (0, 0))) := ⟨h5_⟩
      have n6_ : Aside0 (w22.heap[gb384]? = some (.cells #[.slice none 0 0, .slice none 0 0, .int .i64 0] 43 (0, 0))) := ⟨h6_⟩
      have n7_ : Aside0 (w.heap.size ≤ gb384) := ⟨h7_⟩
      have n8_ : Aside0 (w.heap.size ≤ gb384) := ⟨h8_⟩
      have n9_ : Aside0 (gb368 ≠ gb384) := ⟨h9_⟩
      have n10_ : Aside0 (gb384 ≠ gb368) := ⟨h10_⟩
      have n11_ : Aside0 (gb369 ≠ gb384) := ⟨h11_⟩
      have n12_ : Aside0 (gb384 ≠ gb369) := ⟨h12_⟩
      have n13_ : Aside0 (Below w.heap.size w w22) := ⟨h13_⟩
      clear HO_370000
      clear HO_370001
      clear BK368
      clear BK369
      clear HB
      clear h0_ h1_ h2_ h3_ h4_ h5_ h6_ h7_ h8_ h9_ h10_ h11_ h12_ h13_
      have HO379 := n0_
      have HO382 := n1_
      have HO_370000 := n2_
      have HO_370001 := n3_
      have BK368 := n4_
      have BK369 := n5_
      have BK384 := n6_
      have GW384 := n7_
      have GE384 := n8_
      have NB368_384 := n9_
      have NB384_368 := n10_
      have NB369_384 := n11_
      have NB384_369 := n12_
      have HB := n13_
      clear n0_ n1_ n2_ n3_ n4_ n5_ n6_ n7_ n8_ n9_ n10_ n11_ n12_ n13_
      have hHeld : w22.cell? ⟨gb369, 0, none⟩ = some (.slice Ao16 x370000_1.length co16) ∧ w22.cell? ⟨gb369, 1, none⟩ = some (.slice Ao17 x370001_1.length co17) ∧ w22.cell? (ad370.add (x4_1).toNat) = some (.int .u8 (rd l0 x4_1)) ∧ w22.cell? (ad370.add (x4_1).toNat) = some (.int .u8 (rd l0 x4_1)) ∧ w22.cell? (ad370.add ((ji9)).toNat) = some (.int .u8 (rd l0 (ji9))) := hS_
      obtain ⟨Ao23, co23, eo23⟩ := Kd.R_slice HO379.out
      (first | subst eo23 | (injection eo23 with f1_ f2_ f3_; have f4_ := f1_.symm; have f5_ := f3_.symm; clear f1_ f2_ f3_; subst f4_; subst f5_))
      obtain ⟨Ao25, co25, eo25⟩ := Kd.R_slice HO382.out
      (first | subst eo25 | (injection eo25 with f1_ f2_ f3_; have f4_ := f1_.symm; have f5_ := f3_.symm; clear f1_ f2_ f3_; subst f4_; subst f5_))
      refine norm_ (a' := ?_) ?_ ?_
      rotate_left
      ·
       simp only [putAll, Act.put, List.setIfInBounds_toArray, List.set_cons_zero, List.set_cons_succ]
       rfl
      refine one_ (i := 20) (N := none) (fl 21 21) rfl rfl (one_of HT_.out (by kernel_rfl)) (by decide) (fun K hK => ?_)
      have hs24 : w22.cell? ⟨gb384, 0, none⟩ = some (.slice none 0 0) := (blk_cell BK384.out 0).trans rfl
      have hfs24 := blk_frozen BK384.out 0
      have hns24_0 := NB368_384.out
      have hns24_1 := NB369_384.out
      have hms24_0 := NB384_368.out
      have hms24_1 := NB384_369.out
      have hs26 : w22.cell? ⟨gb384, 1, none⟩ = some (.slice none 0 0) := (blk_cell BK384.out 1).trans rfl
      have hfs26 := blk_frozen BK384.out 1
      have hns26_0 := NB368_384.out
      have hns26_1 := NB369_384.out
      have hms26_0 := NB384_368.out
      have hms26_1 := NB384_369.out
      have hs27 : w22.cell? ⟨gb384, 2, none⟩ = some (.int .i64 0) := (blk_cell BK384.out 2).trans rfl
      have hfs27 := blk_frozen BK384.out 2
      have hns27_0 := NB368_384.out
      have hns27_1 := NB369_384.out
      have hms27_0 := NB384_368.out
      have hms27_1 := NB384_369.out
      refine skip_ (w1 := ?_) (by rfl) rfl ?_ ?_
      rotate_left
      ·
       go_simp
       rfl
      refine hK.out _ _ ⟨((cell_far (p := ⟨gb384, _, none⟩) NB369_384.out _).trans (((cell_far (p := ⟨gb384, _, none⟩) NB369_384.out _).trans (((cell_far (p := ⟨gb384, _, none⟩) NB369_384.out _).trans (hHeld.1)))))), ((cell_far (p := ⟨gb384, _, none⟩) NB369_384.out _).trans (((cell_far (p := ⟨gb384, _, none⟩) NB369_384.out _).trans (((cell_far (p := ⟨gb384, _, none⟩) NB369_384.out _).trans (hHeld.2.1)))))), ((cell_far (p := ⟨gb384, _, none⟩) (by first | exact Nat.ne_of_lt (Nat.lt_of_lt_of_le (by have := World.block_lt_of_cell? _ _ hw370_0; first | rwa [add_block] at this | exact this) GW384.out) | (rw [add_block]; exact Nat.ne_of_lt (Nat.lt_of_lt_of_le (by have := World.block_lt_of_cell? _ _ hw370_0; first | rwa [add_block] at this | exact this) GW384.out)) | (show (Addr.add _ _).block ≠ _; rw [add_block]; exact Nat.ne_of_lt (Nat.lt_of_lt_of_le (by have := World.block_lt_of_cell? _ _ hw370_0; first | rwa [add_block] at this | exact this) GW384.out)) | (dsimp only; exact Nat.ne_of_lt (Nat.lt_of_lt_of_le (by have := World.block_lt_of_cell? _ _ hw370_0; first | rwa [add_block] at this | exact this) GW384.out))) _).trans (((cell_far (p := ⟨gb384, _, none⟩) (by first | exact Nat.ne_of_lt (Nat.lt_of_lt_of_le (by have := World.block_lt_of_cell? _ _ hw370_0; first | rwa [add_block] at this | exact this) GW384.out) | (rw [add_block]; exact Nat.ne_of_lt (Nat.lt_of_lt_of_le (by have := World.block_lt_of_cell? _ _ hw370_0; first | rwa [add_block] at this | exact this) GW384.out)) | (show (Addr.add _ _).block ≠ _; rw [add_block]; exact Nat.ne_of_lt (Nat.lt_of_lt_of_le (by have := World.block_lt_of_cell? _ _ hw370_0; first | rwa [add_block] at this | exact this) GW384.out)) | (dsimp only; exact Nat.ne_of_lt (Nat.lt_of_lt_of_le (by have := World.block_lt_of_cell? _ _ hw370_0; first | rwa [add_block] at this | exact this) GW384.out))) _).trans (((cell_far (p := ⟨gb384, _, none⟩) (by first | exact Nat.ne_of_lt (Nat.lt_of_lt_of_le (by have := World.block_lt_of_cell? _ _ hw370_0; first | rwa [add_block] at this | exact this) GW384.out) | (rw [add_block]; exact Nat.ne_of_lt (Nat.lt_of_lt_of_le (by have := World.block_lt_of_cell? _ _ hw370_0; first | rwa [add_block] at this | exact this) GW384.out)) | (show (Addr.add _ _).block ≠ _; rw [add_block]; exact Nat.ne_of_lt (Nat.lt_of_lt_of_le (by have := World.block_lt_of_cell? _ _ hw370_0; first | rwa [add_block] at this | exact this) GW384.out)) | (dsimp only; exact Nat.ne_of_lt (Nat.lt_of_lt_of_le (by have := World.block_lt_of_cell? _ _ hw370_0; first | rwa [add_block] at this | exact this) GW384.out))) _).trans (hHeld.2.2.1)))))), ((cell_far (p := ⟨gb384, _, none⟩) (by first | exact Nat.ne_of_lt (Nat.lt_of_lt_of_le (by have := World.block_lt_of_cell? _ _ hw371_0; first | rwa [add_block] at this | exact this) GW384.out) | (rw [add_block]; exact Nat.ne_of_lt (Nat.lt_of_lt_of_le (by have := World.block_lt_of_cell? _ _ hw371_0; first | rwa [add_block] at this | exact this) GW384.out)) | (show (Addr.add _ _).block ≠ _; rw [add_block]; exact Nat.ne_of_lt (Nat.lt_of_lt_of_le (by have := World.block_lt_of_cell? _ _ hw371_0; first | rwa [add_block] at this | exact this) GW384.out)) | (dsimp only; exact Nat.ne_of_lt (Nat.lt_of_lt_of_le (by have := World.block_lt_of_cell? _ _ hw371_0; first | rwa [add_block] at this | exact this) GW384.out))) _).trans (((cell_far (p := ⟨gb384, _, none⟩) (by first | exact Nat.ne_of_lt (Nat.lt_of_lt_of_le (by have := World.block_lt_of_cell? _ _ hw371_0; first | rwa [add_block] at this | exact this) GW384.out) | (rw [add_block]; exact Nat.ne_of_lt (Nat.lt_of_lt_of_le (by have := World.block_lt_of_cell? _ _ hw371_0; first | rwa [add_block] at this | exact this) GW384.out)) | (show (Addr.add _ _).block ≠ _; rw [add_block]; exact Nat.ne_of_lt (Nat.lt_of_lt_of_le (by have := World.block_lt_of_cell? _ _ hw371_0; first | rwa [add_block] at this | exact this) GW384.out)) | (dsimp only; exact Nat.ne_of_lt (Nat.lt_of_lt_of_le (by have := World.block_lt_of_cell? _ _ hw371_0; first | rwa [add_block] at this | exact this) GW384.out))) _).trans (((cell_far (p := ⟨gb384, _, none⟩) (by first | exact Nat.ne_of_lt (Nat.lt_of_lt_of_le (by have := World.block_lt_of_cell? _ _ hw371_0; first | rwa [add_block] at this | exact this) GW384.out) | (rw [add_block]; exact Nat.ne_of_lt (Nat.lt_of_lt_of_le (by have := World.block_lt_of_cell? _ _ hw371_0; first | rwa [add_block] at this | exact this) GW384.out)) | (show (Addr.add _ _).block ≠ _; rw [add_block]; exact Nat.ne_of_lt (Nat.lt_of_lt_of_le (by have := World.block_lt_of_cell? _ _ hw371_0; first | rwa [add_block] at this | exact this) GW384.out)) | (dsimp only; exact Nat.ne_of_lt (Nat.lt_of_lt_of_le (by have := World.block_lt_of_cell? _ _ hw371_0; first | rwa [add_block] at this | exact this) GW384.out))) _).trans (hHeld.2.2.2.1)))))), ((cell_far (p := ⟨gb384, _, none⟩) (by first | exact Nat.ne_of_lt (Nat.lt_of_lt_of_le (by have := World.block_lt_of_cell? _ _ hw372_0; first | rwa [add_block] at this | exact this) GW384.out) | (rw [add_block]; exact Nat.ne_of_lt (Nat.lt_of_lt_of_le (by have := World.block_lt_of_cell? _ _ hw372_0; first | rwa [add_block] at this | exact this) GW384.out)) | (show (Addr.add _ _).block ≠ _; rw [add_block]; exact Nat.ne_of_lt (Nat.lt_of_lt_of_le (by have := World.block_lt_of_cell? _ _ hw372_0; first | rwa [add_block] at this | exact this) GW384.out)) | (dsimp only; exact Nat.ne_of_lt (Nat.lt_of_lt_of_le (by have := World.block_lt_of_cell? _ _ hw372_0; first | rwa [add_block] at this | exact this) GW384.out))) _).trans (((cell_far (p := ⟨gb384, _, none⟩) (by first | exact Nat.ne_of_lt (Nat.lt_of_lt_of_le (by have := World.block_lt_of_cell? _ _ hw372_0; first | rwa [add_block] at this | exact this) GW384.out) | (rw [add_block]; exact Nat.ne_of_lt (Nat.lt_of_lt_of_le (by have := World.block_lt_of_cell? _ _ hw372_0; first | rwa [add_block] at this | exact this) GW384.out)) | (show (Addr.add _ _).block ≠ _; rw [add_block]; exact Nat.ne_of_lt (Nat.lt_of_lt_of_le (by have := World.block_lt_of_cell? _ _ hw372_0; first | rwa [add_block] at this | exact this) GW384.out)) | (dsimp only; exact Nat.ne_of_lt (Nat.lt_of_lt_of_le (by have := World.block_lt_of_cell? _ _ hw372_0; first | rwa [add_block] at this | exact this) GW384.out))) _).trans (((cell_far (p := ⟨gb384, _, none⟩) (by first | exact Nat.ne_of_lt (Nat.lt_of_lt_of_le (by have := World.block_lt_of_cell? _ _ hw372_0; first | rwa [add_block] at this | exact this) GW384.out) | (rw [add_block]; exact Nat.ne_of_lt (Nat.lt_of_lt_of_le (by have := World.block_lt_of_cell? _ _ hw372_0; first | rwa [add_block] at this | exact this) GW384.out)) | (show (Addr.add _ _).block ≠ _; rw [add_block]; exact Nat.ne_of_lt (Nat.lt_of_lt_of_le (by have := World.block_lt_of_cell? _ _ hw372_0; first | rwa [add_block] at this | exact this) GW384.out)) | (dsimp only; exact Nat.ne_of_lt (Nat.lt_of_lt_of_le (by have := World.block_lt_of_cell? _ _ hw372_0; first | rwa [add_block] at this | exact this) GW384.out))) _).trans (hHeld.2.2.2.2))))))⟩ (fun hHeld => ?_)
      clear hK K
      refine done_ (done_of HT_.out (by kernel_rfl)) ?_
      have hnb28 := NB384_368.out
      have hnc28 := NB368_384.out
      have hnb29 := NB384_369.out
      have hnc29 := NB369_384.out
      have hcz30_0 : w22.cell? ⟨gb384, 0, none⟩ = some (.slice none 0 0) := (blk_cell BK384.out 0).trans rfl
      have hcz30_1 : w22.cell? ⟨gb384, 1, none⟩ = some (.slice none 0 0) := (blk_cell BK384.out 1).trans rfl
      have hcz30_2 : w22.cell? ⟨gb384, 2, none⟩ = some (.int .i64 0) := (blk_cell BK384.out 2).trans rfl
      have hfz30_0 := blk_frozen BK384.out 0
      have hfz30_1 := blk_frozen BK384.out 1
      have hfz30_2 := blk_frozen BK384.out 2
      have hnb31 := NB369_368.out
      have hnc31 := NB368_369.out
      have hcz32_0 : w22.cell? ⟨gb369, 0, none⟩ = some (.slice Ao16 x370000_1.length co16) := (blk_cell BK369.out 0).trans rfl
      have hcz32_1 : w22.cell? ⟨gb369, 1, none⟩ = some (.slice Ao17 x370001_1.length co17) := (blk_cell BK369.out 1).trans rfl
      have hfz32_0 := blk_frozen BK369.out 0
      have hfz32_1 := blk_frozen BK369.out 1
      try go_wp2_with (first | ((with_reducible refine gate_callee (f := 8) rfl ?_); refine goesL_ (some 42) rfl rfl Try.func8 (by kernel_rfl) rfl #[.agg #[.slice Ao16 x370000_1.length co16, .slice Ao17 x370001_1.length co17], .agg #[.slice Ao23 t377.length co23, .slice Ao25 t380.length co25]] rfl ar_ ?_; (with_reducible refine (deaddropref7_Join.calls kj3 _ _ x370000_1 _ _ x370001_1 _ _ t377 _ _ t380 t385 t388 _ ?side1 ?side2 ?side3 ?side4 ?side5 ?side6 ?side7 ?side8 A15.out).mono ?_); (case side1 => refine (Kd.R_reads' (e := 70) (base := w.heap.size) (ok := fun k_ => some k_ ≠ (.slice Ao23 t377.length co23 : Value).ownBlock) (n := x370000_1.length) (c := co16) ?_).2.2; exact (by (with_reducible repeat (first | apply Kd.R_alloc | apply Kd.R_drewN | apply Kd.R_drew)); exact (Kd.R_mono (Kd.R_far (p := ⟨gb384, 2, none⟩) (Kd.R_far (p := ⟨gb384, 1, none⟩) (Kd.R_far (p := ⟨gb384, 0, none⟩) (Kd.R_types HO_370000.out BK384.out (by decide)) (fun _ hk => hk.2) (.slice Ao23 t377.length co23)) (fun _ hk => hk.2) (.slice Ao25 t380.length co25)) (fun _ hk => hk.2) (.int .i64 t383)) (fun _ h_ => h_.1)))); (case side2 => exact (Kd.R_reads' HO_370000.out).2.1); (case side3 => refine (Kd.R_reads' (e := 34) (base := w.heap.size) (ok := fun k_ => some k_ ≠ (.slice Ao25 t380.length co25 : Value).ownBlock) (n := x370001_1.length) (c := co17) ?_).2.2; exact (by (with_reducible repeat (first | apply Kd.R_alloc | apply Kd.R_drewN | apply Kd.R_drew)); exact (Kd.R_mono (Kd.R_far (p := ⟨gb384, 2, none⟩) (Kd.R_far (p := ⟨gb384, 1, none⟩) (Kd.R_far (p := ⟨gb384, 0, none⟩) (Kd.R_types HO_370001.out BK384.out (by decide)) (fun _ hk => hk.2) (.slice Ao23 t377.length co23)) (fun _ hk => hk.2) (.slice Ao25 t380.length co25)) (fun _ hk => hk.2) (.int .i64 t383)) (fun _ h_ => h_.1)))); (case side4 => exact (Kd.R_reads' HO_370001.out).2.1); (case side5 => refine (Kd.R_reads' (e := 70) (base := w.heap.size) (ok := fun k_ => some k_ ≠ (.slice Ao16 x370000_1.length co16 : Value).ownBlock) (n := t377.length) (c := co23) ?_).2.2; exact (by (with_reducible repeat (first | apply Kd.R_alloc | apply Kd.R_drewN | apply Kd.R_drew)); exact (Kd.R_mono (Kd.R_far (p := ⟨gb384, 2, none⟩) (Kd.R_far (p := ⟨gb384, 1, none⟩) (Kd.R_far (p := ⟨gb384, 0, none⟩) (Kd.R_types HO379.out BK384.out (by decide)) (fun _ hk => hk.2) (.slice Ao23 t377.length co23)) (fun _ hk => hk.2) (.slice Ao25 t380.length co25)) (fun _ hk => hk.2) (.int .i64 t383)) (fun _ h_ => h_.1)))); (case side6 => exact (Kd.R_reads' HO379.out).2.1); (case side7 => refine (Kd.R_reads' (e := 34) (base := w.heap.size) (ok := fun k_ => some k_ ≠ (.slice Ao17 x370001_1.length co17 : Value).ownBlock) (n := t380.length) (c := co25) ?_).2.2; exact (by (with_reducible repeat (first | apply Kd.R_alloc | apply Kd.R_drewN | apply Kd.R_drew)); exact (Kd.R_mono (Kd.R_far (p := ⟨gb384, 2, none⟩) (Kd.R_far (p := ⟨gb384, 1, none⟩) (Kd.R_far (p := ⟨gb384, 0, none⟩) (Kd.R_types HO382.out BK384.out (by decide)) (fun _ hk => hk.2) (.slice Ao23 t377.length co23)) (fun _ hk => hk.2) (.slice Ao25 t380.length co25)) (fun _ hk => hk.2) (.int .i64 t383)) (fun _ h_ => h_.1)))); (case side8 => exact (Kd.R_reads' HO382.out).2.1); rintro e w33 ⟨v386, v389, rfl, ho0, ho1, hb⟩; refine ⟨_, rfl, ?_⟩; have HO387 := Aside0.mk (Kd.R_lower (Kd.R_new' (Kd.R_new' ho0 (Kd.R_lt (by (with_reducible repeat (first | apply Kd.R_alloc | apply Kd.R_drewN | apply Kd.R_drew)); exact (Kd.R_mono (Kd.R_far (p := ⟨gb384, 2, none⟩) (Kd.R_far (p := ⟨gb384, 1, none⟩) (Kd.R_far (p := ⟨gb384, 0, none⟩) (Kd.R_types HO_370000.out BK384.out (by decide)) (fun _ hk => hk.2) (.slice Ao23 t377.length co23)) (fun _ hk => hk.2) (.slice Ao25 t380.length co25)) (fun _ hk => hk.2) (.int .i64 t383)) (fun _ h_ => h_.1))))) (Kd.R_lt (by (with_reducible repeat (first | apply Kd.R_alloc | apply Kd.R_drewN | apply Kd.R_drew)); exact (Kd.R_mono (Kd.R_far (p := ⟨gb384, 2, none⟩) (Kd.R_far (p := ⟨gb384, 1, none⟩) (Kd.R_far (p := ⟨gb384, 0, none⟩) (Kd.R_types HO379.out BK384.out (by decide)) (fun _ hk => hk.2) (.slice Ao23 t377.length co23)) (fun _ hk => hk.2) (.slice Ao25 t380.length co25)) (fun _ hk => hk.2) (.int .i64 t383)) (fun _ h_ => h_.1))))) (below_size (bw3 HB.out GE368.out GE369.out GE384.out))); replace HO_370000 := Aside0.mk (Kd.R_elder' (by (with_reducible repeat (first | apply Kd.R_alloc | apply Kd.R_drewN | apply Kd.R_drew)); exact (Kd.R_mono (Kd.R_far (p := ⟨gb384, 2, none⟩) (Kd.R_far (p := ⟨gb384, 1, none⟩) (Kd.R_far (p := ⟨gb384, 0, none⟩) (Kd.R_types HO_370000.out BK384.out (by decide)) (fun _ hk => hk.2) (.slice Ao23 t377.length co23)) (fun _ hk => hk.2) (.slice Ao25 t380.length co25)) (fun _ hk => hk.2) (.int .i64 t383)) (fun _ h_ => h_.1))) (Kd.R_base ho0) hb); replace HO379 := Aside0.mk (Kd.R_elder' (by (with_reducible repeat (first | apply Kd.R_alloc | apply Kd.R_drewN | apply Kd.R_drew)); exact (Kd.R_mono (Kd.R_far (p := ⟨gb384, 2, none⟩) (Kd.R_far (p := ⟨gb384, 1, none⟩) (Kd.R_far (p := ⟨gb384, 0, none⟩) (Kd.R_types HO379.out BK384.out (by decide)) (fun _ hk => hk.2) (.slice Ao23 t377.length co23)) (fun _ hk => hk.2) (.slice Ao25 t380.length co25)) (fun _ hk => hk.2) (.int .i64 t383)) (fun _ h_ => h_.1))) (Kd.R_base ho0) hb); have HO390 := Aside0.mk (Kd.R_lower (Kd.R_new' (Kd.R_new' ho1 (Kd.R_lt (by (with_reducible repeat (first | apply Kd.R_alloc | apply Kd.R_drewN | apply Kd.R_drew)); exact (Kd.R_mono (Kd.R_far (p := ⟨gb384, 2, none⟩) (Kd.R_far (p := ⟨gb384, 1, none⟩) (Kd.R_far (p := ⟨gb384, 0, none⟩) (Kd.R_types HO_370001.out BK384.out (by decide)) (fun _ hk => hk.2) (.slice Ao23 t377.length co23)) (fun _ hk => hk.2) (.slice Ao25 t380.length co25)) (fun _ hk => hk.2) (.int .i64 t383)) (fun _ h_ => h_.1))))) (Kd.R_lt (by (with_reducible repeat (first | apply Kd.R_alloc | apply Kd.R_drewN | apply Kd.R_drew)); exact (Kd.R_mono (Kd.R_far (p := ⟨gb384, 2, none⟩) (Kd.R_far (p := ⟨gb384, 1, none⟩) (Kd.R_far (p := ⟨gb384, 0, none⟩) (Kd.R_types HO382.out BK384.out (by decide)) (fun _ hk => hk.2) (.slice Ao23 t377.length co23)) (fun _ hk => hk.2) (.slice Ao25 t380.length co25)) (fun _ hk => hk.2) (.int .i64 t383)) (fun _ h_ => h_.1))))) (below_size (bw3 HB.out GE368.out GE369.out GE384.out))); replace HO_370001 := Aside0.mk (Kd.R_elder' (by (with_reducible repeat (first | apply Kd.R_alloc | apply Kd.R_drewN | apply Kd.R_drew)); exact (Kd.R_mono (Kd.R_far (p := ⟨gb384, 2, none⟩) (Kd.R_far (p := ⟨gb384, 1, none⟩) (Kd.R_far (p := ⟨gb384, 0, none⟩) (Kd.R_types HO_370001.out BK384.out (by decide)) (fun _ hk => hk.2) (.slice Ao23 t377.length co23)) (fun _ hk => hk.2) (.slice Ao25 t380.length co25)) (fun _ hk => hk.2) (.int .i64 t383)) (fun _ h_ => h_.1))) (Kd.R_base ho1) hb); replace HO382 := Aside0.mk (Kd.R_elder' (by (with_reducible repeat (first | apply Kd.R_alloc | apply Kd.R_drewN | apply Kd.R_drew)); exact (Kd.R_mono (Kd.R_far (p := ⟨gb384, 2, none⟩) (Kd.R_far (p := ⟨gb384, 1, none⟩) (Kd.R_far (p := ⟨gb384, 0, none⟩) (Kd.R_types HO382.out BK384.out (by decide)) (fun _ hk => hk.2) (.slice Ao23 t377.length co23)) (fun _ hk => hk.2) (.slice Ao25 t380.length co25)) (fun _ hk => hk.2) (.int .i64 t383)) (fun _ h_ => h_.1))) (Kd.R_base ho1) hb); replace BK368 := Aside0.mk (blk_below (g := gb368) (o := .cells #[.slice none 0 0, .slice none 0 0] 28 (0, 0)) (by (with_reducible repeat (first | refine blk_drewN ?_ _ | refine blk_drew ?_ | refine blk_alloc ?_ _)); refine blk_far ?_ NB368_384.out _; (with_reducible repeat (first | refine blk_drewN ?_ _ | refine blk_drew ?_ | refine blk_alloc ?_ _)); refine blk_far ?_ NB368_384.out _; (with_reducible repeat (first | refine blk_drewN ?_ _ | refine blk_drew ?_ | refine blk_alloc ?_ _)); refine blk_far ?_ NB368_384.out _; (with_reducible repeat (first | refine blk_drewN ?_ _ | refine blk_drew ?_ | refine blk_alloc ?_ _)); exact BK368.out) hb); replace BK369 := Aside0.mk (blk_below (g := gb369) (o := .cells #[.slice Ao16 x370000_1.length co16, .slice Ao17 x370001_1.length co17] 28 (0, 0)) (by (with_reducible repeat (first | refine blk_drewN ?_ _ | refine blk_drew ?_ | refine blk_alloc ?_ _)); refine blk_far ?_ NB369_384.out _; (with_reducible repeat (first | refine blk_drewN ?_ _ | refine blk_drew ?_ | refine blk_alloc ?_ _)); refine blk_far ?_ NB369_384.out _; (with_reducible repeat (first | refine blk_drewN ?_ _ | refine blk_drew ?_ | refine blk_alloc ?_ _)); refine blk_far ?_ NB369_384.out _; (with_reducible repeat (first | refine blk_drewN ?_ _ | refine blk_drew ?_ | refine blk_alloc ?_ _)); exact BK369.out) hb); replace BK384 := Aside0.mk (blk_below (g := gb384) (o := .cells #[.slice Ao23 t377.length co23, .slice Ao25 t380.length co25, .int .i64 t383] 43 (0, 0)) (by (with_reducible repeat (first | refine blk_drewN ?_ _ | refine blk_drew ?_ | refine blk_alloc ?_ _)); refine blk_put (cs := #[.slice Ao23 t377.length co23, .slice Ao25 t380.length co25, .int .i64 0]) ?_ 2 _ rfl; (with_reducible repeat (first | refine blk_drewN ?_ _ | refine blk_drew ?_ | refine blk_alloc ?_ _)); refine blk_put (cs := #[.slice Ao23 t377.length co23, .slice none 0 0, .int .i64 0]) ?_ 1 _ rfl; (with_reducible repeat (first | refine blk_drewN ?_ _ | refine blk_drew ?_ | refine blk_alloc ?_ _)); refine blk_put (cs := #[.slice none 0 0, .slice none 0 0, .int .i64 0]) ?_ 0 _ rfl; (with_reducible repeat (first | refine blk_drewN ?_ _ | refine blk_drew ?_ | refine blk_alloc ?_ _)); exact BK384.out) hb); replace HB := Aside0.mk (below_step (bw3 HB.out GE368.out GE369.out GE384.out) hb); (try clear hb); (try clear hb2); (try clear hk); (try clear hi); (try clear ho0); (try clear ho1); obtain ⟨Ao34, co34, eo34⟩ := Kd.R_slice HO387.out; subst eo34; have hcz35_0 : w33.cell? ⟨gb369, 0, none⟩ = some (.slice Ao16 x370000_1.length co16) := (blk_cell BK369.out 0).trans rfl; have hcz35_1 : w33.cell? ⟨gb369, 1, none⟩ = some (.slice Ao17 x370001_1.length co17) := (blk_cell BK369.out 1).trans rfl; have hfz35_0 := blk_frozen BK369.out 0; have hfz35_1 := blk_frozen BK369.out 1; obtain ⟨Ao36, co36, eo36⟩ := Kd.R_slice HO390.out; subst eo36))
      go_roundg kj3
      case measure => have := HK1.out; have := HJ3.out; omega
      case rel => exact ⟨(wrap64 (x4_1 + 2)), (t385), (t388), (.slice Ao34 t385.length co34), (.slice Ao36 t388.length co36), ok_, H', ⟨by have := HK1.out; have := HJ3.out; omega⟩, ⟨by (with_reducible repeat (first | apply Kd.R_alloc | apply Kd.R_drewN | apply Kd.R_drew)); exact Kd.R_mono (Kd.R_far (p := ⟨gb369, 1, none⟩) (Kd.R_far (p := ⟨gb369, 0, none⟩) (Kd.R_types HO387.out BK369.out (by decide)) (fun _ hk => hk.2) (.slice Ao34 t385.length co34)) (fun _ hk => hk.2) (.slice Ao36 t388.length co36)) (fun _ hk => trivial)⟩, ⟨by (with_reducible repeat (first | apply Kd.R_alloc | apply Kd.R_drewN | apply Kd.R_drew)); exact Kd.R_mono (Kd.R_far (p := ⟨gb369, 1, none⟩) (Kd.R_far (p := ⟨gb369, 0, none⟩) (Kd.R_types HO390.out BK369.out (by decide)) (fun _ hk => hk.2) (.slice Ao34 t385.length co34)) (fun _ hk => hk.2) (.slice Ao36 t388.length co36)) (fun _ hk => trivial)⟩, ⟨by (with_reducible repeat (first | refine blk_drewN ?_ _ | refine blk_drew ?_ | refine blk_alloc ?_ _)); refine blk_far ?_ NB368_369.out _; (with_reducible repeat (first | refine blk_drewN ?_ _ | refine blk_drew ?_ | refine blk_alloc ?_ _)); refine blk_far ?_ NB368_369.out _; (with_reducible repeat (first | refine blk_drewN ?_ _ | refine blk_drew ?_ | refine blk_alloc ?_ _)); exact BK368.out⟩, ⟨by (with_reducible repeat (first | refine blk_drewN ?_ _ | refine blk_drew ?_ | refine blk_alloc ?_ _)); refine blk_put (cs := #[.slice Ao34 t385.length co34, .slice Ao17 x370001_1.length co17]) ?_ 1 _ rfl; (with_reducible repeat (first | refine blk_drewN ?_ _ | refine blk_drew ?_ | refine blk_alloc ?_ _)); refine blk_put (cs := #[.slice Ao16 x370000_1.length co16, .slice Ao17 x370001_1.length co17]) ?_ 0 _ rfl; (with_reducible repeat (first | refine blk_drewN ?_ _ | refine blk_drew ?_ | refine blk_alloc ?_ _)); exact BK369.out⟩, ⟨by repeat (first | (with_reducible first | exact HB.out | apply below_alloc | apply pw_below_drewN | apply below_drew1 | refine below_set ?_ GE368.out | refine below_set ?_ GE369.out | refine below_set ?_ GE384.out) | exact HB.out)⟩⟩
     ·
      replace c6 := Bool.eq_false_iff.mpr c6
      subst c6
      have H1 : (some (x370000_1, x370001_1)) = some (r1, r2) := by rw [if_neg (show ¬ (false = true) by decide)] at H; exact H
      clear H
      have H := H1
      clear H1
      simp only [Option.some.injEq, Prod.mk.injEq] at H
      obtain ⟨rfl, rfl⟩ := H
      have hnb37 := NB369_368.out
      have hnc37 := NB368_369.out
      have hcz38_0 : wc.cell? ⟨gb369, 0, none⟩ = some (u370000) := (blk_cell BK369.out 0).trans rfl
      have hcz38_1 : wc.cell? ⟨gb369, 1, none⟩ = some (u370001) := (blk_cell BK369.out 1).trans rfl
      have hfz38_0 := blk_frozen BK369.out 0
      have hfz38_1 := blk_frozen BK369.out 1
      obtain ⟨Ao39, co39, eo39⟩ := Kd.R_slice HO_370000.out
      subst eo39
      have hcz40_0 : wc.cell? ⟨gb368, 0, none⟩ = some (.slice none 0 0) := (blk_cell BK368.out 0).trans rfl
      have hcz40_1 : wc.cell? ⟨gb368, 1, none⟩ = some (.slice none 0 0) := (blk_cell BK368.out 1).trans rfl
      have hfz40_0 := blk_frozen BK368.out 0
      have hfz40_1 := blk_frozen BK368.out 1
      obtain ⟨Ao41, co41, eo41⟩ := Kd.R_slice HO_370001.out
      subst eo41
      go_wp2
      refine bodyPost_ret (results_cell_row rfl _ _ gb368 28 #[.slice Ao39 x370000_1.length co39, .slice Ao41 x370001_1.length co41] (0, 0) _ rfl (by (with_reducible repeat (first | refine blk_drewN ?_ _ | refine blk_drew ?_ | refine blk_alloc ?_ _)); refine blk_put (cs := #[.slice Ao39 x370000_1.length co39, .slice none 0 0]) ?_ 1 _ rfl; (with_reducible repeat (first | refine blk_drewN ?_ _ | refine blk_drew ?_ | refine blk_alloc ?_ _)); refine blk_put (cs := #[.slice none 0 0, .slice none 0 0]) ?_ 0 _ rfl; (with_reducible repeat (first | refine blk_drewN ?_ _ | refine blk_drew ?_ | refine blk_alloc ?_ _)); exact BK368.out) Try.underlying28 rfl (by kernel_rfl)) rfl ?_
      exact ⟨_, _, by first | rfl | (simp [errW_none, errW_some] <;> rfl) | (simp [*, errW_none, errW_some] <;> rfl), by (with_reducible repeat (first | apply Kd.R_alloc | apply Kd.R_drewN | apply Kd.R_drew)); exact Kd.R_mono (Kd.R_far (p := ⟨gb368, 1, none⟩) (Kd.R_far (p := ⟨gb368, 0, none⟩) (Kd.R_types HO_370000.out BK368.out (by decide)) (fun _ hk => hk.2) (.slice Ao39 x370000_1.length co39)) (fun _ hk => hk.2) (.slice Ao41 x370001_1.length co41)) (fun _ hk => trivial), by (with_reducible repeat (first | apply Kd.R_alloc | apply Kd.R_drewN | apply Kd.R_drew)); exact Kd.R_mono (Kd.R_far (p := ⟨gb368, 1, none⟩) (Kd.R_far (p := ⟨gb368, 0, none⟩) (Kd.R_types HO_370001.out BK368.out (by decide)) (fun _ hk => hk.2) (.slice Ao39 x370000_1.length co39)) (fun _ hk => hk.2) (.slice Ao41 x370001_1.length co41)) (fun _ hk => trivial), by repeat (first | (with_reducible first | exact HB.out | apply below_alloc | apply pw_below_drewN | apply below_drew1 | refine below_set ?_ GE368.out | refine below_set ?_ GE369.out) | exact HB.out)⟩

end Go.Proofs.Ytaonemedoikieaa.Q
