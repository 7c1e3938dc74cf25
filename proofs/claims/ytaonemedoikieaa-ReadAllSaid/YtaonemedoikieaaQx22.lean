-- Written by a program of this work (wip/tools/mkprint.py) over the kit's print; Lean checks it.
import Derived.Test.YtaonemedoikieaaQx0
import Derived.Test.YtaonemedoikieaaQx11
import Derived.Test.YtaonemedoikieaaQx14
import Derived.Test.YtaonemedoikieaaQx17
import Derived.Test.YtaonemedoikieaaQx21
import Derived.Test.YtaonemedoikieaaHAbb
namespace Go.Proofs.Ytaonemedoikieaa.Q
open Go.RowKit Go.Proofs.YtaonemedoikieaaW.PrintWords Go.Proofs.YtaonemedoikieaaW.PrintLast Go.Proofs.YtaonemedoikieaaW.PrintMore Go.Proofs.Ytaonemedoikieaa.AB
attribute [local go_sem] max2_int min2_int max_two min_two max_three min_three max_four min_four   -- for this text's walks alone
set_option linter.unusedVariables false
set_option linter.unusedSimpArgs false

/-! ### deaddropref7_May: function 18 -/
mutual
def deaddropref7_May.j0 : Nat → Bool → List (S70) → List (S34) → Option (Bool)
 | 0, _, _, _ => none
 | k + 1, x14, x416000, x416001 => if x14 = true then (some false) else (deaddropref7_May.l0 k 0 x416000 x416001)
def deaddropref7_May.l0 : Nat → Int → List (S70) → List (S34) → Option (Bool)
 | 0, _, _, _ => none
 | k + 1, x3, x416000, x416001 => if x3 < (x416001.length : Int) then (if 0 ≤ x3 then ((deaddropref7_Right.f k ((rd_T34 x416001 x3).f0.f0) ((rd_T34 x416001 x3).f0.f1) ((rd_T34 x416001 x3).f1) ((rd_T34 x416001 x3).f2) ((rd_T34 x416001 x3).f3) ((rd_T34 x416001 x3).f4)).bind fun t419 => (if t419 = true then ((deaddropref7_Has.f k x416000 ((rd_T34 x416001 x3).f0.f0) ((rd_T34 x416001 x3).f0.f1)).bind fun t420 => (if t420 = true then (if x3 > 0 then (if 0 ≤ (wrap64 (x3 - 1)) then (if (wrap64 (x3 - 1)) < (x416001.length : Int) then ((deaddropref7_Cmp.f k ((rd_T34 x416001 (wrap64 (x3 - 1))).f0.f0) ((rd_T34 x416001 (wrap64 (x3 - 1))).f0.f1) ((rd_T34 x416001 x3).f0.f0) ((rd_T34 x416001 x3).f0.f1)).bind fun t422 => (deaddropref7_May.j2 k x3 (decide (t422 ≥ 0)) x416000 x416001)) else (none)) else (none)) else (deaddropref7_May.j2 k x3 false x416000 x416001)) else (deaddropref7_May.j2 k x3 true x416000 x416001))) else (deaddropref7_May.j2 k x3 true x416000 x416001))) else (none)) else (some true)
def deaddropref7_May.j2 : Nat → Int → Bool → List (S70) → List (S34) → Option (Bool)
 | 0, _, _, _, _ => none
 | k + 1, x3, x54, x416000, x416001 => if x54 = true then (some false) else (deaddropref7_May.l0 k (wrap64 (x3 + 1)) x416000 x416001)
end
def deaddropref7_May.f (k : Nat) (l0_0 : List (S70)) (l0_1 : List (S34)) : Option (Bool) := (deaddropref7_MayRuns.f k l0_0).bind fun t416 => (if t416 = true then (deaddropref7_May.j0 k (decide ((l0_1.length : Int) > 400)) l0_0 l0_1) else (deaddropref7_May.j0 k true l0_0 l0_1))
theorem deaddropref7_May.mono_l : ∀ k, (∀ y0 y1 y2, LeO (deaddropref7_May.j0 k y0 y1 y2) (deaddropref7_May.j0 (k + 1) y0 y1 y2)) ∧ (∀ y0 y1 y2, LeO (deaddropref7_May.l0 k y0 y1 y2) (deaddropref7_May.l0 (k + 1) y0 y1 y2)) ∧ (∀ y0 y1 y2 y3, LeO (deaddropref7_May.j2 k y0 y1 y2 y3) (deaddropref7_May.j2 (k + 1) y0 y1 y2 y3))
 | 0 => ⟨fun _ _ _ r h => by simp [deaddropref7_May.j0] at h, fun _ _ _ r h => by simp [deaddropref7_May.l0] at h, fun _ _ _ _ r h => by simp [deaddropref7_May.j2] at h⟩
 | k + 1 => by
  obtain ⟨ih0, ih1, ih2⟩ := deaddropref7_May.mono_l k
  refine ⟨?_, ?_, ?_⟩
  ·
   intro y0 y1 y2
   unfold deaddropref7_May.j0
   repeat' first
   | (with_reducible exact ih0 _ _ _)
   | (with_reducible exact ih1 _ _ _)
   | (with_reducible exact ih2 _ _ _ _)
   | (with_reducible exact deaddropref7_Cmp.mono _ _ _ _ _)
   | (with_reducible exact deaddropref7_Has.mono _ _ _ _)
   | (with_reducible exact deaddropref7_MayRuns.mono _ _)
   | (with_reducible exact deaddropref7_Right.mono _ _ _ _ _ _ _)
   | (with_reducible exact LeO.refl _)
   | (with_reducible exact LeO.none _)
   | (with_reducible refine LeO.ite ?_ ?_)
   | (with_reducible refine LeO.bind ?_ (fun _ => ?_))
   | exact ih0 _ _ _
   | exact ih1 _ _ _
   | exact ih2 _ _ _ _
   | exact deaddropref7_Cmp.mono _ _ _ _ _
   | exact deaddropref7_Has.mono _ _ _ _
   | exact deaddropref7_MayRuns.mono _ _
   | exact deaddropref7_Right.mono _ _ _ _ _ _ _
   | exact LeO.none _
   | refine LeO.ite ?_ ?_
   | refine LeO.bind ?_ (fun _ => ?_)
  ·
   intro y0 y1 y2
   unfold deaddropref7_May.l0
   repeat' first
   | (with_reducible exact ih0 _ _ _)
   | (with_reducible exact ih1 _ _ _)
   | (with_reducible exact ih2 _ _ _ _)
   | (with_reducible exact deaddropref7_Cmp.mono _ _ _ _ _)
   | (with_reducible exact deaddropref7_Has.mono _ _ _ _)
   | (with_reducible exact deaddropref7_MayRuns.mono _ _)
   | (with_reducible exact deaddropref7_Right.mono _ _ _ _ _ _ _)
   | (with_reducible exact LeO.refl _)
   | (with_reducible exact LeO.none _)
   | (with_reducible refine LeO.ite ?_ ?_)
   | (with_reducible refine LeO.bind ?_ (fun _ => ?_))
   | exact ih0 _ _ _
   | exact ih1 _ _ _
   | exact ih2 _ _ _ _
   | exact deaddropref7_Cmp.mono _ _ _ _ _
   | exact deaddropref7_Has.mono _ _ _ _
   | exact deaddropref7_MayRuns.mono _ _
   | exact deaddropref7_Right.mono _ _ _ _ _ _ _
   | exact LeO.none _
   | refine LeO.ite ?_ ?_
   | refine LeO.bind ?_ (fun _ => ?_)
  ·
   intro y0 y1 y2 y3
   unfold deaddropref7_May.j2
   repeat' first
   | (with_reducible exact ih0 _ _ _)
   | (with_reducible exact ih1 _ _ _)
   | (with_reducible exact ih2 _ _ _ _)
   | (with_reducible exact deaddropref7_Cmp.mono _ _ _ _ _)
   | (with_reducible exact deaddropref7_Has.mono _ _ _ _)
   | (with_reducible exact deaddropref7_MayRuns.mono _ _)
   | (with_reducible exact deaddropref7_Right.mono _ _ _ _ _ _ _)
   | (with_reducible exact LeO.refl _)
   | (with_reducible exact LeO.none _)
   | (with_reducible refine LeO.ite ?_ ?_)
   | (with_reducible refine LeO.bind ?_ (fun _ => ?_))
   | exact ih0 _ _ _
   | exact ih1 _ _ _
   | exact ih2 _ _ _ _
   | exact deaddropref7_Cmp.mono _ _ _ _ _
   | exact deaddropref7_Has.mono _ _ _ _
   | exact deaddropref7_MayRuns.mono _ _
   | exact deaddropref7_Right.mono _ _ _ _ _ _ _
   | exact LeO.none _
   | refine LeO.ite ?_ ?_
   | refine LeO.bind ?_ (fun _ => ?_)
theorem deaddropref7_May.mono : ∀ a0 a1 k, LeO (deaddropref7_May.f k a0 a1) (deaddropref7_May.f (k + 1) a0 a1) := by
 intro a0 a1 k
 obtain ⟨ih0, ih1, ih2⟩ := deaddropref7_May.mono_l k
 unfold deaddropref7_May.f
 repeat' first
  | (with_reducible exact ih0 _ _ _)
  | (with_reducible exact ih1 _ _ _)
  | (with_reducible exact ih2 _ _ _ _)
  | (with_reducible exact deaddropref7_Cmp.mono _ _ _ _ _)
  | (with_reducible exact deaddropref7_Has.mono _ _ _ _)
  | (with_reducible exact deaddropref7_MayRuns.mono _ _)
  | (with_reducible exact deaddropref7_Right.mono _ _ _ _ _ _ _)
  | (with_reducible exact LeO.refl _)
  | (with_reducible exact LeO.none _)
  | (with_reducible refine LeO.ite ?_ ?_)
  | (with_reducible refine LeO.bind ?_ (fun _ => ?_))
  | exact ih0 _ _ _
  | exact ih1 _ _ _
  | exact ih2 _ _ _ _
  | exact deaddropref7_Cmp.mono _ _ _ _ _
  | exact deaddropref7_Has.mono _ _ _ _
  | exact deaddropref7_MayRuns.mono _ _
  | exact deaddropref7_Right.mono _ _ _ _ _ _ _
  | exact LeO.none _
  | refine LeO.ite ?_ ?_
  | refine LeO.bind ?_ (fun _ => ?_)
def deaddropref7_May.T7 : Bool × List (List Nat × List Nat) := (true, [([], []), ([0], [0]), ([1], [1]), ([2, 1], [2]), ([3], [3]), ([4, 3], [3, 4]), ([3], [3]), ([6, 3], [3, 6]), ([5, 7, 3, 3], [3, 5, 7]), ([8, 3], [3, 8]), ([3, 9], [3, 9]), ([10, 8], [10]), ([11], [11]), ([12, 11], [11, 12]), ([13, 11, 11], [11, 13]), ([14], [14]), ([15, 14], [14, 15]), ([14], [14]), ([17, 14], [14, 17]), ([16, 18, 14], [14, 16, 18]), ([19, 14], [14, 19]), ([20, 14], [14, 20]), ([14], [14]), ([22, 14], [14, 22]), ([21, 23, 14, 14], [14, 21, 23]), ([24, 14], [14, 24]), ([14, 25, 11], [11, 14, 25]), ([11, 26], [11, 26])])
def deaddropref7_May.B7 : List Nat := [0, 1, 3, 7, 15, 31, 15, 79, 255, 511, 1023, 2047, 4095, 8191, 16383, 32767, 65535, 32767, 163839, 524287, 1048575, 2097151, 32767, 4227071, 16777215, 33554431, 67108863, 134217727]
theorem deaddropref7_May.tab7 : rtab .any (opsOf Try.f18 7) = deaddropref7_May.T7 := by kernel_rfl
theorem deaddropref7_May.bits7 : waitsOk deaddropref7_May.T7.2 deaddropref7_May.B7 = true := by kernel_rfl
set_option maxHeartbeats 8000000 in
set_option maxRecDepth 100000 in
theorem deaddropref7_May.calls (k : Nat) (A0_0 : Option Addr) (c0_0 : Nat) (l0_0 : List (S70)) (A0_1 : Option Addr) (c0_1 : Nat) (l0_1 : List (S34)) (r : Bool) (w : World) (hr0_0 : Kd.C k70 w A0_0 l0_0.length l0_0) (hc0_0 : l0_0.length ≤ c0_0) (hr0_1 : Kd.C k34 w A0_1 l0_1.length l0_1) (hc0_1 : l0_1.length ≤ c0_1) (h : deaddropref7_May.f k l0_0 l0_1 = some r) :
 Calls Try.prog 18 #[.agg #[.slice A0_0 l0_0.length c0_0, .slice A0_1 l0_1.length c0_1]] w fun e w' => e = .returned (.bool r) ∧ Below w.heap.size w w' := by
 have hu28 := Try.underlying28
 have hu34 := Try.underlying34
 have hu32 := Try.underlying32
 have HR0_0 := Aside0.mk hr0_0
 have HC0_0 := Aside0.mk hc0_0
 clear hr0_0 hc0_0
 have HR0_1 := Aside0.mk hr0_1
 have HC0_1 := Aside0.mk hc0_1
 clear hr0_1 hc0_1
 have HB := Aside0.mk (Below.refl w.heap.size w)
 have H : ((deaddropref7_MayRuns.f k l0_0).bind fun t416 => (if t416 = true then (deaddropref7_May.j0 k (decide ((l0_1.length : Int) > 400)) l0_0 l0_1) else (deaddropref7_May.j0 k true l0_0 l0_1))) = some r := h
 clear h
 have HC2 := Aside0.mk H
 clear H
 go_enter Try.func18, Try.ntmps18
 go_upto_region 1 with (first | ((with_reducible refine gate_dst (N := 1) rfl ?_); (try (refine gate_guard (by rfl) ?_; dsimp only)); refine box_event ?hg (N := 1) ?hd (cs := #[.slice A0_0 l0_0.length c0_0, .slice A0_1 l0_1.length c0_1]) (t := 28) ?hr ?_; (case hd => rfl); (case hg => rfl); (case hr => first | (go_simp; done) | (go_simp; rfl)); intro gb415 hg w3 hbox hb; have BK415 := Aside0.mk (hbox); have GW415 := Aside0.mk ((by rw [hg]; exact (below_size (bw HB.out)) : w.heap.size ≤ gb415)); have GE415 := Aside0.mk ((by rw [hg]; exact (below_size (bw HB.out)) : w.heap.size ≤ gb415)); replace HB := Aside0.mk (below_step (bw HB.out) hb); clear hb hbox hg))
 (try simp only [Act.put, List.setIfInBounds_toArray, List.set_cons_zero, List.set_cons_succ])
 go_cut [14] (fun v14 wc => ∃ (kq : Nat) (x14_1 : Bool), v14 = .bool x14_1 ∧ Aside0 (deaddropref7_May.j0 kq x14_1 l0_0 l0_1 = some r) ∧ Aside0 (kq ≤ k) ∧ Aside0 (wc.heap[gb415]? = some (.cells #[(.slice A0_0 l0_0.length c0_0), (.slice A0_1 l0_1.length c0_1)] 28 (0, 0))) ∧ Aside0 (Below w.heap.size w wc))
 case first =>
  have H := HC2.out
  clear HC2
  replace H := Option.bind_eq_some_iff.mp H
  obtain ⟨t416, A40, H⟩ := H
  replace H : (if t416 = true then (deaddropref7_May.j0 k (decide ((l0_1.length : Int) > 400)) l0_0 l0_1) else (deaddropref7_May.j0 k true l0_0 l0_1)) = some r := H
  have A4 := Aside0.mk A40
  clear A40
  by_cases c5 : t416 = true
  ·
   subst c5
   have H1 : (deaddropref7_May.j0 k (decide ((l0_1.length : Int) > 400)) l0_0 l0_1) = some r := by rw [if_pos rfl] at H; exact H
   clear H
   have H := H1
   clear H1
   have H' := Aside0.mk H
   clear H
   have hcz6_0 : w3.cell? ⟨gb415, 0, none⟩ = some (.slice A0_0 l0_0.length c0_0) := (blk_cell BK415.out 0).trans rfl
   have hcz6_1 : w3.cell? ⟨gb415, 1, none⟩ = some (.slice A0_1 l0_1.length c0_1) := (blk_cell BK415.out 1).trans rfl
   have hfz6_0 := blk_frozen BK415.out 0
   have hfz6_1 := blk_frozen BK415.out 1
   go_wp2_with (first | ((with_reducible refine gate_callee (f := 33) rfl ?_); refine goesL_ (some 7) rfl rfl Try.func33 (by kernel_rfl) rfl #[.slice A0_0 l0_0.length c0_0] rfl ar_ ?_; (with_reducible refine (deaddropref7_MayRuns.calls k _ _ l0_0 true _ ?side1 ?side2 A4.out).mono ?_); (case side1 => exact cr (Kd.C_below HR0_0.out HB.out)); (case side2 => exact HC0_0.out); rintro e w7 ⟨rfl, hb⟩; refine ⟨_, rfl, ?_⟩; replace BK415 := Aside0.mk (blk_below (g := gb415) (o := .cells #[.slice A0_0 l0_0.length c0_0, .slice A0_1 l0_1.length c0_1] 28 (0, 0)) (bk BK415.out) hb); replace HB := Aside0.mk (below_step (bw1 HB.out GE415.out) hb); (try clear hb); (try clear hb2); (try clear hk); (try clear hi); have hcz8_0 : w7.cell? ⟨gb415, 0, none⟩ = some (.slice A0_0 l0_0.length c0_0) := (blk_cell BK415.out 0).trans rfl; have hcz8_1 : w7.cell? ⟨gb415, 1, none⟩ = some (.slice A0_1 l0_1.length c0_1) := (blk_cell BK415.out 1).trans rfl; have hfz8_0 := blk_frozen BK415.out 0; have hfz8_1 := blk_frozen BK415.out 1))
   go_meet
   case rel => exact ⟨_, (decide ((l0_1.length : Int) > 400)), ok_, H', ⟨by first | omega | exact Nat.le_refl _⟩, ⟨by (with_reducible repeat (first | refine blk_drewN ?_ _ | refine blk_drew ?_ | refine blk_alloc ?_ _)); exact BK415.out⟩, ⟨by repeat (first | (with_reducible first | exact HB.out | apply below_alloc | apply pw_below_drewN | apply below_drew1 | refine below_set ?_ GE415.out) | exact HB.out)⟩⟩
  ·
   replace c5 := Bool.eq_false_iff.mpr c5
   subst c5
   have H1 : (deaddropref7_May.j0 k true l0_0 l0_1) = some r := by rw [if_neg (show ¬ (false = true) by decide)] at H; exact H
   clear H
   have H := H1
   clear H1
   have H' := Aside0.mk H
   clear H
   have hcz9_0 : w3.cell? ⟨gb415, 0, none⟩ = some (.slice A0_0 l0_0.length c0_0) := (blk_cell BK415.out 0).trans rfl
   have hcz9_1 : w3.cell? ⟨gb415, 1, none⟩ = some (.slice A0_1 l0_1.length c0_1) := (blk_cell BK415.out 1).trans rfl
   have hfz9_0 := blk_frozen BK415.out 0
   have hfz9_1 := blk_frozen BK415.out 1
   go_wp2_with (first | ((with_reducible refine gate_callee (f := 33) rfl ?_); refine goesL_ (some 7) rfl rfl Try.func33 (by kernel_rfl) rfl #[.slice A0_0 l0_0.length c0_0] rfl ar_ ?_; (with_reducible refine (deaddropref7_MayRuns.calls k _ _ l0_0 false _ ?side1 ?side2 A4.out).mono ?_); (case side1 => exact cr (Kd.C_below HR0_0.out HB.out)); (case side2 => exact HC0_0.out); rintro e w10 ⟨rfl, hb⟩; refine ⟨_, rfl, ?_⟩; replace BK415 := Aside0.mk (blk_below (g := gb415) (o := .cells #[.slice A0_0 l0_0.length c0_0, .slice A0_1 l0_1.length c0_1] 28 (0, 0)) (bk BK415.out) hb); replace HB := Aside0.mk (below_step (bw1 HB.out GE415.out) hb); (try clear hb); (try clear hb2); (try clear hk); (try clear hi)))
   go_meet
   case rel => exact ⟨_, (true), ok_, H', ⟨by first | omega | exact Nat.le_refl _⟩, ⟨by (with_reducible repeat (first | refine blk_drewN ?_ _ | refine blk_drew ?_ | refine blk_alloc ?_ _)); exact BK415.out⟩, ⟨by repeat (first | (with_reducible first | exact HB.out | apply below_alloc | apply pw_below_drewN | apply below_drew1 | refine below_set ?_ GE415.out) | exact HB.out)⟩⟩
 case rest =>
  clear HC2
  try clear c1
  try clear p2
  try clear c3
  try clear c5
  try clear hcz6_0
  try clear hcz6_1
  try clear hcz8_0
  try clear hcz8_1
  try clear hcz9_0
  try clear hcz9_1
  try clear hfz6_0
  try clear hfz6_1
  try clear hfz8_0
  try clear hfz8_1
  try clear hfz9_0
  try clear hfz9_1
  obtain ⟨kq, x14_1, rfl, HA, HJ1, BK415, HB⟩ := hcut
  cases kq with
  | zero => exact absurd HA.out (by simp [deaddropref7_May.j0])
  | succ kj1 =>
   have H := HA.out
   clear HA
   simp only [deaddropref7_May.j0] at H
   by_cases c11 : x14_1 = true
   ·
    subst c11
    have H1 : (some false) = some r := by rw [if_pos rfl] at H; exact H
    clear H
    have H := H1
    clear H1
    obtain rfl := Option.some.inj H
    go_wp2
    go_ret
    exact ⟨by first | rfl | (simp [errW_none, errW_some] <;> rfl) | (simp [*, errW_none, errW_some] <;> rfl), by repeat (first | (with_reducible first | exact HB.out | apply below_alloc | apply pw_below_drewN | apply below_drew1 | refine below_set ?_ GE415.out) | exact HB.out)⟩
   ·
    replace c11 := Bool.eq_false_iff.mpr c11
    subst c11
    have H1 : (deaddropref7_May.l0 kj1 0 l0_0 l0_1) = some r := by rw [if_neg (show ¬ (false = true) by decide)] at H; exact H
    clear H
    have H := H1
    clear H1
    have H' := Aside0.mk H
    clear H
    go_wp2
    go_loopg [3] kj1 (fun kq v3 w' => ∃ (x3_2 : Int), v3 = .int .i64 x3_2 ∧ Aside0 (deaddropref7_May.l0 kq x3_2 l0_0 l0_1 = some r) ∧ Aside0 (kq ≤ kj1) ∧ Aside0 (w'.heap[gb415]? = some (.cells #[(.slice A0_0 l0_0.length c0_0), (.slice A0_1 l0_1.length c0_1)] 28 (0, 0))) ∧ Aside0 (Below w.heap.size w w'))
    case atStart => exact ⟨(0), ok_, H', ⟨Nat.le_refl _⟩, ⟨by (with_reducible repeat (first | refine blk_drewN ?_ _ | refine blk_drew ?_ | refine blk_alloc ?_ _)); exact BK415.out⟩, ⟨by repeat (first | (with_reducible first | exact HB.out | apply below_alloc | apply pw_below_drewN | apply below_drew1 | refine below_set ?_ GE415.out) | exact HB.out)⟩⟩
    case round =>
     clear H'
     try clear c1
     try clear p2
     try clear c3
     try clear c5
     try clear c11
     try clear hcz6_0
     try clear hcz6_1
     try clear hcz8_0
     try clear hcz8_1
     try clear hcz9_0
     try clear hcz9_1
     try clear hfz6_0
     try clear hfz6_1
     try clear hfz8_0
     try clear hfz8_1
     try clear hfz9_0
     try clear hfz9_1
     try clear p2
     obtain ⟨x3_2, rfl, HA, HK2, BK415, HB⟩ := hrel
     cases gk with
     | zero => exact absurd HA.out (by simp [deaddropref7_May.l0])
     | succ k2 =>
      have H := HA.out
      clear HA
      simp only [deaddropref7_May.l0] at H
      by_cases c12 : x3_2 < (l0_1.length : Int)
      ·
       rw [if_pos c12] at H
       have c12b0 : decide (x3_2 < (l0_1.length : Int)) = true := decide_eq_true c12
       clear c12
       by_cases c13 : 0 ≤ x3_2
       rotate_left
       ·
        rw [if_neg c13] at H
        exact absurd H (by simp)
       rw [if_pos c13] at H
       have c13b0 : decide (0 ≤ x3_2) = true := decide_eq_true c13
       clear c13
       have HC14 := Aside0.mk H
       clear H
       have hcz15_0 : wr.cell? ⟨gb415, 0, none⟩ = some (.slice A0_0 l0_0.length c0_0) := (blk_cell BK415.out 0).trans rfl
       have hcz15_1 : wr.cell? ⟨gb415, 1, none⟩ = some (.slice A0_1 l0_1.length c0_1) := (blk_cell BK415.out 1).trans rfl
       have hfz15_0 := blk_frozen BK415.out 0
       have hfz15_1 := blk_frozen BK415.out 1
       have p417 : 0 ≤ (x3_2 : Int) := of_decide_eq_true as_
       have q417 : x3_2 < (l0_1.length : Int) := of_decide_eq_true as_
       obtain ⟨ad417, e417, hx417_0, hx417_1, hx417_2, hx417_3, hx417_4, hx417_5⟩ := at_T34 HR0_1.out x3_2 p417 q417
       cases e417
       replace hx417_0 := (HB.out.cell (World.block_lt_of_cell? w _ hx417_0)).trans hx417_0
       replace hx417_1 := (HB.out.cell (World.block_lt_of_cell? w _ hx417_1)).trans hx417_1
       replace hx417_2 := (HB.out.cell (World.block_lt_of_cell? w _ hx417_2)).trans hx417_2
       replace hx417_3 := (HB.out.cell (World.block_lt_of_cell? w _ hx417_3)).trans hx417_3
       replace hx417_4 := (HB.out.cell (World.block_lt_of_cell? w _ hx417_4)).trans hx417_4
       replace hx417_5 := (HB.out.cell (World.block_lt_of_cell? w _ hx417_5)).trans hx417_5
       replace p417 := eq_true p417
       replace q417 := eq_true q417
       go_upto_region 7 with (first | ((with_reducible refine gate_dst (N := 4) rfl ?_); (try (refine gate_guard (by rfl) ?_; dsimp only)); refine box_event ?hg (N := 4) ?hd (cs := #[.int .i64 0, .int .i64 0, .string (⟨#[]⟩ : ByteArray), .int .i64 0, .string (⟨#[]⟩ : ByteArray), .int .i64 0]) (t := 34) ?hr ?_; (case hd => rfl); (case hg => rfl); (case hr => first | (go_simp; done) | (go_simp; rfl)); intro gb418 hg w16 hbox hb; have BK418 := Aside0.mk (hbox); have GW418 := Aside0.mk ((by rw [hg]; exact (below_size (bw1 HB.out GE415.out)) : w.heap.size ≤ gb418)); have GE418 := Aside0.mk ((by rw [hg]; exact (below_size (bw1 HB.out GE415.out)) : w.heap.size ≤ gb418)); replace HB := Aside0.mk (below_step (bw1 HB.out GE415.out) hb); have NB415_418 := Aside0.mk ((by rw [hg]; exact Nat.ne_of_lt (blk_lt (g := gb415) (o := .cells #[.slice A0_0 l0_0.length c0_0, .slice (some ad417) l0_1.length c0_1] 28 (0, 0)) (bk BK415.out)) : gb415 ≠ gb418)); have NB418_415 := Aside0.mk ((by rw [hg]; exact Nat.ne_of_gt (blk_lt (g := gb415) (o := .cells #[.slice A0_0 l0_0.length c0_0, .slice (some ad417) l0_1.length c0_1] 28 (0, 0)) (bk BK415.out)) : gb418 ≠ gb415)); replace BK415 := Aside0.mk (blk_below (g := gb415) (o := .cells #[.slice A0_0 l0_0.length c0_0, .slice (some ad417) l0_1.length c0_1] 28 (0, 0)) (bk BK415.out) hb); clear hb hbox hg; have hnb17 := NB418_415.out; have hnc17 := NB415_418.out; have hcz18_0 : w16.cell? ⟨gb418, 0, none⟩ = some (.int .i64 0) := (blk_cell BK418.out 0).trans rfl; have hcz18_1 : w16.cell? ⟨gb418, 1, none⟩ = some (.int .i64 0) := (blk_cell BK418.out 1).trans rfl; have hcz18_2 : w16.cell? ⟨gb418, 2, none⟩ = some (.string (⟨#[]⟩ : ByteArray)) := (blk_cell BK418.out 2).trans rfl; have hcz18_3 : w16.cell? ⟨gb418, 3, none⟩ = some (.int .i64 0) := (blk_cell BK418.out 3).trans rfl; have hcz18_4 : w16.cell? ⟨gb418, 4, none⟩ = some (.string (⟨#[]⟩ : ByteArray)) := (blk_cell BK418.out 4).trans rfl; have hcz18_5 : w16.cell? ⟨gb418, 5, none⟩ = some (.int .i64 0) := (blk_cell BK418.out 5).trans rfl; have hfz18_0 := blk_frozen BK418.out 0; have hfz18_1 := blk_frozen BK418.out 1; have hfz18_2 := blk_frozen BK418.out 2; have hfz18_3 := blk_frozen BK418.out 3; have hfz18_4 := blk_frozen BK418.out 4; have hfz18_5 := blk_frozen BK418.out 5))
       (try simp only [Act.put, List.setIfInBounds_toArray, List.set_cons_zero, List.set_cons_succ])
       go_cut [54] (fun v54 wc => ∃ (kq : Nat) (x54_13 : Bool), v54 = .bool x54_13 ∧ Aside0 (deaddropref7_May.j2 kq x3_2 x54_13 l0_0 l0_1 = some r) ∧ Aside0 (kq ≤ k2) ∧ Aside0 (wc.heap[gb415]? = some (.cells #[(.slice A0_0 l0_0.length c0_0), (.slice (some ad417) l0_1.length c0_1)] 28 (0, 0))) ∧ Aside0 (wc.heap[gb418]? = some (.cells #[.int .i64 ((rd_T34 l0_1 x3_2).f0.f0), .int .i64 ((rd_T34 l0_1 x3_2).f0.f1), .string ((rd_T34 l0_1 x3_2).f1), .int .i64 ((rd_T34 l0_1 x3_2).f2), .string ((rd_T34 l0_1 x3_2).f3), .int .i64 ((rd_T34 l0_1 x3_2).f4)] 34 (0, 0))) ∧ Aside0 (Below w.heap.size w wc))
       case first =>
        have H := HC14.out
        clear HC14
        replace H := Option.bind_eq_some_iff.mp H
        obtain ⟨t419, A190, H⟩ := H
        replace H : (if t419 = true then ((deaddropref7_Has.f k2 l0_0 ((rd_T34 l0_1 x3_2).f0.f0) ((rd_T34 l0_1 x3_2).f0.f1)).bind fun t420 => (if t420 = true then (if x3_2 > 0 then (if 0 ≤ (wrap64 (x3_2 - 1)) then (if (wrap64 (x3_2 - 1)) < (l0_1.length : Int) then ((deaddropref7_Cmp.f k2 ((rd_T34 l0_1 (wrap64 (x3_2 - 1))).f0.f0) ((rd_T34 l0_1 (wrap64 (x3_2 - 1))).f0.f1) ((rd_T34 l0_1 x3_2).f0.f0) ((rd_T34 l0_1 x3_2).f0.f1)).bind fun t422 => (deaddropref7_May.j2 k2 x3_2 (decide (t422 ≥ 0)) l0_0 l0_1)) else (none)) else (none)) else (deaddropref7_May.j2 k2 x3_2 false l0_0 l0_1)) else (deaddropref7_May.j2 k2 x3_2 true l0_0 l0_1))) else (deaddropref7_May.j2 k2 x3_2 true l0_0 l0_1)) = some r := H
        have A19 := Aside0.mk A190
        clear A190
        by_cases c20 : t419 = true
        ·
         subst c20
         have H1 : ((deaddropref7_Has.f k2 l0_0 ((rd_T34 l0_1 x3_2).f0.f0) ((rd_T34 l0_1 x3_2).f0.f1)).bind fun t420 => (if t420 = true then (if x3_2 > 0 then (if 0 ≤ (wrap64 (x3_2 - 1)) then (if (wrap64 (x3_2 - 1)) < (l0_1.length : Int) then ((deaddropref7_Cmp.f k2 ((rd_T34 l0_1 (wrap64 (x3_2 - 1))).f0.f0) ((rd_T34 l0_1 (wrap64 (x3_2 - 1))).f0.f1) ((rd_T34 l0_1 x3_2).f0.f0) ((rd_T34 l0_1 x3_2).f0.f1)).bind fun t422 => (deaddropref7_May.j2 k2 x3_2 (decide (t422 ≥ 0)) l0_0 l0_1)) else (none)) else (none)) else (deaddropref7_May.j2 k2 x3_2 false l0_0 l0_1)) else (deaddropref7_May.j2 k2 x3_2 true l0_0 l0_1))) = some r := by rw [if_pos rfl] at H; exact H
         clear H
         have H := H1
         clear H1
         replace H := Option.bind_eq_some_iff.mp H
         obtain ⟨t420, A210, H⟩ := H
         replace H : (if t420 = true then (if x3_2 > 0 then (if 0 ≤ (wrap64 (x3_2 - 1)) then (if (wrap64 (x3_2 - 1)) < (l0_1.length : Int) then ((deaddropref7_Cmp.f k2 ((rd_T34 l0_1 (wrap64 (x3_2 - 1))).f0.f0) ((rd_T34 l0_1 (wrap64 (x3_2 - 1))).f0.f1) ((rd_T34 l0_1 x3_2).f0.f0) ((rd_T34 l0_1 x3_2).f0.f1)).bind fun t422 => (deaddropref7_May.j2 k2 x3_2 (decide (t422 ≥ 0)) l0_0 l0_1)) else (none)) else (none)) else (deaddropref7_May.j2 k2 x3_2 false l0_0 l0_1)) else (deaddropref7_May.j2 k2 x3_2 true l0_0 l0_1)) = some r := H
         have A21 := Aside0.mk A210
         clear A210
         by_cases c22 : t420 = true
         ·
          subst c22
          have H1 : (if x3_2 > 0 then (if 0 ≤ (wrap64 (x3_2 - 1)) then (if (wrap64 (x3_2 - 1)) < (l0_1.length : Int) then ((deaddropref7_Cmp.f k2 ((rd_T34 l0_1 (wrap64 (x3_2 - 1))).f0.f0) ((rd_T34 l0_1 (wrap64 (x3_2 - 1))).f0.f1) ((rd_T34 l0_1 x3_2).f0.f0) ((rd_T34 l0_1 x3_2).f0.f1)).bind fun t422 => (deaddropref7_May.j2 k2 x3_2 (decide (t422 ≥ 0)) l0_0 l0_1)) else (none)) else (none)) else (deaddropref7_May.j2 k2 x3_2 false l0_0 l0_1)) = some r := by rw [if_pos rfl] at H; exact H
          clear H
          have H := H1
          clear H1
          by_cases c23 : x3_2 > 0
          ·
           rw [if_pos c23] at H
           have c23b0 : decide (0 < x3_2) = true := decide_eq_true c23
           clear c23
           (first | rw [c23b0] | (simp only [i64_w, i32_w]; rw [c23b0]) | skip)
           obtain ⟨ji24, hji24⟩ : ∃ j_ : Int, (wrap64 (x3_2 - 1)) = j_ := ⟨_, rfl⟩
           replace H : (if 0 ≤ (ji24) then (if (ji24) < (l0_1.length : Int) then ((deaddropref7_Cmp.f k2 ((rd_T34 l0_1 (ji24)).f0.f0) ((rd_T34 l0_1 (ji24)).f0.f1) ((rd_T34 l0_1 x3_2).f0.f0) ((rd_T34 l0_1 x3_2).f0.f1)).bind fun t422 => (deaddropref7_May.j2 k2 x3_2 (decide (t422 ≥ 0)) l0_0 l0_1)) else (none)) else (none)) = some r := by first | (rw [hji24] at H; exact H) | (simp only [hji24] at H ⊢; exact H)
           (try rw [hji24] at A19)
           (try rw [hji24] at A21)
           have hji24w : (IntKind.i64.wrap (x3_2 - 1)) = ji24 := (i64_w _).trans hji24
           by_cases c25 : 0 ≤ (ji24)
           rotate_left
           ·
            rw [if_neg c25] at H
            exact absurd H (by simp)
           rw [if_pos c25] at H
           have c25b0 : decide (0 ≤ (ji24)) = true := decide_eq_true c25
           clear c25
           by_cases c26 : (ji24) < (l0_1.length : Int)
           rotate_left
           ·
            rw [if_neg c26] at H
            exact absurd H (by simp)
           rw [if_pos c26] at H
           have c26b0 : decide ((ji24) < (l0_1.length : Int)) = true := decide_eq_true c26
           clear c26
           replace H := Option.bind_eq_some_iff.mp H
           obtain ⟨t422, A270, H⟩ := H
           replace H : (deaddropref7_May.j2 k2 x3_2 (decide (t422 ≥ 0)) l0_0 l0_1) = some r := H
           have A27 := Aside0.mk A270
           clear A270
           have H' := Aside0.mk H
           clear H
           try go_wp2
           have n0_ : Aside0 (((((((w16.setCell ⟨gb418, 0, none⟩ (.int .i64 ((rd_T34 l0_1 x3_2).f0.f0))).setCell ⟨gb418, 1, none⟩ (.int .i64 ((rd_T34 l0_1 x3_2).f0.f1))).setCell ⟨gb418, 2, none⟩ (.string ((rd_T34 l0_1 x3_2).f1))).setCell ⟨gb418, 3, none⟩ (.int .i64 ((rd_T34 l0_1 x3_2).f2))).setCell ⟨gb418, 4, none⟩ (.string ((rd_T34 l0_1 x3_2).f3))).setCell ⟨gb418, 5, none⟩ (.int .i64 ((rd_T34 l0_1 x3_2).f4))).heap[gb415]? = some (.cells #[.slice A0_0 l0_0.length c0_0, .slice (some ad417) l0_1.length c0_1] 28 (0, 0))) := ⟨by (with_reducible repeat (first | refine blk_drewN ?_ _ | refine blk_drew ?_ | refine blk_alloc ?_ _)); refine blk_far ?_ NB415_418.out _; (with_reducible repeat (first | refine blk_drewN ?_ _ | refine blk_drew ?_ | refine blk_alloc ?_ _)); refine blk_far ?_ NB415_418.out _; (with_reducible repeat (first | refine blk_drewN ?_ _ | refine blk_drew ?_ | refine blk_alloc ?_ _)); refine blk_far ?_ NB415_418.out _; (with_reducible repeat (first | refine blk_drewN ?_ _ | refine blk_drew ?_ | refine blk_alloc ?_ _)); refine blk_far ?_ NB415_418.out _; (with_reducible repeat (first | refine blk_drewN ?_ _ | refine blk_drew ?_ | refine blk_alloc ?_ _)); refine blk_far ?_ NB415_418.out _; (with_reducible repeat (first | refine blk_drewN ?_ _ | refine blk_drew ?_ | refine blk_alloc ?_ _)); refine blk_far ?_ NB415_418.out _; (with_reducible repeat (first | refine blk_drewN ?_ _ | refine blk_drew ?_ | refine blk_alloc ?_ _)); exact BK415.out⟩
           have n1_ : Aside0 (((((((w16.setCell ⟨gb418, 0, none⟩ (.int .i64 ((rd_T34 l0_1 x3_2).f0.f0))).setCell ⟨gb418, 1, none⟩ (.int .i64 ((rd_T34 l0_1 x3_2).f0.f1))).setCell ⟨gb418, 2, none⟩ (.string ((rd_T34 l0_1 x3_2).f1))).setCell ⟨gb418, 3, none⟩ (.int .i64 ((rd_T34 l0_1 x3_2).f2))).setCell ⟨gb418, 4, none⟩ (.string ((rd_T34 l0_1 x3_2).f3))).setCell ⟨gb418, 5, none⟩ (.int .i64 ((rd_T34 l0_1 x3_2).f4))).heap[gb418]? = some (.cells #[.int .i64 ((rd_T34 l0_1 x3_2).f0.f0), .int .i64 ((rd_T34 l0_1 x3_2).f0.f1), .string ((rd_T34 l0_1 x3_2).f1), .int .i64 ((rd_T34 l0_1 x3_2).f2), .string ((rd_T34 l0_1 x3_2).f3), .int .i64 ((rd_T34 l0_1 x3_2).f4)] 34 (0, 0))) := ⟨by (with_reducible repeat (first | refine blk_drewN ?_ _ | refine blk_drew ?_ | refine blk_alloc ?_ _)); refine blk_put (cs := #[.int .i64 ((rd_T34 l0_1 x3_2).f0.f0), .int .i64 ((rd_T34 l0_1 x3_2).f0.f1), .string ((rd_T34 l0_1 x3_2).f1), .int .i64 ((rd_T34 l0_1 x3_2).f2), .string ((rd_T34 l0_1 x3_2).f3), .int .i64 0]) ?_ 5 _ rfl; (with_reducible repeat (first | refine blk_drewN ?_ _ | refine blk_drew ?_ | refine blk_alloc ?_ _)); refine blk_put (cs := #[.int .i64 ((rd_T34 l0_1 x3_2).f0.f0), .int .i64 ((rd_T34 l0_1 x3_2).f0.f1), .string ((rd_T34 l0_1 x3_2).f1), .int .i64 ((rd_T34 l0_1 x3_2).f2), .string (⟨#[]⟩ : ByteArray), .int .i64 0]) ?_ 4 _ rfl; (with_reducible repeat (first | refine blk_drewN ?_ _ | refine blk_drew ?_ | refine blk_alloc ?_ _)); refine blk_put (cs := #[.int .i64 ((rd_T34 l0_1 x3_2).f0.f0), .int .i64 ((rd_T34 l0_1 x3_2).f0.f1), .string ((rd_T34 l0_1 x3_2).f1), .int .i64 0, .string (⟨#[]⟩ : ByteArray), .int .i64 0]) ?_ 3 _ rfl; (with_reducible repeat (first | refine blk_drewN ?_ _ | refine blk_drew ?_ | refine blk_alloc ?_ _)); refine blk_put (cs := #[.int .i64 ((rd_T34 l0_1 x3_2).f0.f0), .int .i64 ((rd_T34 l0_1 x3_2).f0.f1), .string (⟨#[]⟩ : ByteArray), .int .i64 0, .string (⟨#[]⟩ : ByteArray), .int .i64 0]) ?_ 2 _ rfl; (with_reducible repeat (first | refine blk_drewN ?_ _ | refine blk_drew ?_ | refine blk_alloc ?_ _)); refine blk_put (cs := #[.int .i64 ((rd_T34 l0_1 x3_2).f0.f0), .int .i64 0, .string (⟨#[]⟩ : ByteArray), .int .i64 0, .string (⟨#[]⟩ : ByteArray), .int .i64 0]) ?_ 1 _ rfl; (with_reducible repeat (first | refine blk_drewN ?_ _ | refine blk_drew ?_ | refine blk_alloc ?_ _)); refine blk_put (cs := #[.int .i64 0, .int .i64 0, .string (⟨#[]⟩ : ByteArray), .int .i64 0, .string (⟨#[]⟩ : ByteArray), .int .i64 0]) ?_ 0 _ rfl; (with_reducible repeat (first | refine blk_drewN ?_ _ | refine blk_drew ?_ | refine blk_alloc ?_ _)); exact BK418.out⟩
           have n2_ : Aside0 (Below w.heap.size w ((((((w16.setCell ⟨gb418, 0, none⟩ (.int .i64 ((rd_T34 l0_1 x3_2).f0.f0))).setCell ⟨gb418, 1, none⟩ (.int .i64 ((rd_T34 l0_1 x3_2).f0.f1))).setCell ⟨gb418, 2, none⟩ (.string ((rd_T34 l0_1 x3_2).f1))).setCell ⟨gb418, 3, none⟩ (.int .i64 ((rd_T34 l0_1 x3_2).f2))).setCell ⟨gb418, 4, none⟩ (.string ((rd_T34 l0_1 x3_2).f3))).setCell ⟨gb418, 5, none⟩ (.int .i64 ((rd_T34 l0_1 x3_2).f4)))) := ⟨by repeat (first | (with_reducible first | exact HB.out | apply below_alloc | apply pw_below_drewN | apply below_drew1 | refine below_set ?_ GE415.out | refine below_set ?_ GE418.out) | exact HB.out)⟩
           (try clear BK415)
           (try clear BK418)
           (try clear HB)
           generalize ((((((w16.setCell ⟨gb418, 0, none⟩ (.int .i64 ((rd_T34 l0_1 x3_2).f0.f0))).setCell ⟨gb418, 1, none⟩ (.int .i64 ((rd_T34 l0_1 x3_2).f0.f1))).setCell ⟨gb418, 2, none⟩ (.string ((rd_T34 l0_1 x3_2).f1))).setCell ⟨gb418, 3, none⟩ (.int .i64 ((rd_T34 l0_1 x3_2).f2))).setCell ⟨gb418, 4, none⟩ (.string ((rd_T34 l0_1 x3_2).f3))).setCell ⟨gb418, 5, none⟩ (.int .i64 ((rd_T34 l0_1 x3_2).f4))) = w28 at n0_ n1_ n2_ ⊢
           have BK415 := n0_
           have BK418 := n1_
           have HB := n2_
           clear n0_ n1_ n2_
           replace BK415 := Aside0.mk (blk_drew BK415.out)
           replace BK418 := Aside0.mk (blk_drew BK418.out)
           replace HB := Aside0.mk (below_drew1 HB.out)
           have p421 : 0 ≤ ((ji24) : Int) := of_decide_eq_true as_
           have q421 : (ji24) < (l0_1.length : Int) := of_decide_eq_true as_
           obtain ⟨ad421, e421, hx421_0, hx421_1, hx421_2, hx421_3, hx421_4, hx421_5⟩ := at_T34 HR0_1.out (ji24) p421 q421
           have hw421_5 := hx421_5
           have hw421_4 := hx421_4
           have hw421_3 := hx421_3
           have hw421_2 := hx421_2
           have hw421_1 := hx421_1
           have hw421_0 := hx421_0
           obtain rfl : ad417 = ad421 := (by injection e421)
           replace hx421_0 := (HB.out.cell (World.block_lt_of_cell? w _ hx421_0)).trans hx421_0
           replace hx421_1 := (HB.out.cell (World.block_lt_of_cell? w _ hx421_1)).trans hx421_1
           replace hx421_2 := (HB.out.cell (World.block_lt_of_cell? w _ hx421_2)).trans hx421_2
           replace hx421_3 := (HB.out.cell (World.block_lt_of_cell? w _ hx421_3)).trans hx421_3
           replace hx421_4 := (HB.out.cell (World.block_lt_of_cell? w _ hx421_4)).trans hx421_4
           replace hx421_5 := (HB.out.cell (World.block_lt_of_cell? w _ hx421_5)).trans hx421_5
           replace p421 := eq_true p421
           replace q421 := eq_true q421
           refine start_ (n := 28) (S := fun w' => w'.cell? ⟨gb418, 0, none⟩ = some (.int .i64 ((rd_T34 l0_1 x3_2).f0.f0)) ∧ w'.cell? ⟨gb418, 1, none⟩ = some (.int .i64 ((rd_T34 l0_1 x3_2).f0.f1)) ∧ w'.cell? ⟨gb418, 2, none⟩ = some (.string ((rd_T34 l0_1 x3_2).f1)) ∧ w'.cell? ⟨gb418, 3, none⟩ = some (.int .i64 ((rd_T34 l0_1 x3_2).f2)) ∧ w'.cell? ⟨gb418, 4, none⟩ = some (.string ((rd_T34 l0_1 x3_2).f3)) ∧ w'.cell? ⟨gb418, 5, none⟩ = some (.int .i64 ((rd_T34 l0_1 x3_2).f4)) ∧ w'.cell? ⟨gb415, 0, none⟩ = some (.slice A0_0 l0_0.length c0_0) ∧ w'.cell? ⟨gb415, 1, none⟩ = some (.slice (some ad417) l0_1.length c0_1) ∧ w'.cell? (ad417.add (((ji24)).toNat * 6)) = some (.int .i64 ((rd_T34 l0_1 (ji24)).f0.f0)) ∧ w'.cell? ⟨(ad417.add (((ji24)).toNat * 6)).block, (ad417.add (((ji24)).toNat * 6)).off + 1, none⟩ = some (.int .i64 ((rd_T34 l0_1 (ji24)).f0.f1)) ∧ w'.cell? ⟨(ad417.add (((ji24)).toNat * 6)).block, (ad417.add (((ji24)).toNat * 6)).off + 2, none⟩ = some (.string ((rd_T34 l0_1 (ji24)).f1)) ∧ w'.cell? ⟨(ad417.add (((ji24)).toNat * 6)).block, (ad417.add (((ji24)).toNat * 6)).off + 3, none⟩ = some (.int .i64 ((rd_T34 l0_1 (ji24)).f2)) ∧ w'.cell? ⟨(ad417.add (((ji24)).toNat * 6)).block, (ad417.add (((ji24)).toNat * 6)).off + 4, none⟩ = some (.string ((rd_T34 l0_1 (ji24)).f3)) ∧ w'.cell? ⟨(ad417.add (((ji24)).toNat * 6)).block, (ad417.add (((ji24)).toNat * 6)).off + 5, none⟩ = some (.int .i64 ((rd_T34 l0_1 (ji24)).f4))) (ds := []) (fl 0 28) (by kernel_rfl) rfl rfl ⟨(blk_cell BK418.out 0).trans rfl, (blk_cell BK418.out 1).trans rfl, (blk_cell BK418.out 2).trans rfl, (blk_cell BK418.out 3).trans rfl, (blk_cell BK418.out 4).trans rfl, (blk_cell BK418.out 5).trans rfl, (blk_cell BK415.out 0).trans rfl, (blk_cell BK415.out 1).trans rfl, (bc HB.out hw421_0), (bc HB.out hw421_1), (bc HB.out hw421_2), (bc HB.out hw421_3), (bc HB.out hw421_4), (bc HB.out hw421_5)⟩ (fun hHeld => ?_); refine with_tabW deaddropref7_May.tab7 deaddropref7_May.bits7 (fun HT_ HW_ => ?_)
           generalize w28.drew = w29 at BK415 BK418 HB hx421_0 hx421_1 hx421_2 hx421_3 hx421_4 hx421_5 hHeld ⊢
           refine take_ (i := 0) (N := some 27) (v := ?_) (a' := ?_) (fl 1 28) rfl rfl (take_ofW HT_.out HW_.out (by kernel_rfl)) (fun _ _ _ h => h) (Or.inl ⟨by rfl, ?_⟩) hHeld ?_ ?_
           rotate_left
           ·
            rintro w' ⟨s0, s1, s2, s3, s4, s5, s6, s7, s8, s9, s10, s11, s12, s13⟩
            go_simp
            with_reducible rfl
           rotate_left
           ·
            simp only [Act.put, List.setIfInBounds_toArray, List.set_cons_zero, List.set_cons_succ, i64_w, i32_w]
            rfl
           refine one_ (i := 1) (N := some 28) (fl 2 28) rfl rfl (one_of HT_.out (by kernel_rfl)) (by decide) (fun K hK => ?_)
           refine goes_ Try.func34 (by kernel_rfl) rfl #[.agg #[.int .i64 ((rd_T34 l0_1 x3_2).f0.f0), .int .i64 ((rd_T34 l0_1 x3_2).f0.f1), .string ((rd_T34 l0_1 x3_2).f1), .int .i64 ((rd_T34 l0_1 x3_2).f2), .string ((rd_T34 l0_1 x3_2).f3), .int .i64 ((rd_T34 l0_1 x3_2).f4)]] (by rfl) rfl rfl ar_ ?_
           with_reducible refine (deaddropref7_Right.calls k2 ((rd_T34 l0_1 x3_2).f0.f0) ((rd_T34 l0_1 x3_2).f0.f1) ((rd_T34 l0_1 x3_2).f1) ((rd_T34 l0_1 x3_2).f2) ((rd_T34 l0_1 x3_2).f3) ((rd_T34 l0_1 x3_2).f4) true _ A19.out).mono ?_
           rintro e w30 ⟨rfl, hb⟩
           refine ⟨_, rfl, ?_⟩
           replace BK415 := Aside0.mk (blk_below (g := gb415) (o := .cells #[.slice A0_0 l0_0.length c0_0, .slice (some ad417) l0_1.length c0_1] 28 (0, 0)) (bk BK415.out) hb)
           replace BK418 := Aside0.mk (blk_below (g := gb418) (o := .cells #[.int .i64 ((rd_T34 l0_1 x3_2).f0.f0), .int .i64 ((rd_T34 l0_1 x3_2).f0.f1), .string ((rd_T34 l0_1 x3_2).f1), .int .i64 ((rd_T34 l0_1 x3_2).f2), .string ((rd_T34 l0_1 x3_2).f3), .int .i64 ((rd_T34 l0_1 x3_2).f4)] 34 (0, 0)) (bk BK418.out) hb)
           replace HB := Aside0.mk (below_step (bw2 HB.out GE415.out GE418.out) hb)
           (try clear hb)
           (try clear hb2)
           (try clear hk)
           (try clear hi)
           refine hK.out _ _ ⟨(blk_cell BK418.out 0).trans rfl, (blk_cell BK418.out 1).trans rfl, (blk_cell BK418.out 2).trans rfl, (blk_cell BK418.out 3).trans rfl, (blk_cell BK418.out 4).trans rfl, (blk_cell BK418.out 5).trans rfl, (blk_cell BK415.out 0).trans rfl, (blk_cell BK415.out 1).trans rfl, (bc HB.out hw421_0), (bc HB.out hw421_1), (bc HB.out hw421_2), (bc HB.out hw421_3), (bc HB.out hw421_4), (bc HB.out hw421_5)⟩ (fun hHeld => ?_)
           clear hK K
           refine norm_ (a' := ?_) ?_ ?_
           rotate_left
           ·
            show Act.put _ (some 28) _ = _
            simp only [Act.put, List.setIfInBounds_toArray, List.set_cons_zero, List.set_cons_succ, i64_w, i32_w]
            rfl
           refine pure_ (i := 2) (N := some 29) (fl 3 28) rfl rfl (any_of HT_.out (by kernel_rfl)) (fun _ _ _ h => h) (Or.inl ⟨by rfl, py⟩) pa ?_
           refine pure_ (i := 3) (N := some 30) (fl 4 28) rfl rfl (any_of HT_.out (by kernel_rfl)) (fun _ _ _ h => h) (Or.inl ⟨by rfl, py⟩) pa ?_
           refine pure_ (i := 4) (N := some 31) (fl 5 28) rfl rfl (any_of HT_.out (by kernel_rfl)) (fun _ _ _ h => h) (Or.inl ⟨by rfl, py⟩) pa ?_
           refine pure_ (i := 6) (N := some 33) #[true, true, true, true, true, false, true, false, false, false, false, false, false, false, false, false, false, false, false, false, false, false, false, false, false, false, false, false] rfl rfl (any_of HT_.out (by kernel_rfl)) (fun _ _ _ h => h) (Or.inl ⟨by rfl, py⟩) pa ?_
           refine take_ (i := 5) (N := some 32) (v := ?_) (a' := ?_) (fl 7 28) rfl rfl (take_ofW HT_.out HW_.out (by kernel_rfl)) (fun _ _ _ h => h) (Or.inl ⟨by rfl, ?_⟩) hHeld ?_ ?_
           rotate_left
           ·
            rintro w' ⟨s0, s1, s2, s3, s4, s5, s6, s7, s8, s9, s10, s11, s12, s13⟩
            go_simp
            with_reducible rfl
           rotate_left
           ·
            simp only [Act.put, List.setIfInBounds_toArray, List.set_cons_zero, List.set_cons_succ, i64_w, i32_w]
            rfl
           refine take_ (i := 7) (N := some 34) (v := ?_) (a' := ?_) (fl 8 28) rfl rfl (take_ofW HT_.out HW_.out (by kernel_rfl)) (fun _ _ _ h => h) (Or.inl ⟨by rfl, ?_⟩) hHeld ?_ ?_
           rotate_left
           ·
            rintro w' ⟨s0, s1, s2, s3, s4, s5, s6, s7, s8, s9, s10, s11, s12, s13⟩
            go_simp
            with_reducible rfl
           rotate_left
           ·
            simp only [Act.put, List.setIfInBounds_toArray, List.set_cons_zero, List.set_cons_succ, i64_w, i32_w]
            rfl
           refine one_ (i := 8) (N := some 35) (fl 9 28) rfl rfl (one_of HT_.out (by kernel_rfl)) (by decide) (fun K hK => ?_)
           refine goes_ Try.func25 (by kernel_rfl) rfl #[.slice A0_0 l0_0.length c0_0, .agg #[.int .i64 ((rd_T34 l0_1 x3_2).f0.f0), .int .i64 ((rd_T34 l0_1 x3_2).f0.f1)]] (by rfl) rfl rfl ar_ ?_
           with_reducible refine (deaddropref7_Has.calls k2 _ _ l0_0 ((rd_T34 l0_1 x3_2).f0.f0) ((rd_T34 l0_1 x3_2).f0.f1) true _ ?side1 ?side2 A21.out).mono ?_
           (case side1 => exact cr (Kd.C_below HR0_0.out HB.out))
           (case side2 => exact HC0_0.out)
           rintro e w31 ⟨rfl, hb⟩
           refine ⟨_, rfl, ?_⟩
           replace BK415 := Aside0.mk (blk_below (g := gb415) (o := .cells #[.slice A0_0 l0_0.length c0_0, .slice (some ad417) l0_1.length c0_1] 28 (0, 0)) (bk BK415.out) hb)
           replace BK418 := Aside0.mk (blk_below (g := gb418) (o := .cells #[.int .i64 ((rd_T34 l0_1 x3_2).f0.f0), .int .i64 ((rd_T34 l0_1 x3_2).f0.f1), .string ((rd_T34 l0_1 x3_2).f1), .int .i64 ((rd_T34 l0_1 x3_2).f2), .string ((rd_T34 l0_1 x3_2).f3), .int .i64 ((rd_T34 l0_1 x3_2).f4)] 34 (0, 0)) (bk BK418.out) hb)
           replace HB := Aside0.mk (below_step (bw2 HB.out GE415.out GE418.out) hb)
           (try clear hb)
           (try clear hb2)
           (try clear hk)
           (try clear hi)
           refine hK.out _ _ ⟨(blk_cell BK418.out 0).trans rfl, (blk_cell BK418.out 1).trans rfl, (blk_cell BK418.out 2).trans rfl, (blk_cell BK418.out 3).trans rfl, (blk_cell BK418.out 4).trans rfl, (blk_cell BK418.out 5).trans rfl, (blk_cell BK415.out 0).trans rfl, (blk_cell BK415.out 1).trans rfl, (bc HB.out hw421_0), (bc HB.out hw421_1), (bc HB.out hw421_2), (bc HB.out hw421_3), (bc HB.out hw421_4), (bc HB.out hw421_5)⟩ (fun hHeld => ?_)
           clear hK K
           refine norm_ (a' := ?_) ?_ ?_
           rotate_left
           ·
            show Act.put _ (some 35) _ = _
            simp only [Act.put, List.setIfInBounds_toArray, List.set_cons_zero, List.set_cons_succ, i64_w, i32_w]
            rfl
           refine pure_ (i := 9) (N := some 36) (fl 10 28) rfl rfl (any_of HT_.out (by kernel_rfl)) (fun _ _ _ h => h) (Or.inl ⟨by rfl, py⟩) pa ?_
           refine pure_ (i := 10) (N := some 37) (fl 11 28) rfl rfl (any_of HT_.out (by kernel_rfl)) (fun _ _ _ h => h) (Or.inl ⟨by rfl, py⟩) pa ?_
           refine pure_ (i := 11) (N := some 38) (fl 12 28) rfl rfl (any_of HT_.out (by kernel_rfl)) (fun _ _ _ h => h) (Or.inl ⟨by rfl, py⟩) pa ?_
           refine pure_ (i := 12) (N := some 39) (fl 13 28) rfl rfl (any_of HT_.out (by kernel_rfl)) (fun _ _ _ h => h) (Or.inl ⟨by rfl, py⟩) pa ?_
           refine pure_ (i := 13) (N := some 40) (fl 14 28) rfl rfl (any_of HT_.out (by kernel_rfl)) (fun _ _ _ h => h) (Or.inl ⟨by rfl, py⟩) pa ?_
           refine pure_ (i := 14) (N := some 41) (fl 15 28) rfl rfl (any_of HT_.out (by kernel_rfl)) (fun _ _ _ h => h) (Or.inl ⟨by rfl, py⟩) pa ?_
           refine pure_ (i := 15) (N := some 42) (fl 16 28) rfl rfl (any_of HT_.out (by kernel_rfl)) (fun _ _ _ h => h) (Or.inl ⟨by rfl, py⟩) pa ?_
           refine pure_ (i := 17) (N := some 44) #[true, true, true, true, true, true, true, true, true, true, true, true, true, true, true, true, false, true, false, false, false, false, false, false, false, false, false, false] rfl rfl (any_of HT_.out (by kernel_rfl)) (fun _ _ _ h => h) (Or.inl ⟨by rfl, py⟩) pa ?_
           refine pure_ (i := 18) (N := some 45) #[true, true, true, true, true, true, true, true, true, true, true, true, true, true, true, true, false, true, true, false, false, false, false, false, false, false, false, false] rfl rfl (any_of HT_.out (by kernel_rfl)) (fun _ _ _ h => h) (Or.inl ⟨by rfl, py⟩) pa ?_
           refine pure_ (i := 22) (N := some 49) #[true, true, true, true, true, true, true, true, true, true, true, true, true, true, true, true, false, true, true, false, false, false, true, false, false, false, false, false] rfl rfl (any_of HT_.out (by kernel_rfl)) (fun _ _ _ h => h) (Or.inl ⟨by rfl, py⟩) pa ?_
           refine take_ (i := 16) (N := some 43) (v := ?_) (a' := ?_) #[true, true, true, true, true, true, true, true, true, true, true, true, true, true, true, true, true, true, true, false, false, false, true, false, false, false, false, false] rfl rfl (take_ofW HT_.out HW_.out (by kernel_rfl)) (fun _ _ _ h => h) (Or.inl ⟨by rfl, ?_⟩) hHeld ?_ ?_
           rotate_left
           ·
            rintro w' ⟨s0, s1, s2, s3, s4, s5, s6, s7, s8, s9, s10, s11, s12, s13⟩
            go_simp
            with_reducible rfl
           rotate_left
           ·
            simp only [Act.put, List.setIfInBounds_toArray, List.set_cons_zero, List.set_cons_succ, i64_w, i32_w]
            rfl
           refine pure_ (i := 19) (N := some 46) #[true, true, true, true, true, true, true, true, true, true, true, true, true, true, true, true, true, true, true, true, false, false, true, false, false, false, false, false] rfl rfl (any_of HT_.out (by kernel_rfl)) (fun _ _ _ h => h) (Or.inl ⟨by rfl, py⟩) pa ?_
           refine pure_ (i := 20) (N := some 47) #[true, true, true, true, true, true, true, true, true, true, true, true, true, true, true, true, true, true, true, true, true, false, true, false, false, false, false, false] rfl rfl (any_of HT_.out (by kernel_rfl)) (fun _ _ _ h => h) (Or.inl ⟨by rfl, py⟩) pa ?_
           refine take_ (i := 21) (N := some 48) (v := ?_) (a' := ?_) (fl 23 28) rfl rfl (take_ofW HT_.out HW_.out (by kernel_rfl)) (fun _ _ _ h => h) (Or.inl ⟨by rfl, ?_⟩) hHeld ?_ ?_
           rotate_left
           ·
            rintro w' ⟨s0, s1, s2, s3, s4, s5, s6, s7, s8, s9, s10, s11, s12, s13⟩
            go_simp
            with_reducible rfl
           rotate_left
           ·
            simp only [Act.put, List.setIfInBounds_toArray, List.set_cons_zero, List.set_cons_succ, i64_w, i32_w]
            rfl
           refine take_ (i := 23) (N := some 50) (v := ?_) (a' := ?_) (fl 24 28) rfl rfl (take_ofW HT_.out HW_.out (by kernel_rfl)) (fun _ _ _ h => h) (Or.inl ⟨by rfl, ?_⟩) hHeld ?_ ?_
           rotate_left
           ·
            rintro w' ⟨s0, s1, s2, s3, s4, s5, s6, s7, s8, s9, s10, s11, s12, s13⟩
            go_simp
            with_reducible rfl
           rotate_left
           ·
            simp only [Act.put, List.setIfInBounds_toArray, List.set_cons_zero, List.set_cons_succ, i64_w, i32_w]
            rfl
           refine one_ (i := 24) (N := some 51) (fl 25 28) rfl rfl (one_of HT_.out (by kernel_rfl)) (by decide) (fun K hK => ?_)
           refine goes_ Try.func24 (by kernel_rfl) rfl #[.agg #[.int .i64 ((rd_T34 l0_1 (ji24)).f0.f0), .int .i64 ((rd_T34 l0_1 (ji24)).f0.f1)], .agg #[.int .i64 ((rd_T34 l0_1 x3_2).f0.f0), .int .i64 ((rd_T34 l0_1 x3_2).f0.f1)]] (by rfl) rfl rfl (by (try simp only [List.map_toArray, List.map_cons, List.map_nil]); first | done | (simp only [hji24]; rfl) | rfl | (simp only [List.length_drop, List.length_take]; rfl)) ?_
           with_reducible refine (deaddropref7_Cmp.calls k2 ((rd_T34 l0_1 (ji24)).f0.f0) ((rd_T34 l0_1 (ji24)).f0.f1) ((rd_T34 l0_1 x3_2).f0.f0) ((rd_T34 l0_1 x3_2).f0.f1) t422 _ A27.out).mono ?_
           rintro e w32 ⟨rfl, hb⟩
           refine ⟨_, rfl, ?_⟩
           replace BK415 := Aside0.mk (blk_below (g := gb415) (o := .cells #[.slice A0_0 l0_0.length c0_0, .slice (some ad417) l0_1.length c0_1] 28 (0, 0)) (bk BK415.out) hb)
           replace BK418 := Aside0.mk (blk_below (g := gb418) (o := .cells #[.int .i64 ((rd_T34 l0_1 x3_2).f0.f0), .int .i64 ((rd_T34 l0_1 x3_2).f0.f1), .string ((rd_T34 l0_1 x3_2).f1), .int .i64 ((rd_T34 l0_1 x3_2).f2), .string ((rd_T34 l0_1 x3_2).f3), .int .i64 ((rd_T34 l0_1 x3_2).f4)] 34 (0, 0)) (bk BK418.out) hb)
           replace HB := Aside0.mk (below_step (bw2 HB.out GE415.out GE418.out) hb)
           (try clear hb)
           (try clear hb2)
           (try clear hk)
           (try clear hi)
           refine hK.out _ _ ⟨(blk_cell BK418.out 0).trans rfl, (blk_cell BK418.out 1).trans rfl, (blk_cell BK418.out 2).trans rfl, (blk_cell BK418.out 3).trans rfl, (blk_cell BK418.out 4).trans rfl, (blk_cell BK418.out 5).trans rfl, (blk_cell BK415.out 0).trans rfl, (blk_cell BK415.out 1).trans rfl, (bc HB.out hw421_0), (bc HB.out hw421_1), (bc HB.out hw421_2), (bc HB.out hw421_3), (bc HB.out hw421_4), (bc HB.out hw421_5)⟩ (fun hHeld => ?_)
           clear hK K
           refine norm_ (a' := ?_) ?_ ?_
           rotate_left
           ·
            show Act.put _ (some 51) _ = _
            simp only [Act.put, List.setIfInBounds_toArray, List.set_cons_zero, List.set_cons_succ, i64_w, i32_w]
            rfl
           refine pure_ (i := 25) (N := some 52) (fl 26 28) rfl rfl (any_of HT_.out (by kernel_rfl)) (fun _ _ _ h => h) (Or.inl ⟨by rfl, py⟩) pa ?_
           refine pure_ (i := 26) (N := some 53) (fl 27 28) rfl rfl (any_of HT_.out (by kernel_rfl)) (fun _ _ _ h => h) (Or.inl ⟨by rfl, py⟩) pa ?_
           refine pure_ (i := 27) (N := some 54) (fl 28 28) rfl rfl (any_of HT_.out (by kernel_rfl)) (fun _ _ _ h => h) (Or.inl ⟨by rfl, py⟩) pa ?_
           refine done_ (done_of HT_.out (by kernel_rfl)) ?_
           try go_wp2
           go_meet
           case rel => exact ⟨_, (decide (t422 ≥ 0)), ok_, H', ⟨by have := HJ1.out; have := HK2.out; first | omega | exact Nat.le_refl _⟩, ⟨by (with_reducible repeat (first | refine blk_drewN ?_ _ | refine blk_drew ?_ | refine blk_alloc ?_ _)); exact BK415.out⟩, ⟨by (with_reducible repeat (first | refine blk_drewN ?_ _ | refine blk_drew ?_ | refine blk_alloc ?_ _)); exact BK418.out⟩, ⟨by repeat (first | (with_reducible first | exact HB.out | apply below_alloc | apply pw_below_drewN | apply below_drew1 | refine below_set ?_ GE415.out | refine below_set ?_ GE418.out) | exact HB.out)⟩⟩
          ·
           rw [if_neg c23] at H
           have c23b0 : decide (0 < x3_2) = false := decide_eq_false c23
           clear c23
           (first | rw [c23b0] | (simp only [i64_w, i32_w]; rw [c23b0]) | skip)
           have H' := Aside0.mk H
           clear H
           try go_wp2
           have n0_ : Aside0 (((((((w16.setCell ⟨gb418, 0, none⟩ (.int .i64 ((rd_T34 l0_1 x3_2).f0.f0))).setCell ⟨gb418, 1, none⟩ (.int .i64 ((rd_T34 l0_1 x3_2).f0.f1))).setCell ⟨gb418, 2, none⟩ (.string ((rd_T34 l0_1 x3_2).f1))).setCell ⟨gb418, 3, none⟩ (.int .i64 ((rd_T34 l0_1 x3_2).f2))).setCell ⟨gb418, 4, none⟩ (.string ((rd_T34 l0_1 x3_2).f3))).setCell ⟨gb418, 5, none⟩ (.int .i64 ((rd_T34 l0_1 x3_2).f4))).heap[gb415]? = some (.cells #[.slice A0_0 l0_0.length c0_0, .slice (some ad417) l0_1.length c0_1] 28 (0, 0))) := ⟨by (with_reducible repeat (first | refine blk_drewN ?_ _ | refine blk_drew ?_ | refine blk_alloc ?_ _)); refine blk_far ?_ NB415_418.out _; (with_reducible repeat (first | refine blk_drewN ?_ _ | refine blk_drew ?_ | refine blk_alloc ?_ _)); refine blk_far ?_ NB415_418.out _; (with_reducible repeat (first | refine blk_drewN ?_ _ | refine blk_drew ?_ | refine blk_alloc ?_ _)); refine blk_far ?_ NB415_418.out _; (with_reducible repeat (first | refine blk_drewN ?_ _ | refine blk_drew ?_ | refine blk_alloc ?_ _)); refine blk_far ?_ NB415_418.out _; (with_reducible repeat (first | refine blk_drewN ?_ _ | refine blk_drew ?_ | refine blk_alloc ?_ _)); refine blk_far ?_ NB415_418.out _; (with_reducible repeat (first | refine blk_drewN ?_ _ | refine blk_drew ?_ | refine blk_alloc ?_ _)); refine blk_far ?_ NB415_418.out _; (with_reducible repeat (first | refine blk_drewN ?_ _ | refine blk_drew ?_ | refine blk_alloc ?_ _)); exact BK415.out⟩
           have n1_ : Aside0 (((((((w16.setCell ⟨gb418, 0, none⟩ (.int .i64 ((rd_T34 l0_1 x3_2).f0.f0))).setCell ⟨gb418, 1, none⟩ (.int .i64 ((rd_T34 l0_1 x3_2).f0.f1))).setCell ⟨gb418, 2, none⟩ (.string ((rd_T34 l0_1 x3_2).f1))).setCell ⟨gb418, 3, none⟩ (.int .i64 ((rd_T34 l0_1 x3_2).f2))).setCell ⟨gb418, 4, none⟩ (.string ((rd_T34 l0_1 x3_2).f3))).setCell ⟨gb418, 5, none⟩ (.int .i64 ((rd_T34 l0_1 x3_2).f4))).heap[gb418]? = some (.cells #[.int .i64 ((rd_T34 l0_1 x3_2).f0.f0), .int .i64 ((rd_T34 l0_1 x3_2).f0.f1), .string ((rd_T34 l0_1 x3_2).f1), .int .i64 ((rd_T34 l0_1 x3_2).f2), .string ((rd_T34 l0_1 x3_2).f3), .int .i64 ((rd_T34 l0_1 x3_2).f4)] 34 (0, 0))) := ⟨by (with_reducible repeat (first | refine blk_drewN ?_ _ | refine blk_drew ?_ | refine blk_alloc ?_ _)); refine blk_put (cs := #[.int .i64 ((rd_T34 l0_1 x3_2).f0.f0), .int .i64 ((rd_T34 l0_1 x3_2).f0.f1), .string ((rd_T34 l0_1 x3_2).f1), .int .i64 ((rd_T34 l0_1 x3_2).f2), .string ((rd_T34 l0_1 x3_2).f3), .int .i64 0]) ?_ 5 _ rfl; (with_reducible repeat (first | refine blk_drewN ?_ _ | refine blk_drew ?_ | refine blk_alloc ?_ _)); refine blk_put (cs := #[.int .i64 ((rd_T34 l0_1 x3_2).f0.f0), .int .i64 ((rd_T34 l0_1 x3_2).f0.f1), .string ((rd_T34 l0_1 x3_2).f1), .int .i64 ((rd_T34 l0_1 x3_2).f2), .string (⟨#[]⟩ : ByteArray), .int .i64 0]) ?_ 4 _ rfl; (with_reducible repeat (first | refine blk_drewN ?_ _ | refine blk_drew ?_ | refine blk_alloc ?_ _)); refine blk_put (cs := #[.int .i64 ((rd_T34 l0_1 x3_2).f0.f0), .int .i64 ((rd_T34 l0_1 x3_2).f0.f1), .string ((rd_T34 l0_1 x3_2).f1), .int .i64 0, .string (⟨#[]⟩ : ByteArray), .int .i64 0]) ?_ 3 _ rfl; (with_reducible repeat (first | refine blk_drewN ?_ _ | refine blk_drew ?_ | refine blk_alloc ?_ _)); refine blk_put (cs := #[.int .i64 ((rd_T34 l0_1 x3_2).f0.f0), .int .i64 ((rd_T34 l0_1 x3_2).f0.f1), .string (⟨#[]⟩ : ByteArray), .int .i64 0, .string (⟨#[]⟩ : ByteArray), .int .i64 0]) ?_ 2 _ rfl; (with_reducible repeat (first | refine blk_drewN ?_ _ | refine blk_drew ?_ | refine blk_alloc ?_ _)); refine blk_put (cs := #[.int .i64 ((rd_T34 l0_1 x3_2).f0.f0), .int .i64 0, .string (⟨#[]⟩ : ByteArray), .int .i64 0, .string (⟨#[]⟩ : ByteArray), .int .i64 0]) ?_ 1 _ rfl; (with_reducible repeat (first | refine blk_drewN ?_ _ | refine blk_drew ?_ | refine blk_alloc ?_ _)); refine blk_put (cs := #[.int .i64 0, .int .i64 0, .string (⟨#[]⟩ : ByteArray), .int .i64 0, .string (⟨#[]⟩ : ByteArray), .int .i64 0]) ?_ 0 _ rfl; (with_reducible repeat (first | refine blk_drewN ?_ _ | refine blk_drew ?_ | refine blk_alloc ?_ _)); exact BK418.out⟩
           have n2_ : Aside0 (Below w.heap.size w ((((((w16.setCell ⟨gb418, 0, none⟩ (.int .i64 ((rd_T34 l0_1 x3_2).f0.f0))).setCell ⟨gb418, 1, none⟩ (.int .i64 ((rd_T34 l0_1 x3_2).f0.f1))).setCell ⟨gb418, 2, none⟩ (.string ((rd_T34 l0_1 x3_2).f1))).setCell ⟨gb418, 3, none⟩ (.int .i64 ((rd_T34 l0_1 x3_2).f2))).setCell ⟨gb418, 4, none⟩ (.string ((rd_T34 l0_1 x3_2).f3))).setCell ⟨gb418, 5, none⟩ (.int .i64 ((rd_T34 l0_1 x3_2).f4)))) := ⟨by repeat (first | (with_reducible first | exact HB.out | apply below_alloc | apply pw_below_drewN | apply below_drew1 | refine below_set ?_ GE415.out | refine below_set ?_ GE418.out) | exact HB.out)⟩
           (try clear BK415)
           (try clear BK418)
           (try clear HB)
           generalize ((((((w16.setCell ⟨gb418, 0, none⟩ (.int .i64 ((rd_T34 l0_1 x3_2).f0.f0))).setCell ⟨gb418, 1, none⟩ (.int .i64 ((rd_T34 l0_1 x3_2).f0.f1))).setCell ⟨gb418, 2, none⟩ (.string ((rd_T34 l0_1 x3_2).f1))).setCell ⟨gb418, 3, none⟩ (.int .i64 ((rd_T34 l0_1 x3_2).f2))).setCell ⟨gb418, 4, none⟩ (.string ((rd_T34 l0_1 x3_2).f3))).setCell ⟨gb418, 5, none⟩ (.int .i64 ((rd_T34 l0_1 x3_2).f4))) = w33 at n0_ n1_ n2_ ⊢
           have BK415 := n0_
           have BK418 := n1_
           have HB := n2_
           clear n0_ n1_ n2_
           replace BK415 := Aside0.mk (blk_drew BK415.out)
           replace BK418 := Aside0.mk (blk_drew BK418.out)
           replace HB := Aside0.mk (below_drew1 HB.out)
           refine start_ (n := 28) (S := fun w' => w'.cell? ⟨gb418, 0, none⟩ = some (.int .i64 ((rd_T34 l0_1 x3_2).f0.f0)) ∧ w'.cell? ⟨gb418, 1, none⟩ = some (.int .i64 ((rd_T34 l0_1 x3_2).f0.f1)) ∧ w'.cell? ⟨gb418, 2, none⟩ = some (.string ((rd_T34 l0_1 x3_2).f1)) ∧ w'.cell? ⟨gb418, 3, none⟩ = some (.int .i64 ((rd_T34 l0_1 x3_2).f2)) ∧ w'.cell? ⟨gb418, 4, none⟩ = some (.string ((rd_T34 l0_1 x3_2).f3)) ∧ w'.cell? ⟨gb418, 5, none⟩ = some (.int .i64 ((rd_T34 l0_1 x3_2).f4)) ∧ w'.cell? ⟨gb415, 0, none⟩ = some (.slice A0_0 l0_0.length c0_0) ∧ w'.cell? ⟨gb415, 1, none⟩ = some (.slice (some ad417) l0_1.length c0_1)) (ds := []) (fl 0 28) (by kernel_rfl) rfl rfl ⟨(blk_cell BK418.out 0).trans rfl, (blk_cell BK418.out 1).trans rfl, (blk_cell BK418.out 2).trans rfl, (blk_cell BK418.out 3).trans rfl, (blk_cell BK418.out 4).trans rfl, (blk_cell BK418.out 5).trans rfl, (blk_cell BK415.out 0).trans rfl, (blk_cell BK415.out 1).trans rfl⟩ (fun hHeld => ?_); refine with_tabW deaddropref7_May.tab7 deaddropref7_May.bits7 (fun HT_ HW_ => ?_)
           generalize w33.drew = w34 at BK415 BK418 HB hHeld ⊢
           refine take_ (i := 0) (N := some 27) (v := ?_) (a' := ?_) (fl 1 28) rfl rfl (take_ofW HT_.out HW_.out (by kernel_rfl)) (fun _ _ _ h => h) (Or.inl ⟨by rfl, ?_⟩) hHeld ?_ ?_
           rotate_left
           ·
            rintro w' ⟨s0, s1, s2, s3, s4, s5, s6, s7⟩
            go_simp
            with_reducible rfl
           rotate_left
           ·
            simp only [Act.put, List.setIfInBounds_toArray, List.set_cons_zero, List.set_cons_succ, i64_w, i32_w]
            rfl
           refine one_ (i := 1) (N := some 28) (fl 2 28) rfl rfl (one_of HT_.out (by kernel_rfl)) (by decide) (fun K hK => ?_)
           refine goes_ Try.func34 (by kernel_rfl) rfl #[.agg #[.int .i64 ((rd_T34 l0_1 x3_2).f0.f0), .int .i64 ((rd_T34 l0_1 x3_2).f0.f1), .string ((rd_T34 l0_1 x3_2).f1), .int .i64 ((rd_T34 l0_1 x3_2).f2), .string ((rd_T34 l0_1 x3_2).f3), .int .i64 ((rd_T34 l0_1 x3_2).f4)]] (by rfl) rfl rfl ar_ ?_
           with_reducible refine (deaddropref7_Right.calls k2 ((rd_T34 l0_1 x3_2).f0.f0) ((rd_T34 l0_1 x3_2).f0.f1) ((rd_T34 l0_1 x3_2).f1) ((rd_T34 l0_1 x3_2).f2) ((rd_T34 l0_1 x3_2).f3) ((rd_T34 l0_1 x3_2).f4) true _ A19.out).mono ?_
           rintro e w35 ⟨rfl, hb⟩
           refine ⟨_, rfl, ?_⟩
           replace BK415 := Aside0.mk (blk_below (g := gb415) (o := .cells #[.slice A0_0 l0_0.length c0_0, .slice (some ad417) l0_1.length c0_1] 28 (0, 0)) (bk BK415.out) hb)
           replace BK418 := Aside0.mk (blk_below (g := gb418) (o := .cells #[.int .i64 ((rd_T34 l0_1 x3_2).f0.f0), .int .i64 ((rd_T34 l0_1 x3_2).f0.f1), .string ((rd_T34 l0_1 x3_2).f1), .int .i64 ((rd_T34 l0_1 x3_2).f2), .string ((rd_T34 l0_1 x3_2).f3), .int .i64 ((rd_T34 l0_1 x3_2).f4)] 34 (0, 0)) (bk BK418.out) hb)
           replace HB := Aside0.mk (below_step (bw2 HB.out GE415.out GE418.out) hb)
           (try clear hb)
           (try clear hb2)
           (try clear hk)
           (try clear hi)
           refine hK.out _ _ ⟨(blk_cell BK418.out 0).trans rfl, (blk_cell BK418.out 1).trans rfl, (blk_cell BK418.out 2).trans rfl, (blk_cell BK418.out 3).trans rfl, (blk_cell BK418.out 4).trans rfl, (blk_cell BK418.out 5).trans rfl, (blk_cell BK415.out 0).trans rfl, (blk_cell BK415.out 1).trans rfl⟩ (fun hHeld => ?_)
           clear hK K
           refine norm_ (a' := ?_) ?_ ?_
           rotate_left
           ·
            show Act.put _ (some 28) _ = _
            simp only [Act.put, List.setIfInBounds_toArray, List.set_cons_zero, List.set_cons_succ, i64_w, i32_w]
            rfl
           refine pure_ (i := 2) (N := some 29) (fl 3 28) rfl rfl (any_of HT_.out (by kernel_rfl)) (fun _ _ _ h => h) (Or.inl ⟨by rfl, py⟩) pa ?_
           refine pure_ (i := 3) (N := some 30) (fl 4 28) rfl rfl (any_of HT_.out (by kernel_rfl)) (fun _ _ _ h => h) (Or.inl ⟨by rfl, py⟩) pa ?_
           refine pure_ (i := 4) (N := some 31) (fl 5 28) rfl rfl (any_of HT_.out (by kernel_rfl)) (fun _ _ _ h => h) (Or.inl ⟨by rfl, py⟩) pa ?_
           refine pure_ (i := 6) (N := some 33) #[true, true, true, true, true, false, true, false, false, false, false, false, false, false, false, false, false, false, false, false, false, false, false, false, false, false, false, false] rfl rfl (any_of HT_.out (by kernel_rfl)) (fun _ _ _ h => h) (Or.inl ⟨by rfl, py⟩) pa ?_
           refine take_ (i := 5) (N := some 32) (v := ?_) (a' := ?_) (fl 7 28) rfl rfl (take_ofW HT_.out HW_.out (by kernel_rfl)) (fun _ _ _ h => h) (Or.inl ⟨by rfl, ?_⟩) hHeld ?_ ?_
           rotate_left
           ·
            rintro w' ⟨s0, s1, s2, s3, s4, s5, s6, s7⟩
            go_simp
            with_reducible rfl
           rotate_left
           ·
            simp only [Act.put, List.setIfInBounds_toArray, List.set_cons_zero, List.set_cons_succ, i64_w, i32_w]
            rfl
           refine take_ (i := 7) (N := some 34) (v := ?_) (a' := ?_) (fl 8 28) rfl rfl (take_ofW HT_.out HW_.out (by kernel_rfl)) (fun _ _ _ h => h) (Or.inl ⟨by rfl, ?_⟩) hHeld ?_ ?_
           rotate_left
           ·
            rintro w' ⟨s0, s1, s2, s3, s4, s5, s6, s7⟩
            go_simp
            with_reducible rfl
           rotate_left
           ·
            simp only [Act.put, List.setIfInBounds_toArray, List.set_cons_zero, List.set_cons_succ, i64_w, i32_w]
            rfl
           refine one_ (i := 8) (N := some 35) (fl 9 28) rfl rfl (one_of HT_.out (by kernel_rfl)) (by decide) (fun K hK => ?_)
           refine goes_ Try.func25 (by kernel_rfl) rfl #[.slice A0_0 l0_0.length c0_0, .agg #[.int .i64 ((rd_T34 l0_1 x3_2).f0.f0), .int .i64 ((rd_T34 l0_1 x3_2).f0.f1)]] (by rfl) rfl rfl ar_ ?_
           with_reducible refine (deaddropref7_Has.calls k2 _ _ l0_0 ((rd_T34 l0_1 x3_2).f0.f0) ((rd_T34 l0_1 x3_2).f0.f1) true _ ?side1 ?side2 A21.out).mono ?_
           (case side1 => exact cr (Kd.C_below HR0_0.out HB.out))
           (case side2 => exact HC0_0.out)
           rintro e w36 ⟨rfl, hb⟩
           refine ⟨_, rfl, ?_⟩
           replace BK415 := Aside0.mk (blk_below (g := gb415) (o := .cells #[.slice A0_0 l0_0.length c0_0, .slice (some ad417) l0_1.length c0_1] 28 (0, 0)) (bk BK415.out) hb)
           replace BK418 := Aside0.mk (blk_below (g := gb418) (o := .cells #[.int .i64 ((rd_T34 l0_1 x3_2).f0.f0), .int .i64 ((rd_T34 l0_1 x3_2).f0.f1), .string ((rd_T34 l0_1 x3_2).f1), .int .i64 ((rd_T34 l0_1 x3_2).f2), .string ((rd_T34 l0_1 x3_2).f3), .int .i64 ((rd_T34 l0_1 x3_2).f4)] 34 (0, 0)) (bk BK418.out) hb)
           replace HB := Aside0.mk (below_step (bw2 HB.out GE415.out GE418.out) hb)
           (try clear hb)
           (try clear hb2)
           (try clear hk)
           (try clear hi)
           refine hK.out _ _ ⟨(blk_cell BK418.out 0).trans rfl, (blk_cell BK418.out 1).trans rfl, (blk_cell BK418.out 2).trans rfl, (blk_cell BK418.out 3).trans rfl, (blk_cell BK418.out 4).trans rfl, (blk_cell BK418.out 5).trans rfl, (blk_cell BK415.out 0).trans rfl, (blk_cell BK415.out 1).trans rfl⟩ (fun hHeld => ?_)
           clear hK K
           refine norm_ (a' := ?_) ?_ ?_
           rotate_left
           ·
            show Act.put _ (some 35) _ = _
            simp only [Act.put, List.setIfInBounds_toArray, List.set_cons_zero, List.set_cons_succ, i64_w, i32_w]
            rfl
           refine pure_ (i := 9) (N := some 36) (fl 10 28) rfl rfl (any_of HT_.out (by kernel_rfl)) (fun _ _ _ h => h) (Or.inl ⟨by rfl, py⟩) pa ?_
           refine pure_ (i := 10) (N := some 37) (fl 11 28) rfl rfl (any_of HT_.out (by kernel_rfl)) (fun _ _ _ h => h) (Or.inl ⟨by rfl, py⟩) pa ?_
           refine pure_ (i := 11) (N := some 38) (fl 12 28) rfl rfl (any_of HT_.out (by kernel_rfl)) (fun _ _ _ h => h) (Or.inl ⟨by rfl, py⟩) pa ?_
           refine pure_ (i := 12) (N := some 39) (fl 13 28) rfl rfl (any_of HT_.out (by kernel_rfl)) (fun _ _ _ h => h) (Or.inl ⟨by rfl, py⟩) pa ?_
           refine pure_ (i := 13) (N := some 40) (fl 14 28) rfl rfl (any_of HT_.out (by kernel_rfl)) (fun _ _ _ h => h) (Or.inl ⟨by rfl, py⟩) pa ?_
           refine pure_ (i := 14) (N := some 41) (fl 15 28) rfl rfl (any_of HT_.out (by kernel_rfl)) (fun _ _ _ h => h) (Or.inl ⟨by rfl, py⟩) pa ?_
           refine pure_ (i := 15) (N := some 42) (v := undef) (a' := ?_) (fl 16 28) rfl rfl (any_of HT_.out (by kernel_rfl)) (fun _ _ _ h => h) (Or.inr ⟨by rfl, rfl⟩) ?_ ?_
           rotate_left
           ·
            simp only [Act.put, List.setIfInBounds_toArray, List.set_cons_zero, List.set_cons_succ, i64_w, i32_w]
            rfl
           refine pure_ (i := 16) (N := some 43) (v := undef) (a' := ?_) (fl 17 28) rfl rfl (any_of HT_.out (by kernel_rfl)) (fun _ _ _ h => h) (Or.inr ⟨by rfl, rfl⟩) ?_ ?_
           rotate_left
           ·
            simp only [Act.put, List.setIfInBounds_toArray, List.set_cons_zero, List.set_cons_succ, i64_w, i32_w]
            rfl
           refine pure_ (i := 17) (N := some 44) (v := undef) (a' := ?_) (fl 18 28) rfl rfl (any_of HT_.out (by kernel_rfl)) (fun _ _ _ h => h) (Or.inr ⟨by rfl, rfl⟩) ?_ ?_
           rotate_left
           ·
            simp only [Act.put, List.setIfInBounds_toArray, List.set_cons_zero, List.set_cons_succ, i64_w, i32_w]
            rfl
           refine pure_ (i := 18) (N := some 45) (v := undef) (a' := ?_) (fl 19 28) rfl rfl (any_of HT_.out (by kernel_rfl)) (fun _ _ _ h => h) (Or.inr ⟨by rfl, rfl⟩) ?_ ?_
           rotate_left
           ·
            simp only [Act.put, List.setIfInBounds_toArray, List.set_cons_zero, List.set_cons_succ, i64_w, i32_w]
            rfl
           refine pure_ (i := 19) (N := some 46) (v := undef) (a' := ?_) (fl 20 28) rfl rfl (any_of HT_.out (by kernel_rfl)) (fun _ _ _ h => h) (Or.inr ⟨by rfl, rfl⟩) ?_ ?_
           rotate_left
           ·
            simp only [Act.put, List.setIfInBounds_toArray, List.set_cons_zero, List.set_cons_succ, i64_w, i32_w]
            rfl
           refine pure_ (i := 20) (N := some 47) (v := undef) (a' := ?_) (fl 21 28) rfl rfl (any_of HT_.out (by kernel_rfl)) (fun _ _ _ h => h) (Or.inr ⟨by rfl, rfl⟩) ?_ ?_
           rotate_left
           ·
            simp only [Act.put, List.setIfInBounds_toArray, List.set_cons_zero, List.set_cons_succ, i64_w, i32_w]
            rfl
           refine pure_ (i := 21) (N := some 48) (v := undef) (a' := ?_) (fl 22 28) rfl rfl (any_of HT_.out (by kernel_rfl)) (fun _ _ _ h => h) (Or.inr ⟨by rfl, rfl⟩) ?_ ?_
           rotate_left
           ·
            simp only [Act.put, List.setIfInBounds_toArray, List.set_cons_zero, List.set_cons_succ, i64_w, i32_w]
            rfl
           refine pure_ (i := 22) (N := some 49) (v := undef) (a' := ?_) (fl 23 28) rfl rfl (any_of HT_.out (by kernel_rfl)) (fun _ _ _ h => h) (Or.inr ⟨by rfl, rfl⟩) ?_ ?_
           rotate_left
           ·
            simp only [Act.put, List.setIfInBounds_toArray, List.set_cons_zero, List.set_cons_succ, i64_w, i32_w]
            rfl
           refine pure_ (i := 23) (N := some 50) (v := undef) (a' := ?_) (fl 24 28) rfl rfl (any_of HT_.out (by kernel_rfl)) (fun _ _ _ h => h) (Or.inr ⟨by rfl, rfl⟩) ?_ ?_
           rotate_left
           ·
            simp only [Act.put, List.setIfInBounds_toArray, List.set_cons_zero, List.set_cons_succ, i64_w, i32_w]
            rfl
           refine pure_ (i := 24) (N := some 51) (v := undef) (a' := ?_) (fl 25 28) rfl rfl (any_of HT_.out (by kernel_rfl)) (fun _ _ _ h => h) (Or.inr ⟨by rfl, rfl⟩) ?_ ?_
           rotate_left
           ·
            simp only [Act.put, List.setIfInBounds_toArray, List.set_cons_zero, List.set_cons_succ, i64_w, i32_w]
            rfl
           refine pure_ (i := 25) (N := some 52) (v := undef) (a' := ?_) (fl 26 28) rfl rfl (any_of HT_.out (by kernel_rfl)) (fun _ _ _ h => h) (Or.inr ⟨by rfl, rfl⟩) ?_ ?_
           rotate_left
           ·
            simp only [Act.put, List.setIfInBounds_toArray, List.set_cons_zero, List.set_cons_succ, i64_w, i32_w]
            rfl
           refine pure_ (i := 26) (N := some 53) (fl 27 28) rfl rfl (any_of HT_.out (by kernel_rfl)) (fun _ _ _ h => h) (Or.inl ⟨by rfl, py⟩) pa ?_
           refine pure_ (i := 27) (N := some 54) (fl 28 28) rfl rfl (any_of HT_.out (by kernel_rfl)) (fun _ _ _ h => h) (Or.inl ⟨by rfl, py⟩) pa ?_
           refine done_ (done_of HT_.out (by kernel_rfl)) ?_
           try go_wp2
           go_meet
           case rel => exact ⟨_, (false), ok_, H', ⟨by have := HJ1.out; have := HK2.out; first | omega | exact Nat.le_refl _⟩, ⟨by (with_reducible repeat (first | refine blk_drewN ?_ _ | refine blk_drew ?_ | refine blk_alloc ?_ _)); exact BK415.out⟩, ⟨by (with_reducible repeat (first | refine blk_drewN ?_ _ | refine blk_drew ?_ | refine blk_alloc ?_ _)); exact BK418.out⟩, ⟨by repeat (first | (with_reducible first | exact HB.out | apply below_alloc | apply pw_below_drewN | apply below_drew1 | refine below_set ?_ GE415.out | refine below_set ?_ GE418.out) | exact HB.out)⟩⟩
         ·
          replace c22 := Bool.eq_false_iff.mpr c22
          subst c22
          have H1 : (deaddropref7_May.j2 k2 x3_2 true l0_0 l0_1) = some r := by rw [if_neg (show ¬ (false = true) by decide)] at H; exact H
          clear H
          have H := H1
          clear H1
          have H' := Aside0.mk H
          clear H
          try go_wp2
          have n0_ : Aside0 (((((((w16.setCell ⟨gb418, 0, none⟩ (.int .i64 ((rd_T34 l0_1 x3_2).f0.f0))).setCell ⟨gb418, 1, none⟩ (.int .i64 ((rd_T34 l0_1 x3_2).f0.f1))).setCell ⟨gb418, 2, none⟩ (.string ((rd_T34 l0_1 x3_2).f1))).setCell ⟨gb418, 3, none⟩ (.int .i64 ((rd_T34 l0_1 x3_2).f2))).setCell ⟨gb418, 4, none⟩ (.string ((rd_T34 l0_1 x3_2).f3))).setCell ⟨gb418, 5, none⟩ (.int .i64 ((rd_T34 l0_1 x3_2).f4))).heap[gb415]? = some (.cells #[.slice A0_0 l0_0.length c0_0, .slice (some ad417) l0_1.length c0_1] 28 (0, 0))) := ⟨by (with_reducible repeat (first | refine blk_drewN ?_ _ | refine blk_drew ?_ | refine blk_alloc ?_ _)); refine blk_far ?_ NB415_418.out _; (with_reducible repeat (first | refine blk_drewN ?_ _ | refine blk_drew ?_ | refine blk_alloc ?_ _)); refine blk_far ?_ NB415_418.out _; (with_reducible repeat (first | refine blk_drewN ?_ _ | refine blk_drew ?_ | refine blk_alloc ?_ _)); refine blk_far ?_ NB415_418.out _; (with_reducible repeat (first | refine blk_drewN ?_ _ | refine blk_drew ?_ | refine blk_alloc ?_ _)); refine blk_far ?_ NB415_418.out _; (with_reducible repeat (first | refine blk_drewN ?_ _ | refine blk_drew ?_ | refine blk_alloc ?_ _)); refine blk_far ?_ NB415_418.out _; (with_reducible repeat (first | refine blk_drewN ?_ _ | refine blk_drew ?_ | refine blk_alloc ?_ _)); refine blk_far ?_ NB415_418.out _; (with_reducible repeat (first | refine blk_drewN ?_ _ | refine blk_drew ?_ | refine blk_alloc ?_ _)); exact BK415.out⟩
          have n1_ : Aside0 (((((((w16.setCell ⟨gb418, 0, none⟩ (.int .i64 ((rd_T34 l0_1 x3_2).f0.f0))).setCell ⟨gb418, 1, none⟩ (.int .i64 ((rd_T34 l0_1 x3_2).f0.f1))).setCell ⟨gb418, 2, none⟩ (.string ((rd_T34 l0_1 x3_2).f1))).setCell ⟨gb418, 3, none⟩ (.int .i64 ((rd_T34 l0_1 x3_2).f2))).setCell ⟨gb418, 4, none⟩ (.string ((rd_T34 l0_1 x3_2).f3))).setCell ⟨gb418, 5, none⟩ (.int .i64 ((rd_T34 l0_1 x3_2).f4))).heap[gb418]? = some (.cells #[.int .i64 ((rd_T34 l0_1 x3_2).f0.f0), .int .i64 ((rd_T34 l0_1 x3_2).f0.f1), .string ((rd_T34 l0_1 x3_2).f1), .int .i64 ((rd_T34 l0_1 x3_2).f2), .string ((rd_T34 l0_1 x3_2).f3), .int .i64 ((rd_T34 l0_1 x3_2).f4)] 34 (0, 0))) := ⟨by (with_reducible repeat (first | refine blk_drewN ?_ _ | refine blk_drew ?_ | refine blk_alloc ?_ _)); refine blk_put (cs := #[.int .i64 ((rd_T34 l0_1 x3_2).f0.f0), .int .i64 ((rd_T34 l0_1 x3_2).f0.f1), .string ((rd_T34 l0_1 x3_2).f1), .int .i64 ((rd_T34 l0_1 x3_2).f2), .string ((rd_T34 l0_1 x3_2).f3), .int .i64 0]) ?_ 5 _ rfl; (with_reducible repeat (first | refine blk_drewN ?_ _ | refine blk_drew ?_ | refine blk_alloc ?_ _)); refine blk_put (cs := #[.int .i64 ((rd_T34 l0_1 x3_2).f0.f0), .int .i64 ((rd_T34 l0_1 x3_2).f0.f1), .string ((rd_T34 l0_1 x3_2).f1), .int .i64 ((rd_T34 l0_1 x3_2).f2), .string (⟨#[]⟩ : ByteArray), .int .i64 0]) ?_ 4 _ rfl; (with_reducible repeat (first | refine blk_drewN ?_ _ | refine blk_drew ?_ | refine blk_alloc ?_ _)); refine blk_put (cs := #[.int .i64 ((rd_T34 l0_1 x3_2).f0.f0), .int .i64 ((rd_T34 l0_1 x3_2).f0.f1), .string ((rd_T34 l0_1 x3_2).f1), .int .i64 0, .string (⟨#[]⟩ : ByteArray), .int .i64 0]) ?_ 3 _ rfl; (with_reducible repeat (first | refine blk_drewN ?_ _ | refine blk_drew ?_ | refine blk_alloc ?_ _)); refine blk_put (cs := #[.int .i64 ((rd_T34 l0_1 x3_2).f0.f0), .int .i64 ((rd_T34 l0_1 x3_2).f0.f1), .string (⟨#[]⟩ : ByteArray), .int .i64 0, .string (⟨#[]⟩ : ByteArray), .int .i64 0]) ?_ 2 _ rfl; (with_reducible repeat (first | refine blk_drewN ?_ _ | refine blk_drew ?_ | refine blk_alloc ?_ _)); refine blk_put (cs := #[.int .i64 ((rd_T34 l0_1 x3_2).f0.f0), .int .i64 0, .string (⟨#[]⟩ : ByteArray), .int .i64 0, .string (⟨#[]⟩ : ByteArray), .int .i64 0]) ?_ 1 _ rfl; (with_reducible repeat (first | refine blk_drewN ?_ _ | refine blk_drew ?_ | refine blk_alloc ?_ _)); refine blk_put (cs := #[.int .i64 0, .int .i64 0, .string (⟨#[]⟩ : ByteArray), .int .i64 0, .string (⟨#[]⟩ : ByteArray), .int .i64 0]) ?_ 0 _ rfl; (with_reducible repeat (first | refine blk_drewN ?_ _ | refine blk_drew ?_ | refine blk_alloc ?_ _)); exact BK418.out⟩
          have n2_ : Aside0 (Below w.heap.size w ((((((w16.setCell ⟨gb418, 0, none⟩ (.int .i64 ((rd_T34 l0_1 x3_2).f0.f0))).setCell ⟨gb418, 1, none⟩ (.int .i64 ((rd_T34 l0_1 x3_2).f0.f1))).setCell ⟨gb418, 2, none⟩ (.string ((rd_T34 l0_1 x3_2).f1))).setCell ⟨gb418, 3, none⟩ (.int .i64 ((rd_T34 l0_1 x3_2).f2))).setCell ⟨gb418, 4, none⟩ (.string ((rd_T34 l0_1 x3_2).f3))).setCell ⟨gb418, 5, none⟩ (.int .i64 ((rd_T34 l0_1 x3_2).f4)))) := ⟨by repeat (first | (with_reducible first | exact HB.out | apply below_alloc | apply pw_below_drewN | apply below_drew1 | refine below_set ?_ GE415.out | refine below_set ?_ GE418.out) | exact HB.out)⟩
          (try clear BK415)
          (try clear BK418)
          (try clear HB)
          generalize ((((((w16.setCell ⟨gb418, 0, none⟩ (.int .i64 ((rd_T34 l0_1 x3_2).f0.f0))).setCell ⟨gb418, 1, none⟩ (.int .i64 ((rd_T34 l0_1 x3_2).f0.f1))).setCell ⟨gb418, 2, none⟩ (.string ((rd_T34 l0_1 x3_2).f1))).setCell ⟨gb418, 3, none⟩ (.int .i64 ((rd_T34 l0_1 x3_2).f2))).setCell ⟨gb418, 4, none⟩ (.string ((rd_T34 l0_1 x3_2).f3))).setCell ⟨gb418, 5, none⟩ (.int .i64 ((rd_T34 l0_1 x3_2).f4))) = w37 at n0_ n1_ n2_ ⊢
          have BK415 := n0_
          have BK418 := n1_
          have HB := n2_
          clear n0_ n1_ n2_
          replace BK415 := Aside0.mk (blk_drew BK415.out)
          replace BK418 := Aside0.mk (blk_drew BK418.out)
          replace HB := Aside0.mk (below_drew1 HB.out)
          refine start_ (n := 28) (S := fun w' => w'.cell? ⟨gb418, 0, none⟩ = some (.int .i64 ((rd_T34 l0_1 x3_2).f0.f0)) ∧ w'.cell? ⟨gb418, 1, none⟩ = some (.int .i64 ((rd_T34 l0_1 x3_2).f0.f1)) ∧ w'.cell? ⟨gb418, 2, none⟩ = some (.string ((rd_T34 l0_1 x3_2).f1)) ∧ w'.cell? ⟨gb418, 3, none⟩ = some (.int .i64 ((rd_T34 l0_1 x3_2).f2)) ∧ w'.cell? ⟨gb418, 4, none⟩ = some (.string ((rd_T34 l0_1 x3_2).f3)) ∧ w'.cell? ⟨gb418, 5, none⟩ = some (.int .i64 ((rd_T34 l0_1 x3_2).f4)) ∧ w'.cell? ⟨gb415, 0, none⟩ = some (.slice A0_0 l0_0.length c0_0) ∧ w'.cell? ⟨gb415, 1, none⟩ = some (.slice (some ad417) l0_1.length c0_1)) (ds := []) (fl 0 28) (by kernel_rfl) rfl rfl ⟨(blk_cell BK418.out 0).trans rfl, (blk_cell BK418.out 1).trans rfl, (blk_cell BK418.out 2).trans rfl, (blk_cell BK418.out 3).trans rfl, (blk_cell BK418.out 4).trans rfl, (blk_cell BK418.out 5).trans rfl, (blk_cell BK415.out 0).trans rfl, (blk_cell BK415.out 1).trans rfl⟩ (fun hHeld => ?_); refine with_tabW deaddropref7_May.tab7 deaddropref7_May.bits7 (fun HT_ HW_ => ?_)
          generalize w37.drew = w38 at BK415 BK418 HB hHeld ⊢
          refine take_ (i := 0) (N := some 27) (v := ?_) (a' := ?_) (fl 1 28) rfl rfl (take_ofW HT_.out HW_.out (by kernel_rfl)) (fun _ _ _ h => h) (Or.inl ⟨by rfl, ?_⟩) hHeld ?_ ?_
          rotate_left
          ·
           rintro w' ⟨s0, s1, s2, s3, s4, s5, s6, s7⟩
           go_simp
           with_reducible rfl
          rotate_left
          ·
           simp only [Act.put, List.setIfInBounds_toArray, List.set_cons_zero, List.set_cons_succ, i64_w, i32_w]
           rfl
          refine one_ (i := 1) (N := some 28) (fl 2 28) rfl rfl (one_of HT_.out (by kernel_rfl)) (by decide) (fun K hK => ?_)
          refine goes_ Try.func34 (by kernel_rfl) rfl #[.agg #[.int .i64 ((rd_T34 l0_1 x3_2).f0.f0), .int .i64 ((rd_T34 l0_1 x3_2).f0.f1), .string ((rd_T34 l0_1 x3_2).f1), .int .i64 ((rd_T34 l0_1 x3_2).f2), .string ((rd_T34 l0_1 x3_2).f3), .int .i64 ((rd_T34 l0_1 x3_2).f4)]] (by rfl) rfl rfl ar_ ?_
          with_reducible refine (deaddropref7_Right.calls k2 ((rd_T34 l0_1 x3_2).f0.f0) ((rd_T34 l0_1 x3_2).f0.f1) ((rd_T34 l0_1 x3_2).f1) ((rd_T34 l0_1 x3_2).f2) ((rd_T34 l0_1 x3_2).f3) ((rd_T34 l0_1 x3_2).f4) true _ A19.out).mono ?_
          rintro e w39 ⟨rfl, hb⟩
          refine ⟨_, rfl, ?_⟩
          replace BK415 := Aside0.mk (blk_below (g := gb415) (o := .cells #[.slice A0_0 l0_0.length c0_0, .slice (some ad417) l0_1.length c0_1] 28 (0, 0)) (bk BK415.out) hb)
          replace BK418 := Aside0.mk (blk_below (g := gb418) (o := .cells #[.int .i64 ((rd_T34 l0_1 x3_2).f0.f0), .int .i64 ((rd_T34 l0_1 x3_2).f0.f1), .string ((rd_T34 l0_1 x3_2).f1), .int .i64 ((rd_T34 l0_1 x3_2).f2), .string ((rd_T34 l0_1 x3_2).f3), .int .i64 ((rd_T34 l0_1 x3_2).f4)] 34 (0, 0)) (bk BK418.out) hb)
          replace HB := Aside0.mk (below_step (bw2 HB.out GE415.out GE418.out) hb)
          (try clear hb)
          (try clear hb2)
          (try clear hk)
          (try clear hi)
          refine hK.out _ _ ⟨(blk_cell BK418.out 0).trans rfl, (blk_cell BK418.out 1).trans rfl, (blk_cell BK418.out 2).trans rfl, (blk_cell BK418.out 3).trans rfl, (blk_cell BK418.out 4).trans rfl, (blk_cell BK418.out 5).trans rfl, (blk_cell BK415.out 0).trans rfl, (blk_cell BK415.out 1).trans rfl⟩ (fun hHeld => ?_)
          clear hK K
          refine norm_ (a' := ?_) ?_ ?_
          rotate_left
          ·
           show Act.put _ (some 28) _ = _
           simp only [Act.put, List.setIfInBounds_toArray, List.set_cons_zero, List.set_cons_succ, i64_w, i32_w]
           rfl
          refine pure_ (i := 2) (N := some 29) (fl 3 28) rfl rfl (any_of HT_.out (by kernel_rfl)) (fun _ _ _ h => h) (Or.inl ⟨by rfl, py⟩) pa ?_
          refine pure_ (i := 3) (N := some 30) (fl 4 28) rfl rfl (any_of HT_.out (by kernel_rfl)) (fun _ _ _ h => h) (Or.inl ⟨by rfl, py⟩) pa ?_
          refine pure_ (i := 4) (N := some 31) (fl 5 28) rfl rfl (any_of HT_.out (by kernel_rfl)) (fun _ _ _ h => h) (Or.inl ⟨by rfl, py⟩) pa ?_
          refine pure_ (i := 6) (N := some 33) #[true, true, true, true, true, false, true, false, false, false, false, false, false, false, false, false, false, false, false, false, false, false, false, false, false, false, false, false] rfl rfl (any_of HT_.out (by kernel_rfl)) (fun _ _ _ h => h) (Or.inl ⟨by rfl, py⟩) pa ?_
          refine take_ (i := 5) (N := some 32) (v := ?_) (a' := ?_) (fl 7 28) rfl rfl (take_ofW HT_.out HW_.out (by kernel_rfl)) (fun _ _ _ h => h) (Or.inl ⟨by rfl, ?_⟩) hHeld ?_ ?_
          rotate_left
          ·
           rintro w' ⟨s0, s1, s2, s3, s4, s5, s6, s7⟩
           go_simp
           with_reducible rfl
          rotate_left
          ·
           simp only [Act.put, List.setIfInBounds_toArray, List.set_cons_zero, List.set_cons_succ, i64_w, i32_w]
           rfl
          refine take_ (i := 7) (N := some 34) (v := ?_) (a' := ?_) (fl 8 28) rfl rfl (take_ofW HT_.out HW_.out (by kernel_rfl)) (fun _ _ _ h => h) (Or.inl ⟨by rfl, ?_⟩) hHeld ?_ ?_
          rotate_left
          ·
           rintro w' ⟨s0, s1, s2, s3, s4, s5, s6, s7⟩
           go_simp
           with_reducible rfl
          rotate_left
          ·
           simp only [Act.put, List.setIfInBounds_toArray, List.set_cons_zero, List.set_cons_succ, i64_w, i32_w]
           rfl
          refine one_ (i := 8) (N := some 35) (fl 9 28) rfl rfl (one_of HT_.out (by kernel_rfl)) (by decide) (fun K hK => ?_)
          refine goes_ Try.func25 (by kernel_rfl) rfl #[.slice A0_0 l0_0.length c0_0, .agg #[.int .i64 ((rd_T34 l0_1 x3_2).f0.f0), .int .i64 ((rd_T34 l0_1 x3_2).f0.f1)]] (by rfl) rfl rfl ar_ ?_
          with_reducible refine (deaddropref7_Has.calls k2 _ _ l0_0 ((rd_T34 l0_1 x3_2).f0.f0) ((rd_T34 l0_1 x3_2).f0.f1) false _ ?side1 ?side2 A21.out).mono ?_
          (case side1 => exact cr (Kd.C_below HR0_0.out HB.out))
          (case side2 => exact HC0_0.out)
          rintro e w40 ⟨rfl, hb⟩
          refine ⟨_, rfl, ?_⟩
          replace BK415 := Aside0.mk (blk_below (g := gb415) (o := .cells #[.slice A0_0 l0_0.length c0_0, .slice (some ad417) l0_1.length c0_1] 28 (0, 0)) (bk BK415.out) hb)
          replace BK418 := Aside0.mk (blk_below (g := gb418) (o := .cells #[.int .i64 ((rd_T34 l0_1 x3_2).f0.f0), .int .i64 ((rd_T34 l0_1 x3_2).f0.f1), .string ((rd_T34 l0_1 x3_2).f1), .int .i64 ((rd_T34 l0_1 x3_2).f2), .string ((rd_T34 l0_1 x3_2).f3), .int .i64 ((rd_T34 l0_1 x3_2).f4)] 34 (0, 0)) (bk BK418.out) hb)
          replace HB := Aside0.mk (below_step (bw2 HB.out GE415.out GE418.out) hb)
          (try clear hb)
          (try clear hb2)
          (try clear hk)
          (try clear hi)
          refine hK.out _ _ ⟨(blk_cell BK418.out 0).trans rfl, (blk_cell BK418.out 1).trans rfl, (blk_cell BK418.out 2).trans rfl, (blk_cell BK418.out 3).trans rfl, (blk_cell BK418.out 4).trans rfl, (blk_cell BK418.out 5).trans rfl, (blk_cell BK415.out 0).trans rfl, (blk_cell BK415.out 1).trans rfl⟩ (fun hHeld => ?_)
          clear hK K
          refine norm_ (a' := ?_) ?_ ?_
          rotate_left
          ·
           show Act.put _ (some 35) _ = _
           simp only [Act.put, List.setIfInBounds_toArray, List.set_cons_zero, List.set_cons_succ, i64_w, i32_w]
           rfl
          refine pure_ (i := 9) (N := some 36) (fl 10 28) rfl rfl (any_of HT_.out (by kernel_rfl)) (fun _ _ _ h => h) (Or.inl ⟨by rfl, py⟩) pa ?_
          refine pure_ (i := 10) (N := some 37) (fl 11 28) rfl rfl (any_of HT_.out (by kernel_rfl)) (fun _ _ _ h => h) (Or.inl ⟨by rfl, py⟩) pa ?_
          refine pure_ (i := 11) (N := some 38) (fl 12 28) rfl rfl (any_of HT_.out (by kernel_rfl)) (fun _ _ _ h => h) (Or.inl ⟨by rfl, py⟩) pa ?_
          refine pure_ (i := 12) (N := some 39) (v := undef) (a' := ?_) (fl 13 28) rfl rfl (any_of HT_.out (by kernel_rfl)) (fun _ _ _ h => h) (Or.inr ⟨by rfl, rfl⟩) ?_ ?_
          rotate_left
          ·
           simp only [Act.put, List.setIfInBounds_toArray, List.set_cons_zero, List.set_cons_succ, i64_w, i32_w]
           rfl
          refine pure_ (i := 13) (N := some 40) (v := undef) (a' := ?_) (fl 14 28) rfl rfl (any_of HT_.out (by kernel_rfl)) (fun _ _ _ h => h) (Or.inr ⟨by rfl, rfl⟩) ?_ ?_
          rotate_left
          ·
           simp only [Act.put, List.setIfInBounds_toArray, List.set_cons_zero, List.set_cons_succ, i64_w, i32_w]
           rfl
          refine pure_ (i := 14) (N := some 41) (v := undef) (a' := ?_) (fl 15 28) rfl rfl (any_of HT_.out (by kernel_rfl)) (fun _ _ _ h => h) (Or.inr ⟨by rfl, rfl⟩) ?_ ?_
          rotate_left
          ·
           simp only [Act.put, List.setIfInBounds_toArray, List.set_cons_zero, List.set_cons_succ, i64_w, i32_w]
           rfl
          refine pure_ (i := 15) (N := some 42) (v := undef) (a' := ?_) (fl 16 28) rfl rfl (any_of HT_.out (by kernel_rfl)) (fun _ _ _ h => h) (Or.inr ⟨by rfl, rfl⟩) ?_ ?_
          rotate_left
          ·
           simp only [Act.put, List.setIfInBounds_toArray, List.set_cons_zero, List.set_cons_succ, i64_w, i32_w]
           rfl
          refine pure_ (i := 16) (N := some 43) (v := undef) (a' := ?_) (fl 17 28) rfl rfl (any_of HT_.out (by kernel_rfl)) (fun _ _ _ h => h) (Or.inr ⟨by rfl, rfl⟩) ?_ ?_
          rotate_left
          ·
           simp only [Act.put, List.setIfInBounds_toArray, List.set_cons_zero, List.set_cons_succ, i64_w, i32_w]
           rfl
          refine pure_ (i := 17) (N := some 44) (v := undef) (a' := ?_) (fl 18 28) rfl rfl (any_of HT_.out (by kernel_rfl)) (fun _ _ _ h => h) (Or.inr ⟨by rfl, rfl⟩) ?_ ?_
          rotate_left
          ·
           simp only [Act.put, List.setIfInBounds_toArray, List.set_cons_zero, List.set_cons_succ, i64_w, i32_w]
           rfl
          refine pure_ (i := 18) (N := some 45) (v := undef) (a' := ?_) (fl 19 28) rfl rfl (any_of HT_.out (by kernel_rfl)) (fun _ _ _ h => h) (Or.inr ⟨by rfl, rfl⟩) ?_ ?_
          rotate_left
          ·
           simp only [Act.put, List.setIfInBounds_toArray, List.set_cons_zero, List.set_cons_succ, i64_w, i32_w]
           rfl
          refine pure_ (i := 19) (N := some 46) (v := undef) (a' := ?_) (fl 20 28) rfl rfl (any_of HT_.out (by kernel_rfl)) (fun _ _ _ h => h) (Or.inr ⟨by rfl, rfl⟩) ?_ ?_
          rotate_left
          ·
           simp only [Act.put, List.setIfInBounds_toArray, List.set_cons_zero, List.set_cons_succ, i64_w, i32_w]
           rfl
          refine pure_ (i := 20) (N := some 47) (v := undef) (a' := ?_) (fl 21 28) rfl rfl (any_of HT_.out (by kernel_rfl)) (fun _ _ _ h => h) (Or.inr ⟨by rfl, rfl⟩) ?_ ?_
          rotate_left
          ·
           simp only [Act.put, List.setIfInBounds_toArray, List.set_cons_zero, List.set_cons_succ, i64_w, i32_w]
           rfl
          refine pure_ (i := 21) (N := some 48) (v := undef) (a' := ?_) (fl 22 28) rfl rfl (any_of HT_.out (by kernel_rfl)) (fun _ _ _ h => h) (Or.inr ⟨by rfl, rfl⟩) ?_ ?_
          rotate_left
          ·
           simp only [Act.put, List.setIfInBounds_toArray, List.set_cons_zero, List.set_cons_succ, i64_w, i32_w]
           rfl
          refine pure_ (i := 22) (N := some 49) (v := undef) (a' := ?_) (fl 23 28) rfl rfl (any_of HT_.out (by kernel_rfl)) (fun _ _ _ h => h) (Or.inr ⟨by rfl, rfl⟩) ?_ ?_
          rotate_left
          ·
           simp only [Act.put, List.setIfInBounds_toArray, List.set_cons_zero, List.set_cons_succ, i64_w, i32_w]
           rfl
          refine pure_ (i := 23) (N := some 50) (v := undef) (a' := ?_) (fl 24 28) rfl rfl (any_of HT_.out (by kernel_rfl)) (fun _ _ _ h => h) (Or.inr ⟨by rfl, rfl⟩) ?_ ?_
          rotate_left
          ·
           simp only [Act.put, List.setIfInBounds_toArray, List.set_cons_zero, List.set_cons_succ, i64_w, i32_w]
           rfl
          refine pure_ (i := 24) (N := some 51) (v := undef) (a' := ?_) (fl 25 28) rfl rfl (any_of HT_.out (by kernel_rfl)) (fun _ _ _ h => h) (Or.inr ⟨by rfl, rfl⟩) ?_ ?_
          rotate_left
          ·
           simp only [Act.put, List.setIfInBounds_toArray, List.set_cons_zero, List.set_cons_succ, i64_w, i32_w]
           rfl
          refine pure_ (i := 25) (N := some 52) (v := undef) (a' := ?_) (fl 26 28) rfl rfl (any_of HT_.out (by kernel_rfl)) (fun _ _ _ h => h) (Or.inr ⟨by rfl, rfl⟩) ?_ ?_
          rotate_left
          ·
           simp only [Act.put, List.setIfInBounds_toArray, List.set_cons_zero, List.set_cons_succ, i64_w, i32_w]
           rfl
          refine pure_ (i := 26) (N := some 53) (v := undef) (a' := ?_) (fl 27 28) rfl rfl (any_of HT_.out (by kernel_rfl)) (fun _ _ _ h => h) (Or.inr ⟨by rfl, rfl⟩) ?_ ?_
          rotate_left
          ·
           simp only [Act.put, List.setIfInBounds_toArray, List.set_cons_zero, List.set_cons_succ, i64_w, i32_w]
           rfl
          refine pure_ (i := 27) (N := some 54) (fl 28 28) rfl rfl (any_of HT_.out (by kernel_rfl)) (fun _ _ _ h => h) (Or.inl ⟨by rfl, py⟩) pa ?_
          refine done_ (done_of HT_.out (by kernel_rfl)) ?_
          try go_wp2
          go_meet
          case rel => exact ⟨_, (true), ok_, H', ⟨by have := HJ1.out; have := HK2.out; first | omega | exact Nat.le_refl _⟩, ⟨by (with_reducible repeat (first | refine blk_drewN ?_ _ | refine blk_drew ?_ | refine blk_alloc ?_ _)); exact BK415.out⟩, ⟨by (with_reducible repeat (first | refine blk_drewN ?_ _ | refine blk_drew ?_ | refine blk_alloc ?_ _)); exact BK418.out⟩, ⟨by repeat (first | (with_reducible first | exact HB.out | apply below_alloc | apply pw_below_drewN | apply below_drew1 | refine below_set ?_ GE415.out | refine below_set ?_ GE418.out) | exact HB.out)⟩⟩
        ·
         replace c20 := Bool.eq_false_iff.mpr c20
         subst c20
         have H1 : (deaddropref7_May.j2 k2 x3_2 true l0_0 l0_1) = some r := by rw [if_neg (show ¬ (false = true) by decide)] at H; exact H
         clear H
         have H := H1
         clear H1
         have H' := Aside0.mk H
         clear H
         try go_wp2
         have n0_ : Aside0 (((((((w16.setCell ⟨gb418, 0, none⟩ (.int .i64 ((rd_T34 l0_1 x3_2).f0.f0))).setCell ⟨gb418, 1, none⟩ (.int .i64 ((rd_T34 l0_1 x3_2).f0.f1))).setCell ⟨gb418, 2, none⟩ (.string ((rd_T34 l0_1 x3_2).f1))).setCell ⟨gb418, 3, none⟩ (.int .i64 ((rd_T34 l0_1 x3_2).f2))).setCell ⟨gb418, 4, none⟩ (.string ((rd_T34 l0_1 x3_2).f3))).setCell ⟨gb418, 5, none⟩ (.int .i64 ((rd_T34 l0_1 x3_2).f4))).heap[gb415]? = some (.cells #[.slice A0_0 l0_0.length c0_0, .slice (some ad417) l0_1.length c0_1] 28 (0, 0))) := ⟨by (with_reducible repeat (first | refine blk_drewN ?_ _ | refine blk_drew ?_ | refine blk_alloc ?_ _)); refine blk_far ?_ NB415_418.out _; (with_reducible repeat (first | refine blk_drewN ?_ _ | refine blk_drew ?_ | refine blk_alloc ?_ _)); refine blk_far ?_ NB415_418.out _; (with_reducible repeat (first | refine blk_drewN ?_ _ | refine blk_drew ?_ | refine blk_alloc ?_ _)); refine blk_far ?_ NB415_418.out _; (with_reducible repeat (first | refine blk_drewN ?_ _ | refine blk_drew ?_ | refine blk_alloc ?_ _)); refine blk_far ?_ NB415_418.out _; (with_reducible repeat (first | refine blk_drewN ?_ _ | refine blk_drew ?_ | refine blk_alloc ?_ _)); refine blk_far ?_ NB415_418.out _; (with_reducible repeat (first | refine blk_drewN ?_ _ | refine blk_drew ?_ | refine blk_alloc ?_ _)); refine blk_far ?_ NB415_418.out _; (with_reducible repeat (first | refine blk_drewN ?_ _ | refine blk_drew ?_ | refine blk_alloc ?_ _)); exact BK415.out⟩
         have n1_ : Aside0 (((((((w16.setCell ⟨gb418, 0, none⟩ (.int .i64 ((rd_T34 l0_1 x3_2).f0.f0))).setCell ⟨gb418, 1, none⟩ (.int .i64 ((rd_T34 l0_1 x3_2).f0.f1))).setCell ⟨gb418, 2, none⟩ (.string ((rd_T34 l0_1 x3_2).f1))).setCell ⟨gb418, 3, none⟩ (.int .i64 ((rd_T34 l0_1 x3_2).f2))).setCell ⟨gb418, 4, none⟩ (.string ((rd_T34 l0_1 x3_2).f3))).setCell ⟨gb418, 5, none⟩ (.int .i64 ((rd_T34 l0_1 x3_2).f4))).heap[gb418]? = some (.cells #[.int .i64 ((rd_T34 l0_1 x3_2).f0.f0), .int .i64 ((rd_T34 l0_1 x3_2).f0.f1), .string ((rd_T34 l0_1 x3_2).f1), .int .i64 ((rd_T34 l0_1 x3_2).f2), .string ((rd_T34 l0_1 x3_2).f3), .int .i64 ((rd_T34 l0_1 x3_2).f4)] 34 (0, 0))) := ⟨by (with_reducible repeat (first | refine blk_drewN ?_ _ | refine blk_drew ?_ | refine blk_alloc ?_ _)); refine blk_put (cs := #[.int .i64 ((rd_T34 l0_1 x3_2).f0.f0), .int .i64 ((rd_T34 l0_1 x3_2).f0.f1), .string ((rd_T34 l0_1 x3_2).f1), .int .i64 ((rd_T34 l0_1 x3_2).f2), .string ((rd_T34 l0_1 x3_2).f3), .int .i64 0]) ?_ 5 _ rfl; (with_reducible repeat (first | refine blk_drewN ?_ _ | refine blk_drew ?_ | refine blk_alloc ?_ _)); refine blk_put (cs := #[.int .i64 ((rd_T34 l0_1 x3_2).f0.f0), .int .i64 ((rd_T34 l0_1 x3_2).f0.f1), .string ((rd_T34 l0_1 x3_2).f1), .int .i64 ((rd_T34 l0_1 x3_2).f2), .string (⟨#[]⟩ : ByteArray), .int .i64 0]) ?_ 4 _ rfl; (with_reducible repeat (first | refine blk_drewN ?_ _ | refine blk_drew ?_ | refine blk_alloc ?_ _)); refine blk_put (cs := #[.int .i64 ((rd_T34 l0_1 x3_2).f0.f0), .int .i64 ((rd_T34 l0_1 x3_2).f0.f1), .string ((rd_T34 l0_1 x3_2).f1), .int .i64 0, .string (⟨#[]⟩ : ByteArray), .int .i64 0]) ?_ 3 _ rfl; (with_reducible repeat (first | refine blk_drewN ?_ _ | refine blk_drew ?_ | refine blk_alloc ?_ _)); refine blk_put (cs := #[.int .i64 ((rd_T34 l0_1 x3_2).f0.f0), .int .i64 ((rd_T34 l0_1 x3_2).f0.f1), .string (⟨#[]⟩ : ByteArray), .int .i64 0, .string (⟨#[]⟩ : ByteArray), .int .i64 0]) ?_ 2 _ rfl; (with_reducible repeat (first | refine blk_drewN ?_ _ | refine blk_drew ?_ | refine blk_alloc ?_ _)); refine blk_put (cs := #[.int .i64 ((rd_T34 l0_1 x3_2).f0.f0), .int .i64 0, .string (⟨#[]⟩ : ByteArray), .int .i64 0, .string (⟨#[]⟩ : ByteArray), .int .i64 0]) ?_ 1 _ rfl; (with_reducible repeat (first | refine blk_drewN ?_ _ | refine blk_drew ?_ | refine blk_alloc ?_ _)); refine blk_put (cs := #[.int .i64 0, .int .i64 0, .string (⟨#[]⟩ : ByteArray), .int .i64 0, .string (⟨#[]⟩ : ByteArray), .int .i64 0]) ?_ 0 _ rfl; (with_reducible repeat (first | refine blk_drewN ?_ _ | refine blk_drew ?_ | refine blk_alloc ?_ _)); exact BK418.out⟩
         have n2_ : Aside0 (Below w.heap.size w ((((((w16.setCell ⟨gb418, 0, none⟩ (.int .i64 ((rd_T34 l0_1 x3_2).f0.f0))).setCell ⟨gb418, 1, none⟩ (.int .i64 ((rd_T34 l0_1 x3_2).f0.f1))).setCell ⟨gb418, 2, none⟩ (.string ((rd_T34 l0_1 x3_2).f1))).setCell ⟨gb418, 3, none⟩ (.int .i64 ((rd_T34 l0_1 x3_2).f2))).setCell ⟨gb418, 4, none⟩ (.string ((rd_T34 l0_1 x3_2).f3))).setCell ⟨gb418, 5, none⟩ (.int .i64 ((rd_T34 l0_1 x3_2).f4)))) := ⟨by repeat (first | (with_reducible first | exact HB.out | apply below_alloc | apply pw_below_drewN | apply below_drew1 | refine below_set ?_ GE415.out | refine below_set ?_ GE418.out) | exact HB.out)⟩
         (try clear BK415)
         (try clear BK418)
         (try clear HB)
         generalize ((((((w16.setCell ⟨gb418, 0, none⟩ (.int .i64 ((rd_T34 l0_1 x3_2).f0.f0))).setCell ⟨gb418, 1, none⟩ (.int .i64 ((rd_T34 l0_1 x3_2).f0.f1))).setCell ⟨gb418, 2, none⟩ (.string ((rd_T34 l0_1 x3_2).f1))).setCell ⟨gb418, 3, none⟩ (.int .i64 ((rd_T34 l0_1 x3_2).f2))).setCell ⟨gb418, 4, none⟩ (.string ((rd_T34 l0_1 x3_2).f3))).setCell ⟨gb418, 5, none⟩ (.int .i64 ((rd_T34 l0_1 x3_2).f4))) = w41 at n0_ n1_ n2_ ⊢
         have BK415 := n0_
         have BK418 := n1_
         have HB := n2_
         clear n0_ n1_ n2_
         replace BK415 := Aside0.mk (blk_drew BK415.out)
         replace BK418 := Aside0.mk (blk_drew BK418.out)
         replace HB := Aside0.mk (below_drew1 HB.out)
         refine start_ (n := 28) (S := fun w' => w'.cell? ⟨gb418, 0, none⟩ = some (.int .i64 ((rd_T34 l0_1 x3_2).f0.f0)) ∧ w'.cell? ⟨gb418, 1, none⟩ = some (.int .i64 ((rd_T34 l0_1 x3_2).f0.f1)) ∧ w'.cell? ⟨gb418, 2, none⟩ = some (.string ((rd_T34 l0_1 x3_2).f1)) ∧ w'.cell? ⟨gb418, 3, none⟩ = some (.int .i64 ((rd_T34 l0_1 x3_2).f2)) ∧ w'.cell? ⟨gb418, 4, none⟩ = some (.string ((rd_T34 l0_1 x3_2).f3)) ∧ w'.cell? ⟨gb418, 5, none⟩ = some (.int .i64 ((rd_T34 l0_1 x3_2).f4))) (ds := []) (fl 0 28) (by kernel_rfl) rfl rfl ⟨(blk_cell BK418.out 0).trans rfl, (blk_cell BK418.out 1).trans rfl, (blk_cell BK418.out 2).trans rfl, (blk_cell BK418.out 3).trans rfl, (blk_cell BK418.out 4).trans rfl, (blk_cell BK418.out 5).trans rfl⟩ (fun hHeld => ?_); refine with_tabW deaddropref7_May.tab7 deaddropref7_May.bits7 (fun HT_ HW_ => ?_)
         generalize w41.drew = w42 at BK415 BK418 HB hHeld ⊢
         refine take_ (i := 0) (N := some 27) (v := ?_) (a' := ?_) (fl 1 28) rfl rfl (take_ofW HT_.out HW_.out (by kernel_rfl)) (fun _ _ _ h => h) (Or.inl ⟨by rfl, ?_⟩) hHeld ?_ ?_
         rotate_left
         ·
          rintro w' ⟨s0, s1, s2, s3, s4, s5⟩
          go_simp
          with_reducible rfl
         rotate_left
         ·
          simp only [Act.put, List.setIfInBounds_toArray, List.set_cons_zero, List.set_cons_succ, i64_w, i32_w]
          rfl
         refine one_ (i := 1) (N := some 28) (fl 2 28) rfl rfl (one_of HT_.out (by kernel_rfl)) (by decide) (fun K hK => ?_)
         refine goes_ Try.func34 (by kernel_rfl) rfl #[.agg #[.int .i64 ((rd_T34 l0_1 x3_2).f0.f0), .int .i64 ((rd_T34 l0_1 x3_2).f0.f1), .string ((rd_T34 l0_1 x3_2).f1), .int .i64 ((rd_T34 l0_1 x3_2).f2), .string ((rd_T34 l0_1 x3_2).f3), .int .i64 ((rd_T34 l0_1 x3_2).f4)]] (by rfl) rfl rfl ar_ ?_
         with_reducible refine (deaddropref7_Right.calls k2 ((rd_T34 l0_1 x3_2).f0.f0) ((rd_T34 l0_1 x3_2).f0.f1) ((rd_T34 l0_1 x3_2).f1) ((rd_T34 l0_1 x3_2).f2) ((rd_T34 l0_1 x3_2).f3) ((rd_T34 l0_1 x3_2).f4) false _ A19.out).mono ?_
         rintro e w43 ⟨rfl, hb⟩
         refine ⟨_, rfl, ?_⟩
         replace BK415 := Aside0.mk (blk_below (g := gb415) (o := .cells #[.slice A0_0 l0_0.length c0_0, .slice (some ad417) l0_1.length c0_1] 28 (0, 0)) (bk BK415.out) hb)
         replace BK418 := Aside0.mk (blk_below (g := gb418) (o := .cells #[.int .i64 ((rd_T34 l0_1 x3_2).f0.f0), .int .i64 ((rd_T34 l0_1 x3_2).f0.f1), .string ((rd_T34 l0_1 x3_2).f1), .int .i64 ((rd_T34 l0_1 x3_2).f2), .string ((rd_T34 l0_1 x3_2).f3), .int .i64 ((rd_T34 l0_1 x3_2).f4)] 34 (0, 0)) (bk BK418.out) hb)
         replace HB := Aside0.mk (below_step (bw2 HB.out GE415.out GE418.out) hb)
         (try clear hb)
         (try clear hb2)
         (try clear hk)
         (try clear hi)
         refine hK.out _ _ ⟨(blk_cell BK418.out 0).trans rfl, (blk_cell BK418.out 1).trans rfl, (blk_cell BK418.out 2).trans rfl, (blk_cell BK418.out 3).trans rfl, (blk_cell BK418.out 4).trans rfl, (blk_cell BK418.out 5).trans rfl⟩ (fun hHeld => ?_)
         clear hK K
         refine norm_ (a' := ?_) ?_ ?_
         rotate_left
         ·
          show Act.put _ (some 28) _ = _
          simp only [Act.put, List.setIfInBounds_toArray, List.set_cons_zero, List.set_cons_succ, i64_w, i32_w]
          rfl
         refine pure_ (i := 2) (N := some 29) (fl 3 28) rfl rfl (any_of HT_.out (by kernel_rfl)) (fun _ _ _ h => h) (Or.inl ⟨by rfl, py⟩) pa ?_
         refine pure_ (i := 3) (N := some 30) (fl 4 28) rfl rfl (any_of HT_.out (by kernel_rfl)) (fun _ _ _ h => h) (Or.inl ⟨by rfl, py⟩) pa ?_
         refine pure_ (i := 4) (N := some 31) (v := undef) (a' := ?_) (fl 5 28) rfl rfl (any_of HT_.out (by kernel_rfl)) (fun _ _ _ h => h) (Or.inr ⟨by rfl, rfl⟩) ?_ ?_
         rotate_left
         ·
          simp only [Act.put, List.setIfInBounds_toArray, List.set_cons_zero, List.set_cons_succ, i64_w, i32_w]
          rfl
         refine pure_ (i := 5) (N := some 32) (v := undef) (a' := ?_) (fl 6 28) rfl rfl (any_of HT_.out (by kernel_rfl)) (fun _ _ _ h => h) (Or.inr ⟨by rfl, rfl⟩) ?_ ?_
         rotate_left
         ·
          simp only [Act.put, List.setIfInBounds_toArray, List.set_cons_zero, List.set_cons_succ, i64_w, i32_w]
          rfl
         refine pure_ (i := 6) (N := some 33) (v := undef) (a' := ?_) (fl 7 28) rfl rfl (any_of HT_.out (by kernel_rfl)) (fun _ _ _ h => h) (Or.inr ⟨by rfl, rfl⟩) ?_ ?_
         rotate_left
         ·
          simp only [Act.put, List.setIfInBounds_toArray, List.set_cons_zero, List.set_cons_succ, i64_w, i32_w]
          rfl
         refine pure_ (i := 7) (N := some 34) (v := undef) (a' := ?_) (fl 8 28) rfl rfl (any_of HT_.out (by kernel_rfl)) (fun _ _ _ h => h) (Or.inr ⟨by rfl, rfl⟩) ?_ ?_
         rotate_left
         ·
          simp only [Act.put, List.setIfInBounds_toArray, List.set_cons_zero, List.set_cons_succ, i64_w, i32_w]
          rfl
         refine pure_ (i := 8) (N := some 35) (v := undef) (a' := ?_) (fl 9 28) rfl rfl (any_of HT_.out (by kernel_rfl)) (fun _ _ _ h => h) (Or.inr ⟨by rfl, rfl⟩) ?_ ?_
         rotate_left
         ·
          simp only [Act.put, List.setIfInBounds_toArray, List.set_cons_zero, List.set_cons_succ, i64_w, i32_w]
          rfl
         refine pure_ (i := 9) (N := some 36) (v := undef) (a' := ?_) (fl 10 28) rfl rfl (any_of HT_.out (by kernel_rfl)) (fun _ _ _ h => h) (Or.inr ⟨by rfl, rfl⟩) ?_ ?_
         rotate_left
         ·
          simp only [Act.put, List.setIfInBounds_toArray, List.set_cons_zero, List.set_cons_succ, i64_w, i32_w]
          rfl
         refine pure_ (i := 10) (N := some 37) (fl 11 28) rfl rfl (any_of HT_.out (by kernel_rfl)) (fun _ _ _ h => h) (Or.inl ⟨by rfl, py⟩) pa ?_
         refine pure_ (i := 11) (N := some 38) (fl 12 28) rfl rfl (any_of HT_.out (by kernel_rfl)) (fun _ _ _ h => h) (Or.inl ⟨by rfl, py⟩) pa ?_
         refine pure_ (i := 12) (N := some 39) (v := undef) (a' := ?_) (fl 13 28) rfl rfl (any_of HT_.out (by kernel_rfl)) (fun _ _ _ h => h) (Or.inr ⟨by rfl, rfl⟩) ?_ ?_
         rotate_left
         ·
          simp only [Act.put, List.setIfInBounds_toArray, List.set_cons_zero, List.set_cons_succ, i64_w, i32_w]
          rfl
         refine pure_ (i := 13) (N := some 40) (v := undef) (a' := ?_) (fl 14 28) rfl rfl (any_of HT_.out (by kernel_rfl)) (fun _ _ _ h => h) (Or.inr ⟨by rfl, rfl⟩) ?_ ?_
         rotate_left
         ·
          simp only [Act.put, List.setIfInBounds_toArray, List.set_cons_zero, List.set_cons_succ, i64_w, i32_w]
          rfl
         refine pure_ (i := 14) (N := some 41) (v := undef) (a' := ?_) (fl 15 28) rfl rfl (any_of HT_.out (by kernel_rfl)) (fun _ _ _ h => h) (Or.inr ⟨by rfl, rfl⟩) ?_ ?_
         rotate_left
         ·
          simp only [Act.put, List.setIfInBounds_toArray, List.set_cons_zero, List.set_cons_succ, i64_w, i32_w]
          rfl
         refine pure_ (i := 15) (N := some 42) (v := undef) (a' := ?_) (fl 16 28) rfl rfl (any_of HT_.out (by kernel_rfl)) (fun _ _ _ h => h) (Or.inr ⟨by rfl, rfl⟩) ?_ ?_
         rotate_left
         ·
          simp only [Act.put, List.setIfInBounds_toArray, List.set_cons_zero, List.set_cons_succ, i64_w, i32_w]
          rfl
         refine pure_ (i := 16) (N := some 43) (v := undef) (a' := ?_) (fl 17 28) rfl rfl (any_of HT_.out (by kernel_rfl)) (fun _ _ _ h => h) (Or.inr ⟨by rfl, rfl⟩) ?_ ?_
         rotate_left
         ·
          simp only [Act.put, List.setIfInBounds_toArray, List.set_cons_zero, List.set_cons_succ, i64_w, i32_w]
          rfl
         refine pure_ (i := 17) (N := some 44) (v := undef) (a' := ?_) (fl 18 28) rfl rfl (any_of HT_.out (by kernel_rfl)) (fun _ _ _ h => h) (Or.inr ⟨by rfl, rfl⟩) ?_ ?_
         rotate_left
         ·
          simp only [Act.put, List.setIfInBounds_toArray, List.set_cons_zero, List.set_cons_succ, i64_w, i32_w]
          rfl
         refine pure_ (i := 18) (N := some 45) (v := undef) (a' := ?_) (fl 19 28) rfl rfl (any_of HT_.out (by kernel_rfl)) (fun _ _ _ h => h) (Or.inr ⟨by rfl, rfl⟩) ?_ ?_
         rotate_left
         ·
          simp only [Act.put, List.setIfInBounds_toArray, List.set_cons_zero, List.set_cons_succ, i64_w, i32_w]
          rfl
         refine pure_ (i := 19) (N := some 46) (v := undef) (a' := ?_) (fl 20 28) rfl rfl (any_of HT_.out (by kernel_rfl)) (fun _ _ _ h => h) (Or.inr ⟨by rfl, rfl⟩) ?_ ?_
         rotate_left
         ·
          simp only [Act.put, List.setIfInBounds_toArray, List.set_cons_zero, List.set_cons_succ, i64_w, i32_w]
          rfl
         refine pure_ (i := 20) (N := some 47) (v := undef) (a' := ?_) (fl 21 28) rfl rfl (any_of HT_.out (by kernel_rfl)) (fun _ _ _ h => h) (Or.inr ⟨by rfl, rfl⟩) ?_ ?_
         rotate_left
         ·
          simp only [Act.put, List.setIfInBounds_toArray, List.set_cons_zero, List.set_cons_succ, i64_w, i32_w]
          rfl
         refine pure_ (i := 21) (N := some 48) (v := undef) (a' := ?_) (fl 22 28) rfl rfl (any_of HT_.out (by kernel_rfl)) (fun _ _ _ h => h) (Or.inr ⟨by rfl, rfl⟩) ?_ ?_
         rotate_left
         ·
          simp only [Act.put, List.setIfInBounds_toArray, List.set_cons_zero, List.set_cons_succ, i64_w, i32_w]
          rfl
         refine pure_ (i := 22) (N := some 49) (v := undef) (a' := ?_) (fl 23 28) rfl rfl (any_of HT_.out (by kernel_rfl)) (fun _ _ _ h => h) (Or.inr ⟨by rfl, rfl⟩) ?_ ?_
         rotate_left
         ·
          simp only [Act.put, List.setIfInBounds_toArray, List.set_cons_zero, List.set_cons_succ, i64_w, i32_w]
          rfl
         refine pure_ (i := 23) (N := some 50) (v := undef) (a' := ?_) (fl 24 28) rfl rfl (any_of HT_.out (by kernel_rfl)) (fun _ _ _ h => h) (Or.inr ⟨by rfl, rfl⟩) ?_ ?_
         rotate_left
         ·
          simp only [Act.put, List.setIfInBounds_toArray, List.set_cons_zero, List.set_cons_succ, i64_w, i32_w]
          rfl
         refine pure_ (i := 24) (N := some 51) (v := undef) (a' := ?_) (fl 25 28) rfl rfl (any_of HT_.out (by kernel_rfl)) (fun _ _ _ h => h) (Or.inr ⟨by rfl, rfl⟩) ?_ ?_
         rotate_left
         ·
          simp only [Act.put, List.setIfInBounds_toArray, List.set_cons_zero, List.set_cons_succ, i64_w, i32_w]
          rfl
         refine pure_ (i := 25) (N := some 52) (v := undef) (a' := ?_) (fl 26 28) rfl rfl (any_of HT_.out (by kernel_rfl)) (fun _ _ _ h => h) (Or.inr ⟨by rfl, rfl⟩) ?_ ?_
         rotate_left
         ·
          simp only [Act.put, List.setIfInBounds_toArray, List.set_cons_zero, List.set_cons_succ, i64_w, i32_w]
          rfl
         refine pure_ (i := 26) (N := some 53) (v := undef) (a' := ?_) (fl 27 28) rfl rfl (any_of HT_.out (by kernel_rfl)) (fun _ _ _ h => h) (Or.inr ⟨by rfl, rfl⟩) ?_ ?_
         rotate_left
         ·
          simp only [Act.put, List.setIfInBounds_toArray, List.set_cons_zero, List.set_cons_succ, i64_w, i32_w]
          rfl
         refine pure_ (i := 27) (N := some 54) (fl 28 28) rfl rfl (any_of HT_.out (by kernel_rfl)) (fun _ _ _ h => h) (Or.inl ⟨by rfl, py⟩) pa ?_
         refine done_ (done_of HT_.out (by kernel_rfl)) ?_
         try go_wp2
         go_meet
         case rel => exact ⟨_, (true), ok_, H', ⟨by have := HJ1.out; have := HK2.out; first | omega | exact Nat.le_refl _⟩, ⟨by (with_reducible repeat (first | refine blk_drewN ?_ _ | refine blk_drew ?_ | refine blk_alloc ?_ _)); exact BK415.out⟩, ⟨by (with_reducible repeat (first | refine blk_drewN ?_ _ | refine blk_drew ?_ | refine blk_alloc ?_ _)); exact BK418.out⟩, ⟨by repeat (first | (with_reducible first | exact HB.out | apply below_alloc | apply pw_below_drewN | apply below_drew1 | refine below_set ?_ GE415.out | refine below_set ?_ GE418.out) | exact HB.out)⟩⟩
       case rest =>
        clear HC14
        try clear c2
        try clear p2
        try clear c3
        try clear c20
        try clear c22
        try clear c25
        try clear c34
        obtain ⟨kq, x54_13, rfl, HA, HJ13, BK415, BK418, HB⟩ := hcut
        cases kq with
        | zero => exact absurd HA.out (by simp [deaddropref7_May.j2])
        | succ kj13 =>
         have H := HA.out
         clear HA
         simp only [deaddropref7_May.j2] at H
         by_cases c44 : x54_13 = true
         ·
          subst c44
          have H1 : (some false) = some r := by rw [if_pos rfl] at H; exact H
          clear H
          have H := H1
          clear H1
          obtain rfl := Option.some.inj H
          go_wp2
          go_ret
          exact ⟨by first | rfl | (simp [errW_none, errW_some] <;> rfl) | (simp [*, errW_none, errW_some] <;> rfl), by repeat (first | (with_reducible first | exact HB.out | apply below_alloc | apply pw_below_drewN | apply below_drew1 | refine below_set ?_ GE415.out | refine below_set ?_ GE418.out) | exact HB.out)⟩
         ·
          replace c44 := Bool.eq_false_iff.mpr c44
          subst c44
          have H1 : (deaddropref7_May.l0 kj13 (wrap64 (x3_2 + 1)) l0_0 l0_1) = some r := by rw [if_neg (show ¬ (false = true) by decide)] at H; exact H
          clear H
          have H := H1
          clear H1
          have H' := Aside0.mk H
          clear H
          go_wp2
          go_roundg kj13
          case measure => have := HJ1.out; have := HK2.out; have := HJ13.out; omega
          case rel => exact ⟨(wrap64 (x3_2 + 1)), ok_, H', ⟨by have := HJ1.out; have := HK2.out; have := HJ13.out; omega⟩, ⟨by (with_reducible repeat (first | refine blk_drewN ?_ _ | refine blk_drew ?_ | refine blk_alloc ?_ _)); exact BK415.out⟩, ⟨by repeat (first | (with_reducible first | exact HB.out | apply below_alloc | apply pw_below_drewN | apply below_drew1 | refine below_set ?_ GE415.out | refine below_set ?_ GE418.out) | exact HB.out)⟩⟩
      ·
       rw [if_neg c12] at H
       have c12b0 : decide (x3_2 < (l0_1.length : Int)) = false := decide_eq_false c12
       clear c12
       obtain rfl := Option.some.inj H
       have hcz45_0 : wr.cell? ⟨gb415, 0, none⟩ = some (.slice A0_0 l0_0.length c0_0) := (blk_cell BK415.out 0).trans rfl
       have hcz45_1 : wr.cell? ⟨gb415, 1, none⟩ = some (.slice A0_1 l0_1.length c0_1) := (blk_cell BK415.out 1).trans rfl
       have hfz45_0 := blk_frozen BK415.out 0
       have hfz45_1 := blk_frozen BK415.out 1
       go_wp2
       go_ret
       exact ⟨by first | rfl | (simp [errW_none, errW_some] <;> rfl) | (simp [*, errW_none, errW_some] <;> rfl), by repeat (first | (with_reducible first | exact HB.out | apply below_alloc | apply pw_below_drewN | apply below_drew1 | refine below_set ?_ GE415.out) | exact HB.out)⟩

end Go.Proofs.Ytaonemedoikieaa.Q
