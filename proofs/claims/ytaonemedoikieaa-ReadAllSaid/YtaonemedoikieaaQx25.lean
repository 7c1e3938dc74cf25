-- Written by a program of this work (wip/tools/mkprint.py) over the kit's print; Lean checks it.
import Derived.Test.YtaonemedoikieaaQx0
import Derived.Test.YtaonemedoikieaaQx2
import Derived.Test.YtaonemedoikieaaQx11
import Derived.Test.YtaonemedoikieaaQx21
import Derived.Test.YtaonemedoikieaaQx22
import Derived.Test.YtaonemedoikieaaQx23
import Derived.Test.YtaonemedoikieaaQx24
import Derived.Test.YtaonemedoikieaaHAbb
namespace Go.Proofs.Ytaonemedoikieaa.Q
open Go.RowKit Go.Proofs.YtaonemedoikieaaW.PrintWords Go.Proofs.YtaonemedoikieaaW.PrintLast Go.Proofs.YtaonemedoikieaaW.PrintMore Go.Proofs.Ytaonemedoikieaa.AB
attribute [local go_sem] max2_int min2_int max_two min_two max_three min_three max_four min_four   -- for this text's walks alone
set_option linter.unusedVariables false
set_option linter.unusedSimpArgs false

/-! ### deaddroplaw10_ReadAll: function 5 -/
def deaddroplaw10_ReadAll.j0 : Nat → ByteArray → Bool → List (S70) → List (S34) → Option (Bool)
 | 0, _, _, _, _ => none
 | k + 1, x1, x16, x500000, x500001 => if x16 = true then ((deaddroplaw10_awake.f k).bind fun t502 => (some t502)) else ((read_Keys.f k x500000 x500001).bind fun t503 => ((deaddropref7_Keys.f k x500000 x500001).bind fun t506 => ((deaddropref1_SameTexts.f k t503 t506).bind fun t509 => (if t509 = true then ((read_Texts.f k x500000 x500001 x1).bind fun t510 => ((deaddropref7_Items.f k x500000 x500001 x1 1).bind fun t513 => ((deaddropref1_SameTexts.f k t510 t513).bind fun t516 => (if t516 = true then ((read_Members.f k x500000 x500001 x1).bind fun t517 => ((deaddropref7_Items.f k x500000 x500001 x1 2).bind fun t520 => ((deaddropref1_SameTexts.f k t517 t520).bind fun t523 => (if t523 = true then ((read_Count.f k x500000 x500001 x1).bind fun t524 => ((deaddropref7_Count.f k x500000 x500001 x1).bind fun t525 => (if t524 = t525 then ((deaddroplaw10_awake.f k).bind fun t526 => (some t526)) else (none)))) else (none))))) else (none))))) else (none)))))
def deaddroplaw10_ReadAll.f (k : Nat) (l0_0 : List (S70)) (l0_1 : List (S34)) (a1 : ByteArray) : Option (Bool) := (deaddroplaw8_Great.f k l0_0 l0_1).bind fun t500 => (if t500 = true then (deaddroplaw10_ReadAll.j0 k a1 true l0_0 l0_1) else (if (a1.size : Int) > 100 then (deaddroplaw10_ReadAll.j0 k a1 true l0_0 l0_1) else ((deaddropref7_May.f k l0_0 l0_1).bind fun t501 => (deaddroplaw10_ReadAll.j0 k a1 (!t501) l0_0 l0_1))))
theorem deaddroplaw10_ReadAll.mono_l : ∀ k, (∀ y0 y1 y2 y3, LeO (deaddroplaw10_ReadAll.j0 k y0 y1 y2 y3) (deaddroplaw10_ReadAll.j0 (k + 1) y0 y1 y2 y3))
 | 0 => fun _ _ _ _ r h => by simp [deaddroplaw10_ReadAll.j0] at h
 | k + 1 => by
  have ih0 := deaddroplaw10_ReadAll.mono_l k
  ·
   intro y0 y1 y2 y3
   unfold deaddroplaw10_ReadAll.j0
   repeat' first
   | (with_reducible exact ih0 _ _ _ _)
   | (with_reducible exact deaddroplaw10_awake.mono _)
   | (with_reducible exact deaddroplaw8_Great.mono _ _ _)
   | (with_reducible exact deaddropref1_SameTexts.mono _ _ _)
   | (with_reducible exact deaddropref7_Count.mono _ _ _ _)
   | (with_reducible exact deaddropref7_Items.mono _ _ _ _ _)
   | (with_reducible exact deaddropref7_Keys.mono _ _ _)
   | (with_reducible exact deaddropref7_May.mono _ _ _)
   | (with_reducible exact read_Count.mono _ _ _ _)
   | (with_reducible exact read_Keys.mono _ _ _)
   | (with_reducible exact read_Members.mono _ _ _ _)
   | (with_reducible exact read_Texts.mono _ _ _ _)
   | (with_reducible exact LeO.refl _)
   | (with_reducible exact LeO.none _)
   | (with_reducible refine LeO.ite ?_ ?_)
   | (with_reducible refine LeO.bind ?_ (fun _ => ?_))
   | exact ih0 _ _ _ _
   | exact deaddroplaw10_awake.mono _
   | exact deaddroplaw8_Great.mono _ _ _
   | exact deaddropref1_SameTexts.mono _ _ _
   | exact deaddropref7_Count.mono _ _ _ _
   | exact deaddropref7_Items.mono _ _ _ _ _
   | exact deaddropref7_Keys.mono _ _ _
   | exact deaddropref7_May.mono _ _ _
   | exact read_Count.mono _ _ _ _
   | exact read_Keys.mono _ _ _
   | exact read_Members.mono _ _ _ _
   | exact read_Texts.mono _ _ _ _
   | exact LeO.none _
   | refine LeO.ite ?_ ?_
   | refine LeO.bind ?_ (fun _ => ?_)
theorem deaddroplaw10_ReadAll.mono : ∀ a0 a1 a2 k, LeO (deaddroplaw10_ReadAll.f k a0 a1 a2) (deaddroplaw10_ReadAll.f (k + 1) a0 a1 a2) := by
 intro a0 a1 a2 k
 have ih0 := deaddroplaw10_ReadAll.mono_l k
 unfold deaddroplaw10_ReadAll.f
 repeat' first
  | (with_reducible exact ih0 _ _ _ _)
  | (with_reducible exact deaddroplaw10_awake.mono _)
  | (with_reducible exact deaddroplaw8_Great.mono _ _ _)
  | (with_reducible exact deaddropref1_SameTexts.mono _ _ _)
  | (with_reducible exact deaddropref7_Count.mono _ _ _ _)
  | (with_reducible exact deaddropref7_Items.mono _ _ _ _ _)
  | (with_reducible exact deaddropref7_Keys.mono _ _ _)
  | (with_reducible exact deaddropref7_May.mono _ _ _)
  | (with_reducible exact read_Count.mono _ _ _ _)
  | (with_reducible exact read_Keys.mono _ _ _)
  | (with_reducible exact read_Members.mono _ _ _ _)
  | (with_reducible exact read_Texts.mono _ _ _ _)
  | (with_reducible exact LeO.refl _)
  | (with_reducible exact LeO.none _)
  | (with_reducible refine LeO.ite ?_ ?_)
  | (with_reducible refine LeO.bind ?_ (fun _ => ?_))
  | exact ih0 _ _ _ _
  | exact deaddroplaw10_awake.mono _
  | exact deaddroplaw8_Great.mono _ _ _
  | exact deaddropref1_SameTexts.mono _ _ _
  | exact deaddropref7_Count.mono _ _ _ _
  | exact deaddropref7_Items.mono _ _ _ _ _
  | exact deaddropref7_Keys.mono _ _ _
  | exact deaddropref7_May.mono _ _ _
  | exact read_Count.mono _ _ _ _
  | exact read_Keys.mono _ _ _
  | exact read_Members.mono _ _ _ _
  | exact read_Texts.mono _ _ _ _
  | exact LeO.none _
  | refine LeO.ite ?_ ?_
  | refine LeO.bind ?_ (fun _ => ?_)
def deaddroplaw10_ReadAll.T3 : Bool × List (List Nat × List Nat) := (true, [([], []), ([0], [0]), ([], []), ([2, 1], [2]), ([1, 3, 3], [1, 3]), ([4, 4], [4]), ([5], [5]), ([5], [5]), ([6, 7, 5, 5], [5, 6, 7]), ([5], [5]), ([5], [5]), ([9, 10, 8, 5], [5, 9, 10]), ([8, 11, 11, 5], [5, 8, 11]), ([5, 12], [5, 12]), ([13, 12], [13]), ([14], [14]), ([14], [14]), ([15, 16, 14, 14], [14, 15, 16]), ([14], [14]), ([14], [14]), ([18, 19, 17, 14], [14, 18, 19]), ([17, 20, 20, 14], [14, 17, 20]), ([14, 21], [14, 21]), ([22, 21], [22]), ([23], [23]), ([23], [23]), ([24, 25, 23, 23], [23, 24, 25]), ([23], [23]), ([23], [23]), ([27, 28, 26, 23], [23, 27, 28]), ([26, 29, 23], [23, 26, 29]), ([23, 30], [23, 30]), ([31, 29], [31]), ([32, 32], [32]), ([32, 33], [32, 33]), ([34, 33, 0, 1, 2, 3, 4, 5, 6, 7, 8, 9, 10, 11, 12, 13, 14, 15, 16, 17, 18, 19, 20, 21, 22, 23, 24, 25, 26, 27, 28, 29, 30, 31, 32, 33, 34], [34])])
def deaddroplaw10_ReadAll.B3 : List Nat := [0, 1, 0, 7, 15, 31, 63, 63, 255, 63, 63, 2047, 4095, 8191, 16383, 32767, 32767, 131071, 32767, 32767, 1048575, 2097151, 4194303, 8388607, 16777215, 16777215, 67108863, 16777215, 16777215, 536870911, 1073741823, 2147483647, 4294967295, 8589934591, 17179869183, 34359738367]
theorem deaddroplaw10_ReadAll.tab3 : rtab .any (opsOf Try.f5 3) = deaddroplaw10_ReadAll.T3 := by kernel_rfl
theorem deaddroplaw10_ReadAll.bits3 : waitsOk deaddroplaw10_ReadAll.T3.2 deaddroplaw10_ReadAll.B3 = true := by kernel_rfl
set_option maxHeartbeats 8000000 in
set_option maxRecDepth 100000 in
theorem deaddroplaw10_ReadAll.calls (k : Nat) (A0_0 : Option Addr) (c0_0 : Nat) (l0_0 : List (S70)) (A0_1 : Option Addr) (c0_1 : Nat) (l0_1 : List (S34)) (a1 : ByteArray) (r : Bool) (w : World) (hr0_0 : Kd.C k70 w A0_0 l0_0.length l0_0) (hc0_0 : l0_0.length ≤ c0_0) (hr0_1 : Kd.C k34 w A0_1 l0_1.length l0_1) (hc0_1 : l0_1.length ≤ c0_1) (h : deaddroplaw10_ReadAll.f k l0_0 l0_1 a1 = some r) :
 Calls Try.prog 5 #[.agg #[.slice A0_0 l0_0.length c0_0, .slice A0_1 l0_1.length c0_1], .string a1] w fun e w' => e = .returned (.bool r) ∧ Below w.heap.size w w' := by
 have hu28 := Try.underlying28
 have HR0_0 := Aside0.mk hr0_0
 have HC0_0 := Aside0.mk hc0_0
 clear hr0_0 hc0_0
 have HR0_1 := Aside0.mk hr0_1
 have HC0_1 := Aside0.mk hc0_1
 clear hr0_1 hc0_1
 have HB := Aside0.mk (Below.refl w.heap.size w)
 have H : ((deaddroplaw8_Great.f k l0_0 l0_1).bind fun t500 => (if t500 = true then (deaddroplaw10_ReadAll.j0 k a1 true l0_0 l0_1) else (if (a1.size : Int) > 100 then (deaddroplaw10_ReadAll.j0 k a1 true l0_0 l0_1) else ((deaddropref7_May.f k l0_0 l0_1).bind fun t501 => (deaddroplaw10_ReadAll.j0 k a1 (!t501) l0_0 l0_1))))) = some r := h
 clear h
 have HC3 := Aside0.mk H
 clear H
 go_enter Try.func5, Try.ntmps5
 go_upto_region 1 with (first | ((with_reducible refine gate_dst (N := 2) rfl ?_); (try (refine gate_guard (by rfl) ?_; dsimp only)); refine box_event ?hg (N := 2) ?hd (cs := #[.slice A0_0 l0_0.length c0_0, .slice A0_1 l0_1.length c0_1]) (t := 28) ?hr ?_; (case hd => rfl); (case hg => rfl); (case hr => first | (go_simp; done) | (go_simp; rfl)); intro gb499 hg w4 hbox hb; have BK499 := Aside0.mk (hbox); have GW499 := Aside0.mk ((by rw [hg]; exact (below_size (bw HB.out)) : w.heap.size ≤ gb499)); have GE499 := Aside0.mk ((by rw [hg]; exact (below_size (bw HB.out)) : w.heap.size ≤ gb499)); replace HB := Aside0.mk (below_step (bw HB.out) hb); clear hb hbox hg))
 (try simp only [Act.put, List.setIfInBounds_toArray, List.set_cons_zero, List.set_cons_succ])
 go_cut [16] (fun v16 wc => ∃ (kq : Nat) (x16_2 : Bool), v16 = .bool x16_2 ∧ Aside0 (deaddroplaw10_ReadAll.j0 kq a1 x16_2 l0_0 l0_1 = some r) ∧ Aside0 (kq ≤ k) ∧ Aside0 (wc.heap[gb499]? = some (.cells #[(.slice A0_0 l0_0.length c0_0), (.slice A0_1 l0_1.length c0_1)] 28 (0, 0))) ∧ Aside0 (Below w.heap.size w wc))
 case first =>
  have H := HC3.out
  clear HC3
  replace H := Option.bind_eq_some_iff.mp H
  obtain ⟨t500, A50, H⟩ := H
  replace H : (if t500 = true then (deaddroplaw10_ReadAll.j0 k a1 true l0_0 l0_1) else (if (a1.size : Int) > 100 then (deaddroplaw10_ReadAll.j0 k a1 true l0_0 l0_1) else ((deaddropref7_May.f k l0_0 l0_1).bind fun t501 => (deaddroplaw10_ReadAll.j0 k a1 (!t501) l0_0 l0_1)))) = some r := H
  have A5 := Aside0.mk A50
  clear A50
  by_cases c6 : t500 = true
  ·
   subst c6
   have H1 : (deaddroplaw10_ReadAll.j0 k a1 true l0_0 l0_1) = some r := by rw [if_pos rfl] at H; exact H
   clear H
   have H := H1
   clear H1
   have H' := Aside0.mk H
   clear H
   have hcz7_0 : w4.cell? ⟨gb499, 0, none⟩ = some (.slice A0_0 l0_0.length c0_0) := (blk_cell BK499.out 0).trans rfl
   have hcz7_1 : w4.cell? ⟨gb499, 1, none⟩ = some (.slice A0_1 l0_1.length c0_1) := (blk_cell BK499.out 1).trans rfl
   have hfz7_0 := blk_frozen BK499.out 0
   have hfz7_1 := blk_frozen BK499.out 1
   go_wp2_with (first | ((with_reducible refine gate_callee (f := 17) rfl ?_); refine goesL_ (some 6) rfl rfl Try.func17 (by kernel_rfl) rfl #[.agg #[.slice A0_0 l0_0.length c0_0, .slice A0_1 l0_1.length c0_1]] rfl ar_ ?_; (with_reducible refine (deaddroplaw8_Great.calls k _ _ l0_0 _ _ l0_1 true _ ?side1 ?side2 ?side3 ?side4 A5.out).mono ?_); (case side1 => exact cr (Kd.C_below HR0_0.out HB.out)); (case side2 => exact HC0_0.out); (case side3 => exact cr (Kd.C_below HR0_1.out HB.out)); (case side4 => exact HC0_1.out); rintro e w8 ⟨rfl, hb⟩; refine ⟨_, rfl, ?_⟩; replace BK499 := Aside0.mk (blk_below (g := gb499) (o := .cells #[.slice A0_0 l0_0.length c0_0, .slice A0_1 l0_1.length c0_1] 28 (0, 0)) (bk BK499.out) hb); replace HB := Aside0.mk (below_step (bw1 HB.out GE499.out) hb); (try clear hb); (try clear hb2); (try clear hk); (try clear hi)))
   go_meet
   case rel => exact ⟨_, (true), ok_, H', ⟨by first | omega | exact Nat.le_refl _⟩, ⟨by (with_reducible repeat (first | refine blk_drewN ?_ _ | refine blk_drew ?_ | refine blk_alloc ?_ _)); exact BK499.out⟩, ⟨by repeat (first | (with_reducible first | exact HB.out | apply below_alloc | apply pw_below_drewN | apply below_drew1 | refine below_set ?_ GE499.out) | exact HB.out)⟩⟩
  ·
   replace c6 := Bool.eq_false_iff.mpr c6
   subst c6
   have H1 : (if (a1.size : Int) > 100 then (deaddroplaw10_ReadAll.j0 k a1 true l0_0 l0_1) else ((deaddropref7_May.f k l0_0 l0_1).bind fun t501 => (deaddroplaw10_ReadAll.j0 k a1 (!t501) l0_0 l0_1))) = some r := by rw [if_neg (show ¬ (false = true) by decide)] at H; exact H
   clear H
   have H := H1
   clear H1
   by_cases c9 : (a1.size : Int) > 100
   ·
    rw [if_pos c9] at H
    have c9b0 : decide (100 < (a1.size : Int)) = true := decide_eq_true c9
    have c9b1 : decide (100 < a1.size) = true := decide_eq_true (by omega)
    clear c9
    (first | rw [c9b0] | (simp only [i64_w, i32_w]; rw [c9b0]) | skip)
    have H' := Aside0.mk H
    clear H
    have hcz10_0 : w4.cell? ⟨gb499, 0, none⟩ = some (.slice A0_0 l0_0.length c0_0) := (blk_cell BK499.out 0).trans rfl
    have hcz10_1 : w4.cell? ⟨gb499, 1, none⟩ = some (.slice A0_1 l0_1.length c0_1) := (blk_cell BK499.out 1).trans rfl
    have hfz10_0 := blk_frozen BK499.out 0
    have hfz10_1 := blk_frozen BK499.out 1
    go_wp2_with (first | ((with_reducible refine gate_callee (f := 17) rfl ?_); refine goesL_ (some 6) rfl rfl Try.func17 (by kernel_rfl) rfl #[.agg #[.slice A0_0 l0_0.length c0_0, .slice A0_1 l0_1.length c0_1]] rfl ar_ ?_; (with_reducible refine (deaddroplaw8_Great.calls k _ _ l0_0 _ _ l0_1 false _ ?side1 ?side2 ?side3 ?side4 A5.out).mono ?_); (case side1 => exact cr (Kd.C_below HR0_0.out HB.out)); (case side2 => exact HC0_0.out); (case side3 => exact cr (Kd.C_below HR0_1.out HB.out)); (case side4 => exact HC0_1.out); rintro e w11 ⟨rfl, hb⟩; refine ⟨_, rfl, ?_⟩; replace BK499 := Aside0.mk (blk_below (g := gb499) (o := .cells #[.slice A0_0 l0_0.length c0_0, .slice A0_1 l0_1.length c0_1] 28 (0, 0)) (bk BK499.out) hb); replace HB := Aside0.mk (below_step (bw1 HB.out GE499.out) hb); (try clear hb); (try clear hb2); (try clear hk); (try clear hi)))
    go_meet
    case rel => exact ⟨_, (true), ok_, H', ⟨by first | omega | exact Nat.le_refl _⟩, ⟨by (with_reducible repeat (first | refine blk_drewN ?_ _ | refine blk_drew ?_ | refine blk_alloc ?_ _)); exact BK499.out⟩, ⟨by repeat (first | (with_reducible first | exact HB.out | apply below_alloc | apply pw_below_drewN | apply below_drew1 | refine below_set ?_ GE499.out) | exact HB.out)⟩⟩
   ·
    rw [if_neg c9] at H
    have c9b0 : decide (100 < (a1.size : Int)) = false := decide_eq_false c9
    have c9b1 : decide (100 < a1.size) = false := decide_eq_false (by omega)
    clear c9
    (first | rw [c9b0] | (simp only [i64_w, i32_w]; rw [c9b0]) | skip)
    replace H := Option.bind_eq_some_iff.mp H
    obtain ⟨t501, A120, H⟩ := H
    replace H : (deaddroplaw10_ReadAll.j0 k a1 (!t501) l0_0 l0_1) = some r := H
    have A12 := Aside0.mk A120
    clear A120
    have H' := Aside0.mk H
    clear H
    have hcz13_0 : w4.cell? ⟨gb499, 0, none⟩ = some (.slice A0_0 l0_0.length c0_0) := (blk_cell BK499.out 0).trans rfl
    have hcz13_1 : w4.cell? ⟨gb499, 1, none⟩ = some (.slice A0_1 l0_1.length c0_1) := (blk_cell BK499.out 1).trans rfl
    have hfz13_0 := blk_frozen BK499.out 0
    have hfz13_1 := blk_frozen BK499.out 1
    go_wp2_with (first | ((with_reducible refine gate_callee (f := 17) rfl ?_); refine goesL_ (some 6) rfl rfl Try.func17 (by kernel_rfl) rfl #[.agg #[.slice A0_0 l0_0.length c0_0, .slice A0_1 l0_1.length c0_1]] rfl ar_ ?_; (with_reducible refine (deaddroplaw8_Great.calls k _ _ l0_0 _ _ l0_1 false _ ?side1 ?side2 ?side3 ?side4 A5.out).mono ?_); (case side1 => exact cr (Kd.C_below HR0_0.out HB.out)); (case side2 => exact HC0_0.out); (case side3 => exact cr (Kd.C_below HR0_1.out HB.out)); (case side4 => exact HC0_1.out); rintro e w14 ⟨rfl, hb⟩; refine ⟨_, rfl, ?_⟩; replace BK499 := Aside0.mk (blk_below (g := gb499) (o := .cells #[.slice A0_0 l0_0.length c0_0, .slice A0_1 l0_1.length c0_1] 28 (0, 0)) (bk BK499.out) hb); replace HB := Aside0.mk (below_step (bw1 HB.out GE499.out) hb); (try clear hb); (try clear hb2); (try clear hk); (try clear hi); have hcz15_0 : w14.cell? ⟨gb499, 0, none⟩ = some (.slice A0_0 l0_0.length c0_0) := (blk_cell BK499.out 0).trans rfl; have hcz15_1 : w14.cell? ⟨gb499, 1, none⟩ = some (.slice A0_1 l0_1.length c0_1) := (blk_cell BK499.out 1).trans rfl; have hfz15_0 := blk_frozen BK499.out 0; have hfz15_1 := blk_frozen BK499.out 1) | (go_at_call 18; (with_reducible refine (deaddropref7_May.calls k _ _ l0_0 _ _ l0_1 t501 _ ?side1 ?side2 ?side3 ?side4 A12.out).mono ?_); (case side1 => exact cr (Kd.C_below HR0_0.out HB.out)); (case side2 => exact HC0_0.out); (case side3 => exact cr (Kd.C_below HR0_1.out HB.out)); (case side4 => exact HC0_1.out); rintro e w16 ⟨rfl, hb⟩; replace BK499 := Aside0.mk (blk_below (g := gb499) (o := .cells #[.slice A0_0 l0_0.length c0_0, .slice A0_1 l0_1.length c0_1] 28 (0, 0)) (bk BK499.out) hb); replace HB := Aside0.mk (below_step (bw1 HB.out GE499.out) hb); (try clear hb); (try clear hb2); (try clear hk); (try clear hi)))
    go_meet
    case rel => exact ⟨_, (!t501), ok_, H', ⟨by first | omega | exact Nat.le_refl _⟩, ⟨by (with_reducible repeat (first | refine blk_drewN ?_ _ | refine blk_drew ?_ | refine blk_alloc ?_ _)); exact BK499.out⟩, ⟨by repeat (first | (with_reducible first | exact HB.out | apply below_alloc | apply pw_below_drewN | apply below_drew1 | refine below_set ?_ GE499.out) | exact HB.out)⟩⟩
 case rest =>
  clear HC3
  try clear c1
  try clear p2
  try clear c5
  try clear c6
  try clear c9
  try clear c9b0
  try clear c9b1
  try clear hcz10_0
  try clear hcz10_1
  try clear hcz13_0
  try clear hcz13_1
  try clear hcz15_0
  try clear hcz15_1
  try clear hcz7_0
  try clear hcz7_1
  try clear hfz10_0
  try clear hfz10_1
  try clear hfz13_0
  try clear hfz13_1
  try clear hfz15_0
  try clear hfz15_1
  try clear hfz7_0
  try clear hfz7_1
  obtain ⟨kq, x16_2, rfl, HA, HJ2, BK499, HB⟩ := hcut
  cases kq with
  | zero => exact absurd HA.out (by simp [deaddroplaw10_ReadAll.j0])
  | succ kj2 =>
   have H := HA.out
   clear HA
   simp only [deaddroplaw10_ReadAll.j0] at H
   by_cases c17 : x16_2 = true
   ·
    subst c17
    have H1 : ((deaddroplaw10_awake.f kj2).bind fun t502 => (some t502)) = some r := by rw [if_pos rfl] at H; exact H
    clear H
    have H := H1
    clear H1
    replace H := Option.bind_eq_some_iff.mp H
    obtain ⟨t502, A180, H⟩ := H
    replace H : (some t502) = some r := H
    have A18 := Aside0.mk A180
    clear A180
    obtain rfl := Option.some.inj H
    go_wp2_with (first | ((with_reducible refine gate_callee (f := 11) rfl ?_); refine goesL_ (some 17) rfl rfl Try.func11 (by kernel_rfl) rfl #[] rfl ar_ ?_; (with_reducible refine (deaddroplaw10_awake.calls kj2  t502 _ A18.out).mono ?_); rintro e w19 ⟨rfl, hb⟩; refine ⟨_, rfl, ?_⟩; replace BK499 := Aside0.mk (blk_below (g := gb499) (o := .cells #[.slice A0_0 l0_0.length c0_0, .slice A0_1 l0_1.length c0_1] 28 (0, 0)) (bk BK499.out) hb); replace HB := Aside0.mk (below_step (bw1 HB.out GE499.out) hb); (try clear hb); (try clear hb2); (try clear hk); (try clear hi)))
    go_ret
    exact ⟨by first | rfl | (simp [errW_none, errW_some] <;> rfl) | (simp [*, errW_none, errW_some] <;> rfl), by repeat (first | (with_reducible first | exact HB.out | apply below_alloc | apply pw_below_drewN | apply below_drew1 | refine below_set ?_ GE499.out) | exact HB.out)⟩
   ·
    replace c17 := Bool.eq_false_iff.mpr c17
    subst c17
    have H1 : ((read_Keys.f kj2 l0_0 l0_1).bind fun t503 => ((deaddropref7_Keys.f kj2 l0_0 l0_1).bind fun t506 => ((deaddropref1_SameTexts.f kj2 t503 t506).bind fun t509 => (if t509 = true then ((read_Texts.f kj2 l0_0 l0_1 a1).bind fun t510 => ((deaddropref7_Items.f kj2 l0_0 l0_1 a1 1).bind fun t513 => ((deaddropref1_SameTexts.f kj2 t510 t513).bind fun t516 => (if t516 = true then ((read_Members.f kj2 l0_0 l0_1 a1).bind fun t517 => ((deaddropref7_Items.f kj2 l0_0 l0_1 a1 2).bind fun t520 => ((deaddropref1_SameTexts.f kj2 t517 t520).bind fun t523 => (if t523 = true then ((read_Count.f kj2 l0_0 l0_1 a1).bind fun t524 => ((deaddropref7_Count.f kj2 l0_0 l0_1 a1).bind fun t525 => (if t524 = t525 then ((deaddroplaw10_awake.f kj2).bind fun t526 => (some t526)) else (none)))) else (none))))) else (none))))) else (none))))) = some r := by rw [if_neg (show ¬ (false = true) by decide)] at H; exact H
    clear H
    have H := H1
    clear H1
    replace H := Option.bind_eq_some_iff.mp H
    obtain ⟨t503, A200, H⟩ := H
    replace H : ((deaddropref7_Keys.f kj2 l0_0 l0_1).bind fun t506 => ((deaddropref1_SameTexts.f kj2 t503 t506).bind fun t509 => (if t509 = true then ((read_Texts.f kj2 l0_0 l0_1 a1).bind fun t510 => ((deaddropref7_Items.f kj2 l0_0 l0_1 a1 1).bind fun t513 => ((deaddropref1_SameTexts.f kj2 t510 t513).bind fun t516 => (if t516 = true then ((read_Members.f kj2 l0_0 l0_1 a1).bind fun t517 => ((deaddropref7_Items.f kj2 l0_0 l0_1 a1 2).bind fun t520 => ((deaddropref1_SameTexts.f kj2 t517 t520).bind fun t523 => (if t523 = true then ((read_Count.f kj2 l0_0 l0_1 a1).bind fun t524 => ((deaddropref7_Count.f kj2 l0_0 l0_1 a1).bind fun t525 => (if t524 = t525 then ((deaddroplaw10_awake.f kj2).bind fun t526 => (some t526)) else (none)))) else (none))))) else (none))))) else (none)))) = some r := H
    have A20 := Aside0.mk A200
    clear A200
    replace H := Option.bind_eq_some_iff.mp H
    obtain ⟨t506, A210, H⟩ := H
    replace H : ((deaddropref1_SameTexts.f kj2 t503 t506).bind fun t509 => (if t509 = true then ((read_Texts.f kj2 l0_0 l0_1 a1).bind fun t510 => ((deaddropref7_Items.f kj2 l0_0 l0_1 a1 1).bind fun t513 => ((deaddropref1_SameTexts.f kj2 t510 t513).bind fun t516 => (if t516 = true then ((read_Members.f kj2 l0_0 l0_1 a1).bind fun t517 => ((deaddropref7_Items.f kj2 l0_0 l0_1 a1 2).bind fun t520 => ((deaddropref1_SameTexts.f kj2 t517 t520).bind fun t523 => (if t523 = true then ((read_Count.f kj2 l0_0 l0_1 a1).bind fun t524 => ((deaddropref7_Count.f kj2 l0_0 l0_1 a1).bind fun t525 => (if t524 = t525 then ((deaddroplaw10_awake.f kj2).bind fun t526 => (some t526)) else (none)))) else (none))))) else (none))))) else (none))) = some r := H
    have A21 := Aside0.mk A210
    clear A210
    replace H := Option.bind_eq_some_iff.mp H
    obtain ⟨t509, A220, H⟩ := H
    replace H : (if t509 = true then ((read_Texts.f kj2 l0_0 l0_1 a1).bind fun t510 => ((deaddropref7_Items.f kj2 l0_0 l0_1 a1 1).bind fun t513 => ((deaddropref1_SameTexts.f kj2 t510 t513).bind fun t516 => (if t516 = true then ((read_Members.f kj2 l0_0 l0_1 a1).bind fun t517 => ((deaddropref7_Items.f kj2 l0_0 l0_1 a1 2).bind fun t520 => ((deaddropref1_SameTexts.f kj2 t517 t520).bind fun t523 => (if t523 = true then ((read_Count.f kj2 l0_0 l0_1 a1).bind fun t524 => ((deaddropref7_Count.f kj2 l0_0 l0_1 a1).bind fun t525 => (if t524 = t525 then ((deaddroplaw10_awake.f kj2).bind fun t526 => (some t526)) else (none)))) else (none))))) else (none))))) else (none)) = some r := H
    have A22 := Aside0.mk A220
    clear A220
    by_cases c23 : t509 = true
    ·
     subst c23
     have H1 : ((read_Texts.f kj2 l0_0 l0_1 a1).bind fun t510 => ((deaddropref7_Items.f kj2 l0_0 l0_1 a1 1).bind fun t513 => ((deaddropref1_SameTexts.f kj2 t510 t513).bind fun t516 => (if t516 = true then ((read_Members.f kj2 l0_0 l0_1 a1).bind fun t517 => ((deaddropref7_Items.f kj2 l0_0 l0_1 a1 2).bind fun t520 => ((deaddropref1_SameTexts.f kj2 t517 t520).bind fun t523 => (if t523 = true then ((read_Count.f kj2 l0_0 l0_1 a1).bind fun t524 => ((deaddropref7_Count.f kj2 l0_0 l0_1 a1).bind fun t525 => (if t524 = t525 then ((deaddroplaw10_awake.f kj2).bind fun t526 => (some t526)) else (none)))) else (none))))) else (none))))) = some r := by rw [if_pos rfl] at H; exact H
     clear H
     have H := H1
     clear H1
     replace H := Option.bind_eq_some_iff.mp H
     obtain ⟨t510, A240, H⟩ := H
     replace H : ((deaddropref7_Items.f kj2 l0_0 l0_1 a1 1).bind fun t513 => ((deaddropref1_SameTexts.f kj2 t510 t513).bind fun t516 => (if t516 = true then ((read_Members.f kj2 l0_0 l0_1 a1).bind fun t517 => ((deaddropref7_Items.f kj2 l0_0 l0_1 a1 2).bind fun t520 => ((deaddropref1_SameTexts.f kj2 t517 t520).bind fun t523 => (if t523 = true then ((read_Count.f kj2 l0_0 l0_1 a1).bind fun t524 => ((deaddropref7_Count.f kj2 l0_0 l0_1 a1).bind fun t525 => (if t524 = t525 then ((deaddroplaw10_awake.f kj2).bind fun t526 => (some t526)) else (none)))) else (none))))) else (none)))) = some r := H
     have A24 := Aside0.mk A240
     clear A240
     replace H := Option.bind_eq_some_iff.mp H
     obtain ⟨t513, A250, H⟩ := H
     replace H : ((deaddropref1_SameTexts.f kj2 t510 t513).bind fun t516 => (if t516 = true then ((read_Members.f kj2 l0_0 l0_1 a1).bind fun t517 => ((deaddropref7_Items.f kj2 l0_0 l0_1 a1 2).bind fun t520 => ((deaddropref1_SameTexts.f kj2 t517 t520).bind fun t523 => (if t523 = true then ((read_Count.f kj2 l0_0 l0_1 a1).bind fun t524 => ((deaddropref7_Count.f kj2 l0_0 l0_1 a1).bind fun t525 => (if t524 = t525 then ((deaddroplaw10_awake.f kj2).bind fun t526 => (some t526)) else (none)))) else (none))))) else (none))) = some r := H
     have A25 := Aside0.mk A250
     clear A250
     replace H := Option.bind_eq_some_iff.mp H
     obtain ⟨t516, A260, H⟩ := H
     replace H : (if t516 = true then ((read_Members.f kj2 l0_0 l0_1 a1).bind fun t517 => ((deaddropref7_Items.f kj2 l0_0 l0_1 a1 2).bind fun t520 => ((deaddropref1_SameTexts.f kj2 t517 t520).bind fun t523 => (if t523 = true then ((read_Count.f kj2 l0_0 l0_1 a1).bind fun t524 => ((deaddropref7_Count.f kj2 l0_0 l0_1 a1).bind fun t525 => (if t524 = t525 then ((deaddroplaw10_awake.f kj2).bind fun t526 => (some t526)) else (none)))) else (none))))) else (none)) = some r := H
     have A26 := Aside0.mk A260
     clear A260
     by_cases c27 : t516 = true
     rotate_left
     ·
      replace c27 := Bool.eq_false_iff.mpr c27
      subst c27
      have H1 : (none) = some r := by rw [if_neg (show ¬ (false = true) by decide)] at H; exact H
      clear H
      have H := H1
      clear H1
      exact absurd H (by simp)
     subst c27
     have H1 : ((read_Members.f kj2 l0_0 l0_1 a1).bind fun t517 => ((deaddropref7_Items.f kj2 l0_0 l0_1 a1 2).bind fun t520 => ((deaddropref1_SameTexts.f kj2 t517 t520).bind fun t523 => (if t523 = true then ((read_Count.f kj2 l0_0 l0_1 a1).bind fun t524 => ((deaddropref7_Count.f kj2 l0_0 l0_1 a1).bind fun t525 => (if t524 = t525 then ((deaddroplaw10_awake.f kj2).bind fun t526 => (some t526)) else (none)))) else (none))))) = some r := by rw [if_pos rfl] at H; exact H
     clear H
     have H := H1
     clear H1
     replace H := Option.bind_eq_some_iff.mp H
     obtain ⟨t517, A280, H⟩ := H
     replace H : ((deaddropref7_Items.f kj2 l0_0 l0_1 a1 2).bind fun t520 => ((deaddropref1_SameTexts.f kj2 t517 t520).bind fun t523 => (if t523 = true then ((read_Count.f kj2 l0_0 l0_1 a1).bind fun t524 => ((deaddropref7_Count.f kj2 l0_0 l0_1 a1).bind fun t525 => (if t524 = t525 then ((deaddroplaw10_awake.f kj2).bind fun t526 => (some t526)) else (none)))) else (none)))) = some r := H
     have A28 := Aside0.mk A280
     clear A280
     replace H := Option.bind_eq_some_iff.mp H
     obtain ⟨t520, A290, H⟩ := H
     replace H : ((deaddropref1_SameTexts.f kj2 t517 t520).bind fun t523 => (if t523 = true then ((read_Count.f kj2 l0_0 l0_1 a1).bind fun t524 => ((deaddropref7_Count.f kj2 l0_0 l0_1 a1).bind fun t525 => (if t524 = t525 then ((deaddroplaw10_awake.f kj2).bind fun t526 => (some t526)) else (none)))) else (none))) = some r := H
     have A29 := Aside0.mk A290
     clear A290
     replace H := Option.bind_eq_some_iff.mp H
     obtain ⟨t523, A300, H⟩ := H
     replace H : (if t523 = true then ((read_Count.f kj2 l0_0 l0_1 a1).bind fun t524 => ((deaddropref7_Count.f kj2 l0_0 l0_1 a1).bind fun t525 => (if t524 = t525 then ((deaddroplaw10_awake.f kj2).bind fun t526 => (some t526)) else (none)))) else (none)) = some r := H
     have A30 := Aside0.mk A300
     clear A300
     by_cases c31 : t523 = true
     rotate_left
     ·
      replace c31 := Bool.eq_false_iff.mpr c31
      subst c31
      have H1 : (none) = some r := by rw [if_neg (show ¬ (false = true) by decide)] at H; exact H
      clear H
      have H := H1
      clear H1
      exact absurd H (by simp)
     subst c31
     have H1 : ((read_Count.f kj2 l0_0 l0_1 a1).bind fun t524 => ((deaddropref7_Count.f kj2 l0_0 l0_1 a1).bind fun t525 => (if t524 = t525 then ((deaddroplaw10_awake.f kj2).bind fun t526 => (some t526)) else (none)))) = some r := by rw [if_pos rfl] at H; exact H
     clear H
     have H := H1
     clear H1
     replace H := Option.bind_eq_some_iff.mp H
     obtain ⟨t524, A320, H⟩ := H
     replace H : ((deaddropref7_Count.f kj2 l0_0 l0_1 a1).bind fun t525 => (if t524 = t525 then ((deaddroplaw10_awake.f kj2).bind fun t526 => (some t526)) else (none))) = some r := H
     have A32 := Aside0.mk A320
     clear A320
     replace H := Option.bind_eq_some_iff.mp H
     obtain ⟨t525, A330, H⟩ := H
     replace H : (if t524 = t525 then ((deaddroplaw10_awake.f kj2).bind fun t526 => (some t526)) else (none)) = some r := H
     have A33 := Aside0.mk A330
     clear A330
     by_cases c34 : t524 = t525
     rotate_left
     ·
      rw [if_neg c34] at H
      have c34b0 : (t524 == t525) = false := beq_eq_false_iff_ne.mpr c34
      have c34b1 : (t524 != t525) = true := bne_iff_ne.mpr c34
      exact absurd H (by simp)
     rw [if_pos c34] at H
     have c34b0 : (t524 == t525) = true := beq_iff_eq.mpr c34
     have c34b1 : (t524 != t525) = false := bne_eq_false_iff_eq.mpr c34
     clear c34
     replace H := Option.bind_eq_some_iff.mp H
     obtain ⟨t526, A350, H⟩ := H
     replace H : (some t526) = some r := H
     have A35 := Aside0.mk A350
     clear A350
     obtain rfl := Option.some.inj H
     try go_wp2
     replace BK499 := Aside0.mk (blk_drew BK499.out)
     replace HB := Aside0.mk (below_drew1 HB.out)
     refine start_ (n := 36) (S := fun w' => w'.cell? ⟨gb499, 0, none⟩ = some (.slice A0_0 l0_0.length c0_0) ∧ w'.cell? ⟨gb499, 1, none⟩ = some (.slice A0_1 l0_1.length c0_1)) (ds := []) (fl 0 36) (by kernel_rfl) rfl rfl ⟨(blk_cell BK499.out 0).trans rfl, (blk_cell BK499.out 1).trans rfl⟩ (fun hHeld => ?_); refine with_tabW deaddroplaw10_ReadAll.tab3 deaddroplaw10_ReadAll.bits3 (fun HT_ HW_ => ?_)
     generalize wc.drew = w36 at BK499 HB hHeld ⊢
     refine take_ (i := 0) (N := some 18) (v := ?_) (a' := ?_) (fl 1 36) rfl rfl (take_ofW HT_.out HW_.out (by kernel_rfl)) (fun _ _ _ h => h) (Or.inl ⟨by rfl, ?_⟩) hHeld ?_ ?_
     rotate_left
     ·
      rintro w' ⟨s0, s1⟩
      go_simp
      with_reducible rfl
     rotate_left
     ·
      simp only [Act.put, List.setIfInBounds_toArray, List.set_cons_zero, List.set_cons_succ, i64_w, i32_w]
      rfl
     refine take_ (i := 2) (N := some 20) (v := ?_) (a' := ?_) #[true, false, true, false, false, false, false, false, false, false, false, false, false, false, false, false, false, false, false, false, false, false, false, false, false, false, false, false, false, false, false, false, false, false, false, false] rfl rfl (take_ofW HT_.out HW_.out (by kernel_rfl)) (fun _ _ _ h => h) (Or.inl ⟨by rfl, ?_⟩) hHeld ?_ ?_
     rotate_left
     ·
      rintro w' ⟨s0, s1⟩
      go_simp
      with_reducible rfl
     rotate_left
     ·
      simp only [Act.put, List.setIfInBounds_toArray, List.set_cons_zero, List.set_cons_succ, i64_w, i32_w]
      rfl
     refine one_ (i := 1) (N := some 19) (fl 3 36) rfl rfl (one_of HT_.out (by kernel_rfl)) (by decide) (fun K hK => ?_)
     refine goes_ Try.func19 (by kernel_rfl) rfl #[.agg #[.slice A0_0 l0_0.length c0_0, .slice A0_1 l0_1.length c0_1]] (by rfl) rfl rfl ar_ ?_
     with_reducible refine (read_Keys.calls kj2 _ _ l0_0 _ _ l0_1 t503 _ ?side1 ?side2 ?side3 ?side4 A20.out).mono ?_
     (case side1 => exact cr (Kd.C_below HR0_0.out HB.out))
     (case side2 => exact HC0_0.out)
     (case side3 => exact cr (Kd.C_below HR0_1.out HB.out))
     (case side4 => exact HC0_1.out)
     rintro e w37 ⟨v504, rfl, ho0, hb⟩
     refine ⟨_, rfl, ?_⟩
     have HO505 := Aside0.mk (Kd.R_lower ho0 (below_size (bw1 HB.out GE499.out)))
     replace BK499 := Aside0.mk (blk_below (g := gb499) (o := .cells #[.slice A0_0 l0_0.length c0_0, .slice A0_1 l0_1.length c0_1] 28 (0, 0)) (bk BK499.out) hb)
     replace HB := Aside0.mk (below_step (bw1 HB.out GE499.out) hb)
     (try clear hb)
     (try clear hb2)
     (try clear hk)
     (try clear hi)
     (try clear ho0)
     refine hK.out _ _ ⟨(blk_cell BK499.out 0).trans rfl, (blk_cell BK499.out 1).trans rfl⟩ (fun hHeld => ?_)
     clear hK K
     refine norm_ (a' := ?_) ?_ ?_
     rotate_left
     ·
      show Act.put _ (some 19) _ = _
      simp only [Act.put, List.setIfInBounds_toArray, List.set_cons_zero, List.set_cons_succ, i64_w, i32_w]
      rfl
     refine one_ (i := 3) (N := some 21) (fl 4 36) rfl rfl (one_of HT_.out (by kernel_rfl)) (by decide) (fun K hK => ?_)
     refine goes_ Try.func20 (by kernel_rfl) rfl #[.agg #[.slice A0_0 l0_0.length c0_0, .slice A0_1 l0_1.length c0_1]] (by rfl) rfl rfl ar_ ?_
     with_reducible refine (deaddropref7_Keys.calls kj2 _ _ l0_0 _ _ l0_1 t506 _ ?side1 ?side2 ?side3 ?side4 A21.out).mono ?_
     (case side1 => exact cr (Kd.C_below HR0_0.out HB.out))
     (case side2 => exact HC0_0.out)
     (case side3 => exact cr (Kd.C_below HR0_1.out HB.out))
     (case side4 => exact HC0_1.out)
     rintro e w38 ⟨v507, rfl, ho0, hb⟩
     refine ⟨_, rfl, ?_⟩
     have HO508 := Aside0.mk (Kd.R_lower (Kd.R_new' ho0 (Kd.R_lt (rk HO505.out))) (below_size (bw1 HB.out GE499.out)))
     replace HO505 := Aside0.mk (Kd.R_elder' (rk HO505.out) (Kd.R_base ho0) hb)
     replace BK499 := Aside0.mk (blk_below (g := gb499) (o := .cells #[.slice A0_0 l0_0.length c0_0, .slice A0_1 l0_1.length c0_1] 28 (0, 0)) (bk BK499.out) hb)
     replace HB := Aside0.mk (below_step (bw1 HB.out GE499.out) hb)
     (try clear hb)
     (try clear hb2)
     (try clear hk)
     (try clear hi)
     (try clear ho0)
     obtain ⟨Ao39, co39, eo39⟩ := Kd.R_slice HO505.out
     (first | subst eo39 | (injection eo39 with f1_ f2_ f3_; have f4_ := f1_.symm; have f5_ := f3_.symm; clear f1_ f2_ f3_; subst f4_; subst f5_))
     obtain ⟨Ao40, co40, eo40⟩ := Kd.R_slice HO508.out
     (first | subst eo40 | (injection eo40 with f1_ f2_ f3_; have f4_ := f1_.symm; have f5_ := f3_.symm; clear f1_ f2_ f3_; subst f4_; subst f5_))
     refine hK.out _ _ ⟨(blk_cell BK499.out 0).trans rfl, (blk_cell BK499.out 1).trans rfl⟩ (fun hHeld => ?_)
     clear hK K
     refine norm_ (a' := ?_) ?_ ?_
     rotate_left
     ·
      show Act.put _ (some 21) _ = _
      simp only [Act.put, List.setIfInBounds_toArray, List.set_cons_zero, List.set_cons_succ, i64_w, i32_w]
      rfl
     refine one_ (i := 4) (N := some 22) (fl 5 36) rfl rfl (one_of HT_.out (by kernel_rfl)) (by decide) (fun K hK => ?_)
     refine goes_ Try.func15 (by kernel_rfl) rfl #[.slice Ao39 t503.length co39, .slice Ao40 t506.length co40] (by rfl) rfl rfl ar_ ?_
     with_reducible refine (deaddropref1_SameTexts.calls kj2 _ _ t503 _ _ t506 true _ ?side1 ?side2 ?side3 ?side4 A22.out).mono ?_
     (case side1 => exact cr (Kd.R_reads' HO505.out).2.2)
     (case side2 => exact (Kd.R_reads' HO505.out).2.1)
     (case side3 => exact cr (Kd.R_reads' HO508.out).2.2)
     (case side4 => exact (Kd.R_reads' HO508.out).2.1)
     rintro e w' ⟨rfl, ⟨nd, rfl⟩⟩
     refine ⟨_, rfl, ?_⟩
     refine hK.out _ _ ⟨(blk_cell BK499.out 0).trans rfl, (blk_cell BK499.out 1).trans rfl⟩ (fun hHeld => ?_)
     clear hK K
     refine norm_ (a' := ?_) ?_ ?_
     rotate_left
     ·
      show Act.put _ (some 22) _ = _
      simp only [Act.put, List.setIfInBounds_toArray, List.set_cons_zero, List.set_cons_succ, i64_w, i32_w]
      rfl
     refine pure_ (i := 5) (N := some 23) (fl 6 36) rfl rfl (any_of HT_.out (by kernel_rfl)) (fun _ _ _ h => h) (Or.inl ⟨by rfl, py⟩) pa ?_
     refine pure_ (i := 7) (N := some 25) #[true, true, true, true, true, true, false, true, false, false, false, false, false, false, false, false, false, false, false, false, false, false, false, false, false, false, false, false, false, false, false, false, false, false, false, false] rfl rfl (any_of HT_.out (by kernel_rfl)) (fun _ _ _ h => h) (Or.inl ⟨by rfl, py⟩) pa ?_
     refine pure_ (i := 10) (N := some 28) #[true, true, true, true, true, true, false, true, false, false, true, false, false, false, false, false, false, false, false, false, false, false, false, false, false, false, false, false, false, false, false, false, false, false, false, false] rfl rfl (any_of HT_.out (by kernel_rfl)) (fun _ _ _ h => h) (Or.inl ⟨by rfl, py⟩) pa ?_
     refine take_ (i := 6) (N := some 24) (v := ?_) (a' := ?_) #[true, true, true, true, true, true, true, true, false, false, true, false, false, false, false, false, false, false, false, false, false, false, false, false, false, false, false, false, false, false, false, false, false, false, false, false] rfl rfl (take_ofW HT_.out HW_.out (by kernel_rfl)) (fun _ _ _ h => h) (Or.inl ⟨by rfl, ?_⟩) hHeld ?_ ?_
     rotate_left
     ·
      rintro w' ⟨s0, s1⟩
      go_simp
      with_reducible rfl
     rotate_left
     ·
      simp only [Act.put, List.setIfInBounds_toArray, List.set_cons_zero, List.set_cons_succ, i64_w, i32_w]
      rfl
     refine take_ (i := 9) (N := some 27) (v := ?_) (a' := ?_) #[true, true, true, true, true, true, true, true, false, true, true, false, false, false, false, false, false, false, false, false, false, false, false, false, false, false, false, false, false, false, false, false, false, false, false, false] rfl rfl (take_ofW HT_.out HW_.out (by kernel_rfl)) (fun _ _ _ h => h) (Or.inl ⟨by rfl, ?_⟩) hHeld ?_ ?_
     rotate_left
     ·
      rintro w' ⟨s0, s1⟩
      go_simp
      with_reducible rfl
     rotate_left
     ·
      simp only [Act.put, List.setIfInBounds_toArray, List.set_cons_zero, List.set_cons_succ, i64_w, i32_w]
      rfl
     refine one_ (i := 8) (N := some 26) (fl 11 36) rfl rfl (one_of HT_.out (by kernel_rfl)) (by decide) (fun K hK => ?_)
     refine goes_ Try.func14 (by kernel_rfl) rfl #[.agg #[.slice A0_0 l0_0.length c0_0, .slice A0_1 l0_1.length c0_1], .string a1] (by rfl) rfl rfl ar_ ?_
     with_reducible refine (read_Texts.calls kj2 _ _ l0_0 _ _ l0_1 a1 t510 _ ?side1 ?side2 ?side3 ?side4 A24.out).mono ?_
     (case side1 => repeat (first | exact (Kd.C_below HR0_0.out (bw1 HB.out GE499.out)) | (with_reducible refine Kd.C_alloc ?_ _) | (with_reducible refine Kd.C_drewN ?_ _) | (with_reducible refine Kd.C_drew ?_)))
     (case side2 => exact HC0_0.out)
     (case side3 => repeat (first | exact (Kd.C_below HR0_1.out (bw1 HB.out GE499.out)) | (with_reducible refine Kd.C_alloc ?_ _) | (with_reducible refine Kd.C_drewN ?_ _) | (with_reducible refine Kd.C_drew ?_)))
     (case side4 => exact HC0_1.out)
     rintro e w41 ⟨v511, rfl, ho0, hb⟩
     refine ⟨_, rfl, ?_⟩
     have HO512 := Aside0.mk (Kd.R_lower (Kd.R_new' (Kd.R_new' ho0 (Kd.R_lt (rk HO505.out))) (Kd.R_lt (rk HO508.out))) (below_size (bw1 HB.out GE499.out)))
     replace HO505 := Aside0.mk (Kd.R_elder' (rk HO505.out) (Kd.R_base ho0) hb)
     replace HO508 := Aside0.mk (Kd.R_elder' (rk HO508.out) (Kd.R_base ho0) hb)
     replace BK499 := Aside0.mk (blk_below (g := gb499) (o := .cells #[.slice A0_0 l0_0.length c0_0, .slice A0_1 l0_1.length c0_1] 28 (0, 0)) (bk BK499.out) hb)
     replace HB := Aside0.mk (below_step (bw1 HB.out GE499.out) hb)
     (try clear hb)
     (try clear hb2)
     (try clear hk)
     (try clear hi)
     (try clear ho0)
     refine hK.out _ _ ⟨(blk_cell BK499.out 0).trans rfl, (blk_cell BK499.out 1).trans rfl⟩ (fun hHeld => ?_)
     clear hK K
     refine norm_ (a' := ?_) ?_ ?_
     rotate_left
     ·
      show Act.put _ (some 26) _ = _
      simp only [Act.put, List.setIfInBounds_toArray, List.set_cons_zero, List.set_cons_succ, i64_w, i32_w]
      rfl
     refine one_ (i := 11) (N := some 29) (fl 12 36) rfl rfl (one_of HT_.out (by kernel_rfl)) (by decide) (fun K hK => ?_)
     refine goes_ Try.func21 (by kernel_rfl) rfl #[.agg #[.slice A0_0 l0_0.length c0_0, .slice A0_1 l0_1.length c0_1], .string a1, .int .i64 1] (by rfl) rfl rfl ar_ ?_
     with_reducible refine (deaddropref7_Items.calls kj2 _ _ l0_0 _ _ l0_1 a1 1 t513 _ ?side1 ?side2 ?side3 ?side4 A25.out).mono ?_
     (case side1 => exact cr (Kd.C_below HR0_0.out HB.out))
     (case side2 => exact HC0_0.out)
     (case side3 => exact cr (Kd.C_below HR0_1.out HB.out))
     (case side4 => exact HC0_1.out)
     rintro e w42 ⟨v514, rfl, ho0, hb⟩
     refine ⟨_, rfl, ?_⟩
     have HO515 := Aside0.mk (Kd.R_lower (Kd.R_new' (Kd.R_new' (Kd.R_new' ho0 (Kd.R_lt (rk HO505.out))) (Kd.R_lt (rk HO508.out))) (Kd.R_lt (rk HO512.out))) (below_size (bw1 HB.out GE499.out)))
     replace HO505 := Aside0.mk (Kd.R_elder' (rk HO505.out) (Kd.R_base ho0) hb)
     replace HO508 := Aside0.mk (Kd.R_elder' (rk HO508.out) (Kd.R_base ho0) hb)
     replace HO512 := Aside0.mk (Kd.R_elder' (rk HO512.out) (Kd.R_base ho0) hb)
     replace BK499 := Aside0.mk (blk_below (g := gb499) (o := .cells #[.slice A0_0 l0_0.length c0_0, .slice A0_1 l0_1.length c0_1] 28 (0, 0)) (bk BK499.out) hb)
     replace HB := Aside0.mk (below_step (bw1 HB.out GE499.out) hb)
     (try clear hb)
     (try clear hb2)
     (try clear hk)
     (try clear hi)
     (try clear ho0)
     obtain ⟨Ao43, co43, eo43⟩ := Kd.R_slice HO512.out
     (first | subst eo43 | (injection eo43 with f1_ f2_ f3_; have f4_ := f1_.symm; have f5_ := f3_.symm; clear f1_ f2_ f3_; subst f4_; subst f5_))
     obtain ⟨Ao44, co44, eo44⟩ := Kd.R_slice HO515.out
     (first | subst eo44 | (injection eo44 with f1_ f2_ f3_; have f4_ := f1_.symm; have f5_ := f3_.symm; clear f1_ f2_ f3_; subst f4_; subst f5_))
     refine hK.out _ _ ⟨(blk_cell BK499.out 0).trans rfl, (blk_cell BK499.out 1).trans rfl⟩ (fun hHeld => ?_)
     clear hK K
     refine norm_ (a' := ?_) ?_ ?_
     rotate_left
     ·
      show Act.put _ (some 29) _ = _
      simp only [Act.put, List.setIfInBounds_toArray, List.set_cons_zero, List.set_cons_succ, i64_w, i32_w]
      rfl
     refine one_ (i := 12) (N := some 30) (fl 13 36) rfl rfl (one_of HT_.out (by kernel_rfl)) (by decide) (fun K hK => ?_)
     refine goes_ Try.func15 (by kernel_rfl) rfl #[.slice Ao43 t510.length co43, .slice Ao44 t513.length co44] (by rfl) rfl rfl ar_ ?_
     with_reducible refine (deaddropref1_SameTexts.calls kj2 _ _ t510 _ _ t513 true _ ?side1 ?side2 ?side3 ?side4 A26.out).mono ?_
     (case side1 => exact cr (Kd.R_reads' HO512.out).2.2)
     (case side2 => exact (Kd.R_reads' HO512.out).2.1)
     (case side3 => exact cr (Kd.R_reads' HO515.out).2.2)
     (case side4 => exact (Kd.R_reads' HO515.out).2.1)
     rintro e w' ⟨rfl, ⟨nd, rfl⟩⟩
     refine ⟨_, rfl, ?_⟩
     refine hK.out _ _ ⟨(blk_cell BK499.out 0).trans rfl, (blk_cell BK499.out 1).trans rfl⟩ (fun hHeld => ?_)
     clear hK K
     refine norm_ (a' := ?_) ?_ ?_
     rotate_left
     ·
      show Act.put _ (some 30) _ = _
      simp only [Act.put, List.setIfInBounds_toArray, List.set_cons_zero, List.set_cons_succ, i64_w, i32_w]
      rfl
     refine pure_ (i := 13) (N := some 31) (fl 14 36) rfl rfl (any_of HT_.out (by kernel_rfl)) (fun _ _ _ h => h) (Or.inl ⟨by rfl, py⟩) pa ?_
     refine pure_ (i := 14) (N := some 32) (fl 15 36) rfl rfl (any_of HT_.out (by kernel_rfl)) (fun _ _ _ h => h) (Or.inl ⟨by rfl, py⟩) pa ?_
     refine pure_ (i := 16) (N := some 34) #[true, true, true, true, true, true, true, true, true, true, true, true, true, true, true, false, true, false, false, false, false, false, false, false, false, false, false, false, false, false, false, false, false, false, false, false] rfl rfl (any_of HT_.out (by kernel_rfl)) (fun _ _ _ h => h) (Or.inl ⟨by rfl, py⟩) pa ?_
     refine pure_ (i := 19) (N := some 37) #[true, true, true, true, true, true, true, true, true, true, true, true, true, true, true, false, true, false, false, true, false, false, false, false, false, false, false, false, false, false, false, false, false, false, false, false] rfl rfl (any_of HT_.out (by kernel_rfl)) (fun _ _ _ h => h) (Or.inl ⟨by rfl, py⟩) pa ?_
     refine take_ (i := 15) (N := some 33) (v := ?_) (a' := ?_) #[true, true, true, true, true, true, true, true, true, true, true, true, true, true, true, true, true, false, false, true, false, false, false, false, false, false, false, false, false, false, false, false, false, false, false, false] rfl rfl (take_ofW HT_.out HW_.out (by kernel_rfl)) (fun _ _ _ h => h) (Or.inl ⟨by rfl, ?_⟩) hHeld ?_ ?_
     rotate_left
     ·
      rintro w' ⟨s0, s1⟩
      go_simp
      with_reducible rfl
     rotate_left
     ·
      simp only [Act.put, List.setIfInBounds_toArray, List.set_cons_zero, List.set_cons_succ, i64_w, i32_w]
      rfl
     refine take_ (i := 18) (N := some 36) (v := ?_) (a' := ?_) #[true, true, true, true, true, true, true, true, true, true, true, true, true, true, true, true, true, false, true, true, false, false, false, false, false, false, false, false, false, false, false, false, false, false, false, false] rfl rfl (take_ofW HT_.out HW_.out (by kernel_rfl)) (fun _ _ _ h => h) (Or.inl ⟨by rfl, ?_⟩) hHeld ?_ ?_
     rotate_left
     ·
      rintro w' ⟨s0, s1⟩
      go_simp
      with_reducible rfl
     rotate_left
     ·
      simp only [Act.put, List.setIfInBounds_toArray, List.set_cons_zero, List.set_cons_succ, i64_w, i32_w]
      rfl
     refine one_ (i := 17) (N := some 35) (fl 20 36) rfl rfl (one_of HT_.out (by kernel_rfl)) (by decide) (fun K hK => ?_)
     refine goes_ Try.func16 (by kernel_rfl) rfl #[.agg #[.slice A0_0 l0_0.length c0_0, .slice A0_1 l0_1.length c0_1], .string a1] (by rfl) rfl rfl ar_ ?_
     with_reducible refine (read_Members.calls kj2 _ _ l0_0 _ _ l0_1 a1 t517 _ ?side1 ?side2 ?side3 ?side4 A28.out).mono ?_
     (case side1 => repeat (first | exact (Kd.C_below HR0_0.out (bw1 HB.out GE499.out)) | (with_reducible refine Kd.C_alloc ?_ _) | (with_reducible refine Kd.C_drewN ?_ _) | (with_reducible refine Kd.C_drew ?_)))
     (case side2 => exact HC0_0.out)
     (case side3 => repeat (first | exact (Kd.C_below HR0_1.out (bw1 HB.out GE499.out)) | (with_reducible refine Kd.C_alloc ?_ _) | (with_reducible refine Kd.C_drewN ?_ _) | (with_reducible refine Kd.C_drew ?_)))
     (case side4 => exact HC0_1.out)
     rintro e w45 ⟨v518, rfl, ho0, hb⟩
     refine ⟨_, rfl, ?_⟩
     have HO519 := Aside0.mk (Kd.R_lower (Kd.R_new' (Kd.R_new' (Kd.R_new' (Kd.R_new' ho0 (Kd.R_lt (rk HO505.out))) (Kd.R_lt (rk HO508.out))) (Kd.R_lt (rk HO512.out))) (Kd.R_lt (rk HO515.out))) (below_size (bw1 HB.out GE499.out)))
     replace HO505 := Aside0.mk (Kd.R_elder' (rk HO505.out) (Kd.R_base ho0) hb)
     replace HO508 := Aside0.mk (Kd.R_elder' (rk HO508.out) (Kd.R_base ho0) hb)
     replace HO512 := Aside0.mk (Kd.R_elder' (rk HO512.out) (Kd.R_base ho0) hb)
     replace HO515 := Aside0.mk (Kd.R_elder' (rk HO515.out) (Kd.R_base ho0) hb)
     replace BK499 := Aside0.mk (blk_below (g := gb499) (o := .cells #[.slice A0_0 l0_0.length c0_0, .slice A0_1 l0_1.length c0_1] 28 (0, 0)) (bk BK499.out) hb)
     replace HB := Aside0.mk (below_step (bw1 HB.out GE499.out) hb)
     (try clear hb)
     (try clear hb2)
     (try clear hk)
     (try clear hi)
     (try clear ho0)
     refine hK.out _ _ ⟨(blk_cell BK499.out 0).trans rfl, (blk_cell BK499.out 1).trans rfl⟩ (fun hHeld => ?_)
     clear hK K
     refine norm_ (a' := ?_) ?_ ?_
     rotate_left
     ·
      show Act.put _ (some 35) _ = _
      simp only [Act.put, List.setIfInBounds_toArray, List.set_cons_zero, List.set_cons_succ, i64_w, i32_w]
      rfl
     refine one_ (i := 20) (N := some 38) (fl 21 36) rfl rfl (one_of HT_.out (by kernel_rfl)) (by decide) (fun K hK => ?_)
     refine goes_ Try.func21 (by kernel_rfl) rfl #[.agg #[.slice A0_0 l0_0.length c0_0, .slice A0_1 l0_1.length c0_1], .string a1, .int .i64 2] (by rfl) rfl rfl ar_ ?_
     with_reducible refine (deaddropref7_Items.calls kj2 _ _ l0_0 _ _ l0_1 a1 2 t520 _ ?side1 ?side2 ?side3 ?side4 A29.out).mono ?_
     (case side1 => exact cr (Kd.C_below HR0_0.out HB.out))
     (case side2 => exact HC0_0.out)
     (case side3 => exact cr (Kd.C_below HR0_1.out HB.out))
     (case side4 => exact HC0_1.out)
     rintro e w46 ⟨v521, rfl, ho0, hb⟩
     refine ⟨_, rfl, ?_⟩
     have HO522 := Aside0.mk (Kd.R_lower (Kd.R_new' (Kd.R_new' (Kd.R_new' (Kd.R_new' (Kd.R_new' ho0 (Kd.R_lt (rk HO505.out))) (Kd.R_lt (rk HO508.out))) (Kd.R_lt (rk HO512.out))) (Kd.R_lt (rk HO515.out))) (Kd.R_lt (rk HO519.out))) (below_size (bw1 HB.out GE499.out)))
     replace HO505 := Aside0.mk (Kd.R_elder' (rk HO505.out) (Kd.R_base ho0) hb)
     replace HO508 := Aside0.mk (Kd.R_elder' (rk HO508.out) (Kd.R_base ho0) hb)
     replace HO512 := Aside0.mk (Kd.R_elder' (rk HO512.out) (Kd.R_base ho0) hb)
     replace HO515 := Aside0.mk (Kd.R_elder' (rk HO515.out) (Kd.R_base ho0) hb)
     replace HO519 := Aside0.mk (Kd.R_elder' (rk HO519.out) (Kd.R_base ho0) hb)
     replace BK499 := Aside0.mk (blk_below (g := gb499) (o := .cells #[.slice A0_0 l0_0.length c0_0, .slice A0_1 l0_1.length c0_1] 28 (0, 0)) (bk BK499.out) hb)
     replace HB := Aside0.mk (below_step (bw1 HB.out GE499.out) hb)
     (try clear hb)
     (try clear hb2)
     (try clear hk)
     (try clear hi)
     (try clear ho0)
     obtain ⟨Ao47, co47, eo47⟩ := Kd.R_slice HO519.out
     (first | subst eo47 | (injection eo47 with f1_ f2_ f3_; have f4_ := f1_.symm; have f5_ := f3_.symm; clear f1_ f2_ f3_; subst f4_; subst f5_))
     obtain ⟨Ao48, co48, eo48⟩ := Kd.R_slice HO522.out
     (first | subst eo48 | (injection eo48 with f1_ f2_ f3_; have f4_ := f1_.symm; have f5_ := f3_.symm; clear f1_ f2_ f3_; subst f4_; subst f5_))
     refine hK.out _ _ ⟨(blk_cell BK499.out 0).trans rfl, (blk_cell BK499.out 1).trans rfl⟩ (fun hHeld => ?_)
     clear hK K
     refine norm_ (a' := ?_) ?_ ?_
     rotate_left
     ·
      show Act.put _ (some 38) _ = _
      simp only [Act.put, List.setIfInBounds_toArray, List.set_cons_zero, List.set_cons_succ, i64_w, i32_w]
      rfl
     refine one_ (i := 21) (N := some 39) (fl 22 36) rfl rfl (one_of HT_.out (by kernel_rfl)) (by decide) (fun K hK => ?_)
     refine goes_ Try.func15 (by kernel_rfl) rfl #[.slice Ao47 t517.length co47, .slice Ao48 t520.length co48] (by rfl) rfl rfl ar_ ?_
     with_reducible refine (deaddropref1_SameTexts.calls kj2 _ _ t517 _ _ t520 true _ ?side1 ?side2 ?side3 ?side4 A30.out).mono ?_
     (case side1 => exact cr (Kd.R_reads' HO519.out).2.2)
     (case side2 => exact (Kd.R_reads' HO519.out).2.1)
     (case side3 => exact cr (Kd.R_reads' HO522.out).2.2)
     (case side4 => exact (Kd.R_reads' HO522.out).2.1)
     rintro e w' ⟨rfl, ⟨nd, rfl⟩⟩
     refine ⟨_, rfl, ?_⟩
     refine hK.out _ _ ⟨(blk_cell BK499.out 0).trans rfl, (blk_cell BK499.out 1).trans rfl⟩ (fun hHeld => ?_)
     clear hK K
     refine norm_ (a' := ?_) ?_ ?_
     rotate_left
     ·
      show Act.put _ (some 39) _ = _
      simp only [Act.put, List.setIfInBounds_toArray, List.set_cons_zero, List.set_cons_succ, i64_w, i32_w]
      rfl
     refine pure_ (i := 22) (N := some 40) (fl 23 36) rfl rfl (any_of HT_.out (by kernel_rfl)) (fun _ _ _ h => h) (Or.inl ⟨by rfl, py⟩) pa ?_
     refine pure_ (i := 23) (N := some 41) (fl 24 36) rfl rfl (any_of HT_.out (by kernel_rfl)) (fun _ _ _ h => h) (Or.inl ⟨by rfl, py⟩) pa ?_
     refine pure_ (i := 25) (N := some 43) #[true, true, true, true, true, true, true, true, true, true, true, true, true, true, true, true, true, true, true, true, true, true, true, true, false, true, false, false, false, false, false, false, false, false, false, false] rfl rfl (any_of HT_.out (by kernel_rfl)) (fun _ _ _ h => h) (Or.inl ⟨by rfl, py⟩) pa ?_
     refine pure_ (i := 28) (N := some 46) #[true, true, true, true, true, true, true, true, true, true, true, true, true, true, true, true, true, true, true, true, true, true, true, true, false, true, false, false, true, false, false, false, false, false, false, false] rfl rfl (any_of HT_.out (by kernel_rfl)) (fun _ _ _ h => h) (Or.inl ⟨by rfl, py⟩) pa ?_
     refine take_ (i := 24) (N := some 42) (v := ?_) (a' := ?_) #[true, true, true, true, true, true, true, true, true, true, true, true, true, true, true, true, true, true, true, true, true, true, true, true, true, true, false, false, true, false, false, false, false, false, false, false] rfl rfl (take_ofW HT_.out HW_.out (by kernel_rfl)) (fun _ _ _ h => h) (Or.inl ⟨by rfl, ?_⟩) hHeld ?_ ?_
     rotate_left
     ·
      rintro w' ⟨s0, s1⟩
      go_simp
      with_reducible rfl
     rotate_left
     ·
      simp only [Act.put, List.setIfInBounds_toArray, List.set_cons_zero, List.set_cons_succ, i64_w, i32_w]
      rfl
     refine take_ (i := 27) (N := some 45) (v := ?_) (a' := ?_) #[true, true, true, true, true, true, true, true, true, true, true, true, true, true, true, true, true, true, true, true, true, true, true, true, true, true, false, true, true, false, false, false, false, false, false, false] rfl rfl (take_ofW HT_.out HW_.out (by kernel_rfl)) (fun _ _ _ h => h) (Or.inl ⟨by rfl, ?_⟩) hHeld ?_ ?_
     rotate_left
     ·
      rintro w' ⟨s0, s1⟩
      go_simp
      with_reducible rfl
     rotate_left
     ·
      simp only [Act.put, List.setIfInBounds_toArray, List.set_cons_zero, List.set_cons_succ, i64_w, i32_w]
      rfl
     refine one_ (i := 26) (N := some 44) (fl 29 36) rfl rfl (one_of HT_.out (by kernel_rfl)) (by decide) (fun K hK => ?_)
     refine goes_ Try.func10 (by kernel_rfl) rfl #[.agg #[.slice A0_0 l0_0.length c0_0, .slice A0_1 l0_1.length c0_1], .string a1] (by rfl) rfl rfl ar_ ?_
     with_reducible refine (read_Count.calls kj2 _ _ l0_0 _ _ l0_1 a1 t524 _ ?side1 ?side2 ?side3 ?side4 A32.out).mono ?_
     (case side1 => repeat (first | exact (Kd.C_below HR0_0.out (bw1 HB.out GE499.out)) | (with_reducible refine Kd.C_alloc ?_ _) | (with_reducible refine Kd.C_drewN ?_ _) | (with_reducible refine Kd.C_drew ?_)))
     (case side2 => exact HC0_0.out)
     (case side3 => repeat (first | exact (Kd.C_below HR0_1.out (bw1 HB.out GE499.out)) | (with_reducible refine Kd.C_alloc ?_ _) | (with_reducible refine Kd.C_drewN ?_ _) | (with_reducible refine Kd.C_drew ?_)))
     (case side4 => exact HC0_1.out)
     rintro e w49 ⟨rfl, hb⟩
     refine ⟨_, rfl, ?_⟩
     replace HO505 := Aside0.mk (Kd.R_below (rk HO505.out) hb)
     replace HO508 := Aside0.mk (Kd.R_below (rk HO508.out) hb)
     replace HO512 := Aside0.mk (Kd.R_below (rk HO512.out) hb)
     replace HO515 := Aside0.mk (Kd.R_below (rk HO515.out) hb)
     replace HO519 := Aside0.mk (Kd.R_below (rk HO519.out) hb)
     replace HO522 := Aside0.mk (Kd.R_below (rk HO522.out) hb)
     replace BK499 := Aside0.mk (blk_below (g := gb499) (o := .cells #[.slice A0_0 l0_0.length c0_0, .slice A0_1 l0_1.length c0_1] 28 (0, 0)) (bk BK499.out) hb)
     replace HB := Aside0.mk (below_step (bw1 HB.out GE499.out) hb)
     (try clear hb)
     (try clear hb2)
     (try clear hk)
     (try clear hi)
     refine hK.out _ _ ⟨(blk_cell BK499.out 0).trans rfl, (blk_cell BK499.out 1).trans rfl⟩ (fun hHeld => ?_)
     clear hK K
     refine norm_ (a' := ?_) ?_ ?_
     rotate_left
     ·
      show Act.put _ (some 44) _ = _
      simp only [Act.put, List.setIfInBounds_toArray, List.set_cons_zero, List.set_cons_succ, i64_w, i32_w]
      rfl
     refine one_ (i := 29) (N := some 47) (fl 30 36) rfl rfl (one_of HT_.out (by kernel_rfl)) (by decide) (fun K hK => ?_)
     refine goes_ Try.func22 (by kernel_rfl) rfl #[.agg #[.slice A0_0 l0_0.length c0_0, .slice A0_1 l0_1.length c0_1], .string a1] (by rfl) rfl rfl ar_ ?_
     with_reducible refine (deaddropref7_Count.calls kj2 _ _ l0_0 _ _ l0_1 a1 t525 _ ?side1 ?side2 ?side3 ?side4 A33.out).mono ?_
     (case side1 => exact cr (Kd.C_below HR0_0.out HB.out))
     (case side2 => exact HC0_0.out)
     (case side3 => exact cr (Kd.C_below HR0_1.out HB.out))
     (case side4 => exact HC0_1.out)
     rintro e w50 ⟨rfl, hb⟩
     refine ⟨_, rfl, ?_⟩
     replace HO505 := Aside0.mk (Kd.R_below (rk HO505.out) hb)
     replace HO508 := Aside0.mk (Kd.R_below (rk HO508.out) hb)
     replace HO512 := Aside0.mk (Kd.R_below (rk HO512.out) hb)
     replace HO515 := Aside0.mk (Kd.R_below (rk HO515.out) hb)
     replace HO519 := Aside0.mk (Kd.R_below (rk HO519.out) hb)
     replace HO522 := Aside0.mk (Kd.R_below (rk HO522.out) hb)
     replace BK499 := Aside0.mk (blk_below (g := gb499) (o := .cells #[.slice A0_0 l0_0.length c0_0, .slice A0_1 l0_1.length c0_1] 28 (0, 0)) (bk BK499.out) hb)
     replace HB := Aside0.mk (below_step (bw1 HB.out GE499.out) hb)
     (try clear hb)
     (try clear hb2)
     (try clear hk)
     (try clear hi)
     refine hK.out _ _ ⟨(blk_cell BK499.out 0).trans rfl, (blk_cell BK499.out 1).trans rfl⟩ (fun hHeld => ?_)
     clear hK K
     refine norm_ (a' := ?_) ?_ ?_
     rotate_left
     ·
      show Act.put _ (some 47) _ = _
      simp only [Act.put, List.setIfInBounds_toArray, List.set_cons_zero, List.set_cons_succ, i64_w, i32_w]
      rfl
     refine pure_ (i := 30) (N := some 48) (fl 31 36) rfl rfl (any_of HT_.out (by kernel_rfl)) (fun _ _ _ h => h) (Or.inl ⟨by rfl, py⟩) pa ?_
     refine pure_ (i := 31) (N := some 49) (fl 32 36) rfl rfl (any_of HT_.out (by kernel_rfl)) (fun _ _ _ h => h) (Or.inl ⟨by rfl, py⟩) pa ?_
     refine pure_ (i := 32) (N := some 50) (fl 33 36) rfl rfl (any_of HT_.out (by kernel_rfl)) (fun _ _ _ h => h) (Or.inl ⟨by rfl, py⟩) pa ?_
     refine one_ (i := 33) (N := some 51) (fl 34 36) rfl rfl (one_of HT_.out (by kernel_rfl)) (by decide) (fun K hK => ?_)
     refine goes_ Try.func11 (by kernel_rfl) rfl #[] (by rfl) rfl rfl ar_ ?_
     with_reducible refine (deaddroplaw10_awake.calls kj2  t526 _ A35.out).mono ?_
     rintro e w51 ⟨rfl, hb⟩
     refine ⟨_, rfl, ?_⟩
     replace HO505 := Aside0.mk (Kd.R_below (rk HO505.out) hb)
     replace HO508 := Aside0.mk (Kd.R_below (rk HO508.out) hb)
     replace HO512 := Aside0.mk (Kd.R_below (rk HO512.out) hb)
     replace HO515 := Aside0.mk (Kd.R_below (rk HO515.out) hb)
     replace HO519 := Aside0.mk (Kd.R_below (rk HO519.out) hb)
     replace HO522 := Aside0.mk (Kd.R_below (rk HO522.out) hb)
     replace BK499 := Aside0.mk (blk_below (g := gb499) (o := .cells #[.slice A0_0 l0_0.length c0_0, .slice A0_1 l0_1.length c0_1] 28 (0, 0)) (bk BK499.out) hb)
     replace HB := Aside0.mk (below_step (bw1 HB.out GE499.out) hb)
     (try clear hb)
     (try clear hb2)
     (try clear hk)
     (try clear hi)
     refine hK.out _ _ ⟨(blk_cell BK499.out 0).trans rfl, (blk_cell BK499.out 1).trans rfl⟩ (fun hHeld => ?_)
     clear hK K
     refine norm_ (a' := ?_) ?_ ?_
     rotate_left
     ·
      show Act.put _ (some 51) _ = _
      simp only [Act.put, List.setIfInBounds_toArray, List.set_cons_zero, List.set_cons_succ, i64_w, i32_w]
      rfl
     refine pure_ (i := 34) (N := some 52) (fl 35 36) rfl rfl (any_of HT_.out (by kernel_rfl)) (fun _ _ _ h => h) (Or.inl ⟨by rfl, py⟩) pa ?_
     refine pure_ (i := 35) (N := some 4) (fl 36 36) rfl rfl (any_of HT_.out (by kernel_rfl)) (fun _ _ _ h => h) (Or.inl ⟨by rfl, py⟩) pa ?_
     refine done_ (done_of HT_.out (by kernel_rfl)) ?_
     try go_wp2
     go_ret
     exact ⟨by first | rfl | (simp [errW_none, errW_some] <;> rfl) | (simp [*, errW_none, errW_some] <;> rfl), by repeat (first | (with_reducible first | exact HB.out | apply below_alloc | apply pw_below_drewN | apply below_drew1 | refine below_set ?_ GE499.out) | exact HB.out)⟩
    ·
     replace c23 := Bool.eq_false_iff.mpr c23
     subst c23
     have H1 : (none) = some r := by rw [if_neg (show ¬ (false = true) by decide)] at H; exact H
     clear H
     have H := H1
     clear H1
     exact absurd H (by simp)

end Go.Proofs.Ytaonemedoikieaa.Q
