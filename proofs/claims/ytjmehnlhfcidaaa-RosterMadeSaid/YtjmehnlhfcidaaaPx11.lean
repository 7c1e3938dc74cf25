-- Written by a program of this work (wip/tools/mkprint.py) over the kit's print; Lean checks it.
import Derived.Test.YtjmehnlhfcidaaaPx0
import Derived.Test.YtjmehnlhfcidaaaPx1
import Derived.Test.YtjmehnlhfcidaaaPx2
import Derived.Test.YtjmehnlhfcidaaaPx9
import Derived.Test.YtjmehnlhfcidaaaPx10
namespace Go.Proofs.Ytjmehnlhfcidaaa.P
open Go.RowKit Go.Proofs.YtjmehnlhfcidaaaW.PrintWords Go.Proofs.YtjmehnlhfcidaaaW.PrintLast Go.Proofs.YtjmehnlhfcidaaaW.PrintMore Go.Proofs.Ytjmehnlhfcidaaa.HW
attribute [local go_sem] max2_int min2_int max_two min_two max_three min_three max_four min_four   -- for this text's walks alone
set_option linter.unusedVariables false
set_option linter.unusedSimpArgs false

/-! ### deaddroplaw16_RosterMade: function 4 -/
mutual
def deaddroplaw16_RosterMade.l0 : Nat → List (S32) → Int → Int → Option (Bool)
 | 0, _, _, _ => none
 | k + 1, x5, x6, x7 => if x7 < 8 then ((roster_In.f k x5 x6 x7).bind fun t265 => ((roster_In.f k x5 (wrap64 (x6 + 1)) x7).bind fun t266 => (if 0 ≤ x6 then (if x6 < (x5.length : Int) then (if ((rd_T32 x5 x6).f3) = x7 then (if (t266 != (((rd_T32 x5 x6).f2) == 1)) = true then (deaddroplaw16_RosterMade.j1 k x5 x6 x7 t266 true) else (deaddroplaw16_RosterMade.j1 k x5 x6 x7 t266 false)) else (deaddroplaw16_RosterMade.j1 k x5 x6 x7 t266 (t265 != t266))) else (none)) else (none)))) else ((roster_Members.f x5 0).bind fun t279 => (if (t279.length : Int) = 0 then ((deaddroplaw16_awake.f k).bind fun t282 => (some t282)) else (some false)))
def deaddroplaw16_RosterMade.j1 : Nat → List (S32) → Int → Int → Bool → Bool → Option (Bool)
 | 0, _, _, _, _, _ => none
 | k + 1, x5, x6, x7, x9, x63 => if x63 = true then (some false) else ((roster_Members.f x5 (wrap64 (x6 + 1))).bind fun t271 => (deaddroplaw16_RosterMade.l1 k x5 x6 x7 x9 false t271 0))
def deaddroplaw16_RosterMade.l1 : Nat → List (S32) → Int → Int → Bool → Bool → List Int → Int → Option (Bool)
 | 0, _, _, _, _, _, _, _ => none
 | k + 1, x5, x6, x7, x9, x10, x11, x12 => if x12 < (x11.length : Int) then (if x10 = true then (if x12 > 0 then (if 0 ≤ (wrap64 (x12 - 1)) then (if (wrap64 (x12 - 1)) < (x11.length : Int) then (if 0 ≤ x12 then (if (rd x11 (wrap64 (x12 - 1))) ≥ (rd x11 x12) then (some false) else (deaddroplaw16_RosterMade.l1 k x5 x6 x7 x9 true x11 (wrap64 (x12 + 1)))) else (none)) else (none)) else (none)) else (deaddroplaw16_RosterMade.l1 k x5 x6 x7 x9 true x11 (wrap64 (x12 + 1)))) else (if 0 ≤ x12 then (if x12 > 0 then (if 0 ≤ (wrap64 (x12 - 1)) then (if (wrap64 (x12 - 1)) < (x11.length : Int) then (if (rd x11 (wrap64 (x12 - 1))) ≥ (rd x11 x12) then (some false) else (deaddroplaw16_RosterMade.l1 k x5 x6 x7 x9 ((rd x11 x12) == x7) x11 (wrap64 (x12 + 1)))) else (none)) else (none)) else (deaddroplaw16_RosterMade.l1 k x5 x6 x7 x9 ((rd x11 x12) == x7) x11 (wrap64 (x12 + 1)))) else (none))) else (if (x10 != x9) = true then (some false) else (deaddroplaw16_RosterMade.l0 k x5 x6 (wrap64 (x7 + 1))))
end
def deaddroplaw16_RosterMade.f (k : Nat) (l0 : List Int) (a1 : Int) : Option (Bool) := (deaddroplaw15_Chain.f k l0).bind fun t262 => (if (t262.length : Int) = 0 then (none) else (deaddroplaw16_RosterMade.l0 k t262 (Int.tmod (wrap64 (a1)) (t262.length : Int)) 0))
theorem deaddroplaw16_RosterMade.mono_l : ∀ k, (∀ y0 y1 y2, LeO (deaddroplaw16_RosterMade.l0 k y0 y1 y2) (deaddroplaw16_RosterMade.l0 (k + 1) y0 y1 y2)) ∧ (∀ y0 y1 y2 y3 y4, LeO (deaddroplaw16_RosterMade.j1 k y0 y1 y2 y3 y4) (deaddroplaw16_RosterMade.j1 (k + 1) y0 y1 y2 y3 y4)) ∧ (∀ y0 y1 y2 y3 y4 y5 y6, LeO (deaddroplaw16_RosterMade.l1 k y0 y1 y2 y3 y4 y5 y6) (deaddroplaw16_RosterMade.l1 (k + 1) y0 y1 y2 y3 y4 y5 y6))
 | 0 => ⟨fun _ _ _ r h => by simp [deaddroplaw16_RosterMade.l0] at h, fun _ _ _ _ _ r h => by simp [deaddroplaw16_RosterMade.j1] at h, fun _ _ _ _ _ _ _ r h => by simp [deaddroplaw16_RosterMade.l1] at h⟩
 | k + 1 => by
  obtain ⟨ih0, ih1, ih2⟩ := deaddroplaw16_RosterMade.mono_l k
  refine ⟨?_, ?_, ?_⟩
  ·
   intro y0 y1 y2
   unfold deaddroplaw16_RosterMade.l0
   repeat' first
   | (with_reducible exact ih0 _ _ _)
   | (with_reducible exact ih1 _ _ _ _ _)
   | (with_reducible exact ih2 _ _ _ _ _ _ _)
   | (with_reducible exact deaddroplaw15_Chain.mono _ _)
   | (with_reducible exact deaddroplaw16_awake.mono _)
   | (with_reducible exact roster_In.mono _ _ _ _)
   | (with_reducible exact LeO.refl _)
   | (with_reducible exact LeO.none _)
   | (with_reducible refine LeO.ite ?_ ?_)
   | (with_reducible refine LeO.bind ?_ (fun _ => ?_))
   | exact ih0 _ _ _
   | exact ih1 _ _ _ _ _
   | exact ih2 _ _ _ _ _ _ _
   | exact deaddroplaw15_Chain.mono _ _
   | exact deaddroplaw16_awake.mono _
   | exact roster_In.mono _ _ _ _
   | exact LeO.none _
   | refine LeO.ite ?_ ?_
   | refine LeO.bind ?_ (fun _ => ?_)
  ·
   intro y0 y1 y2 y3 y4
   unfold deaddroplaw16_RosterMade.j1
   repeat' first
   | (with_reducible exact ih0 _ _ _)
   | (with_reducible exact ih1 _ _ _ _ _)
   | (with_reducible exact ih2 _ _ _ _ _ _ _)
   | (with_reducible exact deaddroplaw15_Chain.mono _ _)
   | (with_reducible exact deaddroplaw16_awake.mono _)
   | (with_reducible exact roster_In.mono _ _ _ _)
   | (with_reducible exact LeO.refl _)
   | (with_reducible exact LeO.none _)
   | (with_reducible refine LeO.ite ?_ ?_)
   | (with_reducible refine LeO.bind ?_ (fun _ => ?_))
   | exact ih0 _ _ _
   | exact ih1 _ _ _ _ _
   | exact ih2 _ _ _ _ _ _ _
   | exact deaddroplaw15_Chain.mono _ _
   | exact deaddroplaw16_awake.mono _
   | exact roster_In.mono _ _ _ _
   | exact LeO.none _
   | refine LeO.ite ?_ ?_
   | refine LeO.bind ?_ (fun _ => ?_)
  ·
   intro y0 y1 y2 y3 y4 y5 y6
   unfold deaddroplaw16_RosterMade.l1
   repeat' first
   | (with_reducible exact ih0 _ _ _)
   | (with_reducible exact ih1 _ _ _ _ _)
   | (with_reducible exact ih2 _ _ _ _ _ _ _)
   | (with_reducible exact deaddroplaw15_Chain.mono _ _)
   | (with_reducible exact deaddroplaw16_awake.mono _)
   | (with_reducible exact roster_In.mono _ _ _ _)
   | (with_reducible exact LeO.refl _)
   | (with_reducible exact LeO.none _)
   | (with_reducible refine LeO.ite ?_ ?_)
   | (with_reducible refine LeO.bind ?_ (fun _ => ?_))
   | exact ih0 _ _ _
   | exact ih1 _ _ _ _ _
   | exact ih2 _ _ _ _ _ _ _
   | exact deaddroplaw15_Chain.mono _ _
   | exact deaddroplaw16_awake.mono _
   | exact roster_In.mono _ _ _ _
   | exact LeO.none _
   | refine LeO.ite ?_ ?_
   | refine LeO.bind ?_ (fun _ => ?_)
theorem deaddroplaw16_RosterMade.mono : ∀ a0 a1 k, LeO (deaddroplaw16_RosterMade.f k a0 a1) (deaddroplaw16_RosterMade.f (k + 1) a0 a1) := by
 intro a0 a1 k
 obtain ⟨ih0, ih1, ih2⟩ := deaddroplaw16_RosterMade.mono_l k
 unfold deaddroplaw16_RosterMade.f
 repeat' first
  | (with_reducible exact ih0 _ _ _)
  | (with_reducible exact ih1 _ _ _ _ _)
  | (with_reducible exact ih2 _ _ _ _ _ _ _)
  | (with_reducible exact deaddroplaw15_Chain.mono _ _)
  | (with_reducible exact deaddroplaw16_awake.mono _)
  | (with_reducible exact roster_In.mono _ _ _ _)
  | (with_reducible exact LeO.refl _)
  | (with_reducible exact LeO.none _)
  | (with_reducible refine LeO.ite ?_ ?_)
  | (with_reducible refine LeO.bind ?_ (fun _ => ?_))
  | exact ih0 _ _ _
  | exact ih1 _ _ _ _ _
  | exact ih2 _ _ _ _ _ _ _
  | exact deaddroplaw15_Chain.mono _ _
  | exact deaddroplaw16_awake.mono _
  | exact roster_In.mono _ _ _ _
  | exact LeO.none _
  | refine LeO.ite ?_ ?_
  | refine LeO.bind ?_ (fun _ => ?_)
set_option maxHeartbeats 8000000 in
set_option maxRecDepth 100000 in
theorem deaddroplaw16_RosterMade.calls (k : Nat) (A0 : Option Addr) (c0 : Nat) (l0 : List Int) (a1 : Int) (r : Bool) (w : World) (hr0 : Kd.C (Kd.int .u8) w A0 l0.length l0) (hc0 : l0.length ≤ c0) (h : deaddroplaw16_RosterMade.f k l0 a1 = some r) :
 Calls Try.prog 4 #[.slice A0 l0.length c0, .int .u8 a1] w fun e w' => e = .returned (.bool r) ∧ Below w.heap.size w w' := by
 have HR0 := Aside0.mk hr0
 have HC0 := Aside0.mk hc0
 clear hr0 hc0
 have HB := Aside0.mk (Below.refl w.heap.size w)
 have H : ((deaddroplaw15_Chain.f k l0).bind fun t262 => (if (t262.length : Int) = 0 then (none) else (deaddroplaw16_RosterMade.l0 k t262 (Int.tmod (wrap64 (a1)) (t262.length : Int)) 0))) = some r := h
 clear h
 replace H := Option.bind_eq_some_iff.mp H
 obtain ⟨t262, A30, H⟩ := H
 replace H : (if (t262.length : Int) = 0 then (none) else (deaddroplaw16_RosterMade.l0 k t262 (Int.tmod (wrap64 (a1)) (t262.length : Int)) 0)) = some r := H
 have A3 := Aside0.mk A30
 clear A30
 by_cases c4 : (t262.length : Int) = 0
 ·
  rw [if_pos c4] at H
  exact absurd H (by simp)
 ·
  rw [if_neg c4] at H
  have c4b0 : ((t262.length : Int) == 0) = false := beq_eq_false_iff_ne.mpr c4
  have c4b1 : ((t262.length : Int) != 0) = true := bne_iff_ne.mpr c4
  have c4b2 : ¬ (t262 = []) := fun h_ => c4 (by rw [h_]; rfl)
  have H' := Aside0.mk H
  clear H
  go_enter Try.func4, Try.ntmps4
  go_wp2_with (first | (go_at_call 12; (with_reducible refine (deaddroplaw15_Chain.calls k _ _ l0 t262 _ ?side1 ?side2 A3.out).mono ?_); (case side1 => repeat (first | exact HR0.out | (with_reducible refine Kd.C_alloc ?_ _) | (with_reducible refine Kd.C_drewN ?_ _) | (with_reducible refine Kd.C_drew ?_))); (case side2 => exact HC0.out); rintro e w5 ⟨v263, rfl, ho0, hb⟩; have n0_ := Aside0.mk (Kd.S_lower ho0 (below_size (by repeat (first | (with_reducible first | exact HB.out | apply below_alloc | apply pw_below_drewN | apply below_drew1) | exact HB.out)))); have n1_ := Aside0.mk (below_step (by repeat (first | (with_reducible first | exact HB.out | apply below_alloc | apply pw_below_drewN | apply below_drew1) | exact HB.out)) hb); clear HB; have HO264 := n0_; have HB := n1_; clear n0_ n1_; (try clear hb); (try clear hb2); (try clear hk); (try clear hi); (try clear ho0); obtain ⟨Ao6, co6, eo6⟩ := Kd.S_slice HO264.out; subst eo6))
  repeat (go_quiet (first | (go_at_call 12; (with_reducible refine (deaddroplaw15_Chain.calls k _ _ l0 t262 _ ?side1 ?side2 A3.out).mono ?_); (case side1 => repeat (first | exact HR0.out | (with_reducible refine Kd.C_alloc ?_ _) | (with_reducible refine Kd.C_drewN ?_ _) | (with_reducible refine Kd.C_drew ?_))); (case side2 => exact HC0.out); rintro e w5 ⟨v263, rfl, ho0, hb⟩; have n0_ := Aside0.mk (Kd.S_lower ho0 (below_size (by repeat (first | (with_reducible first | exact HB.out | apply below_alloc | apply pw_below_drewN | apply below_drew1) | exact HB.out)))); have n1_ := Aside0.mk (below_step (by repeat (first | (with_reducible first | exact HB.out | apply below_alloc | apply pw_below_drewN | apply below_drew1) | exact HB.out)) hb); clear HB; have HO264 := n0_; have HB := n1_; clear n0_ n1_; (try clear hb); (try clear hb2); (try clear hk); (try clear hi); (try clear ho0); obtain ⟨Ao6, co6, eo6⟩ := Kd.S_slice HO264.out; subst eo6)); try go_wp2_with (first | (go_at_call 12; (with_reducible refine (deaddroplaw15_Chain.calls k _ _ l0 t262 _ ?side1 ?side2 A3.out).mono ?_); (case side1 => repeat (first | exact HR0.out | (with_reducible refine Kd.C_alloc ?_ _) | (with_reducible refine Kd.C_drewN ?_ _) | (with_reducible refine Kd.C_drew ?_))); (case side2 => exact HC0.out); rintro e w5 ⟨v263, rfl, ho0, hb⟩; have n0_ := Aside0.mk (Kd.S_lower ho0 (below_size (by repeat (first | (with_reducible first | exact HB.out | apply below_alloc | apply pw_below_drewN | apply below_drew1) | exact HB.out)))); have n1_ := Aside0.mk (below_step (by repeat (first | (with_reducible first | exact HB.out | apply below_alloc | apply pw_below_drewN | apply below_drew1) | exact HB.out)) hb); clear HB; have HO264 := n0_; have HB := n1_; clear n0_ n1_; (try clear hb); (try clear hb2); (try clear hk); (try clear hi); (try clear ho0); obtain ⟨Ao6, co6, eo6⟩ := Kd.S_slice HO264.out; subst eo6)))
  go_loopg [7] k (fun kq v7 w' => ∃ (x7_1 : Int), v7 = .int .i64 x7_1 ∧ Aside0 (deaddroplaw16_RosterMade.l0 kq t262 (Int.tmod (wrap64 (a1)) (t262.length : Int)) x7_1 = some r) ∧ Aside0 (kq ≤ k) ∧ Aside0 (Kd.S k32 32 w' w.heap.size (fun _ => True) (.slice Ao6 t262.length co6) t262) ∧ Aside0 (Below w.heap.size w w'))
  case atStart => exact ⟨(0), (by first | rfl | (simp; done) | (simp [*]; done) | (simp; exact isEmpty_bne_ _)), H', ⟨Nat.le_refl _⟩, ⟨by (with_reducible repeat (first | apply Kd.S_alloc | apply Kd.S_drewN | apply Kd.S_drew)); exact HO264.out⟩, ⟨by repeat (first | (with_reducible first | exact HB.out | apply below_alloc | apply pw_below_drewN | apply below_drew1) | exact HB.out)⟩⟩
  case round =>
   clear H'
   try clear p2
   try clear c4
   try clear c4b0
   try clear c4b1
   try clear c4b2
   try clear p6
   obtain ⟨x7_1, rfl, HA, HK1, HO_5, HB⟩ := hrel
   cases gk with
   | zero => exact absurd HA.out (by simp [deaddroplaw16_RosterMade.l0])
   | succ k1 =>
    have H := HA.out
    clear HA
    simp only [deaddroplaw16_RosterMade.l0] at H
    by_cases c7 : x7_1 < 8
    ·
     rw [if_pos c7] at H
     have c7b0 : decide (x7_1 < 8) = true := decide_eq_true c7
     clear c7
     replace H := Option.bind_eq_some_iff.mp H
     obtain ⟨t265, A80, H⟩ := H
     replace H : ((roster_In.f k1 t262 (wrap64 ((Int.tmod (wrap64 (a1)) (t262.length : Int)) + 1)) x7_1).bind fun t266 => (if 0 ≤ (Int.tmod (wrap64 (a1)) (t262.length : Int)) then (if (Int.tmod (wrap64 (a1)) (t262.length : Int)) < (t262.length : Int) then (if ((rd_T32 t262 (Int.tmod (wrap64 (a1)) (t262.length : Int))).f3) = x7_1 then (if (t266 != (((rd_T32 t262 (Int.tmod (wrap64 (a1)) (t262.length : Int))).f2) == 1)) = true then (deaddroplaw16_RosterMade.j1 k1 t262 (Int.tmod (wrap64 (a1)) (t262.length : Int)) x7_1 t266 true) else (deaddroplaw16_RosterMade.j1 k1 t262 (Int.tmod (wrap64 (a1)) (t262.length : Int)) x7_1 t266 false)) else (deaddroplaw16_RosterMade.j1 k1 t262 (Int.tmod (wrap64 (a1)) (t262.length : Int)) x7_1 t266 (t265 != t266))) else (none)) else (none))) = some r := H
     have A8 := Aside0.mk A80
     clear A80
     replace H := Option.bind_eq_some_iff.mp H
     obtain ⟨t266, A90, H⟩ := H
     replace H : (if 0 ≤ (Int.tmod (wrap64 (a1)) (t262.length : Int)) then (if (Int.tmod (wrap64 (a1)) (t262.length : Int)) < (t262.length : Int) then (if ((rd_T32 t262 (Int.tmod (wrap64 (a1)) (t262.length : Int))).f3) = x7_1 then (if (t266 != (((rd_T32 t262 (Int.tmod (wrap64 (a1)) (t262.length : Int))).f2) == 1)) = true then (deaddroplaw16_RosterMade.j1 k1 t262 (Int.tmod (wrap64 (a1)) (t262.length : Int)) x7_1 t266 true) else (deaddroplaw16_RosterMade.j1 k1 t262 (Int.tmod (wrap64 (a1)) (t262.length : Int)) x7_1 t266 false)) else (deaddroplaw16_RosterMade.j1 k1 t262 (Int.tmod (wrap64 (a1)) (t262.length : Int)) x7_1 t266 (t265 != t266))) else (none)) else (none)) = some r := H
     have A9 := Aside0.mk A90
     clear A90
     have HC10 := Aside0.mk H
     clear H
     go_upto_region 7 with (first | (go_at_call 9; (with_reducible refine (roster_In.calls k1 _ _ t262 (Int.tmod (wrap64 (a1)) (t262.length : Int)) x7_1 t265 _ ?side1 ?side2 A8.out).mono ?_); (case side1 => repeat (first | exact (Kd.S_reads' HO_5.out).2.2 | (with_reducible refine Kd.C_alloc ?_ _) | (with_reducible refine Kd.C_drewN ?_ _) | (with_reducible refine Kd.C_drew ?_))); (case side2 => exact (Kd.S_reads' HO_5.out).2.1); rintro e w11 ⟨rfl, hb⟩; have n0_ := Aside0.mk (Kd.S_below (by (with_reducible repeat (first | apply Kd.S_alloc | apply Kd.S_drewN | apply Kd.S_drew)); exact HO_5.out) hb); have n1_ := Aside0.mk (below_step (by repeat (first | (with_reducible first | exact HB.out | apply below_alloc | apply pw_below_drewN | apply below_drew1) | exact HB.out)) hb); clear HO_5; clear HB; have HO_5 := n0_; have HB := n1_; clear n0_ n1_; (try clear hb); (try clear hb2); (try clear hk); (try clear hi)) | (go_at_call 9; (with_reducible refine (roster_In.calls k1 _ _ t262 (wrap64 ((Int.tmod (wrap64 (a1)) (t262.length : Int)) + 1)) x7_1 t266 _ ?side1 ?side2 A9.out).mono ?_); (case side1 => repeat (first | exact (Kd.S_reads' HO_5.out).2.2 | (with_reducible refine Kd.C_alloc ?_ _) | (with_reducible refine Kd.C_drewN ?_ _) | (with_reducible refine Kd.C_drew ?_))); (case side2 => exact (Kd.S_reads' HO_5.out).2.1); rintro e w12 ⟨rfl, hb⟩; have n0_ := Aside0.mk (Kd.S_below (by (with_reducible repeat (first | apply Kd.S_alloc | apply Kd.S_drewN | apply Kd.S_drew)); exact HO_5.out) hb); have n1_ := Aside0.mk (below_step (by repeat (first | (with_reducible first | exact HB.out | apply below_alloc | apply pw_below_drewN | apply below_drew1) | exact HB.out)) hb); clear HO_5; clear HB; have HO_5 := n0_; have HB := n1_; clear n0_ n1_; (try clear hb); (try clear hb2); (try clear hk); (try clear hi)))
     repeat (go_quiet (first | (go_at_call 9; (with_reducible refine (roster_In.calls k1 _ _ t262 (Int.tmod (wrap64 (a1)) (t262.length : Int)) x7_1 t265 _ ?side1 ?side2 A8.out).mono ?_); (case side1 => repeat (first | exact (Kd.S_reads' HO_5.out).2.2 | (with_reducible refine Kd.C_alloc ?_ _) | (with_reducible refine Kd.C_drewN ?_ _) | (with_reducible refine Kd.C_drew ?_))); (case side2 => exact (Kd.S_reads' HO_5.out).2.1); rintro e w11 ⟨rfl, hb⟩; have n0_ := Aside0.mk (Kd.S_below (by (with_reducible repeat (first | apply Kd.S_alloc | apply Kd.S_drewN | apply Kd.S_drew)); exact HO_5.out) hb); have n1_ := Aside0.mk (below_step (by repeat (first | (with_reducible first | exact HB.out | apply below_alloc | apply pw_below_drewN | apply below_drew1) | exact HB.out)) hb); clear HO_5; clear HB; have HO_5 := n0_; have HB := n1_; clear n0_ n1_; (try clear hb); (try clear hb2); (try clear hk); (try clear hi)) | (go_at_call 9; (with_reducible refine (roster_In.calls k1 _ _ t262 (wrap64 ((Int.tmod (wrap64 (a1)) (t262.length : Int)) + 1)) x7_1 t266 _ ?side1 ?side2 A9.out).mono ?_); (case side1 => repeat (first | exact (Kd.S_reads' HO_5.out).2.2 | (with_reducible refine Kd.C_alloc ?_ _) | (with_reducible refine Kd.C_drewN ?_ _) | (with_reducible refine Kd.C_drew ?_))); (case side2 => exact (Kd.S_reads' HO_5.out).2.1); rintro e w12 ⟨rfl, hb⟩; have n0_ := Aside0.mk (Kd.S_below (by (with_reducible repeat (first | apply Kd.S_alloc | apply Kd.S_drewN | apply Kd.S_drew)); exact HO_5.out) hb); have n1_ := Aside0.mk (below_step (by repeat (first | (with_reducible first | exact HB.out | apply below_alloc | apply pw_below_drewN | apply below_drew1) | exact HB.out)) hb); clear HO_5; clear HB; have HO_5 := n0_; have HB := n1_; clear n0_ n1_; (try clear hb); (try clear hb2); (try clear hk); (try clear hi))); go_upto_region 7 with (first | (go_at_call 9; (with_reducible refine (roster_In.calls k1 _ _ t262 (Int.tmod (wrap64 (a1)) (t262.length : Int)) x7_1 t265 _ ?side1 ?side2 A8.out).mono ?_); (case side1 => repeat (first | exact (Kd.S_reads' HO_5.out).2.2 | (with_reducible refine Kd.C_alloc ?_ _) | (with_reducible refine Kd.C_drewN ?_ _) | (with_reducible refine Kd.C_drew ?_))); (case side2 => exact (Kd.S_reads' HO_5.out).2.1); rintro e w11 ⟨rfl, hb⟩; have n0_ := Aside0.mk (Kd.S_below (by (with_reducible repeat (first | apply Kd.S_alloc | apply Kd.S_drewN | apply Kd.S_drew)); exact HO_5.out) hb); have n1_ := Aside0.mk (below_step (by repeat (first | (with_reducible first | exact HB.out | apply below_alloc | apply pw_below_drewN | apply below_drew1) | exact HB.out)) hb); clear HO_5; clear HB; have HO_5 := n0_; have HB := n1_; clear n0_ n1_; (try clear hb); (try clear hb2); (try clear hk); (try clear hi)) | (go_at_call 9; (with_reducible refine (roster_In.calls k1 _ _ t262 (wrap64 ((Int.tmod (wrap64 (a1)) (t262.length : Int)) + 1)) x7_1 t266 _ ?side1 ?side2 A9.out).mono ?_); (case side1 => repeat (first | exact (Kd.S_reads' HO_5.out).2.2 | (with_reducible refine Kd.C_alloc ?_ _) | (with_reducible refine Kd.C_drewN ?_ _) | (with_reducible refine Kd.C_drew ?_))); (case side2 => exact (Kd.S_reads' HO_5.out).2.1); rintro e w12 ⟨rfl, hb⟩; have n0_ := Aside0.mk (Kd.S_below (by (with_reducible repeat (first | apply Kd.S_alloc | apply Kd.S_drewN | apply Kd.S_drew)); exact HO_5.out) hb); have n1_ := Aside0.mk (below_step (by repeat (first | (with_reducible first | exact HB.out | apply below_alloc | apply pw_below_drewN | apply below_drew1) | exact HB.out)) hb); clear HO_5; clear HB; have HO_5 := n0_; have HB := n1_; clear n0_ n1_; (try clear hb); (try clear hb2); (try clear hk); (try clear hi))))
     (try simp only [Act.put, List.setIfInBounds_toArray, List.set_cons_zero, List.set_cons_succ])
     go_cut [63] (fun v63 wc => ∃ (kq : Nat) (x63_9 : Bool), v63 = .bool x63_9 ∧ Aside0 (deaddroplaw16_RosterMade.j1 kq t262 (Int.tmod (wrap64 (a1)) (t262.length : Int)) x7_1 t266 x63_9 = some r) ∧ Aside0 (kq ≤ k1) ∧ Aside0 (Kd.S k32 32 wc w.heap.size (fun _ => True) (.slice Ao6 t262.length co6) t262) ∧ Aside0 (Below w.heap.size w wc))
     case first =>
      have H := HC10.out
      clear HC10
      obtain ⟨ji13, hji13⟩ : ∃ j_ : Int, (Int.tmod (wrap64 (a1)) (t262.length : Int)) = j_ := ⟨_, rfl⟩
      replace H : (if 0 ≤ (ji13) then (if (ji13) < (t262.length : Int) then (if ((rd_T32 t262 (ji13)).f3) = x7_1 then (if (t266 != (((rd_T32 t262 (ji13)).f2) == 1)) = true then (deaddroplaw16_RosterMade.j1 k1 t262 (ji13) x7_1 t266 true) else (deaddroplaw16_RosterMade.j1 k1 t262 (ji13) x7_1 t266 false)) else (deaddroplaw16_RosterMade.j1 k1 t262 (ji13) x7_1 t266 (t265 != t266))) else (none)) else (none)) = some r := by first | (rw [hji13] at H; exact H) | (simp only [hji13] at H ⊢; exact H)
      by_cases c14 : 0 ≤ (ji13)
      ·
       rw [if_pos c14] at H
       have c14b0 : decide (0 ≤ (ji13)) = true := decide_eq_true c14
       clear c14
       (first | rw [c14b0] | (simp only [i64_w, i32_w]; rw [c14b0]) | skip)
       by_cases c15 : (ji13) < (t262.length : Int)
       ·
        rw [if_pos c15] at H
        have c15b0 : decide ((ji13) < (t262.length : Int)) = true := decide_eq_true c15
        clear c15
        by_cases c16 : ((rd_T32 t262 (ji13)).f3) = x7_1
        ·
         rw [if_pos c16] at H
         have c16b0 : (((rd_T32 t262 (ji13)).f3) == x7_1) = true := beq_iff_eq.mpr c16
         have c16b1 : (((rd_T32 t262 (ji13)).f3) != x7_1) = false := bne_eq_false_iff_eq.mpr c16
         clear c16
         by_cases c17 : (t266 != (((rd_T32 t262 (ji13)).f2) == 1)) = true
         ·
          rw [if_pos c17] at H
          have c17b0 : (t266 != (((rd_T32 t262 (ji13)).f2) == 1)) = true := c17
          (try (have c17b1 : decide (t266 = (((rd_T32 t262 (ji13)).f2) == 1)) = false := by simpa using c17))
          (try (have c17b2 : (t266 == (((rd_T32 t262 (ji13)).f2) == 1)) = false := by simpa using c17))
          (try (have c17b3 : ¬ (t266 = (((rd_T32 t262 (ji13)).f2) == 1)) := by simpa using c17))
          clear c17
          have H' := Aside0.mk H
          clear H
          have p267 : 0 ≤ ((ji13) : Int) := of_decide_eq_true (by first | (with_reducible assumption) | assumption)
          have q267 : (ji13) < (t262.length : Int) := of_decide_eq_true (by first | (with_reducible assumption) | assumption)
          obtain ⟨ad267, A267_4, c267_4, e267, hx267_0, hx267_1, hx267_2, hx267_3, hx267_4, hx267_5, hl267_4, hi267_4⟩ := at_T32 (Kd.S_reads' HO_5.out).2.2 (ji13) p267 q267
          cases e267
          obtain ⟨ce267, hce267, hMe267, hcc267⟩ := Kd.S_get HO_5.out z32 (ji13) p267 (by first | exact q267 | exact of_decide_eq_true (by first | (with_reducible assumption) | assumption) | (have e_ := (Kd.S_reads' HO_5.out).1; omega))
          obtain ⟨ve267_4, rfl, ge267_4⟩ := k32_openM hMe267
          have hv267_4 := hcc267 4 _ rfl
          rw [add_field _ _ 4 (by omega)] at hv267_4
          replace hv267_4 := Option.some.inj (hv267_4.symm.trans hx267_4)
          rw [hv267_4] at ge267_4
          have HL267_4 := Aside0.mk (show Kd.R k55 55 _ _ _ _ ((rd_T32 t262 (ji13)).f4) from ge267_4)
          clear hv267_4 ge267_4
          clear hcc267 hce267
          have HR267_4 := Aside0.mk hi267_4
          have HC267_4 := Aside0.mk hl267_4
          clear hi267_4 hl267_4
          replace p267 := eq_true p267
          replace q267 := eq_true q267
          have p268 : 0 ≤ ((ji13) : Int) := of_decide_eq_true (by first | (with_reducible assumption) | assumption)
          have q268 : (ji13) < (t262.length : Int) := of_decide_eq_true (by first | (with_reducible assumption) | assumption)
          obtain ⟨ad268, A268_4, c268_4, e268, hx268_0, hx268_1, hx268_2, hx268_3, hx268_4, hx268_5, hl268_4, hi268_4⟩ := at_T32 (Kd.S_reads' HO_5.out).2.2 (ji13) p268 q268
          obtain rfl : ad267 = ad268 := (by injection e268)
          obtain ⟨ce268, hce268, hMe268, hcc268⟩ := Kd.S_get HO_5.out z32 (ji13) p268 (by first | exact q268 | exact of_decide_eq_true (by first | (with_reducible assumption) | assumption) | (have e_ := (Kd.S_reads' HO_5.out).1; omega))
          obtain ⟨ve268_4, rfl, ge268_4⟩ := k32_openM hMe268
          have hv268_4 := hcc268 4 _ rfl
          rw [add_field _ _ 4 (by omega)] at hv268_4
          replace hv268_4 := Option.some.inj (hv268_4.symm.trans hx268_4)
          rw [hv268_4] at ge268_4
          have HL268_4 := Aside0.mk (show Kd.R k55 55 _ _ _ _ ((rd_T32 t262 (ji13)).f4) from ge268_4)
          clear hv268_4 ge268_4
          clear hcc268 hce268
          have HR268_4 := Aside0.mk hi268_4
          have HC268_4 := Aside0.mk hl268_4
          clear hi268_4 hl268_4
          replace p268 := eq_true p268
          replace q268 := eq_true q268
          have ea_ := Option.some.inj (hx267_4.symm.trans hx268_4)
          injection ea_ with ea_ en_ ec_
          subst ea_
          subst ec_
          clear en_
          go_wp2
          repeat (go_quiet (fail); try go_wp2)
          (try subst hji13)
          go_meet
          case rel => exact ⟨_, (true), (by first | rfl | (simp; done) | (simp [*]; done) | (simp; exact isEmpty_bne_ _)), H', ⟨by have := HK1.out; first | omega | exact Nat.le_refl _⟩, ⟨by (with_reducible repeat (first | apply Kd.S_alloc | apply Kd.S_drewN | apply Kd.S_drew)); exact HO_5.out⟩, ⟨by repeat (first | (with_reducible first | exact HB.out | apply below_alloc | apply pw_below_drewN | apply below_drew1) | exact HB.out)⟩⟩
         ·
          rw [if_neg c17] at H
          have c17b0 : (t266 != (((rd_T32 t262 (ji13)).f2) == 1)) = false := by simpa using c17
          (try (have c17b1 : decide (t266 = (((rd_T32 t262 (ji13)).f2) == 1)) = true := by simpa using c17))
          (try (have c17b2 : (t266 == (((rd_T32 t262 (ji13)).f2) == 1)) = true := by simpa using c17))
          clear c17
          have H' := Aside0.mk H
          clear H
          have p267 : 0 ≤ ((ji13) : Int) := of_decide_eq_true (by first | (with_reducible assumption) | assumption)
          have q267 : (ji13) < (t262.length : Int) := of_decide_eq_true (by first | (with_reducible assumption) | assumption)
          obtain ⟨ad267, A267_4, c267_4, e267, hx267_0, hx267_1, hx267_2, hx267_3, hx267_4, hx267_5, hl267_4, hi267_4⟩ := at_T32 (Kd.S_reads' HO_5.out).2.2 (ji13) p267 q267
          cases e267
          obtain ⟨ce267, hce267, hMe267, hcc267⟩ := Kd.S_get HO_5.out z32 (ji13) p267 (by first | exact q267 | exact of_decide_eq_true (by first | (with_reducible assumption) | assumption) | (have e_ := (Kd.S_reads' HO_5.out).1; omega))
          obtain ⟨ve267_4, rfl, ge267_4⟩ := k32_openM hMe267
          have hv267_4 := hcc267 4 _ rfl
          rw [add_field _ _ 4 (by omega)] at hv267_4
          replace hv267_4 := Option.some.inj (hv267_4.symm.trans hx267_4)
          rw [hv267_4] at ge267_4
          have HL267_4 := Aside0.mk (show Kd.R k55 55 _ _ _ _ ((rd_T32 t262 (ji13)).f4) from ge267_4)
          clear hv267_4 ge267_4
          clear hcc267 hce267
          have HR267_4 := Aside0.mk hi267_4
          have HC267_4 := Aside0.mk hl267_4
          clear hi267_4 hl267_4
          replace p267 := eq_true p267
          replace q267 := eq_true q267
          have p268 : 0 ≤ ((ji13) : Int) := of_decide_eq_true (by first | (with_reducible assumption) | assumption)
          have q268 : (ji13) < (t262.length : Int) := of_decide_eq_true (by first | (with_reducible assumption) | assumption)
          obtain ⟨ad268, A268_4, c268_4, e268, hx268_0, hx268_1, hx268_2, hx268_3, hx268_4, hx268_5, hl268_4, hi268_4⟩ := at_T32 (Kd.S_reads' HO_5.out).2.2 (ji13) p268 q268
          obtain rfl : ad267 = ad268 := (by injection e268)
          obtain ⟨ce268, hce268, hMe268, hcc268⟩ := Kd.S_get HO_5.out z32 (ji13) p268 (by first | exact q268 | exact of_decide_eq_true (by first | (with_reducible assumption) | assumption) | (have e_ := (Kd.S_reads' HO_5.out).1; omega))
          obtain ⟨ve268_4, rfl, ge268_4⟩ := k32_openM hMe268
          have hv268_4 := hcc268 4 _ rfl
          rw [add_field _ _ 4 (by omega)] at hv268_4
          replace hv268_4 := Option.some.inj (hv268_4.symm.trans hx268_4)
          rw [hv268_4] at ge268_4
          have HL268_4 := Aside0.mk (show Kd.R k55 55 _ _ _ _ ((rd_T32 t262 (ji13)).f4) from ge268_4)
          clear hv268_4 ge268_4
          clear hcc268 hce268
          have HR268_4 := Aside0.mk hi268_4
          have HC268_4 := Aside0.mk hl268_4
          clear hi268_4 hl268_4
          replace p268 := eq_true p268
          replace q268 := eq_true q268
          have ea_ := Option.some.inj (hx267_4.symm.trans hx268_4)
          injection ea_ with ea_ en_ ec_
          subst ea_
          subst ec_
          clear en_
          have p269 : 0 ≤ ((ji13) : Int) := of_decide_eq_true (by first | (with_reducible assumption) | assumption)
          have q269 : (ji13) < (t262.length : Int) := of_decide_eq_true (by first | (with_reducible assumption) | assumption)
          obtain ⟨ad269, A269_4, c269_4, e269, hx269_0, hx269_1, hx269_2, hx269_3, hx269_4, hx269_5, hl269_4, hi269_4⟩ := at_T32 (Kd.S_reads' HO_5.out).2.2 (ji13) p269 q269
          obtain rfl : ad267 = ad269 := (by injection e269)
          obtain ⟨ce269, hce269, hMe269, hcc269⟩ := Kd.S_get HO_5.out z32 (ji13) p269 (by first | exact q269 | exact of_decide_eq_true (by first | (with_reducible assumption) | assumption) | (have e_ := (Kd.S_reads' HO_5.out).1; omega))
          obtain ⟨ve269_4, rfl, ge269_4⟩ := k32_openM hMe269
          have hv269_4 := hcc269 4 _ rfl
          rw [add_field _ _ 4 (by omega)] at hv269_4
          replace hv269_4 := Option.some.inj (hv269_4.symm.trans hx269_4)
          rw [hv269_4] at ge269_4
          have HL269_4 := Aside0.mk (show Kd.R k55 55 _ _ _ _ ((rd_T32 t262 (ji13)).f4) from ge269_4)
          clear hv269_4 ge269_4
          clear hcc269 hce269
          have HR269_4 := Aside0.mk hi269_4
          have HC269_4 := Aside0.mk hl269_4
          clear hi269_4 hl269_4
          replace p269 := eq_true p269
          replace q269 := eq_true q269
          have ea_ := Option.some.inj (hx267_4.symm.trans hx269_4)
          injection ea_ with ea_ en_ ec_
          subst ea_
          subst ec_
          clear en_
          go_wp2
          repeat (go_quiet (fail); try go_wp2)
          (try subst hji13)
          go_meet
          case rel => exact ⟨_, (false), (by first | rfl | (simp; done) | (simp [*]; done) | (simp; exact isEmpty_bne_ _)), H', ⟨by have := HK1.out; first | omega | exact Nat.le_refl _⟩, ⟨by (with_reducible repeat (first | apply Kd.S_alloc | apply Kd.S_drewN | apply Kd.S_drew)); exact HO_5.out⟩, ⟨by repeat (first | (with_reducible first | exact HB.out | apply below_alloc | apply pw_below_drewN | apply below_drew1) | exact HB.out)⟩⟩
        ·
         rw [if_neg c16] at H
         have c16b0 : (((rd_T32 t262 (ji13)).f3) == x7_1) = false := beq_eq_false_iff_ne.mpr c16
         have c16b1 : (((rd_T32 t262 (ji13)).f3) != x7_1) = true := bne_iff_ne.mpr c16
         have H' := Aside0.mk H
         clear H
         have p267 : 0 ≤ ((ji13) : Int) := of_decide_eq_true (by first | (with_reducible assumption) | assumption)
         have q267 : (ji13) < (t262.length : Int) := of_decide_eq_true (by first | (with_reducible assumption) | assumption)
         obtain ⟨ad267, A267_4, c267_4, e267, hx267_0, hx267_1, hx267_2, hx267_3, hx267_4, hx267_5, hl267_4, hi267_4⟩ := at_T32 (Kd.S_reads' HO_5.out).2.2 (ji13) p267 q267
         cases e267
         obtain ⟨ce267, hce267, hMe267, hcc267⟩ := Kd.S_get HO_5.out z32 (ji13) p267 (by first | exact q267 | exact of_decide_eq_true (by first | (with_reducible assumption) | assumption) | (have e_ := (Kd.S_reads' HO_5.out).1; omega))
         obtain ⟨ve267_4, rfl, ge267_4⟩ := k32_openM hMe267
         have hv267_4 := hcc267 4 _ rfl
         rw [add_field _ _ 4 (by omega)] at hv267_4
         replace hv267_4 := Option.some.inj (hv267_4.symm.trans hx267_4)
         rw [hv267_4] at ge267_4
         have HL267_4 := Aside0.mk (show Kd.R k55 55 _ _ _ _ ((rd_T32 t262 (ji13)).f4) from ge267_4)
         clear hv267_4 ge267_4
         clear hcc267 hce267
         have HR267_4 := Aside0.mk hi267_4
         have HC267_4 := Aside0.mk hl267_4
         clear hi267_4 hl267_4
         replace p267 := eq_true p267
         replace q267 := eq_true q267
         have p270 : 0 ≤ ((ji13) : Int) := of_decide_eq_true (by first | (with_reducible assumption) | assumption)
         have q270 : (ji13) < (t262.length : Int) := of_decide_eq_true (by first | (with_reducible assumption) | assumption)
         obtain ⟨ad270, A270_4, c270_4, e270, hx270_0, hx270_1, hx270_2, hx270_3, hx270_4, hx270_5, hl270_4, hi270_4⟩ := at_T32 (Kd.S_reads' HO_5.out).2.2 (ji13) p270 q270
         obtain rfl : ad267 = ad270 := (by injection e270)
         obtain ⟨ce270, hce270, hMe270, hcc270⟩ := Kd.S_get HO_5.out z32 (ji13) p270 (by first | exact q270 | exact of_decide_eq_true (by first | (with_reducible assumption) | assumption) | (have e_ := (Kd.S_reads' HO_5.out).1; omega))
         obtain ⟨ve270_4, rfl, ge270_4⟩ := k32_openM hMe270
         have hv270_4 := hcc270 4 _ rfl
         rw [add_field _ _ 4 (by omega)] at hv270_4
         replace hv270_4 := Option.some.inj (hv270_4.symm.trans hx270_4)
         rw [hv270_4] at ge270_4
         have HL270_4 := Aside0.mk (show Kd.R k55 55 _ _ _ _ ((rd_T32 t262 (ji13)).f4) from ge270_4)
         clear hv270_4 ge270_4
         clear hcc270 hce270
         have HR270_4 := Aside0.mk hi270_4
         have HC270_4 := Aside0.mk hl270_4
         clear hi270_4 hl270_4
         replace p270 := eq_true p270
         replace q270 := eq_true q270
         have ea_ := Option.some.inj (hx267_4.symm.trans hx270_4)
         injection ea_ with ea_ en_ ec_
         subst ea_
         subst ec_
         clear en_
         go_wp2
         repeat (go_quiet (fail); try go_wp2)
         (try subst hji13)
         go_meet
         case rel => exact ⟨_, ((t265 != t266)), (by first | rfl | (simp; done) | (simp [*]; done) | (simp; exact isEmpty_bne_ _)), H', ⟨by have := HK1.out; first | omega | exact Nat.le_refl _⟩, ⟨by (with_reducible repeat (first | apply Kd.S_alloc | apply Kd.S_drewN | apply Kd.S_drew)); exact HO_5.out⟩, ⟨by repeat (first | (with_reducible first | exact HB.out | apply below_alloc | apply pw_below_drewN | apply below_drew1) | exact HB.out)⟩⟩
       ·
        rw [if_neg c15] at H
        exact absurd H (by simp)
      ·
       rw [if_neg c14] at H
       exact absurd H (by simp)
     case rest =>
      clear HC10
      try clear c1
      try clear c2
      try clear p2
      try clear q2
      try clear hx2
      try clear c4
      try clear c4b0
      try clear c4b1
      try clear c4b2
      try clear p6
      try clear c7
      try clear c7b0
      try clear c14
      try clear c14b0
      try clear c15
      try clear c15b0
      try clear c16
      try clear c16b0
      try clear c16b1
      try clear c17
      try clear c17b0
      try clear c17b1
      try clear c17b2
      try clear hx267_0
      try clear hx267_1
      try clear hx267_2
      try clear hx267_3
      try clear hx267_4
      try clear hx267_5
      try clear hx268_0
      try clear hx268_1
      try clear hx268_2
      try clear hx268_3
      try clear hx268_4
      try clear hx268_5
      try clear hx269_0
      try clear hx269_1
      try clear hx269_2
      try clear hx269_3
      try clear hx269_4
      try clear hx269_5
      try clear hx270_0
      try clear hx270_1
      try clear hx270_2
      try clear hx270_3
      try clear hx270_4
      try clear hx270_5
      try clear p2
      try clear p267
      try clear p268
      try clear p269
      try clear p270
      try clear p6
      try clear q267
      try clear q268
      try clear q269
      try clear q270
      obtain ⟨kq, x63_9, rfl, HA, HJ9, HO_5, HB⟩ := hcut
      cases kq with
      | zero => exact absurd HA.out (by simp [deaddroplaw16_RosterMade.j1])
      | succ kj9 =>
       have H := HA.out
       clear HA
       simp only [deaddroplaw16_RosterMade.j1] at H
       by_cases c18 : x63_9 = true
       ·
        subst c18
        have H1 : (some false) = some r := by rw [if_pos rfl] at H; exact H
        clear H
        have H := H1
        clear H1
        obtain rfl := Option.some.inj H
        go_wp2
        repeat (go_quiet (fail); try go_wp2)
        go_ret
        exact ⟨by first | rfl | (simp [errW_none, errW_some] <;> rfl) | (simp [*, errW_none, errW_some] <;> rfl), by repeat (first | (with_reducible first | exact HB.out | apply below_alloc | apply pw_below_drewN | apply below_drew1) | exact HB.out)⟩
       ·
        replace c18 := Bool.eq_false_iff.mpr c18
        subst c18
        have H1 : ((roster_Members.f t262 (wrap64 ((Int.tmod (wrap64 (a1)) (t262.length : Int)) + 1))).bind fun t271 => (deaddroplaw16_RosterMade.l1 kj9 t262 (Int.tmod (wrap64 (a1)) (t262.length : Int)) x7_1 t266 false t271 0)) = some r := by rw [if_neg (show ¬ (false = true) by decide)] at H; exact H
        clear H
        have H := H1
        clear H1
        replace H := Option.bind_eq_some_iff.mp H
        obtain ⟨t271, A190, H⟩ := H
        replace H : (deaddroplaw16_RosterMade.l1 kj9 t262 (Int.tmod (wrap64 (a1)) (t262.length : Int)) x7_1 t266 false t271 0) = some r := H
        have A19 := Aside0.mk A190
        clear A190
        have H' := Aside0.mk H
        clear H
        go_wp2_with (first | (go_at_call 7; (with_reducible refine (roster_Members.calls _ _ t262 (wrap64 ((Int.tmod (wrap64 (a1)) (t262.length : Int)) + 1)) t271 _ ?side1 ?side2 A19.out).mono ?_); (case side1 => repeat (first | exact (Kd.S_reads' HO_5.out).2.2 | (with_reducible refine Kd.C_alloc ?_ _) | (with_reducible refine Kd.C_drewN ?_ _) | (with_reducible refine Kd.C_drew ?_))); (case side2 => exact (Kd.S_reads' HO_5.out).2.1); rintro e w20 ⟨v272, rfl, ho0, hb⟩; have n0_ := Aside0.mk (Kd.S_below (by (with_reducible repeat (first | apply Kd.S_alloc | apply Kd.S_drewN | apply Kd.S_drew)); exact HO_5.out) hb); have n1_ := Aside0.mk (Kd.R_lower ho0 (below_size (by repeat (first | (with_reducible first | exact HB.out | apply below_alloc | apply pw_below_drewN | apply below_drew1) | exact HB.out)))); have n2_ := Aside0.mk (below_step (by repeat (first | (with_reducible first | exact HB.out | apply below_alloc | apply pw_below_drewN | apply below_drew1) | exact HB.out)) hb); clear HO_5; clear HB; have HO_5 := n0_; have HO273 := n1_; have HB := n2_; clear n0_ n1_ n2_; (try clear hb); (try clear hb2); (try clear hk); (try clear hi); (try clear ho0)))
        repeat (go_quiet (first | (go_at_call 7; (with_reducible refine (roster_Members.calls _ _ t262 (wrap64 ((Int.tmod (wrap64 (a1)) (t262.length : Int)) + 1)) t271 _ ?side1 ?side2 A19.out).mono ?_); (case side1 => repeat (first | exact (Kd.S_reads' HO_5.out).2.2 | (with_reducible refine Kd.C_alloc ?_ _) | (with_reducible refine Kd.C_drewN ?_ _) | (with_reducible refine Kd.C_drew ?_))); (case side2 => exact (Kd.S_reads' HO_5.out).2.1); rintro e w20 ⟨v272, rfl, ho0, hb⟩; have n0_ := Aside0.mk (Kd.S_below (by (with_reducible repeat (first | apply Kd.S_alloc | apply Kd.S_drewN | apply Kd.S_drew)); exact HO_5.out) hb); have n1_ := Aside0.mk (Kd.R_lower ho0 (below_size (by repeat (first | (with_reducible first | exact HB.out | apply below_alloc | apply pw_below_drewN | apply below_drew1) | exact HB.out)))); have n2_ := Aside0.mk (below_step (by repeat (first | (with_reducible first | exact HB.out | apply below_alloc | apply pw_below_drewN | apply below_drew1) | exact HB.out)) hb); clear HO_5; clear HB; have HO_5 := n0_; have HO273 := n1_; have HB := n2_; clear n0_ n1_ n2_; (try clear hb); (try clear hb2); (try clear hk); (try clear hi); (try clear ho0))); try go_wp2_with (first | (go_at_call 7; (with_reducible refine (roster_Members.calls _ _ t262 (wrap64 ((Int.tmod (wrap64 (a1)) (t262.length : Int)) + 1)) t271 _ ?side1 ?side2 A19.out).mono ?_); (case side1 => repeat (first | exact (Kd.S_reads' HO_5.out).2.2 | (with_reducible refine Kd.C_alloc ?_ _) | (with_reducible refine Kd.C_drewN ?_ _) | (with_reducible refine Kd.C_drew ?_))); (case side2 => exact (Kd.S_reads' HO_5.out).2.1); rintro e w20 ⟨v272, rfl, ho0, hb⟩; have n0_ := Aside0.mk (Kd.S_below (by (with_reducible repeat (first | apply Kd.S_alloc | apply Kd.S_drewN | apply Kd.S_drew)); exact HO_5.out) hb); have n1_ := Aside0.mk (Kd.R_lower ho0 (below_size (by repeat (first | (with_reducible first | exact HB.out | apply below_alloc | apply pw_below_drewN | apply below_drew1) | exact HB.out)))); have n2_ := Aside0.mk (below_step (by repeat (first | (with_reducible first | exact HB.out | apply below_alloc | apply pw_below_drewN | apply below_drew1) | exact HB.out)) hb); clear HO_5; clear HB; have HO_5 := n0_; have HO273 := n1_; have HB := n2_; clear n0_ n1_ n2_; (try clear hb); (try clear hb2); (try clear hk); (try clear hi); (try clear ho0))))
        go_loopg [10, 12] kj9 (fun kq v10 v12 w' => ∃ (x10_3 : Bool) (x12_3 : Int), v10 = .bool x10_3 ∧ v12 = .int .i64 x12_3 ∧ Aside0 (deaddroplaw16_RosterMade.l1 kq t262 (Int.tmod (wrap64 (a1)) (t262.length : Int)) x7_1 t266 x10_3 t271 x12_3 = some r) ∧ Aside0 (kq ≤ kj9) ∧ Aside0 (Kd.S k32 32 w' w.heap.size (fun _ => True) (.slice Ao6 t262.length co6) t262) ∧ Aside0 (Kd.R (Kd.int .i64) 3 w' w.heap.size (fun _ => True) v272 t271) ∧ Aside0 (Below w.heap.size w w'))
        case atStart => exact ⟨(false), (0), (by first | rfl | (simp; done) | (simp [*]; done) | (simp; exact isEmpty_bne_ _)), (by first | rfl | (simp; done) | (simp [*]; done) | (simp; exact isEmpty_bne_ _)), H', ⟨Nat.le_refl _⟩, ⟨by (with_reducible repeat (first | apply Kd.S_alloc | apply Kd.S_drewN | apply Kd.S_drew)); exact HO_5.out⟩, ⟨by (with_reducible repeat (first | apply Kd.R_alloc | apply Kd.R_drewN | apply Kd.R_drew)); exact HO273.out⟩, ⟨by repeat (first | (with_reducible first | exact HB.out | apply below_alloc | apply pw_below_drewN | apply below_drew1) | exact HB.out)⟩⟩
        case round =>
         clear H'
         try clear c1
         try clear c2
         try clear p2
         try clear q2
         try clear hx2
         try clear c4
         try clear c4b0
         try clear c4b1
         try clear c4b2
         try clear p6
         try clear c7
         try clear c7b0
         try clear c14
         try clear c14b0
         try clear c15
         try clear c15b0
         try clear c16
         try clear c16b0
         try clear c16b1
         try clear c17
         try clear c17b0
         try clear c17b1
         try clear c17b2
         try clear c18
         try clear hx267_0
         try clear hx267_1
         try clear hx267_2
         try clear hx267_3
         try clear hx267_4
         try clear hx267_5
         try clear hx268_0
         try clear hx268_1
         try clear hx268_2
         try clear hx268_3
         try clear hx268_4
         try clear hx268_5
         try clear hx269_0
         try clear hx269_1
         try clear hx269_2
         try clear hx269_3
         try clear hx269_4
         try clear hx269_5
         try clear hx270_0
         try clear hx270_1
         try clear hx270_2
         try clear hx270_3
         try clear hx270_4
         try clear hx270_5
         try clear p2
         try clear p267
         try clear p268
         try clear p269
         try clear p270
         try clear p6
         try clear q2
         try clear q267
         try clear q268
         try clear q269
         try clear q270
         obtain ⟨x10_3, x12_3, rfl, rfl, HA, HK3, HO_5, HO_11, HB⟩ := hrel
         cases gk with
         | zero => exact absurd HA.out (by simp [deaddroplaw16_RosterMade.l1])
         | succ k3 =>
          have H := HA.out
          clear HA
          simp only [deaddroplaw16_RosterMade.l1] at H
          by_cases c21 : x12_3 < (t271.length : Int)
          ·
           rw [if_pos c21] at H
           have c21b0 : decide (x12_3 < (t271.length : Int)) = true := decide_eq_true c21
           clear c21
           by_cases c22 : x10_3 = true
           ·
            subst c22
            have H1 : (if x12_3 > 0 then (if 0 ≤ (wrap64 (x12_3 - 1)) then (if (wrap64 (x12_3 - 1)) < (t271.length : Int) then (if 0 ≤ x12_3 then (if (rd t271 (wrap64 (x12_3 - 1))) ≥ (rd t271 x12_3) then (some false) else (deaddroplaw16_RosterMade.l1 k3 t262 (Int.tmod (wrap64 (a1)) (t262.length : Int)) x7_1 t266 true t271 (wrap64 (x12_3 + 1)))) else (none)) else (none)) else (none)) else (deaddroplaw16_RosterMade.l1 k3 t262 (Int.tmod (wrap64 (a1)) (t262.length : Int)) x7_1 t266 true t271 (wrap64 (x12_3 + 1)))) = some r := by rw [if_pos rfl] at H; exact H
            clear H
            have H := H1
            clear H1
            by_cases c23 : x12_3 > 0
            ·
             rw [if_pos c23] at H
             have c23b0 : decide (0 < x12_3) = true := decide_eq_true c23
             clear c23
             obtain ⟨ji24, hji24⟩ : ∃ j_ : Int, (wrap64 (x12_3 - 1)) = j_ := ⟨_, rfl⟩
             replace H : (if 0 ≤ (ji24) then (if (ji24) < (t271.length : Int) then (if 0 ≤ x12_3 then (if (rd t271 (ji24)) ≥ (rd t271 x12_3) then (some false) else (deaddroplaw16_RosterMade.l1 k3 t262 (Int.tmod (wrap64 (a1)) (t262.length : Int)) x7_1 t266 true t271 (wrap64 (x12_3 + 1)))) else (none)) else (none)) else (none)) = some r := by first | (rw [hji24] at H; exact H) | (simp only [hji24] at H ⊢; exact H)
             have hji24w : (IntKind.i64.wrap (x12_3 - 1)) = ji24 := (i64_w _).trans hji24
             by_cases c25 : 0 ≤ (ji24)
             ·
              rw [if_pos c25] at H
              have c25b0 : decide (0 ≤ (ji24)) = true := decide_eq_true c25
              clear c25
              by_cases c26 : (ji24) < (t271.length : Int)
              ·
               rw [if_pos c26] at H
               have c26b0 : decide ((ji24) < (t271.length : Int)) = true := decide_eq_true c26
               clear c26
               by_cases c27 : 0 ≤ x12_3
               ·
                rw [if_pos c27] at H
                have c27b0 : decide (0 ≤ x12_3) = true := decide_eq_true c27
                clear c27
                by_cases c28 : (rd t271 (ji24)) ≥ (rd t271 x12_3)
                ·
                 rw [if_pos c28] at H
                 have c28b0 : decide ((rd t271 x12_3) ≤ (rd t271 (ji24))) = true := decide_eq_true c28
                 clear c28
                 obtain rfl := Option.some.inj H
                 obtain ⟨Ao29, co29, eo29⟩ := Kd.R_slice HO_11.out
                 subst eo29
                 have p275 : 0 ≤ ((ji24) : Int) := of_decide_eq_true (by first | (with_reducible assumption) | assumption)
                 have q275 : (ji24) < (t271.length : Int) := of_decide_eq_true (by first | (with_reducible assumption) | assumption)
                 obtain ⟨ad275, e275, hx275_0⟩ := Kd.at_int (Kd.R_reads' HO_11.out).2.2 (ji24) p275 q275
                 cases e275
                 replace p275 := eq_true p275
                 replace q275 := eq_true q275
                 have p276 : 0 ≤ (x12_3 : Int) := of_decide_eq_true (by first | (with_reducible assumption) | assumption)
                 have q276 : x12_3 < (t271.length : Int) := of_decide_eq_true (by first | (with_reducible assumption) | assumption)
                 obtain ⟨ad276, e276, hx276_0⟩ := Kd.at_int (Kd.R_reads' HO_11.out).2.2 x12_3 p276 q276
                 obtain rfl : ad275 = ad276 := (by injection e276)
                 replace p276 := eq_true p276
                 replace q276 := eq_true q276
                 go_wp2
                 repeat (go_quiet (fail); try go_wp2)
                 go_ret
                 exact ⟨by first | rfl | (simp [errW_none, errW_some] <;> rfl) | (simp only [← hji24]; first | rfl | (simp [errW_none, errW_some] <;> rfl)) | (simp [*, errW_none, errW_some] <;> rfl), by repeat (first | (with_reducible first | exact HB.out | apply below_alloc | apply pw_below_drewN | apply below_drew1) | exact HB.out)⟩
                ·
                 rw [if_neg c28] at H
                 have c28b0 : decide ((rd t271 x12_3) ≤ (rd t271 (ji24))) = false := decide_eq_false c28
                 clear c28
                 have H' := Aside0.mk H
                 clear H
                 obtain ⟨Ao30, co30, eo30⟩ := Kd.R_slice HO_11.out
                 subst eo30
                 have p275 : 0 ≤ ((ji24) : Int) := of_decide_eq_true (by first | (with_reducible assumption) | assumption)
                 have q275 : (ji24) < (t271.length : Int) := of_decide_eq_true (by first | (with_reducible assumption) | assumption)
                 obtain ⟨ad275, e275, hx275_0⟩ := Kd.at_int (Kd.R_reads' HO_11.out).2.2 (ji24) p275 q275
                 cases e275
                 replace p275 := eq_true p275
                 replace q275 := eq_true q275
                 have p276 : 0 ≤ (x12_3 : Int) := of_decide_eq_true (by first | (with_reducible assumption) | assumption)
                 have q276 : x12_3 < (t271.length : Int) := of_decide_eq_true (by first | (with_reducible assumption) | assumption)
                 obtain ⟨ad276, e276, hx276_0⟩ := Kd.at_int (Kd.R_reads' HO_11.out).2.2 x12_3 p276 q276
                 obtain rfl : ad275 = ad276 := (by injection e276)
                 replace p276 := eq_true p276
                 replace q276 := eq_true q276
                 go_wp2
                 repeat (go_quiet (fail); try go_wp2)
                 go_roundg k3
                 case measure => have := HK1.out; have := HJ9.out; have := HK3.out; omega
                 case rel => exact ⟨(true), (wrap64 (x12_3 + 1)), (by first | rfl | (simp; done) | (simp [*]; done) | (simp; exact isEmpty_bne_ _)), (by first | rfl | (simp; done) | (simp [*]; done) | (simp; exact isEmpty_bne_ _)), H', ⟨by have := HK1.out; have := HJ9.out; have := HK3.out; omega⟩, ⟨by (with_reducible repeat (first | apply Kd.S_alloc | apply Kd.S_drewN | apply Kd.S_drew)); exact HO_5.out⟩, ⟨by (with_reducible repeat (first | apply Kd.R_alloc | apply Kd.R_drewN | apply Kd.R_drew)); exact HO_11.out⟩, ⟨by repeat (first | (with_reducible first | exact HB.out | apply below_alloc | apply pw_below_drewN | apply below_drew1) | exact HB.out)⟩⟩
               ·
                rw [if_neg c27] at H
                exact absurd H (by simp)
              ·
               rw [if_neg c26] at H
               exact absurd H (by simp)
             ·
              rw [if_neg c25] at H
              exact absurd H (by simp)
            ·
             rw [if_neg c23] at H
             have c23b0 : decide (0 < x12_3) = false := decide_eq_false c23
             clear c23
             have H' := Aside0.mk H
             clear H
             obtain ⟨Ao31, co31, eo31⟩ := Kd.R_slice HO_11.out
             subst eo31
             go_wp2
             repeat (go_quiet (fail); try go_wp2)
             go_roundg k3
             case measure => have := HK1.out; have := HJ9.out; have := HK3.out; omega
             case rel => exact ⟨(true), (wrap64 (x12_3 + 1)), (by first | rfl | (simp; done) | (simp [*]; done) | (simp; exact isEmpty_bne_ _)), (by first | rfl | (simp; done) | (simp [*]; done) | (simp; exact isEmpty_bne_ _)), H', ⟨by have := HK1.out; have := HJ9.out; have := HK3.out; omega⟩, ⟨by (with_reducible repeat (first | apply Kd.S_alloc | apply Kd.S_drewN | apply Kd.S_drew)); exact HO_5.out⟩, ⟨by (with_reducible repeat (first | apply Kd.R_alloc | apply Kd.R_drewN | apply Kd.R_drew)); exact HO_11.out⟩, ⟨by repeat (first | (with_reducible first | exact HB.out | apply below_alloc | apply pw_below_drewN | apply below_drew1) | exact HB.out)⟩⟩
           ·
            replace c22 := Bool.eq_false_iff.mpr c22
            subst c22
            have H1 : (if 0 ≤ x12_3 then (if x12_3 > 0 then (if 0 ≤ (wrap64 (x12_3 - 1)) then (if (wrap64 (x12_3 - 1)) < (t271.length : Int) then (if (rd t271 (wrap64 (x12_3 - 1))) ≥ (rd t271 x12_3) then (some false) else (deaddroplaw16_RosterMade.l1 k3 t262 (Int.tmod (wrap64 (a1)) (t262.length : Int)) x7_1 t266 ((rd t271 x12_3) == x7_1) t271 (wrap64 (x12_3 + 1)))) else (none)) else (none)) else (deaddroplaw16_RosterMade.l1 k3 t262 (Int.tmod (wrap64 (a1)) (t262.length : Int)) x7_1 t266 ((rd t271 x12_3) == x7_1) t271 (wrap64 (x12_3 + 1)))) else (none)) = some r := by rw [if_neg (show ¬ (false = true) by decide)] at H; exact H
            clear H
            have H := H1
            clear H1
            by_cases c32 : 0 ≤ x12_3
            ·
             rw [if_pos c32] at H
             have c32b0 : decide (0 ≤ x12_3) = true := decide_eq_true c32
             clear c32
             by_cases c33 : x12_3 > 0
             ·
              rw [if_pos c33] at H
              have c33b0 : decide (0 < x12_3) = true := decide_eq_true c33
              clear c33
              obtain ⟨ji34, hji34⟩ : ∃ j_ : Int, (wrap64 (x12_3 - 1)) = j_ := ⟨_, rfl⟩
              replace H : (if 0 ≤ (ji34) then (if (ji34) < (t271.length : Int) then (if (rd t271 (ji34)) ≥ (rd t271 x12_3) then (some false) else (deaddroplaw16_RosterMade.l1 k3 t262 (Int.tmod (wrap64 (a1)) (t262.length : Int)) x7_1 t266 ((rd t271 x12_3) == x7_1) t271 (wrap64 (x12_3 + 1)))) else (none)) else (none)) = some r := by first | (rw [hji34] at H; exact H) | (simp only [hji34] at H ⊢; exact H)
              have hji34w : (IntKind.i64.wrap (x12_3 - 1)) = ji34 := (i64_w _).trans hji34
              by_cases c35 : 0 ≤ (ji34)
              ·
               rw [if_pos c35] at H
               have c35b0 : decide (0 ≤ (ji34)) = true := decide_eq_true c35
               clear c35
               by_cases c36 : (ji34) < (t271.length : Int)
               ·
                rw [if_pos c36] at H
                have c36b0 : decide ((ji34) < (t271.length : Int)) = true := decide_eq_true c36
                clear c36
                by_cases c37 : (rd t271 (ji34)) ≥ (rd t271 x12_3)
                ·
                 rw [if_pos c37] at H
                 have c37b0 : decide ((rd t271 x12_3) ≤ (rd t271 (ji34))) = true := decide_eq_true c37
                 clear c37
                 obtain rfl := Option.some.inj H
                 obtain ⟨Ao38, co38, eo38⟩ := Kd.R_slice HO_11.out
                 subst eo38
                 have p274 : 0 ≤ (x12_3 : Int) := of_decide_eq_true (by first | (with_reducible assumption) | assumption)
                 have q274 : x12_3 < (t271.length : Int) := of_decide_eq_true (by first | (with_reducible assumption) | assumption)
                 obtain ⟨ad274, e274, hx274_0⟩ := Kd.at_int (Kd.R_reads' HO_11.out).2.2 x12_3 p274 q274
                 cases e274
                 replace p274 := eq_true p274
                 replace q274 := eq_true q274
                 have p277 : 0 ≤ ((ji34) : Int) := of_decide_eq_true (by first | (with_reducible assumption) | assumption)
                 have q277 : (ji34) < (t271.length : Int) := of_decide_eq_true (by first | (with_reducible assumption) | assumption)
                 obtain ⟨ad277, e277, hx277_0⟩ := Kd.at_int (Kd.R_reads' HO_11.out).2.2 (ji34) p277 q277
                 obtain rfl : ad274 = ad277 := (by injection e277)
                 replace p277 := eq_true p277
                 replace q277 := eq_true q277
                 have p278 : 0 ≤ (x12_3 : Int) := of_decide_eq_true (by first | (with_reducible assumption) | assumption)
                 have q278 : x12_3 < (t271.length : Int) := of_decide_eq_true (by first | (with_reducible assumption) | assumption)
                 obtain ⟨ad278, e278, hx278_0⟩ := Kd.at_int (Kd.R_reads' HO_11.out).2.2 x12_3 p278 q278
                 obtain rfl : ad274 = ad278 := (by injection e278)
                 replace p278 := eq_true p278
                 replace q278 := eq_true q278
                 go_wp2
                 repeat (go_quiet (fail); try go_wp2)
                 go_ret
                 exact ⟨by first | rfl | (simp [errW_none, errW_some] <;> rfl) | (simp only [← hji34]; first | rfl | (simp [errW_none, errW_some] <;> rfl)) | (simp [*, errW_none, errW_some] <;> rfl), by repeat (first | (with_reducible first | exact HB.out | apply below_alloc | apply pw_below_drewN | apply below_drew1) | exact HB.out)⟩
                ·
                 rw [if_neg c37] at H
                 have c37b0 : decide ((rd t271 x12_3) ≤ (rd t271 (ji34))) = false := decide_eq_false c37
                 clear c37
                 have H' := Aside0.mk H
                 clear H
                 obtain ⟨Ao39, co39, eo39⟩ := Kd.R_slice HO_11.out
                 subst eo39
                 have p274 : 0 ≤ (x12_3 : Int) := of_decide_eq_true (by first | (with_reducible assumption) | assumption)
                 have q274 : x12_3 < (t271.length : Int) := of_decide_eq_true (by first | (with_reducible assumption) | assumption)
                 obtain ⟨ad274, e274, hx274_0⟩ := Kd.at_int (Kd.R_reads' HO_11.out).2.2 x12_3 p274 q274
                 cases e274
                 replace p274 := eq_true p274
                 replace q274 := eq_true q274
                 have p277 : 0 ≤ ((ji34) : Int) := of_decide_eq_true (by first | (with_reducible assumption) | assumption)
                 have q277 : (ji34) < (t271.length : Int) := of_decide_eq_true (by first | (with_reducible assumption) | assumption)
                 obtain ⟨ad277, e277, hx277_0⟩ := Kd.at_int (Kd.R_reads' HO_11.out).2.2 (ji34) p277 q277
                 obtain rfl : ad274 = ad277 := (by injection e277)
                 replace p277 := eq_true p277
                 replace q277 := eq_true q277
                 have p278 : 0 ≤ (x12_3 : Int) := of_decide_eq_true (by first | (with_reducible assumption) | assumption)
                 have q278 : x12_3 < (t271.length : Int) := of_decide_eq_true (by first | (with_reducible assumption) | assumption)
                 obtain ⟨ad278, e278, hx278_0⟩ := Kd.at_int (Kd.R_reads' HO_11.out).2.2 x12_3 p278 q278
                 obtain rfl : ad274 = ad278 := (by injection e278)
                 replace p278 := eq_true p278
                 replace q278 := eq_true q278
                 go_wp2
                 repeat (go_quiet (fail); try go_wp2)
                 go_roundg k3
                 case measure => have := HK1.out; have := HJ9.out; have := HK3.out; omega
                 case rel => exact ⟨(((rd t271 x12_3) == x7_1)), (wrap64 (x12_3 + 1)), (by first | rfl | (simp; done) | (simp [*]; done) | (simp; exact isEmpty_bne_ _)), (by first | rfl | (simp; done) | (simp [*]; done) | (simp; exact isEmpty_bne_ _)), H', ⟨by have := HK1.out; have := HJ9.out; have := HK3.out; omega⟩, ⟨by (with_reducible repeat (first | apply Kd.S_alloc | apply Kd.S_drewN | apply Kd.S_drew)); exact HO_5.out⟩, ⟨by (with_reducible repeat (first | apply Kd.R_alloc | apply Kd.R_drewN | apply Kd.R_drew)); exact HO_11.out⟩, ⟨by repeat (first | (with_reducible first | exact HB.out | apply below_alloc | apply pw_below_drewN | apply below_drew1) | exact HB.out)⟩⟩
               ·
                rw [if_neg c36] at H
                exact absurd H (by simp)
              ·
               rw [if_neg c35] at H
               exact absurd H (by simp)
             ·
              rw [if_neg c33] at H
              have c33b0 : decide (0 < x12_3) = false := decide_eq_false c33
              clear c33
              have H' := Aside0.mk H
              clear H
              obtain ⟨Ao40, co40, eo40⟩ := Kd.R_slice HO_11.out
              subst eo40
              have p274 : 0 ≤ (x12_3 : Int) := of_decide_eq_true (by first | (with_reducible assumption) | assumption)
              have q274 : x12_3 < (t271.length : Int) := of_decide_eq_true (by first | (with_reducible assumption) | assumption)
              obtain ⟨ad274, e274, hx274_0⟩ := Kd.at_int (Kd.R_reads' HO_11.out).2.2 x12_3 p274 q274
              cases e274
              replace p274 := eq_true p274
              replace q274 := eq_true q274
              go_wp2
              repeat (go_quiet (fail); try go_wp2)
              go_roundg k3
              case measure => have := HK1.out; have := HJ9.out; have := HK3.out; omega
              case rel => exact ⟨(((rd t271 x12_3) == x7_1)), (wrap64 (x12_3 + 1)), (by first | rfl | (simp; done) | (simp [*]; done) | (simp; exact isEmpty_bne_ _)), (by first | rfl | (simp; done) | (simp [*]; done) | (simp; exact isEmpty_bne_ _)), H', ⟨by have := HK1.out; have := HJ9.out; have := HK3.out; omega⟩, ⟨by (with_reducible repeat (first | apply Kd.S_alloc | apply Kd.S_drewN | apply Kd.S_drew)); exact HO_5.out⟩, ⟨by (with_reducible repeat (first | apply Kd.R_alloc | apply Kd.R_drewN | apply Kd.R_drew)); exact HO_11.out⟩, ⟨by repeat (first | (with_reducible first | exact HB.out | apply below_alloc | apply pw_below_drewN | apply below_drew1) | exact HB.out)⟩⟩
            ·
             rw [if_neg c32] at H
             exact absurd H (by simp)
          ·
           rw [if_neg c21] at H
           have c21b0 : decide (x12_3 < (t271.length : Int)) = false := decide_eq_false c21
           clear c21
           by_cases c41 : (x10_3 != t266) = true
           ·
            rw [if_pos c41] at H
            have c41b0 : (x10_3 != t266) = true := c41
            (try (have c41b1 : decide (x10_3 = t266) = false := by simpa using c41))
            (try (have c41b2 : (x10_3 == t266) = false := by simpa using c41))
            (try (have c41b3 : ¬ (x10_3 = t266) := by simpa using c41))
            clear c41
            obtain rfl := Option.some.inj H
            obtain ⟨Ao42, co42, eo42⟩ := Kd.R_slice HO_11.out
            subst eo42
            go_wp2
            repeat (go_quiet (fail); try go_wp2)
            go_ret
            exact ⟨by first | rfl | (simp [errW_none, errW_some] <;> rfl) | (simp [*, errW_none, errW_some] <;> rfl), by repeat (first | (with_reducible first | exact HB.out | apply below_alloc | apply pw_below_drewN | apply below_drew1) | exact HB.out)⟩
           ·
            rw [if_neg c41] at H
            have c41b0 : (x10_3 != t266) = false := by simpa using c41
            (try (have c41b1 : decide (x10_3 = t266) = true := by simpa using c41))
            (try (have c41b2 : (x10_3 == t266) = true := by simpa using c41))
            clear c41
            have H' := Aside0.mk H
            clear H
            obtain ⟨Ao43, co43, eo43⟩ := Kd.R_slice HO_11.out
            subst eo43
            go_wp2
            repeat (go_quiet (fail); try go_wp2)
            go_roundg k3
            case measure => have := HK1.out; have := HJ9.out; have := HK3.out; omega
            case rel => exact ⟨(wrap64 (x7_1 + 1)), (by first | rfl | (simp; done) | (simp [*]; done) | (simp; exact isEmpty_bne_ _)), H', ⟨by have := HK1.out; have := HJ9.out; have := HK3.out; omega⟩, ⟨by (with_reducible repeat (first | apply Kd.S_alloc | apply Kd.S_drewN | apply Kd.S_drew)); exact HO_5.out⟩, ⟨by repeat (first | (with_reducible first | exact HB.out | apply below_alloc | apply pw_below_drewN | apply below_drew1) | exact HB.out)⟩⟩
    ·
     rw [if_neg c7] at H
     have c7b0 : decide (x7_1 < 8) = false := decide_eq_false c7
     clear c7
     replace H := Option.bind_eq_some_iff.mp H
     obtain ⟨t279, A440, H⟩ := H
     replace H : (if (t279.length : Int) = 0 then ((deaddroplaw16_awake.f k1).bind fun t282 => (some t282)) else (some false)) = some r := H
     have A44 := Aside0.mk A440
     clear A440
     by_cases c45 : (t279.length : Int) = 0
     ·
      rw [if_pos c45] at H
      have c45b0 : ((t279.length : Int) == 0) = true := beq_iff_eq.mpr c45
      have c45b1 : ((t279.length : Int) != 0) = false := bne_eq_false_iff_eq.mpr c45
      clear c45
      replace H := Option.bind_eq_some_iff.mp H
      obtain ⟨t282, A460, H⟩ := H
      replace H : (some t282) = some r := H
      have A46 := Aside0.mk A460
      clear A460
      obtain rfl := Option.some.inj H
      go_wp2_with (first | (go_at_call 7; (with_reducible refine (roster_Members.calls _ _ t262 0 t279 _ ?side1 ?side2 A44.out).mono ?_); (case side1 => repeat (first | exact (Kd.S_reads' HO_5.out).2.2 | (with_reducible refine Kd.C_alloc ?_ _) | (with_reducible refine Kd.C_drewN ?_ _) | (with_reducible refine Kd.C_drew ?_))); (case side2 => exact (Kd.S_reads' HO_5.out).2.1); rintro e w47 ⟨v280, rfl, ho0, hb⟩; have n0_ := Aside0.mk (Kd.S_below (by (with_reducible repeat (first | apply Kd.S_alloc | apply Kd.S_drewN | apply Kd.S_drew)); exact HO_5.out) hb); have n1_ := Aside0.mk (Kd.R_lower ho0 (below_size (by repeat (first | (with_reducible first | exact HB.out | apply below_alloc | apply pw_below_drewN | apply below_drew1) | exact HB.out)))); have n2_ := Aside0.mk (below_step (by repeat (first | (with_reducible first | exact HB.out | apply below_alloc | apply pw_below_drewN | apply below_drew1) | exact HB.out)) hb); clear HO_5; clear HB; have HO_5 := n0_; have HO281 := n1_; have HB := n2_; clear n0_ n1_ n2_; (try clear hb); (try clear hb2); (try clear hk); (try clear hi); (try clear ho0); obtain ⟨Ao48, co48, eo48⟩ := Kd.R_slice HO281.out; subst eo48) | (go_at_call 11; (with_reducible refine (deaddroplaw16_awake.calls k1  t282 _ A46.out).mono ?_); rintro e w49 ⟨rfl, hb⟩; have n0_ := Aside0.mk (Kd.S_below (by (with_reducible repeat (first | apply Kd.S_alloc | apply Kd.S_drewN | apply Kd.S_drew)); exact HO_5.out) hb); have n1_ := Aside0.mk (Kd.R_below (by (with_reducible repeat (first | apply Kd.R_alloc | apply Kd.R_drewN | apply Kd.R_drew)); exact HO281.out) hb); have n2_ := Aside0.mk (below_step (by repeat (first | (with_reducible first | exact HB.out | apply below_alloc | apply pw_below_drewN | apply below_drew1) | exact HB.out)) hb); clear HO_5; clear HO281; clear HB; have HO_5 := n0_; have HO281 := n1_; have HB := n2_; clear n0_ n1_ n2_; (try clear hb); (try clear hb2); (try clear hk); (try clear hi)))
      repeat (go_quiet (first | (go_at_call 7; (with_reducible refine (roster_Members.calls _ _ t262 0 t279 _ ?side1 ?side2 A44.out).mono ?_); (case side1 => repeat (first | exact (Kd.S_reads' HO_5.out).2.2 | (with_reducible refine Kd.C_alloc ?_ _) | (with_reducible refine Kd.C_drewN ?_ _) | (with_reducible refine Kd.C_drew ?_))); (case side2 => exact (Kd.S_reads' HO_5.out).2.1); rintro e w47 ⟨v280, rfl, ho0, hb⟩; have n0_ := Aside0.mk (Kd.S_below (by (with_reducible repeat (first | apply Kd.S_alloc | apply Kd.S_drewN | apply Kd.S_drew)); exact HO_5.out) hb); have n1_ := Aside0.mk (Kd.R_lower ho0 (below_size (by repeat (first | (with_reducible first | exact HB.out | apply below_alloc | apply pw_below_drewN | apply below_drew1) | exact HB.out)))); have n2_ := Aside0.mk (below_step (by repeat (first | (with_reducible first | exact HB.out | apply below_alloc | apply pw_below_drewN | apply below_drew1) | exact HB.out)) hb); clear HO_5; clear HB; have HO_5 := n0_; have HO281 := n1_; have HB := n2_; clear n0_ n1_ n2_; (try clear hb); (try clear hb2); (try clear hk); (try clear hi); (try clear ho0); obtain ⟨Ao48, co48, eo48⟩ := Kd.R_slice HO281.out; subst eo48) | (go_at_call 11; (with_reducible refine (deaddroplaw16_awake.calls k1  t282 _ A46.out).mono ?_); rintro e w49 ⟨rfl, hb⟩; have n0_ := Aside0.mk (Kd.S_below (by (with_reducible repeat (first | apply Kd.S_alloc | apply Kd.S_drewN | apply Kd.S_drew)); exact HO_5.out) hb); have n1_ := Aside0.mk (Kd.R_below (by (with_reducible repeat (first | apply Kd.R_alloc | apply Kd.R_drewN | apply Kd.R_drew)); exact HO281.out) hb); have n2_ := Aside0.mk (below_step (by repeat (first | (with_reducible first | exact HB.out | apply below_alloc | apply pw_below_drewN | apply below_drew1) | exact HB.out)) hb); clear HO_5; clear HO281; clear HB; have HO_5 := n0_; have HO281 := n1_; have HB := n2_; clear n0_ n1_ n2_; (try clear hb); (try clear hb2); (try clear hk); (try clear hi))); try go_wp2_with (first | (go_at_call 7; (with_reducible refine (roster_Members.calls _ _ t262 0 t279 _ ?side1 ?side2 A44.out).mono ?_); (case side1 => repeat (first | exact (Kd.S_reads' HO_5.out).2.2 | (with_reducible refine Kd.C_alloc ?_ _) | (with_reducible refine Kd.C_drewN ?_ _) | (with_reducible refine Kd.C_drew ?_))); (case side2 => exact (Kd.S_reads' HO_5.out).2.1); rintro e w47 ⟨v280, rfl, ho0, hb⟩; have n0_ := Aside0.mk (Kd.S_below (by (with_reducible repeat (first | apply Kd.S_alloc | apply Kd.S_drewN | apply Kd.S_drew)); exact HO_5.out) hb); have n1_ := Aside0.mk (Kd.R_lower ho0 (below_size (by repeat (first | (with_reducible first | exact HB.out | apply below_alloc | apply pw_below_drewN | apply below_drew1) | exact HB.out)))); have n2_ := Aside0.mk (below_step (by repeat (first | (with_reducible first | exact HB.out | apply below_alloc | apply pw_below_drewN | apply below_drew1) | exact HB.out)) hb); clear HO_5; clear HB; have HO_5 := n0_; have HO281 := n1_; have HB := n2_; clear n0_ n1_ n2_; (try clear hb); (try clear hb2); (try clear hk); (try clear hi); (try clear ho0); obtain ⟨Ao48, co48, eo48⟩ := Kd.R_slice HO281.out; subst eo48) | (go_at_call 11; (with_reducible refine (deaddroplaw16_awake.calls k1  t282 _ A46.out).mono ?_); rintro e w49 ⟨rfl, hb⟩; have n0_ := Aside0.mk (Kd.S_below (by (with_reducible repeat (first | apply Kd.S_alloc | apply Kd.S_drewN | apply Kd.S_drew)); exact HO_5.out) hb); have n1_ := Aside0.mk (Kd.R_below (by (with_reducible repeat (first | apply Kd.R_alloc | apply Kd.R_drewN | apply Kd.R_drew)); exact HO281.out) hb); have n2_ := Aside0.mk (below_step (by repeat (first | (with_reducible first | exact HB.out | apply below_alloc | apply pw_below_drewN | apply below_drew1) | exact HB.out)) hb); clear HO_5; clear HO281; clear HB; have HO_5 := n0_; have HO281 := n1_; have HB := n2_; clear n0_ n1_ n2_; (try clear hb); (try clear hb2); (try clear hk); (try clear hi))))
      go_ret
      exact ⟨by first | rfl | (simp [errW_none, errW_some] <;> rfl) | (simp [*, errW_none, errW_some] <;> rfl), by repeat (first | (with_reducible first | exact HB.out | apply below_alloc | apply pw_below_drewN | apply below_drew1) | exact HB.out)⟩
     ·
      rw [if_neg c45] at H
      have c45b0 : ((t279.length : Int) == 0) = false := beq_eq_false_iff_ne.mpr c45
      have c45b1 : ((t279.length : Int) != 0) = true := bne_iff_ne.mpr c45
      have c45b2 : ¬ (t279 = []) := fun h_ => c45 (by rw [h_]; rfl)
      obtain rfl := Option.some.inj H
      go_wp2_with (first | (go_at_call 7; (with_reducible refine (roster_Members.calls _ _ t262 0 t279 _ ?side1 ?side2 A44.out).mono ?_); (case side1 => repeat (first | exact (Kd.S_reads' HO_5.out).2.2 | (with_reducible refine Kd.C_alloc ?_ _) | (with_reducible refine Kd.C_drewN ?_ _) | (with_reducible refine Kd.C_drew ?_))); (case side2 => exact (Kd.S_reads' HO_5.out).2.1); rintro e w50 ⟨v280, rfl, ho0, hb⟩; have n0_ := Aside0.mk (Kd.S_below (by (with_reducible repeat (first | apply Kd.S_alloc | apply Kd.S_drewN | apply Kd.S_drew)); exact HO_5.out) hb); have n1_ := Aside0.mk (Kd.R_lower ho0 (below_size (by repeat (first | (with_reducible first | exact HB.out | apply below_alloc | apply pw_below_drewN | apply below_drew1) | exact HB.out)))); have n2_ := Aside0.mk (below_step (by repeat (first | (with_reducible first | exact HB.out | apply below_alloc | apply pw_below_drewN | apply below_drew1) | exact HB.out)) hb); clear HO_5; clear HB; have HO_5 := n0_; have HO281 := n1_; have HB := n2_; clear n0_ n1_ n2_; (try clear hb); (try clear hb2); (try clear hk); (try clear hi); (try clear ho0); obtain ⟨Ao51, co51, eo51⟩ := Kd.R_slice HO281.out; subst eo51))
      repeat (go_quiet (first | (go_at_call 7; (with_reducible refine (roster_Members.calls _ _ t262 0 t279 _ ?side1 ?side2 A44.out).mono ?_); (case side1 => repeat (first | exact (Kd.S_reads' HO_5.out).2.2 | (with_reducible refine Kd.C_alloc ?_ _) | (with_reducible refine Kd.C_drewN ?_ _) | (with_reducible refine Kd.C_drew ?_))); (case side2 => exact (Kd.S_reads' HO_5.out).2.1); rintro e w50 ⟨v280, rfl, ho0, hb⟩; have n0_ := Aside0.mk (Kd.S_below (by (with_reducible repeat (first | apply Kd.S_alloc | apply Kd.S_drewN | apply Kd.S_drew)); exact HO_5.out) hb); have n1_ := Aside0.mk (Kd.R_lower ho0 (below_size (by repeat (first | (with_reducible first | exact HB.out | apply below_alloc | apply pw_below_drewN | apply below_drew1) | exact HB.out)))); have n2_ := Aside0.mk (below_step (by repeat (first | (with_reducible first | exact HB.out | apply below_alloc | apply pw_below_drewN | apply below_drew1) | exact HB.out)) hb); clear HO_5; clear HB; have HO_5 := n0_; have HO281 := n1_; have HB := n2_; clear n0_ n1_ n2_; (try clear hb); (try clear hb2); (try clear hk); (try clear hi); (try clear ho0); obtain ⟨Ao51, co51, eo51⟩ := Kd.R_slice HO281.out; subst eo51)); try go_wp2_with (first | (go_at_call 7; (with_reducible refine (roster_Members.calls _ _ t262 0 t279 _ ?side1 ?side2 A44.out).mono ?_); (case side1 => repeat (first | exact (Kd.S_reads' HO_5.out).2.2 | (with_reducible refine Kd.C_alloc ?_ _) | (with_reducible refine Kd.C_drewN ?_ _) | (with_reducible refine Kd.C_drew ?_))); (case side2 => exact (Kd.S_reads' HO_5.out).2.1); rintro e w50 ⟨v280, rfl, ho0, hb⟩; have n0_ := Aside0.mk (Kd.S_below (by (with_reducible repeat (first | apply Kd.S_alloc | apply Kd.S_drewN | apply Kd.S_drew)); exact HO_5.out) hb); have n1_ := Aside0.mk (Kd.R_lower ho0 (below_size (by repeat (first | (with_reducible first | exact HB.out | apply below_alloc | apply pw_below_drewN | apply below_drew1) | exact HB.out)))); have n2_ := Aside0.mk (below_step (by repeat (first | (with_reducible first | exact HB.out | apply below_alloc | apply pw_below_drewN | apply below_drew1) | exact HB.out)) hb); clear HO_5; clear HB; have HO_5 := n0_; have HO281 := n1_; have HB := n2_; clear n0_ n1_ n2_; (try clear hb); (try clear hb2); (try clear hk); (try clear hi); (try clear ho0); obtain ⟨Ao51, co51, eo51⟩ := Kd.R_slice HO281.out; subst eo51)))
      go_ret
      exact ⟨by first | rfl | (simp [errW_none, errW_some] <;> rfl) | (simp [*, errW_none, errW_some] <;> rfl), by repeat (first | (with_reducible first | exact HB.out | apply below_alloc | apply pw_below_drewN | apply below_drew1) | exact HB.out)⟩

/-- THE ONE PURE STATEMENT of deaddroplaw16_RosterMade: yours. -/
def deaddroplaw16_RosterMade.Pure : Prop := ∀ (l0 : List Int) (a1 : Int), l0.length ≤ maxLen → l0.length * 1 ≤ 140737488351232 → (∀ x ∈ l0, (Lit.int .u8 x).wf = true) → (Lit.int .u8 a1).wf = true → ∃ k, deaddroplaw16_RosterMade.f k l0 a1 = some true
theorem deaddroplaw16_RosterMade.walk (P : deaddroplaw16_RosterMade.Pure) (a0 : Option Addr) (len0 cap0 : Nat) (z0 : List Int) (a1 : Int) (w : World) (w0 : (a0 = none ∧ len0 = 0 ∧ cap0 = 0 ∧ z0 = []) ∨ ∃ x, a0 = some x ∧ len0 ≤ cap0 ∧ cap0 ≤ maxLen ∧ z0.length = cap0 ∧ (∀ i, i < z0.length → w.cell? (x.add i) = some (.int .u8 (z0.getD i 0))) ∧ ∀ n ∈ z0, (Lit.int .u8 n).wf = true) (y0 : len0 * 1 ≤ 140737488351232) (w1 : (Lit.int .u8 a1).wf = true) :
 Calls Try.prog 4 #[.slice a0 len0 cap0, .int .u8 a1] w fun e w' => e = .returned (.bool true) ∧ Below w.heap.size w w' := by
 obtain ⟨l0, rfl, hr0, hm0, hw0, hc0⟩ := ReadsInt.ofRowC w0
 obtain ⟨k, h⟩ := P l0 a1 hm0 y0 hw0 w1
 refine (deaddroplaw16_RosterMade.calls k _ _ l0 a1 true w (Kd.C_of_reads (d := (0 : Int)) (h1 := fun _ => rfl) hr0) hc0 h).mono ?_
 rintro e w' ⟨rfl, hd⟩
 exact ⟨rfl, hd⟩

end Go.Proofs.Ytjmehnlhfcidaaa.P
