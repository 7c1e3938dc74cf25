-- Written by a program of this work (wip/tools/mkprint.py) over the kit's print; Lean checks it.
import Derived.Test.YtjmehnlhfcidaaaPx0
import Derived.Test.YtjmehnlhfcidaaaPx2
import Derived.Test.YtjmehnlhfcidaaaPx5
namespace Go.Proofs.Ytjmehnlhfcidaaa.P
open Go.RowKit Go.Proofs.YtjmehnlhfcidaaaW.PrintWords Go.Proofs.YtjmehnlhfcidaaaW.PrintLast Go.Proofs.YtjmehnlhfcidaaaW.PrintMore Go.Proofs.Ytjmehnlhfcidaaa.HW
attribute [local go_sem] max2_int min2_int max_two min_two max_three min_three max_four min_four   -- for this text's walks alone

/-! ### deaddropref1_MayWire: function 27 -/
def deaddropref1_MayWire.f (k : Nat) (a0_0 : Int) (a0_1 : Int) (a0_2 : ByteArray) (l0_3 : List (S51)) : Option (Bool) := (deaddropref1_right.f k a0_0 a0_1 a0_2 l0_3 6).bind fun t141 => (if t141 = true then ((deaddropref1_deep.f k a0_0 a0_1 a0_2 l0_3 7).bind fun t142 => (some (decide (t142 ≤ 6)))) else (some false))
theorem deaddropref1_MayWire.mono : ∀ a0 a1 a2 a3 k, LeO (deaddropref1_MayWire.f k a0 a1 a2 a3) (deaddropref1_MayWire.f (k + 1) a0 a1 a2 a3) := by
  intro a0 a1 a2 a3 k
  unfold deaddropref1_MayWire.f
  repeat' first
      | (with_reducible exact deaddropref1_deep.mono _ _ _ _ _ _)
      | (with_reducible exact deaddropref1_right.mono _ _ _ _ _ _)
      | (with_reducible exact LeO.refl _)
      | (with_reducible exact LeO.none _)
      | (with_reducible refine LeO.ite ?_ ?_)
      | (with_reducible refine LeO.bind ?_ (fun _ => ?_))
      | exact deaddropref1_deep.mono _ _ _ _ _ _
      | exact deaddropref1_right.mono _ _ _ _ _ _
      | exact LeO.none _
      | refine LeO.ite ?_ ?_
      | refine LeO.bind ?_ (fun _ => ?_)
set_option maxHeartbeats 8000000 in
set_option maxRecDepth 100000 in
theorem deaddropref1_MayWire.calls (k : Nat) (a0_0 : Int) (a0_1 : Int) (a0_2 : ByteArray) (A0_3 : Option Addr) (c0_3 : Nat) (l0_3 : List (S51)) (r : Bool) (w : World) (hr0_3 : Kd.C k51 w A0_3 l0_3.length l0_3) (hc0_3 : l0_3.length ≤ c0_3) (h : deaddropref1_MayWire.f k a0_0 a0_1 a0_2 l0_3 = some r) :
    Calls Try.prog 27 #[.agg #[.int .i64 a0_0, .int .i64 a0_1, .string a0_2, .slice A0_3 l0_3.length c0_3]] w fun e w' => e = .returned (.bool r) ∧ Below w.heap.size w w' := by
  have hu51 := Try.underlying51
  have HR0_3 := Aside0.mk hr0_3
  have HC0_3 := Aside0.mk hc0_3
  clear hr0_3 hc0_3
  have HB := Aside0.mk (Below.refl w.heap.size w)
  have H : ((deaddropref1_right.f k a0_0 a0_1 a0_2 l0_3 6).bind fun t141 => (if t141 = true then ((deaddropref1_deep.f k a0_0 a0_1 a0_2 l0_3 7).bind fun t142 => (some (decide (t142 ≤ 6)))) else (some false))) = some r := h
  clear h
  replace H := Option.bind_eq_some_iff.mp H
  obtain ⟨t141, A20, H⟩ := H
  replace H : (if t141 = true then ((deaddropref1_deep.f k a0_0 a0_1 a0_2 l0_3 7).bind fun t142 => (some (decide (t142 ≤ 6)))) else (some false)) = some r := H
  have A2 := Aside0.mk A20
  clear A20
  by_cases c3 : t141 = true
  · subst c3
    have H1 : ((deaddropref1_deep.f k a0_0 a0_1 a0_2 l0_3 7).bind fun t142 => (some (decide (t142 ≤ 6)))) = some r := by rw [if_pos rfl] at H; exact H
    clear H
    have H := H1
    clear H1
    replace H := Option.bind_eq_some_iff.mp H
    obtain ⟨t142, A40, H⟩ := H
    replace H : (some (decide (t142 ≤ 6))) = some r := H
    have A4 := Aside0.mk A40
    clear A40
    as_aux_lemma =>
      obtain rfl := Option.some.inj H
      go_enter Try.func27, Try.ntmps27
      go_wp2_with (first | ((with_reducible refine gate_dst (N := 1) rfl ?_); refine box_event ?hg (N := 1) ?hd (cs := #[.int .i64 a0_0, .int .i64 a0_1, .string a0_2, .slice A0_3 l0_3.length c0_3]) (t := 51) ?hr ?_; (case hd => rfl); (case hg => rfl); (case hr => first | (go_simp; done) | (go_simp; rfl)); intro gb140 hg w5 hbox hb; have n0_ := Aside0.mk (below_step (by repeat (first | (with_reducible first | exact HB.out | apply below_alloc | apply pw_below_drewN | apply below_drew1) | exact HB.out)) hb); have n1_ := Aside0.mk (hbox); have n2_ := Aside0.mk ((by rw [hg]; exact (below_size (by repeat (first | (with_reducible first | exact HB.out | apply below_alloc | apply pw_below_drewN | apply below_drew1) | exact HB.out))) : w.heap.size ≤ gb140)); have n3_ := Aside0.mk ((by rw [hg]; exact (below_size (by repeat (first | (with_reducible first | exact HB.out | apply below_alloc | apply pw_below_drewN | apply below_drew1) | exact HB.out))) : w.heap.size ≤ gb140)); clear HB; have HB := n0_; have BK140 := n1_; have GW140 := n2_; have GE140 := n3_; clear n0_ n1_ n2_ n3_; clear hb hbox hg; have hcz6_0 : w5.cell? ⟨gb140, 0, none⟩ = some (.int .i64 a0_0) := (blk_cell BK140.out 0).trans rfl; have hcz6_1 : w5.cell? ⟨gb140, 1, none⟩ = some (.int .i64 a0_1) := (blk_cell BK140.out 1).trans rfl; have hcz6_2 : w5.cell? ⟨gb140, 2, none⟩ = some (.string a0_2) := (blk_cell BK140.out 2).trans rfl; have hcz6_3 : w5.cell? ⟨gb140, 3, none⟩ = some (.slice A0_3 l0_3.length c0_3) := (blk_cell BK140.out 3).trans rfl; have hfz6_0 := blk_frozen BK140.out 0; have hfz6_1 := blk_frozen BK140.out 1; have hfz6_2 := blk_frozen BK140.out 2; have hfz6_3 := blk_frozen BK140.out 3) | ((with_reducible refine gate_callee (f := 29) rfl ?_); refine goesL_ (some 4) rfl rfl Try.func29 (by kernel_rfl) rfl #[.agg #[.int .i64 a0_0, .int .i64 a0_1, .string a0_2, .slice A0_3 l0_3.length c0_3], .int .i64 6] rfl (by (try simp only [List.map_toArray, List.map_cons, List.map_nil]); first | done | rfl | (simp only [List.length_drop, List.length_take]; rfl)) ?_; (with_reducible refine (deaddropref1_right.calls k a0_0 a0_1 a0_2 _ _ l0_3 6 true _ ?side1 ?side2 A2.out).mono ?_); (case side1 => repeat (first | exact (Kd.C_below HR0_3.out HB.out) | (with_reducible refine Kd.C_alloc ?_ _) | (with_reducible refine Kd.C_drewN ?_ _) | (with_reducible refine Kd.C_drew ?_))); (case side2 => exact HC0_3.out); rintro e w7 ⟨rfl, hb⟩; refine ⟨_, rfl, ?_⟩; have n0_ := Aside0.mk (blk_below (g := gb140) (o := .cells #[.int .i64 a0_0, .int .i64 a0_1, .string a0_2, .slice A0_3 l0_3.length c0_3] 51 (0, 0)) (by (with_reducible repeat (first | refine blk_drewN ?_ _ | refine blk_drew ?_ | refine blk_alloc ?_ _)); exact BK140.out) hb); have n1_ := Aside0.mk (below_step (by repeat (first | (with_reducible first | exact HB.out | apply below_alloc | apply pw_below_drewN | apply below_drew1 | refine below_set ?_ GE140.out) | exact HB.out)) hb); clear BK140; clear HB; have BK140 := n0_; have HB := n1_; clear n0_ n1_; (try clear hb); (try clear hb2); (try clear hk); (try clear hi); have hcz8_0 : w7.cell? ⟨gb140, 0, none⟩ = some (.int .i64 a0_0) := (blk_cell BK140.out 0).trans rfl; have hcz8_1 : w7.cell? ⟨gb140, 1, none⟩ = some (.int .i64 a0_1) := (blk_cell BK140.out 1).trans rfl; have hcz8_2 : w7.cell? ⟨gb140, 2, none⟩ = some (.string a0_2) := (blk_cell BK140.out 2).trans rfl; have hcz8_3 : w7.cell? ⟨gb140, 3, none⟩ = some (.slice A0_3 l0_3.length c0_3) := (blk_cell BK140.out 3).trans rfl; have hfz8_0 := blk_frozen BK140.out 0; have hfz8_1 := blk_frozen BK140.out 1; have hfz8_2 := blk_frozen BK140.out 2; have hfz8_3 := blk_frozen BK140.out 3) | (go_at_call 30; (with_reducible refine (deaddropref1_deep.calls k a0_0 a0_1 a0_2 _ _ l0_3 7 t142 _ ?side1 ?side2 A4.out).mono ?_); (case side1 => repeat (first | exact (Kd.C_below HR0_3.out HB.out) | (with_reducible refine Kd.C_alloc ?_ _) | (with_reducible refine Kd.C_drewN ?_ _) | (with_reducible refine Kd.C_drew ?_))); (case side2 => exact HC0_3.out); rintro e w9 ⟨rfl, hb⟩; have n0_ := Aside0.mk (blk_below (g := gb140) (o := .cells #[.int .i64 a0_0, .int .i64 a0_1, .string a0_2, .slice A0_3 l0_3.length c0_3] 51 (0, 0)) (by (with_reducible repeat (first | refine blk_drewN ?_ _ | refine blk_drew ?_ | refine blk_alloc ?_ _)); exact BK140.out) hb); have n1_ := Aside0.mk (below_step (by repeat (first | (with_reducible first | exact HB.out | apply below_alloc | apply pw_below_drewN | apply below_drew1 | refine below_set ?_ GE140.out) | exact HB.out)) hb); clear BK140; clear HB; have BK140 := n0_; have HB := n1_; clear n0_ n1_; (try clear hb); (try clear hb2); (try clear hk); (try clear hi)))
      go_ret
      exact ⟨by first | rfl | (simp [errW_none, errW_some] <;> rfl) | (simp [*, errW_none, errW_some] <;> rfl), by repeat (first | (with_reducible first | exact HB.out | apply below_alloc | apply pw_below_drewN | apply below_drew1 | refine below_set ?_ GE140.out) | exact HB.out)⟩
  · replace c3 := Bool.eq_false_iff.mpr c3
    subst c3
    have H1 : (some false) = some r := by rw [if_neg (show ¬ (false = true) by decide)] at H; exact H
    clear H
    have H := H1
    clear H1
    as_aux_lemma =>
      obtain rfl := Option.some.inj H
      go_enter Try.func27, Try.ntmps27
      go_wp2_with (first | ((with_reducible refine gate_dst (N := 1) rfl ?_); refine box_event ?hg (N := 1) ?hd (cs := #[.int .i64 a0_0, .int .i64 a0_1, .string a0_2, .slice A0_3 l0_3.length c0_3]) (t := 51) ?hr ?_; (case hd => rfl); (case hg => rfl); (case hr => first | (go_simp; done) | (go_simp; rfl)); intro gb140 hg w10 hbox hb; have n0_ := Aside0.mk (below_step (by repeat (first | (with_reducible first | exact HB.out | apply below_alloc | apply pw_below_drewN | apply below_drew1) | exact HB.out)) hb); have n1_ := Aside0.mk (hbox); have n2_ := Aside0.mk ((by rw [hg]; exact (below_size (by repeat (first | (with_reducible first | exact HB.out | apply below_alloc | apply pw_below_drewN | apply below_drew1) | exact HB.out))) : w.heap.size ≤ gb140)); have n3_ := Aside0.mk ((by rw [hg]; exact (below_size (by repeat (first | (with_reducible first | exact HB.out | apply below_alloc | apply pw_below_drewN | apply below_drew1) | exact HB.out))) : w.heap.size ≤ gb140)); clear HB; have HB := n0_; have BK140 := n1_; have GW140 := n2_; have GE140 := n3_; clear n0_ n1_ n2_ n3_; clear hb hbox hg; have hcz11_0 : w10.cell? ⟨gb140, 0, none⟩ = some (.int .i64 a0_0) := (blk_cell BK140.out 0).trans rfl; have hcz11_1 : w10.cell? ⟨gb140, 1, none⟩ = some (.int .i64 a0_1) := (blk_cell BK140.out 1).trans rfl; have hcz11_2 : w10.cell? ⟨gb140, 2, none⟩ = some (.string a0_2) := (blk_cell BK140.out 2).trans rfl; have hcz11_3 : w10.cell? ⟨gb140, 3, none⟩ = some (.slice A0_3 l0_3.length c0_3) := (blk_cell BK140.out 3).trans rfl; have hfz11_0 := blk_frozen BK140.out 0; have hfz11_1 := blk_frozen BK140.out 1; have hfz11_2 := blk_frozen BK140.out 2; have hfz11_3 := blk_frozen BK140.out 3) | ((with_reducible refine gate_callee (f := 29) rfl ?_); refine goesL_ (some 4) rfl rfl Try.func29 (by kernel_rfl) rfl #[.agg #[.int .i64 a0_0, .int .i64 a0_1, .string a0_2, .slice A0_3 l0_3.length c0_3], .int .i64 6] rfl (by (try simp only [List.map_toArray, List.map_cons, List.map_nil]); first | done | rfl | (simp only [List.length_drop, List.length_take]; rfl)) ?_; (with_reducible refine (deaddropref1_right.calls k a0_0 a0_1 a0_2 _ _ l0_3 6 false _ ?side1 ?side2 A2.out).mono ?_); (case side1 => repeat (first | exact (Kd.C_below HR0_3.out HB.out) | (with_reducible refine Kd.C_alloc ?_ _) | (with_reducible refine Kd.C_drewN ?_ _) | (with_reducible refine Kd.C_drew ?_))); (case side2 => exact HC0_3.out); rintro e w12 ⟨rfl, hb⟩; refine ⟨_, rfl, ?_⟩; have n0_ := Aside0.mk (blk_below (g := gb140) (o := .cells #[.int .i64 a0_0, .int .i64 a0_1, .string a0_2, .slice A0_3 l0_3.length c0_3] 51 (0, 0)) (by (with_reducible repeat (first | refine blk_drewN ?_ _ | refine blk_drew ?_ | refine blk_alloc ?_ _)); exact BK140.out) hb); have n1_ := Aside0.mk (below_step (by repeat (first | (with_reducible first | exact HB.out | apply below_alloc | apply pw_below_drewN | apply below_drew1 | refine below_set ?_ GE140.out) | exact HB.out)) hb); clear BK140; clear HB; have BK140 := n0_; have HB := n1_; clear n0_ n1_; (try clear hb); (try clear hb2); (try clear hk); (try clear hi)))
      go_ret
      exact ⟨by first | rfl | (simp [errW_none, errW_some] <;> rfl) | (simp [*, errW_none, errW_some] <;> rfl), by repeat (first | (with_reducible first | exact HB.out | apply below_alloc | apply pw_below_drewN | apply below_drew1 | refine below_set ?_ GE140.out) | exact HB.out)⟩

/-! ### deaddropref1_four: function 31 -/
def deaddropref1_four.f (k : Nat) (a0 : Int) : Option (ByteArray) := (deaddropref1_Eight.f k a0).bind fun t143 => (if 4 ≤ (t143.size : Int) then (some (t143.extract 4 t143.size)) else (none))
theorem deaddropref1_four.mono : ∀ a0 k, LeO (deaddropref1_four.f k a0) (deaddropref1_four.f (k + 1) a0) := by
  intro a0 k
  unfold deaddropref1_four.f
  repeat' first
      | (with_reducible exact deaddropref1_Eight.mono _ _)
      | (with_reducible exact LeO.refl _)
      | (with_reducible exact LeO.none _)
      | (with_reducible refine LeO.ite ?_ ?_)
      | (with_reducible refine LeO.bind ?_ (fun _ => ?_))
      | exact deaddropref1_Eight.mono _ _
      | exact LeO.none _
      | refine LeO.ite ?_ ?_
      | refine LeO.bind ?_ (fun _ => ?_)
set_option maxHeartbeats 8000000 in
set_option maxRecDepth 100000 in
theorem deaddropref1_four.calls (k : Nat) (a0 : Int) (r : ByteArray) (w : World) (h : deaddropref1_four.f k a0 = some r) :
    Calls Try.prog 31 #[.int .i64 a0] w fun e w' => e = .returned (.string r) ∧ Below w.heap.size w w' := by
  have HB := Aside0.mk (Below.refl w.heap.size w)
  have H : ((deaddropref1_Eight.f k a0).bind fun t143 => (if 4 ≤ (t143.size : Int) then (some (t143.extract 4 t143.size)) else (none))) = some r := h
  clear h
  replace H := Option.bind_eq_some_iff.mp H
  obtain ⟨t143, A20, H⟩ := H
  replace H : (if 4 ≤ (t143.size : Int) then (some (t143.extract 4 t143.size)) else (none)) = some r := H
  have A2 := Aside0.mk A20
  clear A20
  by_cases c3 : 4 ≤ (t143.size : Int)
  · rw [if_pos c3] at H
    have c3b0 := eq_true c3
    have c3b1 : decide (4 ≤ (t143.size : Int)) = true := decide_eq_true c3
    clear c3
    as_aux_lemma =>
      obtain rfl := Option.some.inj H
      go_enter Try.func31, Try.ntmps31
      go_wp2_with (first | ((with_reducible refine gate_callee (f := 18) rfl ?_); refine goesL_ (some 4) rfl rfl Try.func18 (by kernel_rfl) rfl #[.int .i64 a0] rfl (by (try simp only [List.map_toArray, List.map_cons, List.map_nil]); first | done | rfl | (simp only [List.length_drop, List.length_take]; rfl)) ?_; (with_reducible refine (deaddropref1_Eight.calls k a0 t143 _ A2.out).mono ?_); rintro e w4 ⟨rfl, hb⟩; refine ⟨_, rfl, ?_⟩; have n0_ := Aside0.mk (below_step (by repeat (first | (with_reducible first | exact HB.out | apply below_alloc | apply pw_below_drewN | apply below_drew1) | exact HB.out)) hb); clear HB; have HB := n0_; clear n0_; (try clear hb); (try clear hb2); (try clear hk); (try clear hi)))
      go_ret
      exact ⟨by first | rfl | (simp [errW_none, errW_some] <;> rfl) | (simp [*, errW_none, errW_some] <;> rfl), by repeat (first | (with_reducible first | exact HB.out | apply below_alloc | apply pw_below_drewN | apply below_drew1) | exact HB.out)⟩
  · rw [if_neg c3] at H
    exact absurd H (by simp)

/-! ### deaddropref1_put: function 28 -/
mutual
def deaddropref1_put.l0 : Nat → List Int → List S51 → Int → Option (List Int)
  | 0, _, _, _ => none
  | k + 1, x0, x1, x5 => if x5 < (x1.length : Int) then (if 0 ≤ x5 then ((deaddropref1_put.f k x0 (rd_T51 x1 x5).f0 (rd_T51 x1 x5).f1 (rd_T51 x1 x5).f2 (rd_T51 x1 x5).f3).bind fun t => (deaddropref1_put.l0 k t x1 (wrap64 (x5 + 1)))) else (none)) else (some x0)
def deaddropref1_put.f : Nat → List Int → Int → Int → ByteArray → List S51 → Option (List Int)
  | 0, _, _, _, _, _ => none
  | k + 1, l0, a0, a1, a2, a3 => if l0.length < 140737488355328 then (if a0 = 1 then ((deaddropref1_Eight.f k a1).bind fun t => (if (l0 ++ [a0 % 256]).length + t.size < 140737488355328 then (some ((l0 ++ [a0 % 256]) ++ bytesOf t)) else (none))) else (if a0 = 2 then ((deaddropref1_four.f k (a2.size : Int)).bind fun t => (if (l0 ++ [a0 % 256]).length + t.size < 140737488355328 then (if ((l0 ++ [a0 % 256]) ++ bytesOf t).length + a2.size < 140737488355328 then (some (((l0 ++ [a0 % 256]) ++ bytesOf t) ++ bytesOf a2)) else (none)) else (none))) else ((deaddropref1_four.f k (a3.length : Int)).bind fun t => (if (l0 ++ [a0 % 256]).length + t.size < 140737488355328 then (deaddropref1_put.l0 k ((l0 ++ [a0 % 256]) ++ bytesOf t) a3 0) else (none))))) else (none)
end
theorem deaddropref1_put.mono_l : ∀ k, (∀ y0 y1 y2, LeO (deaddropref1_put.l0 k y0 y1 y2) (deaddropref1_put.l0 (k + 1) y0 y1 y2)) ∧ (∀ y0 y1 y2 y3 y4, LeO (deaddropref1_put.f k y0 y1 y2 y3 y4) (deaddropref1_put.f (k + 1) y0 y1 y2 y3 y4))
  | 0 => ⟨fun _ _ _ r h => by simp [deaddropref1_put.l0] at h, fun _ _ _ _ _ r h => by simp [deaddropref1_put.f] at h⟩
  | k + 1 => by
    obtain ⟨ih0, ih1⟩ := deaddropref1_put.mono_l k
    refine ⟨fun y0 y1 y2 => ?_, fun y0 y1 y2 y3 y4 => ?_⟩
    · rw [deaddropref1_put.l0, deaddropref1_put.l0]
      exact LeO.ite (LeO.ite (LeO.bind (ih1 _ _ _ _ _) (fun _ => ih0 _ _ _)) (LeO.none _)) (LeO.refl _)
    · rw [deaddropref1_put.f, deaddropref1_put.f]
      exact LeO.ite (LeO.ite (LeO.bind (deaddropref1_Eight.mono _ _) (fun _ => LeO.refl _)) (LeO.ite (LeO.bind (deaddropref1_four.mono _ _) (fun _ => LeO.refl _)) (LeO.bind (deaddropref1_four.mono _ _) (fun _ => LeO.ite (ih0 _ _ _) (LeO.none _))))) (LeO.none _)
theorem deaddropref1_put.mono : ∀ a0 a1 a2 a3 a4 k, LeO (deaddropref1_put.f k a0 a1 a2 a3 a4) (deaddropref1_put.f (k + 1) a0 a1 a2 a3 a4) := fun a0 a1 a2 a3 a4 k => (deaddropref1_put.mono_l k).2 a0 a1 a2 a3 a4
/-- An element of wires that stay read whatever is written: its own list stays so, too. -/
theorem deaddropref1_put.elem {w : World} {S : Nat → Prop} {A : Option Addr} {n : Nat} {xs : List S51} (h : ∀ W_, Kept w W_ S → Kd.C k51 W_ A n xs) (i : Int) (h0 : 0 ≤ i) (h1 : i < n) :
    ∃ ad A3 c3, A = some ad ∧ (rd_T51 xs i).f3.length ≤ c3 ∧ ∀ W_, Kept w W_ S → (W_.cell? (ad.add (i.toNat * 4)) = some (.int .i64 (rd_T51 xs i).f0) ∧ W_.cell? ⟨(ad.add (i.toNat * 4)).block, (ad.add (i.toNat * 4)).off + 1, none⟩ = some (.int .i64 (rd_T51 xs i).f1) ∧ W_.cell? ⟨(ad.add (i.toNat * 4)).block, (ad.add (i.toNat * 4)).off + 2, none⟩ = some (.string (rd_T51 xs i).f2) ∧ W_.cell? ⟨(ad.add (i.toNat * 4)).block, (ad.add (i.toNat * 4)).off + 3, none⟩ = some (.slice A3 (rd_T51 xs i).f3.length c3)) ∧ Kd.C k51 W_ A3 (rd_T51 xs i).f3.length (rd_T51 xs i).f3 := by
  obtain ⟨ad, A3, c3, rfl, e0, e1, e2, e3, l3, g3⟩ := at_T51 (h w (Kept.refl w S)) i h0 h1
  have hns : ¬ S ad.block := Kd.foot_neS h (by omega) (by decide)
  have hb : (ad.add (i.toNat * 4)).block = ad.block := add_block _ _
  refine ⟨ad, A3, c3, rfl, l3, fun W_ hk => ?_⟩
  obtain ⟨ad', A3', c3', ea, f0, f1, f2, f3, _, g3'⟩ := at_T51 (h W_ hk) i h0 h1
  injection ea with ea
  subst ea
  have k3 := cell_kept e3 hk (by show ¬ S (ad.add (i.toNat * 4)).block; rw [hb]; exact hns)
  rw [f3] at k3
  injection k3 with k3
  injection k3 with k4 _ k5
  subst k4
  subst k5
  exact ⟨⟨f0, f1, f2, f3⟩, g3'⟩
/-- What holds of the row that is written, all along. -/
structure deaddropref1_put.Inv (w0 w : World) (P0 : Nat → Prop) (box : Array Value) (W : World) (v : Value) (xs : List Int) : Prop where
  own : Kd.R (Kd.int .u8) 5 W w0.heap.size (fun k => (P0 k ∨ w.heap.size ≤ k)) v xs
  below : Below w0.heap.size w0 W
  kept : Kept w W P0
  blk : W.heap[w.heap.size]? = some (.cells box 51 (0, 0))
section
variable {w0 w W W1 : World} {P0 : Nat → Prop} {box : Array Value} {v v1 : Value} {xs ys : List Int}
theorem deaddropref1_put.Inv.call (h : deaddropref1_put.Inv w0 w P0 box W v xs) (hb : Below W.heap.size W W1) : deaddropref1_put.Inv w0 w P0 box W1 v xs :=
  ⟨Kd.R_below h.own hb, below_then h.below h.below.size hb, h.kept.below hb, (hb.block _ (blk_lt h.blk)).trans h.blk⟩
theorem deaddropref1_put.Inv.ne (h : deaddropref1_put.Inv w0 w P0 box W v xs) : some w.heap.size ≠ v.ownBlock := Kd.R_ne h.own h.blk (by decide)
theorem deaddropref1_put.Inv.grown (h : deaddropref1_put.Inv w0 w P0 box W v xs) (ho : Kd.R (Kd.int .u8) 5 W1 w0.heap.size (fun k => (P0 k ∨ w.heap.size ≤ k)) v1 ys) (hb : Below w0.heap.size w0 W1) (hg : W.grownBy W1 v.ownBlock) : deaddropref1_put.Inv w0 w P0 box W1 v1 ys :=
  ⟨ho, hb, Kept.of_grown hg h.kept (fun k hk => h.own.1 k hk), blk_grown h.blk hg h.ne⟩
theorem deaddropref1_put.Inv.rec_ (h : deaddropref1_put.Inv w0 w P0 box W v xs) (ho : Kd.R (Kd.int .u8) 5 W1 w0.heap.size (fun k => (some k = v.ownBlock ∨ W.heap.size ≤ k)) v1 ys) (hb : Below w0.heap.size w0 W1) (hk : Kept W W1 (fun k => some k = v.ownBlock)) : deaddropref1_put.Inv w0 w P0 box W1 v1 ys :=
  ⟨Kd.R_mono ho (fun k hk2 => hk2.elim (fun e => h.own.1 k e.symm) (fun e => .inr (Nat.le_trans h.kept.1 e))), hb, h.kept.then_ hk (fun k e => h.own.1 k e.symm), blk_kept h.blk hk h.ne⟩
theorem deaddropref1_put.Inv.alloc (h : deaddropref1_put.Inv w0 w P0 box W v xs) (o : Obj) : deaddropref1_put.Inv w0 w P0 box (W.alloc o) v xs := h.call (below_alloc (Below.refl _ _) o)
theorem deaddropref1_put.Inv.fresh (h : deaddropref1_put.Inv w0 w P0 box W v xs) : ∀ k, W.heap.size ≤ k → (P0 k ∨ w.heap.size ≤ k) := fun _ hk => .inr (Nat.le_trans h.kept.1 hk)
end
set_option maxHeartbeats 2000000 in
set_option maxRecDepth 100000 in
theorem deaddropref1_put.calls (k : Nat) : ∀ (P0_ : Nat → Prop) (u9000_ : Value) (l0 : List Int) (a1_0 : Int) (a1_1 : Int) (a1_2 : ByteArray) (A1_3 : Option Addr) (c1_3 : Nat) (l1_3 : List (S51)) (r : List Int) (w0 w : World) (_hB : Below w0.heap.size w0 w) (_ho0 : Kd.R (Kd.int .u8) 5 w w0.heap.size P0_ u9000_ l0) (_hr1_3 : ∀ W_, Kept w W_ (fun k_ => P0_ k_) → Kd.C k51 W_ A1_3 l1_3.length l1_3) (_hc1_3 : l1_3.length ≤ c1_3) (_h : deaddropref1_put.f k l0 a1_0 a1_1 a1_2 l1_3 = some r),
    Calls Try.prog 28 #[u9000_, .agg #[.int .i64 a1_0, .int .i64 a1_1, .string a1_2, .slice A1_3 l1_3.length c1_3]] w fun e w' => ∃ v0_ : Value, e = .returned (v0_) ∧ Kd.R (Kd.int .u8) 5 w' w0.heap.size (fun k_ => (P0_ k_ ∨ w.heap.size ≤ k_)) v0_ r ∧ Below w0.heap.size w0 w' ∧ Kept w w' (fun k_ => P0_ k_) := by
  induction k using Nat.strongRecOn with
  | _ k ih =>
  intro P0_ u9000_ l0 a1_0 a1_1 a1_2 A1_3 c1_3 l1_3 r w0 w hB ho0 hr1_3 hc1_3 h
  cases k with
  | zero => exact absurd h (by simp [deaddropref1_put.f])
  | succ k =>
  have IH := Aside0.mk ih
  clear ih
  simp only [deaddropref1_put.f] at h
  by_cases c1 : l0.length < 140737488355328
  rotate_left
  · rw [if_neg c1] at h
    exact absurd h (by simp)
  rw [if_pos c1] at h
  have LM1 := Aside0.mk c1
  have HR := Aside0.mk hr1_3
  have HC := Aside0.mk hc1_3
  have HI : Aside0 (deaddropref1_put.Inv w0 w P0_ #[.int .i64 a1_0, .int .i64 a1_1, .string a1_2, .slice A1_3 l1_3.length c1_3] (w.alloc (.cells #[.int .i64 a1_0, .int .i64 a1_1, .string a1_2, .slice A1_3 l1_3.length c1_3] 51)) u9000_ l0) :=
    ⟨⟨Kd.R_alloc (Kd.R_mono ho0 (fun k_ hk => .inl hk)) _, below_then hB hB.size (below_alloc (Below.refl _ _) _), (Kept.refl _ _).alloc _, heap_alloc_new _ _⟩⟩
  clear c1 ho0 hr1_3 hc1_3
  have H := Aside0.mk h
  clear h
  have kx : ∀ (v1 : Value) (w1 : World) (xs : List Int), deaddropref1_put.Inv w0 w P0_ #[.int .i64 a1_0, .int .i64 a1_1, .string a1_2, .slice A1_3 l1_3.length c1_3] w1 v1 xs → w1.cell? ⟨w.heap.size, 0, none⟩ = some (.int .i64 a1_0) ∧ w1.cell? ⟨w.heap.size, 1, none⟩ = some (.int .i64 a1_1) ∧ w1.cell? ⟨w.heap.size, 2, none⟩ = some (.string a1_2) ∧ w1.cell? ⟨w.heap.size, 3, none⟩ = some (.slice A1_3 l1_3.length c1_3) := fun v1 w1 xs hi => ⟨(blk_cell hi.blk 0).trans rfl, (blk_cell hi.blk 1).trans rfl, (blk_cell hi.blk 2).trans rfl, (blk_cell hi.blk 3).trans rfl⟩
  have KX := Aside0.mk kx
  clear kx
  have hu51 := Try.underlying51
  by_cases c2 : a1_0 = 1
  · have c2b : (a1_0 == 1) = true := beq_iff_eq.mpr c2
    have H' := H.out
    clear H
    rw [if_pos c2] at H'
    obtain ⟨t, hA, H'⟩ := Option.bind_eq_some_iff.mp H'
    have A7 := Aside0.mk hA
    clear hA c2
    by_cases c3 : (l0 ++ [a1_0 % 256]).length + t.size < 140737488355328
    rotate_left
    · rw [if_neg c3] at H'
      exact absurd H' (by simp)
    rw [if_pos c3] at H'
    have LM2 := Aside0.mk c3
    clear c3
    have HE := Aside0.mk (Option.some.inj H')
    clear H'
    go_enter Try.func28, Try.ntmps28
    go_wp2_with (first | ((with_reducible refine gate_builtin (b := .append) (xs := #[.tmp 6, .tmp 10]) rfl ?_); at_builtin; refine Kd.R_append (Kd.int .u8) (w0 := w0) w0.heap.size rfl (.tmp 6) (.tmp 10) 28 5 (.int .u8 0) 1 rfl Try.underlying28 info5 rfl (by decide) (by omega) u9000_ l0 (a1_0 % 256) [.int .u8 (a1_0 % 256)] (fun k_ => (P0_ k_ ∨ w.heap.size ≤ k_)) (fun _ => False) rfl (by simp [Act.eval]) rfl (fun _ hk => hk.elim) HI.out.fresh HI.out.own HI.out.below HI.out.below.size (by have := LM1.out; omega) ?_; intro v1 w1 ho hb hg _; have n0_ := Aside0.mk (HI.out.grown ho hb hg); clear HI ho hb hg; have HI := n0_; clear n0_; obtain ⟨hx0, hx1, hx2, hx3⟩ := KX.out _ _ _ HI.out) | ((with_reducible refine gate_callee (f := 18) rfl ?_); refine goesL_ (some 19) rfl rfl Try.func18 (by kernel_rfl) rfl #[.int .i64 a1_1] rfl (by (try simp only [List.map_toArray, List.map_cons, List.map_nil]); first | done | rfl) ?_; (with_reducible refine (deaddropref1_Eight.calls k a1_1 t _ A7.out).mono ?_); rintro e w4 ⟨rfl, hb⟩; refine ⟨_, rfl, ?_⟩; have n0_ := Aside0.mk (HI.out.call hb); clear HI hb; have HI := n0_; clear n0_; (try clear hx0 hx1 hx2 hx3); obtain ⟨hx0, hx1, hx2, hx3⟩ := KX.out _ _ _ HI.out) | ((with_reducible refine gate_builtin (b := .append) (xs := #[.tmp 16, .tmp 19]) rfl ?_); at_builtin; refine R_append_str_at (w0 := w0) w0.heap.size rfl (.tmp 16) (.tmp 19) 28 9 5 rfl Try.underlying28 Try.underlying9 info5 _ (l0 ++ [a1_0 % 256]) t (fun k_ => (P0_ k_ ∨ w.heap.size ≤ k_)) HI.out.fresh rfl rfl HI.out.own HI.out.below HI.out.below.size (by have := LM2.out; omega) ?_; intro v1 w1 ho hb hg _; have n0_ := Aside0.mk (HI.out.grown ho hb hg); clear HI ho hb hg; have HI := n0_; clear n0_))
    go_ret
    exact ⟨_, rfl, by rw [← HE.out]; exact HI.out.own, HI.out.below, HI.out.kept⟩
  have c2b : (a1_0 == 1) = false := beq_eq_false_iff_ne.mpr c2
  have h := H.out
  clear H
  rw [if_neg c2] at h
  by_cases c4 : a1_0 = 2
  · have c4b : (a1_0 == 2) = true := beq_iff_eq.mpr c4
    rw [if_pos c4] at h
    obtain ⟨t, hA, H'⟩ := Option.bind_eq_some_iff.mp h
    have A7 := Aside0.mk hA
    clear hA c2 c4
    by_cases c3 : (l0 ++ [a1_0 % 256]).length + t.size < 140737488355328
    rotate_left
    · rw [if_neg c3] at H'
      exact absurd H' (by simp)
    rw [if_pos c3] at H'
    by_cases c5 : ((l0 ++ [a1_0 % 256]) ++ bytesOf t).length + a1_2.size < 140737488355328
    rotate_left
    · rw [if_neg c5] at H'
      exact absurd H' (by simp)
    rw [if_pos c5] at H'
    have LM2 := Aside0.mk c3
    have LM3 := Aside0.mk c5
    clear c3 c5
    have HE := Aside0.mk (Option.some.inj H')
    clear H' h
    go_enter Try.func28, Try.ntmps28
    go_wp2_with (first | ((with_reducible refine gate_builtin (b := .append) (xs := #[.tmp 6, .tmp 10]) rfl ?_); at_builtin; refine Kd.R_append (Kd.int .u8) (w0 := w0) w0.heap.size rfl (.tmp 6) (.tmp 10) 28 5 (.int .u8 0) 1 rfl Try.underlying28 info5 rfl (by decide) (by omega) u9000_ l0 (a1_0 % 256) [.int .u8 (a1_0 % 256)] (fun k_ => (P0_ k_ ∨ w.heap.size ≤ k_)) (fun _ => False) rfl (by simp [Act.eval]) rfl (fun _ hk => hk.elim) HI.out.fresh HI.out.own HI.out.below HI.out.below.size (by have := LM1.out; omega) ?_; intro v1 w1 ho hb hg _; have n0_ := Aside0.mk (HI.out.grown ho hb hg); clear HI ho hb hg; have HI := n0_; clear n0_; obtain ⟨hx0, hx1, hx2, hx3⟩ := KX.out _ _ _ HI.out) | ((with_reducible refine gate_callee (f := 31) rfl ?_); refine goesL_ (some 27) rfl rfl Try.func31 (by kernel_rfl) rfl #[.int .i64 (a1_2.size : Int)] rfl (by (try simp only [List.map_toArray, List.map_cons, List.map_nil]); first | done | rfl) ?_; (with_reducible refine (deaddropref1_four.calls k (a1_2.size : Int) t _ A7.out).mono ?_); rintro e w4 ⟨rfl, hb⟩; refine ⟨_, rfl, ?_⟩; have n0_ := Aside0.mk (HI.out.call hb); clear HI hb; have HI := n0_; clear n0_; (try clear hx0 hx1 hx2 hx3); obtain ⟨hx0, hx1, hx2, hx3⟩ := KX.out _ _ _ HI.out) | ((with_reducible refine gate_builtin (b := .append) (xs := #[.tmp 23, .tmp 27]) rfl ?_); at_builtin; refine R_append_str_at (w0 := w0) w0.heap.size rfl (.tmp 23) (.tmp 27) 28 9 5 rfl Try.underlying28 Try.underlying9 info5 _ (l0 ++ [a1_0 % 256]) t (fun k_ => (P0_ k_ ∨ w.heap.size ≤ k_)) HI.out.fresh rfl rfl HI.out.own HI.out.below HI.out.below.size (by have := LM2.out; omega) ?_; intro v1 w1 ho hb hg _; have n0_ := Aside0.mk (HI.out.grown ho hb hg); clear HI ho hb hg; have HI := n0_; clear n0_; (try clear hx0 hx1 hx2 hx3); obtain ⟨hx0, hx1, hx2, hx3⟩ := KX.out _ _ _ HI.out) | ((with_reducible refine gate_builtin (b := .append) (xs := #[.tmp 29, .tmp 31]) rfl ?_); at_builtin; refine R_append_str_at (w0 := w0) w0.heap.size rfl (.tmp 29) (.tmp 31) 28 9 5 rfl Try.underlying28 Try.underlying9 info5 _ ((l0 ++ [a1_0 % 256]) ++ bytesOf t) a1_2 (fun k_ => (P0_ k_ ∨ w.heap.size ≤ k_)) HI.out.fresh rfl rfl HI.out.own HI.out.below HI.out.below.size (by have := LM3.out; omega) ?_; intro v1 w1 ho hb hg _; have n0_ := Aside0.mk (HI.out.grown ho hb hg); clear HI ho hb hg; have HI := n0_; clear n0_))
    go_ret
    exact ⟨_, rfl, by rw [← HE.out]; exact HI.out.own, HI.out.below, HI.out.kept⟩
  have c4b : (a1_0 == 2) = false := beq_eq_false_iff_ne.mpr c4
  rw [if_neg c4] at h
  obtain ⟨t, hA, H'⟩ := Option.bind_eq_some_iff.mp h
  have A7 := Aside0.mk hA
  clear hA c2 c4 h
  by_cases c3 : (l0 ++ [a1_0 % 256]).length + t.size < 140737488355328
  rotate_left
  · rw [if_neg c3] at H'
    exact absurd H' (by simp)
  rw [if_pos c3] at H'
  have LM2 := Aside0.mk c3
  clear c3
  have H := Aside0.mk H'
  clear H'
  go_enter Try.func28, Try.ntmps28
  go_wp2_with (first | ((with_reducible refine gate_builtin (b := .append) (xs := #[.tmp 6, .tmp 10]) rfl ?_); at_builtin; refine Kd.R_append (Kd.int .u8) (w0 := w0) w0.heap.size rfl (.tmp 6) (.tmp 10) 28 5 (.int .u8 0) 1 rfl Try.underlying28 info5 rfl (by decide) (by omega) u9000_ l0 (a1_0 % 256) [.int .u8 (a1_0 % 256)] (fun k_ => (P0_ k_ ∨ w.heap.size ≤ k_)) (fun _ => False) rfl (by simp [Act.eval]) rfl (fun _ hk => hk.elim) HI.out.fresh HI.out.own HI.out.below HI.out.below.size (by have := LM1.out; omega) ?_; intro v1 w1 ho hb hg _; have n0_ := Aside0.mk (HI.out.grown ho hb hg); clear HI ho hb hg; have HI := n0_; clear n0_; obtain ⟨hx0, hx1, hx2, hx3⟩ := KX.out _ _ _ HI.out) | ((with_reducible refine gate_callee (f := 31) rfl ?_); refine goesL_ (some 37) rfl rfl Try.func31 (by kernel_rfl) rfl #[.int .i64 (l1_3.length : Int)] rfl (by (try simp only [List.map_toArray, List.map_cons, List.map_nil]); first | done | rfl) ?_; (with_reducible refine (deaddropref1_four.calls k (l1_3.length : Int) t _ A7.out).mono ?_); rintro e w4 ⟨rfl, hb⟩; refine ⟨_, rfl, ?_⟩; have n0_ := Aside0.mk (HI.out.call hb); clear HI hb; have HI := n0_; clear n0_; (try clear hx0 hx1 hx2 hx3); obtain ⟨hx0, hx1, hx2, hx3⟩ := KX.out _ _ _ HI.out) | ((with_reducible refine gate_builtin (b := .append) (xs := #[.tmp 33, .tmp 37]) rfl ?_); at_builtin; refine R_append_str_at (w0 := w0) w0.heap.size rfl (.tmp 33) (.tmp 37) 28 9 5 rfl Try.underlying28 Try.underlying9 info5 _ (l0 ++ [a1_0 % 256]) t (fun k_ => (P0_ k_ ∨ w.heap.size ≤ k_)) HI.out.fresh rfl rfl HI.out.own HI.out.below HI.out.below.size (by have := LM2.out; omega) ?_; intro v1 w1 ho hb hg _; have n0_ := Aside0.mk (HI.out.grown ho hb hg); clear HI ho hb hg; have HI := n0_; clear n0_; (try clear hx0 hx1 hx2 hx3); obtain ⟨hx0, hx1, hx2, hx3⟩ := KX.out _ _ _ HI.out))
  go_loopg [0, 5] k (fun kq v0 v5 w' => ∃ (x0 : List Int) (x5 : Int), v5 = .int .i64 x5 ∧ Aside0 (deaddropref1_put.l0 kq x0 l1_3 x5 = some r) ∧ Aside0 (kq ≤ k) ∧ Aside0 (deaddropref1_put.Inv w0 w P0_ #[.int .i64 a1_0, .int .i64 a1_1, .string a1_2, .slice A1_3 l1_3.length c1_3] w' v0 x0))
  case atStart => exact ⟨_, 0, rfl, H, ⟨Nat.le_refl _⟩, HI⟩
  case round =>
    clear H HI hx0 hx1 hx2 hx3
    obtain ⟨x0, x5, rfl, HA, HK1, HI⟩ := hrel
    cases gk with
    | zero => exact absurd HA.out (by simp [deaddropref1_put.l0])
    | succ k1 =>
      have H := HA.out
      clear HA
      simp only [deaddropref1_put.l0] at H
      obtain ⟨hx0, hx1, hx2, hx3⟩ := KX.out _ _ _ HI.out
      by_cases c6 : x5 < (l1_3.length : Int)
      · rw [if_pos c6] at H
        by_cases c7 : 0 ≤ x5
        rotate_left
        · rw [if_neg c7] at H
          exact absurd H (by simp)
        rw [if_pos c7] at H
        obtain ⟨u, hA, H⟩ := Option.bind_eq_some_iff.mp H
        obtain ⟨ad, A3, c3, e3, l3, hel⟩ := deaddropref1_put.elem HR.out x5 c7 c6
        subst e3
        have A8 := Aside0.mk hA
        have H' := Aside0.mk H
        obtain ⟨⟨hy0, hy1, hy2, hy3⟩, _⟩ := hel _ HI.out.kept
        have HEL := Aside0.mk hel
        have HL3 := Aside0.mk l3
        clear hA H hel l3
        have c6b := decide_eq_true c6
        have c7b := decide_eq_true c7
        go_wp2_with (((with_reducible refine gate_callee (f := 28) rfl ?_); refine goesL_ (some 52) rfl rfl Try.func28 (by kernel_rfl) rfl #[u0, .agg #[.int .i64 (rd_T51 l1_3 x5).f0, .int .i64 (rd_T51 l1_3 x5).f1, .string (rd_T51 l1_3 x5).f2, .slice A3 (rd_T51 l1_3 x5).f3.length c3]] rfl (by (try simp only [List.map_toArray, List.map_cons, List.map_nil]); first | done | rfl) ?_; refine (IH.out k1 (by have := HK1.out; omega) (fun k_ => some k_ = (u0 : Value).ownBlock) u0 x0 _ _ _ A3 c3 _ u w0 _ HI.out.below (Kd.R_tight rfl HI.out.own) (fun W_ hW => (HEL.out W_ (HI.out.kept.then_ hW (fun k_ e_ => HI.out.own.1 k_ e_.symm))).2) HL3.out A8.out).mono ?_; rintro e w4 ⟨v0, rfl, ho, hb, hk⟩; refine ⟨_, rfl, ?_⟩; have n0_ := Aside0.mk (HI.out.rec_ ho hb hk); clear HI ho hb hk; have HI := n0_; clear n0_))
        go_roundg k1
        case measure => have := HK1.out; omega
        case rel => exact ⟨u, wrap64 (x5 + 1), (by first | rfl | (simp; done) | (simp [*]; done) | (simp; exact isEmpty_bne_ _)), H', ⟨by have := HK1.out; omega⟩, HI⟩
      · rw [if_neg c6] at H
        have HE := Aside0.mk (Option.some.inj H)
        have c6b := decide_eq_false c6
        clear H c6
        go_wp2
        go_ret
        exact ⟨_, rfl, by rw [← HE.out]; exact HI.out.own, HI.out.below, HI.out.kept⟩

/-! ### deaddropref1_PutWire: function 26 -/
def deaddropref1_PutWire.f (k : Nat) (a0_0 : Int) (a0_1 : Int) (a0_2 : ByteArray) (l0_3 : List (S51)) : Option (ByteArray) := (deaddropref1_MayWire.f k a0_0 a0_1 a0_2 l0_3).bind fun t145 => (if t145 = true then ((deaddropref1_put.f k ([] : List Int) a0_0 a0_1 a0_2 l0_3).bind fun t146 => (some (strOfNums t146))) else (some (⟨#[]⟩ : ByteArray)))
theorem deaddropref1_PutWire.mono : ∀ a0 a1 a2 a3 k, LeO (deaddropref1_PutWire.f k a0 a1 a2 a3) (deaddropref1_PutWire.f (k + 1) a0 a1 a2 a3) := by
  intro a0 a1 a2 a3 k
  unfold deaddropref1_PutWire.f
  repeat' first
      | (with_reducible exact deaddropref1_MayWire.mono _ _ _ _ _)
      | (with_reducible exact deaddropref1_put.mono _ _ _ _ _ _)
      | (with_reducible exact LeO.refl _)
      | (with_reducible exact LeO.none _)
      | (with_reducible refine LeO.ite ?_ ?_)
      | (with_reducible refine LeO.bind ?_ (fun _ => ?_))
      | exact deaddropref1_MayWire.mono _ _ _ _ _
      | exact deaddropref1_put.mono _ _ _ _ _ _
      | exact LeO.none _
      | refine LeO.ite ?_ ?_
      | refine LeO.bind ?_ (fun _ => ?_)
set_option maxHeartbeats 8000000 in
set_option maxRecDepth 100000 in
theorem deaddropref1_PutWire.calls (k : Nat) (a0_0 : Int) (a0_1 : Int) (a0_2 : ByteArray) (A0_3 : Option Addr) (c0_3 : Nat) (l0_3 : List (S51)) (r : ByteArray) (w : World) (hr0_3 : Kd.C k51 w A0_3 l0_3.length l0_3) (hc0_3 : l0_3.length ≤ c0_3) (h : deaddropref1_PutWire.f k a0_0 a0_1 a0_2 l0_3 = some r) :
    Calls Try.prog 26 #[.agg #[.int .i64 a0_0, .int .i64 a0_1, .string a0_2, .slice A0_3 l0_3.length c0_3]] w fun e w' => e = .returned (.string r) ∧ Below w.heap.size w w' := by
  have hu51 := Try.underlying51
  have HR0_3 := Aside0.mk hr0_3
  have HC0_3 := Aside0.mk hc0_3
  clear hr0_3 hc0_3
  have HB := Aside0.mk (Below.refl w.heap.size w)
  have H : ((deaddropref1_MayWire.f k a0_0 a0_1 a0_2 l0_3).bind fun t145 => (if t145 = true then ((deaddropref1_put.f k ([] : List Int) a0_0 a0_1 a0_2 l0_3).bind fun t146 => (some (strOfNums t146))) else (some (⟨#[]⟩ : ByteArray)))) = some r := h
  clear h
  replace H := Option.bind_eq_some_iff.mp H
  obtain ⟨t145, A20, H⟩ := H
  replace H : (if t145 = true then ((deaddropref1_put.f k ([] : List Int) a0_0 a0_1 a0_2 l0_3).bind fun t146 => (some (strOfNums t146))) else (some (⟨#[]⟩ : ByteArray))) = some r := H
  have A2 := Aside0.mk A20
  clear A20
  by_cases c3 : t145 = true
  · subst c3
    have H1 : ((deaddropref1_put.f k ([] : List Int) a0_0 a0_1 a0_2 l0_3).bind fun t146 => (some (strOfNums t146))) = some r := by rw [if_pos rfl] at H; exact H
    clear H
    have H := H1
    clear H1
    replace H := Option.bind_eq_some_iff.mp H
    obtain ⟨t146, A40, H⟩ := H
    replace H : (some (strOfNums t146)) = some r := H
    have A4 := Aside0.mk A40
    clear A40
    as_aux_lemma =>
      obtain rfl := Option.some.inj H
      go_enter Try.func26, Try.ntmps26
      go_wp2_with (first | ((with_reducible refine gate_dst (N := 1) rfl ?_); refine box_event ?hg (N := 1) ?hd (cs := #[.int .i64 a0_0, .int .i64 a0_1, .string a0_2, .slice A0_3 l0_3.length c0_3]) (t := 51) ?hr ?_; (case hd => rfl); (case hg => rfl); (case hr => first | (go_simp; done) | (go_simp; rfl)); intro gb144 hg w5 hbox hb; have n0_ := Aside0.mk (below_step (by repeat (first | (with_reducible first | exact HB.out | apply below_alloc | apply pw_below_drewN | apply below_drew1) | exact HB.out)) hb); have n1_ := Aside0.mk (hbox); have n2_ := Aside0.mk ((by rw [hg]; exact (below_size (by repeat (first | (with_reducible first | exact HB.out | apply below_alloc | apply pw_below_drewN | apply below_drew1) | exact HB.out))) : w.heap.size ≤ gb144)); have n3_ := Aside0.mk ((by rw [hg]; exact (below_size (by repeat (first | (with_reducible first | exact HB.out | apply below_alloc | apply pw_below_drewN | apply below_drew1) | exact HB.out))) : w.heap.size ≤ gb144)); clear HB; have HB := n0_; have BK144 := n1_; have GW144 := n2_; have GE144 := n3_; clear n0_ n1_ n2_ n3_; clear hb hbox hg; have hcz6_0 : w5.cell? ⟨gb144, 0, none⟩ = some (.int .i64 a0_0) := (blk_cell BK144.out 0).trans rfl; have hcz6_1 : w5.cell? ⟨gb144, 1, none⟩ = some (.int .i64 a0_1) := (blk_cell BK144.out 1).trans rfl; have hcz6_2 : w5.cell? ⟨gb144, 2, none⟩ = some (.string a0_2) := (blk_cell BK144.out 2).trans rfl; have hcz6_3 : w5.cell? ⟨gb144, 3, none⟩ = some (.slice A0_3 l0_3.length c0_3) := (blk_cell BK144.out 3).trans rfl; have hfz6_0 := blk_frozen BK144.out 0; have hfz6_1 := blk_frozen BK144.out 1; have hfz6_2 := blk_frozen BK144.out 2; have hfz6_3 := blk_frozen BK144.out 3) | ((with_reducible refine gate_callee (f := 27) rfl ?_); refine goesL_ (some 4) rfl rfl Try.func27 (by kernel_rfl) rfl #[.agg #[.int .i64 a0_0, .int .i64 a0_1, .string a0_2, .slice A0_3 l0_3.length c0_3]] rfl (by (try simp only [List.map_toArray, List.map_cons, List.map_nil]); first | done | rfl | (simp only [List.length_drop, List.length_take]; rfl)) ?_; (with_reducible refine (deaddropref1_MayWire.calls k a0_0 a0_1 a0_2 _ _ l0_3 true _ ?side1 ?side2 A2.out).mono ?_); (case side1 => repeat (first | exact (Kd.C_below HR0_3.out HB.out) | (with_reducible refine Kd.C_alloc ?_ _) | (with_reducible refine Kd.C_drewN ?_ _) | (with_reducible refine Kd.C_drew ?_))); (case side2 => exact HC0_3.out); rintro e w7 ⟨rfl, hb⟩; refine ⟨_, rfl, ?_⟩; have n0_ := Aside0.mk (blk_below (g := gb144) (o := .cells #[.int .i64 a0_0, .int .i64 a0_1, .string a0_2, .slice A0_3 l0_3.length c0_3] 51 (0, 0)) (by (with_reducible repeat (first | refine blk_drewN ?_ _ | refine blk_drew ?_ | refine blk_alloc ?_ _)); exact BK144.out) hb); have n1_ := Aside0.mk (below_step (by repeat (first | (with_reducible first | exact HB.out | apply below_alloc | apply pw_below_drewN | apply below_drew1 | refine below_set ?_ GE144.out) | exact HB.out)) hb); clear BK144; clear HB; have BK144 := n0_; have HB := n1_; clear n0_ n1_; (try clear hb); (try clear hb2); (try clear hk); (try clear hi); have hcz8_0 : w7.cell? ⟨gb144, 0, none⟩ = some (.int .i64 a0_0) := (blk_cell BK144.out 0).trans rfl; have hcz8_1 : w7.cell? ⟨gb144, 1, none⟩ = some (.int .i64 a0_1) := (blk_cell BK144.out 1).trans rfl; have hcz8_2 : w7.cell? ⟨gb144, 2, none⟩ = some (.string a0_2) := (blk_cell BK144.out 2).trans rfl; have hcz8_3 : w7.cell? ⟨gb144, 3, none⟩ = some (.slice A0_3 l0_3.length c0_3) := (blk_cell BK144.out 3).trans rfl; have hfz8_0 := blk_frozen BK144.out 0; have hfz8_1 := blk_frozen BK144.out 1; have hfz8_2 := blk_frozen BK144.out 2; have hfz8_3 := blk_frozen BK144.out 3) | ((with_reducible refine gate_callee (f := 28) rfl ?_); refine goesL_ (some 7) rfl rfl Try.func28 (by kernel_rfl) rfl #[.slice none 0 0, .agg #[.int .i64 a0_0, .int .i64 a0_1, .string a0_2, .slice A0_3 l0_3.length c0_3]] rfl (by (try simp only [List.map_toArray, List.map_cons, List.map_nil]); first | done | rfl | (simp only [List.length_drop, List.length_take]; rfl)) ?_; (refine (deaddropref1_put.calls k (fun k_ => some k_ = (.slice none 0 0 : Value).ownBlock) (.slice none 0 0) ([] : List Int) a0_0 a0_1 a0_2 _ _ l0_3 t146 w _ ?side1 ?side2 ?side3 ?side4 A4.out).mono ?_); (case side1 => repeat (first | (with_reducible first | exact HB.out | apply below_alloc | apply pw_below_drewN | apply below_drew1 | refine below_set ?_ GE144.out) | exact HB.out)); (case side2 => exact Kd.R_nil _ _ _ _ _); (case side3 => exact Kd.C_kept_came k51_heap HR0_3.out (by repeat (first | (with_reducible first | exact HB.out | apply below_alloc | apply pw_below_drewN | apply below_drew1 | refine below_set ?_ GE144.out) | exact HB.out)) (fun k_ hs_ => (fun e_ => by simp [Value.ownBlock] at e_) hs_)); (case side4 => exact HC0_3.out); rintro e w9 ⟨v147, rfl, ho0, hb, hkp⟩; refine ⟨_, rfl, ?_⟩; have n0_ := Aside0.mk (blk_kept (by (with_reducible repeat (first | refine blk_drewN ?_ _ | refine blk_drew ?_ | refine blk_alloc ?_ _)); exact BK144.out) hkp (fun hs_ => (fun e_ => by simp [Value.ownBlock] at e_) hs_)); have n1_ := Aside0.mk (Kd.R_mono (ok' := fun k_ => True) ho0 (fun k_ hk_ => trivial)); have n2_ := Aside0.mk (hb); clear BK144; clear HB; have BK144 := n0_; have HO148 := n1_; have HB := n2_; clear n0_ n1_ n2_; (try clear hb); (try clear hkp); (try clear ho0); have hcv10 := own_string (P := Try.prog) Try.underlying28 Try.underlying5 Try.underlying9 (Kd.own_of_R HO148.out)))
      go_ret
      exact ⟨by first | rfl | (simp [errW_none, errW_some] <;> rfl) | (simp [*, errW_none, errW_some] <;> rfl), by repeat (first | (with_reducible first | exact HB.out | apply below_alloc | apply pw_below_drewN | apply below_drew1 | refine below_set ?_ GE144.out) | exact HB.out)⟩
  · replace c3 := Bool.eq_false_iff.mpr c3
    subst c3
    have H1 : (some (⟨#[]⟩ : ByteArray)) = some r := by rw [if_neg (show ¬ (false = true) by decide)] at H; exact H
    clear H
    have H := H1
    clear H1
    as_aux_lemma =>
      obtain rfl := Option.some.inj H
      go_enter Try.func26, Try.ntmps26
      go_wp2_with (first | ((with_reducible refine gate_dst (N := 1) rfl ?_); refine box_event ?hg (N := 1) ?hd (cs := #[.int .i64 a0_0, .int .i64 a0_1, .string a0_2, .slice A0_3 l0_3.length c0_3]) (t := 51) ?hr ?_; (case hd => rfl); (case hg => rfl); (case hr => first | (go_simp; done) | (go_simp; rfl)); intro gb144 hg w11 hbox hb; have n0_ := Aside0.mk (below_step (by repeat (first | (with_reducible first | exact HB.out | apply below_alloc | apply pw_below_drewN | apply below_drew1) | exact HB.out)) hb); have n1_ := Aside0.mk (hbox); have n2_ := Aside0.mk ((by rw [hg]; exact (below_size (by repeat (first | (with_reducible first | exact HB.out | apply below_alloc | apply pw_below_drewN | apply below_drew1) | exact HB.out))) : w.heap.size ≤ gb144)); have n3_ := Aside0.mk ((by rw [hg]; exact (below_size (by repeat (first | (with_reducible first | exact HB.out | apply below_alloc | apply pw_below_drewN | apply below_drew1) | exact HB.out))) : w.heap.size ≤ gb144)); clear HB; have HB := n0_; have BK144 := n1_; have GW144 := n2_; have GE144 := n3_; clear n0_ n1_ n2_ n3_; clear hb hbox hg; have hcz12_0 : w11.cell? ⟨gb144, 0, none⟩ = some (.int .i64 a0_0) := (blk_cell BK144.out 0).trans rfl; have hcz12_1 : w11.cell? ⟨gb144, 1, none⟩ = some (.int .i64 a0_1) := (blk_cell BK144.out 1).trans rfl; have hcz12_2 : w11.cell? ⟨gb144, 2, none⟩ = some (.string a0_2) := (blk_cell BK144.out 2).trans rfl; have hcz12_3 : w11.cell? ⟨gb144, 3, none⟩ = some (.slice A0_3 l0_3.length c0_3) := (blk_cell BK144.out 3).trans rfl; have hfz12_0 := blk_frozen BK144.out 0; have hfz12_1 := blk_frozen BK144.out 1; have hfz12_2 := blk_frozen BK144.out 2; have hfz12_3 := blk_frozen BK144.out 3) | ((with_reducible refine gate_callee (f := 27) rfl ?_); refine goesL_ (some 4) rfl rfl Try.func27 (by kernel_rfl) rfl #[.agg #[.int .i64 a0_0, .int .i64 a0_1, .string a0_2, .slice A0_3 l0_3.length c0_3]] rfl (by (try simp only [List.map_toArray, List.map_cons, List.map_nil]); first | done | rfl | (simp only [List.length_drop, List.length_take]; rfl)) ?_; (with_reducible refine (deaddropref1_MayWire.calls k a0_0 a0_1 a0_2 _ _ l0_3 false _ ?side1 ?side2 A2.out).mono ?_); (case side1 => repeat (first | exact (Kd.C_below HR0_3.out HB.out) | (with_reducible refine Kd.C_alloc ?_ _) | (with_reducible refine Kd.C_drewN ?_ _) | (with_reducible refine Kd.C_drew ?_))); (case side2 => exact HC0_3.out); rintro e w13 ⟨rfl, hb⟩; refine ⟨_, rfl, ?_⟩; have n0_ := Aside0.mk (blk_below (g := gb144) (o := .cells #[.int .i64 a0_0, .int .i64 a0_1, .string a0_2, .slice A0_3 l0_3.length c0_3] 51 (0, 0)) (by (with_reducible repeat (first | refine blk_drewN ?_ _ | refine blk_drew ?_ | refine blk_alloc ?_ _)); exact BK144.out) hb); have n1_ := Aside0.mk (below_step (by repeat (first | (with_reducible first | exact HB.out | apply below_alloc | apply pw_below_drewN | apply below_drew1 | refine below_set ?_ GE144.out) | exact HB.out)) hb); clear BK144; clear HB; have BK144 := n0_; have HB := n1_; clear n0_ n1_; (try clear hb); (try clear hb2); (try clear hk); (try clear hi)))
      go_ret
      exact ⟨by first | rfl | (simp [errW_none, errW_some] <;> rfl) | (simp [*, errW_none, errW_some] <;> rfl), by repeat (first | (with_reducible first | exact HB.out | apply below_alloc | apply pw_below_drewN | apply below_drew1 | refine below_set ?_ GE144.out) | exact HB.out)⟩

end Go.Proofs.Ytjmehnlhfcidaaa.P
