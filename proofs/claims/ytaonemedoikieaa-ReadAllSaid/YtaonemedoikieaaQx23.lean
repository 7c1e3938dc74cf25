-- Written by a program of this work (wip/tools/mkprint.py) over the kit's print; Lean checks it.
import Derived.Test.YtaonemedoikieaaQx0
import Derived.Test.YtaonemedoikieaaQx11
import Derived.Test.YtaonemedoikieaaHAbb
namespace Go.Proofs.Ytaonemedoikieaa.Q
open Go.RowKit Go.Proofs.YtaonemedoikieaaW.PrintWords Go.Proofs.YtaonemedoikieaaW.PrintLast Go.Proofs.YtaonemedoikieaaW.PrintMore Go.Proofs.Ytaonemedoikieaa.AB
attribute [local go_sem] max2_int min2_int max_two min_two max_three min_three max_four min_four   -- for this text's walks alone
set_option linter.unusedVariables false
set_option linter.unusedSimpArgs false

/-! ### read_Keys: function 19 -/
def read_Keys.l0 : Nat → List ByteArray → List (S34) → Int → Int → Option (List ByteArray)
 | 0, _, _, _, _ => none
 | k + 1, x3, x7, x8, x9 => if x9 < x8 then (if 0 ≤ x9 then (if x9 < (x7.length : Int) then (if x3.length < 8796093022208 then (read_Keys.l0 k (x3 ++ [(rd_T34 x7 x9).f1]) x7 x8 (wrap64 (x9 + 1))) else (none)) else (none)) else (none)) else ((read_set.f x3).bind fun t429 => (some t429))
def read_Keys.f (k : Nat) (l0_0 : List (S70)) (l0_1 : List (S34)) : Option (List ByteArray) := read_Keys.l0 k ([] : List ByteArray) l0_1 (l0_1.length : Int) 0
theorem read_Keys.mono_l : ∀ k, (∀ y0 y1 y2 y3, LeO (read_Keys.l0 k y0 y1 y2 y3) (read_Keys.l0 (k + 1) y0 y1 y2 y3))
 | 0 => fun _ _ _ _ r h => by simp [read_Keys.l0] at h
 | k + 1 => by
  have ih0 := read_Keys.mono_l k
  ·
   intro y0 y1 y2 y3
   unfold read_Keys.l0
   repeat' first
   | (with_reducible exact ih0 _ _ _ _)
   | (with_reducible exact LeO.refl _)
   | (with_reducible exact LeO.none _)
   | (with_reducible refine LeO.ite ?_ ?_)
   | (with_reducible refine LeO.bind ?_ (fun _ => ?_))
   | exact ih0 _ _ _ _
   | exact LeO.none _
   | refine LeO.ite ?_ ?_
   | refine LeO.bind ?_ (fun _ => ?_)
theorem read_Keys.mono : ∀ a0 a1 k, LeO (read_Keys.f k a0 a1) (read_Keys.f (k + 1) a0 a1) := by
 intro a0 a1 k
 have ih0 := read_Keys.mono_l k
 unfold read_Keys.f
 repeat' first
  | (with_reducible exact ih0 _ _ _ _)
  | (with_reducible exact LeO.refl _)
  | (with_reducible exact LeO.none _)
  | (with_reducible refine LeO.ite ?_ ?_)
  | (with_reducible refine LeO.bind ?_ (fun _ => ?_))
  | exact ih0 _ _ _ _
  | exact LeO.none _
  | refine LeO.ite ?_ ?_
  | refine LeO.bind ?_ (fun _ => ?_)
set_option maxHeartbeats 8000000 in
set_option maxRecDepth 100000 in
theorem read_Keys.calls (k : Nat) (A0_0 : Option Addr) (c0_0 : Nat) (l0_0 : List (S70)) (A0_1 : Option Addr) (c0_1 : Nat) (l0_1 : List (S34)) (r : List ByteArray) (w : World) (hr0_0 : Kd.C k70 w A0_0 l0_0.length l0_0) (hc0_0 : l0_0.length ≤ c0_0) (hr0_1 : Kd.C k34 w A0_1 l0_1.length l0_1) (hc0_1 : l0_1.length ≤ c0_1) (h : read_Keys.f k l0_0 l0_1 = some r) :
 Calls Try.prog 19 #[.agg #[.slice A0_0 l0_0.length c0_0, .slice A0_1 l0_1.length c0_1]] w fun e w' => ∃ v0_ : Value, e = .returned (v0_) ∧ Kd.R Kd.string 9 w' w.heap.size (fun _ => True) v0_ r ∧ Below w.heap.size w w' := by
 have hu28 := Try.underlying28
 have hu34 := Try.underlying34
 have HR0_0 := Aside0.mk hr0_0
 have HC0_0 := Aside0.mk hc0_0
 clear hr0_0 hc0_0
 have HR0_1 := Aside0.mk hr0_1
 have HC0_1 := Aside0.mk hc0_1
 clear hr0_1 hc0_1
 have HB := Aside0.mk (Below.refl w.heap.size w)
 have H : (read_Keys.l0 k ([] : List ByteArray) l0_1 (l0_1.length : Int) 0) = some r := h
 clear h
 have H' := Aside0.mk H
 clear H
 go_enter Try.func19, Try.ntmps19
 go_wp2_with (first | ((with_reducible refine gate_dst (N := 1) rfl ?_); refine box_event ?hg (N := 1) ?hd (cs := #[.slice A0_0 l0_0.length c0_0, .slice A0_1 l0_1.length c0_1]) (t := 28) ?hr ?_; (case hd => rfl); (case hg => rfl); (case hr => first | (go_simp; done) | (go_simp; rfl)); intro gb423 hg w2 hbox hb; have BK423 := Aside0.mk (hbox); have GW423 := Aside0.mk ((by rw [hg]; exact (below_size (bw HB.out)) : w.heap.size ≤ gb423)); have GE423 := Aside0.mk ((by rw [hg]; exact (below_size (bw HB.out)) : w.heap.size ≤ gb423)); replace HB := Aside0.mk (below_step (bw HB.out) hb); clear hb hbox hg; have hcz3_0 : w2.cell? ⟨gb423, 0, none⟩ = some (.slice A0_0 l0_0.length c0_0) := (blk_cell BK423.out 0).trans rfl; have hcz3_1 : w2.cell? ⟨gb423, 1, none⟩ = some (.slice A0_1 l0_1.length c0_1) := (blk_cell BK423.out 1).trans rfl; have hfz3_0 := blk_frozen BK423.out 0; have hfz3_1 := blk_frozen BK423.out 1))
 go_loopg [3, 9] k (fun kq v3 v9 w' => ∃ (x3_1 : List ByteArray) (x9_1 : Int), v9 = .int .i64 x9_1 ∧ Aside0 (read_Keys.l0 kq x3_1 l0_1 (l0_1.length : Int) x9_1 = some r) ∧ Aside0 (kq ≤ k) ∧ Aside0 (Kd.R Kd.string 9 w' w.heap.size (fun _ => True) v3 x3_1) ∧ Aside0 (w'.heap[gb423]? = some (.cells #[(.slice A0_0 l0_0.length c0_0), (.slice A0_1 l0_1.length c0_1)] 28 (0, 0))) ∧ Aside0 (Below w.heap.size w w'))
 case atStart => exact ⟨(([] : List ByteArray)), (0), ok_, H', ⟨Nat.le_refl _⟩, ⟨by first | exact Kd.R_nil _ _ _ _ _ | exact Kd.N_nil _ _ _ _ _ | exact Kd.V_nil _ _ _ _ _ | exact Kd.Q_nil _ _ _ _ _ | exact Kd.S_nil _ _ _ _ _⟩, ⟨by (with_reducible repeat (first | refine blk_drewN ?_ _ | refine blk_drew ?_ | refine blk_alloc ?_ _)); exact BK423.out⟩, ⟨by repeat (first | (with_reducible first | exact HB.out | apply below_alloc | apply pw_below_drewN | apply below_drew1 | refine below_set ?_ GE423.out) | exact HB.out)⟩⟩
 case round =>
  clear H'
  try clear c1
  try clear p2
  try clear hcz3_0
  try clear hcz3_1
  try clear hfz3_0
  try clear hfz3_1
  obtain ⟨x3_1, x9_1, rfl, HA, HK1, HO_3, BK423, HB⟩ := hrel
  cases gk with
  | zero => exact absurd HA.out (by simp [read_Keys.l0])
  | succ k1 =>
   have H := HA.out
   clear HA
   simp only [read_Keys.l0] at H
   by_cases c4 : x9_1 < (l0_1.length : Int)
   ·
    rw [if_pos c4] at H
    have c4b0 : decide (x9_1 < (l0_1.length : Int)) = true := decide_eq_true c4
    clear c4
    by_cases c5 : 0 ≤ x9_1
    rotate_left
    ·
     rw [if_neg c5] at H
     exact absurd H (by simp)
    rw [if_pos c5] at H
    have c5b0 : decide (0 ≤ x9_1) = true := decide_eq_true c5
    clear c5
    by_cases c6 : x9_1 < (l0_1.length : Int)
    rotate_left
    ·
     rw [if_neg c6] at H
     exact absurd H (by simp)
    rw [if_pos c6] at H
    have c6b0 : decide (x9_1 < (l0_1.length : Int)) = true := decide_eq_true c6
    clear c6
    by_cases c7 : x3_1.length < 8796093022208
    rotate_left
    ·
     rw [if_neg c7] at H
     exact absurd H (by simp)
    rw [if_pos c7] at H
    have LMc7 := Aside0.mk c7
    clear c7
    obtain ⟨y426, hy426⟩ : ∃ y_ : List ByteArray, y_ = (x3_1 ++ [(rd_T34 l0_1 x9_1).f1]) := ⟨_, rfl⟩
    replace H : (read_Keys.l0 k1 y426 l0_1 (l0_1.length : Int) (wrap64 (x9_1 + 1))) = some r := by first | (rw [hy426]; with_reducible exact H) | (have H2_ := (Option.bind_some _ _).symm.trans H; rw [hy426]; with_reducible exact H2_) | (have H2_ := (Option.bind_some _ _).symm.trans H; with_reducible exact H2_) | with_reducible exact H | (rw [hy426]; exact H) | exact H
    have Ny426 := Aside0.mk hy426
    clear hy426
    have H' := Aside0.mk H
    clear H
    have p424 : 0 ≤ (x9_1 : Int) := of_decide_eq_true as_
    have q424 : x9_1 < (l0_1.length : Int) := of_decide_eq_true as_
    obtain ⟨ad424, e424, hx424_0, hx424_1, hx424_2, hx424_3, hx424_4, hx424_5⟩ := at_T34 HR0_1.out x9_1 p424 q424
    cases e424
    replace hx424_0 := (HB.out.cell (World.block_lt_of_cell? w _ hx424_0)).trans hx424_0
    replace hx424_1 := (HB.out.cell (World.block_lt_of_cell? w _ hx424_1)).trans hx424_1
    replace hx424_2 := (HB.out.cell (World.block_lt_of_cell? w _ hx424_2)).trans hx424_2
    replace hx424_3 := (HB.out.cell (World.block_lt_of_cell? w _ hx424_3)).trans hx424_3
    replace hx424_4 := (HB.out.cell (World.block_lt_of_cell? w _ hx424_4)).trans hx424_4
    replace hx424_5 := (HB.out.cell (World.block_lt_of_cell? w _ hx424_5)).trans hx424_5
    replace p424 := eq_true p424
    replace q424 := eq_true q424
    go_wp2_with (first | ((with_reducible refine gate_dst (N := 5) rfl ?_); refine box_event ?hg (N := 5) ?hd (cs := #[.int .i64 0, .int .i64 0, .string (⟨#[]⟩ : ByteArray), .int .i64 0, .string (⟨#[]⟩ : ByteArray), .int .i64 0]) (t := 34) ?hr ?_; (case hd => rfl); (case hg => rfl); (case hr => first | (go_simp; done) | (go_simp; rfl)); intro gb425 hg w8 hbox hb; replace HO_3 := Aside0.mk (Kd.R_below (rk HO_3.out) hb); have BK425 := Aside0.mk (hbox); have GW425 := Aside0.mk ((by rw [hg]; exact (below_size (bw1 HB.out GE423.out)) : w.heap.size ≤ gb425)); have GE425 := Aside0.mk ((by rw [hg]; exact (below_size (bw1 HB.out GE423.out)) : w.heap.size ≤ gb425)); replace HB := Aside0.mk (below_step (bw1 HB.out GE423.out) hb); have NB423_425 := Aside0.mk ((by rw [hg]; exact Nat.ne_of_lt (blk_lt (g := gb423) (o := .cells #[.slice A0_0 l0_0.length c0_0, .slice (some ad424) l0_1.length c0_1] 28 (0, 0)) (bk BK423.out)) : gb423 ≠ gb425)); have NB425_423 := Aside0.mk ((by rw [hg]; exact Nat.ne_of_gt (blk_lt (g := gb423) (o := .cells #[.slice A0_0 l0_0.length c0_0, .slice (some ad424) l0_1.length c0_1] 28 (0, 0)) (bk BK423.out)) : gb425 ≠ gb423)); replace BK423 := Aside0.mk (blk_below (g := gb423) (o := .cells #[.slice A0_0 l0_0.length c0_0, .slice (some ad424) l0_1.length c0_1] 28 (0, 0)) (bk BK423.out) hb); clear hb hbox hg; have hnb9 := NB425_423.out; have hnc9 := NB423_425.out; have hcz10_0 : w8.cell? ⟨gb425, 0, none⟩ = some (.int .i64 0) := (blk_cell BK425.out 0).trans rfl; have hcz10_1 : w8.cell? ⟨gb425, 1, none⟩ = some (.int .i64 0) := (blk_cell BK425.out 1).trans rfl; have hcz10_2 : w8.cell? ⟨gb425, 2, none⟩ = some (.string (⟨#[]⟩ : ByteArray)) := (blk_cell BK425.out 2).trans rfl; have hcz10_3 : w8.cell? ⟨gb425, 3, none⟩ = some (.int .i64 0) := (blk_cell BK425.out 3).trans rfl; have hcz10_4 : w8.cell? ⟨gb425, 4, none⟩ = some (.string (⟨#[]⟩ : ByteArray)) := (blk_cell BK425.out 4).trans rfl; have hcz10_5 : w8.cell? ⟨gb425, 5, none⟩ = some (.int .i64 0) := (blk_cell BK425.out 5).trans rfl; have hfz10_0 := blk_frozen BK425.out 0; have hfz10_1 := blk_frozen BK425.out 1; have hfz10_2 := blk_frozen BK425.out 2; have hfz10_3 := blk_frozen BK425.out 3; have hfz10_4 := blk_frozen BK425.out 4; have hfz10_5 := blk_frozen BK425.out 5) | ((with_reducible refine gate_builtin (b := .append) (xs := #[.tmp 13, .tmp 16]) rfl ?_); at_builtin; refine Kd.R_append Kd.string (w0 := w) w.heap.size rfl (.tmp 13) (.tmp 16) 45 9 (.string ⟨#[]⟩) 16 rfl Try.underlying45 info9 rfl (by decide) (by omega) u3 x3_1 ((rd_T34 l0_1 x9_1).f1) [.string ((rd_T34 l0_1 x9_1).f1)] (fun _ => True) (fun _ => False) rfl (by first | (go_simp; done) | (go_simp; rfl)) ?aP (fun _ hk => hk.elim) ?aF ?aO ?aB ?aS ?aL ?_; (case aP => exact rfl); (case aB => exact (bw2 HB.out GE423.out GE425.out)); (case aF => exact (fun _ _ => trivial)); (case aO => exact (by (with_reducible repeat (first | apply Kd.R_alloc | apply Kd.R_drewN | apply Kd.R_drew)); exact Kd.R_mono (Kd.R_far (p := ⟨gb425, 5, none⟩) (Kd.R_far (p := ⟨gb425, 4, none⟩) (Kd.R_far (p := ⟨gb425, 3, none⟩) (Kd.R_far (p := ⟨gb425, 2, none⟩) (Kd.R_far (p := ⟨gb425, 1, none⟩) (Kd.R_far (p := ⟨gb425, 0, none⟩) (Kd.R_types HO_3.out BK425.out (by decide)) (fun _ hk => hk.2) (.int .i64 ((rd_T34 l0_1 x9_1).f0.f0))) (fun _ hk => hk.2) (.int .i64 ((rd_T34 l0_1 x9_1).f0.f1))) (fun _ hk => hk.2) (.string ((rd_T34 l0_1 x9_1).f1))) (fun _ hk => hk.2) (.int .i64 ((rd_T34 l0_1 x9_1).f2))) (fun _ hk => hk.2) (.string ((rd_T34 l0_1 x9_1).f3))) (fun _ hk => hk.2) (.int .i64 ((rd_T34 l0_1 x9_1).f4))) (fun _ hk => trivial))); (case aS => exact (below_size (bw2 HB.out GE423.out GE425.out))); (case aL => have := LMc7.out; omega); intro v427 w11 ho hb hg hat; rw [← Ny426.out] at ho; replace BK423 := Aside0.mk (blk_grown (g := gb423) (o := .cells #[.slice A0_0 l0_0.length c0_0, .slice (some ad424) l0_1.length c0_1] 28 (0, 0)) (by (with_reducible repeat (first | refine blk_drewN ?_ _ | refine blk_drew ?_ | refine blk_alloc ?_ _)); refine blk_far ?_ NB423_425.out _; (with_reducible repeat (first | refine blk_drewN ?_ _ | refine blk_drew ?_ | refine blk_alloc ?_ _)); refine blk_far ?_ NB423_425.out _; (with_reducible repeat (first | refine blk_drewN ?_ _ | refine blk_drew ?_ | refine blk_alloc ?_ _)); refine blk_far ?_ NB423_425.out _; (with_reducible repeat (first | refine blk_drewN ?_ _ | refine blk_drew ?_ | refine blk_alloc ?_ _)); refine blk_far ?_ NB423_425.out _; (with_reducible repeat (first | refine blk_drewN ?_ _ | refine blk_drew ?_ | refine blk_alloc ?_ _)); refine blk_far ?_ NB423_425.out _; (with_reducible repeat (first | refine blk_drewN ?_ _ | refine blk_drew ?_ | refine blk_alloc ?_ _)); refine blk_far ?_ NB423_425.out _; (with_reducible repeat (first | refine blk_drewN ?_ _ | refine blk_drew ?_ | refine blk_alloc ?_ _)); exact BK423.out) hg (Kd.R_ne HO_3.out BK423.out (by decide))); replace BK425 := Aside0.mk (blk_grown (g := gb425) (o := .cells #[.int .i64 ((rd_T34 l0_1 x9_1).f0.f0), .int .i64 ((rd_T34 l0_1 x9_1).f0.f1), .string ((rd_T34 l0_1 x9_1).f1), .int .i64 ((rd_T34 l0_1 x9_1).f2), .string ((rd_T34 l0_1 x9_1).f3), .int .i64 ((rd_T34 l0_1 x9_1).f4)] 34 (0, 0)) (by (with_reducible repeat (first | refine blk_drewN ?_ _ | refine blk_drew ?_ | refine blk_alloc ?_ _)); refine blk_put (cs := #[.int .i64 ((rd_T34 l0_1 x9_1).f0.f0), .int .i64 ((rd_T34 l0_1 x9_1).f0.f1), .string ((rd_T34 l0_1 x9_1).f1), .int .i64 ((rd_T34 l0_1 x9_1).f2), .string ((rd_T34 l0_1 x9_1).f3), .int .i64 0]) ?_ 5 _ rfl; (with_reducible repeat (first | refine blk_drewN ?_ _ | refine blk_drew ?_ | refine blk_alloc ?_ _)); refine blk_put (cs := #[.int .i64 ((rd_T34 l0_1 x9_1).f0.f0), .int .i64 ((rd_T34 l0_1 x9_1).f0.f1), .string ((rd_T34 l0_1 x9_1).f1), .int .i64 ((rd_T34 l0_1 x9_1).f2), .string (⟨#[]⟩ : ByteArray), .int .i64 0]) ?_ 4 _ rfl; (with_reducible repeat (first | refine blk_drewN ?_ _ | refine blk_drew ?_ | refine blk_alloc ?_ _)); refine blk_put (cs := #[.int .i64 ((rd_T34 l0_1 x9_1).f0.f0), .int .i64 ((rd_T34 l0_1 x9_1).f0.f1), .string ((rd_T34 l0_1 x9_1).f1), .int .i64 0, .string (⟨#[]⟩ : ByteArray), .int .i64 0]) ?_ 3 _ rfl; (with_reducible repeat (first | refine blk_drewN ?_ _ | refine blk_drew ?_ | refine blk_alloc ?_ _)); refine blk_put (cs := #[.int .i64 ((rd_T34 l0_1 x9_1).f0.f0), .int .i64 ((rd_T34 l0_1 x9_1).f0.f1), .string (⟨#[]⟩ : ByteArray), .int .i64 0, .string (⟨#[]⟩ : ByteArray), .int .i64 0]) ?_ 2 _ rfl; (with_reducible repeat (first | refine blk_drewN ?_ _ | refine blk_drew ?_ | refine blk_alloc ?_ _)); refine blk_put (cs := #[.int .i64 ((rd_T34 l0_1 x9_1).f0.f0), .int .i64 0, .string (⟨#[]⟩ : ByteArray), .int .i64 0, .string (⟨#[]⟩ : ByteArray), .int .i64 0]) ?_ 1 _ rfl; (with_reducible repeat (first | refine blk_drewN ?_ _ | refine blk_drew ?_ | refine blk_alloc ?_ _)); refine blk_put (cs := #[.int .i64 0, .int .i64 0, .string (⟨#[]⟩ : ByteArray), .int .i64 0, .string (⟨#[]⟩ : ByteArray), .int .i64 0]) ?_ 0 _ rfl; (with_reducible repeat (first | refine blk_drewN ?_ _ | refine blk_drew ?_ | refine blk_alloc ?_ _)); exact BK425.out) hg (Kd.R_ne HO_3.out BK425.out (by decide))); replace HB := Aside0.mk (hb); have HO428 := Aside0.mk (ho); clear HO_3; clear ho hb hg hat))
    go_roundg k1
    case measure => have := HK1.out; omega
    case rel => exact ⟨(y426), (wrap64 (x9_1 + 1)), ok_, H', ⟨by have := HK1.out; omega⟩, ⟨by (with_reducible repeat (first | apply Kd.R_alloc | apply Kd.R_drewN | apply Kd.R_drew)); exact HO428.out⟩, ⟨by (with_reducible repeat (first | refine blk_drewN ?_ _ | refine blk_drew ?_ | refine blk_alloc ?_ _)); exact BK423.out⟩, ⟨by repeat (first | (with_reducible first | exact HB.out | apply below_alloc | apply pw_below_drewN | apply below_drew1 | refine below_set ?_ GE423.out | refine below_set ?_ GE425.out) | exact HB.out)⟩⟩
   ·
    rw [if_neg c4] at H
    have c4b0 : decide (x9_1 < (l0_1.length : Int)) = false := decide_eq_false c4
    clear c4
    replace H := Option.bind_eq_some_iff.mp H
    obtain ⟨t429, A120, H⟩ := H
    replace H : (some t429) = some r := H
    have A12 := Aside0.mk A120
    clear A120
    obtain rfl := Option.some.inj H
    obtain ⟨Ao13, co13, eo13⟩ := Kd.R_slice HO_3.out
    subst eo13
    go_wp2_with (first | ((with_reducible refine gate_callee (f := 35) rfl ?_); refine goesL_ (some 20) rfl rfl Try.func35 (by kernel_rfl) rfl #[.slice Ao13 x3_1.length co13] rfl ar_ ?_; (with_reducible refine (read_set.calls (fun k_ => some k_ = (.slice Ao13 x3_1.length co13 : Value).ownBlock) (.slice Ao13 x3_1.length co13) x3_1 t429 w _ ?side1 ?side2 A12.out).mono ?_); (case side1 => repeat (first | (with_reducible first | exact HB.out | apply below_alloc | apply pw_below_drewN | apply below_drew1 | refine below_set ?_ GE423.out) | exact HB.out)); (case side2 => exact Kd.R_tight rfl HO_3.out); rintro e w14 ⟨v430, rfl, ho0, hb, hkp⟩; refine ⟨_, rfl, ?_⟩; replace BK423 := Aside0.mk (blk_kept (bk BK423.out) hkp (fun hs_ => (fun e_ => (Kd.R_ne HO_3.out BK423.out (by decide)) e_) hs_)); have HO431 := Aside0.mk (Kd.R_mono (ok' := fun k_ => True) ho0 (fun k_ hk_ => trivial)); replace HB := Aside0.mk (hb); clear HO_3; (try clear hb); (try clear hkp); (try clear ho0)))
    go_ret
    exact ⟨_, by first | rfl | (simp [errW_none, errW_some] <;> rfl) | (simp [*, errW_none, errW_some] <;> rfl), by (with_reducible repeat (first | apply Kd.R_alloc | apply Kd.R_drewN | apply Kd.R_drew)); exact HO431.out, by repeat (first | (with_reducible first | exact HB.out | apply below_alloc | apply pw_below_drewN | apply below_drew1 | refine below_set ?_ GE423.out) | exact HB.out)⟩

/-! ### deaddropref7_Insert: function 36 -/
mutual
def deaddropref7_Insert.j1 : Nat → List ByteArray → ByteArray → Int → Option (List ByteArray)
 | 0, _, _, _ => none
 | k + 1, x0, x1, x5 => if x5 < (x0.length : Int) then (if 0 ≤ x5 then (if (rdOf ByteArray.empty x0 x5).toList = x1.toList then (some x0) else ((some (([] : List ByteArray) : List ByteArray)).bind fun y434 => (if x5 ≤ (x0.length : Int) then ((some (x0.take (x5 : Int).toNat : List ByteArray)).bind fun y437 => (if y434.length + y437.length < 8796093022208 then ((some (y434 ++ y437 : List ByteArray)).bind fun y441 => (if y441.length < 8796093022208 then ((some (y441 ++ [x1] : List ByteArray)).bind fun y444 => ((some (x0.drop (x5 : Int).toNat : List ByteArray)).bind fun y447 => (if y444.length + y447.length < 8796093022208 then (some (y444 ++ y447)) else (none)))) else (none))) else (none))) else (none)))) else (none)) else ((some (([] : List ByteArray) : List ByteArray)).bind fun y454 => (if 0 ≤ x5 then (if x5 ≤ (x0.length : Int) then ((some (x0.take (x5 : Int).toNat : List ByteArray)).bind fun y457 => (if y454.length + y457.length < 8796093022208 then ((some (y454 ++ y457 : List ByteArray)).bind fun y461 => (if y461.length < 8796093022208 then ((some (y461 ++ [x1] : List ByteArray)).bind fun y464 => ((some (x0.drop (x5 : Int).toNat : List ByteArray)).bind fun y467 => (if y464.length + y467.length < 8796093022208 then (some (y464 ++ y467)) else (none)))) else (none))) else (none))) else (none)) else (none)))
def deaddropref7_Insert.l0 : Nat → List ByteArray → ByteArray → Int → Option (List ByteArray)
 | 0, _, _, _ => none
 | k + 1, x0, x1, x5 => if x5 < (x0.length : Int) then (if 0 ≤ x5 then (if (Op.bytesLess ((rdOf ByteArray.empty x0 x5).toList) x1.toList) = true then (deaddropref7_Insert.l0 k x0 x1 (wrap64 (x5 + 1))) else (deaddropref7_Insert.j1 k x0 x1 x5)) else (none)) else (deaddropref7_Insert.j1 k x0 x1 x5)
end
def deaddropref7_Insert.f (k : Nat) (l0 : List ByteArray) (a1 : ByteArray) : Option (List ByteArray) := deaddropref7_Insert.l0 k l0 a1 0
theorem deaddropref7_Insert.mono_l : ∀ k, (∀ y0 y1 y2, LeO (deaddropref7_Insert.j1 k y0 y1 y2) (deaddropref7_Insert.j1 (k + 1) y0 y1 y2)) ∧ (∀ y0 y1 y2, LeO (deaddropref7_Insert.l0 k y0 y1 y2) (deaddropref7_Insert.l0 (k + 1) y0 y1 y2))
 | 0 => ⟨fun _ _ _ r h => by simp [deaddropref7_Insert.j1] at h, fun _ _ _ r h => by simp [deaddropref7_Insert.l0] at h⟩
 | k + 1 => by
  obtain ⟨ih0, ih1⟩ := deaddropref7_Insert.mono_l k
  refine ⟨?_, ?_⟩
  ·
   intro y0 y1 y2
   unfold deaddropref7_Insert.j1
   repeat' first
   | (with_reducible exact ih0 _ _ _)
   | (with_reducible exact ih1 _ _ _)
   | (with_reducible exact LeO.refl _)
   | (with_reducible exact LeO.none _)
   | (with_reducible refine LeO.ite ?_ ?_)
   | (with_reducible refine LeO.bind ?_ (fun _ => ?_))
   | exact ih0 _ _ _
   | exact ih1 _ _ _
   | exact LeO.none _
   | refine LeO.ite ?_ ?_
   | refine LeO.bind ?_ (fun _ => ?_)
  ·
   intro y0 y1 y2
   unfold deaddropref7_Insert.l0
   repeat' first
   | (with_reducible exact ih0 _ _ _)
   | (with_reducible exact ih1 _ _ _)
   | (with_reducible exact LeO.refl _)
   | (with_reducible exact LeO.none _)
   | (with_reducible refine LeO.ite ?_ ?_)
   | (with_reducible refine LeO.bind ?_ (fun _ => ?_))
   | exact ih0 _ _ _
   | exact ih1 _ _ _
   | exact LeO.none _
   | refine LeO.ite ?_ ?_
   | refine LeO.bind ?_ (fun _ => ?_)
theorem deaddropref7_Insert.mono : ∀ a0 a1 k, LeO (deaddropref7_Insert.f k a0 a1) (deaddropref7_Insert.f (k + 1) a0 a1) := by
 intro a0 a1 k
 obtain ⟨ih0, ih1⟩ := deaddropref7_Insert.mono_l k
 unfold deaddropref7_Insert.f
 repeat' first
  | (with_reducible exact ih0 _ _ _)
  | (with_reducible exact ih1 _ _ _)
  | (with_reducible exact LeO.refl _)
  | (with_reducible exact LeO.none _)
  | (with_reducible refine LeO.ite ?_ ?_)
  | (with_reducible refine LeO.bind ?_ (fun _ => ?_))
  | exact ih0 _ _ _
  | exact ih1 _ _ _
  | exact LeO.none _
  | refine LeO.ite ?_ ?_
  | refine LeO.bind ?_ (fun _ => ?_)
set_option maxHeartbeats 8000000 in
set_option maxRecDepth 100000 in
theorem deaddropref7_Insert.calls (k : Nat) (P0_ : Nat → Prop) (u9000_ : Value) (l0 : List ByteArray) (a1 : ByteArray) (r : List ByteArray) (w0 w : World) (hB : Below w0.heap.size w0 w) (ho0 : Kd.R Kd.string 9 w w0.heap.size P0_ u9000_ l0) (h : deaddropref7_Insert.f k l0 a1 = some r) :
 Calls Try.prog 36 #[u9000_, .string a1] w fun e w' => ∃ v0_ : Value, e = .returned (v0_) ∧ Kd.R Kd.string 9 w' w0.heap.size (fun k_ => (P0_ k_ ∨ w.heap.size ≤ k_)) v0_ r ∧ Below w0.heap.size w0 w' ∧ Kept w w' (fun k_ => P0_ k_) := by
 have HO0 := Aside0.mk (show Kd.R Kd.string 9 w w0.heap.size (fun k_ => (P0_ k_ ∨ w.heap.size ≤ k_)) u9000_ l0 from Kd.R_mono ho0 (fun k_ hk => (.inl hk)))
 have HK := Aside0.mk (Kept.refl w (fun k_ => P0_ k_))
 have HW0 := Aside0.mk hB.size
 have HB := Aside0.mk hB
 clear hB
 have H : (deaddropref7_Insert.l0 k l0 a1 0) = some r := h
 clear h
 have HC3 := Aside0.mk H
 clear H
 go_enter Try.func36, Try.ntmps36
 go_upto_block 0 with (fail)
 go_cut [5] (fun v5 wc => ∃ (kq : Nat) (x5_2 : Int), v5 = .int .i64 x5_2 ∧ Aside0 (deaddropref7_Insert.j1 kq l0 a1 x5_2 = some r) ∧ Aside0 (kq ≤ k) ∧ Aside0 (Kd.R Kd.string 9 wc w0.heap.size (fun k_ => (P0_ k_ ∨ w.heap.size ≤ k_)) u9000_ l0) ∧ Aside0 (Kept w wc (fun k_ => P0_ k_)) ∧ Aside0 (Below w0.heap.size w0 wc))
 case first =>
  have H := HC3.out
  clear HC3
  have H' := Aside0.mk H
  clear H
  go_wp2
  go_loopg [5] k (fun kq v5 w' => ∃ (x5_1 : Int), v5 = .int .i64 x5_1 ∧ Aside0 (deaddropref7_Insert.l0 kq l0 a1 x5_1 = some r) ∧ Aside0 (kq ≤ k) ∧ Aside0 (Kd.R Kd.string 9 w' w0.heap.size (fun k_ => (P0_ k_ ∨ w.heap.size ≤ k_)) u9000_ l0) ∧ Aside0 (Kept w w' (fun k_ => P0_ k_)) ∧ Aside0 (Below w0.heap.size w0 w'))
  case atStart => exact ⟨(0), ok_, H', ⟨Nat.le_refl _⟩, ⟨by (with_reducible repeat (first | apply Kd.R_alloc | apply Kd.R_drewN | apply Kd.R_drew)); exact HO0.out⟩, ⟨by repeat (first | (with_reducible first | exact HK.out | apply Kept.alloc | apply Kept.drewN | apply Kept.drew) | exact HK.out)⟩, ⟨by repeat (first | (with_reducible first | exact HB.out | apply below_alloc | apply pw_below_drewN | apply below_drew1) | exact HB.out)⟩⟩
  case round =>
   clear H'
   try clear p2
   try clear c3
   obtain ⟨x5_1, rfl, HA, HK1, HO_0, HK, HB⟩ := hrel
   cases gk with
   | zero => exact absurd HA.out (by simp [deaddropref7_Insert.l0])
   | succ k1 =>
    have H := HA.out
    clear HA
    simp only [deaddropref7_Insert.l0] at H
    by_cases c4 : x5_1 < (l0.length : Int)
    ·
     rw [if_pos c4] at H
     have c4b0 : decide (x5_1 < (l0.length : Int)) = true := decide_eq_true c4
     clear c4
     (first | rw [c4b0] | (simp only [i64_w, i32_w]; rw [c4b0]) | skip)
     by_cases c5 : 0 ≤ x5_1
     rotate_left
     ·
      rw [if_neg c5] at H
      exact absurd H (by simp)
     rw [if_pos c5] at H
     have c5b0 : decide (0 ≤ x5_1) = true := decide_eq_true c5
     clear c5
     by_cases c6 : (Op.bytesLess ((rdOf ByteArray.empty l0 x5_1).toList) a1.toList) = true
     ·
      rw [if_pos c6] at H
      have c6b0 : (Op.bytesLess ((rdOf ByteArray.empty l0 x5_1).toList) a1.toList) = true := c6
      clear c6
      have H' := Aside0.mk H
      clear H
      obtain ⟨Ao7, co7, eo7⟩ := Kd.R_slice HO_0.out
      subst eo7
      have p432 : 0 ≤ (x5_1 : Int) := of_decide_eq_true as_
      have q432 : x5_1 < (l0.length : Int) := of_decide_eq_true as_
      obtain ⟨ad432, e432, hx432_0⟩ := Kd.at_string (Kd.R_reads' HO_0.out).2.2 x5_1 p432 q432
      cases e432
      replace p432 := eq_true p432
      replace q432 := eq_true q432
      go_wp2
      go_roundg k1
      case measure => have := HK1.out; omega
      case rel => exact ⟨(wrap64 (x5_1 + 1)), ok_, H', ⟨by have := HK1.out; omega⟩, ⟨by (with_reducible repeat (first | apply Kd.R_alloc | apply Kd.R_drewN | apply Kd.R_drew)); exact HO_0.out⟩, ⟨by repeat (first | (with_reducible first | exact HK.out | apply Kept.alloc | apply Kept.drewN | apply Kept.drew) | exact HK.out)⟩, ⟨by repeat (first | (with_reducible first | exact HB.out | apply below_alloc | apply pw_below_drewN | apply below_drew1) | exact HB.out)⟩⟩
     ·
      rw [if_neg c6] at H
      have c6b0 : (Op.bytesLess ((rdOf ByteArray.empty l0 x5_1).toList) a1.toList) = false := by simpa using c6
      clear c6
      have H' := Aside0.mk H
      clear H
      obtain ⟨Ao8, co8, eo8⟩ := Kd.R_slice HO_0.out
      subst eo8
      have p432 : 0 ≤ (x5_1 : Int) := of_decide_eq_true as_
      have q432 : x5_1 < (l0.length : Int) := of_decide_eq_true as_
      obtain ⟨ad432, e432, hx432_0⟩ := Kd.at_string (Kd.R_reads' HO_0.out).2.2 x5_1 p432 q432
      cases e432
      replace p432 := eq_true p432
      replace q432 := eq_true q432
      go_wp2
      go_meet
      case rel => exact ⟨_, (x5_1), ok_, H', ⟨by have := HK1.out; first | omega | exact Nat.le_refl _⟩, ⟨by (with_reducible repeat (first | apply Kd.R_alloc | apply Kd.R_drewN | apply Kd.R_drew)); exact HO_0.out⟩, ⟨by repeat (first | (with_reducible first | exact HK.out | apply Kept.alloc | apply Kept.drewN | apply Kept.drew) | exact HK.out)⟩, ⟨by repeat (first | (with_reducible first | exact HB.out | apply below_alloc | apply pw_below_drewN | apply below_drew1) | exact HB.out)⟩⟩
    ·
     rw [if_neg c4] at H
     have c4b0 : decide (x5_1 < (l0.length : Int)) = false := decide_eq_false c4
     clear c4
     (first | rw [c4b0] | (simp only [i64_w, i32_w]; rw [c4b0]) | skip)
     have H' := Aside0.mk H
     clear H
     obtain ⟨Ao9, co9, eo9⟩ := Kd.R_slice HO_0.out
     subst eo9
     go_wp2
     go_meet
     case rel => exact ⟨_, (x5_1), ok_, H', ⟨by have := HK1.out; first | omega | exact Nat.le_refl _⟩, ⟨by (with_reducible repeat (first | apply Kd.R_alloc | apply Kd.R_drewN | apply Kd.R_drew)); exact HO_0.out⟩, ⟨by repeat (first | (with_reducible first | exact HK.out | apply Kept.alloc | apply Kept.drewN | apply Kept.drew) | exact HK.out)⟩, ⟨by repeat (first | (with_reducible first | exact HB.out | apply below_alloc | apply pw_below_drewN | apply below_drew1) | exact HB.out)⟩⟩
 case rest =>
  clear HC3
  try clear p2
  try clear c3
  try clear c4
  try clear c4b0
  try clear p4
  try clear q4
  try clear hx4
  try clear c5
  try clear c5b0
  try clear c6
  try clear c6b0
  try clear p6
  try clear hx432_0
  try clear p2
  try clear p432
  try clear q432
  obtain ⟨kq, x5_2, rfl, HA, HJ2, HO_0, HK, HB⟩ := hcut
  cases kq with
  | zero => exact absurd HA.out (by simp [deaddropref7_Insert.j1])
  | succ kj2 =>
   have H := HA.out
   clear HA
   simp only [deaddropref7_Insert.j1] at H
   by_cases c10 : x5_2 < (l0.length : Int)
   ·
    rw [if_pos c10] at H
    have c10b0 : decide (x5_2 < (l0.length : Int)) = true := decide_eq_true c10
    clear c10
    by_cases c11 : 0 ≤ x5_2
    rotate_left
    ·
     rw [if_neg c11] at H
     exact absurd H (by simp)
    rw [if_pos c11] at H
    have c11b0 : decide (0 ≤ x5_2) = true := decide_eq_true c11
    clear c11
    by_cases c12 : (rdOf ByteArray.empty l0 x5_2).toList = a1.toList
    ·
     rw [if_pos c12] at H
     have c12b0 : ((rdOf ByteArray.empty l0 x5_2).toList == a1.toList) = true := beq_iff_eq.mpr c12
     have c12b1 : ((rdOf ByteArray.empty l0 x5_2).toList != a1.toList) = false := bne_eq_false_iff_eq.mpr c12
     clear c12
     obtain rfl := Option.some.inj H
     obtain ⟨Ao13, co13, eo13⟩ := Kd.R_slice HO_0.out
     subst eo13
     have p433 : 0 ≤ (x5_2 : Int) := of_decide_eq_true as_
     have q433 : x5_2 < (l0.length : Int) := of_decide_eq_true as_
     obtain ⟨ad433, e433, hx433_0⟩ := Kd.at_string (Kd.R_reads' HO_0.out).2.2 x5_2 p433 q433
     cases e433
     replace p433 := eq_true p433
     replace q433 := eq_true q433
     go_wp2
     go_ret
     exact ⟨_, by first | rfl | (simp [errW_none, errW_some] <;> rfl) | (simp [*, errW_none, errW_some] <;> rfl), by (with_reducible repeat (first | apply Kd.R_alloc | apply Kd.R_drewN | apply Kd.R_drew)); exact HO_0.out, by repeat (first | (with_reducible first | exact HB.out | apply below_alloc | apply pw_below_drewN | apply below_drew1) | exact HB.out), by repeat (first | (with_reducible first | exact HK.out | apply Kept.alloc | apply Kept.drewN | apply Kept.drew) | exact HK.out)⟩
    ·
     rw [if_neg c12] at H
     have c12b0 : ((rdOf ByteArray.empty l0 x5_2).toList == a1.toList) = false := beq_eq_false_iff_ne.mpr c12
     have c12b1 : ((rdOf ByteArray.empty l0 x5_2).toList != a1.toList) = true := bne_iff_ne.mpr c12
     obtain ⟨y434, hy434⟩ : ∃ y_ : List ByteArray, y_ = (([] : List ByteArray)) := ⟨_, rfl⟩
     replace H : (if x5_2 ≤ (l0.length : Int) then ((some (l0.take (x5_2 : Int).toNat : List ByteArray)).bind fun y437 => (if y434.length + y437.length < 8796093022208 then ((some (y434 ++ y437 : List ByteArray)).bind fun y441 => (if y441.length < 8796093022208 then ((some (y441 ++ [a1] : List ByteArray)).bind fun y444 => ((some (l0.drop (x5_2 : Int).toNat : List ByteArray)).bind fun y447 => (if y444.length + y447.length < 8796093022208 then (some (y444 ++ y447)) else (none)))) else (none))) else (none))) else (none)) = some r := by first | (rw [hy434]; with_reducible exact H) | (have H2_ := (Option.bind_some _ _).symm.trans H; rw [hy434]; with_reducible exact H2_) | (have H2_ := (Option.bind_some _ _).symm.trans H; with_reducible exact H2_) | with_reducible exact H | (rw [hy434]; exact H) | exact H
     have Ny434 := Aside0.mk hy434
     clear hy434
     have c14b0 := eq_true (of_decide_eq_true as_ : 0 ≤ x5_2)
     by_cases c15 : x5_2 ≤ (l0.length : Int)
     rotate_left
     ·
      rw [if_neg c15] at H
      exact absurd H (by simp)
     rw [if_pos c15] at H
     have c15b0 := eq_true c15
     have c15b1 : decide (x5_2 ≤ (l0.length : Int)) = true := decide_eq_true c15
     clear c15
     obtain ⟨y437, hy437⟩ : ∃ y_ : List ByteArray, y_ = (l0.take (x5_2 : Int).toNat) := ⟨_, rfl⟩
     replace H : (if y434.length + y437.length < 8796093022208 then ((some (y434 ++ y437 : List ByteArray)).bind fun y441 => (if y441.length < 8796093022208 then ((some (y441 ++ [a1] : List ByteArray)).bind fun y444 => ((some (l0.drop (x5_2 : Int).toNat : List ByteArray)).bind fun y447 => (if y444.length + y447.length < 8796093022208 then (some (y444 ++ y447)) else (none)))) else (none))) else (none)) = some r := by first | (rw [hy437]; with_reducible exact H) | (have H2_ := (Option.bind_some _ _).symm.trans H; rw [hy437]; with_reducible exact H2_) | (have H2_ := (Option.bind_some _ _).symm.trans H; with_reducible exact H2_) | with_reducible exact H | (rw [hy437]; exact H) | exact H
     have Ny437 := Aside0.mk hy437
     clear hy437
     by_cases c16 : y434.length + y437.length < 8796093022208
     rotate_left
     ·
      rw [if_neg c16] at H
      exact absurd H (by simp)
     rw [if_pos c16] at H
     have LMc16 := Aside0.mk c16
     clear c16
     obtain ⟨y441, hy441⟩ : ∃ y_ : List ByteArray, y_ = (y434 ++ y437) := ⟨_, rfl⟩
     replace H : (if y441.length < 8796093022208 then ((some (y441 ++ [a1] : List ByteArray)).bind fun y444 => ((some (l0.drop (x5_2 : Int).toNat : List ByteArray)).bind fun y447 => (if y444.length + y447.length < 8796093022208 then (some (y444 ++ y447)) else (none)))) else (none)) = some r := by first | (rw [hy441]; with_reducible exact H) | (have H2_ := (Option.bind_some _ _).symm.trans H; rw [hy441]; with_reducible exact H2_) | (have H2_ := (Option.bind_some _ _).symm.trans H; with_reducible exact H2_) | with_reducible exact H | (rw [hy441]; exact H) | exact H
     have Ny441 := Aside0.mk hy441
     clear hy441
     by_cases c17 : y441.length < 8796093022208
     rotate_left
     ·
      rw [if_neg c17] at H
      exact absurd H (by simp)
     rw [if_pos c17] at H
     have LMc17 := Aside0.mk c17
     clear c17
     obtain ⟨y444, hy444⟩ : ∃ y_ : List ByteArray, y_ = (y441 ++ [a1]) := ⟨_, rfl⟩
     replace H : ((some (l0.drop (x5_2 : Int).toNat : List ByteArray)).bind fun y447 => (if y444.length + y447.length < 8796093022208 then (some (y444 ++ y447)) else (none))) = some r := by first | (rw [hy444]; with_reducible exact H) | (have H2_ := (Option.bind_some _ _).symm.trans H; rw [hy444]; with_reducible exact H2_) | (have H2_ := (Option.bind_some _ _).symm.trans H; with_reducible exact H2_) | with_reducible exact H | (rw [hy444]; exact H) | exact H
     have Ny444 := Aside0.mk hy444
     clear hy444
     have c18b0 := eq_true (of_decide_eq_true as_ : 0 ≤ x5_2)
     have c19b0 := eq_true (of_decide_eq_true as_ : x5_2 ≤ (l0.length : Int))
     obtain ⟨y447, hy447⟩ : ∃ y_ : List ByteArray, y_ = (l0.drop (x5_2 : Int).toNat) := ⟨_, rfl⟩
     replace H : (if y444.length + y447.length < 8796093022208 then (some (y444 ++ y447)) else (none)) = some r := by first | (rw [hy447]; with_reducible exact H) | (have H2_ := (Option.bind_some _ _).symm.trans H; rw [hy447]; with_reducible exact H2_) | (have H2_ := (Option.bind_some _ _).symm.trans H; with_reducible exact H2_) | with_reducible exact H | (rw [hy447]; exact H) | exact H
     have Ny447 := Aside0.mk hy447
     clear hy447
     by_cases c20 : y444.length + y447.length < 8796093022208
     rotate_left
     ·
      rw [if_neg c20] at H
      exact absurd H (by simp)
     rw [if_pos c20] at H
     have LMc20 := Aside0.mk c20
     clear c20
     obtain ⟨y451, hy451⟩ : ∃ y_ : List ByteArray, y_ = (y444 ++ y447) := ⟨_, rfl⟩
     replace H : (some y451) = some r := by first | (rw [hy451]; with_reducible exact H) | (have H2_ := (Option.bind_some _ _).symm.trans H; rw [hy451]; with_reducible exact H2_) | (have H2_ := (Option.bind_some _ _).symm.trans H; with_reducible exact H2_) | with_reducible exact H | (rw [hy451]; exact H) | exact H
     have Ny451 := Aside0.mk hy451
     clear hy451
     obtain rfl := Option.some.inj H
     obtain ⟨Ao21, co21, eo21⟩ := Kd.R_slice HO_0.out
     subst eo21
     have p433 : 0 ≤ (x5_2 : Int) := of_decide_eq_true as_
     have q433 : x5_2 < (l0.length : Int) := of_decide_eq_true as_
     obtain ⟨ad433, e433, hx433_0⟩ := Kd.at_string (Kd.R_reads' HO_0.out).2.2 x5_2 p433 q433
     cases e433
     replace p433 := eq_true p433
     replace q433 := eq_true q433
     go_wp2_with (first | ((with_reducible refine gate_dst (N := 34) rfl ?_); refine Kd.R_lit Kd.string _ 9 ?hg (N := 34) ?hd (xs := ([] : List ByteArray)) (inner := []) (ok := fun _ => True) (okp := fun _ => True) ?hr ?hp (fun _ hk => hk) trivial (Below.refl _ _) (Nat.le_refl _) (by simp) ?_; (case hd => rfl); (case hg => rfl); (case hr => first | (go_simp; done) | (go_simp; rfl)); (case hp => exact (Reps.none _ _)); intro v435 w22 ho23 hb hg_ hnew_; clear hg_ hnew_; (first | rw [← Ny434.out] at ho23 | (simp only [Int.reduceToNat] at ho23; rw [← Ny434.out] at ho23)); have HO436 := Aside0.mk (Kd.R_lower (Kd.R_new' (Kd.R_newM (M := fun k_ => (P0_ k_ ∨ w.heap.size ≤ k_)) ho23 (by first | exact HK.out.1 | exact (show Kept w _ (fun k_ => P0_ k_) from by repeat (first | (with_reducible first | exact HK.out | apply Kept.alloc | apply Kept.drewN | apply Kept.drew) | exact HK.out)).1) (fun k_ h_ => .inr h_)) (Kd.R_lt (rk HO_0.out))) (below_size (bw HB.out))); replace HO_0 := Aside0.mk (Kd.R_elder' (rk HO_0.out) (Kd.R_base ho23) hb); replace HK := Aside0.mk (Kept.below (S := (fun k_ => P0_ k_)) (by repeat (first | (with_reducible first | exact HK.out | apply Kept.alloc | apply Kept.drewN | apply Kept.drew) | exact HK.out)) hb); replace HB := Aside0.mk (below_step (bw HB.out) hb); clear hb ho23; have q24 : (x5_2 : Int) ≤ ((l0.length : Int) : Int) := of_decide_eq_true as_; obtain ⟨i024, hi024, _, hsz24, _⟩ := info_parts info9; have hroom24 : l0.length ≤ co21 := (Kd.R_reads' HO_0.out).2.1; have hC24 : Kd.C Kd.string _ (some ad433) l0.length l0 := (Kd.R_reads' HO_0.out).2.2; have hcut24 := cut_to (P := Try.prog) 45 9 .i64 Try.underlying45 hi024 (some ad433) l0.length co21 x5_2 (of_decide_eq_true as_) q24 hroom24; have hr24 := Kd.C_take (m := (x5_2 : Int).toNat) hC24 (by omega); have hy24 : y437.length = (x5_2 : Int).toNat := (by rw [Ny437.out, List.length_take]; omega); rw [← Ny437.out] at hr24; rw [← hy24] at hcut24; have HR440 := Aside0.mk hr24; have HC440 := Aside0.mk (show y437.length ≤ co21 from by omega); clear hr24 hC24 hroom24 hi024 hsz24; have KY24 := Aside0.mk hy24; clear hy24; have KL24 := Aside0.mk (show (x5_2 : Int).toNat ≤ l0.length from by omega); replace q24 := eq_true q24) | ((with_reducible refine gate_builtin (b := .append) (xs := #[.tmp 34, .tmp 37]) rfl ?_); at_builtin; refine Kd.R_append_rows Kd.string (w0 := w0) w0.heap.size rfl (.tmp 34) (.tmp 37) 45 9 (.string ⟨#[]⟩) 16 rfl Try.underlying45 info9 rfl (by decide) (by omega) v435 y434 y437 _ _ _ (fun k_ => (P0_ k_ ∨ w.heap.size ≤ k_) ∧ some k_ ≠ (.slice (some ad433) l0.length co21 : Value).ownBlock) (fun _ => False) rfl rfl ?aO ?aR (fun _ _ h => h) (fun _ h => h.elim) ?aF ?aB ?aS ?aL ?_; (case aR => repeat (first | exact (ck HR440.out) | (with_reducible refine Kd.C_alloc ?_ _) | (with_reducible refine Kd.C_drewN ?_ _) | (with_reducible refine Kd.C_drew ?_))); (case aB => exact (bw HB.out)); (case aF => exact (fun k_ hk => ⟨(.inr (Nat.le_trans (by first | exact HK.out.1 | exact (show Kept w _ (fun k_ => P0_ k_) from by repeat (first | (with_reducible first | exact HK.out | apply Kept.alloc | apply Kept.drewN | apply Kept.drew) | exact HK.out)).1) hk)), Kd.fresh' (Kd.R_lt (rk HO_0.out)) k_ hk⟩)); (case aO => exact (by (with_reducible repeat (first | apply Kd.R_alloc | apply Kd.R_drewN | apply Kd.R_drew)); exact Kd.R_mono HO436.out (fun _ hk => ⟨hk.1.1, hk.2⟩))); (case aS => exact (below_size (bw HB.out))); (case aL => have := LMc16.out; omega); intro v442 w25 ho hb hg hat; rw [← Ny441.out] at ho; replace HB := Aside0.mk (hb); replace HK := Aside0.mk (Kept.of_grown (S := (fun k_ => P0_ k_)) hg (by repeat (first | (with_reducible first | exact HK.out | apply Kept.alloc | apply Kept.drewN | apply Kept.drew) | exact HK.out)) (fun k_ e_ => (HO436.out.1 k_ e_).1.1)); replace HR440 := Aside0.mk ((show Kd.C Kd.string w25 (some ad433) y437.length y437 from by rw [Ny437.out]; exact Kd.C_take (m := (x5_2 : Int).toNat) ((Kd.R_reads' (Kd.R_after (ok := (fun k_ => (P0_ k_ ∨ w.heap.size ≤ k_))) (rk HO_0.out) hg hat)).2.2) KL24.out)); replace HO_0 := Aside0.mk (Kd.R_after (ok := (fun k_ => (P0_ k_ ∨ w.heap.size ≤ k_))) (rk HO_0.out) hg hat); have HO443 := Aside0.mk (ho); clear HO436; clear ho hb hg hat) | ((with_reducible refine gate_builtin (b := .append) (xs := #[.tmp 39, .tmp 41]) rfl ?_); at_builtin; refine Kd.R_append Kd.string (w0 := w0) w0.heap.size rfl (.tmp 39) (.tmp 41) 45 9 (.string ⟨#[]⟩) 16 rfl Try.underlying45 info9 rfl (by decide) (by omega) v442 y441 a1 [.string a1] (fun k_ => (P0_ k_ ∨ w.heap.size ≤ k_) ∧ some k_ ≠ (.slice (some ad433) l0.length co21 : Value).ownBlock) (fun _ => False) rfl rfl ?aP (fun _ hk => hk.elim) ?aF ?aO ?aB ?aS ?aL ?_; (case aP => exact rfl); (case aB => exact (bw HB.out)); (case aF => exact (fun k_ hk => ⟨(.inr (Nat.le_trans (by first | exact HK.out.1 | exact (show Kept w _ (fun k_ => P0_ k_) from by repeat (first | (with_reducible first | exact HK.out | apply Kept.alloc | apply Kept.drewN | apply Kept.drew) | exact HK.out)).1) hk)), Kd.fresh' (Kd.R_lt (rk HO_0.out)) k_ hk⟩)); (case aO => exact (rk HO443.out)); (case aS => exact (below_size (bw HB.out))); (case aL => have := LMc17.out; omega); intro v445 w26 ho hb hg hat; rw [← Ny444.out] at ho; replace HB := Aside0.mk (hb); replace HK := Aside0.mk (Kept.of_grown (S := (fun k_ => P0_ k_)) hg (by repeat (first | (with_reducible first | exact HK.out | apply Kept.alloc | apply Kept.drewN | apply Kept.drew) | exact HK.out)) (fun k_ e_ => (HO443.out.1 k_ e_).1)); replace HR440 := Aside0.mk ((show Kd.C Kd.string w26 (some ad433) y437.length y437 from by rw [Ny437.out]; exact Kd.C_take (m := (x5_2 : Int).toNat) ((Kd.R_reads' (Kd.R_after (ok := (fun k_ => (P0_ k_ ∨ w.heap.size ≤ k_))) (rk HO_0.out) hg hat)).2.2) KL24.out)); replace HO_0 := Aside0.mk (Kd.R_after (ok := (fun k_ => (P0_ k_ ∨ w.heap.size ≤ k_))) (rk HO_0.out) hg hat); have HO446 := Aside0.mk (ho); clear HO443; clear ho hb hg hat; have q27 : (x5_2 : Int) ≤ ((l0.length : Int) : Int) := of_decide_eq_true as_; obtain ⟨i027, hi027, _, hsz27, _⟩ := info_parts info9; have hroom27 : l0.length ≤ co21 := (Kd.R_reads' HO_0.out).2.1; have hC27 : Kd.C Kd.string _ (some ad433) l0.length l0 := (Kd.R_reads' HO_0.out).2.2; have q027 : (0 : Int) ≤ (x5_2 : Int) := of_decide_eq_true as_; have hcut27 := cut_from (P := Try.prog) 45 9 .i64 Try.underlying45 hi027 1 hsz27 (some ad433) l0.length co21 x5_2 q027 q27; have hr27 := Kd.C_drop (m := (x5_2 : Int).toNat) (c := co21) hC27 (by omega) hroom27; obtain ⟨A27, hA27⟩ : ∃ A1, A1 = (if co21 = (x5_2 : Int).toNat then (some ad433) else ((some ad433) : Option Addr).map (·.add ((x5_2 : Int).toNat * 1))) := ⟨_, rfl⟩; obtain ⟨c27, hc27⟩ : ∃ c1, c1 = co21 - (x5_2 : Int).toNat := ⟨_, rfl⟩; have hy27 : y447.length = l0.length - (x5_2 : Int).toNat := (by rw [Ny447.out, List.length_drop] <;> omega); rw [show (l0).drop (x5_2 : Int).toNat = y447 from Ny447.out.symm] at hr27; replace hr27 : Kd.C Kd.string _ A27 y447.length y447 := (by rw [hA27]; exact hr27); rw [← hy27, ← hA27, ← hc27] at hcut27; have HR450 := Aside0.mk hr27; have HC450 := Aside0.mk (show y447.length ≤ c27 from by rw [hy27, hc27]; exact Nat.sub_le_sub_right hroom27 _); clear hr27 hC27 hroom27 hi027 hsz27 hc27; have KY27 := Aside0.mk hy27; have KA27 := Aside0.mk hA27; clear hy27 hA27; have KL27 := Aside0.mk (show (x5_2 : Int).toNat ≤ l0.length from by omega); replace q27 := eq_true q27) | ((with_reducible refine gate_builtin (b := .append) (xs := #[.tmp 43, .tmp 46]) rfl ?_); at_builtin; refine Kd.R_append_rows Kd.string (w0 := w0) w0.heap.size rfl (.tmp 43) (.tmp 46) 45 9 (.string ⟨#[]⟩) 16 rfl Try.underlying45 info9 rfl (by decide) (by omega) v445 y444 y447 _ _ _ (fun k_ => (P0_ k_ ∨ w.heap.size ≤ k_) ∧ some k_ ≠ (.slice (some ad433) l0.length co21 : Value).ownBlock) (fun _ => False) rfl rfl ?aO ?aR (fun _ _ h => h) (fun _ h => h.elim) ?aF ?aB ?aS ?aL ?_; (case aR => repeat (first | exact (ck HR450.out) | (with_reducible refine Kd.C_alloc ?_ _) | (with_reducible refine Kd.C_drewN ?_ _) | (with_reducible refine Kd.C_drew ?_))); (case aB => exact (bw HB.out)); (case aF => exact (fun k_ hk => ⟨(.inr (Nat.le_trans (by first | exact HK.out.1 | exact (show Kept w _ (fun k_ => P0_ k_) from by repeat (first | (with_reducible first | exact HK.out | apply Kept.alloc | apply Kept.drewN | apply Kept.drew) | exact HK.out)).1) hk)), Kd.fresh' (Kd.R_lt (rk HO_0.out)) k_ hk⟩)); (case aO => exact (rk HO446.out)); (case aS => exact (below_size (bw HB.out))); (case aL => have := LMc20.out; omega); intro v452 w28 ho hb hg hat; rw [← Ny451.out] at ho; replace HB := Aside0.mk (hb); replace HK := Aside0.mk (Kept.of_grown (S := (fun k_ => P0_ k_)) hg (by repeat (first | (with_reducible first | exact HK.out | apply Kept.alloc | apply Kept.drewN | apply Kept.drew) | exact HK.out)) (fun k_ e_ => (HO446.out.1 k_ e_).1)); replace HR440 := Aside0.mk ((show Kd.C Kd.string w28 (some ad433) y437.length y437 from by rw [Ny437.out]; exact Kd.C_take (m := (x5_2 : Int).toNat) ((Kd.R_reads' (Kd.R_after (ok := (fun k_ => (P0_ k_ ∨ w.heap.size ≤ k_))) (rk HO_0.out) hg hat)).2.2) KL24.out)); replace HR450 := Aside0.mk ((show Kd.C Kd.string w28 A27 y447.length y447 from by rw [Ny447.out, KA27.out]; exact Kd.C_drop (m := (x5_2 : Int).toNat) (c := co21) ((Kd.R_reads' (Kd.R_after (ok := (fun k_ => (P0_ k_ ∨ w.heap.size ≤ k_))) (rk HO_0.out) hg hat)).2.2) KL27.out ((Kd.R_reads' (Kd.R_after (ok := (fun k_ => (P0_ k_ ∨ w.heap.size ≤ k_))) (rk HO_0.out) hg hat)).2.1))); replace HO_0 := Aside0.mk (Kd.R_after (ok := (fun k_ => (P0_ k_ ∨ w.heap.size ≤ k_))) (rk HO_0.out) hg hat); have HO453 := Aside0.mk (ho); clear HO446; clear ho hb hg hat))
     go_ret
     exact ⟨_, by first | rfl | (simp [errW_none, errW_some] <;> rfl) | (simp [*, errW_none, errW_some] <;> rfl), by (with_reducible repeat (first | apply Kd.R_alloc | apply Kd.R_drewN | apply Kd.R_drew)); exact Kd.R_mono HO453.out (fun _ hk => hk.1), by repeat (first | (with_reducible first | exact HB.out | apply below_alloc | apply pw_below_drewN | apply below_drew1) | exact HB.out), by repeat (first | (with_reducible first | exact HK.out | apply Kept.alloc | apply Kept.drewN | apply Kept.drew) | exact HK.out)⟩
   ·
    rw [if_neg c10] at H
    have c10b0 : decide (x5_2 < (l0.length : Int)) = false := decide_eq_false c10
    clear c10
    obtain ⟨y454, hy454⟩ : ∃ y_ : List ByteArray, y_ = (([] : List ByteArray)) := ⟨_, rfl⟩
    replace H : (if 0 ≤ x5_2 then (if x5_2 ≤ (l0.length : Int) then ((some (l0.take (x5_2 : Int).toNat : List ByteArray)).bind fun y457 => (if y454.length + y457.length < 8796093022208 then ((some (y454 ++ y457 : List ByteArray)).bind fun y461 => (if y461.length < 8796093022208 then ((some (y461 ++ [a1] : List ByteArray)).bind fun y464 => ((some (l0.drop (x5_2 : Int).toNat : List ByteArray)).bind fun y467 => (if y464.length + y467.length < 8796093022208 then (some (y464 ++ y467)) else (none)))) else (none))) else (none))) else (none)) else (none)) = some r := by first | (rw [hy454]; with_reducible exact H) | (have H2_ := (Option.bind_some _ _).symm.trans H; rw [hy454]; with_reducible exact H2_) | (have H2_ := (Option.bind_some _ _).symm.trans H; with_reducible exact H2_) | with_reducible exact H | (rw [hy454]; exact H) | exact H
    have Ny454 := Aside0.mk hy454
    clear hy454
    by_cases c29 : 0 ≤ x5_2
    rotate_left
    ·
     rw [if_neg c29] at H
     exact absurd H (by simp)

    rw [if_pos c29] at H
    have c29b0 := eq_true c29
    have c29b1 : decide (0 ≤ x5_2) = true := decide_eq_true c29
    clear c29
    by_cases c30 : x5_2 ≤ (l0.length : Int)
    rotate_left
    ·
     rw [if_neg c30] at H
     exact absurd H (by simp)
    rw [if_pos c30] at H
    have c30b0 := eq_true c30
    have c30b1 : decide (x5_2 ≤ (l0.length : Int)) = true := decide_eq_true c30
    clear c30
    obtain ⟨y457, hy457⟩ : ∃ y_ : List ByteArray, y_ = (l0.take (x5_2 : Int).toNat) := ⟨_, rfl⟩
    replace H : (if y454.length + y457.length < 8796093022208 then ((some (y454 ++ y457 : List ByteArray)).bind fun y461 => (if y461.length < 8796093022208 then ((some (y461 ++ [a1] : List ByteArray)).bind fun y464 => ((some (l0.drop (x5_2 : Int).toNat : List ByteArray)).bind fun y467 => (if y464.length + y467.length < 8796093022208 then (some (y464 ++ y467)) else (none)))) else (none))) else (none)) = some r := by first | (rw [hy457]; with_reducible exact H) | (have H2_ := (Option.bind_some _ _).symm.trans H; rw [hy457]; with_reducible exact H2_) | (have H2_ := (Option.bind_some _ _).symm.trans H; with_reducible exact H2_) | with_reducible exact H | (rw [hy457]; exact H) | exact H
    have Ny457 := Aside0.mk hy457
    clear hy457
    by_cases c31 : y454.length + y457.length < 8796093022208
    rotate_left
    ·
     rw [if_neg c31] at H
     exact absurd H (by simp)
    rw [if_pos c31] at H
    have LMc31 := Aside0.mk c31
    clear c31
    obtain ⟨y461, hy461⟩ : ∃ y_ : List ByteArray, y_ = (y454 ++ y457) := ⟨_, rfl⟩
    replace H : (if y461.length < 8796093022208 then ((some (y461 ++ [a1] : List ByteArray)).bind fun y464 => ((some (l0.drop (x5_2 : Int).toNat : List ByteArray)).bind fun y467 => (if y464.length + y467.length < 8796093022208 then (some (y464 ++ y467)) else (none)))) else (none)) = some r := by first | (rw [hy461]; with_reducible exact H) | (have H2_ := (Option.bind_some _ _).symm.trans H; rw [hy461]; with_reducible exact H2_) | (have H2_ := (Option.bind_some _ _).symm.trans H; with_reducible exact H2_) | with_reducible exact H | (rw [hy461]; exact H) | exact H
    have Ny461 := Aside0.mk hy461
    clear hy461
    by_cases c32 : y461.length < 8796093022208
    rotate_left
    ·
     rw [if_neg c32] at H
     exact absurd H (by simp)
    rw [if_pos c32] at H
    have LMc32 := Aside0.mk c32
    clear c32
    obtain ⟨y464, hy464⟩ : ∃ y_ : List ByteArray, y_ = (y461 ++ [a1]) := ⟨_, rfl⟩
    replace H : ((some (l0.drop (x5_2 : Int).toNat : List ByteArray)).bind fun y467 => (if y464.length + y467.length < 8796093022208 then (some (y464 ++ y467)) else (none))) = some r := by first | (rw [hy464]; with_reducible exact H) | (have H2_ := (Option.bind_some _ _).symm.trans H; rw [hy464]; with_reducible exact H2_) | (have H2_ := (Option.bind_some _ _).symm.trans H; with_reducible exact H2_) | with_reducible exact H | (rw [hy464]; exact H) | exact H
    have Ny464 := Aside0.mk hy464
    clear hy464
    have c33b0 := eq_true (of_decide_eq_true as_ : 0 ≤ x5_2)
    have c34b0 := eq_true (of_decide_eq_true as_ : x5_2 ≤ (l0.length : Int))
    obtain ⟨y467, hy467⟩ : ∃ y_ : List ByteArray, y_ = (l0.drop (x5_2 : Int).toNat) := ⟨_, rfl⟩
    replace H : (if y464.length + y467.length < 8796093022208 then (some (y464 ++ y467)) else (none)) = some r := by first | (rw [hy467]; with_reducible exact H) | (have H2_ := (Option.bind_some _ _).symm.trans H; rw [hy467]; with_reducible exact H2_) | (have H2_ := (Option.bind_some _ _).symm.trans H; with_reducible exact H2_) | with_reducible exact H | (rw [hy467]; exact H) | exact H
    have Ny467 := Aside0.mk hy467
    clear hy467
    by_cases c35 : y464.length + y467.length < 8796093022208
    rotate_left
    ·
     rw [if_neg c35] at H
     exact absurd H (by simp)
    rw [if_pos c35] at H
    have LMc35 := Aside0.mk c35
    clear c35
    obtain ⟨y471, hy471⟩ : ∃ y_ : List ByteArray, y_ = (y464 ++ y467) := ⟨_, rfl⟩
    replace H : (some y471) = some r := by first | (rw [hy471]; with_reducible exact H) | (have H2_ := (Option.bind_some _ _).symm.trans H; rw [hy471]; with_reducible exact H2_) | (have H2_ := (Option.bind_some _ _).symm.trans H; with_reducible exact H2_) | with_reducible exact H | (rw [hy471]; exact H) | exact H
    have Ny471 := Aside0.mk hy471
    clear hy471
    obtain rfl := Option.some.inj H
    obtain ⟨Ao36, co36, eo36⟩ := Kd.R_slice HO_0.out
    subst eo36
    go_wp2_with (first | ((with_reducible refine gate_dst (N := 34) rfl ?_); refine Kd.R_lit Kd.string _ 9 ?hg (N := 34) ?hd (xs := ([] : List ByteArray)) (inner := []) (ok := fun _ => True) (okp := fun _ => True) ?hr ?hp (fun _ hk => hk) trivial (Below.refl _ _) (Nat.le_refl _) (by simp) ?_; (case hd => rfl); (case hg => rfl); (case hr => first | (go_simp; done) | (go_simp; rfl)); (case hp => exact (Reps.none _ _)); intro v455 w37 ho38 hb hg_ hnew_; clear hg_ hnew_; (first | rw [← Ny454.out] at ho38 | (simp only [Int.reduceToNat] at ho38; rw [← Ny454.out] at ho38)); have HO456 := Aside0.mk (Kd.R_lower (Kd.R_new' (Kd.R_newM (M := fun k_ => (P0_ k_ ∨ w.heap.size ≤ k_)) ho38 (by first | exact HK.out.1 | exact (show Kept w _ (fun k_ => P0_ k_) from by repeat (first | (with_reducible first | exact HK.out | apply Kept.alloc | apply Kept.drewN | apply Kept.drew) | exact HK.out)).1) (fun k_ h_ => .inr h_)) (Kd.R_lt (rk HO_0.out))) (below_size (bw HB.out))); replace HO_0 := Aside0.mk (Kd.R_elder' (rk HO_0.out) (Kd.R_base ho38) hb); replace HK := Aside0.mk (Kept.below (S := (fun k_ => P0_ k_)) (by repeat (first | (with_reducible first | exact HK.out | apply Kept.alloc | apply Kept.drewN | apply Kept.drew) | exact HK.out)) hb); replace HB := Aside0.mk (below_step (bw HB.out) hb); clear hb ho38; have q39 : (x5_2 : Int) ≤ ((l0.length : Int) : Int) := of_decide_eq_true as_; obtain ⟨i039, hi039, _, hsz39, _⟩ := info_parts info9; have hroom39 : l0.length ≤ co36 := (Kd.R_reads' HO_0.out).2.1; have hC39 : Kd.C Kd.string _ Ao36 l0.length l0 := (Kd.R_reads' HO_0.out).2.2; have hcut39 := cut_to (P := Try.prog) 45 9 .i64 Try.underlying45 hi039 Ao36 l0.length co36 x5_2 (of_decide_eq_true as_) q39 hroom39; have hr39 := Kd.C_take (m := (x5_2 : Int).toNat) hC39 (by omega); have hy39 : y457.length = (x5_2 : Int).toNat := (by rw [Ny457.out, List.length_take]; omega); rw [← Ny457.out] at hr39; rw [← hy39] at hcut39; have HR460 := Aside0.mk hr39; have HC460 := Aside0.mk (show y457.length ≤ co36 from by omega); clear hr39 hC39 hroom39 hi039 hsz39; have KY39 := Aside0.mk hy39; clear hy39; have KL39 := Aside0.mk (show (x5_2 : Int).toNat ≤ l0.length from by omega); replace q39 := eq_true q39) | ((with_reducible refine gate_builtin (b := .append) (xs := #[.tmp 34, .tmp 37]) rfl ?_); at_builtin; refine Kd.R_append_rows Kd.string (w0 := w0) w0.heap.size rfl (.tmp 34) (.tmp 37) 45 9 (.string ⟨#[]⟩) 16 rfl Try.underlying45 info9 rfl (by decide) (by omega) v455 y454 y457 _ _ _ (fun k_ => (P0_ k_ ∨ w.heap.size ≤ k_) ∧ some k_ ≠ (.slice Ao36 l0.length co36 : Value).ownBlock) (fun _ => False) rfl rfl ?aO ?aR (fun _ _ h => h) (fun _ h => h.elim) ?aF ?aB ?aS ?aL ?_; (case aR => repeat (first | exact (ck HR460.out) | (with_reducible refine Kd.C_alloc ?_ _) | (with_reducible refine Kd.C_drewN ?_ _) | (with_reducible refine Kd.C_drew ?_))); (case aB => exact (bw HB.out)); (case aF => exact (fun k_ hk => ⟨(.inr (Nat.le_trans (by first | exact HK.out.1 | exact (show Kept w _ (fun k_ => P0_ k_) from by repeat (first | (with_reducible first | exact HK.out | apply Kept.alloc | apply Kept.drewN | apply Kept.drew) | exact HK.out)).1) hk)), Kd.fresh' (Kd.R_lt (rk HO_0.out)) k_ hk⟩)); (case aO => exact (by (with_reducible repeat (first | apply Kd.R_alloc | apply Kd.R_drewN | apply Kd.R_drew)); exact Kd.R_mono HO456.out (fun _ hk => ⟨hk.1.1, hk.2⟩))); (case aS => exact (below_size (bw HB.out))); (case aL => have := LMc31.out; omega); intro v462 w40 ho hb hg hat; rw [← Ny461.out] at ho; replace HB := Aside0.mk (hb); replace HK := Aside0.mk (Kept.of_grown (S := (fun k_ => P0_ k_)) hg (by repeat (first | (with_reducible first | exact HK.out | apply Kept.alloc | apply Kept.drewN | apply Kept.drew) | exact HK.out)) (fun k_ e_ => (HO456.out.1 k_ e_).1.1)); replace HR460 := Aside0.mk ((show Kd.C Kd.string w40 Ao36 y457.length y457 from by rw [Ny457.out]; exact Kd.C_take (m := (x5_2 : Int).toNat) ((Kd.R_reads' (Kd.R_after (ok := (fun k_ => (P0_ k_ ∨ w.heap.size ≤ k_))) (rk HO_0.out) hg hat)).2.2) KL39.out)); replace HO_0 := Aside0.mk (Kd.R_after (ok := (fun k_ => (P0_ k_ ∨ w.heap.size ≤ k_))) (rk HO_0.out) hg hat); have HO463 := Aside0.mk (ho); clear HO456; clear ho hb hg hat) | ((with_reducible refine gate_builtin (b := .append) (xs := #[.tmp 39, .tmp 41]) rfl ?_); at_builtin; refine Kd.R_append Kd.string (w0 := w0) w0.heap.size rfl (.tmp 39) (.tmp 41) 45 9 (.string ⟨#[]⟩) 16 rfl Try.underlying45 info9 rfl (by decide) (by omega) v462 y461 a1 [.string a1] (fun k_ => (P0_ k_ ∨ w.heap.size ≤ k_) ∧ some k_ ≠ (.slice Ao36 l0.length co36 : Value).ownBlock) (fun _ => False) rfl rfl ?aP (fun _ hk => hk.elim) ?aF ?aO ?aB ?aS ?aL ?_; (case aP => exact rfl); (case aB => exact (bw HB.out)); (case aF => exact (fun k_ hk => ⟨(.inr (Nat.le_trans (by first | exact HK.out.1 | exact (show Kept w _ (fun k_ => P0_ k_) from by repeat (first | (with_reducible first | exact HK.out | apply Kept.alloc | apply Kept.drewN | apply Kept.drew) | exact HK.out)).1) hk)), Kd.fresh' (Kd.R_lt (rk HO_0.out)) k_ hk⟩)); (case aO => exact (rk HO463.out)); (case aS => exact (below_size (bw HB.out))); (case aL => have := LMc32.out; omega); intro v465 w41 ho hb hg hat; rw [← Ny464.out] at ho; replace HB := Aside0.mk (hb); replace HK := Aside0.mk (Kept.of_grown (S := (fun k_ => P0_ k_)) hg (by repeat (first | (with_reducible first | exact HK.out | apply Kept.alloc | apply Kept.drewN | apply Kept.drew) | exact HK.out)) (fun k_ e_ => (HO463.out.1 k_ e_).1)); replace HR460 := Aside0.mk ((show Kd.C Kd.string w41 Ao36 y457.length y457 from by rw [Ny457.out]; exact Kd.C_take (m := (x5_2 : Int).toNat) ((Kd.R_reads' (Kd.R_after (ok := (fun k_ => (P0_ k_ ∨ w.heap.size ≤ k_))) (rk HO_0.out) hg hat)).2.2) KL39.out)); replace HO_0 := Aside0.mk (Kd.R_after (ok := (fun k_ => (P0_ k_ ∨ w.heap.size ≤ k_))) (rk HO_0.out) hg hat); have HO466 := Aside0.mk (ho); clear HO463; clear ho hb hg hat; have q42 : (x5_2 : Int) ≤ ((l0.length : Int) : Int) := of_decide_eq_true as_; obtain ⟨i042, hi042, _, hsz42, _⟩ := info_parts info9; have hroom42 : l0.length ≤ co36 := (Kd.R_reads' HO_0.out).2.1; have hC42 : Kd.C Kd.string _ Ao36 l0.length l0 := (Kd.R_reads' HO_0.out).2.2; have q042 : (0 : Int) ≤ (x5_2 : Int) := of_decide_eq_true as_; have hcut42 := cut_from (P := Try.prog) 45 9 .i64 Try.underlying45 hi042 1 hsz42 Ao36 l0.length co36 x5_2 q042 q42; have hr42 := Kd.C_drop (m := (x5_2 : Int).toNat) (c := co36) hC42 (by omega) hroom42; obtain ⟨A42, hA42⟩ : ∃ A1, A1 = (if co36 = (x5_2 : Int).toNat then Ao36 else (Ao36 : Option Addr).map (·.add ((x5_2 : Int).toNat * 1))) := ⟨_, rfl⟩; obtain ⟨c42, hc42⟩ : ∃ c1, c1 = co36 - (x5_2 : Int).toNat := ⟨_, rfl⟩; have hy42 : y467.length = l0.length - (x5_2 : Int).toNat := (by rw [Ny467.out, List.length_drop] <;> omega); rw [show (l0).drop (x5_2 : Int).toNat = y467 from Ny467.out.symm] at hr42; replace hr42 : Kd.C Kd.string _ A42 y467.length y467 := (by rw [hA42]; exact hr42); rw [← hy42, ← hA42, ← hc42] at hcut42; have HR470 := Aside0.mk hr42; have HC470 := Aside0.mk (show y467.length ≤ c42 from by rw [hy42, hc42]; exact Nat.sub_le_sub_right hroom42 _); clear hr42 hC42 hroom42 hi042 hsz42 hc42; have KY42 := Aside0.mk hy42; have KA42 := Aside0.mk hA42; clear hy42 hA42; have KL42 := Aside0.mk (show (x5_2 : Int).toNat ≤ l0.length from by omega); replace q42 := eq_true q42) | ((with_reducible refine gate_builtin (b := .append) (xs := #[.tmp 43, .tmp 46]) rfl ?_); at_builtin; refine Kd.R_append_rows Kd.string (w0 := w0) w0.heap.size rfl (.tmp 43) (.tmp 46) 45 9 (.string ⟨#[]⟩) 16 rfl Try.underlying45 info9 rfl (by decide) (by omega) v465 y464 y467 _ _ _ (fun k_ => (P0_ k_ ∨ w.heap.size ≤ k_) ∧ some k_ ≠ (.slice Ao36 l0.length co36 : Value).ownBlock) (fun _ => False) rfl rfl ?aO ?aR (fun _ _ h => h) (fun _ h => h.elim) ?aF ?aB ?aS ?aL ?_; (case aR => repeat (first | exact (ck HR470.out) | (with_reducible refine Kd.C_alloc ?_ _) | (with_reducible refine Kd.C_drewN ?_ _) | (with_reducible refine Kd.C_drew ?_))); (case aB => exact (bw HB.out)); (case aF => exact (fun k_ hk => ⟨(.inr (Nat.le_trans (by first | exact HK.out.1 | exact (show Kept w _ (fun k_ => P0_ k_) from by repeat (first | (with_reducible first | exact HK.out | apply Kept.alloc | apply Kept.drewN | apply Kept.drew) | exact HK.out)).1) hk)), Kd.fresh' (Kd.R_lt (rk HO_0.out)) k_ hk⟩)); (case aO => exact (rk HO466.out)); (case aS => exact (below_size (bw HB.out))); (case aL => have := LMc35.out; omega); intro v472 w43 ho hb hg hat; rw [← Ny471.out] at ho; replace HB := Aside0.mk (hb); replace HK := Aside0.mk (Kept.of_grown (S := (fun k_ => P0_ k_)) hg (by repeat (first | (with_reducible first | exact HK.out | apply Kept.alloc | apply Kept.drewN | apply Kept.drew) | exact HK.out)) (fun k_ e_ => (HO466.out.1 k_ e_).1)); replace HR460 := Aside0.mk ((show Kd.C Kd.string w43 Ao36 y457.length y457 from by rw [Ny457.out]; exact Kd.C_take (m := (x5_2 : Int).toNat) ((Kd.R_reads' (Kd.R_after (ok := (fun k_ => (P0_ k_ ∨ w.heap.size ≤ k_))) (rk HO_0.out) hg hat)).2.2) KL39.out)); replace HR470 := Aside0.mk ((show Kd.C Kd.string w43 A42 y467.length y467 from by rw [Ny467.out, KA42.out]; exact Kd.C_drop (m := (x5_2 : Int).toNat) (c := co36) ((Kd.R_reads' (Kd.R_after (ok := (fun k_ => (P0_ k_ ∨ w.heap.size ≤ k_))) (rk HO_0.out) hg hat)).2.2) KL42.out ((Kd.R_reads' (Kd.R_after (ok := (fun k_ => (P0_ k_ ∨ w.heap.size ≤ k_))) (rk HO_0.out) hg hat)).2.1))); replace HO_0 := Aside0.mk (Kd.R_after (ok := (fun k_ => (P0_ k_ ∨ w.heap.size ≤ k_))) (rk HO_0.out) hg hat); have HO473 := Aside0.mk (ho); clear HO466; clear ho hb hg hat))
    go_ret
    exact ⟨_, by first | rfl | (simp [errW_none, errW_some] <;> rfl) | (simp [*, errW_none, errW_some] <;> rfl), by (with_reducible repeat (first | apply Kd.R_alloc | apply Kd.R_drewN | apply Kd.R_drew)); exact Kd.R_mono HO473.out (fun _ hk => hk.1), by repeat (first | (with_reducible first | exact HB.out | apply below_alloc | apply pw_below_drewN | apply below_drew1) | exact HB.out), by repeat (first | (with_reducible first | exact HK.out | apply Kept.alloc | apply Kept.drewN | apply Kept.drew) | exact HK.out)⟩
/-! ### deaddropref7_Keys: function 20 -/
def deaddropref7_Keys.l0 : Nat → List ByteArray → Int → List (S70) → List (S34) → Option (List ByteArray)
  | 0, _, _, _, _ => none
  | k + 1, x3, x4, x475000, x475001 => if x4 < (x475001.length : Int) then (if 0 ≤ x4 then ((deaddropref7_Insert.f k x3 ((rd_T34 x475001 x4).f1)).bind fun t476 => (deaddropref7_Keys.l0 k t476 (wrap64 (x4 + 1)) x475000 x475001)) else (none)) else (some x3)
def deaddropref7_Keys.f (k : Nat) (l0_0 : List (S70)) (l0_1 : List (S34)) : Option (List ByteArray) := deaddropref7_Keys.l0 k ([] : List ByteArray) 0 l0_0 l0_1
theorem deaddropref7_Keys.mono_l : ∀ k, (∀ y0 y1 y2 y3, LeO (deaddropref7_Keys.l0 k y0 y1 y2 y3) (deaddropref7_Keys.l0 (k + 1) y0 y1 y2 y3))
  | 0 => fun _ _ _ _ r h => by simp [deaddropref7_Keys.l0] at h
  | k + 1 => by
    have ih0 := deaddropref7_Keys.mono_l k
    · intro y0 y1 y2 y3
      unfold deaddropref7_Keys.l0
      repeat' first
      | (with_reducible exact ih0 _ _ _ _)
      | (with_reducible exact deaddropref7_Insert.mono _ _ _)
      | (with_reducible exact LeO.refl _)
      | (with_reducible exact LeO.none _)
      | (with_reducible refine LeO.ite ?_ ?_)
      | (with_reducible refine LeO.bind ?_ (fun _ => ?_))
      | exact ih0 _ _ _ _
      | exact deaddropref7_Insert.mono _ _ _
      | exact LeO.none _
      | refine LeO.ite ?_ ?_
      | refine LeO.bind ?_ (fun _ => ?_)
theorem deaddropref7_Keys.mono : ∀ a0 a1 k, LeO (deaddropref7_Keys.f k a0 a1) (deaddropref7_Keys.f (k + 1) a0 a1) := by
  intro a0 a1 k
  have ih0 := deaddropref7_Keys.mono_l k
  unfold deaddropref7_Keys.f
  repeat' first
      | (with_reducible exact ih0 _ _ _ _)
      | (with_reducible exact deaddropref7_Insert.mono _ _ _)
      | (with_reducible exact LeO.refl _)
      | (with_reducible exact LeO.none _)
      | (with_reducible refine LeO.ite ?_ ?_)
      | (with_reducible refine LeO.bind ?_ (fun _ => ?_))
      | exact ih0 _ _ _ _
      | exact deaddropref7_Insert.mono _ _ _
      | exact LeO.none _
      | refine LeO.ite ?_ ?_
      | refine LeO.bind ?_ (fun _ => ?_)
set_option maxHeartbeats 8000000 in
set_option maxRecDepth 100000 in
theorem deaddropref7_Keys.calls (k : Nat) (A0_0 : Option Addr) (c0_0 : Nat) (l0_0 : List (S70)) (A0_1 : Option Addr) (c0_1 : Nat) (l0_1 : List (S34)) (r : List ByteArray) (w : World) (hr0_0 : Kd.C k70 w A0_0 l0_0.length l0_0) (hc0_0 : l0_0.length ≤ c0_0) (hr0_1 : Kd.C k34 w A0_1 l0_1.length l0_1) (hc0_1 : l0_1.length ≤ c0_1) (h : deaddropref7_Keys.f k l0_0 l0_1 = some r) :
    Calls Try.prog 20 #[.agg #[.slice A0_0 l0_0.length c0_0, .slice A0_1 l0_1.length c0_1]] w fun e w' => ∃ v0_ : Value, e = .returned (v0_) ∧ Kd.R Kd.string 9 w' w.heap.size (fun _ => True) v0_ r ∧ Below w.heap.size w w' := by
  have hu28 := Try.underlying28
  have HR0_0 := Aside0.mk hr0_0
  have HC0_0 := Aside0.mk hc0_0
  clear hr0_0 hc0_0
  have HR0_1 := Aside0.mk hr0_1
  have HC0_1 := Aside0.mk hc0_1
  clear hr0_1 hc0_1
  have HB := Aside0.mk (Below.refl w.heap.size w)
  have H : (deaddropref7_Keys.l0 k ([] : List ByteArray) 0 l0_0 l0_1) = some r := h
  clear h
  have H' := Aside0.mk H
  clear H
  go_enter Try.func20, Try.ntmps20
  go_wp2_with (first | ((with_reducible refine gate_dst (N := 1) rfl ?_); refine box_event ?hg (N := 1) ?hd (cs := #[.slice A0_0 l0_0.length c0_0, .slice A0_1 l0_1.length c0_1]) (t := 28) ?hr ?_; (case hd => rfl); (case hg => rfl); (case hr => first | (go_simp; done) | (go_simp; rfl)); intro gb474 hg w2 hbox hb; have BK474 := Aside0.mk (hbox); have GW474 := Aside0.mk ((by rw [hg]; exact (below_size (bw HB.out)) : w.heap.size ≤ gb474)); have GE474 := Aside0.mk ((by rw [hg]; exact (below_size (bw HB.out)) : w.heap.size ≤ gb474)); replace HB := Aside0.mk (below_step (bw HB.out) hb); clear hb hbox hg))
  go_loopg [3, 4] k (fun kq v3 v4 w' => ∃ (x3_1 : List ByteArray) (x4_1 : Int), v4 = .int .i64 x4_1 ∧ Aside0 (deaddropref7_Keys.l0 kq x3_1 x4_1 l0_0 l0_1 = some r) ∧ Aside0 (kq ≤ k) ∧ Aside0 (Kd.R Kd.string 9 w' w.heap.size (fun _ => True) v3 x3_1) ∧ Aside0 (w'.heap[gb474]? = some (.cells #[(.slice A0_0 l0_0.length c0_0), (.slice A0_1 l0_1.length c0_1)] 28 (0, 0))) ∧ Aside0 (Below w.heap.size w w'))
  case atStart => exact ⟨(([] : List ByteArray)), (0), ok_, H', ⟨Nat.le_refl _⟩, ⟨by first | exact Kd.R_nil _ _ _ _ _ | exact Kd.N_nil _ _ _ _ _ | exact Kd.V_nil _ _ _ _ _ | exact Kd.Q_nil _ _ _ _ _ | exact Kd.S_nil _ _ _ _ _⟩, ⟨by (with_reducible repeat (first | refine blk_drewN ?_ _ | refine blk_drew ?_ | refine blk_alloc ?_ _)); exact BK474.out⟩, ⟨by repeat (first | (with_reducible first | exact HB.out | apply below_alloc | apply pw_below_drewN | apply below_drew1 | refine below_set ?_ GE474.out) | exact HB.out)⟩⟩
  case round =>
    clear H'
    try clear c2
    try clear p2
    obtain ⟨x3_1, x4_1, rfl, HA, HK1, HO_3, BK474, HB⟩ := hrel
    cases gk with
    | zero => exact absurd HA.out (by simp [deaddropref7_Keys.l0])
    | succ k1 =>
      have H := HA.out
      clear HA
      simp only [deaddropref7_Keys.l0] at H
      by_cases c3 : x4_1 < (l0_1.length : Int)
      · rw [if_pos c3] at H
        have c3b0 : decide (x4_1 < (l0_1.length : Int)) = true := decide_eq_true c3
        clear c3
        by_cases c4 : 0 ≤ x4_1
        · rw [if_pos c4] at H
          have c4b0 : decide (0 ≤ x4_1) = true := decide_eq_true c4
          clear c4
          replace H := Option.bind_eq_some_iff.mp H
          obtain ⟨t476, A50, H⟩ := H
          replace H : (deaddropref7_Keys.l0 k1 t476 (wrap64 (x4_1 + 1)) l0_0 l0_1) = some r := H
          have A5 := Aside0.mk A50
          clear A50
          have H' := Aside0.mk H
          clear H
          have hcz6_0 : wr.cell? ⟨gb474, 0, none⟩ = some (.slice A0_0 l0_0.length c0_0) := (blk_cell BK474.out 0).trans rfl
          have hcz6_1 : wr.cell? ⟨gb474, 1, none⟩ = some (.slice A0_1 l0_1.length c0_1) := (blk_cell BK474.out 1).trans rfl
          have hfz6_0 := blk_frozen BK474.out 0
          have hfz6_1 := blk_frozen BK474.out 1
          have p475 : 0 ≤ (x4_1 : Int) := of_decide_eq_true as_
          have q475 : x4_1 < (l0_1.length : Int) := of_decide_eq_true as_
          obtain ⟨ad475, e475, hx475_0, hx475_1, hx475_2, hx475_3, hx475_4, hx475_5⟩ := at_T34 HR0_1.out x4_1 p475 q475
          cases e475
          replace hx475_0 := (HB.out.cell (World.block_lt_of_cell? w _ hx475_0)).trans hx475_0
          replace hx475_1 := (HB.out.cell (World.block_lt_of_cell? w _ hx475_1)).trans hx475_1
          replace hx475_2 := (HB.out.cell (World.block_lt_of_cell? w _ hx475_2)).trans hx475_2
          replace hx475_3 := (HB.out.cell (World.block_lt_of_cell? w _ hx475_3)).trans hx475_3
          replace hx475_4 := (HB.out.cell (World.block_lt_of_cell? w _ hx475_4)).trans hx475_4
          replace hx475_5 := (HB.out.cell (World.block_lt_of_cell? w _ hx475_5)).trans hx475_5
          replace p475 := eq_true p475
          replace q475 := eq_true q475
          obtain ⟨Ao7, co7, eo7⟩ := Kd.R_slice HO_3.out
          subst eo7
          go_wp2_with (first | ((with_reducible refine gate_callee (f := 36) rfl ?_); refine goesL_ (some 19) rfl rfl Try.func36 (by kernel_rfl) rfl #[.slice Ao7 x3_1.length co7, .string ((rd_T34 l0_1 x4_1).f1)] rfl ar_ ?_; (with_reducible refine (deaddropref7_Insert.calls k1 (fun k_ => some k_ = (.slice Ao7 x3_1.length co7 : Value).ownBlock) (.slice Ao7 x3_1.length co7) x3_1 ((rd_T34 l0_1 x4_1).f1) t476 w _ ?side1 ?side2 A5.out).mono ?_); (case side1 => repeat (first | (with_reducible first | exact HB.out | apply below_alloc | apply pw_below_drewN | apply below_drew1 | refine below_set ?_ GE474.out) | exact HB.out)); (case side2 => exact Kd.R_tight rfl HO_3.out); rintro e w8 ⟨v477, rfl, ho0, hb, hkp⟩; refine ⟨_, rfl, ?_⟩; replace BK474 := Aside0.mk (blk_kept (bk BK474.out) hkp (fun hs_ => (fun e_ => (Kd.R_ne HO_3.out BK474.out (by decide)) e_) hs_)); have HO478 := Aside0.mk (Kd.R_mono (ok' := fun k_ => True) ho0 (fun k_ hk_ => trivial)); replace HB := Aside0.mk (hb); clear HO_3; (try clear hb); (try clear hkp); (try clear ho0)))
          go_roundg k1
          case measure => have := HK1.out; omega
          case rel => exact ⟨(t476), (wrap64 (x4_1 + 1)), ok_, H', ⟨by have := HK1.out; omega⟩, ⟨by (with_reducible repeat (first | apply Kd.R_alloc | apply Kd.R_drewN | apply Kd.R_drew)); exact HO478.out⟩, ⟨by (with_reducible repeat (first | refine blk_drewN ?_ _ | refine blk_drew ?_ | refine blk_alloc ?_ _)); exact BK474.out⟩, ⟨by repeat (first | (with_reducible first | exact HB.out | apply below_alloc | apply pw_below_drewN | apply below_drew1 | refine below_set ?_ GE474.out) | exact HB.out)⟩⟩
        · rw [if_neg c4] at H
          exact absurd H (by simp)
      · rw [if_neg c3] at H
        have c3b0 : decide (x4_1 < (l0_1.length : Int)) = false := decide_eq_false c3
        clear c3
        obtain rfl := Option.some.inj H
        have hcz9_0 : wr.cell? ⟨gb474, 0, none⟩ = some (.slice A0_0 l0_0.length c0_0) := (blk_cell BK474.out 0).trans rfl
        have hcz9_1 : wr.cell? ⟨gb474, 1, none⟩ = some (.slice A0_1 l0_1.length c0_1) := (blk_cell BK474.out 1).trans rfl
        have hfz9_0 := blk_frozen BK474.out 0
        have hfz9_1 := blk_frozen BK474.out 1
        go_wp2
        go_ret
        exact ⟨_, by first | rfl | (simp [errW_none, errW_some] <;> rfl) | (simp [*, errW_none, errW_some] <;> rfl), by (with_reducible repeat (first | apply Kd.R_alloc | apply Kd.R_drewN | apply Kd.R_drew)); exact HO_3.out, by repeat (first | (with_reducible first | exact HB.out | apply below_alloc | apply pw_below_drewN | apply below_drew1 | refine below_set ?_ GE474.out) | exact HB.out)⟩

end Go.Proofs.Ytaonemedoikieaa.Q
