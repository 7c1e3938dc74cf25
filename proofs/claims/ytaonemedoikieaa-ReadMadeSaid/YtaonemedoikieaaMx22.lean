-- Written by a program of this work (wip/tools/mkprint.py) over the kit's print; Lean checks it.
import Derived.Test.YtaonemedoikieaaMx0
import Derived.Test.YtaonemedoikieaaMx21
import Derived.Test.YtaonemedoikieaaHAbb2
namespace Go.Proofs.Ytaonemedoikieaa.M
open Go.RowKit Go.Proofs.YtaonemedoikieaaW.PrintWords Go.Proofs.YtaonemedoikieaaW.PrintLast Go.Proofs.YtaonemedoikieaaW.PrintMore Go.Proofs.Ytaonemedoikieaa.AB
attribute [local go_sem] max2_int min2_int max_two min_two max_three min_three max_four min_four   -- for this text's walks alone
set_option linter.unusedVariables false
set_option linter.unusedSimpArgs false

/-! ### deaddropref7_Find: function 37 -/
mutual
def deaddropref7_Find.l0 : Nat → ByteArray → Int → List (S34) → Int → List (S70) → List (S34) → Option ((List (S34)))
 | 0, _, _, _, _, _, _ => none
 | k + 1, x1, x2, x7, x8, x554000, x554001 => if x8 < (x554001.length : Int) then (if 0 ≤ x8 then (if ((rd_T34 x554001 x8).f1).toList = x1.toList then (if x2 = 0 then (deaddropref7_Find.j1 k x1 x2 x7 x8 true x554000 x554001) else (deaddropref7_Find.j1 k x1 x2 x7 x8 (((rd_T34 x554001 x8).f2) == x2) x554000 x554001)) else (deaddropref7_Find.j1 k x1 x2 x7 x8 false x554000 x554001)) else (none)) else (some x7)
def deaddropref7_Find.j1 : Nat → ByteArray → Int → List (S34) → Int → Bool → List (S70) → List (S34) → Option ((List (S34)))
 | 0, _, _, _, _, _, _, _ => none
 | k + 1, x1, x2, x7, x8, x37, x554000, x554001 => if x37 = true then (if 0 ≤ x8 then (if x8 < (x554001.length : Int) then (if x7.length < 2199023255552 then (deaddropref7_Find.l0 k x1 x2 (x7 ++ [(⟨(⟨(rd_T34 x554001 x8).f0.f0, (rd_T34 x554001 x8).f0.f1⟩ : S32), (rd_T34 x554001 x8).f1, (rd_T34 x554001 x8).f2, (rd_T34 x554001 x8).f3, (rd_T34 x554001 x8).f4⟩ : S34)]) (wrap64 (x8 + 1)) x554000 x554001) else (none)) else (none)) else (none)) else (deaddropref7_Find.l0 k x1 x2 x7 (wrap64 (x8 + 1)) x554000 x554001)
end
def deaddropref7_Find.f (k : Nat) (l0_0 : List (S70)) (l0_1 : List (S34)) (a1 : ByteArray) (a2 : Int) : Option ((List (S34))) := deaddropref7_Find.l0 k a1 a2 ([] : List (S34)) 0 l0_0 l0_1
theorem deaddropref7_Find.mono_l : ∀ k, (∀ y0 y1 y2 y3 y4 y5, LeO (deaddropref7_Find.l0 k y0 y1 y2 y3 y4 y5) (deaddropref7_Find.l0 (k + 1) y0 y1 y2 y3 y4 y5)) ∧ (∀ y0 y1 y2 y3 y4 y5 y6, LeO (deaddropref7_Find.j1 k y0 y1 y2 y3 y4 y5 y6) (deaddropref7_Find.j1 (k + 1) y0 y1 y2 y3 y4 y5 y6))
 | 0 => by refine ⟨?_, ?_⟩ <;> (intros; intro r h; simp [deaddropref7_Find.l0, deaddropref7_Find.j1] at h)
 | k + 1 => by
  obtain ⟨ih0, ih1⟩ := deaddropref7_Find.mono_l k
  refine ⟨?_, ?_⟩ <;> intros <;> (first | unfold deaddropref7_Find.l0 | unfold deaddropref7_Find.j1) <;>
  repeat' first
  | with_reducible (first | exact ih0 _ _ _ _ _ _ | exact ih1 _ _ _ _ _ _ _ | exact LeO.refl _ | exact LeO.none _ | refine LeO.ite ?_ ?_ | refine LeO.bind ?_ (fun _ => ?_))
  | exact ih0 _ _ _ _ _ _ | exact ih1 _ _ _ _ _ _ _ | exact LeO.none _ | refine LeO.ite ?_ ?_ | refine LeO.bind ?_ (fun _ => ?_)
theorem deaddropref7_Find.mono : ∀ a0 a1 a2 a3 k, LeO (deaddropref7_Find.f k a0 a1 a2 a3) (deaddropref7_Find.f (k + 1) a0 a1 a2 a3) := by
 intro a0 a1 a2 a3 k
 obtain ⟨ih0, ih1⟩ := deaddropref7_Find.mono_l k
 unfold deaddropref7_Find.f
 repeat' first
  | with_reducible (first | exact ih0 _ _ _ _ _ _ | exact ih1 _ _ _ _ _ _ _ | exact LeO.refl _ | exact LeO.none _ | refine LeO.ite ?_ ?_ | refine LeO.bind ?_ (fun _ => ?_))
  | exact ih0 _ _ _ _ _ _ | exact ih1 _ _ _ _ _ _ _ | exact LeO.none _ | refine LeO.ite ?_ ?_ | refine LeO.bind ?_ (fun _ => ?_)
set_option maxHeartbeats 8000000 in
set_option maxRecDepth 100000 in
theorem deaddropref7_Find.calls (k : Nat) (A0_0 : Option Addr) (c0_0 : Nat) (l0_0 : List (S70)) (A0_1 : Option Addr) (c0_1 : Nat) (l0_1 : List (S34)) (a1 : ByteArray) (a2 : Int) (r : List (S34)) (w : World) (hr0_0 : Kd.C k70 w A0_0 l0_0.length l0_0) (hc0_0 : l0_0.length ≤ c0_0) (hr0_1 : Kd.C k34 w A0_1 l0_1.length l0_1) (hc0_1 : l0_1.length ≤ c0_1) (h : deaddropref7_Find.f k l0_0 l0_1 a1 a2 = some r) :
 Calls Try.prog 37 #[.agg #[.slice A0_0 l0_0.length c0_0, .slice A0_1 l0_1.length c0_1], .string a1, .int .i64 a2] w fun e w' => ∃ v0_ : Value, e = .returned (v0_) ∧ Kd.R k34 34 w' w.heap.size (fun _ => True) v0_ r ∧ Below w.heap.size w w' := by
 have hu28 := Try.underlying28
 have hu34 := Try.underlying34
 have HR0_0 := Aside0.mk hr0_0
 have HC0_0 := Aside0.mk hc0_0
 clear hr0_0 hc0_0
 have HR0_1 := Aside0.mk hr0_1
 have HC0_1 := Aside0.mk hc0_1
 clear hr0_1 hc0_1
 have HB := Aside0.mk (Below.refl w.heap.size w)
 have H : (deaddropref7_Find.l0 k a1 a2 ([] : List (S34)) 0 l0_0 l0_1) = some r := h
 clear h
 have H' := Aside0.mk H
 clear H
 go_enter Try.func37, Try.ntmps37
 go_wp2_with (first | ((with_reducible refine gate_dst (N := 3) rfl ?_); refine box_event ?hg (N := 3) ?hd (cs := #[.slice A0_0 l0_0.length c0_0, .slice A0_1 l0_1.length c0_1]) (t := 28) ?hr ?_; (case hd => rfl); (case hg => rfl); (case hr => first | (go_simp; done) | (go_simp; rfl)); intro gb553 hg w4 hbox hb; have BK553 := Aside0.mk (hbox); have GW553 := Aside0.mk ((by rw [hg]; exact (below_size (bw HB.out)) : w.heap.size ≤ gb553)); have GE553 := GW553; replace HB := Aside0.mk (below_step (bw HB.out) hb); clear hb hbox hg))
 go_loopg [7, 8] k (fun kq v7 v8 w' => ∃ (x7_1 : List (S34)) (x8_1 : Int), v8 = .int .i64 x8_1 ∧ Aside0 (deaddropref7_Find.l0 kq a1 a2 x7_1 x8_1 l0_0 l0_1 = some r) ∧ Aside0 (kq ≤ k) ∧ Aside0 (Kd.R k34 34 w' w.heap.size (fun _ => True) v7 x7_1) ∧ Aside0 (w'.heap[gb553]? = some (.cells #[(.slice A0_0 l0_0.length c0_0), (.slice A0_1 l0_1.length c0_1)] 28 (0, 0))) ∧ Aside0 (Below w.heap.size w w'))
 case atStart => exact ⟨(([] : List (S34))), (0), ok_, H', ⟨Nat.le_refl _⟩, ⟨by first | exact Kd.R_nil _ _ _ _ _ | exact Kd.N_nil _ _ _ _ _ | exact Kd.V_nil _ _ _ _ _ | exact Kd.Q_nil _ _ _ _ _ | exact Kd.S_nil _ _ _ _ _⟩, ⟨bk BK553.out⟩, ⟨bw1 HB.out GE553.out⟩⟩
 case round =>
  clear H'
  obtain ⟨x7_1, x8_1, rfl, HA, HK1, HO_7, BK553, HB⟩ := hrel
  cases gk with
  | zero => exact absurd HA.out (by simp [deaddropref7_Find.l0])
  | succ k1 =>
   have H := HA.out
   clear HA
   simp only [deaddropref7_Find.l0] at H
   by_cases c5 : x8_1 < (l0_1.length : Int)
   ·
    rw [if_pos c5] at H
    have c5b0 : decide (x8_1 < (l0_1.length : Int)) = true := decide_eq_true c5
    clear c5
    have HC6 := Aside0.mk H
    clear H
    obtain ⟨hcz7_0, hcz7_1⟩ := bx2 BK553.out
    obtain ⟨hfz7_0, hfz7_1⟩ := bf2 BK553.out
    go_upto_region 5 with (fail)
    go_cut [37] (fun v37 wc => ∃ (kq : Nat) (x37_5 : Bool), v37 = .bool x37_5 ∧ Aside0 (deaddropref7_Find.j1 kq a1 a2 x7_1 x8_1 x37_5 l0_0 l0_1 = some r) ∧ Aside0 (kq ≤ k1) ∧ Aside0 (Kd.R k34 34 wc w.heap.size (fun _ => True) u7 x7_1) ∧ Aside0 (wc.heap[gb553]? = some (.cells #[(.slice A0_0 l0_0.length c0_0), (.slice A0_1 l0_1.length c0_1)] 28 (0, 0))) ∧ Aside0 (Below w.heap.size w wc))
    case first =>
     have H := HC6.out
     clear HC6
     by_cases c8 : 0 ≤ x8_1
     rotate_left
     ·
      rw [if_neg c8] at H
      exact absurd H (by simp)
     rw [if_pos c8] at H
     have c8b0 : decide (0 ≤ x8_1) = true := decide_eq_true c8
     clear c8
     (first | rw [c8b0] | (simp only [i64_w, i32_w]; rw [c8b0]) | skip)
     by_cases c9 : ((rd_T34 l0_1 x8_1).f1).toList = a1.toList
     ·
      rw [if_pos c9] at H
      have c9b0 : (((rd_T34 l0_1 x8_1).f1).toList == a1.toList) = true := beq_iff_eq.mpr c9
      have c9b1 : (((rd_T34 l0_1 x8_1).f1).toList != a1.toList) = false := bne_eq_false_iff_eq.mpr c9
      clear c9
      by_cases c10 : a2 = 0
      ·
       rw [if_pos c10] at H
       have c10b0 : (a2 == 0) = true := beq_iff_eq.mpr c10
       have c10b1 : (a2 != 0) = false := bne_eq_false_iff_eq.mpr c10
       clear c10
       have H' := Aside0.mk H
       clear H
       obtain ⟨hcz11_0, hcz11_1⟩ := bx2 BK553.out
       obtain ⟨hfz11_0, hfz11_1⟩ := bf2 BK553.out
       have p554 : 0 ≤ (x8_1 : Int) := of_decide_eq_true as_
       have q554 : x8_1 < (l0_1.length : Int) := of_decide_eq_true as_
       obtain ⟨ad554, e554, hx554_0, hx554_1, hx554_2, hx554_3, hx554_4, hx554_5⟩ := at_T34 HR0_1.out x8_1 p554 q554
       cases e554
       replace hx554_0 := (HB.out.cell (World.block_lt_of_cell? w _ hx554_0)).trans hx554_0
       replace hx554_1 := (HB.out.cell (World.block_lt_of_cell? w _ hx554_1)).trans hx554_1
       replace hx554_2 := (HB.out.cell (World.block_lt_of_cell? w _ hx554_2)).trans hx554_2
       replace hx554_3 := (HB.out.cell (World.block_lt_of_cell? w _ hx554_3)).trans hx554_3
       replace hx554_4 := (HB.out.cell (World.block_lt_of_cell? w _ hx554_4)).trans hx554_4
       replace hx554_5 := (HB.out.cell (World.block_lt_of_cell? w _ hx554_5)).trans hx554_5
       replace p554 := eq_true p554
       replace q554 := eq_true q554
       go_wp2
       go_meet
       case rel => exact ⟨_, (true), ok_, H', ⟨by have := HK1.out; first | omega | exact Nat.le_refl _⟩, ⟨rk HO_7.out⟩, ⟨bk BK553.out⟩, ⟨bw1 HB.out GE553.out⟩⟩
      ·
       rw [if_neg c10] at H
       have c10b0 : (a2 == 0) = false := beq_eq_false_iff_ne.mpr c10
       have c10b1 : (a2 != 0) = true := bne_iff_ne.mpr c10
       have H' := Aside0.mk H
       clear H
       obtain ⟨hcz12_0, hcz12_1⟩ := bx2 BK553.out
       obtain ⟨hfz12_0, hfz12_1⟩ := bf2 BK553.out
       have p554 : 0 ≤ (x8_1 : Int) := of_decide_eq_true as_
       have q554 : x8_1 < (l0_1.length : Int) := of_decide_eq_true as_
       obtain ⟨ad554, e554, hx554_0, hx554_1, hx554_2, hx554_3, hx554_4, hx554_5⟩ := at_T34 HR0_1.out x8_1 p554 q554
       cases e554
       replace hx554_0 := (HB.out.cell (World.block_lt_of_cell? w _ hx554_0)).trans hx554_0
       replace hx554_1 := (HB.out.cell (World.block_lt_of_cell? w _ hx554_1)).trans hx554_1
       replace hx554_2 := (HB.out.cell (World.block_lt_of_cell? w _ hx554_2)).trans hx554_2
       replace hx554_3 := (HB.out.cell (World.block_lt_of_cell? w _ hx554_3)).trans hx554_3
       replace hx554_4 := (HB.out.cell (World.block_lt_of_cell? w _ hx554_4)).trans hx554_4
       replace hx554_5 := (HB.out.cell (World.block_lt_of_cell? w _ hx554_5)).trans hx554_5
       replace p554 := eq_true p554
       replace q554 := eq_true q554
       have p555 : 0 ≤ (x8_1 : Int) := of_decide_eq_true as_
       have q555 : x8_1 < (l0_1.length : Int) := of_decide_eq_true as_
       obtain ⟨ad555, e555, hx555_0, hx555_1, hx555_2, hx555_3, hx555_4, hx555_5⟩ := at_T34 HR0_1.out x8_1 p555 q555
       obtain rfl : ad554 = ad555 := (by injection e555)
       replace hx555_0 := (HB.out.cell (World.block_lt_of_cell? w _ hx555_0)).trans hx555_0
       replace hx555_1 := (HB.out.cell (World.block_lt_of_cell? w _ hx555_1)).trans hx555_1
       replace hx555_2 := (HB.out.cell (World.block_lt_of_cell? w _ hx555_2)).trans hx555_2
       replace hx555_3 := (HB.out.cell (World.block_lt_of_cell? w _ hx555_3)).trans hx555_3
       replace hx555_4 := (HB.out.cell (World.block_lt_of_cell? w _ hx555_4)).trans hx555_4
       replace hx555_5 := (HB.out.cell (World.block_lt_of_cell? w _ hx555_5)).trans hx555_5
       replace p555 := eq_true p555
       replace q555 := eq_true q555
       go_wp2
       go_meet
       case rel => exact ⟨_, ((((rd_T34 l0_1 x8_1).f2) == a2)), ok_, H', ⟨by have := HK1.out; first | omega | exact Nat.le_refl _⟩, ⟨rk HO_7.out⟩, ⟨bk BK553.out⟩, ⟨bw1 HB.out GE553.out⟩⟩
     ·
      rw [if_neg c9] at H
      have c9b0 : (((rd_T34 l0_1 x8_1).f1).toList == a1.toList) = false := beq_eq_false_iff_ne.mpr c9
      have c9b1 : (((rd_T34 l0_1 x8_1).f1).toList != a1.toList) = true := bne_iff_ne.mpr c9
      have H' := Aside0.mk H
      clear H
      obtain ⟨hcz13_0, hcz13_1⟩ := bx2 BK553.out
      obtain ⟨hfz13_0, hfz13_1⟩ := bf2 BK553.out
      have p554 : 0 ≤ (x8_1 : Int) := of_decide_eq_true as_
      have q554 : x8_1 < (l0_1.length : Int) := of_decide_eq_true as_
      obtain ⟨ad554, e554, hx554_0, hx554_1, hx554_2, hx554_3, hx554_4, hx554_5⟩ := at_T34 HR0_1.out x8_1 p554 q554
      cases e554
      replace hx554_0 := (HB.out.cell (World.block_lt_of_cell? w _ hx554_0)).trans hx554_0
      replace hx554_1 := (HB.out.cell (World.block_lt_of_cell? w _ hx554_1)).trans hx554_1
      replace hx554_2 := (HB.out.cell (World.block_lt_of_cell? w _ hx554_2)).trans hx554_2
      replace hx554_3 := (HB.out.cell (World.block_lt_of_cell? w _ hx554_3)).trans hx554_3
      replace hx554_4 := (HB.out.cell (World.block_lt_of_cell? w _ hx554_4)).trans hx554_4
      replace hx554_5 := (HB.out.cell (World.block_lt_of_cell? w _ hx554_5)).trans hx554_5
      replace p554 := eq_true p554
      replace q554 := eq_true q554
      go_wp2
      go_meet
      case rel => exact ⟨_, (false), ok_, H', ⟨by have := HK1.out; first | omega | exact Nat.le_refl _⟩, ⟨rk HO_7.out⟩, ⟨bk BK553.out⟩, ⟨bw1 HB.out GE553.out⟩⟩
    case rest =>
     clear HC6
     try clear c5
     try clear c5b0
     try clear hcz7_0
     try clear hcz7_1
     try clear hfz7_0
     try clear hfz7_1
     obtain ⟨kq, x37_5, rfl, HA, HJ5, HO_7, BK553, HB⟩ := hcut
     cases kq with
     | zero => exact absurd HA.out (by simp [deaddropref7_Find.j1])
     | succ kj5 =>
      have H := HA.out
      clear HA
      simp only [deaddropref7_Find.j1] at H
      by_cases c14 : x37_5 = true
      ·
       subst c14
       have H1 : (if 0 ≤ x8_1 then (if x8_1 < (l0_1.length : Int) then (if x7_1.length < 2199023255552 then (deaddropref7_Find.l0 kj5 a1 a2 (x7_1 ++ [(⟨(⟨(rd_T34 l0_1 x8_1).f0.f0, (rd_T34 l0_1 x8_1).f0.f1⟩ : S32), (rd_T34 l0_1 x8_1).f1, (rd_T34 l0_1 x8_1).f2, (rd_T34 l0_1 x8_1).f3, (rd_T34 l0_1 x8_1).f4⟩ : S34)]) (wrap64 (x8_1 + 1)) l0_0 l0_1) else (none)) else (none)) else (none)) = some r := by rw [if_pos rfl] at H; exact H
       clear H
       have H := H1
       clear H1
       by_cases c15 : 0 ≤ x8_1
       rotate_left
       ·
        rw [if_neg c15] at H
        exact absurd H (by simp)
       rw [if_pos c15] at H
       have c15b0 : decide (0 ≤ x8_1) = true := decide_eq_true c15
       clear c15
       by_cases c16 : x8_1 < (l0_1.length : Int)
       rotate_left
       ·
        rw [if_neg c16] at H
        exact absurd H (by simp)
       rw [if_pos c16] at H
       have c16b0 : decide (x8_1 < (l0_1.length : Int)) = true := decide_eq_true c16
       clear c16
       by_cases c17 : x7_1.length < 2199023255552
       rotate_left
       ·
        rw [if_neg c17] at H
        exact absurd H (by simp)
       rw [if_pos c17] at H
       have LMc17 := Aside0.mk c17
       clear c17
       obtain ⟨y557, hy557⟩ : ∃ y_ : List (S34), y_ = (x7_1 ++ [(⟨(⟨(rd_T34 l0_1 x8_1).f0.f0, (rd_T34 l0_1 x8_1).f0.f1⟩ : S32), (rd_T34 l0_1 x8_1).f1, (rd_T34 l0_1 x8_1).f2, (rd_T34 l0_1 x8_1).f3, (rd_T34 l0_1 x8_1).f4⟩ : S34)]) := ⟨_, rfl⟩
       replace H : (deaddropref7_Find.l0 kj5 a1 a2 y557 (wrap64 (x8_1 + 1)) l0_0 l0_1) = some r := by first | (rw [hy557]; with_reducible exact H) | (have H2_ := (Option.bind_some _ _).symm.trans H; rw [hy557]; with_reducible exact H2_) | (have H2_ := (Option.bind_some _ _).symm.trans H; with_reducible exact H2_) | with_reducible exact H | (rw [hy557]; exact H) | exact H
       have Ny557 := Aside0.mk hy557
       clear hy557
       have H' := Aside0.mk H
       clear H
       obtain ⟨hcz18_0, hcz18_1⟩ := bx2 BK553.out
       obtain ⟨hfz18_0, hfz18_1⟩ := bf2 BK553.out
       have p556 : 0 ≤ (x8_1 : Int) := of_decide_eq_true as_
       have q556 : x8_1 < (l0_1.length : Int) := of_decide_eq_true as_
       obtain ⟨ad556, e556, hx556_0, hx556_1, hx556_2, hx556_3, hx556_4, hx556_5⟩ := at_T34 HR0_1.out x8_1 p556 q556
       cases e556
       replace hx556_0 := (HB.out.cell (World.block_lt_of_cell? w _ hx556_0)).trans hx556_0
       replace hx556_1 := (HB.out.cell (World.block_lt_of_cell? w _ hx556_1)).trans hx556_1
       replace hx556_2 := (HB.out.cell (World.block_lt_of_cell? w _ hx556_2)).trans hx556_2
       replace hx556_3 := (HB.out.cell (World.block_lt_of_cell? w _ hx556_3)).trans hx556_3
       replace hx556_4 := (HB.out.cell (World.block_lt_of_cell? w _ hx556_4)).trans hx556_4
       replace hx556_5 := (HB.out.cell (World.block_lt_of_cell? w _ hx556_5)).trans hx556_5
       replace p556 := eq_true p556
       replace q556 := eq_true q556
       go_wp2_with (first | ((with_reducible refine gate_builtin (b := .append) (xs := #[.tmp 38, .tmp 44]) rfl ?_); at_builtin; refine Kd.R_append k34 (w0 := w) w.heap.size rfl (.tmp 38) (.tmp 44) 26 34 (.agg #[(.int .i64 0), (.int .i64 0), (.string ⟨#[]⟩), (.int .i64 0), (.string ⟨#[]⟩), (.int .i64 0)]) 64 rfl Try.underlying26 info34 rfl (by decide) (by omega) u7 x7_1 (⟨(⟨(rd_T34 l0_1 x8_1).f0.f0, (rd_T34 l0_1 x8_1).f0.f1⟩ : S32), (rd_T34 l0_1 x8_1).f1, (rd_T34 l0_1 x8_1).f2, (rd_T34 l0_1 x8_1).f3, (rd_T34 l0_1 x8_1).f4⟩ : S34) [.int .i64 ((rd_T34 l0_1 x8_1).f0.f0), .int .i64 ((rd_T34 l0_1 x8_1).f0.f1), .string ((rd_T34 l0_1 x8_1).f1), .int .i64 ((rd_T34 l0_1 x8_1).f2), .string ((rd_T34 l0_1 x8_1).f3), .int .i64 ((rd_T34 l0_1 x8_1).f4)] (fun _ => True) (fun _ => False) rfl rfl ?aP (fun _ hk => hk.elim) ?aF ?aO ?aB ?aS ?aL ?_; (case aP => exact k34_mkM _ _ _ (⟨(⟨(rd_T34 l0_1 x8_1).f0.f0, (rd_T34 l0_1 x8_1).f0.f1⟩ : S32), (rd_T34 l0_1 x8_1).f1, (rd_T34 l0_1 x8_1).f2, (rd_T34 l0_1 x8_1).f3, (rd_T34 l0_1 x8_1).f4⟩ : S34)); (case aB => exact (bw1 HB.out GE553.out)); (case aF => exact (fun _ _ => trivial)); (case aO => exact (rk HO_7.out)); (case aS => exact (below_size (bw1 HB.out GE553.out))); (case aL => have := LMc17.out; omega); intro v558 w19 ho hb hg hat; rw [← Ny557.out] at ho; replace BK553 := Aside0.mk (bkg BK553.out hg (Kd.R_ne HO_7.out BK553.out (by decide))); replace HB := Aside0.mk (hb); have HO559 := Aside0.mk (ho); clear HO_7; clear ho hb hg hat))
       go_roundg kj5
       case measure => have := HK1.out; have := HJ5.out; omega
       case rel => exact ⟨(y557), (wrap64 (x8_1 + 1)), ok_, H', ⟨by have := HK1.out; have := HJ5.out; omega⟩, ⟨rk HO559.out⟩, ⟨bk BK553.out⟩, ⟨bw1 HB.out GE553.out⟩⟩
      ·
       replace c14 := Bool.eq_false_iff.mpr c14
       subst c14
       have H1 : (deaddropref7_Find.l0 kj5 a1 a2 x7_1 (wrap64 (x8_1 + 1)) l0_0 l0_1) = some r := by rw [if_neg (show ¬ (false = true) by decide)] at H; exact H
       clear H
       have H := H1
       clear H1
       have H' := Aside0.mk H
       clear H
       go_wp2
       go_roundg kj5
       case measure => have := HK1.out; have := HJ5.out; omega
       case rel => exact ⟨(x7_1), (wrap64 (x8_1 + 1)), ok_, H', ⟨by have := HK1.out; have := HJ5.out; omega⟩, ⟨rk HO_7.out⟩, ⟨bk BK553.out⟩, ⟨bw1 HB.out GE553.out⟩⟩
   ·
    rw [if_neg c5] at H
    have c5b0 : decide (x8_1 < (l0_1.length : Int)) = false := decide_eq_false c5
    clear c5
    obtain rfl := Option.some.inj H
    obtain ⟨hcz20_0, hcz20_1⟩ := bx2 BK553.out
    obtain ⟨hfz20_0, hfz20_1⟩ := bf2 BK553.out
    go_wp2
    go_ret
    exact ⟨_, by first | rfl | (simp [errW_none, errW_some] <;> rfl) | (simp [*, errW_none, errW_some] <;> rfl), rk HO_7.out, bw1 HB.out GE553.out⟩

/-! ### deaddropref7_Items: function 21 -/
def deaddropref7_Items.l0 : Nat → List ByteArray → List (S34) → Int → Option (List ByteArray)
  | 0, _, _, _ => none
  | k + 1, x7, x8, x9 => if x9 < (x8.length : Int) then (if 0 ≤ x9 then ((deaddropref7_Insert.f k x7 ((rd_T34 x8 x9).f3)).bind fun t565 => (deaddropref7_Items.l0 k t565 x8 (wrap64 (x9 + 1)))) else (none)) else (some x7)
def deaddropref7_Items.f (k : Nat) (l0_0 : List (S70)) (l0_1 : List (S34)) (a1 : ByteArray) (a2 : Int) : Option (List ByteArray) := (deaddropref7_Find.f k l0_0 l0_1 a1 a2).bind fun t561 => (deaddropref7_Items.l0 k ([] : List ByteArray) t561 0)
theorem deaddropref7_Items.mono_l : ∀ k, (∀ y0 y1 y2, LeO (deaddropref7_Items.l0 k y0 y1 y2) (deaddropref7_Items.l0 (k + 1) y0 y1 y2))
  | 0 => fun _ _ _ r h => by simp [deaddropref7_Items.l0] at h
  | k + 1 => by
    have ih0 := deaddropref7_Items.mono_l k
    · intro y0 y1 y2
      unfold deaddropref7_Items.l0
      repeat' first
      | with_reducible (first | exact ih0 _ _ _ | exact deaddropref7_Find.mono _ _ _ _ _ | exact deaddropref7_Insert.mono _ _ _ | exact LeO.refl _ | exact LeO.none _ | refine LeO.ite ?_ ?_ | refine LeO.bind ?_ (fun _ => ?_))
      | exact ih0 _ _ _ | exact deaddropref7_Find.mono _ _ _ _ _ | exact deaddropref7_Insert.mono _ _ _ | exact LeO.none _ | refine LeO.ite ?_ ?_ | refine LeO.bind ?_ (fun _ => ?_)
theorem deaddropref7_Items.mono : ∀ a0 a1 a2 a3 k, LeO (deaddropref7_Items.f k a0 a1 a2 a3) (deaddropref7_Items.f (k + 1) a0 a1 a2 a3) := by
  intro a0 a1 a2 a3 k
  have ih0 := deaddropref7_Items.mono_l k
  unfold deaddropref7_Items.f
  repeat' first
      | with_reducible (first | exact ih0 _ _ _ | exact deaddropref7_Find.mono _ _ _ _ _ | exact deaddropref7_Insert.mono _ _ _ | exact LeO.refl _ | exact LeO.none _ | refine LeO.ite ?_ ?_ | refine LeO.bind ?_ (fun _ => ?_))
      | exact ih0 _ _ _ | exact deaddropref7_Find.mono _ _ _ _ _ | exact deaddropref7_Insert.mono _ _ _ | exact LeO.none _ | refine LeO.ite ?_ ?_ | refine LeO.bind ?_ (fun _ => ?_)
set_option maxHeartbeats 8000000 in
set_option maxRecDepth 100000 in
theorem deaddropref7_Items.calls (k : Nat) (A0_0 : Option Addr) (c0_0 : Nat) (l0_0 : List (S70)) (A0_1 : Option Addr) (c0_1 : Nat) (l0_1 : List (S34)) (a1 : ByteArray) (a2 : Int) (r : List ByteArray) (w : World) (hr0_0 : Kd.C k70 w A0_0 l0_0.length l0_0) (hc0_0 : l0_0.length ≤ c0_0) (hr0_1 : Kd.C k34 w A0_1 l0_1.length l0_1) (hc0_1 : l0_1.length ≤ c0_1) (h : deaddropref7_Items.f k l0_0 l0_1 a1 a2 = some r) :
    Calls Try.prog 21 #[.agg #[.slice A0_0 l0_0.length c0_0, .slice A0_1 l0_1.length c0_1], .string a1, .int .i64 a2] w fun e w' => ∃ v0_ : Value, e = .returned (v0_) ∧ Kd.R Kd.string 9 w' w.heap.size (fun _ => True) v0_ r ∧ Below w.heap.size w w' := by
  have hu28 := Try.underlying28
  have HR0_0 := Aside0.mk hr0_0
  have HC0_0 := Aside0.mk hc0_0
  clear hr0_0 hc0_0
  have HR0_1 := Aside0.mk hr0_1
  have HC0_1 := Aside0.mk hc0_1
  clear hr0_1 hc0_1
  have HB := Aside0.mk (Below.refl w.heap.size w)
  have H : ((deaddropref7_Find.f k l0_0 l0_1 a1 a2).bind fun t561 => (deaddropref7_Items.l0 k ([] : List ByteArray) t561 0)) = some r := h
  clear h
  replace H := Option.bind_eq_some_iff.mp H
  obtain ⟨t561, A40, H⟩ := H
  replace H : (deaddropref7_Items.l0 k ([] : List ByteArray) t561 0) = some r := H
  have A4 := Aside0.mk A40
  clear A40
  have H' := Aside0.mk H
  clear H
  go_enter Try.func21, Try.ntmps21
  go_wp2_with (first | ((with_reducible refine gate_dst (N := 3) rfl ?_); refine box_event ?hg (N := 3) ?hd (cs := #[.slice A0_0 l0_0.length c0_0, .slice A0_1 l0_1.length c0_1]) (t := 28) ?hr ?_; (case hd => rfl); (case hg => rfl); (case hr => first | (go_simp; done) | (go_simp; rfl)); intro gb560 hg w5 hbox hb; have BK560 := Aside0.mk (hbox); have GW560 := Aside0.mk ((by rw [hg]; exact (below_size (bw HB.out)) : w.heap.size ≤ gb560)); have GE560 := GW560; replace HB := Aside0.mk (below_step (bw HB.out) hb); clear hb hbox hg; obtain ⟨hcz6_0, hcz6_1⟩ := bx2 BK560.out; obtain ⟨hfz6_0, hfz6_1⟩ := bf2 BK560.out) | ((with_reducible refine gate_callee (f := 37) rfl ?_); refine goesL_ (some 13) rfl rfl Try.func37 (by kernel_rfl) rfl #[.agg #[.slice A0_0 l0_0.length c0_0, .slice A0_1 l0_1.length c0_1], .string a1, .int .i64 a2] rfl ar_ ?_; (with_reducible refine (deaddropref7_Find.calls k _ _ l0_0 _ _ l0_1 a1 a2 t561 _ ?side1 ?side2 ?side3 ?side4 A4.out).mono ?_); (case side1 => exact cr (Kd.C_below HR0_0.out HB.out)); (case side2 => exact HC0_0.out); (case side3 => exact cr (Kd.C_below HR0_1.out HB.out)); (case side4 => exact HC0_1.out); rintro e w7 ⟨v562, rfl, ho0, hb⟩; refine ⟨_, rfl, ?_⟩; have HO563 := Aside0.mk (Kd.R_lower ho0 (below_size (bw1 HB.out GE560.out))); replace BK560 := Aside0.mk (bkb BK560.out hb); replace HB := Aside0.mk (below_step (bw1 HB.out GE560.out) hb); (try clear hb); (try clear hb2); (try clear hk); (try clear hi); (try clear ho0)))
  go_loopg [7, 9] k (fun kq v7 v9 w' => ∃ (x7_1 : List ByteArray) (x9_1 : Int), v9 = .int .i64 x9_1 ∧ Aside0 (deaddropref7_Items.l0 kq x7_1 t561 x9_1 = some r) ∧ Aside0 (kq ≤ k) ∧ Aside0 (Kd.R Kd.string 9 w' w.heap.size (fun _ => True) v7 x7_1) ∧ Aside0 (Kd.R k34 34 w' w.heap.size (fun _ => True) v562 t561) ∧ Aside0 (w'.heap[gb560]? = some (.cells #[(.slice A0_0 l0_0.length c0_0), (.slice A0_1 l0_1.length c0_1)] 28 (0, 0))) ∧ Aside0 (Below w.heap.size w w'))
  case atStart => exact ⟨(([] : List ByteArray)), (0), ok_, H', ⟨Nat.le_refl _⟩, ⟨by first | exact Kd.R_nil _ _ _ _ _ | exact Kd.N_nil _ _ _ _ _ | exact Kd.V_nil _ _ _ _ _ | exact Kd.Q_nil _ _ _ _ _ | exact Kd.S_nil _ _ _ _ _⟩, ⟨rk HO563.out⟩, ⟨bk BK560.out⟩, ⟨bw1 HB.out GE560.out⟩⟩
  case round =>
    clear H'
    try clear hcz6_0
    try clear hcz6_1
    try clear hfz6_0
    try clear hfz6_1
    obtain ⟨x7_1, x9_1, rfl, HA, HK1, HO_7, HO_8, BK560, HB⟩ := hrel
    cases gk with
    | zero => exact absurd HA.out (by simp [deaddropref7_Items.l0])
    | succ k1 =>
      have H := HA.out
      clear HA
      simp only [deaddropref7_Items.l0] at H
      by_cases c8 : x9_1 < (t561.length : Int)
      · rw [if_pos c8] at H
        have c8b0 : decide (x9_1 < (t561.length : Int)) = true := decide_eq_true c8
        clear c8
        by_cases c9 : 0 ≤ x9_1
        · rw [if_pos c9] at H
          have c9b0 : decide (0 ≤ x9_1) = true := decide_eq_true c9
          clear c9
          replace H := Option.bind_eq_some_iff.mp H
          obtain ⟨t565, A100, H⟩ := H
          replace H : (deaddropref7_Items.l0 k1 t565 t561 (wrap64 (x9_1 + 1))) = some r := H
          have A10 := Aside0.mk A100
          clear A100
          have H' := Aside0.mk H
          clear H
          obtain ⟨Ao11, co11, eo11⟩ := Kd.R_slice HO_8.out
          subst eo11
          have p564 : 0 ≤ (x9_1 : Int) := of_decide_eq_true as_
          have q564 : x9_1 < (t561.length : Int) := of_decide_eq_true as_
          obtain ⟨ad564, e564, hx564_0, hx564_1, hx564_2, hx564_3, hx564_4, hx564_5⟩ := at_T34 (Kd.R_reads' HO_8.out).2.2 x9_1 p564 q564
          cases e564
          replace p564 := eq_true p564
          replace q564 := eq_true q564
          obtain ⟨Ao12, co12, eo12⟩ := Kd.R_slice HO_7.out
          subst eo12
          go_wp2_with (first | ((with_reducible refine gate_callee (f := 36) rfl ?_); refine goesL_ (some 26) rfl rfl Try.func36 (by kernel_rfl) rfl #[.slice Ao12 x7_1.length co12, .string ((rd_T34 t561 x9_1).f3)] rfl ar_ ?_; (with_reducible refine (deaddropref7_Insert.calls k1 (fun k_ => some k_ = (.slice Ao12 x7_1.length co12 : Value).ownBlock) (.slice Ao12 x7_1.length co12) x7_1 ((rd_T34 t561 x9_1).f3) t565 w _ ?side1 ?side2 A10.out).mono ?_); (case side1 => repeat (first | (with_reducible first | exact HB.out | apply below_alloc | apply pw_below_drewN | apply below_drew1 | refine below_set ?_ GE560.out) | exact HB.out)); (case side2 => exact Kd.R_tight rfl HO_7.out); rintro e w13 ⟨v566, rfl, ho0, hb, hkp⟩; refine ⟨_, rfl, ?_⟩; replace HO_8 := Aside0.mk (Kd.R_mono (ok' := fun k_ => True) (Kd.R_keptB ((Kd.R_apart' HO_8.out (Kd.R_typed HO_7.out) (by decide))) hkp (fun k_ hk_ hs_ => (hk_.2) hs_)) (fun k_ hk_ => trivial)); replace BK560 := Aside0.mk (blk_kept (bk BK560.out) hkp (fun hs_ => (fun e_ => (Kd.R_ne HO_7.out BK560.out (by decide)) e_) hs_)); have HO567 := Aside0.mk (Kd.R_mono (ok' := fun k_ => True) ho0 (fun k_ hk_ => trivial)); replace HB := Aside0.mk (hb); clear HO_7; (try clear hb); (try clear hkp); (try clear ho0)))
          go_roundg k1
          case measure => have := HK1.out; omega
          case rel => exact ⟨(t565), (wrap64 (x9_1 + 1)), ok_, H', ⟨by have := HK1.out; omega⟩, ⟨rk HO567.out⟩, ⟨rk HO_8.out⟩, ⟨bk BK560.out⟩, ⟨bw1 HB.out GE560.out⟩⟩
        · rw [if_neg c9] at H
          exact absurd H (by simp)
      · rw [if_neg c8] at H
        have c8b0 : decide (x9_1 < (t561.length : Int)) = false := decide_eq_false c8
        clear c8
        obtain rfl := Option.some.inj H
        obtain ⟨Ao14, co14, eo14⟩ := Kd.R_slice HO_8.out
        subst eo14
        go_wp2
        go_ret
        exact ⟨_, by first | rfl | (simp [errW_none, errW_some] <;> rfl) | (simp [*, errW_none, errW_some] <;> rfl), rk HO_7.out, bw1 HB.out GE560.out⟩

/-! ### deaddropref7_Count: function 22 -/
def deaddropref7_Count.l0 : Nat → Int → List (S34) → Int → Option (Int)
  | 0, _, _, _ => none
  | k + 1, x5, x6, x7 => if x7 < (x6.length : Int) then (if 0 ≤ x7 then (deaddropref7_Count.l0 k (wrap64 (x5 + ((rd_T34 x6 x7).f4))) x6 (wrap64 (x7 + 1))) else (none)) else (some x5)
def deaddropref7_Count.f (k : Nat) (l0_0 : List (S70)) (l0_1 : List (S34)) (a1 : ByteArray) : Option (Int) := (deaddropref7_Find.f k l0_0 l0_1 a1 3).bind fun t569 => (deaddropref7_Count.l0 k 0 t569 0)
theorem deaddropref7_Count.mono_l : ∀ k, (∀ y0 y1 y2, LeO (deaddropref7_Count.l0 k y0 y1 y2) (deaddropref7_Count.l0 (k + 1) y0 y1 y2))
  | 0 => fun _ _ _ r h => by simp [deaddropref7_Count.l0] at h
  | k + 1 => by
    have ih0 := deaddropref7_Count.mono_l k
    · intro y0 y1 y2
      unfold deaddropref7_Count.l0
      repeat' first
      | with_reducible (first | exact ih0 _ _ _ | exact deaddropref7_Find.mono _ _ _ _ _ | exact LeO.refl _ | exact LeO.none _ | refine LeO.ite ?_ ?_ | refine LeO.bind ?_ (fun _ => ?_))
      | exact ih0 _ _ _ | exact deaddropref7_Find.mono _ _ _ _ _ | exact LeO.none _ | refine LeO.ite ?_ ?_ | refine LeO.bind ?_ (fun _ => ?_)
theorem deaddropref7_Count.mono : ∀ a0 a1 a2 k, LeO (deaddropref7_Count.f k a0 a1 a2) (deaddropref7_Count.f (k + 1) a0 a1 a2) := by
  intro a0 a1 a2 k
  have ih0 := deaddropref7_Count.mono_l k
  unfold deaddropref7_Count.f
  repeat' first
      | with_reducible (first | exact ih0 _ _ _ | exact deaddropref7_Find.mono _ _ _ _ _ | exact LeO.refl _ | exact LeO.none _ | refine LeO.ite ?_ ?_ | refine LeO.bind ?_ (fun _ => ?_))
      | exact ih0 _ _ _ | exact deaddropref7_Find.mono _ _ _ _ _ | exact LeO.none _ | refine LeO.ite ?_ ?_ | refine LeO.bind ?_ (fun _ => ?_)
set_option maxHeartbeats 8000000 in
set_option maxRecDepth 100000 in
theorem deaddropref7_Count.calls (k : Nat) (A0_0 : Option Addr) (c0_0 : Nat) (l0_0 : List (S70)) (A0_1 : Option Addr) (c0_1 : Nat) (l0_1 : List (S34)) (a1 : ByteArray) (r : Int) (w : World) (hr0_0 : Kd.C k70 w A0_0 l0_0.length l0_0) (hc0_0 : l0_0.length ≤ c0_0) (hr0_1 : Kd.C k34 w A0_1 l0_1.length l0_1) (hc0_1 : l0_1.length ≤ c0_1) (h : deaddropref7_Count.f k l0_0 l0_1 a1 = some r) :
    Calls Try.prog 22 #[.agg #[.slice A0_0 l0_0.length c0_0, .slice A0_1 l0_1.length c0_1], .string a1] w fun e w' => e = .returned (.int .i64 r) ∧ Below w.heap.size w w' := by
  have hu28 := Try.underlying28
  have HR0_0 := Aside0.mk hr0_0
  have HC0_0 := Aside0.mk hc0_0
  clear hr0_0 hc0_0
  have HR0_1 := Aside0.mk hr0_1
  have HC0_1 := Aside0.mk hc0_1
  clear hr0_1 hc0_1
  have HB := Aside0.mk (Below.refl w.heap.size w)
  have H : ((deaddropref7_Find.f k l0_0 l0_1 a1 3).bind fun t569 => (deaddropref7_Count.l0 k 0 t569 0)) = some r := h
  clear h
  replace H := Option.bind_eq_some_iff.mp H
  obtain ⟨t569, A30, H⟩ := H
  replace H : (deaddropref7_Count.l0 k 0 t569 0) = some r := H
  have A3 := Aside0.mk A30
  clear A30
  have H' := Aside0.mk H
  clear H
  go_enter Try.func22, Try.ntmps22
  go_wp2_with (first | ((with_reducible refine gate_dst (N := 2) rfl ?_); refine box_event ?hg (N := 2) ?hd (cs := #[.slice A0_0 l0_0.length c0_0, .slice A0_1 l0_1.length c0_1]) (t := 28) ?hr ?_; (case hd => rfl); (case hg => rfl); (case hr => first | (go_simp; done) | (go_simp; rfl)); intro gb568 hg w4 hbox hb; have BK568 := Aside0.mk (hbox); have GW568 := Aside0.mk ((by rw [hg]; exact (below_size (bw HB.out)) : w.heap.size ≤ gb568)); have GE568 := GW568; replace HB := Aside0.mk (below_step (bw HB.out) hb); clear hb hbox hg; obtain ⟨hcz5_0, hcz5_1⟩ := bx2 BK568.out; obtain ⟨hfz5_0, hfz5_1⟩ := bf2 BK568.out) | ((with_reducible refine gate_callee (f := 37) rfl ?_); refine goesL_ (some 10) rfl rfl Try.func37 (by kernel_rfl) rfl #[.agg #[.slice A0_0 l0_0.length c0_0, .slice A0_1 l0_1.length c0_1], .string a1, .int .i64 3] rfl ar_ ?_; (with_reducible refine (deaddropref7_Find.calls k _ _ l0_0 _ _ l0_1 a1 3 t569 _ ?side1 ?side2 ?side3 ?side4 A3.out).mono ?_); (case side1 => exact cr (Kd.C_below HR0_0.out HB.out)); (case side2 => exact HC0_0.out); (case side3 => exact cr (Kd.C_below HR0_1.out HB.out)); (case side4 => exact HC0_1.out); rintro e w6 ⟨v570, rfl, ho0, hb⟩; refine ⟨_, rfl, ?_⟩; have HO571 := Aside0.mk (Kd.R_lower ho0 (below_size (bw1 HB.out GE568.out))); replace BK568 := Aside0.mk (bkb BK568.out hb); replace HB := Aside0.mk (below_step (bw1 HB.out GE568.out) hb); (try clear hb); (try clear hb2); (try clear hk); (try clear hi); (try clear ho0)))
  go_loopg [5, 7] k (fun kq v5 v7 w' => ∃ (x5_1 : Int) (x7_1 : Int), v5 = .int .i64 x5_1 ∧ v7 = .int .i64 x7_1 ∧ Aside0 (deaddropref7_Count.l0 kq x5_1 t569 x7_1 = some r) ∧ Aside0 (kq ≤ k) ∧ Aside0 (Kd.R k34 34 w' w.heap.size (fun _ => True) v570 t569) ∧ Aside0 (w'.heap[gb568]? = some (.cells #[(.slice A0_0 l0_0.length c0_0), (.slice A0_1 l0_1.length c0_1)] 28 (0, 0))) ∧ Aside0 (Below w.heap.size w w'))
  case atStart => exact ⟨(0), (0), ok_, ok_, H', ⟨Nat.le_refl _⟩, ⟨rk HO571.out⟩, ⟨bk BK568.out⟩, ⟨bw1 HB.out GE568.out⟩⟩
  case round =>
    clear H'
    try clear hcz5_0
    try clear hcz5_1
    try clear hfz5_0
    try clear hfz5_1
    obtain ⟨x5_1, x7_1, rfl, rfl, HA, HK1, HO_6, BK568, HB⟩ := hrel
    cases gk with
    | zero => exact absurd HA.out (by simp [deaddropref7_Count.l0])
    | succ k1 =>
      have H := HA.out
      clear HA
      simp only [deaddropref7_Count.l0] at H
      by_cases c7 : x7_1 < (t569.length : Int)
      · rw [if_pos c7] at H
        have c7b0 : decide (x7_1 < (t569.length : Int)) = true := decide_eq_true c7
        clear c7
        by_cases c8 : 0 ≤ x7_1
        · rw [if_pos c8] at H
          have c8b0 : decide (0 ≤ x7_1) = true := decide_eq_true c8
          clear c8
          have H' := Aside0.mk H
          clear H
          obtain ⟨Ao9, co9, eo9⟩ := Kd.R_slice HO_6.out
          subst eo9
          have p572 : 0 ≤ (x7_1 : Int) := of_decide_eq_true as_
          have q572 : x7_1 < (t569.length : Int) := of_decide_eq_true as_
          obtain ⟨ad572, e572, hx572_0, hx572_1, hx572_2, hx572_3, hx572_4, hx572_5⟩ := at_T34 (Kd.R_reads' HO_6.out).2.2 x7_1 p572 q572
          cases e572
          replace p572 := eq_true p572
          replace q572 := eq_true q572
          go_wp2
          go_roundg k1
          case measure => have := HK1.out; omega
          case rel => exact ⟨(wrap64 (x5_1 + ((rd_T34 t569 x7_1).f4))), (wrap64 (x7_1 + 1)), ok_, ok_, H', ⟨by have := HK1.out; omega⟩, ⟨rk HO_6.out⟩, ⟨bk BK568.out⟩, ⟨bw1 HB.out GE568.out⟩⟩
        · rw [if_neg c8] at H
          exact absurd H (by simp)
      · rw [if_neg c7] at H
        have c7b0 : decide (x7_1 < (t569.length : Int)) = false := decide_eq_false c7
        clear c7
        obtain rfl := Option.some.inj H
        obtain ⟨Ao10, co10, eo10⟩ := Kd.R_slice HO_6.out
        subst eo10
        go_wp2
        go_ret
        exact ⟨by first | rfl | (simp [errW_none, errW_some] <;> rfl) | (simp [*, errW_none, errW_some] <;> rfl), bw1 HB.out GE568.out⟩

end Go.Proofs.Ytaonemedoikieaa.M
