-- Written by a program of this work (wip/tools/mkprint.py) over the kit's print; Lean checks it.
import Derived.Test.YtaonemedoikieaaMx0
import Derived.Test.YtaonemedoikieaaMx5
import Derived.Test.YtaonemedoikieaaMx6
import Derived.Test.YtaonemedoikieaaMx8
import Derived.Test.YtaonemedoikieaaHAbb2
namespace Go.Proofs.Ytaonemedoikieaa.M
open Go.RowKit Go.Proofs.YtaonemedoikieaaW.PrintWords Go.Proofs.YtaonemedoikieaaW.PrintLast Go.Proofs.YtaonemedoikieaaW.PrintMore Go.Proofs.Ytaonemedoikieaa.AB
attribute [local go_sem] max2_int min2_int max_two min_two max_three min_three max_four min_four   -- for this text's walks alone
set_option linter.unusedVariables false
set_option linter.unusedSimpArgs false

/-! ### deaddroplaw8_Make: function 28 -/
mutual
def deaddroplaw8_Make.l0 : Nat → List Int → Int → List (S70) → List (S34) → Option ((List (S70)) × (List (S34)))
 | 0, _, _, _, _ => none
 | k + 1, x0, x4, x456000, x456001 => if (wrap64 (x4 + 1)) < (x0.length : Int) then (deaddroplaw8_Make.j1 k x0 x4 (decide (x4 < 80)) x456000 x456001) else (deaddroplaw8_Make.j1 k x0 x4 false x456000 x456001)
def deaddroplaw8_Make.j1 : Nat → List Int → Int → Bool → List (S70) → List (S34) → Option ((List (S70)) × (List (S34)))
 | 0, _, _, _, _, _ => none
 | k + 1, x0, x4, x14, x456000, x456001 => if x14 = true then (if 0 ≤ x4 then (if x4 < (x0.length : Int) then (if 0 ≤ (wrap64 (x4 + 1)) then (if (wrap64 (x4 + 1)) < (x0.length : Int) then ((deaddroplaw8_Op.f (rd x0 x4) (rd x0 (wrap64 (x4 + 1)))).bind fun bt459 => ((deaddropref7_Do.f k x456000 x456001 (Int.tmod (wrap64 (Int.tdiv (wrap64 (rd x0 x4)) 16)) 4) bt459.1 bt459.2.1 bt459.2.2.1 bt459.2.2.2).bind fun bt463 => (if bt463.2.2 = 0 then ((deaddropref7_Join.f k x456000 x456001 bt463.1 bt463.2.1).bind fun bt471 => (deaddroplaw8_Make.l0 k x0 (wrap64 (x4 + 2)) bt471.1 bt471.2)) else (none)))) else (none)) else (none)) else (none)) else (none)) else (some (x456000, x456001))
end
def deaddroplaw8_Make.f (k : Nat) (l0 : List Int) : Option ((List (S70)) × (List (S34))) := deaddroplaw8_Make.l0 k l0 0 ([] : List (S70)) ([] : List (S34))
theorem deaddroplaw8_Make.mono_l : ∀ k, (∀ y0 y1 y2 y3, LeO (deaddroplaw8_Make.l0 k y0 y1 y2 y3) (deaddroplaw8_Make.l0 (k + 1) y0 y1 y2 y3)) ∧ (∀ y0 y1 y2 y3 y4, LeO (deaddroplaw8_Make.j1 k y0 y1 y2 y3 y4) (deaddroplaw8_Make.j1 (k + 1) y0 y1 y2 y3 y4))
 | 0 => by refine ⟨?_, ?_⟩ <;> (intros; intro r h; simp [deaddroplaw8_Make.l0, deaddroplaw8_Make.j1] at h)
 | k + 1 => by
  obtain ⟨ih0, ih1⟩ := deaddroplaw8_Make.mono_l k
  refine ⟨?_, ?_⟩ <;> intros <;> (first | unfold deaddroplaw8_Make.l0 | unfold deaddroplaw8_Make.j1) <;>
  repeat' first
  | with_reducible (first | exact ih0 _ _ _ _ | exact ih1 _ _ _ _ _ | exact deaddropref7_Do.mono _ _ _ _ _ _ _ _ | exact deaddropref7_Join.mono _ _ _ _ _ | exact LeO.refl _ | exact LeO.none _ | refine LeO.ite ?_ ?_ | refine LeO.bind ?_ (fun _ => ?_))
  | exact ih0 _ _ _ _ | exact ih1 _ _ _ _ _ | exact deaddropref7_Do.mono _ _ _ _ _ _ _ _ | exact deaddropref7_Join.mono _ _ _ _ _ | exact LeO.none _ | refine LeO.ite ?_ ?_ | refine LeO.bind ?_ (fun _ => ?_)
theorem deaddroplaw8_Make.mono : ∀ a0 k, LeO (deaddroplaw8_Make.f k a0) (deaddroplaw8_Make.f (k + 1) a0) := by
 intro a0 k
 obtain ⟨ih0, ih1⟩ := deaddroplaw8_Make.mono_l k
 unfold deaddroplaw8_Make.f
 repeat' first
  | with_reducible (first | exact ih0 _ _ _ _ | exact ih1 _ _ _ _ _ | exact deaddropref7_Do.mono _ _ _ _ _ _ _ _ | exact deaddropref7_Join.mono _ _ _ _ _ | exact LeO.refl _ | exact LeO.none _ | refine LeO.ite ?_ ?_ | refine LeO.bind ?_ (fun _ => ?_))
  | exact ih0 _ _ _ _ | exact ih1 _ _ _ _ _ | exact deaddropref7_Do.mono _ _ _ _ _ _ _ _ | exact deaddropref7_Join.mono _ _ _ _ _ | exact LeO.none _ | refine LeO.ite ?_ ?_ | refine LeO.bind ?_ (fun _ => ?_)
def deaddroplaw8_Make.T5 : Bool × List (List Nat × List Nat) := (true, [([], []), ([], []), ([], []), ([1, 2], [1, 2]), ([3], [3]), ([4], [4]), ([5], [5]), ([6], [6]), ([], []), ([], []), ([8, 9], [8, 9]), ([10], [10]), ([], []), ([], []), ([13], [13]), ([12, 14], [12, 14]), ([15], [15]), ([11, 16], [11, 16]), ([0, 7, 17, 17], [0, 7, 17]), ([], []), ([19, 18, 18, 0, 1, 2, 3, 4, 5, 6, 7, 8, 9, 10, 11, 12, 13, 14, 15, 16, 17, 18, 19], [18, 19])])
def deaddroplaw8_Make.B5 : List Nat := [0, 0, 0, 6, 14, 30, 62, 126, 0, 0, 768, 1792, 0, 0, 8192, 28672, 61440, 130816, 262143, 0, 1048575]
theorem deaddroplaw8_Make.tab5 : rtab .any (opsOf Try.f28 5) = deaddroplaw8_Make.T5 := by kernel_rfl
theorem deaddroplaw8_Make.bits5 : waitsOk deaddroplaw8_Make.T5.2 deaddroplaw8_Make.B5 = true := by kernel_rfl
set_option maxHeartbeats 8000000 in
set_option maxRecDepth 100000 in
theorem deaddroplaw8_Make.calls (k : Nat) (A0 : Option Addr) (c0 : Nat) (l0 : List Int) (r1 : List (S70)) (r2 : List (S34)) (w : World) (hr0 : Kd.C (Kd.int .u8) w A0 l0.length l0) (hc0 : l0.length ≤ c0) (h : deaddroplaw8_Make.f k l0 = some (r1, r2)) :
 Calls Try.prog 28 #[.slice A0 l0.length c0] w fun e w' => ∃ v0_ v1_ : Value, e = .returned (.agg #[v0_, v1_]) ∧ Kd.R k70 70 w' w.heap.size (fun _ => True) v0_ r1 ∧ Kd.R k34 34 w' w.heap.size (fun _ => True) v1_ r2 ∧ Below w.heap.size w w' := by
 have hu28 := Try.underlying28
 have hu43 := Try.underlying43
 have HR0 := Aside0.mk hr0
 have HC0 := Aside0.mk hc0
 clear hr0 hc0
 have HB := Aside0.mk (Below.refl w.heap.size w)
 have H : (deaddroplaw8_Make.l0 k l0 0 ([] : List (S70)) ([] : List (S34))) = some (r1, r2) := h
 clear h
 have H' := Aside0.mk H
 clear H
 go_enter Try.func28, Try.ntmps28
 go_wp2_with (first | ((with_reducible refine gate_dst (N := 2) rfl ?_); refine box_event ?hg (N := 2) ?hd (cs := #[.slice none 0 0, .slice none 0 0]) (t := 28) ?hr ?_; (case hd => rfl); (case hg => rfl); (case hr => first | (go_simp; done) | (go_simp; rfl)); intro gb454 hg w2 hbox hb; have BK454 := Aside0.mk (hbox); have GW454 := Aside0.mk ((by rw [hg]; exact (below_size (bw HB.out)) : w.heap.size ≤ gb454)); have GE454 := GW454; replace HB := Aside0.mk (below_step (bw HB.out) hb); clear hb hbox hg) | ((with_reducible refine gate_dst (N := 3) rfl ?_); refine box_event ?hg (N := 3) ?hd (cs := #[.slice none 0 0, .slice none 0 0]) (t := 28) ?hr ?_; (case hd => rfl); (case hg => rfl); (case hr => first | (go_simp; done) | (go_simp; rfl)); intro gb455 hg w3 hbox hb; have BK455 := Aside0.mk (hbox); have GW455 := Aside0.mk ((by rw [hg]; exact (below_size (bw1 HB.out GE454.out)) : w.heap.size ≤ gb455)); have GE455 := GW455; replace HB := Aside0.mk (below_step (bw1 HB.out GE454.out) hb); have NB454_455 := Aside0.mk (nbl BK454.out hg); have NB455_454 := Aside0.mk (nbg BK454.out hg); replace BK454 := Aside0.mk (bkb BK454.out hb); clear hb hbox hg))
 go_loopg [4] k (fun kq v4 w' => ∃ (x4_1 : Int) (x456000_1 : List (S70)) (x456001_1 : List (S34)) (u456000 : Value) (u456001 : Value), v4 = .int .i64 x4_1 ∧ Aside0 (deaddroplaw8_Make.l0 kq l0 x4_1 x456000_1 x456001_1 = some (r1, r2)) ∧ Aside0 (kq ≤ k) ∧ Aside0 (Kd.R k70 70 w' w.heap.size (fun _ => True) u456000 x456000_1) ∧ Aside0 (Kd.R k34 34 w' w.heap.size (fun _ => True) u456001 x456001_1) ∧ Aside0 (w'.heap[gb454]? = some (.cells #[(.slice none 0 0), (.slice none 0 0)] 28 (0, 0))) ∧ Aside0 (w'.heap[gb455]? = some (.cells #[u456000, u456001] 28 (0, 0))) ∧ Aside0 (Below w.heap.size w w'))
 case atStart => exact ⟨(0), (([] : List (S70))), (([] : List (S34))), (.slice none 0 0), (.slice none 0 0), ok_, H', ⟨Nat.le_refl _⟩, ⟨by first | exact Kd.R_nil _ _ _ _ _ | exact Kd.N_nil _ _ _ _ _ | exact Kd.V_nil _ _ _ _ _ | exact Kd.Q_nil _ _ _ _ _ | exact Kd.S_nil _ _ _ _ _⟩, ⟨by first | exact Kd.R_nil _ _ _ _ _ | exact Kd.N_nil _ _ _ _ _ | exact Kd.V_nil _ _ _ _ _ | exact Kd.Q_nil _ _ _ _ _ | exact Kd.S_nil _ _ _ _ _⟩, ⟨bk BK454.out⟩, ⟨bk BK455.out⟩, ⟨bw2 HB.out GE454.out GE455.out⟩⟩
 case round =>
  clear H'
  obtain ⟨x4_1, x456000_1, x456001_1, u456000, u456001, rfl, HA, HK1, HO_456000, HO_456001, BK454, BK455, HB⟩ := hrel
  cases gk with
  | zero => exact absurd HA.out (by simp [deaddroplaw8_Make.l0])
  | succ k1 =>
   have H := HA.out
   clear HA
   simp only [deaddroplaw8_Make.l0] at H
   have HC4 := Aside0.mk H
   clear H
   go_upto_region 3 with (fail)
   go_cut [14] (fun v14 wc => ∃ (kq : Nat) (x14_3 : Bool), v14 = .bool x14_3 ∧ Aside0 (deaddroplaw8_Make.j1 kq l0 x4_1 x14_3 x456000_1 x456001_1 = some (r1, r2)) ∧ Aside0 (kq ≤ k1) ∧ Aside0 (Kd.R k70 70 wc w.heap.size (fun _ => True) u456000 x456000_1) ∧ Aside0 (Kd.R k34 34 wc w.heap.size (fun _ => True) u456001 x456001_1) ∧ Aside0 (wc.heap[gb454]? = some (.cells #[(.slice none 0 0), (.slice none 0 0)] 28 (0, 0))) ∧ Aside0 (wc.heap[gb455]? = some (.cells #[u456000, u456001] 28 (0, 0))) ∧ Aside0 (Below w.heap.size w wc))
   case first =>
    have H := HC4.out
    clear HC4
    by_cases c5 : (wrap64 (x4_1 + 1)) < (l0.length : Int)
    ·
     rw [if_pos c5] at H
     have c5b0 : decide ((wrap64 (x4_1 + 1)) < (l0.length : Int)) = true := decide_eq_true c5
     clear c5
     (first | rw [c5b0] | (simp only [i64_w, i32_w]; rw [c5b0]) | skip)
     have H' := Aside0.mk H
     clear H
     go_wp2
     go_meet
     case rel => exact ⟨_, (decide (x4_1 < 80)), ok_, H', ⟨by have := HK1.out; first | omega | exact Nat.le_refl _⟩, ⟨rk HO_456000.out⟩, ⟨rk HO_456001.out⟩, ⟨bk BK454.out⟩, ⟨bk BK455.out⟩, ⟨bw2 HB.out GE454.out GE455.out⟩⟩
    ·
     rw [if_neg c5] at H
     have c5b0 : decide ((wrap64 (x4_1 + 1)) < (l0.length : Int)) = false := decide_eq_false c5
     clear c5
     (first | rw [c5b0] | (simp only [i64_w, i32_w]; rw [c5b0]) | skip)
     have H' := Aside0.mk H
     clear H
     go_wp2
     go_meet
     case rel => exact ⟨_, (false), ok_, H', ⟨by have := HK1.out; first | omega | exact Nat.le_refl _⟩, ⟨rk HO_456000.out⟩, ⟨rk HO_456001.out⟩, ⟨bk BK454.out⟩, ⟨bk BK455.out⟩, ⟨bw2 HB.out GE454.out GE455.out⟩⟩
   case rest =>
    clear HC4
    obtain ⟨kq, x14_3, rfl, HA, HJ3, HO_456000, HO_456001, BK454, BK455, HB⟩ := hcut
    cases kq with
    | zero => exact absurd HA.out (by simp [deaddroplaw8_Make.j1])
    | succ kj3 =>
     have H := HA.out
     clear HA
     simp only [deaddroplaw8_Make.j1] at H
     by_cases c6 : x14_3 = true
     ·
      subst c6
      have H1 : (if 0 ≤ x4_1 then (if x4_1 < (l0.length : Int) then (if 0 ≤ (wrap64 (x4_1 + 1)) then (if (wrap64 (x4_1 + 1)) < (l0.length : Int) then ((deaddroplaw8_Op.f (rd l0 x4_1) (rd l0 (wrap64 (x4_1 + 1)))).bind fun bt459 => ((deaddropref7_Do.f kj3 x456000_1 x456001_1 (Int.tmod (wrap64 (Int.tdiv (wrap64 (rd l0 x4_1)) 16)) 4) bt459.1 bt459.2.1 bt459.2.2.1 bt459.2.2.2).bind fun bt463 => (if bt463.2.2 = 0 then ((deaddropref7_Join.f kj3 x456000_1 x456001_1 bt463.1 bt463.2.1).bind fun bt471 => (deaddroplaw8_Make.l0 kj3 l0 (wrap64 (x4_1 + 2)) bt471.1 bt471.2)) else (none)))) else (none)) else (none)) else (none)) else (none)) = some (r1, r2) := by rw [if_pos rfl] at H; exact H
      clear H
      have H := H1
      clear H1
      by_cases c7 : 0 ≤ x4_1
      rotate_left
      ·
       rw [if_neg c7] at H
       exact absurd H (by simp)
      rw [if_pos c7] at H
      have c7b0 : decide (0 ≤ x4_1) = true := decide_eq_true c7
      clear c7
      by_cases c8 : x4_1 < (l0.length : Int)
      rotate_left
      ·
       rw [if_neg c8] at H
       exact absurd H (by simp)
      rw [if_pos c8] at H
      have c8b0 : decide (x4_1 < (l0.length : Int)) = true := decide_eq_true c8
      clear c8
      obtain ⟨ji9, hji9⟩ : ∃ j_ : Int, (wrap64 (x4_1 + 1)) = j_ := ⟨_, rfl⟩
      replace H : (if 0 ≤ (ji9) then (if (ji9) < (l0.length : Int) then ((deaddroplaw8_Op.f (rd l0 x4_1) (rd l0 (ji9))).bind fun bt459 => ((deaddropref7_Do.f kj3 x456000_1 x456001_1 (Int.tmod (wrap64 (Int.tdiv (wrap64 (rd l0 x4_1)) 16)) 4) bt459.1 bt459.2.1 bt459.2.2.1 bt459.2.2.2).bind fun bt463 => (if bt463.2.2 = 0 then ((deaddropref7_Join.f kj3 x456000_1 x456001_1 bt463.1 bt463.2.1).bind fun bt471 => (deaddroplaw8_Make.l0 kj3 l0 (wrap64 (x4_1 + 2)) bt471.1 bt471.2)) else (none)))) else (none)) else (none)) = some (r1, r2) := by first | (rw [hji9] at H; exact H) | (simp only [hji9] at H ⊢; exact H)
      have hji9w : (IntKind.i64.wrap (x4_1 + 1)) = ji9 := (i64_w _).trans hji9
      by_cases c10 : 0 ≤ (ji9)
      rotate_left
      ·
       rw [if_neg c10] at H
       exact absurd H (by simp)
      rw [if_pos c10] at H
      have c10b0 : decide (0 ≤ (ji9)) = true := decide_eq_true c10
      clear c10
      by_cases c11 : (ji9) < (l0.length : Int)
      rotate_left
      ·
       rw [if_neg c11] at H
       exact absurd H (by simp)
      rw [if_pos c11] at H
      have c11b0 : decide ((ji9) < (l0.length : Int)) = true := decide_eq_true c11
      clear c11
      replace H := Option.bind_eq_some_iff.mp H
      obtain ⟨⟨t459, t460, t461, t462⟩, A120, H⟩ := H
      replace H : ((deaddropref7_Do.f kj3 x456000_1 x456001_1 (Int.tmod (wrap64 (Int.tdiv (wrap64 (rd l0 x4_1)) 16)) 4) t459 t460 t461 t462).bind fun bt463 => (if bt463.2.2 = 0 then ((deaddropref7_Join.f kj3 x456000_1 x456001_1 bt463.1 bt463.2.1).bind fun bt471 => (deaddroplaw8_Make.l0 kj3 l0 (wrap64 (x4_1 + 2)) bt471.1 bt471.2)) else (none))) = some (r1, r2) := H
      have A12 := Aside0.mk A120
      clear A120
      replace H := Option.bind_eq_some_iff.mp H
      obtain ⟨⟨t463, t466, t469⟩, A130, H⟩ := H
      replace H : (if t469 = 0 then ((deaddropref7_Join.f kj3 x456000_1 x456001_1 t463 t466).bind fun bt471 => (deaddroplaw8_Make.l0 kj3 l0 (wrap64 (x4_1 + 2)) bt471.1 bt471.2)) else (none)) = some (r1, r2) := H
      have A13 := Aside0.mk A130
      clear A130
      by_cases c14 : t469 = 0
      rotate_left
      ·
       rw [if_neg c14] at H
       exact absurd H (by simp)
      rw [if_pos c14] at H
      have c14b0 : (t469 == 0) = true := beq_iff_eq.mpr c14
      have c14b1 : (t469 != 0) = false := bne_eq_false_iff_eq.mpr c14
      clear c14
      replace H := Option.bind_eq_some_iff.mp H
      obtain ⟨⟨t471, t474⟩, A150, H⟩ := H
      replace H : (deaddroplaw8_Make.l0 kj3 l0 (wrap64 (x4_1 + 2)) t471 t474) = some (r1, r2) := H
      have A15 := Aside0.mk A150
      clear A150
      have H' := Aside0.mk H
      clear H
      obtain ⟨Ao16, co16, eo16⟩ := Kd.R_slice HO_456000.out
      subst eo16
      obtain ⟨Ao17, co17, eo17⟩ := Kd.R_slice HO_456001.out
      subst eo17
      try go_wp2
      replace HO_456000 := Aside0.mk (Kd.R_drew HO_456000.out)
      replace HO_456001 := Aside0.mk (Kd.R_drew HO_456001.out)
      replace BK454 := Aside0.mk (blk_drew BK454.out)
      replace BK455 := Aside0.mk (blk_drew BK455.out)
      replace HB := Aside0.mk (below_drew1 HB.out)
      have p456 : 0 ≤ (x4_1 : Int) := of_decide_eq_true as_
      have q456 : x4_1 < (l0.length : Int) := of_decide_eq_true as_
      obtain ⟨ad456, e456, hx456_0⟩ := Kd.at_int HR0.out x4_1 p456 q456
      have hw456_0 := hx456_0
      cases e456
      replace hx456_0 := (HB.out.cell (World.block_lt_of_cell? w _ hx456_0)).trans hx456_0
      replace p456 := eq_true p456
      replace q456 := eq_true q456
      have p457 : 0 ≤ (x4_1 : Int) := of_decide_eq_true as_
      have q457 : x4_1 < (l0.length : Int) := of_decide_eq_true as_
      obtain ⟨ad457, e457, hx457_0⟩ := Kd.at_int HR0.out x4_1 p457 q457
      have hw457_0 := hx457_0
      obtain rfl : ad456 = ad457 := (by injection e457)
      replace hx457_0 := (HB.out.cell (World.block_lt_of_cell? w _ hx457_0)).trans hx457_0
      replace p457 := eq_true p457
      replace q457 := eq_true q457
      have p458 : 0 ≤ ((ji9) : Int) := of_decide_eq_true as_
      have q458 : (ji9) < (l0.length : Int) := of_decide_eq_true as_
      obtain ⟨ad458, e458, hx458_0⟩ := Kd.at_int HR0.out (ji9) p458 q458
      have hw458_0 := hx458_0
      obtain rfl : ad456 = ad458 := (by injection e458)
      replace hx458_0 := (HB.out.cell (World.block_lt_of_cell? w _ hx458_0)).trans hx458_0
      replace p458 := eq_true p458
      replace q458 := eq_true q458
      refine start_ (n := 21) (S := fun w' => w'.cell? ⟨gb455, 0, none⟩ = some (.slice Ao16 x456000_1.length co16) ∧ w'.cell? ⟨gb455, 1, none⟩ = some (.slice Ao17 x456001_1.length co17) ∧ w'.cell? (ad456.add (x4_1).toNat) = some (.int .u8 (rd l0 x4_1)) ∧ w'.cell? (ad456.add (x4_1).toNat) = some (.int .u8 (rd l0 x4_1)) ∧ w'.cell? (ad456.add ((ji9)).toNat) = some (.int .u8 (rd l0 (ji9)))) (ds := []) (fl 0 21) (by kernel_rfl) rfl rfl ⟨(blk_cell BK455.out 0).trans rfl, (blk_cell BK455.out 1).trans rfl, (bc HB.out hw456_0), (bc HB.out hw457_0), (bc HB.out hw458_0)⟩ (fun hHeld => ?_); refine with_tabW deaddroplaw8_Make.tab5 deaddroplaw8_Make.bits5 (fun HT_ HW_ => ?_)
      generalize wc.drew = w18 at HO_456000 HO_456001 BK454 BK455 HB hx456_0 hx457_0 hx458_0 hHeld ⊢
      refine pure_ (i := 1) (N := some 18) #[false, true, false, false, false, false, false, false, false, false, false, false, false, false, false, false, false, false, false, false, false] rfl rfl (any_of HT_.out (by kernel_rfl)) (fun _ _ _ h => h) (Or.inl ⟨by rfl, py⟩) pa ?_
      refine pure_ (i := 2) (N := some 19) #[false, true, true, false, false, false, false, false, false, false, false, false, false, false, false, false, false, false, false, false, false] rfl rfl (any_of HT_.out (by kernel_rfl)) (fun _ _ _ h => h) (Or.inl ⟨by rfl, py⟩) pa ?_
      refine pure_ (i := 3) (N := some 20) #[false, true, true, true, false, false, false, false, false, false, false, false, false, false, false, false, false, false, false, false, false] rfl rfl (any_of HT_.out (by kernel_rfl)) (fun _ _ _ h => h) (Or.inl ⟨by rfl, py⟩) pa ?_
      refine pure_ (i := 8) (N := some 25) #[false, true, true, true, false, false, false, false, true, false, false, false, false, false, false, false, false, false, false, false, false] rfl rfl (any_of HT_.out (by kernel_rfl)) (fun _ _ _ h => h) (Or.inl ⟨by rfl, py⟩) pa ?_
      refine pure_ (i := 9) (N := some 26) #[false, true, true, true, false, false, false, false, true, true, false, false, false, false, false, false, false, false, false, false, false] rfl rfl (any_of HT_.out (by kernel_rfl)) (fun _ _ _ h => h) (Or.inl ⟨by rfl, py⟩) pa ?_
      refine pure_ (i := 10) (N := some 27) #[false, true, true, true, false, false, false, false, true, true, true, false, false, false, false, false, false, false, false, false, false] rfl rfl (any_of HT_.out (by kernel_rfl)) (fun _ _ _ h => h) (Or.inl ⟨by rfl, py⟩) pa ?_
      refine pure_ (i := 12) (N := some 29) #[false, true, true, true, false, false, false, false, true, true, true, false, true, false, false, false, false, false, false, false, false] rfl rfl (any_of HT_.out (by kernel_rfl)) (fun _ _ _ h => h) (Or.inl ⟨by rfl, py⟩) pa ?_
      refine pure_ (i := 13) (N := some 30) #[false, true, true, true, false, false, false, false, true, true, true, false, true, true, false, false, false, false, false, false, false] rfl rfl (any_of HT_.out (by kernel_rfl)) (fun _ _ _ h => h) (Or.inl ⟨by rfl, py⟩) pa ?_
      refine pure_ (i := 14) (N := some 31) #[false, true, true, true, false, false, false, false, true, true, true, false, true, true, true, false, false, false, false, false, false] rfl rfl (any_of HT_.out (by kernel_rfl)) (fun _ _ _ h => h) (Or.inl ⟨by rfl, py⟩) pa ?_
      refine pure_ (i := 15) (N := some 32) #[false, true, true, true, false, false, false, false, true, true, true, false, true, true, true, true, false, false, false, false, false] rfl rfl (any_of HT_.out (by kernel_rfl)) (fun _ _ _ h => h) (Or.inl ⟨by rfl, py⟩) pa ?_
      refine take_ (i := 0) (N := some 17) #[true, true, true, true, false, false, false, false, true, true, true, false, true, true, true, true, false, false, false, false, false] rfl rfl (take_ofW HT_.out HW_.out (by kernel_rfl)) (fun _ _ _ h => h) (Or.inl ⟨by rfl, tk⟩) hHeld pa ?_
      refine take_ (i := 4) (N := some 21) #[true, true, true, true, true, false, false, false, true, true, true, false, true, true, true, true, false, false, false, false, false] rfl rfl (take_ofW HT_.out HW_.out (by kernel_rfl)) (fun _ _ _ h => h) (Or.inl ⟨by rfl, tk⟩) hHeld pa ?_
      refine pure_ (i := 5) (N := some 22) #[true, true, true, true, true, true, false, false, true, true, true, false, true, true, true, true, false, false, false, false, false] rfl rfl (any_of HT_.out (by kernel_rfl)) (fun _ _ _ h => h) (Or.inl ⟨by rfl, py⟩) pa ?_
      refine pure_ (i := 6) (N := some 23) #[true, true, true, true, true, true, true, false, true, true, true, false, true, true, true, true, false, false, false, false, false] rfl rfl (any_of HT_.out (by kernel_rfl)) (fun _ _ _ h => h) (Or.inl ⟨by rfl, py⟩) pa ?_
      refine pure_ (i := 7) (N := some 24) #[true, true, true, true, true, true, true, true, true, true, true, false, true, true, true, true, false, false, false, false, false] rfl rfl (any_of HT_.out (by kernel_rfl)) (fun _ _ _ h => h) (Or.inl ⟨by rfl, py⟩) pa ?_
      refine take_ (i := 11) (N := some 28) (fl 16 21) rfl rfl (take_ofW HT_.out HW_.out (by kernel_rfl)) (fun _ _ _ h => h) (Or.inl ⟨by rfl, tk⟩) hHeld pa ?_
      refine take_ (i := 16) (N := some 33) (fl 17 21) rfl rfl (take_ofW HT_.out HW_.out (by kernel_rfl)) (fun _ _ _ h => h) (Or.inl ⟨by rfl, tk⟩) hHeld pa ?_
      refine join_ (σ := Value × Value × Nat) 1 (fl 20 21) (fun s_ => [(34, .agg #[.int .i64 t459, .string t460, .string t461, .int .i64 t462]), (35, .agg #[s_.1, s_.2.1, .int .i64 t469]), (5, .pointer (some ⟨s_.2.2, 0, none⟩))]) (fun s_ w' => (w'.cell? ⟨gb455, 0, none⟩ = some (.slice Ao16 x456000_1.length co16) ∧ w'.cell? ⟨gb455, 1, none⟩ = some (.slice Ao17 x456001_1.length co17) ∧ w'.cell? (ad456.add (x4_1).toNat) = some (.int .u8 (rd l0 x4_1)) ∧ w'.cell? (ad456.add (x4_1).toNat) = some (.int .u8 (rd l0 x4_1)) ∧ w'.cell? (ad456.add ((ji9)).toNat) = some (.int .u8 (rd l0 (ji9)))) ∧ (Kd.R k70 70 w' w.heap.size (fun k_ => some k_ ≠ (.slice Ao16 x456000_1.length co16 : Value).ownBlock) s_.1 t463) ∧ (Kd.R k34 34 w' w.heap.size (fun k_ => some k_ ≠ (.slice Ao17 x456001_1.length co17 : Value).ownBlock) s_.2.1 t466) ∧ (Kd.R k70 70 w' w.heap.size (fun k_ => some k_ ≠ (s_.1 : Value).ownBlock) (.slice Ao16 x456000_1.length co16) x456000_1) ∧ (Kd.R k34 34 w' w.heap.size (fun k_ => some k_ ≠ (s_.2.1 : Value).ownBlock) (.slice Ao17 x456001_1.length co17) x456001_1) ∧ (w'.heap[gb454]? = some (.cells #[.slice none 0 0, .slice none 0 0] 28 (0, 0))) ∧ (w'.heap[gb455]? = some (.cells #[.slice Ao16 x456000_1.length co16, .slice Ao17 x456001_1.length co17] 28 (0, 0))) ∧ (w'.heap[s_.2.2]? = some (.cells #[.slice none 0 0, .slice none 0 0, .int .i64 0] 43 (0, 0))) ∧ (w.heap.size ≤ s_.2.2) ∧ (w.heap.size ≤ s_.2.2) ∧ (gb454 ≠ s_.2.2) ∧ (s_.2.2 ≠ gb454) ∧ (gb455 ≠ s_.2.2) ∧ (s_.2.2 ≠ gb455) ∧ (Below w.heap.size w w')) ?_ ?_
      rotate_left
      ·
       intro hCont
       refine two_ (i := 17) (j := 19) (Ni := some 34) (Nj := some 5) (fl 18 21) #[true, true, true, true, true, true, true, true, true, true, true, true, true, true, true, true, true, false, false, true, false] rfl rfl rfl rfl (two_of HT_.out (by kernel_rfl)) (by decide) (by decide) (fun K hK => ?_) (fun K hK => ?_)
       ·
        skip
        refine goes_ Try.func12 (by kernel_rfl) rfl #[.int .u8 (rd l0 x4_1), .int .u8 (rd l0 (ji9))] (by rfl) rfl rfl (by (try simp only [List.map_toArray, List.map_cons, List.map_nil]); first | done | (simp only [hji9]; rfl) | rfl | (simp only [List.length_drop, List.length_take]; rfl)) ?_
        with_reducible refine (deaddroplaw8_Op.calls (rd l0 x4_1) (rd l0 (ji9)) t459 t460 t461 t462 _ A12.out).mono ?_
        rintro e w19 ⟨rfl, hb⟩
        refine ⟨_, rfl, ?_⟩
        replace HO_456000 := Aside0.mk (Kd.R_below (rk HO_456000.out) hb)
        replace HO_456001 := Aside0.mk (Kd.R_below (rk HO_456001.out) hb)
        replace BK454 := Aside0.mk (bkb BK454.out hb)
        replace BK455 := Aside0.mk (bkb BK455.out hb)
        replace HB := Aside0.mk (below_step (bw2 HB.out GE454.out GE455.out) hb)
        (try clear hb)
        (try clear hb2)
        (try clear hk)
        (try clear hi)
        refine hK.out _ _ ⟨(blk_cell BK455.out 0).trans rfl, (blk_cell BK455.out 1).trans rfl, (bc HB.out hw456_0), (bc HB.out hw457_0), (bc HB.out hw458_0)⟩ (fun hHeld => ?_)
        clear hK K
        refine norm_ (a' := ?_) ?_ ?_
        rotate_left
        ·
         show Act.put _ (some 34) _ = _
         simp only [Act.put, List.setIfInBounds_toArray, List.set_cons_zero, List.set_cons_succ, i64_w, i32_w]
         rfl
        refine two_ (i := 18) (j := 19) (Ni := some 35) (Nj := some 5) (fl 19 21) #[true, true, true, true, true, true, true, true, true, true, true, true, true, true, true, true, true, true, false, true, false] rfl rfl rfl rfl (two_of HT_.out (by kernel_rfl)) (by decide) (by decide) (fun K hK => ?_) (fun K hK => ?_)
        ·
         skip
         refine goes_ Try.func13 (by kernel_rfl) rfl #[.agg #[.slice Ao16 x456000_1.length co16, .slice Ao17 x456001_1.length co17], .int .i64 (Int.tmod (wrap64 (Int.tdiv (wrap64 (rd l0 x4_1)) 16)) 4), .agg #[.int .i64 t459, .string t460, .string t461, .int .i64 t462]] (by rfl) rfl rfl ar_ ?_
         with_reducible refine (deaddropref7_Do.calls kj3 _ _ x456000_1 _ _ x456001_1 (Int.tmod (wrap64 (Int.tdiv (wrap64 (rd l0 x4_1)) 16)) 4) t459 t460 t461 t462 t463 t466 t469 _ ?side1 ?side2 ?side3 ?side4 A13.out).mono ?_
         (case side1 => exact cr (Kd.R_reads' HO_456000.out).2.2)
         (case side2 => exact (Kd.R_reads' HO_456000.out).2.1)
         (case side3 => exact cr (Kd.R_reads' HO_456001.out).2.2)
         (case side4 => exact (Kd.R_reads' HO_456001.out).2.1)
         rintro e w20 ⟨v464, v467, rfl, ho0, ho1, hb⟩
         refine ⟨_, rfl, ?_⟩
         have HO465 := Aside0.mk (Kd.R_lower (Kd.R_new' ho0 (Kd.R_lt (rk HO_456000.out))) (below_size (bw2 HB.out GE454.out GE455.out)))
         replace HO_456000 := Aside0.mk (Kd.R_elder' (rk HO_456000.out) (Kd.R_base ho0) hb)
         have HO468 := Aside0.mk (Kd.R_lower (Kd.R_new' ho1 (Kd.R_lt (rk HO_456001.out))) (below_size (bw2 HB.out GE454.out GE455.out)))
         replace HO_456001 := Aside0.mk (Kd.R_elder' (rk HO_456001.out) (Kd.R_base ho1) hb)
         replace BK454 := Aside0.mk (bkb BK454.out hb)
         replace BK455 := Aside0.mk (bkb BK455.out hb)
         replace HB := Aside0.mk (below_step (bw2 HB.out GE454.out GE455.out) hb)
         (try clear hb)
         (try clear hb2)
         (try clear hk)
         (try clear hi)
         (try clear ho0)
         (try clear ho1)
         refine hK.out _ _ ⟨(blk_cell BK455.out 0).trans rfl, (blk_cell BK455.out 1).trans rfl, (bc HB.out hw456_0), (bc HB.out hw457_0), (bc HB.out hw458_0)⟩ (fun hHeld => ?_)
         clear hK K
         refine norm_ (a' := ?_) ?_ ?_
         rotate_left
         ·
          show Act.put _ (some 35) _ = _
          simp only [Act.put, List.setIfInBounds_toArray, List.set_cons_zero, List.set_cons_succ, i64_w, i32_w]
          rfl
         refine one_ (i := 19) (N := some 5) (fl 20 21) rfl rfl (one_of HT_.out (by kernel_rfl)) (by decide) (fun K hK => ?_)
         refine box_step ?hg (N := 5) ?hd (cs := #[.slice none 0 0, .slice none 0 0, .int .i64 0]) (t := 43) ?hr ?_; (case hd => rfl); (case hg => rfl); (case hr => first | (go_simp; done) | (go_simp; rfl))
         intro gb470 hg w21 hbox hb
         replace HO_456000 := Aside0.mk (Kd.R_below (rk HO_456000.out) hb)
         replace HO_456001 := Aside0.mk (Kd.R_below (rk HO_456001.out) hb)
         replace HO465 := Aside0.mk (Kd.R_below (rk HO465.out) hb)
         replace HO468 := Aside0.mk (Kd.R_below (rk HO468.out) hb)
         have BK470 := Aside0.mk (hbox)
         have GW470 := Aside0.mk ((by rw [hg]; exact (below_size (bw2 HB.out GE454.out GE455.out)) : w.heap.size ≤ gb470))
         have GE470 := GW470
         replace HB := Aside0.mk (below_step (bw2 HB.out GE454.out GE455.out) hb)
         have NB454_470 := Aside0.mk (nbl BK454.out hg)
         have NB470_454 := Aside0.mk (nbg BK454.out hg)
         replace BK454 := Aside0.mk (bkb BK454.out hb)
         have NB455_470 := Aside0.mk (nbl BK455.out hg)
         have NB470_455 := Aside0.mk (nbg BK455.out hg)
         replace BK455 := Aside0.mk (bkb BK455.out hb)
         clear hb hbox hg
         refine hK.out _ _ ⟨(blk_cell BK455.out 0).trans rfl, (blk_cell BK455.out 1).trans rfl, (bc HB.out hw456_0), (bc HB.out hw457_0), (bc HB.out hw458_0)⟩ (fun hHeld => ?_)
         clear hK K
         refine norm_ (a' := ?_) ?_ ?_
         rotate_left
         ·
          show Act.put _ (some 5) _ = _
          simp only [Act.put, List.setIfInBounds_toArray, List.set_cons_zero, List.set_cons_succ, i64_w, i32_w]
          rfl
         exact norm_ (by simp only [putAll, Act.put, List.setIfInBounds_toArray, List.set_cons_zero, List.set_cons_succ]) (hCont (v464, v467, gb470) _ ⟨hHeld, (by (with_reducible repeat (first | apply Kd.R_alloc | apply Kd.R_drewN | apply Kd.R_drew)); exact Kd.R_mono HO465.out (fun _ hk => hk.2)), (by (with_reducible repeat (first | apply Kd.R_alloc | apply Kd.R_drewN | apply Kd.R_drew)); exact Kd.R_mono HO468.out (fun _ hk => hk.2)), (by (with_reducible repeat (first | apply Kd.R_alloc | apply Kd.R_drewN | apply Kd.R_drew)); exact Kd.R_mono HO_456000.out (fun _ hk => hk.2)), (by (with_reducible repeat (first | apply Kd.R_alloc | apply Kd.R_drewN | apply Kd.R_drew)); exact Kd.R_mono HO_456001.out (fun _ hk => hk.2)), (bk BK454.out), (bk BK455.out), (bk BK470.out), GW470.out, GE470.out, NB454_470.out, NB470_454.out, NB455_470.out, NB470_455.out, (bw3 HB.out GE454.out GE455.out GE470.out)⟩)
        ·
         skip
         refine box_step ?hg (N := 5) ?hd (cs := #[.slice none 0 0, .slice none 0 0, .int .i64 0]) (t := 43) ?hr ?_; (case hd => rfl); (case hg => rfl); (case hr => first | (go_simp; done) | (go_simp; rfl))
         intro gb470 hg w20 hbox hb
         replace HO_456000 := Aside0.mk (Kd.R_below (rk HO_456000.out) hb)
         replace HO_456001 := Aside0.mk (Kd.R_below (rk HO_456001.out) hb)
         have BK470 := Aside0.mk (hbox)
         have GW470 := Aside0.mk ((by rw [hg]; exact (below_size (bw2 HB.out GE454.out GE455.out)) : w.heap.size ≤ gb470))
         have GE470 := GW470
         replace HB := Aside0.mk (below_step (bw2 HB.out GE454.out GE455.out) hb)
         have NB454_470 := Aside0.mk (nbl BK454.out hg)
         have NB470_454 := Aside0.mk (nbg BK454.out hg)
         replace BK454 := Aside0.mk (bkb BK454.out hb)
         have NB455_470 := Aside0.mk (nbl BK455.out hg)
         have NB470_455 := Aside0.mk (nbg BK455.out hg)
         replace BK455 := Aside0.mk (bkb BK455.out hb)
         clear hb hbox hg
         refine hK.out _ _ ⟨(blk_cell BK455.out 0).trans rfl, (blk_cell BK455.out 1).trans rfl, (bc HB.out hw456_0), (bc HB.out hw457_0), (bc HB.out hw458_0)⟩ (fun hHeld => ?_)
         clear hK K
         refine norm_ (a' := ?_) ?_ ?_
         rotate_left
         ·
          show Act.put _ (some 5) _ = _
          simp only [Act.put, List.setIfInBounds_toArray, List.set_cons_zero, List.set_cons_succ, i64_w, i32_w]
          rfl
         refine one_ (i := 18) (N := some 35) (fl 20 21) rfl rfl (one_of HT_.out (by kernel_rfl)) (by decide) (fun K hK => ?_)
         refine goes_ Try.func13 (by kernel_rfl) rfl #[.agg #[.slice Ao16 x456000_1.length co16, .slice Ao17 x456001_1.length co17], .int .i64 (Int.tmod (wrap64 (Int.tdiv (wrap64 (rd l0 x4_1)) 16)) 4), .agg #[.int .i64 t459, .string t460, .string t461, .int .i64 t462]] (by rfl) rfl rfl ar_ ?_
         with_reducible refine (deaddropref7_Do.calls kj3 _ _ x456000_1 _ _ x456001_1 (Int.tmod (wrap64 (Int.tdiv (wrap64 (rd l0 x4_1)) 16)) 4) t459 t460 t461 t462 t463 t466 t469 _ ?side1 ?side2 ?side3 ?side4 A13.out).mono ?_
         (case side1 => exact cr (Kd.R_reads' HO_456000.out).2.2)
         (case side2 => exact (Kd.R_reads' HO_456000.out).2.1)
         (case side3 => exact cr (Kd.R_reads' HO_456001.out).2.2)
         (case side4 => exact (Kd.R_reads' HO_456001.out).2.1)
         rintro e w21 ⟨v464, v467, rfl, ho0, ho1, hb⟩
         refine ⟨_, rfl, ?_⟩
         have HO465 := Aside0.mk (Kd.R_lower (Kd.R_new' ho0 (Kd.R_lt (rk HO_456000.out))) (below_size (bw3 HB.out GE454.out GE455.out GE470.out)))
         replace HO_456000 := Aside0.mk (Kd.R_elder' (rk HO_456000.out) (Kd.R_base ho0) hb)
         have HO468 := Aside0.mk (Kd.R_lower (Kd.R_new' ho1 (Kd.R_lt (rk HO_456001.out))) (below_size (bw3 HB.out GE454.out GE455.out GE470.out)))
         replace HO_456001 := Aside0.mk (Kd.R_elder' (rk HO_456001.out) (Kd.R_base ho1) hb)
         replace BK454 := Aside0.mk (bkb BK454.out hb)
         replace BK455 := Aside0.mk (bkb BK455.out hb)
         replace BK470 := Aside0.mk (bkb BK470.out hb)
         replace HB := Aside0.mk (below_step (bw3 HB.out GE454.out GE455.out GE470.out) hb)
         (try clear hb)
         (try clear hb2)
         (try clear hk)
         (try clear hi)
         (try clear ho0)
         (try clear ho1)
         refine hK.out _ _ ⟨(blk_cell BK455.out 0).trans rfl, (blk_cell BK455.out 1).trans rfl, (bc HB.out hw456_0), (bc HB.out hw457_0), (bc HB.out hw458_0)⟩ (fun hHeld => ?_)
         clear hK K
         refine norm_ (a' := ?_) ?_ ?_
         rotate_left
         ·
          show Act.put _ (some 35) _ = _
          simp only [Act.put, List.setIfInBounds_toArray, List.set_cons_zero, List.set_cons_succ, i64_w, i32_w]
          rfl
         exact norm_ (by simp only [putAll, Act.put, List.setIfInBounds_toArray, List.set_cons_zero, List.set_cons_succ]) (hCont (v464, v467, gb470) _ ⟨hHeld, (by (with_reducible repeat (first | apply Kd.R_alloc | apply Kd.R_drewN | apply Kd.R_drew)); exact Kd.R_mono HO465.out (fun _ hk => hk.2)), (by (with_reducible repeat (first | apply Kd.R_alloc | apply Kd.R_drewN | apply Kd.R_drew)); exact Kd.R_mono HO468.out (fun _ hk => hk.2)), (by (with_reducible repeat (first | apply Kd.R_alloc | apply Kd.R_drewN | apply Kd.R_drew)); exact Kd.R_mono HO_456000.out (fun _ hk => hk.2)), (by (with_reducible repeat (first | apply Kd.R_alloc | apply Kd.R_drewN | apply Kd.R_drew)); exact Kd.R_mono HO_456001.out (fun _ hk => hk.2)), (bk BK454.out), (bk BK455.out), (bk BK470.out), GW470.out, GE470.out, NB454_470.out, NB470_454.out, NB455_470.out, NB470_455.out, (bw3 HB.out GE454.out GE455.out GE470.out)⟩)
       ·
        skip
        refine box_step ?hg (N := 5) ?hd (cs := #[.slice none 0 0, .slice none 0 0, .int .i64 0]) (t := 43) ?hr ?_; (case hd => rfl); (case hg => rfl); (case hr => first | (go_simp; done) | (go_simp; rfl))
        intro gb470 hg w19 hbox hb
        replace HO_456000 := Aside0.mk (Kd.R_below (rk HO_456000.out) hb)
        replace HO_456001 := Aside0.mk (Kd.R_below (rk HO_456001.out) hb)
        have BK470 := Aside0.mk (hbox)
        have GW470 := Aside0.mk ((by rw [hg]; exact (below_size (bw2 HB.out GE454.out GE455.out)) : w.heap.size ≤ gb470))
        have GE470 := GW470
        replace HB := Aside0.mk (below_step (bw2 HB.out GE454.out GE455.out) hb)
        have NB454_470 := Aside0.mk (nbl BK454.out hg)
        have NB470_454 := Aside0.mk (nbg BK454.out hg)
        replace BK454 := Aside0.mk (bkb BK454.out hb)
        have NB455_470 := Aside0.mk (nbl BK455.out hg)
        have NB470_455 := Aside0.mk (nbg BK455.out hg)
        replace BK455 := Aside0.mk (bkb BK455.out hb)
        clear hb hbox hg
        refine hK.out _ _ ⟨(blk_cell BK455.out 0).trans rfl, (blk_cell BK455.out 1).trans rfl, (bc HB.out hw456_0), (bc HB.out hw457_0), (bc HB.out hw458_0)⟩ (fun hHeld => ?_)
        clear hK K
        refine norm_ (a' := ?_) ?_ ?_
        rotate_left
        ·
         show Act.put _ (some 5) _ = _
         simp only [Act.put, List.setIfInBounds_toArray, List.set_cons_zero, List.set_cons_succ, i64_w, i32_w]
         rfl
        refine one_ (i := 17) (N := some 34) #[true, true, true, true, true, true, true, true, true, true, true, true, true, true, true, true, true, true, false, true, false] rfl rfl (one_of HT_.out (by kernel_rfl)) (by decide) (fun K hK => ?_)
        refine goes_ Try.func12 (by kernel_rfl) rfl #[.int .u8 (rd l0 x4_1), .int .u8 (rd l0 (ji9))] (by rfl) rfl rfl (by (try simp only [List.map_toArray, List.map_cons, List.map_nil]); first | done | (simp only [hji9]; rfl) | rfl | (simp only [List.length_drop, List.length_take]; rfl)) ?_
        with_reducible refine (deaddroplaw8_Op.calls (rd l0 x4_1) (rd l0 (ji9)) t459 t460 t461 t462 _ A12.out).mono ?_
        rintro e w20 ⟨rfl, hb⟩
        refine ⟨_, rfl, ?_⟩
        replace HO_456000 := Aside0.mk (Kd.R_below (rk HO_456000.out) hb)
        replace HO_456001 := Aside0.mk (Kd.R_below (rk HO_456001.out) hb)
        replace BK454 := Aside0.mk (bkb BK454.out hb)
        replace BK455 := Aside0.mk (bkb BK455.out hb)
        replace BK470 := Aside0.mk (bkb BK470.out hb)
        replace HB := Aside0.mk (below_step (bw3 HB.out GE454.out GE455.out GE470.out) hb)
        (try clear hb)
        (try clear hb2)
        (try clear hk)
        (try clear hi)
        refine hK.out _ _ ⟨(blk_cell BK455.out 0).trans rfl, (blk_cell BK455.out 1).trans rfl, (bc HB.out hw456_0), (bc HB.out hw457_0), (bc HB.out hw458_0)⟩ (fun hHeld => ?_)
        clear hK K
        refine norm_ (a' := ?_) ?_ ?_
        rotate_left
        ·
         show Act.put _ (some 34) _ = _
         simp only [Act.put, List.setIfInBounds_toArray, List.set_cons_zero, List.set_cons_succ, i64_w, i32_w]
         rfl
        refine one_ (i := 18) (N := some 35) (fl 20 21) rfl rfl (one_of HT_.out (by kernel_rfl)) (by decide) (fun K hK => ?_)
        refine goes_ Try.func13 (by kernel_rfl) rfl #[.agg #[.slice Ao16 x456000_1.length co16, .slice Ao17 x456001_1.length co17], .int .i64 (Int.tmod (wrap64 (Int.tdiv (wrap64 (rd l0 x4_1)) 16)) 4), .agg #[.int .i64 t459, .string t460, .string t461, .int .i64 t462]] (by rfl) rfl rfl ar_ ?_
        with_reducible refine (deaddropref7_Do.calls kj3 _ _ x456000_1 _ _ x456001_1 (Int.tmod (wrap64 (Int.tdiv (wrap64 (rd l0 x4_1)) 16)) 4) t459 t460 t461 t462 t463 t466 t469 _ ?side1 ?side2 ?side3 ?side4 A13.out).mono ?_
        (case side1 => exact cr (Kd.R_reads' HO_456000.out).2.2)
        (case side2 => exact (Kd.R_reads' HO_456000.out).2.1)
        (case side3 => exact cr (Kd.R_reads' HO_456001.out).2.2)
        (case side4 => exact (Kd.R_reads' HO_456001.out).2.1)
        rintro e w21 ⟨v464, v467, rfl, ho0, ho1, hb⟩
        refine ⟨_, rfl, ?_⟩
        have HO465 := Aside0.mk (Kd.R_lower (Kd.R_new' ho0 (Kd.R_lt (rk HO_456000.out))) (below_size (bw3 HB.out GE454.out GE455.out GE470.out)))
        replace HO_456000 := Aside0.mk (Kd.R_elder' (rk HO_456000.out) (Kd.R_base ho0) hb)
        have HO468 := Aside0.mk (Kd.R_lower (Kd.R_new' ho1 (Kd.R_lt (rk HO_456001.out))) (below_size (bw3 HB.out GE454.out GE455.out GE470.out)))
        replace HO_456001 := Aside0.mk (Kd.R_elder' (rk HO_456001.out) (Kd.R_base ho1) hb)
        replace BK454 := Aside0.mk (bkb BK454.out hb)
        replace BK455 := Aside0.mk (bkb BK455.out hb)
        replace BK470 := Aside0.mk (bkb BK470.out hb)
        replace HB := Aside0.mk (below_step (bw3 HB.out GE454.out GE455.out GE470.out) hb)
        (try clear hb)
        (try clear hb2)
        (try clear hk)
        (try clear hi)
        (try clear ho0)
        (try clear ho1)
        refine hK.out _ _ ⟨(blk_cell BK455.out 0).trans rfl, (blk_cell BK455.out 1).trans rfl, (bc HB.out hw456_0), (bc HB.out hw457_0), (bc HB.out hw458_0)⟩ (fun hHeld => ?_)
        clear hK K
        refine norm_ (a' := ?_) ?_ ?_
        rotate_left
        ·
         show Act.put _ (some 35) _ = _
         simp only [Act.put, List.setIfInBounds_toArray, List.set_cons_zero, List.set_cons_succ, i64_w, i32_w]
         rfl
        exact norm_ (by simp only [putAll, Act.put, List.setIfInBounds_toArray, List.set_cons_zero, List.set_cons_succ]) (hCont (v464, v467, gb470) _ ⟨hHeld, (by (with_reducible repeat (first | apply Kd.R_alloc | apply Kd.R_drewN | apply Kd.R_drew)); exact Kd.R_mono HO465.out (fun _ hk => hk.2)), (by (with_reducible repeat (first | apply Kd.R_alloc | apply Kd.R_drewN | apply Kd.R_drew)); exact Kd.R_mono HO468.out (fun _ hk => hk.2)), (by (with_reducible repeat (first | apply Kd.R_alloc | apply Kd.R_drewN | apply Kd.R_drew)); exact Kd.R_mono HO_456000.out (fun _ hk => hk.2)), (by (with_reducible repeat (first | apply Kd.R_alloc | apply Kd.R_drewN | apply Kd.R_drew)); exact Kd.R_mono HO_456001.out (fun _ hk => hk.2)), (bk BK454.out), (bk BK455.out), (bk BK470.out), GW470.out, GE470.out, NB454_470.out, NB470_454.out, NB455_470.out, NB470_455.out, (bw3 HB.out GE454.out GE455.out GE470.out)⟩)
      rintro ⟨v464, v467, gb470⟩ w22 ⟨hS_, h0_, h1_, h2_, h3_, h4_, h5_, h6_, h7_, h8_, h9_, h10_, h11_, h12_, h13_⟩
      have n0_ : Aside0 (Kd.R k70 70 w22 w.heap.size (fun k_ => some k_ ≠ (.slice Ao16 x456000_1.length co16 : Value).ownBlock) v464 t463) := ⟨h0_⟩
      have n1_ : Aside0 (Kd.R k34 34 w22 w.heap.size (fun k_ => some k_ ≠ (.slice Ao17 x456001_1.length co17 : Value).ownBlock) v467 t466) := ⟨h1_⟩
      have n2_ : Aside0 (Kd.R k70 70 w22 w.heap.size (fun k_ => some k_ ≠ (v464 : Value).ownBlock) (.slice Ao16 x456000_1.length co16) x456000_1) := ⟨h2_⟩
      have n3_ : Aside0 (Kd.R k34 34 w22 w.heap.size (fun k_ => some k_ ≠ (v467 : Value).ownBlock) (.slice Ao17 x456001_1.length co17) x456001_1) := ⟨h3_⟩
      have n4_ : Aside0 (w22.heap[gb454]? = some (.cells #[.slice none 0 0, .slice none 0 0] 28 (0, 0))) := ⟨h4_⟩
      have n5_ : Aside0 (w22.heap[gb455]? = some (.cells #[.slice Ao16 x456000_1.length co16, .slice Ao17 x456001_1.length co17] 28 (0, 0))) := ⟨h5_⟩
      have n6_ : Aside0 (w22.heap[gb470]? = some (.cells #[.slice none 0 0, .slice none 0 0, .int .i64 0] 43 (0, 0))) := ⟨h6_⟩
      have n7_ : Aside0 (w.heap.size ≤ gb470) := ⟨h7_⟩
      have n8_ : Aside0 (w.heap.size ≤ gb470) := ⟨h8_⟩
      have n9_ : Aside0 (gb454 ≠ gb470) := ⟨h9_⟩
      have n10_ : Aside0 (gb470 ≠ gb454) := ⟨h10_⟩
      have n11_ : Aside0 (gb455 ≠ gb470) := ⟨h11_⟩
      have n12_ : Aside0 (gb470 ≠ gb455) := ⟨h12_⟩
      have n13_ : Aside0 (Below w.heap.size w w22) := ⟨h13_⟩
      clear HO_456000
      clear HO_456001
      clear BK454
      clear BK455
      clear HB
      clear h0_ h1_ h2_ h3_ h4_ h5_ h6_ h7_ h8_ h9_ h10_ h11_ h12_ h13_
      have HO465 := n0_
      have HO468 := n1_
      have HO_456000 := n2_
      have HO_456001 := n3_
      have BK454 := n4_
      have BK455 := n5_
      have BK470 := n6_
      have GW470 := n7_
      have GE470 := n8_
      have NB454_470 := n9_
      have NB470_454 := n10_
      have NB455_470 := n11_
      have NB470_455 := n12_
      have HB := n13_
      clear n0_ n1_ n2_ n3_ n4_ n5_ n6_ n7_ n8_ n9_ n10_ n11_ n12_ n13_
      have hHeld : w22.cell? ⟨gb455, 0, none⟩ = some (.slice Ao16 x456000_1.length co16) ∧ w22.cell? ⟨gb455, 1, none⟩ = some (.slice Ao17 x456001_1.length co17) ∧ w22.cell? (ad456.add (x4_1).toNat) = some (.int .u8 (rd l0 x4_1)) ∧ w22.cell? (ad456.add (x4_1).toNat) = some (.int .u8 (rd l0 x4_1)) ∧ w22.cell? (ad456.add ((ji9)).toNat) = some (.int .u8 (rd l0 (ji9))) := hS_
      obtain ⟨Ao23, co23, eo23⟩ := Kd.R_slice HO465.out
      (first | subst eo23 | (injection eo23 with f1_ f2_ f3_; have f4_ := f1_.symm; have f5_ := f3_.symm; clear f1_ f2_ f3_; subst f4_; subst f5_))
      obtain ⟨Ao25, co25, eo25⟩ := Kd.R_slice HO468.out
      (first | subst eo25 | (injection eo25 with f1_ f2_ f3_; have f4_ := f1_.symm; have f5_ := f3_.symm; clear f1_ f2_ f3_; subst f4_; subst f5_))
      refine norm_ (a' := ?_) ?_ ?_
      rotate_left
      ·
       simp only [putAll, Act.put, List.setIfInBounds_toArray, List.set_cons_zero, List.set_cons_succ]
       rfl
      refine one_ (i := 20) (N := none) (fl 21 21) rfl rfl (one_of HT_.out (by kernel_rfl)) (by decide) (fun K hK => ?_)
      have hs24 : w22.cell? ⟨gb470, 0, none⟩ = some (.slice none 0 0) := (blk_cell BK470.out 0).trans rfl
      have hfs24 := blk_frozen BK470.out 0
      have hns24_0 := NB454_470.out
      have hns24_1 := NB455_470.out
      have hms24_0 := NB470_454.out
      have hms24_1 := NB470_455.out
      have hs26 : w22.cell? ⟨gb470, 1, none⟩ = some (.slice none 0 0) := (blk_cell BK470.out 1).trans rfl
      have hfs26 := blk_frozen BK470.out 1
      have hns26_0 := NB454_470.out
      have hns26_1 := NB455_470.out
      have hms26_0 := NB470_454.out
      have hms26_1 := NB470_455.out
      have hs27 : w22.cell? ⟨gb470, 2, none⟩ = some (.int .i64 0) := (blk_cell BK470.out 2).trans rfl
      have hfs27 := blk_frozen BK470.out 2
      have hns27_0 := NB454_470.out
      have hns27_1 := NB455_470.out
      have hms27_0 := NB470_454.out
      have hms27_1 := NB470_455.out
      refine skip_ (w1 := ?_) (by rfl) rfl ?_ ?_
      rotate_left
      ·
       go_simp
       rfl
      refine hK.out _ _ ⟨((cell_far (p := ⟨gb470, _, none⟩) NB455_470.out _).trans (((cell_far (p := ⟨gb470, _, none⟩) NB455_470.out _).trans (((cell_far (p := ⟨gb470, _, none⟩) NB455_470.out _).trans (hHeld.1)))))), ((cell_far (p := ⟨gb470, _, none⟩) NB455_470.out _).trans (((cell_far (p := ⟨gb470, _, none⟩) NB455_470.out _).trans (((cell_far (p := ⟨gb470, _, none⟩) NB455_470.out _).trans (hHeld.2.1)))))), ((cell_far (p := ⟨gb470, _, none⟩) (by first | exact Nat.ne_of_lt (Nat.lt_of_lt_of_le (by have := World.block_lt_of_cell? _ _ hw456_0; first | rwa [add_block] at this | exact this) GW470.out) | (rw [add_block]; exact Nat.ne_of_lt (Nat.lt_of_lt_of_le (by have := World.block_lt_of_cell? _ _ hw456_0; first | rwa [add_block] at this | exact this) GW470.out)) | (show (Addr.add _ _).block ≠ _; rw [add_block]; exact Nat.ne_of_lt (Nat.lt_of_lt_of_le (by have := World.block_lt_of_cell? _ _ hw456_0; first | rwa [add_block] at this | exact this) GW470.out)) | (dsimp only; exact Nat.ne_of_lt (Nat.lt_of_lt_of_le (by have := World.block_lt_of_cell? _ _ hw456_0; first | rwa [add_block] at this | exact this) GW470.out))) _).trans (((cell_far (p := ⟨gb470, _, none⟩) (by first | exact Nat.ne_of_lt (Nat.lt_of_lt_of_le (by have := World.block_lt_of_cell? _ _ hw456_0; first | rwa [add_block] at this | exact this) GW470.out) | (rw [add_block]; exact Nat.ne_of_lt (Nat.lt_of_lt_of_le (by have := World.block_lt_of_cell? _ _ hw456_0; first | rwa [add_block] at this | exact this) GW470.out)) | (show (Addr.add _ _).block ≠ _; rw [add_block]; exact Nat.ne_of_lt (Nat.lt_of_lt_of_le (by have := World.block_lt_of_cell? _ _ hw456_0; first | rwa [add_block] at this | exact this) GW470.out)) | (dsimp only; exact Nat.ne_of_lt (Nat.lt_of_lt_of_le (by have := World.block_lt_of_cell? _ _ hw456_0; first | rwa [add_block] at this | exact this) GW470.out))) _).trans (((cell_far (p := ⟨gb470, _, none⟩) (by first | exact Nat.ne_of_lt (Nat.lt_of_lt_of_le (by have := World.block_lt_of_cell? _ _ hw456_0; first | rwa [add_block] at this | exact this) GW470.out) | (rw [add_block]; exact Nat.ne_of_lt (Nat.lt_of_lt_of_le (by have := World.block_lt_of_cell? _ _ hw456_0; first | rwa [add_block] at this | exact this) GW470.out)) | (show (Addr.add _ _).block ≠ _; rw [add_block]; exact Nat.ne_of_lt (Nat.lt_of_lt_of_le (by have := World.block_lt_of_cell? _ _ hw456_0; first | rwa [add_block] at this | exact this) GW470.out)) | (dsimp only; exact Nat.ne_of_lt (Nat.lt_of_lt_of_le (by have := World.block_lt_of_cell? _ _ hw456_0; first | rwa [add_block] at this | exact this) GW470.out))) _).trans (hHeld.2.2.1)))))), ((cell_far (p := ⟨gb470, _, none⟩) (by first | exact Nat.ne_of_lt (Nat.lt_of_lt_of_le (by have := World.block_lt_of_cell? _ _ hw457_0; first | rwa [add_block] at this | exact this) GW470.out) | (rw [add_block]; exact Nat.ne_of_lt (Nat.lt_of_lt_of_le (by have := World.block_lt_of_cell? _ _ hw457_0; first | rwa [add_block] at this | exact this) GW470.out)) | (show (Addr.add _ _).block ≠ _; rw [add_block]; exact Nat.ne_of_lt (Nat.lt_of_lt_of_le (by have := World.block_lt_of_cell? _ _ hw457_0; first | rwa [add_block] at this | exact this) GW470.out)) | (dsimp only; exact Nat.ne_of_lt (Nat.lt_of_lt_of_le (by have := World.block_lt_of_cell? _ _ hw457_0; first | rwa [add_block] at this | exact this) GW470.out))) _).trans (((cell_far (p := ⟨gb470, _, none⟩) (by first | exact Nat.ne_of_lt (Nat.lt_of_lt_of_le (by have := World.block_lt_of_cell? _ _ hw457_0; first | rwa [add_block] at this | exact this) GW470.out) | (rw [add_block]; exact Nat.ne_of_lt (Nat.lt_of_lt_of_le (by have := World.block_lt_of_cell? _ _ hw457_0; first | rwa [add_block] at this | exact this) GW470.out)) | (show (Addr.add _ _).block ≠ _; rw [add_block]; exact Nat.ne_of_lt (Nat.lt_of_lt_of_le (by have := World.block_lt_of_cell? _ _ hw457_0; first | rwa [add_block] at this | exact this) GW470.out)) | (dsimp only; exact Nat.ne_of_lt (Nat.lt_of_lt_of_le (by have := World.block_lt_of_cell? _ _ hw457_0; first | rwa [add_block] at this | exact this) GW470.out))) _).trans (((cell_far (p := ⟨gb470, _, none⟩) (by first | exact Nat.ne_of_lt (Nat.lt_of_lt_of_le (by have := World.block_lt_of_cell? _ _ hw457_0; first | rwa [add_block] at this | exact this) GW470.out) | (rw [add_block]; exact Nat.ne_of_lt (Nat.lt_of_lt_of_le (by have := World.block_lt_of_cell? _ _ hw457_0; first | rwa [add_block] at this | exact this) GW470.out)) | (show (Addr.add _ _).block ≠ _; rw [add_block]; exact Nat.ne_of_lt (Nat.lt_of_lt_of_le (by have := World.block_lt_of_cell? _ _ hw457_0; first | rwa [add_block] at this | exact this) GW470.out)) | (dsimp only; exact Nat.ne_of_lt (Nat.lt_of_lt_of_le (by have := World.block_lt_of_cell? _ _ hw457_0; first | rwa [add_block] at this | exact this) GW470.out))) _).trans (hHeld.2.2.2.1)))))), ((cell_far (p := ⟨gb470, _, none⟩) (by first | exact Nat.ne_of_lt (Nat.lt_of_lt_of_le (by have := World.block_lt_of_cell? _ _ hw458_0; first | rwa [add_block] at this | exact this) GW470.out) | (rw [add_block]; exact Nat.ne_of_lt (Nat.lt_of_lt_of_le (by have := World.block_lt_of_cell? _ _ hw458_0; first | rwa [add_block] at this | exact this) GW470.out)) | (show (Addr.add _ _).block ≠ _; rw [add_block]; exact Nat.ne_of_lt (Nat.lt_of_lt_of_le (by have := World.block_lt_of_cell? _ _ hw458_0; first | rwa [add_block] at this | exact this) GW470.out)) | (dsimp only; exact Nat.ne_of_lt (Nat.lt_of_lt_of_le (by have := World.block_lt_of_cell? _ _ hw458_0; first | rwa [add_block] at this | exact this) GW470.out))) _).trans (((cell_far (p := ⟨gb470, _, none⟩) (by first | exact Nat.ne_of_lt (Nat.lt_of_lt_of_le (by have := World.block_lt_of_cell? _ _ hw458_0; first | rwa [add_block] at this | exact this) GW470.out) | (rw [add_block]; exact Nat.ne_of_lt (Nat.lt_of_lt_of_le (by have := World.block_lt_of_cell? _ _ hw458_0; first | rwa [add_block] at this | exact this) GW470.out)) | (show (Addr.add _ _).block ≠ _; rw [add_block]; exact Nat.ne_of_lt (Nat.lt_of_lt_of_le (by have := World.block_lt_of_cell? _ _ hw458_0; first | rwa [add_block] at this | exact this) GW470.out)) | (dsimp only; exact Nat.ne_of_lt (Nat.lt_of_lt_of_le (by have := World.block_lt_of_cell? _ _ hw458_0; first | rwa [add_block] at this | exact this) GW470.out))) _).trans (((cell_far (p := ⟨gb470, _, none⟩) (by first | exact Nat.ne_of_lt (Nat.lt_of_lt_of_le (by have := World.block_lt_of_cell? _ _ hw458_0; first | rwa [add_block] at this | exact this) GW470.out) | (rw [add_block]; exact Nat.ne_of_lt (Nat.lt_of_lt_of_le (by have := World.block_lt_of_cell? _ _ hw458_0; first | rwa [add_block] at this | exact this) GW470.out)) | (show (Addr.add _ _).block ≠ _; rw [add_block]; exact Nat.ne_of_lt (Nat.lt_of_lt_of_le (by have := World.block_lt_of_cell? _ _ hw458_0; first | rwa [add_block] at this | exact this) GW470.out)) | (dsimp only; exact Nat.ne_of_lt (Nat.lt_of_lt_of_le (by have := World.block_lt_of_cell? _ _ hw458_0; first | rwa [add_block] at this | exact this) GW470.out))) _).trans (hHeld.2.2.2.2))))))⟩ (fun hHeld => ?_)
      clear hK K
      refine done_ (done_of HT_.out (by kernel_rfl)) ?_
      have hnb28 := NB470_454.out
      have hnc28 := NB454_470.out
      have hnb29 := NB470_455.out
      have hnc29 := NB455_470.out
      obtain ⟨hcz30_0, hcz30_1, hcz30_2⟩ := bx3 BK470.out
      obtain ⟨hfz30_0, hfz30_1, hfz30_2⟩ := bf3 BK470.out
      have hnb31 := NB455_454.out
      have hnc31 := NB454_455.out
      obtain ⟨hcz32_0, hcz32_1⟩ := bx2 BK455.out
      obtain ⟨hfz32_0, hfz32_1⟩ := bf2 BK455.out
      try go_wp2_with (first | ((with_reducible refine gate_callee (f := 8) rfl ?_); refine goesL_ (some 42) rfl rfl Try.func8 (by kernel_rfl) rfl #[.agg #[.slice Ao16 x456000_1.length co16, .slice Ao17 x456001_1.length co17], .agg #[.slice Ao23 t463.length co23, .slice Ao25 t466.length co25]] rfl ar_ ?_; (with_reducible refine (deaddropref7_Join.calls kj3 _ _ x456000_1 _ _ x456001_1 _ _ t463 _ _ t466 t471 t474 _ ?side1 ?side2 ?side3 ?side4 ?side5 ?side6 ?side7 ?side8 A15.out).mono ?_); (case side1 => refine (Kd.R_reads' (e := 70) (base := w.heap.size) (ok := fun k_ => some k_ ≠ (.slice Ao23 t463.length co23 : Value).ownBlock) (n := x456000_1.length) (c := co16) ?_).2.2; exact (by (with_reducible repeat (first | apply Kd.R_alloc | apply Kd.R_drewN | apply Kd.R_drew)); exact (Kd.R_mono (Kd.R_far (p := ⟨gb470, 2, none⟩) (Kd.R_far (p := ⟨gb470, 1, none⟩) (Kd.R_far (p := ⟨gb470, 0, none⟩) (Kd.R_types HO_456000.out BK470.out (by decide)) (fun _ hk => hk.2) (.slice Ao23 t463.length co23)) (fun _ hk => hk.2) (.slice Ao25 t466.length co25)) (fun _ hk => hk.2) (.int .i64 t469)) (fun _ h_ => h_.1)))); (case side2 => exact (Kd.R_reads' HO_456000.out).2.1); (case side3 => refine (Kd.R_reads' (e := 34) (base := w.heap.size) (ok := fun k_ => some k_ ≠ (.slice Ao25 t466.length co25 : Value).ownBlock) (n := x456001_1.length) (c := co17) ?_).2.2; exact (by (with_reducible repeat (first | apply Kd.R_alloc | apply Kd.R_drewN | apply Kd.R_drew)); exact (Kd.R_mono (Kd.R_far (p := ⟨gb470, 2, none⟩) (Kd.R_far (p := ⟨gb470, 1, none⟩) (Kd.R_far (p := ⟨gb470, 0, none⟩) (Kd.R_types HO_456001.out BK470.out (by decide)) (fun _ hk => hk.2) (.slice Ao23 t463.length co23)) (fun _ hk => hk.2) (.slice Ao25 t466.length co25)) (fun _ hk => hk.2) (.int .i64 t469)) (fun _ h_ => h_.1)))); (case side4 => exact (Kd.R_reads' HO_456001.out).2.1); (case side5 => refine (Kd.R_reads' (e := 70) (base := w.heap.size) (ok := fun k_ => some k_ ≠ (.slice Ao16 x456000_1.length co16 : Value).ownBlock) (n := t463.length) (c := co23) ?_).2.2; exact (by (with_reducible repeat (first | apply Kd.R_alloc | apply Kd.R_drewN | apply Kd.R_drew)); exact (Kd.R_mono (Kd.R_far (p := ⟨gb470, 2, none⟩) (Kd.R_far (p := ⟨gb470, 1, none⟩) (Kd.R_far (p := ⟨gb470, 0, none⟩) (Kd.R_types HO465.out BK470.out (by decide)) (fun _ hk => hk.2) (.slice Ao23 t463.length co23)) (fun _ hk => hk.2) (.slice Ao25 t466.length co25)) (fun _ hk => hk.2) (.int .i64 t469)) (fun _ h_ => h_.1)))); (case side6 => exact (Kd.R_reads' HO465.out).2.1); (case side7 => refine (Kd.R_reads' (e := 34) (base := w.heap.size) (ok := fun k_ => some k_ ≠ (.slice Ao17 x456001_1.length co17 : Value).ownBlock) (n := t466.length) (c := co25) ?_).2.2; exact (by (with_reducible repeat (first | apply Kd.R_alloc | apply Kd.R_drewN | apply Kd.R_drew)); exact (Kd.R_mono (Kd.R_far (p := ⟨gb470, 2, none⟩) (Kd.R_far (p := ⟨gb470, 1, none⟩) (Kd.R_far (p := ⟨gb470, 0, none⟩) (Kd.R_types HO468.out BK470.out (by decide)) (fun _ hk => hk.2) (.slice Ao23 t463.length co23)) (fun _ hk => hk.2) (.slice Ao25 t466.length co25)) (fun _ hk => hk.2) (.int .i64 t469)) (fun _ h_ => h_.1)))); (case side8 => exact (Kd.R_reads' HO468.out).2.1); rintro e w33 ⟨v472, v475, rfl, ho0, ho1, hb⟩; refine ⟨_, rfl, ?_⟩; have HO473 := Aside0.mk (Kd.R_lower (Kd.R_new' (Kd.R_new' ho0 (Kd.R_lt (by (with_reducible repeat (first | apply Kd.R_alloc | apply Kd.R_drewN | apply Kd.R_drew)); exact (Kd.R_mono (Kd.R_far (p := ⟨gb470, 2, none⟩) (Kd.R_far (p := ⟨gb470, 1, none⟩) (Kd.R_far (p := ⟨gb470, 0, none⟩) (Kd.R_types HO_456000.out BK470.out (by decide)) (fun _ hk => hk.2) (.slice Ao23 t463.length co23)) (fun _ hk => hk.2) (.slice Ao25 t466.length co25)) (fun _ hk => hk.2) (.int .i64 t469)) (fun _ h_ => h_.1))))) (Kd.R_lt (by (with_reducible repeat (first | apply Kd.R_alloc | apply Kd.R_drewN | apply Kd.R_drew)); exact (Kd.R_mono (Kd.R_far (p := ⟨gb470, 2, none⟩) (Kd.R_far (p := ⟨gb470, 1, none⟩) (Kd.R_far (p := ⟨gb470, 0, none⟩) (Kd.R_types HO465.out BK470.out (by decide)) (fun _ hk => hk.2) (.slice Ao23 t463.length co23)) (fun _ hk => hk.2) (.slice Ao25 t466.length co25)) (fun _ hk => hk.2) (.int .i64 t469)) (fun _ h_ => h_.1))))) (below_size (bw3 HB.out GE454.out GE455.out GE470.out))); replace HO_456000 := Aside0.mk (Kd.R_elder' (by (with_reducible repeat (first | apply Kd.R_alloc | apply Kd.R_drewN | apply Kd.R_drew)); exact (Kd.R_mono (Kd.R_far (p := ⟨gb470, 2, none⟩) (Kd.R_far (p := ⟨gb470, 1, none⟩) (Kd.R_far (p := ⟨gb470, 0, none⟩) (Kd.R_types HO_456000.out BK470.out (by decide)) (fun _ hk => hk.2) (.slice Ao23 t463.length co23)) (fun _ hk => hk.2) (.slice Ao25 t466.length co25)) (fun _ hk => hk.2) (.int .i64 t469)) (fun _ h_ => h_.1))) (Kd.R_base ho0) hb); replace HO465 := Aside0.mk (Kd.R_elder' (by (with_reducible repeat (first | apply Kd.R_alloc | apply Kd.R_drewN | apply Kd.R_drew)); exact (Kd.R_mono (Kd.R_far (p := ⟨gb470, 2, none⟩) (Kd.R_far (p := ⟨gb470, 1, none⟩) (Kd.R_far (p := ⟨gb470, 0, none⟩) (Kd.R_types HO465.out BK470.out (by decide)) (fun _ hk => hk.2) (.slice Ao23 t463.length co23)) (fun _ hk => hk.2) (.slice Ao25 t466.length co25)) (fun _ hk => hk.2) (.int .i64 t469)) (fun _ h_ => h_.1))) (Kd.R_base ho0) hb); have HO476 := Aside0.mk (Kd.R_lower (Kd.R_new' (Kd.R_new' ho1 (Kd.R_lt (by (with_reducible repeat (first | apply Kd.R_alloc | apply Kd.R_drewN | apply Kd.R_drew)); exact (Kd.R_mono (Kd.R_far (p := ⟨gb470, 2, none⟩) (Kd.R_far (p := ⟨gb470, 1, none⟩) (Kd.R_far (p := ⟨gb470, 0, none⟩) (Kd.R_types HO_456001.out BK470.out (by decide)) (fun _ hk => hk.2) (.slice Ao23 t463.length co23)) (fun _ hk => hk.2) (.slice Ao25 t466.length co25)) (fun _ hk => hk.2) (.int .i64 t469)) (fun _ h_ => h_.1))))) (Kd.R_lt (by (with_reducible repeat (first | apply Kd.R_alloc | apply Kd.R_drewN | apply Kd.R_drew)); exact (Kd.R_mono (Kd.R_far (p := ⟨gb470, 2, none⟩) (Kd.R_far (p := ⟨gb470, 1, none⟩) (Kd.R_far (p := ⟨gb470, 0, none⟩) (Kd.R_types HO468.out BK470.out (by decide)) (fun _ hk => hk.2) (.slice Ao23 t463.length co23)) (fun _ hk => hk.2) (.slice Ao25 t466.length co25)) (fun _ hk => hk.2) (.int .i64 t469)) (fun _ h_ => h_.1))))) (below_size (bw3 HB.out GE454.out GE455.out GE470.out))); replace HO_456001 := Aside0.mk (Kd.R_elder' (by (with_reducible repeat (first | apply Kd.R_alloc | apply Kd.R_drewN | apply Kd.R_drew)); exact (Kd.R_mono (Kd.R_far (p := ⟨gb470, 2, none⟩) (Kd.R_far (p := ⟨gb470, 1, none⟩) (Kd.R_far (p := ⟨gb470, 0, none⟩) (Kd.R_types HO_456001.out BK470.out (by decide)) (fun _ hk => hk.2) (.slice Ao23 t463.length co23)) (fun _ hk => hk.2) (.slice Ao25 t466.length co25)) (fun _ hk => hk.2) (.int .i64 t469)) (fun _ h_ => h_.1))) (Kd.R_base ho1) hb); replace HO468 := Aside0.mk (Kd.R_elder' (by (with_reducible repeat (first | apply Kd.R_alloc | apply Kd.R_drewN | apply Kd.R_drew)); exact (Kd.R_mono (Kd.R_far (p := ⟨gb470, 2, none⟩) (Kd.R_far (p := ⟨gb470, 1, none⟩) (Kd.R_far (p := ⟨gb470, 0, none⟩) (Kd.R_types HO468.out BK470.out (by decide)) (fun _ hk => hk.2) (.slice Ao23 t463.length co23)) (fun _ hk => hk.2) (.slice Ao25 t466.length co25)) (fun _ hk => hk.2) (.int .i64 t469)) (fun _ h_ => h_.1))) (Kd.R_base ho1) hb); replace BK454 := Aside0.mk (blk_below (g := gb454) (o := .cells #[.slice none 0 0, .slice none 0 0] 28 (0, 0)) (by (with_reducible repeat (first | refine blk_drewN ?_ _ | refine blk_drew ?_ | refine blk_alloc ?_ _)); refine blk_far ?_ NB454_470.out _; (with_reducible repeat (first | refine blk_drewN ?_ _ | refine blk_drew ?_ | refine blk_alloc ?_ _)); refine blk_far ?_ NB454_470.out _; (with_reducible repeat (first | refine blk_drewN ?_ _ | refine blk_drew ?_ | refine blk_alloc ?_ _)); refine blk_far ?_ NB454_470.out _; (with_reducible repeat (first | refine blk_drewN ?_ _ | refine blk_drew ?_ | refine blk_alloc ?_ _)); exact BK454.out) hb); replace BK455 := Aside0.mk (blk_below (g := gb455) (o := .cells #[.slice Ao16 x456000_1.length co16, .slice Ao17 x456001_1.length co17] 28 (0, 0)) (by (with_reducible repeat (first | refine blk_drewN ?_ _ | refine blk_drew ?_ | refine blk_alloc ?_ _)); refine blk_far ?_ NB455_470.out _; (with_reducible repeat (first | refine blk_drewN ?_ _ | refine blk_drew ?_ | refine blk_alloc ?_ _)); refine blk_far ?_ NB455_470.out _; (with_reducible repeat (first | refine blk_drewN ?_ _ | refine blk_drew ?_ | refine blk_alloc ?_ _)); refine blk_far ?_ NB455_470.out _; (with_reducible repeat (first | refine blk_drewN ?_ _ | refine blk_drew ?_ | refine blk_alloc ?_ _)); exact BK455.out) hb); replace BK470 := Aside0.mk (blk_below (g := gb470) (o := .cells #[.slice Ao23 t463.length co23, .slice Ao25 t466.length co25, .int .i64 t469] 43 (0, 0)) (by (with_reducible repeat (first | refine blk_drewN ?_ _ | refine blk_drew ?_ | refine blk_alloc ?_ _)); refine blk_put (cs := #[.slice Ao23 t463.length co23, .slice Ao25 t466.length co25, .int .i64 0]) ?_ 2 _ rfl; (with_reducible repeat (first | refine blk_drewN ?_ _ | refine blk_drew ?_ | refine blk_alloc ?_ _)); refine blk_put (cs := #[.slice Ao23 t463.length co23, .slice none 0 0, .int .i64 0]) ?_ 1 _ rfl; (with_reducible repeat (first | refine blk_drewN ?_ _ | refine blk_drew ?_ | refine blk_alloc ?_ _)); refine blk_put (cs := #[.slice none 0 0, .slice none 0 0, .int .i64 0]) ?_ 0 _ rfl; (with_reducible repeat (first | refine blk_drewN ?_ _ | refine blk_drew ?_ | refine blk_alloc ?_ _)); exact BK470.out) hb); replace HB := Aside0.mk (below_step (bw3 HB.out GE454.out GE455.out GE470.out) hb); (try clear hb); (try clear hb2); (try clear hk); (try clear hi); (try clear ho0); (try clear ho1); obtain ⟨Ao34, co34, eo34⟩ := Kd.R_slice HO473.out; subst eo34; obtain ⟨hcz35_0, hcz35_1⟩ := bx2 BK455.out; obtain ⟨hfz35_0, hfz35_1⟩ := bf2 BK455.out; obtain ⟨Ao36, co36, eo36⟩ := Kd.R_slice HO476.out; subst eo36))
      go_roundg kj3
      case measure => have := HK1.out; have := HJ3.out; omega
      case rel => exact ⟨(wrap64 (x4_1 + 2)), (t471), (t474), (.slice Ao34 t471.length co34), (.slice Ao36 t474.length co36), ok_, H', ⟨by have := HK1.out; have := HJ3.out; omega⟩, ⟨by (with_reducible repeat (first | apply Kd.R_alloc | apply Kd.R_drewN | apply Kd.R_drew)); exact Kd.R_mono (Kd.R_far (p := ⟨gb455, 1, none⟩) (Kd.R_far (p := ⟨gb455, 0, none⟩) (Kd.R_types HO473.out BK455.out (by decide)) (fun _ hk => hk.2) (.slice Ao34 t471.length co34)) (fun _ hk => hk.2) (.slice Ao36 t474.length co36)) (fun _ hk => trivial)⟩, ⟨by (with_reducible repeat (first | apply Kd.R_alloc | apply Kd.R_drewN | apply Kd.R_drew)); exact Kd.R_mono (Kd.R_far (p := ⟨gb455, 1, none⟩) (Kd.R_far (p := ⟨gb455, 0, none⟩) (Kd.R_types HO476.out BK455.out (by decide)) (fun _ hk => hk.2) (.slice Ao34 t471.length co34)) (fun _ hk => hk.2) (.slice Ao36 t474.length co36)) (fun _ hk => trivial)⟩, ⟨by (with_reducible repeat (first | refine blk_drewN ?_ _ | refine blk_drew ?_ | refine blk_alloc ?_ _)); refine blk_far ?_ NB454_455.out _; (with_reducible repeat (first | refine blk_drewN ?_ _ | refine blk_drew ?_ | refine blk_alloc ?_ _)); refine blk_far ?_ NB454_455.out _; (with_reducible repeat (first | refine blk_drewN ?_ _ | refine blk_drew ?_ | refine blk_alloc ?_ _)); exact BK454.out⟩, ⟨by (with_reducible repeat (first | refine blk_drewN ?_ _ | refine blk_drew ?_ | refine blk_alloc ?_ _)); refine blk_put (cs := #[.slice Ao34 t471.length co34, .slice Ao17 x456001_1.length co17]) ?_ 1 _ rfl; (with_reducible repeat (first | refine blk_drewN ?_ _ | refine blk_drew ?_ | refine blk_alloc ?_ _)); refine blk_put (cs := #[.slice Ao16 x456000_1.length co16, .slice Ao17 x456001_1.length co17]) ?_ 0 _ rfl; (with_reducible repeat (first | refine blk_drewN ?_ _ | refine blk_drew ?_ | refine blk_alloc ?_ _)); exact BK455.out⟩, ⟨bw3 HB.out GE454.out GE455.out GE470.out⟩⟩
     ·
      replace c6 := Bool.eq_false_iff.mpr c6
      subst c6
      have H1 : (some (x456000_1, x456001_1)) = some (r1, r2) := by rw [if_neg (show ¬ (false = true) by decide)] at H; exact H
      clear H
      have H := H1
      clear H1
      simp only [Option.some.injEq, Prod.mk.injEq] at H
      obtain ⟨rfl, rfl⟩ := H
      have hnb37 := NB455_454.out
      have hnc37 := NB454_455.out
      obtain ⟨hcz38_0, hcz38_1⟩ := bx2 BK455.out
      obtain ⟨hfz38_0, hfz38_1⟩ := bf2 BK455.out
      obtain ⟨Ao39, co39, eo39⟩ := Kd.R_slice HO_456000.out
      subst eo39
      obtain ⟨hcz40_0, hcz40_1⟩ := bx2 BK454.out
      obtain ⟨hfz40_0, hfz40_1⟩ := bf2 BK454.out
      obtain ⟨Ao41, co41, eo41⟩ := Kd.R_slice HO_456001.out
      subst eo41
      go_wp2
      refine bodyPost_ret (results_cell_row rfl _ _ gb454 28 #[.slice Ao39 x456000_1.length co39, .slice Ao41 x456001_1.length co41] (0, 0) _ rfl (by (with_reducible repeat (first | refine blk_drewN ?_ _ | refine blk_drew ?_ | refine blk_alloc ?_ _)); refine blk_put (cs := #[.slice Ao39 x456000_1.length co39, .slice none 0 0]) ?_ 1 _ rfl; (with_reducible repeat (first | refine blk_drewN ?_ _ | refine blk_drew ?_ | refine blk_alloc ?_ _)); refine blk_put (cs := #[.slice none 0 0, .slice none 0 0]) ?_ 0 _ rfl; (with_reducible repeat (first | refine blk_drewN ?_ _ | refine blk_drew ?_ | refine blk_alloc ?_ _)); exact BK454.out) Try.underlying28 rfl (by kernel_rfl)) rfl ?_
      exact ⟨_, _, by first | rfl | (simp [errW_none, errW_some] <;> rfl) | (simp [*, errW_none, errW_some] <;> rfl), by (with_reducible repeat (first | apply Kd.R_alloc | apply Kd.R_drewN | apply Kd.R_drew)); exact Kd.R_mono (Kd.R_far (p := ⟨gb454, 1, none⟩) (Kd.R_far (p := ⟨gb454, 0, none⟩) (Kd.R_types HO_456000.out BK454.out (by decide)) (fun _ hk => hk.2) (.slice Ao39 x456000_1.length co39)) (fun _ hk => hk.2) (.slice Ao41 x456001_1.length co41)) (fun _ hk => trivial), by (with_reducible repeat (first | apply Kd.R_alloc | apply Kd.R_drewN | apply Kd.R_drew)); exact Kd.R_mono (Kd.R_far (p := ⟨gb454, 1, none⟩) (Kd.R_far (p := ⟨gb454, 0, none⟩) (Kd.R_types HO_456001.out BK454.out (by decide)) (fun _ hk => hk.2) (.slice Ao39 x456000_1.length co39)) (fun _ hk => hk.2) (.slice Ao41 x456001_1.length co41)) (fun _ hk => trivial), bw2 HB.out GE454.out GE455.out⟩

end Go.Proofs.Ytaonemedoikieaa.M
