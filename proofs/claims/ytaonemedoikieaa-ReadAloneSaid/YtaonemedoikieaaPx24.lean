-- Written by a program of this work (wip/tools/mkprint.py) over the kit's print; Lean checks it.
import Derived.Test.YtaonemedoikieaaPx0
import Derived.Test.YtaonemedoikieaaPx5
import Derived.Test.YtaonemedoikieaaPx6
import Derived.Test.YtaonemedoikieaaPx8
import Derived.Test.YtaonemedoikieaaPx10
import Derived.Test.YtaonemedoikieaaPx19
import Derived.Test.YtaonemedoikieaaPx21
import Derived.Test.YtaonemedoikieaaPx23
import Derived.Test.YtaonemedoikieaaHAbb
namespace Go.Proofs.Ytaonemedoikieaa.P
open Go.RowKit Go.Proofs.YtaonemedoikieaaW.PrintWords Go.Proofs.YtaonemedoikieaaW.PrintLast Go.Proofs.YtaonemedoikieaaW.PrintMore Go.Proofs.Ytaonemedoikieaa.AB
attribute [local go_sem] max2_int min2_int max_two min_two max_three min_three max_four min_four   -- for this text's walks alone
theorem u8w (x : Int) : IntKind.u8.wrap x = x % 256 := IntKind.wrap_u8 x
attribute [local go_sem] u8w
set_option linter.unusedVariables false
set_option linter.unusedSimpArgs false

/-! ### deaddroplaw10_ReadAlone: function 4 -/
mutual
def deaddroplaw10_ReadAlone.l0 : Nat → List Int → ByteArray → Int → List Bool → Int → List (S70) → List (S34) → Option (Bool)
 | 0, _, _, _, _, _, _, _ => none
 | k + 1, x0, x4, x5, x6, x7, x538000, x538001 => if (wrap64 (x7 + 1)) < (x0.length : Int) then (if 0 ≤ x7 then (if x7 < (x0.length : Int) then (if 0 ≤ (wrap64 (x7 + 1)) then ((deaddroplaw8_Op.f (Int.tmod (rd x0 x7) 5) (rd x0 (wrap64 (x7 + 1)))).bind fun bt543 => ((deaddropref7_Do.f k x538000 x538001 2 bt543.1 bt543.2.1 bt543.2.2.1 bt543.2.2.2).bind fun bt548 => (if bt548.2.2 = 0 then ((deaddropref7_Join.f k x538000 x538001 bt548.1 bt548.2.1).bind fun bt556 => (if bt543.1 = 1 then (deaddroplaw10_ReadAlone.l0 k x0 bt543.2.2.1 x5 x6 (wrap64 (x7 + 2)) bt556.1 bt556.2) else (if bt543.1 = 2 then (deaddroplaw10_ReadAlone.j1 k x0 x4 x5 x6 x7 bt543.1 (bt543.1 == 2) bt556.1 bt556.2 bt543.1 bt543.2.1 bt543.2.2.1 bt543.2.2.2) else (deaddroplaw10_ReadAlone.j1 k x0 x4 x5 x6 x7 bt543.1 (bt543.1 == 3) bt556.1 bt556.2 bt543.1 bt543.2.1 bt543.2.2.1 bt543.2.2.2)))) else (deaddroplaw10_ReadAlone.l0 k x0 x4 x5 x6 (wrap64 (x7 + 2)) x538000 x538001)))) else (none)) else (none)) else (none)) else (deaddroplaw10_ReadAlone.l1 k x4 x5 x6 ([] : List ByteArray) 0 x538000 x538001)
def deaddroplaw10_ReadAlone.j1 : Nat → List Int → ByteArray → Int → List Bool → Int → Int → Bool → List (S70) → List (S34) → Int → ByteArray → ByteArray → Int → Option (Bool)
 | 0, _, _, _, _, _, _, _, _, _, _, _, _, _ => none
 | k + 1, x0, x4, x5, x6, x7, x48, x54, x538000, x538001, x548000, x548001, x548002, x548003 => if x54 = true then (if 0 < (x548002.size : Int) then (if 0 ≤ (((bt x548002 0) - 97) % 256) then (if (((bt x548002 0) - 97) % 256) < (x6.length : Int) then (deaddroplaw10_ReadAlone.l0 k x0 x4 x5 (x6.set ((((bt x548002 0) - 97) % 256) : Int).toNat (x548000 == 2)) (wrap64 (x7 + 2)) x538000 x538001) else (none)) else (none)) else (none)) else (if x48 = 4 then (deaddroplaw10_ReadAlone.l0 k x0 x4 (wrap64 (x5 + x548003)) x6 (wrap64 (x7 + 2)) x538000 x538001) else (if 5 ≤ 281474976710656 then (deaddroplaw10_ReadAlone.l0 k x0 (⟨#[]⟩ : ByteArray) 0 (List.replicate 5 false) (wrap64 (x7 + 2)) x538000 x538001) else (none)))
def deaddroplaw10_ReadAlone.l1 : Nat → ByteArray → Int → List Bool → List ByteArray → Int → List (S70) → List (S34) → Option (Bool)
 | 0, _, _, _, _, _, _, _ => none
 | k + 1, x4, x5, x6, x10, x11, x538000, x538001 => if x11 < 5 then (if 0 ≤ x11 then (if x11 < (x6.length : Int) then (if rdOf false x6 x11 = true then (if x10.length < 8796093022208 then (deaddroplaw10_ReadAlone.l1 k x4 x5 x6 (x10 ++ [strOfNums (([(wrap64 (97 + x11)) % 256] : List Int))]) (wrap64 (x11 + 1)) x538000 x538001) else (none)) else (deaddroplaw10_ReadAlone.l1 k x4 x5 x6 x10 (wrap64 (x11 + 1)) x538000 x538001)) else (none)) else (none)) else ((read_Texts.f k x538000 x538001 (⟨#[107]⟩ : ByteArray)).bind fun t573 => (if x4.toList = ([] : List UInt8) then (if (t573.length : Int) = 0 then (deaddroplaw10_ReadAlone.j3 k x5 x10 true x538000 x538001) else (if (t573.length : Int) = 1 then (if 0 < (t573.length : Int) then (deaddroplaw10_ReadAlone.j3 k x5 x10 ((rdOf ByteArray.empty t573 0).toList == x4.toList) x538000 x538001) else (none)) else (deaddroplaw10_ReadAlone.j3 k x5 x10 false x538000 x538001))) else (if (t573.length : Int) = 1 then (if 0 < (t573.length : Int) then (deaddroplaw10_ReadAlone.j3 k x5 x10 ((rdOf ByteArray.empty t573 0).toList == x4.toList) x538000 x538001) else (none)) else (deaddroplaw10_ReadAlone.j3 k x5 x10 false x538000 x538001))))
def deaddroplaw10_ReadAlone.j3 : Nat → Int → List ByteArray → Bool → List (S70) → List (S34) → Option (Bool)
 | 0, _, _, _, _, _ => none
 | k + 1, x5, x10, x13, x538000, x538001 => if x13 = true then ((read_Members.f k x538000 x538001 (⟨#[107]⟩ : ByteArray)).bind fun t578 => ((deaddropref1_SameTexts.f k t578 x10).bind fun t581 => (if t581 = true then ((read_Count.f k x538000 x538001 (⟨#[107]⟩ : ByteArray)).bind fun t582 => (if t582 = x5 then ((deaddroplaw10_awake.f k).bind fun t583 => (some t583)) else (none))) else (none)))) else (none)
end
def deaddroplaw10_ReadAlone.f (k : Nat) (l0 : List Int) : Option (Bool) := if (l0.length : Int) > 80 then ((deaddroplaw10_awake.f k).bind fun t536 => (some t536)) else (if 5 ≤ 281474976710656 then (deaddroplaw10_ReadAlone.l0 k l0 (⟨#[]⟩ : ByteArray) 0 (List.replicate 5 false) 0 ([] : List (S70)) ([] : List (S34))) else (none))
theorem deaddroplaw10_ReadAlone.mono_l : ∀ k, (∀ y0 y1 y2 y3 y4 y5 y6, LeO (deaddroplaw10_ReadAlone.l0 k y0 y1 y2 y3 y4 y5 y6) (deaddroplaw10_ReadAlone.l0 (k + 1) y0 y1 y2 y3 y4 y5 y6)) ∧ (∀ y0 y1 y2 y3 y4 y5 y6 y7 y8 y9 y10 y11 y12, LeO (deaddroplaw10_ReadAlone.j1 k y0 y1 y2 y3 y4 y5 y6 y7 y8 y9 y10 y11 y12) (deaddroplaw10_ReadAlone.j1 (k + 1) y0 y1 y2 y3 y4 y5 y6 y7 y8 y9 y10 y11 y12)) ∧ (∀ y0 y1 y2 y3 y4 y5 y6, LeO (deaddroplaw10_ReadAlone.l1 k y0 y1 y2 y3 y4 y5 y6) (deaddroplaw10_ReadAlone.l1 (k + 1) y0 y1 y2 y3 y4 y5 y6)) ∧ (∀ y0 y1 y2 y3 y4, LeO (deaddroplaw10_ReadAlone.j3 k y0 y1 y2 y3 y4) (deaddroplaw10_ReadAlone.j3 (k + 1) y0 y1 y2 y3 y4))
 | 0 => by refine ⟨?_, ?_, ?_, ?_⟩ <;> (intros; intro r h; simp [deaddroplaw10_ReadAlone.l0, deaddroplaw10_ReadAlone.j1, deaddroplaw10_ReadAlone.l1, deaddroplaw10_ReadAlone.j3] at h)
 | k + 1 => by
  obtain ⟨ih0, ih1, ih2, ih3⟩ := deaddroplaw10_ReadAlone.mono_l k
  refine ⟨?_, ?_, ?_, ?_⟩ <;> intros <;> (first | unfold deaddroplaw10_ReadAlone.l0 | unfold deaddroplaw10_ReadAlone.j1 | unfold deaddroplaw10_ReadAlone.l1 | unfold deaddroplaw10_ReadAlone.j3) <;>
  repeat' first
  | with_reducible (first | exact ih0 _ _ _ _ _ _ _ | exact ih1 _ _ _ _ _ _ _ _ _ _ _ _ _ | exact ih2 _ _ _ _ _ _ _ | exact ih3 _ _ _ _ _ | exact deaddroplaw10_awake.mono _ | exact deaddropref1_SameTexts.mono _ _ _ | exact deaddropref7_Do.mono _ _ _ _ _ _ _ _ | exact deaddropref7_Join.mono _ _ _ _ _ | exact read_Count.mono _ _ _ _ | exact read_Members.mono _ _ _ _ | exact read_Texts.mono _ _ _ _ | exact LeO.refl _ | exact LeO.none _ | refine LeO.ite ?_ ?_ | refine LeO.bind ?_ (fun _ => ?_))
  | exact ih0 _ _ _ _ _ _ _ | exact ih1 _ _ _ _ _ _ _ _ _ _ _ _ _ | exact ih2 _ _ _ _ _ _ _ | exact ih3 _ _ _ _ _ | exact deaddroplaw10_awake.mono _ | exact deaddropref1_SameTexts.mono _ _ _ | exact deaddropref7_Do.mono _ _ _ _ _ _ _ _ | exact deaddropref7_Join.mono _ _ _ _ _ | exact read_Count.mono _ _ _ _ | exact read_Members.mono _ _ _ _ | exact read_Texts.mono _ _ _ _ | exact LeO.none _ | refine LeO.ite ?_ ?_ | refine LeO.bind ?_ (fun _ => ?_)
theorem deaddroplaw10_ReadAlone.mono : ∀ a0 k, LeO (deaddroplaw10_ReadAlone.f k a0) (deaddroplaw10_ReadAlone.f (k + 1) a0) := by
 intro a0 k
 obtain ⟨ih0, ih1, ih2, ih3⟩ := deaddroplaw10_ReadAlone.mono_l k
 unfold deaddroplaw10_ReadAlone.f
 repeat' first
  | with_reducible (first | exact ih0 _ _ _ _ _ _ _ | exact ih1 _ _ _ _ _ _ _ _ _ _ _ _ _ | exact ih2 _ _ _ _ _ _ _ | exact ih3 _ _ _ _ _ | exact deaddroplaw10_awake.mono _ | exact deaddropref1_SameTexts.mono _ _ _ | exact deaddropref7_Do.mono _ _ _ _ _ _ _ _ | exact deaddropref7_Join.mono _ _ _ _ _ | exact read_Count.mono _ _ _ _ | exact read_Members.mono _ _ _ _ | exact read_Texts.mono _ _ _ _ | exact LeO.refl _ | exact LeO.none _ | refine LeO.ite ?_ ?_ | refine LeO.bind ?_ (fun _ => ?_))
  | exact ih0 _ _ _ _ _ _ _ | exact ih1 _ _ _ _ _ _ _ _ _ _ _ _ _ | exact ih2 _ _ _ _ _ _ _ | exact ih3 _ _ _ _ _ | exact deaddroplaw10_awake.mono _ | exact deaddropref1_SameTexts.mono _ _ _ | exact deaddropref7_Do.mono _ _ _ _ _ _ _ _ | exact deaddropref7_Join.mono _ _ _ _ _ | exact read_Count.mono _ _ _ _ | exact read_Members.mono _ _ _ _ | exact read_Texts.mono _ _ _ _ | exact LeO.none _ | refine LeO.ite ?_ ?_ | refine LeO.bind ?_ (fun _ => ?_)
def deaddroplaw10_ReadAlone.T9 : Bool × List (List Nat × List Nat) := (true, [([], []), ([], []), ([0, 1], [0, 1]), ([2], [2]), ([3], [3]), ([], []), ([], []), ([6], [6]), ([5, 7], [5, 7]), ([8], [8]), ([4, 9], [4, 9]), ([], []), ([11, 10, 10, 0, 1, 2, 3, 4, 5, 6, 7, 8, 9, 10, 11], [10, 11])])
def deaddroplaw10_ReadAlone.B9 : List Nat := [0, 0, 3, 7, 15, 0, 0, 64, 224, 480, 1023, 0, 4095]
theorem deaddroplaw10_ReadAlone.tab9 : rtab .any (opsOf Try.f4 9) = deaddroplaw10_ReadAlone.T9 := by kernel_rfl
theorem deaddroplaw10_ReadAlone.bits9 : waitsOk deaddroplaw10_ReadAlone.T9.2 deaddroplaw10_ReadAlone.B9 = true := by kernel_rfl
def deaddroplaw10_ReadAlone.T21 : Bool × List (List Nat × List Nat) := (true, [([], []), ([], []), ([1], [1]), ([2], [2]), ([3], [3]), ([], []), ([5], [5]), ([6], [6]), ([0, 4, 0, 1, 2, 3, 4, 5, 6, 7], [0, 4]), ([8, 7, 0, 1, 2, 3, 4, 5, 6, 7], [7, 8])])
def deaddroplaw10_ReadAlone.B21 : List Nat := [0, 0, 2, 6, 14, 0, 32, 96, 255, 511]
theorem deaddroplaw10_ReadAlone.tab21 : rtab .any (opsOf Try.f4 21) = deaddroplaw10_ReadAlone.T21 := by kernel_rfl
theorem deaddroplaw10_ReadAlone.bits21 : waitsOk deaddroplaw10_ReadAlone.T21.2 deaddroplaw10_ReadAlone.B21 = true := by kernel_rfl
set_option maxHeartbeats 8000000 in
set_option maxRecDepth 100000 in
theorem deaddroplaw10_ReadAlone.calls (k : Nat) (A0 : Option Addr) (c0 : Nat) (l0 : List Int) (r : Bool) (w : World) (hr0 : Kd.C (Kd.int .u8) w A0 l0.length l0) (hc0 : l0.length ≤ c0) (h : deaddroplaw10_ReadAlone.f k l0 = some r) :
 Calls Try.prog 4 #[.slice A0 l0.length c0] w fun e w' => e = .returned (.bool r) ∧ Below w.heap.size w w' := by
 have hu28 := Try.underlying28
 have hu40 := Try.underlying40
 have hu43 := Try.underlying43
 have HR0 := Aside0.mk hr0
 have HC0 := Aside0.mk hc0
 clear hr0 hc0
 have HB := Aside0.mk (Below.refl w.heap.size w)
 have H : (if (l0.length : Int) > 80 then ((deaddroplaw10_awake.f k).bind fun t536 => (some t536)) else (if 5 ≤ 281474976710656 then (deaddroplaw10_ReadAlone.l0 k l0 (⟨#[]⟩ : ByteArray) 0 (List.replicate 5 false) 0 ([] : List (S70)) ([] : List (S34))) else (none))) = some r := h
 clear h
 by_cases c2 : (l0.length : Int) > 80
 ·
  rw [if_pos c2] at H
  have c2b0 : decide (80 < (l0.length : Int)) = true := decide_eq_true c2
  have c2b1 : decide (80 < l0.length) = true := decide_eq_true (by omega)
  clear c2
  replace H := Option.bind_eq_some_iff.mp H
  obtain ⟨t536, A30, H⟩ := H
  replace H : (some t536) = some r := H
  have A3 := Aside0.mk A30
  clear A30
  obtain rfl := Option.some.inj H
  go_enter Try.func4, Try.ntmps4
  go_wp2_with (first | ((with_reducible refine gate_callee (f := 11) rfl ?_); refine goesL_ (some 17) rfl rfl Try.func11 (by kernel_rfl) rfl #[] rfl ar_ ?_; (with_reducible refine (deaddroplaw10_awake.calls k  t536 _ A3.out).mono ?_); rintro e w4 ⟨rfl, hb⟩; refine ⟨_, rfl, ?_⟩; replace HB := Aside0.mk (below_step (bw HB.out) hb); (try clear hb); (try clear hb2); (try clear hk); (try clear hi)))
  go_ret
  exact ⟨by first | rfl | (simp [errW_none, errW_some] <;> rfl) | (simp [*, errW_none, errW_some] <;> rfl), by repeat (first | (with_reducible first | exact HB.out | apply below_alloc | apply pw_below_drewN | apply below_drew1) | exact HB.out)⟩
 ·
  rw [if_neg c2] at H
  have c2b0 : decide (80 < (l0.length : Int)) = false := decide_eq_false c2
  have c2b1 : decide (80 < l0.length) = false := decide_eq_false (by omega)
  clear c2
  by_cases c5 : 5 ≤ 281474976710656
  rotate_left
  ·
   rw [if_neg c5] at H
   exact absurd H (by simp)

  rw [if_pos c5] at H
  have c5b0 := eq_true c5
  have c5b1 : decide (5 ≤ 281474976710656) = true := decide_eq_true c5
  clear c5
  obtain ⟨y538, hy538⟩ : ∃ y_ : List Bool, y_ = (List.replicate 5 false) := ⟨_, rfl⟩
  replace H : (deaddroplaw10_ReadAlone.l0 k l0 (⟨#[]⟩ : ByteArray) 0 y538 0 ([] : List (S70)) ([] : List (S34))) = some r := by first | (rw [hy538]; with_reducible exact H) | (have H2_ := (Option.bind_some _ _).symm.trans H; rw [hy538]; with_reducible exact H2_) | (have H2_ := (Option.bind_some _ _).symm.trans H; with_reducible exact H2_) | with_reducible exact H | (rw [hy538]; exact H) | exact H
  have Ny538 := Aside0.mk hy538
  clear hy538
  have H' := Aside0.mk H
  clear H
  go_enter Try.func4, Try.ntmps4
  go_wp2_with (first | ((with_reducible refine gate_dst (N := 3) rfl ?_); (try (refine gate_guard (by rfl) ?_; dsimp only)); refine box_event ?hg (N := 3) ?hd (cs := #[.slice none 0 0, .slice none 0 0]) (t := 28) ?hr ?_; (case hd => rfl); (case hg => rfl); (case hr => first | (go_simp; done) | (go_simp; rfl)); intro gb537 hg w6 hbox hb; have BK537 := Aside0.mk (hbox); have GW537 := Aside0.mk ((by rw [hg]; exact (below_size (bw HB.out)) : w.heap.size ≤ gb537)); have GE537 := Aside0.mk ((by rw [hg]; exact (below_size (bw HB.out)) : w.heap.size ≤ gb537)); replace HB := Aside0.mk (below_step (bw HB.out) hb); clear hb hbox hg) | ((with_reducible refine gate_dst (N := 18) rfl ?_); (try (refine gate_guard (by rfl) ?_; dsimp only)); refine Kd.R_make Kd.bool _ 4 rfl (N := 18) rfl 38 _ _ rfl 5 rfl rfl Try.underlying38 (.bool false) 1 info4 rfl (by decide) (by omega) false (ok := fun _ => True) (okp := fun _ => True) rfl (fun _ hk => hk) trivial (by omega) (by omega) (Below.refl _ _) (Nat.le_refl _) ?_; intro v539 w7 ho8 hb hg_ hnew_; clear hg_ hnew_; (first | rw [← Ny538.out] at ho8 | (simp only [Int.reduceToNat] at ho8; rw [← Ny538.out] at ho8)); have HO540 := Aside0.mk (Kd.R_lower ho8 (below_size (bw1 HB.out GE537.out))); replace BK537 := Aside0.mk (blk_below (g := gb537) (o := .cells #[.slice none 0 0, .slice none 0 0] 28 (0, 0)) (bk BK537.out) hb); replace HB := Aside0.mk (below_step (bw1 HB.out GE537.out) hb); clear hb ho8))
  go_loopg [4, 5, 6, 7] k (fun kq v4 v5 v6 v7 w' => ∃ (x4_1 : ByteArray) (x5_1 : Int) (x6_1 : List Bool) (x7_1 : Int) (x538000_1 : List (S70)) (x538001_1 : List (S34)) (u538000 : Value) (u538001 : Value), v4 = .string x4_1 ∧ v5 = .int .i64 x5_1 ∧ v7 = .int .i64 x7_1 ∧ Aside0 (deaddroplaw10_ReadAlone.l0 kq l0 x4_1 x5_1 x6_1 x7_1 x538000_1 x538001_1 = some r) ∧ Aside0 (kq ≤ k) ∧ Aside0 (Kd.R Kd.bool 4 w' w.heap.size (fun _ => True) v6 x6_1) ∧ Aside0 (Kd.R k70 70 w' w.heap.size (fun _ => True) u538000 x538000_1) ∧ Aside0 (Kd.R k34 34 w' w.heap.size (fun _ => True) u538001 x538001_1) ∧ Aside0 (w'.heap[gb537]? = some (.cells #[u538000, u538001] 28 (0, 0))) ∧ Aside0 (Below w.heap.size w w'))
  case atStart => exact ⟨((⟨#[]⟩ : ByteArray)), (0), (y538), (0), (([] : List (S70))), (([] : List (S34))), (.slice none 0 0), (.slice none 0 0), ok_, ok_, ok_, H', ⟨Nat.le_refl _⟩, ⟨by (with_reducible repeat (first | apply Kd.R_alloc | apply Kd.R_drewN | apply Kd.R_drew)); exact HO540.out⟩, ⟨by first | exact Kd.R_nil _ _ _ _ _ | exact Kd.N_nil _ _ _ _ _ | exact Kd.V_nil _ _ _ _ _ | exact Kd.Q_nil _ _ _ _ _ | exact Kd.S_nil _ _ _ _ _⟩, ⟨by first | exact Kd.R_nil _ _ _ _ _ | exact Kd.N_nil _ _ _ _ _ | exact Kd.V_nil _ _ _ _ _ | exact Kd.Q_nil _ _ _ _ _ | exact Kd.S_nil _ _ _ _ _⟩, ⟨by (with_reducible repeat (first | refine blk_drewN ?_ _ | refine blk_drew ?_ | refine blk_alloc ?_ _)); exact BK537.out⟩, ⟨by repeat (first | (with_reducible first | exact HB.out | apply below_alloc | apply pw_below_drewN | apply below_drew1 | refine below_set ?_ GE537.out) | exact HB.out)⟩⟩
  case round =>
   clear H'
   try clear c2
   try clear c2b0
   try clear c2b1
   try clear c5
   try clear c5b0
   try clear c5b1
   obtain ⟨x4_1, x5_1, x6_1, x7_1, x538000_1, x538001_1, u538000, u538001, rfl, rfl, rfl, HA, HK1, HO_6, HO_538000, HO_538001, BK537, HB⟩ := hrel
   cases gk with
   | zero => exact absurd HA.out (by simp [deaddroplaw10_ReadAlone.l0])
   | succ k1 =>
    have H := HA.out
    clear HA
    simp only [deaddroplaw10_ReadAlone.l0] at H
    by_cases c9 : (wrap64 (x7_1 + 1)) < (l0.length : Int)
    ·
     rw [if_pos c9] at H
     have c9b0 : decide ((wrap64 (x7_1 + 1)) < (l0.length : Int)) = true := decide_eq_true c9
     clear c9
     by_cases c10 : 0 ≤ x7_1
     rotate_left
     ·
      rw [if_neg c10] at H
      exact absurd H (by simp)
     rw [if_pos c10] at H
     have c10b0 : decide (0 ≤ x7_1) = true := decide_eq_true c10
     clear c10
     by_cases c11 : x7_1 < (l0.length : Int)
     rotate_left
     ·
      rw [if_neg c11] at H
      exact absurd H (by simp)
     rw [if_pos c11] at H
     have c11b0 : decide (x7_1 < (l0.length : Int)) = true := decide_eq_true c11
     clear c11
     obtain ⟨ji12, hji12⟩ : ∃ j_ : Int, (wrap64 (x7_1 + 1)) = j_ := ⟨_, rfl⟩
     replace H : (if 0 ≤ (ji12) then ((deaddroplaw8_Op.f (Int.tmod (rd l0 x7_1) 5) (rd l0 (ji12))).bind fun bt543 => ((deaddropref7_Do.f k1 x538000_1 x538001_1 2 bt543.1 bt543.2.1 bt543.2.2.1 bt543.2.2.2).bind fun bt548 => (if bt548.2.2 = 0 then ((deaddropref7_Join.f k1 x538000_1 x538001_1 bt548.1 bt548.2.1).bind fun bt556 => (if bt543.1 = 1 then (deaddroplaw10_ReadAlone.l0 k1 l0 bt543.2.2.1 x5_1 x6_1 (wrap64 (x7_1 + 2)) bt556.1 bt556.2) else (if bt543.1 = 2 then (deaddroplaw10_ReadAlone.j1 k1 l0 x4_1 x5_1 x6_1 x7_1 bt543.1 (bt543.1 == 2) bt556.1 bt556.2 bt543.1 bt543.2.1 bt543.2.2.1 bt543.2.2.2) else (deaddroplaw10_ReadAlone.j1 k1 l0 x4_1 x5_1 x6_1 x7_1 bt543.1 (bt543.1 == 3) bt556.1 bt556.2 bt543.1 bt543.2.1 bt543.2.2.1 bt543.2.2.2)))) else (deaddroplaw10_ReadAlone.l0 k1 l0 x4_1 x5_1 x6_1 (wrap64 (x7_1 + 2)) x538000_1 x538001_1)))) else (none)) = some r := by first | (rw [hji12] at H; exact H) | (simp only [hji12] at H ⊢; exact H)
     (try rw [hji12] at c9b0)
     have hji12w : (IntKind.i64.wrap (x7_1 + 1)) = ji12 := (i64_w _).trans hji12
     by_cases c13 : 0 ≤ (ji12)
     rotate_left
     ·
      rw [if_neg c13] at H
      exact absurd H (by simp)
     rw [if_pos c13] at H
     have c13b0 : decide (0 ≤ (ji12)) = true := decide_eq_true c13
     clear c13
     replace H := Option.bind_eq_some_iff.mp H
     obtain ⟨⟨t543, t544, t545, t546⟩, A140, H⟩ := H
     replace H : ((deaddropref7_Do.f k1 x538000_1 x538001_1 2 t543 t544 t545 t546).bind fun bt548 => (if bt548.2.2 = 0 then ((deaddropref7_Join.f k1 x538000_1 x538001_1 bt548.1 bt548.2.1).bind fun bt556 => (if t543 = 1 then (deaddroplaw10_ReadAlone.l0 k1 l0 t545 x5_1 x6_1 (wrap64 (x7_1 + 2)) bt556.1 bt556.2) else (if t543 = 2 then (deaddroplaw10_ReadAlone.j1 k1 l0 x4_1 x5_1 x6_1 x7_1 t543 (t543 == 2) bt556.1 bt556.2 t543 t544 t545 t546) else (deaddroplaw10_ReadAlone.j1 k1 l0 x4_1 x5_1 x6_1 x7_1 t543 (t543 == 3) bt556.1 bt556.2 t543 t544 t545 t546)))) else (deaddroplaw10_ReadAlone.l0 k1 l0 x4_1 x5_1 x6_1 (wrap64 (x7_1 + 2)) x538000_1 x538001_1))) = some r := H
     have A14 := Aside0.mk A140
     clear A140
     replace H := Option.bind_eq_some_iff.mp H
     obtain ⟨⟨t548, t551, t554⟩, A150, H⟩ := H
     replace H : (if t554 = 0 then ((deaddropref7_Join.f k1 x538000_1 x538001_1 t548 t551).bind fun bt556 => (if t543 = 1 then (deaddroplaw10_ReadAlone.l0 k1 l0 t545 x5_1 x6_1 (wrap64 (x7_1 + 2)) bt556.1 bt556.2) else (if t543 = 2 then (deaddroplaw10_ReadAlone.j1 k1 l0 x4_1 x5_1 x6_1 x7_1 t543 (t543 == 2) bt556.1 bt556.2 t543 t544 t545 t546) else (deaddroplaw10_ReadAlone.j1 k1 l0 x4_1 x5_1 x6_1 x7_1 t543 (t543 == 3) bt556.1 bt556.2 t543 t544 t545 t546)))) else (deaddroplaw10_ReadAlone.l0 k1 l0 x4_1 x5_1 x6_1 (wrap64 (x7_1 + 2)) x538000_1 x538001_1)) = some r := H
     have A15 := Aside0.mk A150
     clear A150
     by_cases c16 : t554 = 0
     ·
      rw [if_pos c16] at H
      have c16b0 : (t554 == 0) = true := beq_iff_eq.mpr c16
      have c16b1 : (t554 != 0) = false := bne_eq_false_iff_eq.mpr c16
      clear c16
      replace H := Option.bind_eq_some_iff.mp H
      obtain ⟨⟨t556, t559⟩, A170, H⟩ := H
      replace H : (if t543 = 1 then (deaddroplaw10_ReadAlone.l0 k1 l0 t545 x5_1 x6_1 (wrap64 (x7_1 + 2)) t556 t559) else (if t543 = 2 then (deaddroplaw10_ReadAlone.j1 k1 l0 x4_1 x5_1 x6_1 x7_1 t543 (t543 == 2) t556 t559 t543 t544 t545 t546) else (deaddroplaw10_ReadAlone.j1 k1 l0 x4_1 x5_1 x6_1 x7_1 t543 (t543 == 3) t556 t559 t543 t544 t545 t546))) = some r := H
      have A17 := Aside0.mk A170
      clear A170
      by_cases c18 : t543 = 1
      ·
       rw [if_pos c18] at H
       have c18b0 : (t543 == 1) = true := beq_iff_eq.mpr c18
       have c18b1 : (t543 != 1) = false := bne_eq_false_iff_eq.mpr c18
       clear c18
       have H' := Aside0.mk H
       clear H
       try go_wp2
       replace HO_6 := Aside0.mk (Kd.R_drew HO_6.out)
       replace HO_538000 := Aside0.mk (Kd.R_drew HO_538000.out)
       replace HO_538001 := Aside0.mk (Kd.R_drew HO_538001.out)
       replace BK537 := Aside0.mk (blk_drew BK537.out)
       replace HB := Aside0.mk (below_drew1 HB.out)
       have p541 : 0 ≤ (x7_1 : Int) := of_decide_eq_true as_
       have q541 : x7_1 < (l0.length : Int) := of_decide_eq_true as_
       obtain ⟨ad541, e541, hx541_0⟩ := Kd.at_int HR0.out x7_1 p541 q541
       have hw541_0 := hx541_0
       cases e541
       replace hx541_0 := (HB.out.cell (World.block_lt_of_cell? w _ hx541_0)).trans hx541_0
       replace p541 := eq_true p541
       replace q541 := eq_true q541
       have p542 : 0 ≤ ((ji12) : Int) := of_decide_eq_true as_
       have q542 : (ji12) < (l0.length : Int) := of_decide_eq_true as_
       obtain ⟨ad542, e542, hx542_0⟩ := Kd.at_int HR0.out (ji12) p542 q542
       have hw542_0 := hx542_0
       obtain rfl : ad541 = ad542 := (by injection e542)
       replace hx542_0 := (HB.out.cell (World.block_lt_of_cell? w _ hx542_0)).trans hx542_0
       replace p542 := eq_true p542
       replace q542 := eq_true q542
       refine start_ (n := 13) (S := fun w' => w'.cell? (ad541.add (x7_1).toNat) = some (.int .u8 (rd l0 x7_1)) ∧ w'.cell? (ad541.add ((ji12)).toNat) = some (.int .u8 (rd l0 (ji12)))) (ds := []) (fl 0 13) (by kernel_rfl) rfl rfl ⟨(bc HB.out hw541_0), (bc HB.out hw542_0)⟩ (fun hHeld => ?_); refine with_tabW deaddroplaw10_ReadAlone.tab9 deaddroplaw10_ReadAlone.bits9 (fun HT_ HW_ => ?_)
       generalize wr.drew = w19 at HO_6 HO_538000 HO_538001 BK537 HB hx541_0 hx542_0 hHeld ⊢
       refine pure_ (i := 0) (N := some 26) (fl 1 13) rfl rfl (any_of HT_.out (by kernel_rfl)) (fun _ _ _ h => h) (Or.inl ⟨by rfl, py⟩) pa ?_
       refine pure_ (i := 1) (N := some 27) (fl 2 13) rfl rfl (any_of HT_.out (by kernel_rfl)) (fun _ _ _ h => h) (Or.inl ⟨by rfl, py⟩) pa ?_
       refine pure_ (i := 2) (N := some 28) (fl 3 13) rfl rfl (any_of HT_.out (by kernel_rfl)) (fun _ _ _ h => h) (Or.inl ⟨by rfl, py⟩) pa ?_
       refine pure_ (i := 5) (N := some 31) #[true, true, true, false, false, true, false, false, false, false, false, false, false] rfl rfl (any_of HT_.out (by kernel_rfl)) (fun _ _ _ h => h) (Or.inl ⟨by rfl, py⟩) pa ?_
       refine pure_ (i := 6) (N := some 32) #[true, true, true, false, false, true, true, false, false, false, false, false, false] rfl rfl (any_of HT_.out (by kernel_rfl)) (fun _ _ _ h => h) (Or.inl ⟨by rfl, py⟩) pa ?_
       refine pure_ (i := 7) (N := some 33) #[true, true, true, false, false, true, true, true, false, false, false, false, false] rfl rfl (any_of HT_.out (by kernel_rfl)) (fun _ _ _ h => h) (Or.inl ⟨by rfl, py⟩) pa ?_
       refine pure_ (i := 8) (N := some 34) #[true, true, true, false, false, true, true, true, true, false, false, false, false] rfl rfl (any_of HT_.out (by kernel_rfl)) (fun _ _ _ h => h) (Or.inl ⟨by rfl, py⟩) pa ?_
       refine take_ (i := 3) (N := some 29) (v := ?_) (a' := ?_) #[true, true, true, true, false, true, true, true, true, false, false, false, false] rfl rfl (take_ofW HT_.out HW_.out (by kernel_rfl)) (fun _ _ _ h => h) (Or.inl ⟨by rfl, ?_⟩) hHeld ?_ ?_
       rotate_left
       ·
        rintro w' ⟨s0, s1⟩
        go_simp
        with_reducible rfl
       rotate_left
       ·
        simp only [Act.put, List.setIfInBounds_toArray, List.set_cons_zero, List.set_cons_succ, i64_w, i32_w]
        rfl
       refine pure_ (i := 4) (N := some 30) (fl 9 13) rfl rfl (any_of HT_.out (by kernel_rfl)) (fun _ _ _ h => h) (Or.inl ⟨by rfl, py⟩) pa ?_
       refine take_ (i := 9) (N := some 35) (v := ?_) (a' := ?_) (fl 10 13) rfl rfl (take_ofW HT_.out HW_.out (by kernel_rfl)) (fun _ _ _ h => h) (Or.inl ⟨by rfl, ?_⟩) hHeld ?_ ?_
       rotate_left
       ·
        rintro w' ⟨s0, s1⟩
        go_simp
        with_reducible rfl
       rotate_left
       ·
        simp only [Act.put, List.setIfInBounds_toArray, List.set_cons_zero, List.set_cons_succ, i64_w, i32_w]
        rfl
       refine join_ (σ := Nat) 1 (fl 12 13) (fun s_ => [(36, .agg #[.int .i64 t543, .string t544, .string t545, .int .i64 t546]), (8, .pointer (some ⟨s_, 0, none⟩))]) (fun s_ w' => (w'.cell? (ad541.add (x7_1).toNat) = some (.int .u8 (rd l0 x7_1)) ∧ w'.cell? (ad541.add ((ji12)).toNat) = some (.int .u8 (rd l0 (ji12)))) ∧ (Kd.R k70 70 w' w.heap.size (fun _ => True) u538000 x538000_1) ∧ (Kd.R k34 34 w' w.heap.size (fun _ => True) u538001 x538001_1) ∧ (Kd.R Kd.bool 4 w' w.heap.size (fun _ => True) u6 x6_1) ∧ (w'.heap[gb537]? = some (.cells #[u538000, u538001] 28 (0, 0))) ∧ (w'.heap[s_]? = some (.cells #[.int .i64 0, .string (⟨#[]⟩ : ByteArray), .string (⟨#[]⟩ : ByteArray), .int .i64 0] 40 (0, 0))) ∧ (w.heap.size ≤ s_) ∧ (w.heap.size ≤ s_) ∧ (gb537 ≠ s_) ∧ (s_ ≠ gb537) ∧ (Below w.heap.size w w')) ?_ ?_
       rotate_left
       ·
        intro hCont
        refine two_ (i := 10) (j := 11) (Ni := some 36) (Nj := some 8) (fl 11 13) #[true, true, true, true, true, true, true, true, true, true, false, true, false] rfl rfl rfl rfl (two_of HT_.out (by kernel_rfl)) (by decide) (by decide) (fun K hK => ?_) (fun K hK => ?_)
        ·
         skip
         refine goes_ Try.func12 (by kernel_rfl) rfl #[.int .u8 (Int.tmod (rd l0 x7_1) 5), .int .u8 (rd l0 (ji12))] (by rfl) rfl rfl (by (try simp only [List.map_toArray, List.map_cons, List.map_nil]); first | done | (simp only [hji12]; rfl) | rfl | (simp only [List.length_drop, List.length_take]; rfl)) ?_
         with_reducible refine (deaddroplaw8_Op.calls (Int.tmod (rd l0 x7_1) 5) (rd l0 (ji12)) t543 t544 t545 t546 _ A14.out).mono ?_
         rintro e w20 ⟨rfl, hb⟩
         refine ⟨_, rfl, ?_⟩
         replace HO_6 := Aside0.mk (Kd.R_below (rk HO_6.out) hb)
         replace HO_538000 := Aside0.mk (Kd.R_below (rk HO_538000.out) hb)
         replace HO_538001 := Aside0.mk (Kd.R_below (rk HO_538001.out) hb)
         replace BK537 := Aside0.mk (blk_below (g := gb537) (o := .cells #[u538000, u538001] 28 (0, 0)) (bk BK537.out) hb)
         replace HB := Aside0.mk (below_step (bw1 HB.out GE537.out) hb)
         (try clear hb)
         (try clear hb2)
         (try clear hk)
         (try clear hi)
         refine hK.out _ _ ⟨(bc HB.out hw541_0), (bc HB.out hw542_0)⟩ (fun hHeld => ?_)
         clear hK K
         refine norm_ (a' := ?_) ?_ ?_
         rotate_left
         ·
          show Act.put _ (some 36) _ = _
          simp only [Act.put, List.setIfInBounds_toArray, List.set_cons_zero, List.set_cons_succ, i64_w, i32_w]
          rfl
         refine one_ (i := 11) (N := some 8) (fl 12 13) rfl rfl (one_of HT_.out (by kernel_rfl)) (by decide) (fun K hK => ?_)
         refine box_step ?hg (N := 8) ?hd (cs := #[.int .i64 0, .string (⟨#[]⟩ : ByteArray), .string (⟨#[]⟩ : ByteArray), .int .i64 0]) (t := 40) ?hr ?_; (case hd => rfl); (case hg => rfl); (case hr => first | (go_simp; done) | (go_simp; rfl))
         intro gb547 hg w21 hbox hb
         replace HO_6 := Aside0.mk (Kd.R_below (rk HO_6.out) hb)
         replace HO_538000 := Aside0.mk (Kd.R_below (rk HO_538000.out) hb)
         replace HO_538001 := Aside0.mk (Kd.R_below (rk HO_538001.out) hb)
         have BK547 := Aside0.mk (hbox)
         have GW547 := Aside0.mk ((by rw [hg]; exact (below_size (bw1 HB.out GE537.out)) : w.heap.size ≤ gb547))
         have GE547 := Aside0.mk ((by rw [hg]; exact (below_size (bw1 HB.out GE537.out)) : w.heap.size ≤ gb547))
         replace HB := Aside0.mk (below_step (bw1 HB.out GE537.out) hb)
         have NB537_547 := Aside0.mk ((by rw [hg]; exact Nat.ne_of_lt (blk_lt (g := gb537) (o := .cells #[u538000, u538001] 28 (0, 0)) (bk BK537.out)) : gb537 ≠ gb547))
         have NB547_537 := Aside0.mk ((by rw [hg]; exact Nat.ne_of_gt (blk_lt (g := gb537) (o := .cells #[u538000, u538001] 28 (0, 0)) (bk BK537.out)) : gb547 ≠ gb537))
         replace BK537 := Aside0.mk (blk_below (g := gb537) (o := .cells #[u538000, u538001] 28 (0, 0)) (bk BK537.out) hb)
         clear hb hbox hg
         refine hK.out _ _ ⟨(bc HB.out hw541_0), (bc HB.out hw542_0)⟩ (fun hHeld => ?_)
         clear hK K
         refine norm_ (a' := ?_) ?_ ?_
         rotate_left
         ·
          show Act.put _ (some 8) _ = _
          simp only [Act.put, List.setIfInBounds_toArray, List.set_cons_zero, List.set_cons_succ, i64_w, i32_w]
          rfl
         exact norm_ (by simp only [putAll, Act.put, List.setIfInBounds_toArray, List.set_cons_zero, List.set_cons_succ]) (hCont (gb547) _ ⟨hHeld, (rk HO_538000.out), (rk HO_538001.out), (rk HO_6.out), (bk BK537.out), (bk BK547.out), GW547.out, GE547.out, NB537_547.out, NB547_537.out, (bw2 HB.out GE537.out GE547.out)⟩)
        ·
         skip
         refine box_step ?hg (N := 8) ?hd (cs := #[.int .i64 0, .string (⟨#[]⟩ : ByteArray), .string (⟨#[]⟩ : ByteArray), .int .i64 0]) (t := 40) ?hr ?_; (case hd => rfl); (case hg => rfl); (case hr => first | (go_simp; done) | (go_simp; rfl))
         intro gb547 hg w20 hbox hb
         replace HO_6 := Aside0.mk (Kd.R_below (rk HO_6.out) hb)
         replace HO_538000 := Aside0.mk (Kd.R_below (rk HO_538000.out) hb)
         replace HO_538001 := Aside0.mk (Kd.R_below (rk HO_538001.out) hb)
         have BK547 := Aside0.mk (hbox)
         have GW547 := Aside0.mk ((by rw [hg]; exact (below_size (bw1 HB.out GE537.out)) : w.heap.size ≤ gb547))
         have GE547 := Aside0.mk ((by rw [hg]; exact (below_size (bw1 HB.out GE537.out)) : w.heap.size ≤ gb547))
         replace HB := Aside0.mk (below_step (bw1 HB.out GE537.out) hb)
         have NB537_547 := Aside0.mk ((by rw [hg]; exact Nat.ne_of_lt (blk_lt (g := gb537) (o := .cells #[u538000, u538001] 28 (0, 0)) (bk BK537.out)) : gb537 ≠ gb547))
         have NB547_537 := Aside0.mk ((by rw [hg]; exact Nat.ne_of_gt (blk_lt (g := gb537) (o := .cells #[u538000, u538001] 28 (0, 0)) (bk BK537.out)) : gb547 ≠ gb537))
         replace BK537 := Aside0.mk (blk_below (g := gb537) (o := .cells #[u538000, u538001] 28 (0, 0)) (bk BK537.out) hb)
         clear hb hbox hg
         refine hK.out _ _ ⟨(bc HB.out hw541_0), (bc HB.out hw542_0)⟩ (fun hHeld => ?_)
         clear hK K
         refine norm_ (a' := ?_) ?_ ?_
         rotate_left
         ·
          show Act.put _ (some 8) _ = _
          simp only [Act.put, List.setIfInBounds_toArray, List.set_cons_zero, List.set_cons_succ, i64_w, i32_w]
          rfl
         refine one_ (i := 10) (N := some 36) (fl 12 13) rfl rfl (one_of HT_.out (by kernel_rfl)) (by decide) (fun K hK => ?_)
         refine goes_ Try.func12 (by kernel_rfl) rfl #[.int .u8 (Int.tmod (rd l0 x7_1) 5), .int .u8 (rd l0 (ji12))] (by rfl) rfl rfl (by (try simp only [List.map_toArray, List.map_cons, List.map_nil]); first | done | (simp only [hji12]; rfl) | rfl | (simp only [List.length_drop, List.length_take]; rfl)) ?_
         with_reducible refine (deaddroplaw8_Op.calls (Int.tmod (rd l0 x7_1) 5) (rd l0 (ji12)) t543 t544 t545 t546 _ A14.out).mono ?_
         rintro e w21 ⟨rfl, hb⟩
         refine ⟨_, rfl, ?_⟩
         replace HO_6 := Aside0.mk (Kd.R_below (rk HO_6.out) hb)
         replace HO_538000 := Aside0.mk (Kd.R_below (rk HO_538000.out) hb)
         replace HO_538001 := Aside0.mk (Kd.R_below (rk HO_538001.out) hb)
         replace BK537 := Aside0.mk (blk_below (g := gb537) (o := .cells #[u538000, u538001] 28 (0, 0)) (bk BK537.out) hb)
         replace BK547 := Aside0.mk (blk_below (g := gb547) (o := .cells #[.int .i64 0, .string (⟨#[]⟩ : ByteArray), .string (⟨#[]⟩ : ByteArray), .int .i64 0] 40 (0, 0)) (bk BK547.out) hb)
         replace HB := Aside0.mk (below_step (bw2 HB.out GE537.out GE547.out) hb)
         (try clear hb)
         (try clear hb2)
         (try clear hk)
         (try clear hi)
         refine hK.out _ _ ⟨(bc HB.out hw541_0), (bc HB.out hw542_0)⟩ (fun hHeld => ?_)
         clear hK K
         refine norm_ (a' := ?_) ?_ ?_
         rotate_left
         ·
          show Act.put _ (some 36) _ = _
          simp only [Act.put, List.setIfInBounds_toArray, List.set_cons_zero, List.set_cons_succ, i64_w, i32_w]
          rfl
         exact norm_ (by simp only [putAll, Act.put, List.setIfInBounds_toArray, List.set_cons_zero, List.set_cons_succ]) (hCont (gb547) _ ⟨hHeld, (rk HO_538000.out), (rk HO_538001.out), (rk HO_6.out), (bk BK537.out), (bk BK547.out), GW547.out, GE547.out, NB537_547.out, NB547_537.out, (bw2 HB.out GE537.out GE547.out)⟩)
       rintro gb547 w22 ⟨hS_, h0_, h1_, h2_, h3_, h4_, h5_, h6_, h7_, h8_, h9_⟩
       have n0_ : Aside0 (Kd.R k70 70 w22 w.heap.size (fun _ => True) u538000 x538000_1) := ⟨h0_⟩
       have n1_ : Aside0 (Kd.R k34 34 w22 w.heap.size (fun _ => True) u538001 x538001_1) := ⟨h1_⟩
       have n2_ : Aside0 (Kd.R Kd.bool 4 w22 w.heap.size (fun _ => True) u6 x6_1) := ⟨h2_⟩
       have n3_ : Aside0 (w22.heap[gb537]? = some (.cells #[u538000, u538001] 28 (0, 0))) := ⟨h3_⟩
       have n4_ : Aside0 (w22.heap[gb547]? = some (.cells #[.int .i64 0, .string (⟨#[]⟩ : ByteArray), .string (⟨#[]⟩ : ByteArray), .int .i64 0] 40 (0, 0))) := ⟨h4_⟩
       have n5_ : Aside0 (w.heap.size ≤ gb547) := ⟨h5_⟩
       have n6_ : Aside0 (w.heap.size ≤ gb547) := ⟨h6_⟩
       have n7_ : Aside0 (gb537 ≠ gb547) := ⟨h7_⟩
       have n8_ : Aside0 (gb547 ≠ gb537) := ⟨h8_⟩
       have n9_ : Aside0 (Below w.heap.size w w22) := ⟨h9_⟩
       clear HO_6
       clear HO_538000
       clear HO_538001
       clear BK537
       clear HB
       clear h0_ h1_ h2_ h3_ h4_ h5_ h6_ h7_ h8_ h9_
       have HO_538000 := n0_
       have HO_538001 := n1_
       have HO_6 := n2_
       have BK537 := n3_
       have BK547 := n4_
       have GW547 := n5_
       have GE547 := n6_
       have NB537_547 := n7_
       have NB547_537 := n8_
       have HB := n9_
       clear n0_ n1_ n2_ n3_ n4_ n5_ n6_ n7_ n8_ n9_
       have hHeld : w22.cell? (ad541.add (x7_1).toNat) = some (.int .u8 (rd l0 x7_1)) ∧ w22.cell? (ad541.add ((ji12)).toNat) = some (.int .u8 (rd l0 (ji12))) := hS_
       refine norm_ (a' := ?_) ?_ ?_
       rotate_left
       ·
        simp only [putAll, Act.put, List.setIfInBounds_toArray, List.set_cons_zero, List.set_cons_succ]
        rfl
       refine one_ (i := 12) (N := none) (fl 13 13) rfl rfl (one_of HT_.out (by kernel_rfl)) (by decide) (fun K hK => ?_)
       have hs23 : w22.cell? ⟨gb547, 0, none⟩ = some (.int .i64 0) := (blk_cell BK547.out 0).trans rfl
       have hfs23 := blk_frozen BK547.out 0
       have hns23_0 := NB537_547.out
       have hms23_0 := NB547_537.out
       have hs24 : w22.cell? ⟨gb547, 1, none⟩ = some (.string (⟨#[]⟩ : ByteArray)) := (blk_cell BK547.out 1).trans rfl
       have hfs24 := blk_frozen BK547.out 1
       have hns24_0 := NB537_547.out
       have hms24_0 := NB547_537.out
       have hs25 : w22.cell? ⟨gb547, 2, none⟩ = some (.string (⟨#[]⟩ : ByteArray)) := (blk_cell BK547.out 2).trans rfl
       have hfs25 := blk_frozen BK547.out 2
       have hns25_0 := NB537_547.out
       have hms25_0 := NB547_537.out
       have hs26 : w22.cell? ⟨gb547, 3, none⟩ = some (.int .i64 0) := (blk_cell BK547.out 3).trans rfl
       have hfs26 := blk_frozen BK547.out 3
       have hns26_0 := NB537_547.out
       have hms26_0 := NB547_537.out
       refine skip_ (w1 := ?_) (by rfl) rfl ?_ ?_
       rotate_left
       ·
        go_simp
        rfl
       refine hK.out _ _ ⟨((cell_far (p := ⟨gb547, _, none⟩) (by first | exact Nat.ne_of_lt (Nat.lt_of_lt_of_le (by have := World.block_lt_of_cell? _ _ hw541_0; first | rwa [add_block] at this | exact this) GW547.out) | (rw [add_block]; exact Nat.ne_of_lt (Nat.lt_of_lt_of_le (by have := World.block_lt_of_cell? _ _ hw541_0; first | rwa [add_block] at this | exact this) GW547.out)) | (show (Addr.add _ _).block ≠ _; rw [add_block]; exact Nat.ne_of_lt (Nat.lt_of_lt_of_le (by have := World.block_lt_of_cell? _ _ hw541_0; first | rwa [add_block] at this | exact this) GW547.out)) | (dsimp only; exact Nat.ne_of_lt (Nat.lt_of_lt_of_le (by have := World.block_lt_of_cell? _ _ hw541_0; first | rwa [add_block] at this | exact this) GW547.out))) _).trans (((cell_far (p := ⟨gb547, _, none⟩) (by first | exact Nat.ne_of_lt (Nat.lt_of_lt_of_le (by have := World.block_lt_of_cell? _ _ hw541_0; first | rwa [add_block] at this | exact this) GW547.out) | (rw [add_block]; exact Nat.ne_of_lt (Nat.lt_of_lt_of_le (by have := World.block_lt_of_cell? _ _ hw541_0; first | rwa [add_block] at this | exact this) GW547.out)) | (show (Addr.add _ _).block ≠ _; rw [add_block]; exact Nat.ne_of_lt (Nat.lt_of_lt_of_le (by have := World.block_lt_of_cell? _ _ hw541_0; first | rwa [add_block] at this | exact this) GW547.out)) | (dsimp only; exact Nat.ne_of_lt (Nat.lt_of_lt_of_le (by have := World.block_lt_of_cell? _ _ hw541_0; first | rwa [add_block] at this | exact this) GW547.out))) _).trans (((cell_far (p := ⟨gb547, _, none⟩) (by first | exact Nat.ne_of_lt (Nat.lt_of_lt_of_le (by have := World.block_lt_of_cell? _ _ hw541_0; first | rwa [add_block] at this | exact this) GW547.out) | (rw [add_block]; exact Nat.ne_of_lt (Nat.lt_of_lt_of_le (by have := World.block_lt_of_cell? _ _ hw541_0; first | rwa [add_block] at this | exact this) GW547.out)) | (show (Addr.add _ _).block ≠ _; rw [add_block]; exact Nat.ne_of_lt (Nat.lt_of_lt_of_le (by have := World.block_lt_of_cell? _ _ hw541_0; first | rwa [add_block] at this | exact this) GW547.out)) | (dsimp only; exact Nat.ne_of_lt (Nat.lt_of_lt_of_le (by have := World.block_lt_of_cell? _ _ hw541_0; first | rwa [add_block] at this | exact this) GW547.out))) _).trans (((cell_far (p := ⟨gb547, _, none⟩) (by first | exact Nat.ne_of_lt (Nat.lt_of_lt_of_le (by have := World.block_lt_of_cell? _ _ hw541_0; first | rwa [add_block] at this | exact this) GW547.out) | (rw [add_block]; exact Nat.ne_of_lt (Nat.lt_of_lt_of_le (by have := World.block_lt_of_cell? _ _ hw541_0; first | rwa [add_block] at this | exact this) GW547.out)) | (show (Addr.add _ _).block ≠ _; rw [add_block]; exact Nat.ne_of_lt (Nat.lt_of_lt_of_le (by have := World.block_lt_of_cell? _ _ hw541_0; first | rwa [add_block] at this | exact this) GW547.out)) | (dsimp only; exact Nat.ne_of_lt (Nat.lt_of_lt_of_le (by have := World.block_lt_of_cell? _ _ hw541_0; first | rwa [add_block] at this | exact this) GW547.out))) _).trans (hHeld.1)))))))), ((cell_far (p := ⟨gb547, _, none⟩) (by first | exact Nat.ne_of_lt (Nat.lt_of_lt_of_le (by have := World.block_lt_of_cell? _ _ hw542_0; first | rwa [add_block] at this | exact this) GW547.out) | (rw [add_block]; exact Nat.ne_of_lt (Nat.lt_of_lt_of_le (by have := World.block_lt_of_cell? _ _ hw542_0; first | rwa [add_block] at this | exact this) GW547.out)) | (show (Addr.add _ _).block ≠ _; rw [add_block]; exact Nat.ne_of_lt (Nat.lt_of_lt_of_le (by have := World.block_lt_of_cell? _ _ hw542_0; first | rwa [add_block] at this | exact this) GW547.out)) | (dsimp only; exact Nat.ne_of_lt (Nat.lt_of_lt_of_le (by have := World.block_lt_of_cell? _ _ hw542_0; first | rwa [add_block] at this | exact this) GW547.out))) _).trans (((cell_far (p := ⟨gb547, _, none⟩) (by first | exact Nat.ne_of_lt (Nat.lt_of_lt_of_le (by have := World.block_lt_of_cell? _ _ hw542_0; first | rwa [add_block] at this | exact this) GW547.out) | (rw [add_block]; exact Nat.ne_of_lt (Nat.lt_of_lt_of_le (by have := World.block_lt_of_cell? _ _ hw542_0; first | rwa [add_block] at this | exact this) GW547.out)) | (show (Addr.add _ _).block ≠ _; rw [add_block]; exact Nat.ne_of_lt (Nat.lt_of_lt_of_le (by have := World.block_lt_of_cell? _ _ hw542_0; first | rwa [add_block] at this | exact this) GW547.out)) | (dsimp only; exact Nat.ne_of_lt (Nat.lt_of_lt_of_le (by have := World.block_lt_of_cell? _ _ hw542_0; first | rwa [add_block] at this | exact this) GW547.out))) _).trans (((cell_far (p := ⟨gb547, _, none⟩) (by first | exact Nat.ne_of_lt (Nat.lt_of_lt_of_le (by have := World.block_lt_of_cell? _ _ hw542_0; first | rwa [add_block] at this | exact this) GW547.out) | (rw [add_block]; exact Nat.ne_of_lt (Nat.lt_of_lt_of_le (by have := World.block_lt_of_cell? _ _ hw542_0; first | rwa [add_block] at this | exact this) GW547.out)) | (show (Addr.add _ _).block ≠ _; rw [add_block]; exact Nat.ne_of_lt (Nat.lt_of_lt_of_le (by have := World.block_lt_of_cell? _ _ hw542_0; first | rwa [add_block] at this | exact this) GW547.out)) | (dsimp only; exact Nat.ne_of_lt (Nat.lt_of_lt_of_le (by have := World.block_lt_of_cell? _ _ hw542_0; first | rwa [add_block] at this | exact this) GW547.out))) _).trans (((cell_far (p := ⟨gb547, _, none⟩) (by first | exact Nat.ne_of_lt (Nat.lt_of_lt_of_le (by have := World.block_lt_of_cell? _ _ hw542_0; first | rwa [add_block] at this | exact this) GW547.out) | (rw [add_block]; exact Nat.ne_of_lt (Nat.lt_of_lt_of_le (by have := World.block_lt_of_cell? _ _ hw542_0; first | rwa [add_block] at this | exact this) GW547.out)) | (show (Addr.add _ _).block ≠ _; rw [add_block]; exact Nat.ne_of_lt (Nat.lt_of_lt_of_le (by have := World.block_lt_of_cell? _ _ hw542_0; first | rwa [add_block] at this | exact this) GW547.out)) | (dsimp only; exact Nat.ne_of_lt (Nat.lt_of_lt_of_le (by have := World.block_lt_of_cell? _ _ hw542_0; first | rwa [add_block] at this | exact this) GW547.out))) _).trans (hHeld.2))))))))⟩ (fun hHeld => ?_)
       clear hK K
       refine done_ (done_of HT_.out (by kernel_rfl)) ?_
       have hnb27 := NB537_547.out
       have hnc27 := NB547_537.out
       have hcz28_0 : w22.cell? ⟨gb537, 0, none⟩ = some (u538000) := (blk_cell BK537.out 0).trans rfl
       have hcz28_1 : w22.cell? ⟨gb537, 1, none⟩ = some (u538001) := (blk_cell BK537.out 1).trans rfl
       have hfz28_0 := blk_frozen BK537.out 0
       have hfz28_1 := blk_frozen BK537.out 1
       have hcz29_0 : w22.cell? ⟨gb547, 0, none⟩ = some (.int .i64 0) := (blk_cell BK547.out 0).trans rfl
       have hcz29_1 : w22.cell? ⟨gb547, 1, none⟩ = some (.string (⟨#[]⟩ : ByteArray)) := (blk_cell BK547.out 1).trans rfl
       have hcz29_2 : w22.cell? ⟨gb547, 2, none⟩ = some (.string (⟨#[]⟩ : ByteArray)) := (blk_cell BK547.out 2).trans rfl
       have hcz29_3 : w22.cell? ⟨gb547, 3, none⟩ = some (.int .i64 0) := (blk_cell BK547.out 3).trans rfl
       have hfz29_0 := blk_frozen BK547.out 0
       have hfz29_1 := blk_frozen BK547.out 1
       have hfz29_2 := blk_frozen BK547.out 2
       have hfz29_3 := blk_frozen BK547.out 3
       obtain ⟨Ao30, co30, eo30⟩ := Kd.R_slice HO_538000.out
       subst eo30
       obtain ⟨Ao31, co31, eo31⟩ := Kd.R_slice HO_538001.out
       subst eo31
       try go_wp2_with (first | ((with_reducible refine gate_callee (f := 13) rfl ?_); refine goesL_ (some 39) rfl rfl Try.func13 (by kernel_rfl) rfl #[.agg #[.slice Ao30 x538000_1.length co30, .slice Ao31 x538001_1.length co31], .int .i64 2, .agg #[.int .i64 t543, .string t544, .string t545, .int .i64 t546]] rfl ar_ ?_; (with_reducible refine (deaddropref7_Do.calls k1 _ _ x538000_1 _ _ x538001_1 2 t543 t544 t545 t546 t548 t551 t554 _ ?side1 ?side2 ?side3 ?side4 A15.out).mono ?_); (case side1 => refine (Kd.R_reads' (e := 70) (base := w.heap.size) (ok := fun k_ => True) (n := x538000_1.length) (c := co30) ?_).2.2; exact (by (with_reducible repeat (first | apply Kd.R_alloc | apply Kd.R_drewN | apply Kd.R_drew)); exact (Kd.R_mono (Kd.R_far (p := ⟨gb547, 3, none⟩) (Kd.R_far (p := ⟨gb547, 2, none⟩) (Kd.R_far (p := ⟨gb547, 1, none⟩) (Kd.R_far (p := ⟨gb547, 0, none⟩) (Kd.R_types HO_538000.out BK547.out (by decide)) (fun _ hk => hk.2) (.int .i64 t543)) (fun _ hk => hk.2) (.string t544)) (fun _ hk => hk.2) (.string t545)) (fun _ hk => hk.2) (.int .i64 t546)) (fun _ h_ => h_.1)))); (case side2 => exact (Kd.R_reads' HO_538000.out).2.1); (case side3 => refine (Kd.R_reads' (e := 34) (base := w.heap.size) (ok := fun k_ => True) (n := x538001_1.length) (c := co31) ?_).2.2; exact (by (with_reducible repeat (first | apply Kd.R_alloc | apply Kd.R_drewN | apply Kd.R_drew)); exact (Kd.R_mono (Kd.R_far (p := ⟨gb547, 3, none⟩) (Kd.R_far (p := ⟨gb547, 2, none⟩) (Kd.R_far (p := ⟨gb547, 1, none⟩) (Kd.R_far (p := ⟨gb547, 0, none⟩) (Kd.R_types HO_538001.out BK547.out (by decide)) (fun _ hk => hk.2) (.int .i64 t543)) (fun _ hk => hk.2) (.string t544)) (fun _ hk => hk.2) (.string t545)) (fun _ hk => hk.2) (.int .i64 t546)) (fun _ h_ => h_.1)))); (case side4 => exact (Kd.R_reads' HO_538001.out).2.1); rintro e w32 ⟨v549, v552, rfl, ho0, ho1, hb⟩; refine ⟨_, rfl, ?_⟩; replace HO_6 := Aside0.mk (Kd.R_below (by (with_reducible repeat (first | apply Kd.R_alloc | apply Kd.R_drewN | apply Kd.R_drew)); exact (Kd.R_mono (Kd.R_far (p := ⟨gb547, 3, none⟩) (Kd.R_far (p := ⟨gb547, 2, none⟩) (Kd.R_far (p := ⟨gb547, 1, none⟩) (Kd.R_far (p := ⟨gb547, 0, none⟩) (Kd.R_types HO_6.out BK547.out (by decide)) (fun _ hk => hk.2) (.int .i64 t543)) (fun _ hk => hk.2) (.string t544)) (fun _ hk => hk.2) (.string t545)) (fun _ hk => hk.2) (.int .i64 t546)) (fun _ h_ => h_.1))) hb); have HO550 := Aside0.mk (Kd.R_lower (Kd.R_new' ho0 (Kd.R_lt (by (with_reducible repeat (first | apply Kd.R_alloc | apply Kd.R_drewN | apply Kd.R_drew)); exact (Kd.R_mono (Kd.R_far (p := ⟨gb547, 3, none⟩) (Kd.R_far (p := ⟨gb547, 2, none⟩) (Kd.R_far (p := ⟨gb547, 1, none⟩) (Kd.R_far (p := ⟨gb547, 0, none⟩) (Kd.R_types HO_538000.out BK547.out (by decide)) (fun _ hk => hk.2) (.int .i64 t543)) (fun _ hk => hk.2) (.string t544)) (fun _ hk => hk.2) (.string t545)) (fun _ hk => hk.2) (.int .i64 t546)) (fun _ h_ => h_.1))))) (below_size (bw2 HB.out GE537.out GE547.out))); replace HO_538000 := Aside0.mk (Kd.R_elder' (by (with_reducible repeat (first | apply Kd.R_alloc | apply Kd.R_drewN | apply Kd.R_drew)); exact (Kd.R_mono (Kd.R_far (p := ⟨gb547, 3, none⟩) (Kd.R_far (p := ⟨gb547, 2, none⟩) (Kd.R_far (p := ⟨gb547, 1, none⟩) (Kd.R_far (p := ⟨gb547, 0, none⟩) (Kd.R_types HO_538000.out BK547.out (by decide)) (fun _ hk => hk.2) (.int .i64 t543)) (fun _ hk => hk.2) (.string t544)) (fun _ hk => hk.2) (.string t545)) (fun _ hk => hk.2) (.int .i64 t546)) (fun _ h_ => h_.1))) (Kd.R_base ho0) hb); have HO553 := Aside0.mk (Kd.R_lower (Kd.R_new' ho1 (Kd.R_lt (by (with_reducible repeat (first | apply Kd.R_alloc | apply Kd.R_drewN | apply Kd.R_drew)); exact (Kd.R_mono (Kd.R_far (p := ⟨gb547, 3, none⟩) (Kd.R_far (p := ⟨gb547, 2, none⟩) (Kd.R_far (p := ⟨gb547, 1, none⟩) (Kd.R_far (p := ⟨gb547, 0, none⟩) (Kd.R_types HO_538001.out BK547.out (by decide)) (fun _ hk => hk.2) (.int .i64 t543)) (fun _ hk => hk.2) (.string t544)) (fun _ hk => hk.2) (.string t545)) (fun _ hk => hk.2) (.int .i64 t546)) (fun _ h_ => h_.1))))) (below_size (bw2 HB.out GE537.out GE547.out))); replace HO_538001 := Aside0.mk (Kd.R_elder' (by (with_reducible repeat (first | apply Kd.R_alloc | apply Kd.R_drewN | apply Kd.R_drew)); exact (Kd.R_mono (Kd.R_far (p := ⟨gb547, 3, none⟩) (Kd.R_far (p := ⟨gb547, 2, none⟩) (Kd.R_far (p := ⟨gb547, 1, none⟩) (Kd.R_far (p := ⟨gb547, 0, none⟩) (Kd.R_types HO_538001.out BK547.out (by decide)) (fun _ hk => hk.2) (.int .i64 t543)) (fun _ hk => hk.2) (.string t544)) (fun _ hk => hk.2) (.string t545)) (fun _ hk => hk.2) (.int .i64 t546)) (fun _ h_ => h_.1))) (Kd.R_base ho1) hb); replace BK537 := Aside0.mk (blk_below (g := gb537) (o := .cells #[.slice Ao30 x538000_1.length co30, .slice Ao31 x538001_1.length co31] 28 (0, 0)) (by (with_reducible repeat (first | refine blk_drewN ?_ _ | refine blk_drew ?_ | refine blk_alloc ?_ _)); refine blk_far ?_ NB537_547.out _; (with_reducible repeat (first | refine blk_drewN ?_ _ | refine blk_drew ?_ | refine blk_alloc ?_ _)); refine blk_far ?_ NB537_547.out _; (with_reducible repeat (first | refine blk_drewN ?_ _ | refine blk_drew ?_ | refine blk_alloc ?_ _)); refine blk_far ?_ NB537_547.out _; (with_reducible repeat (first | refine blk_drewN ?_ _ | refine blk_drew ?_ | refine blk_alloc ?_ _)); refine blk_far ?_ NB537_547.out _; (with_reducible repeat (first | refine blk_drewN ?_ _ | refine blk_drew ?_ | refine blk_alloc ?_ _)); exact BK537.out) hb); replace BK547 := Aside0.mk (blk_below (g := gb547) (o := .cells #[.int .i64 t543, .string t544, .string t545, .int .i64 t546] 40 (0, 0)) (by (with_reducible repeat (first | refine blk_drewN ?_ _ | refine blk_drew ?_ | refine blk_alloc ?_ _)); refine blk_put (cs := #[.int .i64 t543, .string t544, .string t545, .int .i64 0]) ?_ 3 _ rfl; (with_reducible repeat (first | refine blk_drewN ?_ _ | refine blk_drew ?_ | refine blk_alloc ?_ _)); refine blk_put (cs := #[.int .i64 t543, .string t544, .string (⟨#[]⟩ : ByteArray), .int .i64 0]) ?_ 2 _ rfl; (with_reducible repeat (first | refine blk_drewN ?_ _ | refine blk_drew ?_ | refine blk_alloc ?_ _)); refine blk_put (cs := #[.int .i64 t543, .string (⟨#[]⟩ : ByteArray), .string (⟨#[]⟩ : ByteArray), .int .i64 0]) ?_ 1 _ rfl; (with_reducible repeat (first | refine blk_drewN ?_ _ | refine blk_drew ?_ | refine blk_alloc ?_ _)); refine blk_put (cs := #[.int .i64 0, .string (⟨#[]⟩ : ByteArray), .string (⟨#[]⟩ : ByteArray), .int .i64 0]) ?_ 0 _ rfl; (with_reducible repeat (first | refine blk_drewN ?_ _ | refine blk_drew ?_ | refine blk_alloc ?_ _)); exact BK547.out) hb); replace HB := Aside0.mk (below_step (bw2 HB.out GE537.out GE547.out) hb); (try clear hb); (try clear hb2); (try clear hk); (try clear hi); (try clear ho0); (try clear ho1)) | ((with_reducible refine gate_dst (N := 9) rfl ?_); (try (refine gate_guard (by rfl) ?_; dsimp only)); refine box_event ?hg (N := 9) ?hd (cs := #[.slice none 0 0, .slice none 0 0, .int .i64 0]) (t := 43) ?hr ?_; (case hd => rfl); (case hg => rfl); (case hr => first | (go_simp; done) | (go_simp; rfl)); intro gb555 hg w33 hbox hb; replace HO_6 := Aside0.mk (Kd.R_below (rk HO_6.out) hb); replace HO_538000 := Aside0.mk (Kd.R_below (rk HO_538000.out) hb); replace HO_538001 := Aside0.mk (Kd.R_below (rk HO_538001.out) hb); replace HO550 := Aside0.mk (Kd.R_below (rk HO550.out) hb); replace HO553 := Aside0.mk (Kd.R_below (rk HO553.out) hb); have BK555 := Aside0.mk (hbox); have GW555 := Aside0.mk ((by rw [hg]; exact (below_size (bw2 HB.out GE537.out GE547.out)) : w.heap.size ≤ gb555)); have GE555 := Aside0.mk ((by rw [hg]; exact (below_size (bw2 HB.out GE537.out GE547.out)) : w.heap.size ≤ gb555)); replace HB := Aside0.mk (below_step (bw2 HB.out GE537.out GE547.out) hb); have NB537_555 := Aside0.mk ((by rw [hg]; exact Nat.ne_of_lt (blk_lt (g := gb537) (o := .cells #[.slice Ao30 x538000_1.length co30, .slice Ao31 x538001_1.length co31] 28 (0, 0)) (bk BK537.out)) : gb537 ≠ gb555)); have NB555_537 := Aside0.mk ((by rw [hg]; exact Nat.ne_of_gt (blk_lt (g := gb537) (o := .cells #[.slice Ao30 x538000_1.length co30, .slice Ao31 x538001_1.length co31] 28 (0, 0)) (bk BK537.out)) : gb555 ≠ gb537)); replace BK537 := Aside0.mk (blk_below (g := gb537) (o := .cells #[.slice Ao30 x538000_1.length co30, .slice Ao31 x538001_1.length co31] 28 (0, 0)) (bk BK537.out) hb); have NB547_555 := Aside0.mk ((by rw [hg]; exact Nat.ne_of_lt (blk_lt (g := gb547) (o := .cells #[.int .i64 t543, .string t544, .string t545, .int .i64 t546] 40 (0, 0)) (bk BK547.out)) : gb547 ≠ gb555)); have NB555_547 := Aside0.mk ((by rw [hg]; exact Nat.ne_of_gt (blk_lt (g := gb547) (o := .cells #[.int .i64 t543, .string t544, .string t545, .int .i64 t546] 40 (0, 0)) (bk BK547.out)) : gb555 ≠ gb547)); replace BK547 := Aside0.mk (blk_below (g := gb547) (o := .cells #[.int .i64 t543, .string t544, .string t545, .int .i64 t546] 40 (0, 0)) (bk BK547.out) hb); clear hb hbox hg; obtain ⟨Ao34, co34, eo34⟩ := Kd.R_slice HO550.out; subst eo34; have hnb35 := NB555_537.out; have hnc35 := NB537_555.out; have hnb36 := NB555_547.out; have hnc36 := NB547_555.out; have hcz37_0 : w33.cell? ⟨gb555, 0, none⟩ = some (.slice none 0 0) := (blk_cell BK555.out 0).trans rfl; have hcz37_1 : w33.cell? ⟨gb555, 1, none⟩ = some (.slice none 0 0) := (blk_cell BK555.out 1).trans rfl; have hcz37_2 : w33.cell? ⟨gb555, 2, none⟩ = some (.int .i64 0) := (blk_cell BK555.out 2).trans rfl; have hfz37_0 := blk_frozen BK555.out 0; have hfz37_1 := blk_frozen BK555.out 1; have hfz37_2 := blk_frozen BK555.out 2; obtain ⟨Ao38, co38, eo38⟩ := Kd.R_slice HO553.out; subst eo38; have hcz39_0 : w33.cell? ⟨gb537, 0, none⟩ = some (.slice Ao30 x538000_1.length co30) := (blk_cell BK537.out 0).trans rfl; have hcz39_1 : w33.cell? ⟨gb537, 1, none⟩ = some (.slice Ao31 x538001_1.length co31) := (blk_cell BK537.out 1).trans rfl; have hfz39_0 := blk_frozen BK537.out 0; have hfz39_1 := blk_frozen BK537.out 1) | ((with_reducible refine gate_callee (f := 8) rfl ?_); refine goesL_ (some 46) rfl rfl Try.func8 (by kernel_rfl) rfl #[.agg #[.slice Ao30 x538000_1.length co30, .slice Ao31 x538001_1.length co31], .agg #[.slice Ao34 t548.length co34, .slice Ao38 t551.length co38]] rfl ar_ ?_; (with_reducible refine (deaddropref7_Join.calls k1 _ _ x538000_1 _ _ x538001_1 _ _ t548 _ _ t551 t556 t559 _ ?side1 ?side2 ?side3 ?side4 ?side5 ?side6 ?side7 ?side8 A17.out).mono ?_); (case side1 => refine (Kd.R_reads' (e := 70) (base := w.heap.size) (ok := fun k_ => (True ∧ some k_ ≠ (.slice Ao34 t548.length co34 : Value).ownBlock)) (n := x538000_1.length) (c := co30) ?_).2.2; exact (by (with_reducible repeat (first | apply Kd.R_alloc | apply Kd.R_drewN | apply Kd.R_drew)); exact (Kd.R_mono (Kd.R_far (p := ⟨gb555, 2, none⟩) (Kd.R_far (p := ⟨gb555, 1, none⟩) (Kd.R_far (p := ⟨gb555, 0, none⟩) (Kd.R_types HO_538000.out BK555.out (by decide)) (fun _ hk => hk.2) (.slice Ao34 t548.length co34)) (fun _ hk => hk.2) (.slice Ao38 t551.length co38)) (fun _ hk => hk.2) (.int .i64 t554)) (fun _ h_ => h_.1)))); (case side2 => exact (Kd.R_reads' HO_538000.out).2.1); (case side3 => refine (Kd.R_reads' (e := 34) (base := w.heap.size) (ok := fun k_ => (True ∧ some k_ ≠ (.slice Ao38 t551.length co38 : Value).ownBlock)) (n := x538001_1.length) (c := co31) ?_).2.2; exact (by (with_reducible repeat (first | apply Kd.R_alloc | apply Kd.R_drewN | apply Kd.R_drew)); exact (Kd.R_mono (Kd.R_far (p := ⟨gb555, 2, none⟩) (Kd.R_far (p := ⟨gb555, 1, none⟩) (Kd.R_far (p := ⟨gb555, 0, none⟩) (Kd.R_types HO_538001.out BK555.out (by decide)) (fun _ hk => hk.2) (.slice Ao34 t548.length co34)) (fun _ hk => hk.2) (.slice Ao38 t551.length co38)) (fun _ hk => hk.2) (.int .i64 t554)) (fun _ h_ => h_.1)))); (case side4 => exact (Kd.R_reads' HO_538001.out).2.1); (case side5 => refine (Kd.R_reads' (e := 70) (base := w.heap.size) (ok := fun k_ => (True ∧ some k_ ≠ (.slice Ao30 x538000_1.length co30 : Value).ownBlock)) (n := t548.length) (c := co34) ?_).2.2; exact (by (with_reducible repeat (first | apply Kd.R_alloc | apply Kd.R_drewN | apply Kd.R_drew)); exact (Kd.R_mono (Kd.R_far (p := ⟨gb555, 2, none⟩) (Kd.R_far (p := ⟨gb555, 1, none⟩) (Kd.R_far (p := ⟨gb555, 0, none⟩) (Kd.R_types HO550.out BK555.out (by decide)) (fun _ hk => hk.2) (.slice Ao34 t548.length co34)) (fun _ hk => hk.2) (.slice Ao38 t551.length co38)) (fun _ hk => hk.2) (.int .i64 t554)) (fun _ h_ => h_.1)))); (case side6 => exact (Kd.R_reads' HO550.out).2.1); (case side7 => refine (Kd.R_reads' (e := 34) (base := w.heap.size) (ok := fun k_ => (True ∧ some k_ ≠ (.slice Ao31 x538001_1.length co31 : Value).ownBlock)) (n := t551.length) (c := co38) ?_).2.2; exact (by (with_reducible repeat (first | apply Kd.R_alloc | apply Kd.R_drewN | apply Kd.R_drew)); exact (Kd.R_mono (Kd.R_far (p := ⟨gb555, 2, none⟩) (Kd.R_far (p := ⟨gb555, 1, none⟩) (Kd.R_far (p := ⟨gb555, 0, none⟩) (Kd.R_types HO553.out BK555.out (by decide)) (fun _ hk => hk.2) (.slice Ao34 t548.length co34)) (fun _ hk => hk.2) (.slice Ao38 t551.length co38)) (fun _ hk => hk.2) (.int .i64 t554)) (fun _ h_ => h_.1)))); (case side8 => exact (Kd.R_reads' HO553.out).2.1); rintro e w40 ⟨v557, v560, rfl, ho0, ho1, hb⟩; refine ⟨_, rfl, ?_⟩; replace HO_6 := Aside0.mk (Kd.R_below (by (with_reducible repeat (first | apply Kd.R_alloc | apply Kd.R_drewN | apply Kd.R_drew)); exact (Kd.R_mono (Kd.R_far (p := ⟨gb555, 2, none⟩) (Kd.R_far (p := ⟨gb555, 1, none⟩) (Kd.R_far (p := ⟨gb555, 0, none⟩) (Kd.R_types HO_6.out BK555.out (by decide)) (fun _ hk => hk.2) (.slice Ao34 t548.length co34)) (fun _ hk => hk.2) (.slice Ao38 t551.length co38)) (fun _ hk => hk.2) (.int .i64 t554)) (fun _ h_ => h_.1))) hb); have HO558 := Aside0.mk (Kd.R_lower (Kd.R_new' (Kd.R_new' ho0 (Kd.R_lt (by (with_reducible repeat (first | apply Kd.R_alloc | apply Kd.R_drewN | apply Kd.R_drew)); exact (Kd.R_mono (Kd.R_far (p := ⟨gb555, 2, none⟩) (Kd.R_far (p := ⟨gb555, 1, none⟩) (Kd.R_far (p := ⟨gb555, 0, none⟩) (Kd.R_types HO_538000.out BK555.out (by decide)) (fun _ hk => hk.2) (.slice Ao34 t548.length co34)) (fun _ hk => hk.2) (.slice Ao38 t551.length co38)) (fun _ hk => hk.2) (.int .i64 t554)) (fun _ h_ => h_.1))))) (Kd.R_lt (by (with_reducible repeat (first | apply Kd.R_alloc | apply Kd.R_drewN | apply Kd.R_drew)); exact (Kd.R_mono (Kd.R_far (p := ⟨gb555, 2, none⟩) (Kd.R_far (p := ⟨gb555, 1, none⟩) (Kd.R_far (p := ⟨gb555, 0, none⟩) (Kd.R_types HO550.out BK555.out (by decide)) (fun _ hk => hk.2) (.slice Ao34 t548.length co34)) (fun _ hk => hk.2) (.slice Ao38 t551.length co38)) (fun _ hk => hk.2) (.int .i64 t554)) (fun _ h_ => h_.1))))) (below_size (bw3 HB.out GE537.out GE547.out GE555.out))); replace HO_538000 := Aside0.mk (Kd.R_elder' (by (with_reducible repeat (first | apply Kd.R_alloc | apply Kd.R_drewN | apply Kd.R_drew)); exact (Kd.R_mono (Kd.R_far (p := ⟨gb555, 2, none⟩) (Kd.R_far (p := ⟨gb555, 1, none⟩) (Kd.R_far (p := ⟨gb555, 0, none⟩) (Kd.R_types HO_538000.out BK555.out (by decide)) (fun _ hk => hk.2) (.slice Ao34 t548.length co34)) (fun _ hk => hk.2) (.slice Ao38 t551.length co38)) (fun _ hk => hk.2) (.int .i64 t554)) (fun _ h_ => h_.1))) (Kd.R_base ho0) hb); replace HO550 := Aside0.mk (Kd.R_elder' (by (with_reducible repeat (first | apply Kd.R_alloc | apply Kd.R_drewN | apply Kd.R_drew)); exact (Kd.R_mono (Kd.R_far (p := ⟨gb555, 2, none⟩) (Kd.R_far (p := ⟨gb555, 1, none⟩) (Kd.R_far (p := ⟨gb555, 0, none⟩) (Kd.R_types HO550.out BK555.out (by decide)) (fun _ hk => hk.2) (.slice Ao34 t548.length co34)) (fun _ hk => hk.2) (.slice Ao38 t551.length co38)) (fun _ hk => hk.2) (.int .i64 t554)) (fun _ h_ => h_.1))) (Kd.R_base ho0) hb); have HO561 := Aside0.mk (Kd.R_lower (Kd.R_new' (Kd.R_new' ho1 (Kd.R_lt (by (with_reducible repeat (first | apply Kd.R_alloc | apply Kd.R_drewN | apply Kd.R_drew)); exact (Kd.R_mono (Kd.R_far (p := ⟨gb555, 2, none⟩) (Kd.R_far (p := ⟨gb555, 1, none⟩) (Kd.R_far (p := ⟨gb555, 0, none⟩) (Kd.R_types HO_538001.out BK555.out (by decide)) (fun _ hk => hk.2) (.slice Ao34 t548.length co34)) (fun _ hk => hk.2) (.slice Ao38 t551.length co38)) (fun _ hk => hk.2) (.int .i64 t554)) (fun _ h_ => h_.1))))) (Kd.R_lt (by (with_reducible repeat (first | apply Kd.R_alloc | apply Kd.R_drewN | apply Kd.R_drew)); exact (Kd.R_mono (Kd.R_far (p := ⟨gb555, 2, none⟩) (Kd.R_far (p := ⟨gb555, 1, none⟩) (Kd.R_far (p := ⟨gb555, 0, none⟩) (Kd.R_types HO553.out BK555.out (by decide)) (fun _ hk => hk.2) (.slice Ao34 t548.length co34)) (fun _ hk => hk.2) (.slice Ao38 t551.length co38)) (fun _ hk => hk.2) (.int .i64 t554)) (fun _ h_ => h_.1))))) (below_size (bw3 HB.out GE537.out GE547.out GE555.out))); replace HO_538001 := Aside0.mk (Kd.R_elder' (by (with_reducible repeat (first | apply Kd.R_alloc | apply Kd.R_drewN | apply Kd.R_drew)); exact (Kd.R_mono (Kd.R_far (p := ⟨gb555, 2, none⟩) (Kd.R_far (p := ⟨gb555, 1, none⟩) (Kd.R_far (p := ⟨gb555, 0, none⟩) (Kd.R_types HO_538001.out BK555.out (by decide)) (fun _ hk => hk.2) (.slice Ao34 t548.length co34)) (fun _ hk => hk.2) (.slice Ao38 t551.length co38)) (fun _ hk => hk.2) (.int .i64 t554)) (fun _ h_ => h_.1))) (Kd.R_base ho1) hb); replace HO553 := Aside0.mk (Kd.R_elder' (by (with_reducible repeat (first | apply Kd.R_alloc | apply Kd.R_drewN | apply Kd.R_drew)); exact (Kd.R_mono (Kd.R_far (p := ⟨gb555, 2, none⟩) (Kd.R_far (p := ⟨gb555, 1, none⟩) (Kd.R_far (p := ⟨gb555, 0, none⟩) (Kd.R_types HO553.out BK555.out (by decide)) (fun _ hk => hk.2) (.slice Ao34 t548.length co34)) (fun _ hk => hk.2) (.slice Ao38 t551.length co38)) (fun _ hk => hk.2) (.int .i64 t554)) (fun _ h_ => h_.1))) (Kd.R_base ho1) hb); replace BK537 := Aside0.mk (blk_below (g := gb537) (o := .cells #[.slice Ao30 x538000_1.length co30, .slice Ao31 x538001_1.length co31] 28 (0, 0)) (by (with_reducible repeat (first | refine blk_drewN ?_ _ | refine blk_drew ?_ | refine blk_alloc ?_ _)); refine blk_far ?_ NB537_555.out _; (with_reducible repeat (first | refine blk_drewN ?_ _ | refine blk_drew ?_ | refine blk_alloc ?_ _)); refine blk_far ?_ NB537_555.out _; (with_reducible repeat (first | refine blk_drewN ?_ _ | refine blk_drew ?_ | refine blk_alloc ?_ _)); refine blk_far ?_ NB537_555.out _; (with_reducible repeat (first | refine blk_drewN ?_ _ | refine blk_drew ?_ | refine blk_alloc ?_ _)); exact BK537.out) hb); replace BK547 := Aside0.mk (blk_below (g := gb547) (o := .cells #[.int .i64 t543, .string t544, .string t545, .int .i64 t546] 40 (0, 0)) (by (with_reducible repeat (first | refine blk_drewN ?_ _ | refine blk_drew ?_ | refine blk_alloc ?_ _)); refine blk_far ?_ NB547_555.out _; (with_reducible repeat (first | refine blk_drewN ?_ _ | refine blk_drew ?_ | refine blk_alloc ?_ _)); refine blk_far ?_ NB547_555.out _; (with_reducible repeat (first | refine blk_drewN ?_ _ | refine blk_drew ?_ | refine blk_alloc ?_ _)); refine blk_far ?_ NB547_555.out _; (with_reducible repeat (first | refine blk_drewN ?_ _ | refine blk_drew ?_ | refine blk_alloc ?_ _)); exact BK547.out) hb); replace BK555 := Aside0.mk (blk_below (g := gb555) (o := .cells #[.slice Ao34 t548.length co34, .slice Ao38 t551.length co38, .int .i64 t554] 43 (0, 0)) (by (with_reducible repeat (first | refine blk_drewN ?_ _ | refine blk_drew ?_ | refine blk_alloc ?_ _)); refine blk_put (cs := #[.slice Ao34 t548.length co34, .slice Ao38 t551.length co38, .int .i64 0]) ?_ 2 _ rfl; (with_reducible repeat (first | refine blk_drewN ?_ _ | refine blk_drew ?_ | refine blk_alloc ?_ _)); refine blk_put (cs := #[.slice Ao34 t548.length co34, .slice none 0 0, .int .i64 0]) ?_ 1 _ rfl; (with_reducible repeat (first | refine blk_drewN ?_ _ | refine blk_drew ?_ | refine blk_alloc ?_ _)); refine blk_put (cs := #[.slice none 0 0, .slice none 0 0, .int .i64 0]) ?_ 0 _ rfl; (with_reducible repeat (first | refine blk_drewN ?_ _ | refine blk_drew ?_ | refine blk_alloc ?_ _)); exact BK555.out) hb); replace HB := Aside0.mk (below_step (bw3 HB.out GE537.out GE547.out GE555.out) hb); (try clear hb); (try clear hb2); (try clear hk); (try clear hi); (try clear ho0); (try clear ho1); obtain ⟨Ao41, co41, eo41⟩ := Kd.R_slice HO558.out; subst eo41; have hcz42_0 : w40.cell? ⟨gb537, 0, none⟩ = some (.slice Ao30 x538000_1.length co30) := (blk_cell BK537.out 0).trans rfl; have hcz42_1 : w40.cell? ⟨gb537, 1, none⟩ = some (.slice Ao31 x538001_1.length co31) := (blk_cell BK537.out 1).trans rfl; have hfz42_0 := blk_frozen BK537.out 0; have hfz42_1 := blk_frozen BK537.out 1; obtain ⟨Ao43, co43, eo43⟩ := Kd.R_slice HO561.out; subst eo43; have hcz44_0 : w40.cell? ⟨gb547, 0, none⟩ = some (.int .i64 t543) := (blk_cell BK547.out 0).trans rfl; have hcz44_1 : w40.cell? ⟨gb547, 1, none⟩ = some (.string t544) := (blk_cell BK547.out 1).trans rfl; have hcz44_2 : w40.cell? ⟨gb547, 2, none⟩ = some (.string t545) := (blk_cell BK547.out 2).trans rfl; have hcz44_3 : w40.cell? ⟨gb547, 3, none⟩ = some (.int .i64 t546) := (blk_cell BK547.out 3).trans rfl; have hfz44_0 := blk_frozen BK547.out 0; have hfz44_1 := blk_frozen BK547.out 1; have hfz44_2 := blk_frozen BK547.out 2; have hfz44_3 := blk_frozen BK547.out 3))
       go_roundg k1
       case measure => have := HK1.out; omega
       case rel => exact ⟨(t545), (x5_1), (x6_1), (wrap64 (x7_1 + 2)), (t556), (t559), (.slice Ao41 t556.length co41), (.slice Ao43 t559.length co43), ok_, ok_, ok_, H', ⟨by have := HK1.out; omega⟩, ⟨by (with_reducible repeat (first | apply Kd.R_alloc | apply Kd.R_drewN | apply Kd.R_drew)); exact Kd.R_mono (Kd.R_far (p := ⟨gb537, 1, none⟩) (Kd.R_far (p := ⟨gb537, 0, none⟩) (Kd.R_types HO_6.out BK537.out (by decide)) (fun _ hk => hk.2) (.slice Ao41 t556.length co41)) (fun _ hk => hk.2) (.slice Ao43 t559.length co43)) (fun _ hk => trivial)⟩, ⟨by (with_reducible repeat (first | apply Kd.R_alloc | apply Kd.R_drewN | apply Kd.R_drew)); exact Kd.R_mono (Kd.R_far (p := ⟨gb537, 1, none⟩) (Kd.R_far (p := ⟨gb537, 0, none⟩) (Kd.R_types HO558.out BK537.out (by decide)) (fun _ hk => hk.2) (.slice Ao41 t556.length co41)) (fun _ hk => hk.2) (.slice Ao43 t559.length co43)) (fun _ hk => trivial)⟩, ⟨by (with_reducible repeat (first | apply Kd.R_alloc | apply Kd.R_drewN | apply Kd.R_drew)); exact Kd.R_mono (Kd.R_far (p := ⟨gb537, 1, none⟩) (Kd.R_far (p := ⟨gb537, 0, none⟩) (Kd.R_types HO561.out BK537.out (by decide)) (fun _ hk => hk.2) (.slice Ao41 t556.length co41)) (fun _ hk => hk.2) (.slice Ao43 t559.length co43)) (fun _ hk => trivial)⟩, ⟨by (with_reducible repeat (first | refine blk_drewN ?_ _ | refine blk_drew ?_ | refine blk_alloc ?_ _)); refine blk_put (cs := #[.slice Ao41 t556.length co41, .slice Ao31 x538001_1.length co31]) ?_ 1 _ rfl; (with_reducible repeat (first | refine blk_drewN ?_ _ | refine blk_drew ?_ | refine blk_alloc ?_ _)); refine blk_put (cs := #[.slice Ao30 x538000_1.length co30, .slice Ao31 x538001_1.length co31]) ?_ 0 _ rfl; (with_reducible repeat (first | refine blk_drewN ?_ _ | refine blk_drew ?_ | refine blk_alloc ?_ _)); exact BK537.out⟩, ⟨by repeat (first | (with_reducible first | exact HB.out | apply below_alloc | apply pw_below_drewN | apply below_drew1 | refine below_set ?_ GE537.out | refine below_set ?_ GE547.out | refine below_set ?_ GE555.out) | exact HB.out)⟩⟩
      ·
       rw [if_neg c18] at H
       have c18b0 : (t543 == 1) = false := beq_eq_false_iff_ne.mpr c18
       have c18b1 : (t543 != 1) = true := bne_iff_ne.mpr c18
       have HC45 := Aside0.mk H
       clear H
       try go_wp2
       replace HO_6 := Aside0.mk (Kd.R_drew HO_6.out)
       replace HO_538000 := Aside0.mk (Kd.R_drew HO_538000.out)
       replace HO_538001 := Aside0.mk (Kd.R_drew HO_538001.out)
       replace BK537 := Aside0.mk (blk_drew BK537.out)
       replace HB := Aside0.mk (below_drew1 HB.out)
       have p541 : 0 ≤ (x7_1 : Int) := of_decide_eq_true as_
       have q541 : x7_1 < (l0.length : Int) := of_decide_eq_true as_
       obtain ⟨ad541, e541, hx541_0⟩ := Kd.at_int HR0.out x7_1 p541 q541
       have hw541_0 := hx541_0
       cases e541
       replace hx541_0 := (HB.out.cell (World.block_lt_of_cell? w _ hx541_0)).trans hx541_0
       replace p541 := eq_true p541
       replace q541 := eq_true q541
       have p542 : 0 ≤ ((ji12) : Int) := of_decide_eq_true as_
       have q542 : (ji12) < (l0.length : Int) := of_decide_eq_true as_
       obtain ⟨ad542, e542, hx542_0⟩ := Kd.at_int HR0.out (ji12) p542 q542
       have hw542_0 := hx542_0
       obtain rfl : ad541 = ad542 := (by injection e542)
       replace hx542_0 := (HB.out.cell (World.block_lt_of_cell? w _ hx542_0)).trans hx542_0
       replace p542 := eq_true p542
       replace q542 := eq_true q542
       refine start_ (n := 13) (S := fun w' => w'.cell? (ad541.add (x7_1).toNat) = some (.int .u8 (rd l0 x7_1)) ∧ w'.cell? (ad541.add ((ji12)).toNat) = some (.int .u8 (rd l0 (ji12)))) (ds := []) (fl 0 13) (by kernel_rfl) rfl rfl ⟨(bc HB.out hw541_0), (bc HB.out hw542_0)⟩ (fun hHeld => ?_); refine with_tabW deaddroplaw10_ReadAlone.tab9 deaddroplaw10_ReadAlone.bits9 (fun HT_ HW_ => ?_)
       generalize wr.drew = w46 at HO_6 HO_538000 HO_538001 BK537 HB hx541_0 hx542_0 hHeld ⊢
       refine pure_ (i := 0) (N := some 26) (fl 1 13) rfl rfl (any_of HT_.out (by kernel_rfl)) (fun _ _ _ h => h) (Or.inl ⟨by rfl, py⟩) pa ?_
       refine pure_ (i := 1) (N := some 27) (fl 2 13) rfl rfl (any_of HT_.out (by kernel_rfl)) (fun _ _ _ h => h) (Or.inl ⟨by rfl, py⟩) pa ?_
       refine pure_ (i := 2) (N := some 28) (fl 3 13) rfl rfl (any_of HT_.out (by kernel_rfl)) (fun _ _ _ h => h) (Or.inl ⟨by rfl, py⟩) pa ?_
       refine pure_ (i := 5) (N := some 31) #[true, true, true, false, false, true, false, false, false, false, false, false, false] rfl rfl (any_of HT_.out (by kernel_rfl)) (fun _ _ _ h => h) (Or.inl ⟨by rfl, py⟩) pa ?_
       refine pure_ (i := 6) (N := some 32) #[true, true, true, false, false, true, true, false, false, false, false, false, false] rfl rfl (any_of HT_.out (by kernel_rfl)) (fun _ _ _ h => h) (Or.inl ⟨by rfl, py⟩) pa ?_
       refine pure_ (i := 7) (N := some 33) #[true, true, true, false, false, true, true, true, false, false, false, false, false] rfl rfl (any_of HT_.out (by kernel_rfl)) (fun _ _ _ h => h) (Or.inl ⟨by rfl, py⟩) pa ?_
       refine pure_ (i := 8) (N := some 34) #[true, true, true, false, false, true, true, true, true, false, false, false, false] rfl rfl (any_of HT_.out (by kernel_rfl)) (fun _ _ _ h => h) (Or.inl ⟨by rfl, py⟩) pa ?_
       refine take_ (i := 3) (N := some 29) (v := ?_) (a' := ?_) #[true, true, true, true, false, true, true, true, true, false, false, false, false] rfl rfl (take_ofW HT_.out HW_.out (by kernel_rfl)) (fun _ _ _ h => h) (Or.inl ⟨by rfl, ?_⟩) hHeld ?_ ?_
       rotate_left
       ·
        rintro w' ⟨s0, s1⟩
        go_simp
        with_reducible rfl
       rotate_left
       ·
        simp only [Act.put, List.setIfInBounds_toArray, List.set_cons_zero, List.set_cons_succ, i64_w, i32_w]
        rfl
       refine pure_ (i := 4) (N := some 30) (fl 9 13) rfl rfl (any_of HT_.out (by kernel_rfl)) (fun _ _ _ h => h) (Or.inl ⟨by rfl, py⟩) pa ?_
       refine take_ (i := 9) (N := some 35) (v := ?_) (a' := ?_) (fl 10 13) rfl rfl (take_ofW HT_.out HW_.out (by kernel_rfl)) (fun _ _ _ h => h) (Or.inl ⟨by rfl, ?_⟩) hHeld ?_ ?_
       rotate_left
       ·
        rintro w' ⟨s0, s1⟩
        go_simp
        with_reducible rfl
       rotate_left
       ·
        simp only [Act.put, List.setIfInBounds_toArray, List.set_cons_zero, List.set_cons_succ, i64_w, i32_w]
        rfl
       refine join_ (σ := Nat) 1 (fl 12 13) (fun s_ => [(36, .agg #[.int .i64 t543, .string t544, .string t545, .int .i64 t546]), (8, .pointer (some ⟨s_, 0, none⟩))]) (fun s_ w' => (w'.cell? (ad541.add (x7_1).toNat) = some (.int .u8 (rd l0 x7_1)) ∧ w'.cell? (ad541.add ((ji12)).toNat) = some (.int .u8 (rd l0 (ji12)))) ∧ (Kd.R k70 70 w' w.heap.size (fun _ => True) u538000 x538000_1) ∧ (Kd.R k34 34 w' w.heap.size (fun _ => True) u538001 x538001_1) ∧ (Kd.R Kd.bool 4 w' w.heap.size (fun _ => True) u6 x6_1) ∧ (w'.heap[gb537]? = some (.cells #[u538000, u538001] 28 (0, 0))) ∧ (w'.heap[s_]? = some (.cells #[.int .i64 0, .string (⟨#[]⟩ : ByteArray), .string (⟨#[]⟩ : ByteArray), .int .i64 0] 40 (0, 0))) ∧ (w.heap.size ≤ s_) ∧ (w.heap.size ≤ s_) ∧ (gb537 ≠ s_) ∧ (s_ ≠ gb537) ∧ (Below w.heap.size w w')) ?_ ?_
       rotate_left
       ·
        intro hCont
        refine two_ (i := 10) (j := 11) (Ni := some 36) (Nj := some 8) (fl 11 13) #[true, true, true, true, true, true, true, true, true, true, false, true, false] rfl rfl rfl rfl (two_of HT_.out (by kernel_rfl)) (by decide) (by decide) (fun K hK => ?_) (fun K hK => ?_)
        ·
         skip
         refine goes_ Try.func12 (by kernel_rfl) rfl #[.int .u8 (Int.tmod (rd l0 x7_1) 5), .int .u8 (rd l0 (ji12))] (by rfl) rfl rfl (by (try simp only [List.map_toArray, List.map_cons, List.map_nil]); first | done | (simp only [hji12]; rfl) | rfl | (simp only [List.length_drop, List.length_take]; rfl)) ?_
         with_reducible refine (deaddroplaw8_Op.calls (Int.tmod (rd l0 x7_1) 5) (rd l0 (ji12)) t543 t544 t545 t546 _ A14.out).mono ?_
         rintro e w47 ⟨rfl, hb⟩
         refine ⟨_, rfl, ?_⟩
         replace HO_6 := Aside0.mk (Kd.R_below (rk HO_6.out) hb)
         replace HO_538000 := Aside0.mk (Kd.R_below (rk HO_538000.out) hb)
         replace HO_538001 := Aside0.mk (Kd.R_below (rk HO_538001.out) hb)
         replace BK537 := Aside0.mk (blk_below (g := gb537) (o := .cells #[u538000, u538001] 28 (0, 0)) (bk BK537.out) hb)
         replace HB := Aside0.mk (below_step (bw1 HB.out GE537.out) hb)
         (try clear hb)
         (try clear hb2)
         (try clear hk)
         (try clear hi)
         refine hK.out _ _ ⟨(bc HB.out hw541_0), (bc HB.out hw542_0)⟩ (fun hHeld => ?_)
         clear hK K
         refine norm_ (a' := ?_) ?_ ?_
         rotate_left
         ·
          show Act.put _ (some 36) _ = _
          simp only [Act.put, List.setIfInBounds_toArray, List.set_cons_zero, List.set_cons_succ, i64_w, i32_w]
          rfl
         refine one_ (i := 11) (N := some 8) (fl 12 13) rfl rfl (one_of HT_.out (by kernel_rfl)) (by decide) (fun K hK => ?_)
         refine box_step ?hg (N := 8) ?hd (cs := #[.int .i64 0, .string (⟨#[]⟩ : ByteArray), .string (⟨#[]⟩ : ByteArray), .int .i64 0]) (t := 40) ?hr ?_; (case hd => rfl); (case hg => rfl); (case hr => first | (go_simp; done) | (go_simp; rfl))
         intro gb547 hg w48 hbox hb
         replace HO_6 := Aside0.mk (Kd.R_below (rk HO_6.out) hb)
         replace HO_538000 := Aside0.mk (Kd.R_below (rk HO_538000.out) hb)
         replace HO_538001 := Aside0.mk (Kd.R_below (rk HO_538001.out) hb)
         have BK547 := Aside0.mk (hbox)
         have GW547 := Aside0.mk ((by rw [hg]; exact (below_size (bw1 HB.out GE537.out)) : w.heap.size ≤ gb547))
         have GE547 := Aside0.mk ((by rw [hg]; exact (below_size (bw1 HB.out GE537.out)) : w.heap.size ≤ gb547))
         replace HB := Aside0.mk (below_step (bw1 HB.out GE537.out) hb)
         have NB537_547 := Aside0.mk ((by rw [hg]; exact Nat.ne_of_lt (blk_lt (g := gb537) (o := .cells #[u538000, u538001] 28 (0, 0)) (bk BK537.out)) : gb537 ≠ gb547))
         have NB547_537 := Aside0.mk ((by rw [hg]; exact Nat.ne_of_gt (blk_lt (g := gb537) (o := .cells #[u538000, u538001] 28 (0, 0)) (bk BK537.out)) : gb547 ≠ gb537))
         replace BK537 := Aside0.mk (blk_below (g := gb537) (o := .cells #[u538000, u538001] 28 (0, 0)) (bk BK537.out) hb)
         clear hb hbox hg
         refine hK.out _ _ ⟨(bc HB.out hw541_0), (bc HB.out hw542_0)⟩ (fun hHeld => ?_)
         clear hK K
         refine norm_ (a' := ?_) ?_ ?_
         rotate_left
         ·
          show Act.put _ (some 8) _ = _
          simp only [Act.put, List.setIfInBounds_toArray, List.set_cons_zero, List.set_cons_succ, i64_w, i32_w]
          rfl
         exact norm_ (by simp only [putAll, Act.put, List.setIfInBounds_toArray, List.set_cons_zero, List.set_cons_succ]) (hCont (gb547) _ ⟨hHeld, (rk HO_538000.out), (rk HO_538001.out), (rk HO_6.out), (bk BK537.out), (bk BK547.out), GW547.out, GE547.out, NB537_547.out, NB547_537.out, (bw2 HB.out GE537.out GE547.out)⟩)
        ·
         skip
         refine box_step ?hg (N := 8) ?hd (cs := #[.int .i64 0, .string (⟨#[]⟩ : ByteArray), .string (⟨#[]⟩ : ByteArray), .int .i64 0]) (t := 40) ?hr ?_; (case hd => rfl); (case hg => rfl); (case hr => first | (go_simp; done) | (go_simp; rfl))
         intro gb547 hg w47 hbox hb
         replace HO_6 := Aside0.mk (Kd.R_below (rk HO_6.out) hb)
         replace HO_538000 := Aside0.mk (Kd.R_below (rk HO_538000.out) hb)
         replace HO_538001 := Aside0.mk (Kd.R_below (rk HO_538001.out) hb)
         have BK547 := Aside0.mk (hbox)
         have GW547 := Aside0.mk ((by rw [hg]; exact (below_size (bw1 HB.out GE537.out)) : w.heap.size ≤ gb547))
         have GE547 := Aside0.mk ((by rw [hg]; exact (below_size (bw1 HB.out GE537.out)) : w.heap.size ≤ gb547))
         replace HB := Aside0.mk (below_step (bw1 HB.out GE537.out) hb)
         have NB537_547 := Aside0.mk ((by rw [hg]; exact Nat.ne_of_lt (blk_lt (g := gb537) (o := .cells #[u538000, u538001] 28 (0, 0)) (bk BK537.out)) : gb537 ≠ gb547))
         have NB547_537 := Aside0.mk ((by rw [hg]; exact Nat.ne_of_gt (blk_lt (g := gb537) (o := .cells #[u538000, u538001] 28 (0, 0)) (bk BK537.out)) : gb547 ≠ gb537))
         replace BK537 := Aside0.mk (blk_below (g := gb537) (o := .cells #[u538000, u538001] 28 (0, 0)) (bk BK537.out) hb)
         clear hb hbox hg
         refine hK.out _ _ ⟨(bc HB.out hw541_0), (bc HB.out hw542_0)⟩ (fun hHeld => ?_)
         clear hK K
         refine norm_ (a' := ?_) ?_ ?_
         rotate_left
         ·
          show Act.put _ (some 8) _ = _
          simp only [Act.put, List.setIfInBounds_toArray, List.set_cons_zero, List.set_cons_succ, i64_w, i32_w]
          rfl
         refine one_ (i := 10) (N := some 36) (fl 12 13) rfl rfl (one_of HT_.out (by kernel_rfl)) (by decide) (fun K hK => ?_)
         refine goes_ Try.func12 (by kernel_rfl) rfl #[.int .u8 (Int.tmod (rd l0 x7_1) 5), .int .u8 (rd l0 (ji12))] (by rfl) rfl rfl (by (try simp only [List.map_toArray, List.map_cons, List.map_nil]); first | done | (simp only [hji12]; rfl) | rfl | (simp only [List.length_drop, List.length_take]; rfl)) ?_
         with_reducible refine (deaddroplaw8_Op.calls (Int.tmod (rd l0 x7_1) 5) (rd l0 (ji12)) t543 t544 t545 t546 _ A14.out).mono ?_
         rintro e w48 ⟨rfl, hb⟩
         refine ⟨_, rfl, ?_⟩
         replace HO_6 := Aside0.mk (Kd.R_below (rk HO_6.out) hb)
         replace HO_538000 := Aside0.mk (Kd.R_below (rk HO_538000.out) hb)
         replace HO_538001 := Aside0.mk (Kd.R_below (rk HO_538001.out) hb)
         replace BK537 := Aside0.mk (blk_below (g := gb537) (o := .cells #[u538000, u538001] 28 (0, 0)) (bk BK537.out) hb)
         replace BK547 := Aside0.mk (blk_below (g := gb547) (o := .cells #[.int .i64 0, .string (⟨#[]⟩ : ByteArray), .string (⟨#[]⟩ : ByteArray), .int .i64 0] 40 (0, 0)) (bk BK547.out) hb)
         replace HB := Aside0.mk (below_step (bw2 HB.out GE537.out GE547.out) hb)
         (try clear hb)
         (try clear hb2)
         (try clear hk)
         (try clear hi)
         refine hK.out _ _ ⟨(bc HB.out hw541_0), (bc HB.out hw542_0)⟩ (fun hHeld => ?_)
         clear hK K
         refine norm_ (a' := ?_) ?_ ?_
         rotate_left
         ·
          show Act.put _ (some 36) _ = _
          simp only [Act.put, List.setIfInBounds_toArray, List.set_cons_zero, List.set_cons_succ, i64_w, i32_w]
          rfl
         exact norm_ (by simp only [putAll, Act.put, List.setIfInBounds_toArray, List.set_cons_zero, List.set_cons_succ]) (hCont (gb547) _ ⟨hHeld, (rk HO_538000.out), (rk HO_538001.out), (rk HO_6.out), (bk BK537.out), (bk BK547.out), GW547.out, GE547.out, NB537_547.out, NB547_537.out, (bw2 HB.out GE537.out GE547.out)⟩)
       rintro gb547 w49 ⟨hS_, h0_, h1_, h2_, h3_, h4_, h5_, h6_, h7_, h8_, h9_⟩
       have n0_ : Aside0 (Kd.R k70 70 w49 w.heap.size (fun _ => True) u538000 x538000_1) := ⟨h0_⟩
       have n1_ : Aside0 (Kd.R k34 34 w49 w.heap.size (fun _ => True) u538001 x538001_1) := ⟨h1_⟩
       have n2_ : Aside0 (Kd.R Kd.bool 4 w49 w.heap.size (fun _ => True) u6 x6_1) := ⟨h2_⟩
       have n3_ : Aside0 (w49.heap[gb537]? = some (.cells #[u538000, u538001] 28 (0, 0))) := ⟨h3_⟩
       have n4_ : Aside0 (w49.heap[gb547]? = some (.cells #[.int .i64 0, .string (⟨#[]⟩ : ByteArray), .string (⟨#[]⟩ : ByteArray), .int .i64 0] 40 (0, 0))) := ⟨h4_⟩
       have n5_ : Aside0 (w.heap.size ≤ gb547) := ⟨h5_⟩
       have n6_ : Aside0 (w.heap.size ≤ gb547) := ⟨h6_⟩
       have n7_ : Aside0 (gb537 ≠ gb547) := ⟨h7_⟩
       have n8_ : Aside0 (gb547 ≠ gb537) := ⟨h8_⟩
       have n9_ : Aside0 (Below w.heap.size w w49) := ⟨h9_⟩
       clear HO_6
       clear HO_538000
       clear HO_538001
       clear BK537
       clear HB
       clear h0_ h1_ h2_ h3_ h4_ h5_ h6_ h7_ h8_ h9_
       have HO_538000 := n0_
       have HO_538001 := n1_
       have HO_6 := n2_
       have BK537 := n3_
       have BK547 := n4_
       have GW547 := n5_
       have GE547 := n6_
       have NB537_547 := n7_
       have NB547_537 := n8_
       have HB := n9_
       clear n0_ n1_ n2_ n3_ n4_ n5_ n6_ n7_ n8_ n9_
       have hHeld : w49.cell? (ad541.add (x7_1).toNat) = some (.int .u8 (rd l0 x7_1)) ∧ w49.cell? (ad541.add ((ji12)).toNat) = some (.int .u8 (rd l0 (ji12))) := hS_
       refine norm_ (a' := ?_) ?_ ?_
       rotate_left
       ·
        simp only [putAll, Act.put, List.setIfInBounds_toArray, List.set_cons_zero, List.set_cons_succ]
        rfl
       refine one_ (i := 12) (N := none) (fl 13 13) rfl rfl (one_of HT_.out (by kernel_rfl)) (by decide) (fun K hK => ?_)
       have hs50 : w49.cell? ⟨gb547, 0, none⟩ = some (.int .i64 0) := (blk_cell BK547.out 0).trans rfl
       have hfs50 := blk_frozen BK547.out 0
       have hns50_0 := NB537_547.out
       have hms50_0 := NB547_537.out
       have hs51 : w49.cell? ⟨gb547, 1, none⟩ = some (.string (⟨#[]⟩ : ByteArray)) := (blk_cell BK547.out 1).trans rfl
       have hfs51 := blk_frozen BK547.out 1
       have hns51_0 := NB537_547.out
       have hms51_0 := NB547_537.out
       have hs52 : w49.cell? ⟨gb547, 2, none⟩ = some (.string (⟨#[]⟩ : ByteArray)) := (blk_cell BK547.out 2).trans rfl
       have hfs52 := blk_frozen BK547.out 2
       have hns52_0 := NB537_547.out
       have hms52_0 := NB547_537.out
       have hs53 : w49.cell? ⟨gb547, 3, none⟩ = some (.int .i64 0) := (blk_cell BK547.out 3).trans rfl
       have hfs53 := blk_frozen BK547.out 3
       have hns53_0 := NB537_547.out
       have hms53_0 := NB547_537.out
       refine skip_ (w1 := ?_) (by rfl) rfl ?_ ?_
       rotate_left
       ·
        go_simp
        rfl
       refine hK.out _ _ ⟨((cell_far (p := ⟨gb547, _, none⟩) (by first | exact Nat.ne_of_lt (Nat.lt_of_lt_of_le (by have := World.block_lt_of_cell? _ _ hw541_0; first | rwa [add_block] at this | exact this) GW547.out) | (rw [add_block]; exact Nat.ne_of_lt (Nat.lt_of_lt_of_le (by have := World.block_lt_of_cell? _ _ hw541_0; first | rwa [add_block] at this | exact this) GW547.out)) | (show (Addr.add _ _).block ≠ _; rw [add_block]; exact Nat.ne_of_lt (Nat.lt_of_lt_of_le (by have := World.block_lt_of_cell? _ _ hw541_0; first | rwa [add_block] at this | exact this) GW547.out)) | (dsimp only; exact Nat.ne_of_lt (Nat.lt_of_lt_of_le (by have := World.block_lt_of_cell? _ _ hw541_0; first | rwa [add_block] at this | exact this) GW547.out))) _).trans (((cell_far (p := ⟨gb547, _, none⟩) (by first | exact Nat.ne_of_lt (Nat.lt_of_lt_of_le (by have := World.block_lt_of_cell? _ _ hw541_0; first | rwa [add_block] at this | exact this) GW547.out) | (rw [add_block]; exact Nat.ne_of_lt (Nat.lt_of_lt_of_le (by have := World.block_lt_of_cell? _ _ hw541_0; first | rwa [add_block] at this | exact this) GW547.out)) | (show (Addr.add _ _).block ≠ _; rw [add_block]; exact Nat.ne_of_lt (Nat.lt_of_lt_of_le (by have := World.block_lt_of_cell? _ _ hw541_0; first | rwa [add_block] at this | exact this) GW547.out)) | (dsimp only; exact Nat.ne_of_lt (Nat.lt_of_lt_of_le (by have := World.block_lt_of_cell? _ _ hw541_0; first | rwa [add_block] at this | exact this) GW547.out))) _).trans (((cell_far (p := ⟨gb547, _, none⟩) (by first | exact Nat.ne_of_lt (Nat.lt_of_lt_of_le (by have := World.block_lt_of_cell? _ _ hw541_0; first | rwa [add_block] at this | exact this) GW547.out) | (rw [add_block]; exact Nat.ne_of_lt (Nat.lt_of_lt_of_le (by have := World.block_lt_of_cell? _ _ hw541_0; first | rwa [add_block] at this | exact this) GW547.out)) | (show (Addr.add _ _).block ≠ _; rw [add_block]; exact Nat.ne_of_lt (Nat.lt_of_lt_of_le (by have := World.block_lt_of_cell? _ _ hw541_0; first | rwa [add_block] at this | exact this) GW547.out)) | (dsimp only; exact Nat.ne_of_lt (Nat.lt_of_lt_of_le (by have := World.block_lt_of_cell? _ _ hw541_0; first | rwa [add_block] at this | exact this) GW547.out))) _).trans (((cell_far (p := ⟨gb547, _, none⟩) (by first | exact Nat.ne_of_lt (Nat.lt_of_lt_of_le (by have := World.block_lt_of_cell? _ _ hw541_0; first | rwa [add_block] at this | exact this) GW547.out) | (rw [add_block]; exact Nat.ne_of_lt (Nat.lt_of_lt_of_le (by have := World.block_lt_of_cell? _ _ hw541_0; first | rwa [add_block] at this | exact this) GW547.out)) | (show (Addr.add _ _).block ≠ _; rw [add_block]; exact Nat.ne_of_lt (Nat.lt_of_lt_of_le (by have := World.block_lt_of_cell? _ _ hw541_0; first | rwa [add_block] at this | exact this) GW547.out)) | (dsimp only; exact Nat.ne_of_lt (Nat.lt_of_lt_of_le (by have := World.block_lt_of_cell? _ _ hw541_0; first | rwa [add_block] at this | exact this) GW547.out))) _).trans (hHeld.1)))))))), ((cell_far (p := ⟨gb547, _, none⟩) (by first | exact Nat.ne_of_lt (Nat.lt_of_lt_of_le (by have := World.block_lt_of_cell? _ _ hw542_0; first | rwa [add_block] at this | exact this) GW547.out) | (rw [add_block]; exact Nat.ne_of_lt (Nat.lt_of_lt_of_le (by have := World.block_lt_of_cell? _ _ hw542_0; first | rwa [add_block] at this | exact this) GW547.out)) | (show (Addr.add _ _).block ≠ _; rw [add_block]; exact Nat.ne_of_lt (Nat.lt_of_lt_of_le (by have := World.block_lt_of_cell? _ _ hw542_0; first | rwa [add_block] at this | exact this) GW547.out)) | (dsimp only; exact Nat.ne_of_lt (Nat.lt_of_lt_of_le (by have := World.block_lt_of_cell? _ _ hw542_0; first | rwa [add_block] at this | exact this) GW547.out))) _).trans (((cell_far (p := ⟨gb547, _, none⟩) (by first | exact Nat.ne_of_lt (Nat.lt_of_lt_of_le (by have := World.block_lt_of_cell? _ _ hw542_0; first | rwa [add_block] at this | exact this) GW547.out) | (rw [add_block]; exact Nat.ne_of_lt (Nat.lt_of_lt_of_le (by have := World.block_lt_of_cell? _ _ hw542_0; first | rwa [add_block] at this | exact this) GW547.out)) | (show (Addr.add _ _).block ≠ _; rw [add_block]; exact Nat.ne_of_lt (Nat.lt_of_lt_of_le (by have := World.block_lt_of_cell? _ _ hw542_0; first | rwa [add_block] at this | exact this) GW547.out)) | (dsimp only; exact Nat.ne_of_lt (Nat.lt_of_lt_of_le (by have := World.block_lt_of_cell? _ _ hw542_0; first | rwa [add_block] at this | exact this) GW547.out))) _).trans (((cell_far (p := ⟨gb547, _, none⟩) (by first | exact Nat.ne_of_lt (Nat.lt_of_lt_of_le (by have := World.block_lt_of_cell? _ _ hw542_0; first | rwa [add_block] at this | exact this) GW547.out) | (rw [add_block]; exact Nat.ne_of_lt (Nat.lt_of_lt_of_le (by have := World.block_lt_of_cell? _ _ hw542_0; first | rwa [add_block] at this | exact this) GW547.out)) | (show (Addr.add _ _).block ≠ _; rw [add_block]; exact Nat.ne_of_lt (Nat.lt_of_lt_of_le (by have := World.block_lt_of_cell? _ _ hw542_0; first | rwa [add_block] at this | exact this) GW547.out)) | (dsimp only; exact Nat.ne_of_lt (Nat.lt_of_lt_of_le (by have := World.block_lt_of_cell? _ _ hw542_0; first | rwa [add_block] at this | exact this) GW547.out))) _).trans (((cell_far (p := ⟨gb547, _, none⟩) (by first | exact Nat.ne_of_lt (Nat.lt_of_lt_of_le (by have := World.block_lt_of_cell? _ _ hw542_0; first | rwa [add_block] at this | exact this) GW547.out) | (rw [add_block]; exact Nat.ne_of_lt (Nat.lt_of_lt_of_le (by have := World.block_lt_of_cell? _ _ hw542_0; first | rwa [add_block] at this | exact this) GW547.out)) | (show (Addr.add _ _).block ≠ _; rw [add_block]; exact Nat.ne_of_lt (Nat.lt_of_lt_of_le (by have := World.block_lt_of_cell? _ _ hw542_0; first | rwa [add_block] at this | exact this) GW547.out)) | (dsimp only; exact Nat.ne_of_lt (Nat.lt_of_lt_of_le (by have := World.block_lt_of_cell? _ _ hw542_0; first | rwa [add_block] at this | exact this) GW547.out))) _).trans (hHeld.2))))))))⟩ (fun hHeld => ?_)
       clear hK K
       refine done_ (done_of HT_.out (by kernel_rfl)) ?_
       have hnb54 := NB537_547.out
       have hnc54 := NB547_537.out
       have hcz55_0 : w49.cell? ⟨gb537, 0, none⟩ = some (u538000) := (blk_cell BK537.out 0).trans rfl
       have hcz55_1 : w49.cell? ⟨gb537, 1, none⟩ = some (u538001) := (blk_cell BK537.out 1).trans rfl
       have hfz55_0 := blk_frozen BK537.out 0
       have hfz55_1 := blk_frozen BK537.out 1
       have hcz56_0 : w49.cell? ⟨gb547, 0, none⟩ = some (.int .i64 0) := (blk_cell BK547.out 0).trans rfl
       have hcz56_1 : w49.cell? ⟨gb547, 1, none⟩ = some (.string (⟨#[]⟩ : ByteArray)) := (blk_cell BK547.out 1).trans rfl
       have hcz56_2 : w49.cell? ⟨gb547, 2, none⟩ = some (.string (⟨#[]⟩ : ByteArray)) := (blk_cell BK547.out 2).trans rfl
       have hcz56_3 : w49.cell? ⟨gb547, 3, none⟩ = some (.int .i64 0) := (blk_cell BK547.out 3).trans rfl
       have hfz56_0 := blk_frozen BK547.out 0
       have hfz56_1 := blk_frozen BK547.out 1
       have hfz56_2 := blk_frozen BK547.out 2
       have hfz56_3 := blk_frozen BK547.out 3
       obtain ⟨Ao57, co57, eo57⟩ := Kd.R_slice HO_538000.out
       subst eo57
       obtain ⟨Ao58, co58, eo58⟩ := Kd.R_slice HO_538001.out
       subst eo58
       go_upto_if 54 with (first | ((with_reducible refine gate_callee (f := 13) rfl ?_); refine goesL_ (some 39) rfl rfl Try.func13 (by kernel_rfl) rfl #[.agg #[.slice Ao57 x538000_1.length co57, .slice Ao58 x538001_1.length co58], .int .i64 2, .agg #[.int .i64 t543, .string t544, .string t545, .int .i64 t546]] rfl ar_ ?_; (with_reducible refine (deaddropref7_Do.calls k1 _ _ x538000_1 _ _ x538001_1 2 t543 t544 t545 t546 t548 t551 t554 _ ?side1 ?side2 ?side3 ?side4 A15.out).mono ?_); (case side1 => refine (Kd.R_reads' (e := 70) (base := w.heap.size) (ok := fun k_ => True) (n := x538000_1.length) (c := co57) ?_).2.2; exact (by (with_reducible repeat (first | apply Kd.R_alloc | apply Kd.R_drewN | apply Kd.R_drew)); exact (Kd.R_mono (Kd.R_far (p := ⟨gb547, 3, none⟩) (Kd.R_far (p := ⟨gb547, 2, none⟩) (Kd.R_far (p := ⟨gb547, 1, none⟩) (Kd.R_far (p := ⟨gb547, 0, none⟩) (Kd.R_types HO_538000.out BK547.out (by decide)) (fun _ hk => hk.2) (.int .i64 t543)) (fun _ hk => hk.2) (.string t544)) (fun _ hk => hk.2) (.string t545)) (fun _ hk => hk.2) (.int .i64 t546)) (fun _ h_ => h_.1)))); (case side2 => exact (Kd.R_reads' HO_538000.out).2.1); (case side3 => refine (Kd.R_reads' (e := 34) (base := w.heap.size) (ok := fun k_ => True) (n := x538001_1.length) (c := co58) ?_).2.2; exact (by (with_reducible repeat (first | apply Kd.R_alloc | apply Kd.R_drewN | apply Kd.R_drew)); exact (Kd.R_mono (Kd.R_far (p := ⟨gb547, 3, none⟩) (Kd.R_far (p := ⟨gb547, 2, none⟩) (Kd.R_far (p := ⟨gb547, 1, none⟩) (Kd.R_far (p := ⟨gb547, 0, none⟩) (Kd.R_types HO_538001.out BK547.out (by decide)) (fun _ hk => hk.2) (.int .i64 t543)) (fun _ hk => hk.2) (.string t544)) (fun _ hk => hk.2) (.string t545)) (fun _ hk => hk.2) (.int .i64 t546)) (fun _ h_ => h_.1)))); (case side4 => exact (Kd.R_reads' HO_538001.out).2.1); rintro e w59 ⟨v549, v552, rfl, ho0, ho1, hb⟩; refine ⟨_, rfl, ?_⟩; replace HO_6 := Aside0.mk (Kd.R_below (by (with_reducible repeat (first | apply Kd.R_alloc | apply Kd.R_drewN | apply Kd.R_drew)); exact (Kd.R_mono (Kd.R_far (p := ⟨gb547, 3, none⟩) (Kd.R_far (p := ⟨gb547, 2, none⟩) (Kd.R_far (p := ⟨gb547, 1, none⟩) (Kd.R_far (p := ⟨gb547, 0, none⟩) (Kd.R_types HO_6.out BK547.out (by decide)) (fun _ hk => hk.2) (.int .i64 t543)) (fun _ hk => hk.2) (.string t544)) (fun _ hk => hk.2) (.string t545)) (fun _ hk => hk.2) (.int .i64 t546)) (fun _ h_ => h_.1))) hb); have HO550 := Aside0.mk (Kd.R_lower (Kd.R_new' ho0 (Kd.R_lt (by (with_reducible repeat (first | apply Kd.R_alloc | apply Kd.R_drewN | apply Kd.R_drew)); exact (Kd.R_mono (Kd.R_far (p := ⟨gb547, 3, none⟩) (Kd.R_far (p := ⟨gb547, 2, none⟩) (Kd.R_far (p := ⟨gb547, 1, none⟩) (Kd.R_far (p := ⟨gb547, 0, none⟩) (Kd.R_types HO_538000.out BK547.out (by decide)) (fun _ hk => hk.2) (.int .i64 t543)) (fun _ hk => hk.2) (.string t544)) (fun _ hk => hk.2) (.string t545)) (fun _ hk => hk.2) (.int .i64 t546)) (fun _ h_ => h_.1))))) (below_size (bw2 HB.out GE537.out GE547.out))); replace HO_538000 := Aside0.mk (Kd.R_elder' (by (with_reducible repeat (first | apply Kd.R_alloc | apply Kd.R_drewN | apply Kd.R_drew)); exact (Kd.R_mono (Kd.R_far (p := ⟨gb547, 3, none⟩) (Kd.R_far (p := ⟨gb547, 2, none⟩) (Kd.R_far (p := ⟨gb547, 1, none⟩) (Kd.R_far (p := ⟨gb547, 0, none⟩) (Kd.R_types HO_538000.out BK547.out (by decide)) (fun _ hk => hk.2) (.int .i64 t543)) (fun _ hk => hk.2) (.string t544)) (fun _ hk => hk.2) (.string t545)) (fun _ hk => hk.2) (.int .i64 t546)) (fun _ h_ => h_.1))) (Kd.R_base ho0) hb); have HO553 := Aside0.mk (Kd.R_lower (Kd.R_new' ho1 (Kd.R_lt (by (with_reducible repeat (first | apply Kd.R_alloc | apply Kd.R_drewN | apply Kd.R_drew)); exact (Kd.R_mono (Kd.R_far (p := ⟨gb547, 3, none⟩) (Kd.R_far (p := ⟨gb547, 2, none⟩) (Kd.R_far (p := ⟨gb547, 1, none⟩) (Kd.R_far (p := ⟨gb547, 0, none⟩) (Kd.R_types HO_538001.out BK547.out (by decide)) (fun _ hk => hk.2) (.int .i64 t543)) (fun _ hk => hk.2) (.string t544)) (fun _ hk => hk.2) (.string t545)) (fun _ hk => hk.2) (.int .i64 t546)) (fun _ h_ => h_.1))))) (below_size (bw2 HB.out GE537.out GE547.out))); replace HO_538001 := Aside0.mk (Kd.R_elder' (by (with_reducible repeat (first | apply Kd.R_alloc | apply Kd.R_drewN | apply Kd.R_drew)); exact (Kd.R_mono (Kd.R_far (p := ⟨gb547, 3, none⟩) (Kd.R_far (p := ⟨gb547, 2, none⟩) (Kd.R_far (p := ⟨gb547, 1, none⟩) (Kd.R_far (p := ⟨gb547, 0, none⟩) (Kd.R_types HO_538001.out BK547.out (by decide)) (fun _ hk => hk.2) (.int .i64 t543)) (fun _ hk => hk.2) (.string t544)) (fun _ hk => hk.2) (.string t545)) (fun _ hk => hk.2) (.int .i64 t546)) (fun _ h_ => h_.1))) (Kd.R_base ho1) hb); replace BK537 := Aside0.mk (blk_below (g := gb537) (o := .cells #[.slice Ao57 x538000_1.length co57, .slice Ao58 x538001_1.length co58] 28 (0, 0)) (by (with_reducible repeat (first | refine blk_drewN ?_ _ | refine blk_drew ?_ | refine blk_alloc ?_ _)); refine blk_far ?_ NB537_547.out _; (with_reducible repeat (first | refine blk_drewN ?_ _ | refine blk_drew ?_ | refine blk_alloc ?_ _)); refine blk_far ?_ NB537_547.out _; (with_reducible repeat (first | refine blk_drewN ?_ _ | refine blk_drew ?_ | refine blk_alloc ?_ _)); refine blk_far ?_ NB537_547.out _; (with_reducible repeat (first | refine blk_drewN ?_ _ | refine blk_drew ?_ | refine blk_alloc ?_ _)); refine blk_far ?_ NB537_547.out _; (with_reducible repeat (first | refine blk_drewN ?_ _ | refine blk_drew ?_ | refine blk_alloc ?_ _)); exact BK537.out) hb); replace BK547 := Aside0.mk (blk_below (g := gb547) (o := .cells #[.int .i64 t543, .string t544, .string t545, .int .i64 t546] 40 (0, 0)) (by (with_reducible repeat (first | refine blk_drewN ?_ _ | refine blk_drew ?_ | refine blk_alloc ?_ _)); refine blk_put (cs := #[.int .i64 t543, .string t544, .string t545, .int .i64 0]) ?_ 3 _ rfl; (with_reducible repeat (first | refine blk_drewN ?_ _ | refine blk_drew ?_ | refine blk_alloc ?_ _)); refine blk_put (cs := #[.int .i64 t543, .string t544, .string (⟨#[]⟩ : ByteArray), .int .i64 0]) ?_ 2 _ rfl; (with_reducible repeat (first | refine blk_drewN ?_ _ | refine blk_drew ?_ | refine blk_alloc ?_ _)); refine blk_put (cs := #[.int .i64 t543, .string (⟨#[]⟩ : ByteArray), .string (⟨#[]⟩ : ByteArray), .int .i64 0]) ?_ 1 _ rfl; (with_reducible repeat (first | refine blk_drewN ?_ _ | refine blk_drew ?_ | refine blk_alloc ?_ _)); refine blk_put (cs := #[.int .i64 0, .string (⟨#[]⟩ : ByteArray), .string (⟨#[]⟩ : ByteArray), .int .i64 0]) ?_ 0 _ rfl; (with_reducible repeat (first | refine blk_drewN ?_ _ | refine blk_drew ?_ | refine blk_alloc ?_ _)); exact BK547.out) hb); replace HB := Aside0.mk (below_step (bw2 HB.out GE537.out GE547.out) hb); (try clear hb); (try clear hb2); (try clear hk); (try clear hi); (try clear ho0); (try clear ho1)) | ((with_reducible refine gate_dst (N := 9) rfl ?_); (try (refine gate_guard (by rfl) ?_; dsimp only)); refine box_event ?hg (N := 9) ?hd (cs := #[.slice none 0 0, .slice none 0 0, .int .i64 0]) (t := 43) ?hr ?_; (case hd => rfl); (case hg => rfl); (case hr => first | (go_simp; done) | (go_simp; rfl)); intro gb555 hg w60 hbox hb; replace HO_6 := Aside0.mk (Kd.R_below (rk HO_6.out) hb); replace HO_538000 := Aside0.mk (Kd.R_below (rk HO_538000.out) hb); replace HO_538001 := Aside0.mk (Kd.R_below (rk HO_538001.out) hb); replace HO550 := Aside0.mk (Kd.R_below (rk HO550.out) hb); replace HO553 := Aside0.mk (Kd.R_below (rk HO553.out) hb); have BK555 := Aside0.mk (hbox); have GW555 := Aside0.mk ((by rw [hg]; exact (below_size (bw2 HB.out GE537.out GE547.out)) : w.heap.size ≤ gb555)); have GE555 := Aside0.mk ((by rw [hg]; exact (below_size (bw2 HB.out GE537.out GE547.out)) : w.heap.size ≤ gb555)); replace HB := Aside0.mk (below_step (bw2 HB.out GE537.out GE547.out) hb); have NB537_555 := Aside0.mk ((by rw [hg]; exact Nat.ne_of_lt (blk_lt (g := gb537) (o := .cells #[.slice Ao57 x538000_1.length co57, .slice Ao58 x538001_1.length co58] 28 (0, 0)) (bk BK537.out)) : gb537 ≠ gb555)); have NB555_537 := Aside0.mk ((by rw [hg]; exact Nat.ne_of_gt (blk_lt (g := gb537) (o := .cells #[.slice Ao57 x538000_1.length co57, .slice Ao58 x538001_1.length co58] 28 (0, 0)) (bk BK537.out)) : gb555 ≠ gb537)); replace BK537 := Aside0.mk (blk_below (g := gb537) (o := .cells #[.slice Ao57 x538000_1.length co57, .slice Ao58 x538001_1.length co58] 28 (0, 0)) (bk BK537.out) hb); have NB547_555 := Aside0.mk ((by rw [hg]; exact Nat.ne_of_lt (blk_lt (g := gb547) (o := .cells #[.int .i64 t543, .string t544, .string t545, .int .i64 t546] 40 (0, 0)) (bk BK547.out)) : gb547 ≠ gb555)); have NB555_547 := Aside0.mk ((by rw [hg]; exact Nat.ne_of_gt (blk_lt (g := gb547) (o := .cells #[.int .i64 t543, .string t544, .string t545, .int .i64 t546] 40 (0, 0)) (bk BK547.out)) : gb555 ≠ gb547)); replace BK547 := Aside0.mk (blk_below (g := gb547) (o := .cells #[.int .i64 t543, .string t544, .string t545, .int .i64 t546] 40 (0, 0)) (bk BK547.out) hb); clear hb hbox hg; obtain ⟨Ao61, co61, eo61⟩ := Kd.R_slice HO550.out; subst eo61; have hnb62 := NB555_537.out; have hnc62 := NB537_555.out; have hnb63 := NB555_547.out; have hnc63 := NB547_555.out; have hcz64_0 : w60.cell? ⟨gb555, 0, none⟩ = some (.slice none 0 0) := (blk_cell BK555.out 0).trans rfl; have hcz64_1 : w60.cell? ⟨gb555, 1, none⟩ = some (.slice none 0 0) := (blk_cell BK555.out 1).trans rfl; have hcz64_2 : w60.cell? ⟨gb555, 2, none⟩ = some (.int .i64 0) := (blk_cell BK555.out 2).trans rfl; have hfz64_0 := blk_frozen BK555.out 0; have hfz64_1 := blk_frozen BK555.out 1; have hfz64_2 := blk_frozen BK555.out 2; obtain ⟨Ao65, co65, eo65⟩ := Kd.R_slice HO553.out; subst eo65; have hcz66_0 : w60.cell? ⟨gb537, 0, none⟩ = some (.slice Ao57 x538000_1.length co57) := (blk_cell BK537.out 0).trans rfl; have hcz66_1 : w60.cell? ⟨gb537, 1, none⟩ = some (.slice Ao58 x538001_1.length co58) := (blk_cell BK537.out 1).trans rfl; have hfz66_0 := blk_frozen BK537.out 0; have hfz66_1 := blk_frozen BK537.out 1) | ((with_reducible refine gate_callee (f := 8) rfl ?_); refine goesL_ (some 46) rfl rfl Try.func8 (by kernel_rfl) rfl #[.agg #[.slice Ao57 x538000_1.length co57, .slice Ao58 x538001_1.length co58], .agg #[.slice Ao61 t548.length co61, .slice Ao65 t551.length co65]] rfl ar_ ?_; (with_reducible refine (deaddropref7_Join.calls k1 _ _ x538000_1 _ _ x538001_1 _ _ t548 _ _ t551 t556 t559 _ ?side1 ?side2 ?side3 ?side4 ?side5 ?side6 ?side7 ?side8 A17.out).mono ?_); (case side1 => refine (Kd.R_reads' (e := 70) (base := w.heap.size) (ok := fun k_ => (True ∧ some k_ ≠ (.slice Ao61 t548.length co61 : Value).ownBlock)) (n := x538000_1.length) (c := co57) ?_).2.2; exact (by (with_reducible repeat (first | apply Kd.R_alloc | apply Kd.R_drewN | apply Kd.R_drew)); exact (Kd.R_mono (Kd.R_far (p := ⟨gb555, 2, none⟩) (Kd.R_far (p := ⟨gb555, 1, none⟩) (Kd.R_far (p := ⟨gb555, 0, none⟩) (Kd.R_types HO_538000.out BK555.out (by decide)) (fun _ hk => hk.2) (.slice Ao61 t548.length co61)) (fun _ hk => hk.2) (.slice Ao65 t551.length co65)) (fun _ hk => hk.2) (.int .i64 t554)) (fun _ h_ => h_.1)))); (case side2 => exact (Kd.R_reads' HO_538000.out).2.1); (case side3 => refine (Kd.R_reads' (e := 34) (base := w.heap.size) (ok := fun k_ => (True ∧ some k_ ≠ (.slice Ao65 t551.length co65 : Value).ownBlock)) (n := x538001_1.length) (c := co58) ?_).2.2; exact (by (with_reducible repeat (first | apply Kd.R_alloc | apply Kd.R_drewN | apply Kd.R_drew)); exact (Kd.R_mono (Kd.R_far (p := ⟨gb555, 2, none⟩) (Kd.R_far (p := ⟨gb555, 1, none⟩) (Kd.R_far (p := ⟨gb555, 0, none⟩) (Kd.R_types HO_538001.out BK555.out (by decide)) (fun _ hk => hk.2) (.slice Ao61 t548.length co61)) (fun _ hk => hk.2) (.slice Ao65 t551.length co65)) (fun _ hk => hk.2) (.int .i64 t554)) (fun _ h_ => h_.1)))); (case side4 => exact (Kd.R_reads' HO_538001.out).2.1); (case side5 => refine (Kd.R_reads' (e := 70) (base := w.heap.size) (ok := fun k_ => (True ∧ some k_ ≠ (.slice Ao57 x538000_1.length co57 : Value).ownBlock)) (n := t548.length) (c := co61) ?_).2.2; exact (by (with_reducible repeat (first | apply Kd.R_alloc | apply Kd.R_drewN | apply Kd.R_drew)); exact (Kd.R_mono (Kd.R_far (p := ⟨gb555, 2, none⟩) (Kd.R_far (p := ⟨gb555, 1, none⟩) (Kd.R_far (p := ⟨gb555, 0, none⟩) (Kd.R_types HO550.out BK555.out (by decide)) (fun _ hk => hk.2) (.slice Ao61 t548.length co61)) (fun _ hk => hk.2) (.slice Ao65 t551.length co65)) (fun _ hk => hk.2) (.int .i64 t554)) (fun _ h_ => h_.1)))); (case side6 => exact (Kd.R_reads' HO550.out).2.1); (case side7 => refine (Kd.R_reads' (e := 34) (base := w.heap.size) (ok := fun k_ => (True ∧ some k_ ≠ (.slice Ao58 x538001_1.length co58 : Value).ownBlock)) (n := t551.length) (c := co65) ?_).2.2; exact (by (with_reducible repeat (first | apply Kd.R_alloc | apply Kd.R_drewN | apply Kd.R_drew)); exact (Kd.R_mono (Kd.R_far (p := ⟨gb555, 2, none⟩) (Kd.R_far (p := ⟨gb555, 1, none⟩) (Kd.R_far (p := ⟨gb555, 0, none⟩) (Kd.R_types HO553.out BK555.out (by decide)) (fun _ hk => hk.2) (.slice Ao61 t548.length co61)) (fun _ hk => hk.2) (.slice Ao65 t551.length co65)) (fun _ hk => hk.2) (.int .i64 t554)) (fun _ h_ => h_.1)))); (case side8 => exact (Kd.R_reads' HO553.out).2.1); rintro e w67 ⟨v557, v560, rfl, ho0, ho1, hb⟩; refine ⟨_, rfl, ?_⟩; replace HO_6 := Aside0.mk (Kd.R_below (by (with_reducible repeat (first | apply Kd.R_alloc | apply Kd.R_drewN | apply Kd.R_drew)); exact (Kd.R_mono (Kd.R_far (p := ⟨gb555, 2, none⟩) (Kd.R_far (p := ⟨gb555, 1, none⟩) (Kd.R_far (p := ⟨gb555, 0, none⟩) (Kd.R_types HO_6.out BK555.out (by decide)) (fun _ hk => hk.2) (.slice Ao61 t548.length co61)) (fun _ hk => hk.2) (.slice Ao65 t551.length co65)) (fun _ hk => hk.2) (.int .i64 t554)) (fun _ h_ => h_.1))) hb); have HO558 := Aside0.mk (Kd.R_lower (Kd.R_new' (Kd.R_new' ho0 (Kd.R_lt (by (with_reducible repeat (first | apply Kd.R_alloc | apply Kd.R_drewN | apply Kd.R_drew)); exact (Kd.R_mono (Kd.R_far (p := ⟨gb555, 2, none⟩) (Kd.R_far (p := ⟨gb555, 1, none⟩) (Kd.R_far (p := ⟨gb555, 0, none⟩) (Kd.R_types HO_538000.out BK555.out (by decide)) (fun _ hk => hk.2) (.slice Ao61 t548.length co61)) (fun _ hk => hk.2) (.slice Ao65 t551.length co65)) (fun _ hk => hk.2) (.int .i64 t554)) (fun _ h_ => h_.1))))) (Kd.R_lt (by (with_reducible repeat (first | apply Kd.R_alloc | apply Kd.R_drewN | apply Kd.R_drew)); exact (Kd.R_mono (Kd.R_far (p := ⟨gb555, 2, none⟩) (Kd.R_far (p := ⟨gb555, 1, none⟩) (Kd.R_far (p := ⟨gb555, 0, none⟩) (Kd.R_types HO550.out BK555.out (by decide)) (fun _ hk => hk.2) (.slice Ao61 t548.length co61)) (fun _ hk => hk.2) (.slice Ao65 t551.length co65)) (fun _ hk => hk.2) (.int .i64 t554)) (fun _ h_ => h_.1))))) (below_size (bw3 HB.out GE537.out GE547.out GE555.out))); replace HO_538000 := Aside0.mk (Kd.R_elder' (by (with_reducible repeat (first | apply Kd.R_alloc | apply Kd.R_drewN | apply Kd.R_drew)); exact (Kd.R_mono (Kd.R_far (p := ⟨gb555, 2, none⟩) (Kd.R_far (p := ⟨gb555, 1, none⟩) (Kd.R_far (p := ⟨gb555, 0, none⟩) (Kd.R_types HO_538000.out BK555.out (by decide)) (fun _ hk => hk.2) (.slice Ao61 t548.length co61)) (fun _ hk => hk.2) (.slice Ao65 t551.length co65)) (fun _ hk => hk.2) (.int .i64 t554)) (fun _ h_ => h_.1))) (Kd.R_base ho0) hb); replace HO550 := Aside0.mk (Kd.R_elder' (by (with_reducible repeat (first | apply Kd.R_alloc | apply Kd.R_drewN | apply Kd.R_drew)); exact (Kd.R_mono (Kd.R_far (p := ⟨gb555, 2, none⟩) (Kd.R_far (p := ⟨gb555, 1, none⟩) (Kd.R_far (p := ⟨gb555, 0, none⟩) (Kd.R_types HO550.out BK555.out (by decide)) (fun _ hk => hk.2) (.slice Ao61 t548.length co61)) (fun _ hk => hk.2) (.slice Ao65 t551.length co65)) (fun _ hk => hk.2) (.int .i64 t554)) (fun _ h_ => h_.1))) (Kd.R_base ho0) hb); have HO561 := Aside0.mk (Kd.R_lower (Kd.R_new' (Kd.R_new' ho1 (Kd.R_lt (by (with_reducible repeat (first | apply Kd.R_alloc | apply Kd.R_drewN | apply Kd.R_drew)); exact (Kd.R_mono (Kd.R_far (p := ⟨gb555, 2, none⟩) (Kd.R_far (p := ⟨gb555, 1, none⟩) (Kd.R_far (p := ⟨gb555, 0, none⟩) (Kd.R_types HO_538001.out BK555.out (by decide)) (fun _ hk => hk.2) (.slice Ao61 t548.length co61)) (fun _ hk => hk.2) (.slice Ao65 t551.length co65)) (fun _ hk => hk.2) (.int .i64 t554)) (fun _ h_ => h_.1))))) (Kd.R_lt (by (with_reducible repeat (first | apply Kd.R_alloc | apply Kd.R_drewN | apply Kd.R_drew)); exact (Kd.R_mono (Kd.R_far (p := ⟨gb555, 2, none⟩) (Kd.R_far (p := ⟨gb555, 1, none⟩) (Kd.R_far (p := ⟨gb555, 0, none⟩) (Kd.R_types HO553.out BK555.out (by decide)) (fun _ hk => hk.2) (.slice Ao61 t548.length co61)) (fun _ hk => hk.2) (.slice Ao65 t551.length co65)) (fun _ hk => hk.2) (.int .i64 t554)) (fun _ h_ => h_.1))))) (below_size (bw3 HB.out GE537.out GE547.out GE555.out))); replace HO_538001 := Aside0.mk (Kd.R_elder' (by (with_reducible repeat (first | apply Kd.R_alloc | apply Kd.R_drewN | apply Kd.R_drew)); exact (Kd.R_mono (Kd.R_far (p := ⟨gb555, 2, none⟩) (Kd.R_far (p := ⟨gb555, 1, none⟩) (Kd.R_far (p := ⟨gb555, 0, none⟩) (Kd.R_types HO_538001.out BK555.out (by decide)) (fun _ hk => hk.2) (.slice Ao61 t548.length co61)) (fun _ hk => hk.2) (.slice Ao65 t551.length co65)) (fun _ hk => hk.2) (.int .i64 t554)) (fun _ h_ => h_.1))) (Kd.R_base ho1) hb); replace HO553 := Aside0.mk (Kd.R_elder' (by (with_reducible repeat (first | apply Kd.R_alloc | apply Kd.R_drewN | apply Kd.R_drew)); exact (Kd.R_mono (Kd.R_far (p := ⟨gb555, 2, none⟩) (Kd.R_far (p := ⟨gb555, 1, none⟩) (Kd.R_far (p := ⟨gb555, 0, none⟩) (Kd.R_types HO553.out BK555.out (by decide)) (fun _ hk => hk.2) (.slice Ao61 t548.length co61)) (fun _ hk => hk.2) (.slice Ao65 t551.length co65)) (fun _ hk => hk.2) (.int .i64 t554)) (fun _ h_ => h_.1))) (Kd.R_base ho1) hb); replace BK537 := Aside0.mk (blk_below (g := gb537) (o := .cells #[.slice Ao57 x538000_1.length co57, .slice Ao58 x538001_1.length co58] 28 (0, 0)) (by (with_reducible repeat (first | refine blk_drewN ?_ _ | refine blk_drew ?_ | refine blk_alloc ?_ _)); refine blk_far ?_ NB537_555.out _; (with_reducible repeat (first | refine blk_drewN ?_ _ | refine blk_drew ?_ | refine blk_alloc ?_ _)); refine blk_far ?_ NB537_555.out _; (with_reducible repeat (first | refine blk_drewN ?_ _ | refine blk_drew ?_ | refine blk_alloc ?_ _)); refine blk_far ?_ NB537_555.out _; (with_reducible repeat (first | refine blk_drewN ?_ _ | refine blk_drew ?_ | refine blk_alloc ?_ _)); exact BK537.out) hb); replace BK547 := Aside0.mk (blk_below (g := gb547) (o := .cells #[.int .i64 t543, .string t544, .string t545, .int .i64 t546] 40 (0, 0)) (by (with_reducible repeat (first | refine blk_drewN ?_ _ | refine blk_drew ?_ | refine blk_alloc ?_ _)); refine blk_far ?_ NB547_555.out _; (with_reducible repeat (first | refine blk_drewN ?_ _ | refine blk_drew ?_ | refine blk_alloc ?_ _)); refine blk_far ?_ NB547_555.out _; (with_reducible repeat (first | refine blk_drewN ?_ _ | refine blk_drew ?_ | refine blk_alloc ?_ _)); refine blk_far ?_ NB547_555.out _; (with_reducible repeat (first | refine blk_drewN ?_ _ | refine blk_drew ?_ | refine blk_alloc ?_ _)); exact BK547.out) hb); replace BK555 := Aside0.mk (blk_below (g := gb555) (o := .cells #[.slice Ao61 t548.length co61, .slice Ao65 t551.length co65, .int .i64 t554] 43 (0, 0)) (by (with_reducible repeat (first | refine blk_drewN ?_ _ | refine blk_drew ?_ | refine blk_alloc ?_ _)); refine blk_put (cs := #[.slice Ao61 t548.length co61, .slice Ao65 t551.length co65, .int .i64 0]) ?_ 2 _ rfl; (with_reducible repeat (first | refine blk_drewN ?_ _ | refine blk_drew ?_ | refine blk_alloc ?_ _)); refine blk_put (cs := #[.slice Ao61 t548.length co61, .slice none 0 0, .int .i64 0]) ?_ 1 _ rfl; (with_reducible repeat (first | refine blk_drewN ?_ _ | refine blk_drew ?_ | refine blk_alloc ?_ _)); refine blk_put (cs := #[.slice none 0 0, .slice none 0 0, .int .i64 0]) ?_ 0 _ rfl; (with_reducible repeat (first | refine blk_drewN ?_ _ | refine blk_drew ?_ | refine blk_alloc ?_ _)); exact BK555.out) hb); replace HB := Aside0.mk (below_step (bw3 HB.out GE537.out GE547.out GE555.out) hb); (try clear hb); (try clear hb2); (try clear hk); (try clear hi); (try clear ho0); (try clear ho1); obtain ⟨Ao68, co68, eo68⟩ := Kd.R_slice HO558.out; subst eo68; have hcz69_0 : w67.cell? ⟨gb537, 0, none⟩ = some (.slice Ao57 x538000_1.length co57) := (blk_cell BK537.out 0).trans rfl; have hcz69_1 : w67.cell? ⟨gb537, 1, none⟩ = some (.slice Ao58 x538001_1.length co58) := (blk_cell BK537.out 1).trans rfl; have hfz69_0 := blk_frozen BK537.out 0; have hfz69_1 := blk_frozen BK537.out 1; obtain ⟨Ao70, co70, eo70⟩ := Kd.R_slice HO561.out; subst eo70; have hcz71_0 : w67.cell? ⟨gb547, 0, none⟩ = some (.int .i64 t543) := (blk_cell BK547.out 0).trans rfl; have hcz71_1 : w67.cell? ⟨gb547, 1, none⟩ = some (.string t544) := (blk_cell BK547.out 1).trans rfl; have hcz71_2 : w67.cell? ⟨gb547, 2, none⟩ = some (.string t545) := (blk_cell BK547.out 2).trans rfl; have hcz71_3 : w67.cell? ⟨gb547, 3, none⟩ = some (.int .i64 t546) := (blk_cell BK547.out 3).trans rfl; have hfz71_0 := blk_frozen BK547.out 0; have hfz71_1 := blk_frozen BK547.out 1; have hfz71_2 := blk_frozen BK547.out 2; have hfz71_3 := blk_frozen BK547.out 3))
       (try simp only [Act.put, List.setIfInBounds_toArray, List.set_cons_zero, List.set_cons_succ])
       go_cut [54] (fun v54 wc => ∃ (kq : Nat) (x54_44 : Bool), v54 = .bool x54_44 ∧ Aside0 (deaddroplaw10_ReadAlone.j1 kq l0 x4_1 x5_1 x6_1 x7_1 t543 x54_44 t556 t559 t543 t544 t545 t546 = some r) ∧ Aside0 (kq ≤ k1) ∧ Aside0 (Kd.R Kd.bool 4 wc w.heap.size (fun _ => True) u6 x6_1) ∧ Aside0 (Kd.R k70 70 wc w.heap.size (fun k_ => some k_ ≠ ((.slice Ao61 t548.length co61) : Value).ownBlock) (.slice Ao68 t556.length co68) t556) ∧ Aside0 (Kd.R k34 34 wc w.heap.size (fun k_ => some k_ ≠ ((.slice Ao65 t551.length co65) : Value).ownBlock) (.slice Ao70 t559.length co70) t559) ∧ Aside0 (Kd.R k70 70 wc w.heap.size (fun k_ => some k_ ≠ ((.slice Ao68 t556.length co68) : Value).ownBlock) (.slice Ao61 t548.length co61) t548) ∧ Aside0 (Kd.R k34 34 wc w.heap.size (fun k_ => some k_ ≠ ((.slice Ao70 t559.length co70) : Value).ownBlock) (.slice Ao65 t551.length co65) t551) ∧ Aside0 (wc.heap[gb537]? = some (.cells #[(.slice Ao68 t556.length co68), (.slice Ao70 t559.length co70)] 28 (0, 0))) ∧ Aside0 (wc.heap[gb547]? = some (.cells #[.int .i64 t543, .string t544, .string t545, .int .i64 t546] 40 (0, 0))) ∧ Aside0 (wc.heap[gb555]? = some (.cells #[(.slice Ao61 t548.length co61), (.slice Ao65 t551.length co65), .int .i64 t554] 43 (0, 0))) ∧ Aside0 (Below w.heap.size w wc))
       case first =>
        have H := HC45.out
        clear HC45
        by_cases c72 : t543 = 2
        ·
         rw [if_pos c72] at H
         have c72b0 : (t543 == 2) = true := beq_iff_eq.mpr c72
         have c72b1 : (t543 != 2) = false := bne_eq_false_iff_eq.mpr c72
         clear c72
         (first | rw [c72b0] | (simp only [i64_w, i32_w]; rw [c72b0]) | skip)
         have H' := Aside0.mk H
         clear H
         go_wp2
         go_meet
         case rel => exact ⟨_, ((t543 == 2)), ok_, H', ⟨by have := HK1.out; first | omega | exact Nat.le_refl _⟩, ⟨by (with_reducible repeat (first | apply Kd.R_alloc | apply Kd.R_drewN | apply Kd.R_drew)); exact Kd.R_mono (Kd.R_far (p := ⟨gb537, 1, none⟩) (Kd.R_far (p := ⟨gb537, 0, none⟩) (Kd.R_types HO_6.out BK537.out (by decide)) (fun _ hk => hk.2) (.slice Ao68 t556.length co68)) (fun _ hk => hk.2) (.slice Ao70 t559.length co70)) (fun _ hk => trivial)⟩, ⟨by (with_reducible repeat (first | apply Kd.R_alloc | apply Kd.R_drewN | apply Kd.R_drew)); exact Kd.R_mono (Kd.R_far (p := ⟨gb537, 1, none⟩) (Kd.R_far (p := ⟨gb537, 0, none⟩) (Kd.R_types HO558.out BK537.out (by decide)) (fun _ hk => hk.2) (.slice Ao68 t556.length co68)) (fun _ hk => hk.2) (.slice Ao70 t559.length co70)) (fun _ hk => hk.1.2)⟩, ⟨by (with_reducible repeat (first | apply Kd.R_alloc | apply Kd.R_drewN | apply Kd.R_drew)); exact Kd.R_mono (Kd.R_far (p := ⟨gb537, 1, none⟩) (Kd.R_far (p := ⟨gb537, 0, none⟩) (Kd.R_types HO561.out BK537.out (by decide)) (fun _ hk => hk.2) (.slice Ao68 t556.length co68)) (fun _ hk => hk.2) (.slice Ao70 t559.length co70)) (fun _ hk => hk.1.2)⟩, ⟨by (with_reducible repeat (first | apply Kd.R_alloc | apply Kd.R_drewN | apply Kd.R_drew)); exact Kd.R_mono (Kd.R_far (p := ⟨gb537, 1, none⟩) (Kd.R_far (p := ⟨gb537, 0, none⟩) (Kd.R_types HO550.out BK537.out (by decide)) (fun _ hk => hk.2) (.slice Ao68 t556.length co68)) (fun _ hk => hk.2) (.slice Ao70 t559.length co70)) (fun _ hk => hk.1.2)⟩, ⟨by (with_reducible repeat (first | apply Kd.R_alloc | apply Kd.R_drewN | apply Kd.R_drew)); exact Kd.R_mono (Kd.R_far (p := ⟨gb537, 1, none⟩) (Kd.R_far (p := ⟨gb537, 0, none⟩) (Kd.R_types HO553.out BK537.out (by decide)) (fun _ hk => hk.2) (.slice Ao68 t556.length co68)) (fun _ hk => hk.2) (.slice Ao70 t559.length co70)) (fun _ hk => hk.1.2)⟩, ⟨by (with_reducible repeat (first | refine blk_drewN ?_ _ | refine blk_drew ?_ | refine blk_alloc ?_ _)); refine blk_put (cs := #[.slice Ao68 t556.length co68, .slice Ao58 x538001_1.length co58]) ?_ 1 _ rfl; (with_reducible repeat (first | refine blk_drewN ?_ _ | refine blk_drew ?_ | refine blk_alloc ?_ _)); refine blk_put (cs := #[.slice Ao57 x538000_1.length co57, .slice Ao58 x538001_1.length co58]) ?_ 0 _ rfl; (with_reducible repeat (first | refine blk_drewN ?_ _ | refine blk_drew ?_ | refine blk_alloc ?_ _)); exact BK537.out⟩, ⟨by (with_reducible repeat (first | refine blk_drewN ?_ _ | refine blk_drew ?_ | refine blk_alloc ?_ _)); refine blk_far ?_ NB547_537.out _; (with_reducible repeat (first | refine blk_drewN ?_ _ | refine blk_drew ?_ | refine blk_alloc ?_ _)); refine blk_far ?_ NB547_537.out _; (with_reducible repeat (first | refine blk_drewN ?_ _ | refine blk_drew ?_ | refine blk_alloc ?_ _)); exact BK547.out⟩, ⟨by (with_reducible repeat (first | refine blk_drewN ?_ _ | refine blk_drew ?_ | refine blk_alloc ?_ _)); refine blk_far ?_ NB555_537.out _; (with_reducible repeat (first | refine blk_drewN ?_ _ | refine blk_drew ?_ | refine blk_alloc ?_ _)); refine blk_far ?_ NB555_537.out _; (with_reducible repeat (first | refine blk_drewN ?_ _ | refine blk_drew ?_ | refine blk_alloc ?_ _)); exact BK555.out⟩, ⟨by repeat (first | (with_reducible first | exact HB.out | apply below_alloc | apply pw_below_drewN | apply below_drew1 | refine below_set ?_ GE537.out | refine below_set ?_ GE547.out | refine below_set ?_ GE555.out) | exact HB.out)⟩⟩
        ·
         rw [if_neg c72] at H
         have c72b0 : (t543 == 2) = false := beq_eq_false_iff_ne.mpr c72
         have c72b1 : (t543 != 2) = true := bne_iff_ne.mpr c72
         (first | rw [c72b0] | (simp only [i64_w, i32_w]; rw [c72b0]) | skip)
         have H' := Aside0.mk H
         clear H
         go_wp2
         go_meet
         case rel => exact ⟨_, ((t543 == 3)), ok_, H', ⟨by have := HK1.out; first | omega | exact Nat.le_refl _⟩, ⟨by (with_reducible repeat (first | apply Kd.R_alloc | apply Kd.R_drewN | apply Kd.R_drew)); exact Kd.R_mono (Kd.R_far (p := ⟨gb537, 1, none⟩) (Kd.R_far (p := ⟨gb537, 0, none⟩) (Kd.R_types HO_6.out BK537.out (by decide)) (fun _ hk => hk.2) (.slice Ao68 t556.length co68)) (fun _ hk => hk.2) (.slice Ao70 t559.length co70)) (fun _ hk => trivial)⟩, ⟨by (with_reducible repeat (first | apply Kd.R_alloc | apply Kd.R_drewN | apply Kd.R_drew)); exact Kd.R_mono (Kd.R_far (p := ⟨gb537, 1, none⟩) (Kd.R_far (p := ⟨gb537, 0, none⟩) (Kd.R_types HO558.out BK537.out (by decide)) (fun _ hk => hk.2) (.slice Ao68 t556.length co68)) (fun _ hk => hk.2) (.slice Ao70 t559.length co70)) (fun _ hk => hk.1.2)⟩, ⟨by (with_reducible repeat (first | apply Kd.R_alloc | apply Kd.R_drewN | apply Kd.R_drew)); exact Kd.R_mono (Kd.R_far (p := ⟨gb537, 1, none⟩) (Kd.R_far (p := ⟨gb537, 0, none⟩) (Kd.R_types HO561.out BK537.out (by decide)) (fun _ hk => hk.2) (.slice Ao68 t556.length co68)) (fun _ hk => hk.2) (.slice Ao70 t559.length co70)) (fun _ hk => hk.1.2)⟩, ⟨by (with_reducible repeat (first | apply Kd.R_alloc | apply Kd.R_drewN | apply Kd.R_drew)); exact Kd.R_mono (Kd.R_far (p := ⟨gb537, 1, none⟩) (Kd.R_far (p := ⟨gb537, 0, none⟩) (Kd.R_types HO550.out BK537.out (by decide)) (fun _ hk => hk.2) (.slice Ao68 t556.length co68)) (fun _ hk => hk.2) (.slice Ao70 t559.length co70)) (fun _ hk => hk.1.2)⟩, ⟨by (with_reducible repeat (first | apply Kd.R_alloc | apply Kd.R_drewN | apply Kd.R_drew)); exact Kd.R_mono (Kd.R_far (p := ⟨gb537, 1, none⟩) (Kd.R_far (p := ⟨gb537, 0, none⟩) (Kd.R_types HO553.out BK537.out (by decide)) (fun _ hk => hk.2) (.slice Ao68 t556.length co68)) (fun _ hk => hk.2) (.slice Ao70 t559.length co70)) (fun _ hk => hk.1.2)⟩, ⟨by (with_reducible repeat (first | refine blk_drewN ?_ _ | refine blk_drew ?_ | refine blk_alloc ?_ _)); refine blk_put (cs := #[.slice Ao68 t556.length co68, .slice Ao58 x538001_1.length co58]) ?_ 1 _ rfl; (with_reducible repeat (first | refine blk_drewN ?_ _ | refine blk_drew ?_ | refine blk_alloc ?_ _)); refine blk_put (cs := #[.slice Ao57 x538000_1.length co57, .slice Ao58 x538001_1.length co58]) ?_ 0 _ rfl; (with_reducible repeat (first | refine blk_drewN ?_ _ | refine blk_drew ?_ | refine blk_alloc ?_ _)); exact BK537.out⟩, ⟨by (with_reducible repeat (first | refine blk_drewN ?_ _ | refine blk_drew ?_ | refine blk_alloc ?_ _)); refine blk_far ?_ NB547_537.out _; (with_reducible repeat (first | refine blk_drewN ?_ _ | refine blk_drew ?_ | refine blk_alloc ?_ _)); refine blk_far ?_ NB547_537.out _; (with_reducible repeat (first | refine blk_drewN ?_ _ | refine blk_drew ?_ | refine blk_alloc ?_ _)); exact BK547.out⟩, ⟨by (with_reducible repeat (first | refine blk_drewN ?_ _ | refine blk_drew ?_ | refine blk_alloc ?_ _)); refine blk_far ?_ NB555_537.out _; (with_reducible repeat (first | refine blk_drewN ?_ _ | refine blk_drew ?_ | refine blk_alloc ?_ _)); refine blk_far ?_ NB555_537.out _; (with_reducible repeat (first | refine blk_drewN ?_ _ | refine blk_drew ?_ | refine blk_alloc ?_ _)); exact BK555.out⟩, ⟨by repeat (first | (with_reducible first | exact HB.out | apply below_alloc | apply pw_below_drewN | apply below_drew1 | refine below_set ?_ GE537.out | refine below_set ?_ GE547.out | refine below_set ?_ GE555.out) | exact HB.out)⟩⟩
       case rest =>
        clear HC45
        try clear c2
        try clear c5
        try clear c13
        try clear c18
        try clear c18b0
        try clear c18b1
        try clear hcz55_0
        try clear hcz55_1
        try clear hcz56_0
        try clear hcz56_1
        try clear hcz56_2
        try clear hcz56_3
        try clear hcz64_0
        try clear hcz64_1
        try clear hcz64_2
        try clear hcz66_0
        try clear hcz66_1
        try clear hcz69_0
        try clear hcz69_1
        try clear hcz71_0
        try clear hcz71_1
        try clear hcz71_2
        try clear hcz71_3
        try clear hfz55_0
        try clear hfz55_1
        try clear hfz56_0
        try clear hfz56_1
        try clear hfz56_2
        try clear hfz56_3
        try clear hfz64_0
        try clear hfz64_1
        try clear hfz64_2
        try clear hfz66_0
        try clear hfz66_1
        try clear hfz69_0
        try clear hfz69_1
        try clear hfz71_0
        try clear hfz71_1
        try clear hfz71_2
        try clear hfz71_3
        try clear hx541_0
        try clear hx542_0
        try clear p541
        try clear p542
        try clear q541
        try clear q542
        obtain ⟨kq, x54_44, rfl, HA, HJ44, HO_6, HO_538000, HO_538001, HO_556000, HO_556001, BK537, BK547, BK555, HB⟩ := hcut
        cases kq with
        | zero => exact absurd HA.out (by simp [deaddroplaw10_ReadAlone.j1])
        | succ kj44 =>
         have H := HA.out
         clear HA
         simp only [deaddroplaw10_ReadAlone.j1] at H
         by_cases c73 : x54_44 = true
         ·
          subst c73
          have H1 : (if 0 < (t545.size : Int) then (if 0 ≤ (((bt t545 0) - 97) % 256) then (if (((bt t545 0) - 97) % 256) < (x6_1.length : Int) then (deaddroplaw10_ReadAlone.l0 kj44 l0 x4_1 x5_1 (x6_1.set ((((bt t545 0) - 97) % 256) : Int).toNat (t543 == 2)) (wrap64 (x7_1 + 2)) t556 t559) else (none)) else (none)) else (none)) = some r := by rw [if_pos rfl] at H; exact H
          clear H
          have H := H1
          clear H1
          by_cases c74 : 0 < (t545.size : Int)
          rotate_left
          ·
           rw [if_neg c74] at H
           exact absurd H (by simp)
          rw [if_pos c74] at H
          have c74b0 : decide (0 < (t545.size : Int)) = true := decide_eq_true c74
          have c74b1 : decide (0 < t545.size) = true := decide_eq_true (by omega)
          clear c74
          obtain ⟨ji76, hji76⟩ : ∃ j_ : Int, (((bt t545 0) - 97) % 256) = j_ := ⟨_, rfl⟩
          replace H : (if 0 ≤ (ji76) then (if (ji76) < (x6_1.length : Int) then (deaddroplaw10_ReadAlone.l0 kj44 l0 x4_1 x5_1 (x6_1.set ((ji76) : Int).toNat (t543 == 2)) (wrap64 (x7_1 + 2)) t556 t559) else (none)) else (none)) = some r := by first | (rw [hji76] at H; exact H) | (simp only [hji76] at H ⊢; exact H)
          by_cases c77 : 0 ≤ (ji76)
          rotate_left
          ·
           rw [if_neg c77] at H
           exact absurd H (by simp)
          rw [if_pos c77] at H
          have c77b0 : decide (0 ≤ (ji76)) = true := decide_eq_true c77
          clear c77
          by_cases c78 : (ji76) < (x6_1.length : Int)
          rotate_left
          ·
           rw [if_neg c78] at H
           exact absurd H (by simp)
          rw [if_pos c78] at H
          have c78b0 : decide ((ji76) < (x6_1.length : Int)) = true := decide_eq_true c78
          clear c78
          obtain ⟨y562, hy562⟩ : ∃ y_ : List Bool, y_ = (x6_1.set ((ji76) : Int).toNat (t543 == 2)) := ⟨_, rfl⟩
          replace H : (deaddroplaw10_ReadAlone.l0 kj44 l0 x4_1 x5_1 y562 (wrap64 (x7_1 + 2)) t556 t559) = some r := by first | (rw [hy562]; with_reducible exact H) | (have H2_ := (Option.bind_some _ _).symm.trans H; rw [hy562]; with_reducible exact H2_) | (have H2_ := (Option.bind_some _ _).symm.trans H; with_reducible exact H2_) | with_reducible exact H | (rw [hy562]; exact H) | exact H
          have Ny562 := Aside0.mk hy562
          clear hy562
          have H' := Aside0.mk H
          clear H
          try go_wp2
          replace HO_6 := Aside0.mk (Kd.R_drew HO_6.out)
          replace HO_538000 := Aside0.mk (Kd.R_drew HO_538000.out)
          replace HO_538001 := Aside0.mk (Kd.R_drew HO_538001.out)
          replace HO_556000 := Aside0.mk (Kd.R_drew HO_556000.out)
          replace HO_556001 := Aside0.mk (Kd.R_drew HO_556001.out)
          replace BK537 := Aside0.mk (blk_drew BK537.out)
          replace BK547 := Aside0.mk (blk_drew BK547.out)
          replace BK555 := Aside0.mk (blk_drew BK555.out)
          replace HB := Aside0.mk (below_drew1 HB.out)
          have p75 : 0 ≤ (0 : Int) := (by omega)
          have q75 : 0 < t545.size := (by have : (0 : Int) < (t545.size : Int) := of_decide_eq_true as_; omega)
          have hx75 : ∀ h : 0 < t545.size, ((t545[0]'h).toNat : Int) = bt t545 0 := bt_at t545 0
          clear p75
          have qi75 : (0 < (t545.size : Int)) = True := eq_true (of_decide_eq_true as_)
          replace q75 := eq_true q75
          have p79 : 0 ≤ ((ji76) : Int) := of_decide_eq_true as_
          have q79 : ((ji76) : Int) < ((x6_1.length : Int) : Int) := of_decide_eq_true as_
          obtain ⟨go79, co79, eo79, gb79, gl79, cl79, HG79⟩ := Kd.R_form HO_6.out (by omega)
          (first | cases eo79 | (injection eo79 with ea_ en_ ec_; (first | subst ea_ | (injection ea_ with ea_; subst ea_)); subst ec_; clear en_))
          have GB79 := Aside0.mk gb79
          have GG79 := Aside0.mk HG79
          clear gb79 gl79 HG79
          obtain ⟨hx79_0, hf79_0⟩ := Kd.R_celln false HO_6.out ((ji76) : Int) p79 q79
          replace p79 := eq_true p79
          replace q79 := eq_true q79
          have HP81 := Kd.R_putn HO_6.out ((ji76) : Int) (t543 == 2)
          rw [← Ny562.out] at HP81
          have HQ81 := Aside0.mk HP81
          clear HP81
          refine start_ (n := 10) (S := fun w' => w'.cell? ⟨gb547, 0, none⟩ = some (.int .i64 t543) ∧ w'.cell? ⟨gb547, 1, none⟩ = some (.string t544) ∧ w'.cell? ⟨gb547, 2, none⟩ = some (.string t545) ∧ w'.cell? ⟨gb547, 3, none⟩ = some (.int .i64 t546)) (ds := [9]) (fl 0 10) (by kernel_rfl) rfl rfl ⟨(blk_cell BK547.out 0).trans rfl, (blk_cell BK547.out 1).trans rfl, (blk_cell BK547.out 2).trans rfl, (blk_cell BK547.out 3).trans rfl⟩ (fun hHeld => ?_); refine with_tabW deaddroplaw10_ReadAlone.tab21 deaddroplaw10_ReadAlone.bits21 (fun HT_ HW_ => ?_)
          generalize wc.drew = w80 at HO_6 HO_538000 HO_538001 HO_556000 HO_556001 BK537 BK547 BK555 HB GG79 HQ81 hf79_0 hx79_0 hHeld ⊢
          refine pure_ (i := 0) (N := some 57) (fl 1 10) rfl rfl (any_of HT_.out (by kernel_rfl)) (fun _ _ _ h => h) (Or.inl ⟨by rfl, py⟩) pa ?_
          refine pure_ (i := 1) (N := some 58) (fl 2 10) rfl rfl (any_of HT_.out (by kernel_rfl)) (fun _ _ _ h => h) (Or.inl ⟨by rfl, py⟩) pa ?_
          refine pure_ (i := 5) (N := some 62) #[true, true, false, false, false, true, false, false, false, false] rfl rfl (any_of HT_.out (by kernel_rfl)) (fun _ _ _ h => h) (Or.inl ⟨by rfl, py⟩) pa ?_
          refine take_ (i := 2) (N := some 59) (v := ?_) (a' := ?_) #[true, true, true, false, false, true, false, false, false, false] rfl rfl (take_ofW HT_.out HW_.out (by kernel_rfl)) (fun _ _ _ h => h) (Or.inl ⟨by rfl, ?_⟩) hHeld ?_ ?_
          rotate_left
          ·
           rintro w' ⟨s0, s1, s2, s3⟩
           go_simp
           with_reducible rfl
          rotate_left
          ·
           simp only [Act.put, List.setIfInBounds_toArray, List.set_cons_zero, List.set_cons_succ, i64_w, i32_w]
           rfl
          refine take_ (i := 3) (N := some 60) (v := ?_) (a' := ?_) #[true, true, true, true, false, true, false, false, false, false] rfl rfl (take_ofW HT_.out HW_.out (by kernel_rfl)) (fun _ _ _ h => h) (Or.inl ⟨by rfl, ?_⟩) hHeld ?_ ?_
          rotate_left
          ·
           rintro w' ⟨s0, s1, s2, s3⟩
           go_simp
           with_reducible rfl
          rotate_left
          ·
           simp only [Act.put, List.setIfInBounds_toArray, List.set_cons_zero, List.set_cons_succ, i64_w, i32_w]
           rfl
          refine pure_ (i := 4) (N := some 61) (fl 6 10) rfl rfl (any_of HT_.out (by kernel_rfl)) (fun _ _ _ h => h) (Or.inl ⟨by rfl, py⟩) pa ?_
          refine take_ (i := 6) (N := some 63) (v := ?_) (a' := ?_) (fl 7 10) rfl rfl (take_ofW HT_.out HW_.out (by kernel_rfl)) (fun _ _ _ h => h) (Or.inl ⟨by rfl, ?_⟩) hHeld ?_ ?_
          rotate_left
          ·
           rintro w' ⟨s0, s1, s2, s3⟩
           go_simp
           with_reducible rfl
          rotate_left
          ·
           simp only [Act.put, List.setIfInBounds_toArray, List.set_cons_zero, List.set_cons_succ, i64_w, i32_w]
           rfl
          refine pure_ (i := 7) (N := some 64) (fl 8 10) rfl rfl (any_of HT_.out (by kernel_rfl)) (fun _ _ _ h => h) (Or.inl ⟨by rfl, py⟩) pa ?_
          refine pure_ (i := 8) (N := some 65) (fl 9 10) rfl rfl (any_of HT_.out (by kernel_rfl)) (fun _ _ _ h => h) (Or.inl ⟨by rfl, py⟩) pa ?_
          refine last_ (i := 9) (N := none) (fl 10 10) rfl rfl (one_of HT_.out (by kernel_rfl)) (by decide) (fun K hK => ?_)
          refine skip_ (w1 := ?_) (by rfl) rfl ?_ ?_
          rotate_left
          ·
           go_simp
           rfl
          refine hK.out _ _ ?_
          clear hK K
          refine done_ (done_of HT_.out (by kernel_rfl)) ?_
          try go_wp2
          go_roundg kj44
          case measure => have := HK1.out; have := HJ44.out; omega
          case rel => exact ⟨(x4_1), (x5_1), (y562), (wrap64 (x7_1 + 2)), (t556), (t559), (.slice Ao68 t556.length co68), (.slice Ao70 t559.length co70), ok_, ok_, ok_, H', ⟨by have := HK1.out; have := HJ44.out; omega⟩, ⟨by (with_reducible repeat (first | apply Kd.R_alloc | apply Kd.R_drewN | apply Kd.R_drew)); exact HQ81.out⟩, ⟨by (with_reducible repeat (first | apply Kd.R_alloc | apply Kd.R_drewN | apply Kd.R_drew)); exact Kd.R_mono (Kd.R_far (p := ⟨go79, ((ji76) : Int).toNat, none⟩) (Kd.R_types HO_538000.out GG79.out (by decide)) (fun _ hk => hk.2) (.bool (t543 == 2))) (fun _ hk => trivial)⟩, ⟨by (with_reducible repeat (first | apply Kd.R_alloc | apply Kd.R_drewN | apply Kd.R_drew)); exact Kd.R_mono (Kd.R_far (p := ⟨go79, ((ji76) : Int).toNat, none⟩) (Kd.R_types HO_538001.out GG79.out (by decide)) (fun _ hk => hk.2) (.bool (t543 == 2))) (fun _ hk => trivial)⟩, ⟨by (with_reducible repeat (first | refine blk_drewN ?_ _ | refine blk_drew ?_ | refine blk_alloc ?_ _)); refine blk_far ?_ (by have h_ := Kd.R_ne HO_6.out BK537.out (by decide); intro e_; exact h_ (by rw [e_]; rfl)) _; (with_reducible repeat (first | refine blk_drewN ?_ _ | refine blk_drew ?_ | refine blk_alloc ?_ _)); exact BK537.out⟩, ⟨by repeat (first | (with_reducible first | exact HB.out | apply below_alloc | apply pw_below_drewN | apply below_drew1 | refine below_set ?_ GB79.out | refine below_set ?_ GE537.out | refine below_set ?_ GE547.out | refine below_set ?_ GE555.out) | exact HB.out)⟩⟩
         ·
          replace c73 := Bool.eq_false_iff.mpr c73
          subst c73
          have H1 : (if t543 = 4 then (deaddroplaw10_ReadAlone.l0 kj44 l0 x4_1 (wrap64 (x5_1 + t546)) x6_1 (wrap64 (x7_1 + 2)) t556 t559) else (if 5 ≤ 281474976710656 then (deaddroplaw10_ReadAlone.l0 kj44 l0 (⟨#[]⟩ : ByteArray) 0 (List.replicate 5 false) (wrap64 (x7_1 + 2)) t556 t559) else (none))) = some r := by rw [if_neg (show ¬ (false = true) by decide)] at H; exact H
          clear H
          have H := H1
          clear H1
          by_cases c82 : t543 = 4
          ·
           rw [if_pos c82] at H
           have c82b0 : (t543 == 4) = true := beq_iff_eq.mpr c82
           have c82b1 : (t543 != 4) = false := bne_eq_false_iff_eq.mpr c82
           clear c82
           have H' := Aside0.mk H
           clear H
           have hnb83 := NB547_537.out
           have hnc83 := NB537_547.out
           have hnb84 := NB547_555.out
           have hnc84 := NB555_547.out
           have hcz85_0 : wc.cell? ⟨gb547, 0, none⟩ = some (.int .i64 t543) := (blk_cell BK547.out 0).trans rfl
           have hcz85_1 : wc.cell? ⟨gb547, 1, none⟩ = some (.string t544) := (blk_cell BK547.out 1).trans rfl
           have hcz85_2 : wc.cell? ⟨gb547, 2, none⟩ = some (.string t545) := (blk_cell BK547.out 2).trans rfl
           have hcz85_3 : wc.cell? ⟨gb547, 3, none⟩ = some (.int .i64 t546) := (blk_cell BK547.out 3).trans rfl
           have hfz85_0 := blk_frozen BK547.out 0
           have hfz85_1 := blk_frozen BK547.out 1
           have hfz85_2 := blk_frozen BK547.out 2
           have hfz85_3 := blk_frozen BK547.out 3
           go_wp2
           go_roundg kj44
           case measure => have := HK1.out; have := HJ44.out; omega
           case rel => exact ⟨(x4_1), (wrap64 (x5_1 + t546)), (x6_1), (wrap64 (x7_1 + 2)), (t556), (t559), (.slice Ao68 t556.length co68), (.slice Ao70 t559.length co70), ok_, ok_, ok_, H', ⟨by have := HK1.out; have := HJ44.out; omega⟩, ⟨by (with_reducible repeat (first | apply Kd.R_alloc | apply Kd.R_drewN | apply Kd.R_drew)); exact HO_6.out⟩, ⟨by (with_reducible repeat (first | apply Kd.R_alloc | apply Kd.R_drewN | apply Kd.R_drew)); exact Kd.R_mono HO_538000.out (fun _ hk => trivial)⟩, ⟨by (with_reducible repeat (first | apply Kd.R_alloc | apply Kd.R_drewN | apply Kd.R_drew)); exact Kd.R_mono HO_538001.out (fun _ hk => trivial)⟩, ⟨by (with_reducible repeat (first | refine blk_drewN ?_ _ | refine blk_drew ?_ | refine blk_alloc ?_ _)); exact BK537.out⟩, ⟨by repeat (first | (with_reducible first | exact HB.out | apply below_alloc | apply pw_below_drewN | apply below_drew1 | refine below_set ?_ GE537.out | refine below_set ?_ GE547.out | refine below_set ?_ GE555.out) | exact HB.out)⟩⟩
          ·
           rw [if_neg c82] at H
           have c82b0 : (t543 == 4) = false := beq_eq_false_iff_ne.mpr c82
           have c82b1 : (t543 != 4) = true := bne_iff_ne.mpr c82
           by_cases c86 : 5 ≤ 281474976710656
           rotate_left
           ·
            rw [if_neg c86] at H
            exact absurd H (by simp)
           rw [if_pos c86] at H
           have c86b0 := eq_true c86
           have c86b1 : decide (5 ≤ 281474976710656) = true := decide_eq_true c86
           clear c86
           obtain ⟨y563, hy563⟩ : ∃ y_ : List Bool, y_ = (List.replicate 5 false) := ⟨_, rfl⟩
           replace H : (deaddroplaw10_ReadAlone.l0 kj44 l0 (⟨#[]⟩ : ByteArray) 0 y563 (wrap64 (x7_1 + 2)) t556 t559) = some r := by first | (rw [hy563]; with_reducible exact H) | (have H2_ := (Option.bind_some _ _).symm.trans H; rw [hy563]; with_reducible exact H2_) | (have H2_ := (Option.bind_some _ _).symm.trans H; with_reducible exact H2_) | with_reducible exact H | (rw [hy563]; exact H) | exact H
           have Ny563 := Aside0.mk hy563
           clear hy563
           have H' := Aside0.mk H
           clear H
           go_wp2_with (first | ((with_reducible refine gate_dst (N := 49) rfl ?_); (try (refine gate_guard (by rfl) ?_; dsimp only)); refine Kd.R_make Kd.bool _ 4 rfl (N := 49) rfl 38 _ _ rfl 5 rfl rfl Try.underlying38 (.bool false) 1 info4 rfl (by decide) (by omega) false (ok := fun _ => True) (okp := fun _ => True) rfl (fun _ hk => hk) trivial (by omega) (by omega) (Below.refl _ _) (Nat.le_refl _) ?_; intro v564 w87 ho88 hb hg_ hnew_; clear hg_ hnew_; (first | rw [← Ny563.out] at ho88 | (simp only [Int.reduceToNat] at ho88; rw [← Ny563.out] at ho88)); replace HO_538000 := Aside0.mk (Kd.R_below (rk HO_538000.out) hb); replace HO_538001 := Aside0.mk (Kd.R_below (rk HO_538001.out) hb); replace HO_556000 := Aside0.mk (Kd.R_below (rk HO_556000.out) hb); replace HO_556001 := Aside0.mk (Kd.R_below (rk HO_556001.out) hb); have HO565 := Aside0.mk (Kd.R_lower (Kd.R_new' ho88 (Kd.R_lt (rk HO_6.out))) (below_size (bw3 HB.out GE537.out GE547.out GE555.out))); replace HO_6 := Aside0.mk (Kd.R_elder' (rk HO_6.out) (Kd.R_base ho88) hb); replace BK537 := Aside0.mk (blk_below (g := gb537) (o := .cells #[.slice Ao68 t556.length co68, .slice Ao70 t559.length co70] 28 (0, 0)) (bk BK537.out) hb); replace BK547 := Aside0.mk (blk_below (g := gb547) (o := .cells #[.int .i64 t543, .string t544, .string t545, .int .i64 t546] 40 (0, 0)) (bk BK547.out) hb); replace BK555 := Aside0.mk (blk_below (g := gb555) (o := .cells #[.slice Ao61 t548.length co61, .slice Ao65 t551.length co65, .int .i64 t554] 43 (0, 0)) (bk BK555.out) hb); replace HB := Aside0.mk (below_step (bw3 HB.out GE537.out GE547.out GE555.out) hb); clear hb ho88))
           go_roundg kj44
           case measure => have := HK1.out; have := HJ44.out; omega
           case rel => exact ⟨((⟨#[]⟩ : ByteArray)), (0), (y563), (wrap64 (x7_1 + 2)), (t556), (t559), (.slice Ao68 t556.length co68), (.slice Ao70 t559.length co70), ok_, ok_, ok_, H', ⟨by have := HK1.out; have := HJ44.out; omega⟩, ⟨by (with_reducible repeat (first | apply Kd.R_alloc | apply Kd.R_drewN | apply Kd.R_drew)); exact Kd.R_mono HO565.out (fun _ hk => trivial)⟩, ⟨by (with_reducible repeat (first | apply Kd.R_alloc | apply Kd.R_drewN | apply Kd.R_drew)); exact Kd.R_mono HO_538000.out (fun _ hk => trivial)⟩, ⟨by (with_reducible repeat (first | apply Kd.R_alloc | apply Kd.R_drewN | apply Kd.R_drew)); exact Kd.R_mono HO_538001.out (fun _ hk => trivial)⟩, ⟨by (with_reducible repeat (first | refine blk_drewN ?_ _ | refine blk_drew ?_ | refine blk_alloc ?_ _)); exact BK537.out⟩, ⟨by repeat (first | (with_reducible first | exact HB.out | apply below_alloc | apply pw_below_drewN | apply below_drew1 | refine below_set ?_ GE537.out | refine below_set ?_ GE547.out | refine below_set ?_ GE555.out) | exact HB.out)⟩⟩
     ·
      rw [if_neg c16] at H
      have c16b0 : (t554 == 0) = false := beq_eq_false_iff_ne.mpr c16
      have c16b1 : (t554 != 0) = true := bne_iff_ne.mpr c16
      have H' := Aside0.mk H
      clear H
      try go_wp2
      replace HO_6 := Aside0.mk (Kd.R_drew HO_6.out)
      replace HO_538000 := Aside0.mk (Kd.R_drew HO_538000.out)
      replace HO_538001 := Aside0.mk (Kd.R_drew HO_538001.out)
      replace BK537 := Aside0.mk (blk_drew BK537.out)
      replace HB := Aside0.mk (below_drew1 HB.out)
      have p541 : 0 ≤ (x7_1 : Int) := of_decide_eq_true as_
      have q541 : x7_1 < (l0.length : Int) := of_decide_eq_true as_
      obtain ⟨ad541, e541, hx541_0⟩ := Kd.at_int HR0.out x7_1 p541 q541
      have hw541_0 := hx541_0
      cases e541
      replace hx541_0 := (HB.out.cell (World.block_lt_of_cell? w _ hx541_0)).trans hx541_0
      replace p541 := eq_true p541
      replace q541 := eq_true q541
      have p542 : 0 ≤ ((ji12) : Int) := of_decide_eq_true as_
      have q542 : (ji12) < (l0.length : Int) := of_decide_eq_true as_
      obtain ⟨ad542, e542, hx542_0⟩ := Kd.at_int HR0.out (ji12) p542 q542
      have hw542_0 := hx542_0
      obtain rfl : ad541 = ad542 := (by injection e542)
      replace hx542_0 := (HB.out.cell (World.block_lt_of_cell? w _ hx542_0)).trans hx542_0
      replace p542 := eq_true p542
      replace q542 := eq_true q542
      refine start_ (n := 13) (S := fun w' => w'.cell? (ad541.add (x7_1).toNat) = some (.int .u8 (rd l0 x7_1)) ∧ w'.cell? (ad541.add ((ji12)).toNat) = some (.int .u8 (rd l0 (ji12)))) (ds := []) (fl 0 13) (by kernel_rfl) rfl rfl ⟨(bc HB.out hw541_0), (bc HB.out hw542_0)⟩ (fun hHeld => ?_); refine with_tabW deaddroplaw10_ReadAlone.tab9 deaddroplaw10_ReadAlone.bits9 (fun HT_ HW_ => ?_)
      generalize wr.drew = w89 at HO_6 HO_538000 HO_538001 BK537 HB hx541_0 hx542_0 hHeld ⊢
      refine pure_ (i := 0) (N := some 26) (fl 1 13) rfl rfl (any_of HT_.out (by kernel_rfl)) (fun _ _ _ h => h) (Or.inl ⟨by rfl, py⟩) pa ?_
      refine pure_ (i := 1) (N := some 27) (fl 2 13) rfl rfl (any_of HT_.out (by kernel_rfl)) (fun _ _ _ h => h) (Or.inl ⟨by rfl, py⟩) pa ?_
      refine pure_ (i := 2) (N := some 28) (fl 3 13) rfl rfl (any_of HT_.out (by kernel_rfl)) (fun _ _ _ h => h) (Or.inl ⟨by rfl, py⟩) pa ?_
      refine pure_ (i := 5) (N := some 31) #[true, true, true, false, false, true, false, false, false, false, false, false, false] rfl rfl (any_of HT_.out (by kernel_rfl)) (fun _ _ _ h => h) (Or.inl ⟨by rfl, py⟩) pa ?_
      refine pure_ (i := 6) (N := some 32) #[true, true, true, false, false, true, true, false, false, false, false, false, false] rfl rfl (any_of HT_.out (by kernel_rfl)) (fun _ _ _ h => h) (Or.inl ⟨by rfl, py⟩) pa ?_
      refine pure_ (i := 7) (N := some 33) #[true, true, true, false, false, true, true, true, false, false, false, false, false] rfl rfl (any_of HT_.out (by kernel_rfl)) (fun _ _ _ h => h) (Or.inl ⟨by rfl, py⟩) pa ?_
      refine pure_ (i := 8) (N := some 34) #[true, true, true, false, false, true, true, true, true, false, false, false, false] rfl rfl (any_of HT_.out (by kernel_rfl)) (fun _ _ _ h => h) (Or.inl ⟨by rfl, py⟩) pa ?_
      refine take_ (i := 3) (N := some 29) (v := ?_) (a' := ?_) #[true, true, true, true, false, true, true, true, true, false, false, false, false] rfl rfl (take_ofW HT_.out HW_.out (by kernel_rfl)) (fun _ _ _ h => h) (Or.inl ⟨by rfl, ?_⟩) hHeld ?_ ?_
      rotate_left
      ·
       rintro w' ⟨s0, s1⟩
       go_simp
       with_reducible rfl
      rotate_left
      ·
       simp only [Act.put, List.setIfInBounds_toArray, List.set_cons_zero, List.set_cons_succ, i64_w, i32_w]
       rfl
      refine pure_ (i := 4) (N := some 30) (fl 9 13) rfl rfl (any_of HT_.out (by kernel_rfl)) (fun _ _ _ h => h) (Or.inl ⟨by rfl, py⟩) pa ?_
      refine take_ (i := 9) (N := some 35) (v := ?_) (a' := ?_) (fl 10 13) rfl rfl (take_ofW HT_.out HW_.out (by kernel_rfl)) (fun _ _ _ h => h) (Or.inl ⟨by rfl, ?_⟩) hHeld ?_ ?_
      rotate_left
      ·
       rintro w' ⟨s0, s1⟩
       go_simp
       with_reducible rfl
      rotate_left
      ·
       simp only [Act.put, List.setIfInBounds_toArray, List.set_cons_zero, List.set_cons_succ, i64_w, i32_w]
       rfl
      refine join_ (σ := Nat) 1 (fl 12 13) (fun s_ => [(36, .agg #[.int .i64 t543, .string t544, .string t545, .int .i64 t546]), (8, .pointer (some ⟨s_, 0, none⟩))]) (fun s_ w' => (w'.cell? (ad541.add (x7_1).toNat) = some (.int .u8 (rd l0 x7_1)) ∧ w'.cell? (ad541.add ((ji12)).toNat) = some (.int .u8 (rd l0 (ji12)))) ∧ (Kd.R k70 70 w' w.heap.size (fun _ => True) u538000 x538000_1) ∧ (Kd.R k34 34 w' w.heap.size (fun _ => True) u538001 x538001_1) ∧ (Kd.R Kd.bool 4 w' w.heap.size (fun _ => True) u6 x6_1) ∧ (w'.heap[gb537]? = some (.cells #[u538000, u538001] 28 (0, 0))) ∧ (w'.heap[s_]? = some (.cells #[.int .i64 0, .string (⟨#[]⟩ : ByteArray), .string (⟨#[]⟩ : ByteArray), .int .i64 0] 40 (0, 0))) ∧ (w.heap.size ≤ s_) ∧ (w.heap.size ≤ s_) ∧ (gb537 ≠ s_) ∧ (s_ ≠ gb537) ∧ (Below w.heap.size w w')) ?_ ?_
      rotate_left
      ·
       intro hCont
       refine two_ (i := 10) (j := 11) (Ni := some 36) (Nj := some 8) (fl 11 13) #[true, true, true, true, true, true, true, true, true, true, false, true, false] rfl rfl rfl rfl (two_of HT_.out (by kernel_rfl)) (by decide) (by decide) (fun K hK => ?_) (fun K hK => ?_)
       ·
        skip
        refine goes_ Try.func12 (by kernel_rfl) rfl #[.int .u8 (Int.tmod (rd l0 x7_1) 5), .int .u8 (rd l0 (ji12))] (by rfl) rfl rfl (by (try simp only [List.map_toArray, List.map_cons, List.map_nil]); first | done | (simp only [hji12]; rfl) | rfl | (simp only [List.length_drop, List.length_take]; rfl)) ?_
        with_reducible refine (deaddroplaw8_Op.calls (Int.tmod (rd l0 x7_1) 5) (rd l0 (ji12)) t543 t544 t545 t546 _ A14.out).mono ?_
        rintro e w90 ⟨rfl, hb⟩
        refine ⟨_, rfl, ?_⟩
        replace HO_6 := Aside0.mk (Kd.R_below (rk HO_6.out) hb)
        replace HO_538000 := Aside0.mk (Kd.R_below (rk HO_538000.out) hb)
        replace HO_538001 := Aside0.mk (Kd.R_below (rk HO_538001.out) hb)
        replace BK537 := Aside0.mk (blk_below (g := gb537) (o := .cells #[u538000, u538001] 28 (0, 0)) (bk BK537.out) hb)
        replace HB := Aside0.mk (below_step (bw1 HB.out GE537.out) hb)
        (try clear hb)
        (try clear hb2)
        (try clear hk)
        (try clear hi)
        refine hK.out _ _ ⟨(bc HB.out hw541_0), (bc HB.out hw542_0)⟩ (fun hHeld => ?_)
        clear hK K
        refine norm_ (a' := ?_) ?_ ?_
        rotate_left
        ·
         show Act.put _ (some 36) _ = _
         simp only [Act.put, List.setIfInBounds_toArray, List.set_cons_zero, List.set_cons_succ, i64_w, i32_w]
         rfl
        refine one_ (i := 11) (N := some 8) (fl 12 13) rfl rfl (one_of HT_.out (by kernel_rfl)) (by decide) (fun K hK => ?_)
        refine box_step ?hg (N := 8) ?hd (cs := #[.int .i64 0, .string (⟨#[]⟩ : ByteArray), .string (⟨#[]⟩ : ByteArray), .int .i64 0]) (t := 40) ?hr ?_; (case hd => rfl); (case hg => rfl); (case hr => first | (go_simp; done) | (go_simp; rfl))
        intro gb547 hg w91 hbox hb
        replace HO_6 := Aside0.mk (Kd.R_below (rk HO_6.out) hb)
        replace HO_538000 := Aside0.mk (Kd.R_below (rk HO_538000.out) hb)
        replace HO_538001 := Aside0.mk (Kd.R_below (rk HO_538001.out) hb)
        have BK547 := Aside0.mk (hbox)
        have GW547 := Aside0.mk ((by rw [hg]; exact (below_size (bw1 HB.out GE537.out)) : w.heap.size ≤ gb547))
        have GE547 := Aside0.mk ((by rw [hg]; exact (below_size (bw1 HB.out GE537.out)) : w.heap.size ≤ gb547))
        replace HB := Aside0.mk (below_step (bw1 HB.out GE537.out) hb)
        have NB537_547 := Aside0.mk ((by rw [hg]; exact Nat.ne_of_lt (blk_lt (g := gb537) (o := .cells #[u538000, u538001] 28 (0, 0)) (bk BK537.out)) : gb537 ≠ gb547))
        have NB547_537 := Aside0.mk ((by rw [hg]; exact Nat.ne_of_gt (blk_lt (g := gb537) (o := .cells #[u538000, u538001] 28 (0, 0)) (bk BK537.out)) : gb547 ≠ gb537))
        replace BK537 := Aside0.mk (blk_below (g := gb537) (o := .cells #[u538000, u538001] 28 (0, 0)) (bk BK537.out) hb)
        clear hb hbox hg
        refine hK.out _ _ ⟨(bc HB.out hw541_0), (bc HB.out hw542_0)⟩ (fun hHeld => ?_)
        clear hK K
        refine norm_ (a' := ?_) ?_ ?_
        rotate_left
        ·
         show Act.put _ (some 8) _ = _
         simp only [Act.put, List.setIfInBounds_toArray, List.set_cons_zero, List.set_cons_succ, i64_w, i32_w]
         rfl
        exact norm_ (by simp only [putAll, Act.put, List.setIfInBounds_toArray, List.set_cons_zero, List.set_cons_succ]) (hCont (gb547) _ ⟨hHeld, (rk HO_538000.out), (rk HO_538001.out), (rk HO_6.out), (bk BK537.out), (bk BK547.out), GW547.out, GE547.out, NB537_547.out, NB547_537.out, (bw2 HB.out GE537.out GE547.out)⟩)
       ·
        skip
        refine box_step ?hg (N := 8) ?hd (cs := #[.int .i64 0, .string (⟨#[]⟩ : ByteArray), .string (⟨#[]⟩ : ByteArray), .int .i64 0]) (t := 40) ?hr ?_; (case hd => rfl); (case hg => rfl); (case hr => first | (go_simp; done) | (go_simp; rfl))
        intro gb547 hg w90 hbox hb
        replace HO_6 := Aside0.mk (Kd.R_below (rk HO_6.out) hb)
        replace HO_538000 := Aside0.mk (Kd.R_below (rk HO_538000.out) hb)
        replace HO_538001 := Aside0.mk (Kd.R_below (rk HO_538001.out) hb)
        have BK547 := Aside0.mk (hbox)
        have GW547 := Aside0.mk ((by rw [hg]; exact (below_size (bw1 HB.out GE537.out)) : w.heap.size ≤ gb547))
        have GE547 := Aside0.mk ((by rw [hg]; exact (below_size (bw1 HB.out GE537.out)) : w.heap.size ≤ gb547))
        replace HB := Aside0.mk (below_step (bw1 HB.out GE537.out) hb)
        have NB537_547 := Aside0.mk ((by rw [hg]; exact Nat.ne_of_lt (blk_lt (g := gb537) (o := .cells #[u538000, u538001] 28 (0, 0)) (bk BK537.out)) : gb537 ≠ gb547))
        have NB547_537 := Aside0.mk ((by rw [hg]; exact Nat.ne_of_gt (blk_lt (g := gb537) (o := .cells #[u538000, u538001] 28 (0, 0)) (bk BK537.out)) : gb547 ≠ gb537))
        replace BK537 := Aside0.mk (blk_below (g := gb537) (o := .cells #[u538000, u538001] 28 (0, 0)) (bk BK537.out) hb)
        clear hb hbox hg
        refine hK.out _ _ ⟨(bc HB.out hw541_0), (bc HB.out hw542_0)⟩ (fun hHeld => ?_)
        clear hK K
        refine norm_ (a' := ?_) ?_ ?_
        rotate_left
        ·
         show Act.put _ (some 8) _ = _
         simp only [Act.put, List.setIfInBounds_toArray, List.set_cons_zero, List.set_cons_succ, i64_w, i32_w]
         rfl
        refine one_ (i := 10) (N := some 36) (fl 12 13) rfl rfl (one_of HT_.out (by kernel_rfl)) (by decide) (fun K hK => ?_)
        refine goes_ Try.func12 (by kernel_rfl) rfl #[.int .u8 (Int.tmod (rd l0 x7_1) 5), .int .u8 (rd l0 (ji12))] (by rfl) rfl rfl (by (try simp only [List.map_toArray, List.map_cons, List.map_nil]); first | done | (simp only [hji12]; rfl) | rfl | (simp only [List.length_drop, List.length_take]; rfl)) ?_
        with_reducible refine (deaddroplaw8_Op.calls (Int.tmod (rd l0 x7_1) 5) (rd l0 (ji12)) t543 t544 t545 t546 _ A14.out).mono ?_
        rintro e w91 ⟨rfl, hb⟩
        refine ⟨_, rfl, ?_⟩
        replace HO_6 := Aside0.mk (Kd.R_below (rk HO_6.out) hb)
        replace HO_538000 := Aside0.mk (Kd.R_below (rk HO_538000.out) hb)
        replace HO_538001 := Aside0.mk (Kd.R_below (rk HO_538001.out) hb)
        replace BK537 := Aside0.mk (blk_below (g := gb537) (o := .cells #[u538000, u538001] 28 (0, 0)) (bk BK537.out) hb)
        replace BK547 := Aside0.mk (blk_below (g := gb547) (o := .cells #[.int .i64 0, .string (⟨#[]⟩ : ByteArray), .string (⟨#[]⟩ : ByteArray), .int .i64 0] 40 (0, 0)) (bk BK547.out) hb)
        replace HB := Aside0.mk (below_step (bw2 HB.out GE537.out GE547.out) hb)
        (try clear hb)
        (try clear hb2)
        (try clear hk)
        (try clear hi)
        refine hK.out _ _ ⟨(bc HB.out hw541_0), (bc HB.out hw542_0)⟩ (fun hHeld => ?_)
        clear hK K
        refine norm_ (a' := ?_) ?_ ?_
        rotate_left
        ·
         show Act.put _ (some 36) _ = _
         simp only [Act.put, List.setIfInBounds_toArray, List.set_cons_zero, List.set_cons_succ, i64_w, i32_w]
         rfl
        exact norm_ (by simp only [putAll, Act.put, List.setIfInBounds_toArray, List.set_cons_zero, List.set_cons_succ]) (hCont (gb547) _ ⟨hHeld, (rk HO_538000.out), (rk HO_538001.out), (rk HO_6.out), (bk BK537.out), (bk BK547.out), GW547.out, GE547.out, NB537_547.out, NB547_537.out, (bw2 HB.out GE537.out GE547.out)⟩)
      rintro gb547 w92 ⟨hS_, h0_, h1_, h2_, h3_, h4_, h5_, h6_, h7_, h8_, h9_⟩
      have n0_ : Aside0 (Kd.R k70 70 w92 w.heap.size (fun _ => True) u538000 x538000_1) := ⟨h0_⟩
      have n1_ : Aside0 (Kd.R k34 34 w92 w.heap.size (fun _ => True) u538001 x538001_1) := ⟨h1_⟩
      have n2_ : Aside0 (Kd.R Kd.bool 4 w92 w.heap.size (fun _ => True) u6 x6_1) := ⟨h2_⟩
      have n3_ : Aside0 (w92.heap[gb537]? = some (.cells #[u538000, u538001] 28 (0, 0))) := ⟨h3_⟩
      have n4_ : Aside0 (w92.heap[gb547]? = some (.cells #[.int .i64 0, .string (⟨#[]⟩ : ByteArray), .string (⟨#[]⟩ : ByteArray), .int .i64 0] 40 (0, 0))) := ⟨h4_⟩
      have n5_ : Aside0 (w.heap.size ≤ gb547) := ⟨h5_⟩
      have n6_ : Aside0 (w.heap.size ≤ gb547) := ⟨h6_⟩
      have n7_ : Aside0 (gb537 ≠ gb547) := ⟨h7_⟩
      have n8_ : Aside0 (gb547 ≠ gb537) := ⟨h8_⟩
      have n9_ : Aside0 (Below w.heap.size w w92) := ⟨h9_⟩
      clear HO_6
      clear HO_538000
      clear HO_538001
      clear BK537
      clear HB
      clear h0_ h1_ h2_ h3_ h4_ h5_ h6_ h7_ h8_ h9_
      have HO_538000 := n0_
      have HO_538001 := n1_
      have HO_6 := n2_
      have BK537 := n3_
      have BK547 := n4_
      have GW547 := n5_
      have GE547 := n6_
      have NB537_547 := n7_
      have NB547_537 := n8_
      have HB := n9_
      clear n0_ n1_ n2_ n3_ n4_ n5_ n6_ n7_ n8_ n9_
      have hHeld : w92.cell? (ad541.add (x7_1).toNat) = some (.int .u8 (rd l0 x7_1)) ∧ w92.cell? (ad541.add ((ji12)).toNat) = some (.int .u8 (rd l0 (ji12))) := hS_
      refine norm_ (a' := ?_) ?_ ?_
      rotate_left
      ·
       simp only [putAll, Act.put, List.setIfInBounds_toArray, List.set_cons_zero, List.set_cons_succ]
       rfl
      refine one_ (i := 12) (N := none) (fl 13 13) rfl rfl (one_of HT_.out (by kernel_rfl)) (by decide) (fun K hK => ?_)
      have hs93 : w92.cell? ⟨gb547, 0, none⟩ = some (.int .i64 0) := (blk_cell BK547.out 0).trans rfl
      have hfs93 := blk_frozen BK547.out 0
      have hns93_0 := NB537_547.out
      have hms93_0 := NB547_537.out
      have hs94 : w92.cell? ⟨gb547, 1, none⟩ = some (.string (⟨#[]⟩ : ByteArray)) := (blk_cell BK547.out 1).trans rfl
      have hfs94 := blk_frozen BK547.out 1
      have hns94_0 := NB537_547.out
      have hms94_0 := NB547_537.out
      have hs95 : w92.cell? ⟨gb547, 2, none⟩ = some (.string (⟨#[]⟩ : ByteArray)) := (blk_cell BK547.out 2).trans rfl
      have hfs95 := blk_frozen BK547.out 2
      have hns95_0 := NB537_547.out
      have hms95_0 := NB547_537.out
      have hs96 : w92.cell? ⟨gb547, 3, none⟩ = some (.int .i64 0) := (blk_cell BK547.out 3).trans rfl
      have hfs96 := blk_frozen BK547.out 3
      have hns96_0 := NB537_547.out
      have hms96_0 := NB547_537.out
      refine skip_ (w1 := ?_) (by rfl) rfl ?_ ?_
      rotate_left
      ·
       go_simp
       rfl
      refine hK.out _ _ ⟨((cell_far (p := ⟨gb547, _, none⟩) (by first | exact Nat.ne_of_lt (Nat.lt_of_lt_of_le (by have := World.block_lt_of_cell? _ _ hw541_0; first | rwa [add_block] at this | exact this) GW547.out) | (rw [add_block]; exact Nat.ne_of_lt (Nat.lt_of_lt_of_le (by have := World.block_lt_of_cell? _ _ hw541_0; first | rwa [add_block] at this | exact this) GW547.out)) | (show (Addr.add _ _).block ≠ _; rw [add_block]; exact Nat.ne_of_lt (Nat.lt_of_lt_of_le (by have := World.block_lt_of_cell? _ _ hw541_0; first | rwa [add_block] at this | exact this) GW547.out)) | (dsimp only; exact Nat.ne_of_lt (Nat.lt_of_lt_of_le (by have := World.block_lt_of_cell? _ _ hw541_0; first | rwa [add_block] at this | exact this) GW547.out))) _).trans (((cell_far (p := ⟨gb547, _, none⟩) (by first | exact Nat.ne_of_lt (Nat.lt_of_lt_of_le (by have := World.block_lt_of_cell? _ _ hw541_0; first | rwa [add_block] at this | exact this) GW547.out) | (rw [add_block]; exact Nat.ne_of_lt (Nat.lt_of_lt_of_le (by have := World.block_lt_of_cell? _ _ hw541_0; first | rwa [add_block] at this | exact this) GW547.out)) | (show (Addr.add _ _).block ≠ _; rw [add_block]; exact Nat.ne_of_lt (Nat.lt_of_lt_of_le (by have := World.block_lt_of_cell? _ _ hw541_0; first | rwa [add_block] at this | exact this) GW547.out)) | (dsimp only; exact Nat.ne_of_lt (Nat.lt_of_lt_of_le (by have := World.block_lt_of_cell? _ _ hw541_0; first | rwa [add_block] at this | exact this) GW547.out))) _).trans (((cell_far (p := ⟨gb547, _, none⟩) (by first | exact Nat.ne_of_lt (Nat.lt_of_lt_of_le (by have := World.block_lt_of_cell? _ _ hw541_0; first | rwa [add_block] at this | exact this) GW547.out) | (rw [add_block]; exact Nat.ne_of_lt (Nat.lt_of_lt_of_le (by have := World.block_lt_of_cell? _ _ hw541_0; first | rwa [add_block] at this | exact this) GW547.out)) | (show (Addr.add _ _).block ≠ _; rw [add_block]; exact Nat.ne_of_lt (Nat.lt_of_lt_of_le (by have := World.block_lt_of_cell? _ _ hw541_0; first | rwa [add_block] at this | exact this) GW547.out)) | (dsimp only; exact Nat.ne_of_lt (Nat.lt_of_lt_of_le (by have := World.block_lt_of_cell? _ _ hw541_0; first | rwa [add_block] at this | exact this) GW547.out))) _).trans (((cell_far (p := ⟨gb547, _, none⟩) (by first | exact Nat.ne_of_lt (Nat.lt_of_lt_of_le (by have := World.block_lt_of_cell? _ _ hw541_0; first | rwa [add_block] at this | exact this) GW547.out) | (rw [add_block]; exact Nat.ne_of_lt (Nat.lt_of_lt_of_le (by have := World.block_lt_of_cell? _ _ hw541_0; first | rwa [add_block] at this | exact this) GW547.out)) | (show (Addr.add _ _).block ≠ _; rw [add_block]; exact Nat.ne_of_lt (Nat.lt_of_lt_of_le (by have := World.block_lt_of_cell? _ _ hw541_0; first | rwa [add_block] at this | exact this) GW547.out)) | (dsimp only; exact Nat.ne_of_lt (Nat.lt_of_lt_of_le (by have := World.block_lt_of_cell? _ _ hw541_0; first | rwa [add_block] at this | exact this) GW547.out))) _).trans (hHeld.1)))))))), ((cell_far (p := ⟨gb547, _, none⟩) (by first | exact Nat.ne_of_lt (Nat.lt_of_lt_of_le (by have := World.block_lt_of_cell? _ _ hw542_0; first | rwa [add_block] at this | exact this) GW547.out) | (rw [add_block]; exact Nat.ne_of_lt (Nat.lt_of_lt_of_le (by have := World.block_lt_of_cell? _ _ hw542_0; first | rwa [add_block] at this | exact this) GW547.out)) | (show (Addr.add _ _).block ≠ _; rw [add_block]; exact Nat.ne_of_lt (Nat.lt_of_lt_of_le (by have := World.block_lt_of_cell? _ _ hw542_0; first | rwa [add_block] at this | exact this) GW547.out)) | (dsimp only; exact Nat.ne_of_lt (Nat.lt_of_lt_of_le (by have := World.block_lt_of_cell? _ _ hw542_0; first | rwa [add_block] at this | exact this) GW547.out))) _).trans (((cell_far (p := ⟨gb547, _, none⟩) (by first | exact Nat.ne_of_lt (Nat.lt_of_lt_of_le (by have := World.block_lt_of_cell? _ _ hw542_0; first | rwa [add_block] at this | exact this) GW547.out) | (rw [add_block]; exact Nat.ne_of_lt (Nat.lt_of_lt_of_le (by have := World.block_lt_of_cell? _ _ hw542_0; first | rwa [add_block] at this | exact this) GW547.out)) | (show (Addr.add _ _).block ≠ _; rw [add_block]; exact Nat.ne_of_lt (Nat.lt_of_lt_of_le (by have := World.block_lt_of_cell? _ _ hw542_0; first | rwa [add_block] at this | exact this) GW547.out)) | (dsimp only; exact Nat.ne_of_lt (Nat.lt_of_lt_of_le (by have := World.block_lt_of_cell? _ _ hw542_0; first | rwa [add_block] at this | exact this) GW547.out))) _).trans (((cell_far (p := ⟨gb547, _, none⟩) (by first | exact Nat.ne_of_lt (Nat.lt_of_lt_of_le (by have := World.block_lt_of_cell? _ _ hw542_0; first | rwa [add_block] at this | exact this) GW547.out) | (rw [add_block]; exact Nat.ne_of_lt (Nat.lt_of_lt_of_le (by have := World.block_lt_of_cell? _ _ hw542_0; first | rwa [add_block] at this | exact this) GW547.out)) | (show (Addr.add _ _).block ≠ _; rw [add_block]; exact Nat.ne_of_lt (Nat.lt_of_lt_of_le (by have := World.block_lt_of_cell? _ _ hw542_0; first | rwa [add_block] at this | exact this) GW547.out)) | (dsimp only; exact Nat.ne_of_lt (Nat.lt_of_lt_of_le (by have := World.block_lt_of_cell? _ _ hw542_0; first | rwa [add_block] at this | exact this) GW547.out))) _).trans (((cell_far (p := ⟨gb547, _, none⟩) (by first | exact Nat.ne_of_lt (Nat.lt_of_lt_of_le (by have := World.block_lt_of_cell? _ _ hw542_0; first | rwa [add_block] at this | exact this) GW547.out) | (rw [add_block]; exact Nat.ne_of_lt (Nat.lt_of_lt_of_le (by have := World.block_lt_of_cell? _ _ hw542_0; first | rwa [add_block] at this | exact this) GW547.out)) | (show (Addr.add _ _).block ≠ _; rw [add_block]; exact Nat.ne_of_lt (Nat.lt_of_lt_of_le (by have := World.block_lt_of_cell? _ _ hw542_0; first | rwa [add_block] at this | exact this) GW547.out)) | (dsimp only; exact Nat.ne_of_lt (Nat.lt_of_lt_of_le (by have := World.block_lt_of_cell? _ _ hw542_0; first | rwa [add_block] at this | exact this) GW547.out))) _).trans (hHeld.2))))))))⟩ (fun hHeld => ?_)
      clear hK K
      refine done_ (done_of HT_.out (by kernel_rfl)) ?_
      have hnb97 := NB537_547.out
      have hnc97 := NB547_537.out
      have hcz98_0 : w92.cell? ⟨gb537, 0, none⟩ = some (u538000) := (blk_cell BK537.out 0).trans rfl
      have hcz98_1 : w92.cell? ⟨gb537, 1, none⟩ = some (u538001) := (blk_cell BK537.out 1).trans rfl
      have hfz98_0 := blk_frozen BK537.out 0
      have hfz98_1 := blk_frozen BK537.out 1
      have hcz99_0 : w92.cell? ⟨gb547, 0, none⟩ = some (.int .i64 0) := (blk_cell BK547.out 0).trans rfl
      have hcz99_1 : w92.cell? ⟨gb547, 1, none⟩ = some (.string (⟨#[]⟩ : ByteArray)) := (blk_cell BK547.out 1).trans rfl
      have hcz99_2 : w92.cell? ⟨gb547, 2, none⟩ = some (.string (⟨#[]⟩ : ByteArray)) := (blk_cell BK547.out 2).trans rfl
      have hcz99_3 : w92.cell? ⟨gb547, 3, none⟩ = some (.int .i64 0) := (blk_cell BK547.out 3).trans rfl
      have hfz99_0 := blk_frozen BK547.out 0
      have hfz99_1 := blk_frozen BK547.out 1
      have hfz99_2 := blk_frozen BK547.out 2
      have hfz99_3 := blk_frozen BK547.out 3
      obtain ⟨Ao100, co100, eo100⟩ := Kd.R_slice HO_538000.out
      subst eo100
      obtain ⟨Ao101, co101, eo101⟩ := Kd.R_slice HO_538001.out
      subst eo101
      try go_wp2_with (first | ((with_reducible refine gate_callee (f := 13) rfl ?_); refine goesL_ (some 39) rfl rfl Try.func13 (by kernel_rfl) rfl #[.agg #[.slice Ao100 x538000_1.length co100, .slice Ao101 x538001_1.length co101], .int .i64 2, .agg #[.int .i64 t543, .string t544, .string t545, .int .i64 t546]] rfl ar_ ?_; (with_reducible refine (deaddropref7_Do.calls k1 _ _ x538000_1 _ _ x538001_1 2 t543 t544 t545 t546 t548 t551 t554 _ ?side1 ?side2 ?side3 ?side4 A15.out).mono ?_); (case side1 => refine (Kd.R_reads' (e := 70) (base := w.heap.size) (ok := fun k_ => True) (n := x538000_1.length) (c := co100) ?_).2.2; exact (by (with_reducible repeat (first | apply Kd.R_alloc | apply Kd.R_drewN | apply Kd.R_drew)); exact (Kd.R_mono (Kd.R_far (p := ⟨gb547, 3, none⟩) (Kd.R_far (p := ⟨gb547, 2, none⟩) (Kd.R_far (p := ⟨gb547, 1, none⟩) (Kd.R_far (p := ⟨gb547, 0, none⟩) (Kd.R_types HO_538000.out BK547.out (by decide)) (fun _ hk => hk.2) (.int .i64 t543)) (fun _ hk => hk.2) (.string t544)) (fun _ hk => hk.2) (.string t545)) (fun _ hk => hk.2) (.int .i64 t546)) (fun _ h_ => h_.1)))); (case side2 => exact (Kd.R_reads' HO_538000.out).2.1); (case side3 => refine (Kd.R_reads' (e := 34) (base := w.heap.size) (ok := fun k_ => True) (n := x538001_1.length) (c := co101) ?_).2.2; exact (by (with_reducible repeat (first | apply Kd.R_alloc | apply Kd.R_drewN | apply Kd.R_drew)); exact (Kd.R_mono (Kd.R_far (p := ⟨gb547, 3, none⟩) (Kd.R_far (p := ⟨gb547, 2, none⟩) (Kd.R_far (p := ⟨gb547, 1, none⟩) (Kd.R_far (p := ⟨gb547, 0, none⟩) (Kd.R_types HO_538001.out BK547.out (by decide)) (fun _ hk => hk.2) (.int .i64 t543)) (fun _ hk => hk.2) (.string t544)) (fun _ hk => hk.2) (.string t545)) (fun _ hk => hk.2) (.int .i64 t546)) (fun _ h_ => h_.1)))); (case side4 => exact (Kd.R_reads' HO_538001.out).2.1); rintro e w102 ⟨v549, v552, rfl, ho0, ho1, hb⟩; refine ⟨_, rfl, ?_⟩; replace HO_6 := Aside0.mk (Kd.R_below (by (with_reducible repeat (first | apply Kd.R_alloc | apply Kd.R_drewN | apply Kd.R_drew)); exact (Kd.R_mono (Kd.R_far (p := ⟨gb547, 3, none⟩) (Kd.R_far (p := ⟨gb547, 2, none⟩) (Kd.R_far (p := ⟨gb547, 1, none⟩) (Kd.R_far (p := ⟨gb547, 0, none⟩) (Kd.R_types HO_6.out BK547.out (by decide)) (fun _ hk => hk.2) (.int .i64 t543)) (fun _ hk => hk.2) (.string t544)) (fun _ hk => hk.2) (.string t545)) (fun _ hk => hk.2) (.int .i64 t546)) (fun _ h_ => h_.1))) hb); have HO550 := Aside0.mk (Kd.R_lower (Kd.R_new' ho0 (Kd.R_lt (by (with_reducible repeat (first | apply Kd.R_alloc | apply Kd.R_drewN | apply Kd.R_drew)); exact (Kd.R_mono (Kd.R_far (p := ⟨gb547, 3, none⟩) (Kd.R_far (p := ⟨gb547, 2, none⟩) (Kd.R_far (p := ⟨gb547, 1, none⟩) (Kd.R_far (p := ⟨gb547, 0, none⟩) (Kd.R_types HO_538000.out BK547.out (by decide)) (fun _ hk => hk.2) (.int .i64 t543)) (fun _ hk => hk.2) (.string t544)) (fun _ hk => hk.2) (.string t545)) (fun _ hk => hk.2) (.int .i64 t546)) (fun _ h_ => h_.1))))) (below_size (bw2 HB.out GE537.out GE547.out))); replace HO_538000 := Aside0.mk (Kd.R_elder' (by (with_reducible repeat (first | apply Kd.R_alloc | apply Kd.R_drewN | apply Kd.R_drew)); exact (Kd.R_mono (Kd.R_far (p := ⟨gb547, 3, none⟩) (Kd.R_far (p := ⟨gb547, 2, none⟩) (Kd.R_far (p := ⟨gb547, 1, none⟩) (Kd.R_far (p := ⟨gb547, 0, none⟩) (Kd.R_types HO_538000.out BK547.out (by decide)) (fun _ hk => hk.2) (.int .i64 t543)) (fun _ hk => hk.2) (.string t544)) (fun _ hk => hk.2) (.string t545)) (fun _ hk => hk.2) (.int .i64 t546)) (fun _ h_ => h_.1))) (Kd.R_base ho0) hb); have HO553 := Aside0.mk (Kd.R_lower (Kd.R_new' ho1 (Kd.R_lt (by (with_reducible repeat (first | apply Kd.R_alloc | apply Kd.R_drewN | apply Kd.R_drew)); exact (Kd.R_mono (Kd.R_far (p := ⟨gb547, 3, none⟩) (Kd.R_far (p := ⟨gb547, 2, none⟩) (Kd.R_far (p := ⟨gb547, 1, none⟩) (Kd.R_far (p := ⟨gb547, 0, none⟩) (Kd.R_types HO_538001.out BK547.out (by decide)) (fun _ hk => hk.2) (.int .i64 t543)) (fun _ hk => hk.2) (.string t544)) (fun _ hk => hk.2) (.string t545)) (fun _ hk => hk.2) (.int .i64 t546)) (fun _ h_ => h_.1))))) (below_size (bw2 HB.out GE537.out GE547.out))); replace HO_538001 := Aside0.mk (Kd.R_elder' (by (with_reducible repeat (first | apply Kd.R_alloc | apply Kd.R_drewN | apply Kd.R_drew)); exact (Kd.R_mono (Kd.R_far (p := ⟨gb547, 3, none⟩) (Kd.R_far (p := ⟨gb547, 2, none⟩) (Kd.R_far (p := ⟨gb547, 1, none⟩) (Kd.R_far (p := ⟨gb547, 0, none⟩) (Kd.R_types HO_538001.out BK547.out (by decide)) (fun _ hk => hk.2) (.int .i64 t543)) (fun _ hk => hk.2) (.string t544)) (fun _ hk => hk.2) (.string t545)) (fun _ hk => hk.2) (.int .i64 t546)) (fun _ h_ => h_.1))) (Kd.R_base ho1) hb); replace BK537 := Aside0.mk (blk_below (g := gb537) (o := .cells #[.slice Ao100 x538000_1.length co100, .slice Ao101 x538001_1.length co101] 28 (0, 0)) (by (with_reducible repeat (first | refine blk_drewN ?_ _ | refine blk_drew ?_ | refine blk_alloc ?_ _)); refine blk_far ?_ NB537_547.out _; (with_reducible repeat (first | refine blk_drewN ?_ _ | refine blk_drew ?_ | refine blk_alloc ?_ _)); refine blk_far ?_ NB537_547.out _; (with_reducible repeat (first | refine blk_drewN ?_ _ | refine blk_drew ?_ | refine blk_alloc ?_ _)); refine blk_far ?_ NB537_547.out _; (with_reducible repeat (first | refine blk_drewN ?_ _ | refine blk_drew ?_ | refine blk_alloc ?_ _)); refine blk_far ?_ NB537_547.out _; (with_reducible repeat (first | refine blk_drewN ?_ _ | refine blk_drew ?_ | refine blk_alloc ?_ _)); exact BK537.out) hb); replace BK547 := Aside0.mk (blk_below (g := gb547) (o := .cells #[.int .i64 t543, .string t544, .string t545, .int .i64 t546] 40 (0, 0)) (by (with_reducible repeat (first | refine blk_drewN ?_ _ | refine blk_drew ?_ | refine blk_alloc ?_ _)); refine blk_put (cs := #[.int .i64 t543, .string t544, .string t545, .int .i64 0]) ?_ 3 _ rfl; (with_reducible repeat (first | refine blk_drewN ?_ _ | refine blk_drew ?_ | refine blk_alloc ?_ _)); refine blk_put (cs := #[.int .i64 t543, .string t544, .string (⟨#[]⟩ : ByteArray), .int .i64 0]) ?_ 2 _ rfl; (with_reducible repeat (first | refine blk_drewN ?_ _ | refine blk_drew ?_ | refine blk_alloc ?_ _)); refine blk_put (cs := #[.int .i64 t543, .string (⟨#[]⟩ : ByteArray), .string (⟨#[]⟩ : ByteArray), .int .i64 0]) ?_ 1 _ rfl; (with_reducible repeat (first | refine blk_drewN ?_ _ | refine blk_drew ?_ | refine blk_alloc ?_ _)); refine blk_put (cs := #[.int .i64 0, .string (⟨#[]⟩ : ByteArray), .string (⟨#[]⟩ : ByteArray), .int .i64 0]) ?_ 0 _ rfl; (with_reducible repeat (first | refine blk_drewN ?_ _ | refine blk_drew ?_ | refine blk_alloc ?_ _)); exact BK547.out) hb); replace HB := Aside0.mk (below_step (bw2 HB.out GE537.out GE547.out) hb); (try clear hb); (try clear hb2); (try clear hk); (try clear hi); (try clear ho0); (try clear ho1)) | ((with_reducible refine gate_dst (N := 9) rfl ?_); (try (refine gate_guard (by rfl) ?_; dsimp only)); refine box_event ?hg (N := 9) ?hd (cs := #[.slice none 0 0, .slice none 0 0, .int .i64 0]) (t := 43) ?hr ?_; (case hd => rfl); (case hg => rfl); (case hr => first | (go_simp; done) | (go_simp; rfl)); intro gb555 hg w103 hbox hb; replace HO_6 := Aside0.mk (Kd.R_below (rk HO_6.out) hb); replace HO_538000 := Aside0.mk (Kd.R_below (rk HO_538000.out) hb); replace HO_538001 := Aside0.mk (Kd.R_below (rk HO_538001.out) hb); replace HO550 := Aside0.mk (Kd.R_below (rk HO550.out) hb); replace HO553 := Aside0.mk (Kd.R_below (rk HO553.out) hb); have BK555 := Aside0.mk (hbox); have GW555 := Aside0.mk ((by rw [hg]; exact (below_size (bw2 HB.out GE537.out GE547.out)) : w.heap.size ≤ gb555)); have GE555 := Aside0.mk ((by rw [hg]; exact (below_size (bw2 HB.out GE537.out GE547.out)) : w.heap.size ≤ gb555)); replace HB := Aside0.mk (below_step (bw2 HB.out GE537.out GE547.out) hb); have NB537_555 := Aside0.mk ((by rw [hg]; exact Nat.ne_of_lt (blk_lt (g := gb537) (o := .cells #[.slice Ao100 x538000_1.length co100, .slice Ao101 x538001_1.length co101] 28 (0, 0)) (bk BK537.out)) : gb537 ≠ gb555)); have NB555_537 := Aside0.mk ((by rw [hg]; exact Nat.ne_of_gt (blk_lt (g := gb537) (o := .cells #[.slice Ao100 x538000_1.length co100, .slice Ao101 x538001_1.length co101] 28 (0, 0)) (bk BK537.out)) : gb555 ≠ gb537)); replace BK537 := Aside0.mk (blk_below (g := gb537) (o := .cells #[.slice Ao100 x538000_1.length co100, .slice Ao101 x538001_1.length co101] 28 (0, 0)) (bk BK537.out) hb); have NB547_555 := Aside0.mk ((by rw [hg]; exact Nat.ne_of_lt (blk_lt (g := gb547) (o := .cells #[.int .i64 t543, .string t544, .string t545, .int .i64 t546] 40 (0, 0)) (bk BK547.out)) : gb547 ≠ gb555)); have NB555_547 := Aside0.mk ((by rw [hg]; exact Nat.ne_of_gt (blk_lt (g := gb547) (o := .cells #[.int .i64 t543, .string t544, .string t545, .int .i64 t546] 40 (0, 0)) (bk BK547.out)) : gb555 ≠ gb547)); replace BK547 := Aside0.mk (blk_below (g := gb547) (o := .cells #[.int .i64 t543, .string t544, .string t545, .int .i64 t546] 40 (0, 0)) (bk BK547.out) hb); clear hb hbox hg; obtain ⟨Ao104, co104, eo104⟩ := Kd.R_slice HO550.out; subst eo104; have hnb105 := NB555_537.out; have hnc105 := NB537_555.out; have hnb106 := NB555_547.out; have hnc106 := NB547_555.out; have hcz107_0 : w103.cell? ⟨gb555, 0, none⟩ = some (.slice none 0 0) := (blk_cell BK555.out 0).trans rfl; have hcz107_1 : w103.cell? ⟨gb555, 1, none⟩ = some (.slice none 0 0) := (blk_cell BK555.out 1).trans rfl; have hcz107_2 : w103.cell? ⟨gb555, 2, none⟩ = some (.int .i64 0) := (blk_cell BK555.out 2).trans rfl; have hfz107_0 := blk_frozen BK555.out 0; have hfz107_1 := blk_frozen BK555.out 1; have hfz107_2 := blk_frozen BK555.out 2; obtain ⟨Ao108, co108, eo108⟩ := Kd.R_slice HO553.out; subst eo108))
      go_roundg k1
      case measure => have := HK1.out; omega
      case rel => exact ⟨(x4_1), (x5_1), (x6_1), (wrap64 (x7_1 + 2)), (x538000_1), (x538001_1), (.slice Ao100 x538000_1.length co100), (.slice Ao101 x538001_1.length co101), ok_, ok_, ok_, H', ⟨by have := HK1.out; omega⟩, ⟨by (with_reducible repeat (first | apply Kd.R_alloc | apply Kd.R_drewN | apply Kd.R_drew)); exact Kd.R_mono (Kd.R_far (p := ⟨gb555, 2, none⟩) (Kd.R_far (p := ⟨gb555, 1, none⟩) (Kd.R_far (p := ⟨gb555, 0, none⟩) (Kd.R_types HO_6.out BK555.out (by decide)) (fun _ hk => hk.2) (.slice Ao104 t548.length co104)) (fun _ hk => hk.2) (.slice Ao108 t551.length co108)) (fun _ hk => hk.2) (.int .i64 t554)) (fun _ hk => trivial)⟩, ⟨by (with_reducible repeat (first | apply Kd.R_alloc | apply Kd.R_drewN | apply Kd.R_drew)); exact Kd.R_mono (Kd.R_far (p := ⟨gb555, 2, none⟩) (Kd.R_far (p := ⟨gb555, 1, none⟩) (Kd.R_far (p := ⟨gb555, 0, none⟩) (Kd.R_types HO_538000.out BK555.out (by decide)) (fun _ hk => hk.2) (.slice Ao104 t548.length co104)) (fun _ hk => hk.2) (.slice Ao108 t551.length co108)) (fun _ hk => hk.2) (.int .i64 t554)) (fun _ hk => trivial)⟩, ⟨by (with_reducible repeat (first | apply Kd.R_alloc | apply Kd.R_drewN | apply Kd.R_drew)); exact Kd.R_mono (Kd.R_far (p := ⟨gb555, 2, none⟩) (Kd.R_far (p := ⟨gb555, 1, none⟩) (Kd.R_far (p := ⟨gb555, 0, none⟩) (Kd.R_types HO_538001.out BK555.out (by decide)) (fun _ hk => hk.2) (.slice Ao104 t548.length co104)) (fun _ hk => hk.2) (.slice Ao108 t551.length co108)) (fun _ hk => hk.2) (.int .i64 t554)) (fun _ hk => trivial)⟩, ⟨by (with_reducible repeat (first | refine blk_drewN ?_ _ | refine blk_drew ?_ | refine blk_alloc ?_ _)); refine blk_far ?_ NB537_555.out _; (with_reducible repeat (first | refine blk_drewN ?_ _ | refine blk_drew ?_ | refine blk_alloc ?_ _)); refine blk_far ?_ NB537_555.out _; (with_reducible repeat (first | refine blk_drewN ?_ _ | refine blk_drew ?_ | refine blk_alloc ?_ _)); refine blk_far ?_ NB537_555.out _; (with_reducible repeat (first | refine blk_drewN ?_ _ | refine blk_drew ?_ | refine blk_alloc ?_ _)); exact BK537.out⟩, ⟨by repeat (first | (with_reducible first | exact HB.out | apply below_alloc | apply pw_below_drewN | apply below_drew1 | refine below_set ?_ GE537.out | refine below_set ?_ GE547.out | refine below_set ?_ GE555.out) | exact HB.out)⟩⟩
    ·
     rw [if_neg c9] at H
     have c9b0 : decide ((wrap64 (x7_1 + 1)) < (l0.length : Int)) = false := decide_eq_false c9
     clear c9
     have H' := Aside0.mk H
     clear H
     go_wp2
     go_loopg [10, 11] k1 (fun kq v10 v11 w' => ∃ (x10_2 : List ByteArray) (x11_2 : Int), v11 = .int .i64 x11_2 ∧ Aside0 (deaddroplaw10_ReadAlone.l1 kq x4_1 x5_1 x6_1 x10_2 x11_2 x538000_1 x538001_1 = some r) ∧ Aside0 (kq ≤ k1) ∧ Aside0 (Kd.R Kd.bool 4 w' w.heap.size (fun _ => True) u6 x6_1) ∧ Aside0 (Kd.R Kd.string 9 w' w.heap.size (fun _ => True) v10 x10_2) ∧ Aside0 (Kd.R k70 70 w' w.heap.size (fun _ => True) u538000 x538000_1) ∧ Aside0 (Kd.R k34 34 w' w.heap.size (fun _ => True) u538001 x538001_1) ∧ Aside0 (w'.heap[gb537]? = some (.cells #[u538000, u538001] 28 (0, 0))) ∧ Aside0 (Below w.heap.size w w'))
     case atStart => exact ⟨(([] : List ByteArray)), (0), ok_, H', ⟨Nat.le_refl _⟩, ⟨by (with_reducible repeat (first | apply Kd.R_alloc | apply Kd.R_drewN | apply Kd.R_drew)); exact HO_6.out⟩, ⟨by first | exact Kd.R_nil _ _ _ _ _ | exact Kd.N_nil _ _ _ _ _ | exact Kd.V_nil _ _ _ _ _ | exact Kd.Q_nil _ _ _ _ _ | exact Kd.S_nil _ _ _ _ _⟩, ⟨by (with_reducible repeat (first | apply Kd.R_alloc | apply Kd.R_drewN | apply Kd.R_drew)); exact HO_538000.out⟩, ⟨by (with_reducible repeat (first | apply Kd.R_alloc | apply Kd.R_drewN | apply Kd.R_drew)); exact HO_538001.out⟩, ⟨by (with_reducible repeat (first | refine blk_drewN ?_ _ | refine blk_drew ?_ | refine blk_alloc ?_ _)); exact BK537.out⟩, ⟨by repeat (first | (with_reducible first | exact HB.out | apply below_alloc | apply pw_below_drewN | apply below_drew1 | refine below_set ?_ GE537.out) | exact HB.out)⟩⟩
     case round =>
      clear H'
      try clear c9
      try clear c9b0
      obtain ⟨x10_2, x11_2, rfl, HA, HK2, HO_6, HO_10, HO_538000, HO_538001, BK537, HB⟩ := hrel
      cases gk with
      | zero => exact absurd HA.out (by simp [deaddroplaw10_ReadAlone.l1])
      | succ k2 =>
       have H := HA.out
       clear HA
       simp only [deaddroplaw10_ReadAlone.l1] at H
       by_cases c109 : x11_2 < 5
       ·
        rw [if_pos c109] at H
        have c109b0 : decide (x11_2 < 5) = true := decide_eq_true c109
        clear c109
        by_cases c110 : 0 ≤ x11_2
        rotate_left
        ·
         rw [if_neg c110] at H
         exact absurd H (by simp)
        rw [if_pos c110] at H
        have c110b0 : decide (0 ≤ x11_2) = true := decide_eq_true c110
        clear c110
        by_cases c111 : x11_2 < (x6_1.length : Int)
        rotate_left
        ·
         rw [if_neg c111] at H
         exact absurd H (by simp)
        rw [if_pos c111] at H
        have c111b0 : decide (x11_2 < (x6_1.length : Int)) = true := decide_eq_true c111
        clear c111
        obtain ⟨bq112, hbq112⟩ : ∃ b_ : Bool, b_ = (rdOf false x6_1 x11_2) := ⟨_, rfl⟩
        replace H : (if bq112 = true then (if x10_2.length < 8796093022208 then (deaddroplaw10_ReadAlone.l1 k2 x4_1 x5_1 x6_1 (x10_2 ++ [strOfNums (([(wrap64 (97 + x11_2)) % 256] : List Int))]) (wrap64 (x11_2 + 1)) x538000_1 x538001_1) else (none)) else (deaddroplaw10_ReadAlone.l1 k2 x4_1 x5_1 x6_1 x10_2 (wrap64 (x11_2 + 1)) x538000_1 x538001_1)) = some r := by rw [← hbq112] at H; exact H
        have Nbq112 := Aside0.mk hbq112
        clear hbq112
        by_cases c113 : bq112 = true
        ·
         subst c113
         have H1 : (if x10_2.length < 8796093022208 then (deaddroplaw10_ReadAlone.l1 k2 x4_1 x5_1 x6_1 (x10_2 ++ [strOfNums (([(wrap64 (97 + x11_2)) % 256] : List Int))]) (wrap64 (x11_2 + 1)) x538000_1 x538001_1) else (none)) = some r := by rw [if_pos rfl] at H; exact H
         clear H
         have H := H1
         clear H1
         obtain ⟨y567, hy567⟩ : ∃ y_ : List Int, y_ = (([(wrap64 (97 + x11_2)) % 256] : List Int)) := ⟨_, rfl⟩
         replace H : (if x10_2.length < 8796093022208 then (deaddroplaw10_ReadAlone.l1 k2 x4_1 x5_1 x6_1 (x10_2 ++ [strOfNums y567]) (wrap64 (x11_2 + 1)) x538000_1 x538001_1) else (none)) = some r := by first | (rw [hy567]; with_reducible exact H) | (have H2_ := (Option.bind_some _ _).symm.trans H; rw [hy567]; with_reducible exact H2_) | (have H2_ := (Option.bind_some _ _).symm.trans H; with_reducible exact H2_) | with_reducible exact H | (rw [hy567]; exact H) | exact H
         have Ny567 := Aside0.mk hy567
         clear hy567
         by_cases c114 : x10_2.length < 8796093022208
         rotate_left
         ·
          rw [if_neg c114] at H
          exact absurd H (by simp)
         rw [if_pos c114] at H
         have LMc114 := Aside0.mk c114
         clear c114
         obtain ⟨y570, hy570⟩ : ∃ y_ : List ByteArray, y_ = (x10_2 ++ [strOfNums y567]) := ⟨_, rfl⟩
         replace H : (deaddroplaw10_ReadAlone.l1 k2 x4_1 x5_1 x6_1 y570 (wrap64 (x11_2 + 1)) x538000_1 x538001_1) = some r := by first | (rw [hy570]; with_reducible exact H) | (have H2_ := (Option.bind_some _ _).symm.trans H; rw [hy570]; with_reducible exact H2_) | (have H2_ := (Option.bind_some _ _).symm.trans H; with_reducible exact H2_) | with_reducible exact H | (rw [hy570]; exact H) | exact H
         have Ny570 := Aside0.mk hy570
         clear hy570
         have H' := Aside0.mk H
         clear H
         obtain ⟨Ao115, co115, eo115⟩ := Kd.R_slice HO_6.out
         subst eo115
         have p566 : 0 ≤ (x11_2 : Int) := of_decide_eq_true as_
         have q566 : x11_2 < (x6_1.length : Int) := of_decide_eq_true as_
         obtain ⟨ad566, e566, hx566_0⟩ := Kd.at_bool (Kd.R_reads' HO_6.out).2.2 x11_2 p566 q566
         (try rw [← Nbq112.out] at hx566_0)
         cases e566
         replace p566 := eq_true p566
         replace q566 := eq_true q566
         go_wp2_with (first | ((with_reducible refine gate_dst (N := 84) rfl ?_); (try (refine gate_guard (by rfl) ?_; dsimp only)); refine Kd.R_lit (Kd.int .u8) _ 5 ?hg (N := 84) ?hd (xs := ([(wrap64 (97 + x11_2)) % 256] : List Int)) (inner := [.int .u8 ((wrap64 (97 + x11_2)) % 256)]) (ok := fun _ => True) (okp := fun _ => True) ?hr ?hp (fun _ hk => hk) trivial (Below.refl _ _) (Nat.le_refl _) (by simp) ?_; (case hd => rfl); (case hg => rfl); (case hr => first | (go_simp; done) | (go_simp; rfl)); (case hp => exact (Reps.one (show Kd.M (Kd.int .u8) _ _ _ ((wrap64 (97 + x11_2)) % 256) [.int .u8 ((wrap64 (97 + x11_2)) % 256)] from rfl) (Reps.none _ _))); intro v568 w116 ho117 hb hg_ hnew_; clear hg_ hnew_; (first | rw [← Ny567.out] at ho117 | (simp only [Int.reduceToNat] at ho117; rw [← Ny567.out] at ho117)); replace HO_6 := Aside0.mk (Kd.R_below (rk HO_6.out) hb); replace HO_10 := Aside0.mk (Kd.R_below (rk HO_10.out) hb); replace HO_538000 := Aside0.mk (Kd.R_below (rk HO_538000.out) hb); replace HO_538001 := Aside0.mk (Kd.R_below (rk HO_538001.out) hb); have HO569 := Aside0.mk (Kd.R_lower ho117 (below_size (bw1 HB.out GE537.out))); replace BK537 := Aside0.mk (blk_below (g := gb537) (o := .cells #[u538000, u538001] 28 (0, 0)) (bk BK537.out) hb); replace HB := Aside0.mk (below_step (bw1 HB.out GE537.out) hb); clear hb ho117; have hcv118 := own_string (P := Try.prog) Try.underlying22 Try.underlying5 Try.underlying9 (Kd.own_of_R HO569.out)) | ((with_reducible refine gate_builtin (b := .append) (xs := #[.tmp 80, .tmp 86]) rfl ?_); (try (refine gate_guard (by rfl) ?_; dsimp only)); at_builtin; refine Kd.R_append Kd.string (w0 := w) w.heap.size rfl (.tmp 80) (.tmp 86) 45 9 (.string ⟨#[]⟩) 16 rfl Try.underlying45 info9 rfl (by decide) (by omega) u10 x10_2 (strOfNums y567) [.string (strOfNums y567)] (fun _ => True) (fun _ => False) rfl rfl ?aP (fun _ hk => hk.elim) ?aF ?aO ?aB ?aS ?aL ?_; (case aP => exact rfl); (case aB => exact (bw1 HB.out GE537.out)); (case aF => exact (fun _ _ => trivial)); (case aO => exact (rk HO_10.out)); (case aS => exact (below_size (bw1 HB.out GE537.out))); (case aL => have := LMc114.out; omega); intro v571 w119 ho hb hg hat; rw [← Ny570.out] at ho; replace HO_6 := Aside0.mk (Kd.R_over' (rk HO_6.out) (Kd.R_typed (rk HO_10.out)) (by decide) hg); replace HO_538000 := Aside0.mk (Kd.R_over' (rk HO_538000.out) (Kd.R_typed (rk HO_10.out)) (by decide) hg); replace HO_538001 := Aside0.mk (Kd.R_over' (rk HO_538001.out) (Kd.R_typed (rk HO_10.out)) (by decide) hg); replace BK537 := Aside0.mk (blk_grown (g := gb537) (o := .cells #[u538000, u538001] 28 (0, 0)) (bk BK537.out) hg (Kd.R_ne HO_10.out BK537.out (by decide))); replace HO569 := Aside0.mk (Kd.R_over' (rk HO569.out) (Kd.R_typed (rk HO_10.out)) (by decide) hg); replace HB := Aside0.mk (hb); have HO572 := Aside0.mk (ho); clear HO_10; clear ho hb hg hat))
         go_roundg k2
         case measure => have := HK1.out; have := HK2.out; omega
         case rel => exact ⟨(y570), (wrap64 (x11_2 + 1)), ok_, H', ⟨by have := HK1.out; have := HK2.out; omega⟩, ⟨by (with_reducible repeat (first | apply Kd.R_alloc | apply Kd.R_drewN | apply Kd.R_drew)); exact HO_6.out⟩, ⟨by (with_reducible repeat (first | apply Kd.R_alloc | apply Kd.R_drewN | apply Kd.R_drew)); exact HO572.out⟩, ⟨by (with_reducible repeat (first | apply Kd.R_alloc | apply Kd.R_drewN | apply Kd.R_drew)); exact HO_538000.out⟩, ⟨by (with_reducible repeat (first | apply Kd.R_alloc | apply Kd.R_drewN | apply Kd.R_drew)); exact HO_538001.out⟩, ⟨by (with_reducible repeat (first | refine blk_drewN ?_ _ | refine blk_drew ?_ | refine blk_alloc ?_ _)); exact BK537.out⟩, ⟨by repeat (first | (with_reducible first | exact HB.out | apply below_alloc | apply pw_below_drewN | apply below_drew1 | refine below_set ?_ GE537.out) | exact HB.out)⟩⟩
        ·
         replace c113 := Bool.eq_false_iff.mpr c113
         subst c113
         have H1 : (deaddroplaw10_ReadAlone.l1 k2 x4_1 x5_1 x6_1 x10_2 (wrap64 (x11_2 + 1)) x538000_1 x538001_1) = some r := by rw [if_neg (show ¬ (false = true) by decide)] at H; exact H
         clear H
         have H := H1
         clear H1
         have H' := Aside0.mk H
         clear H
         obtain ⟨Ao120, co120, eo120⟩ := Kd.R_slice HO_6.out
         subst eo120
         have p566 : 0 ≤ (x11_2 : Int) := of_decide_eq_true as_
         have q566 : x11_2 < (x6_1.length : Int) := of_decide_eq_true as_
         obtain ⟨ad566, e566, hx566_0⟩ := Kd.at_bool (Kd.R_reads' HO_6.out).2.2 x11_2 p566 q566
         (try rw [← Nbq112.out] at hx566_0)
         cases e566
         replace p566 := eq_true p566
         replace q566 := eq_true q566
         go_wp2
         go_roundg k2
         case measure => have := HK1.out; have := HK2.out; omega
         case rel => exact ⟨(x10_2), (wrap64 (x11_2 + 1)), ok_, H', ⟨by have := HK1.out; have := HK2.out; omega⟩, ⟨by (with_reducible repeat (first | apply Kd.R_alloc | apply Kd.R_drewN | apply Kd.R_drew)); exact HO_6.out⟩, ⟨by (with_reducible repeat (first | apply Kd.R_alloc | apply Kd.R_drewN | apply Kd.R_drew)); exact HO_10.out⟩, ⟨by (with_reducible repeat (first | apply Kd.R_alloc | apply Kd.R_drewN | apply Kd.R_drew)); exact HO_538000.out⟩, ⟨by (with_reducible repeat (first | apply Kd.R_alloc | apply Kd.R_drewN | apply Kd.R_drew)); exact HO_538001.out⟩, ⟨by (with_reducible repeat (first | refine blk_drewN ?_ _ | refine blk_drew ?_ | refine blk_alloc ?_ _)); exact BK537.out⟩, ⟨by repeat (first | (with_reducible first | exact HB.out | apply below_alloc | apply pw_below_drewN | apply below_drew1 | refine below_set ?_ GE537.out) | exact HB.out)⟩⟩
       ·
        rw [if_neg c109] at H
        have c109b0 : decide (x11_2 < 5) = false := decide_eq_false c109
        clear c109
        replace H := Option.bind_eq_some_iff.mp H
        obtain ⟨t573, A1210, H⟩ := H
        replace H : (if x4_1.toList = ([] : List UInt8) then (if (t573.length : Int) = 0 then (deaddroplaw10_ReadAlone.j3 k2 x5_1 x10_2 true x538000_1 x538001_1) else (if (t573.length : Int) = 1 then (if 0 < (t573.length : Int) then (deaddroplaw10_ReadAlone.j3 k2 x5_1 x10_2 ((rdOf ByteArray.empty t573 0).toList == x4_1.toList) x538000_1 x538001_1) else (none)) else (deaddroplaw10_ReadAlone.j3 k2 x5_1 x10_2 false x538000_1 x538001_1))) else (if (t573.length : Int) = 1 then (if 0 < (t573.length : Int) then (deaddroplaw10_ReadAlone.j3 k2 x5_1 x10_2 ((rdOf ByteArray.empty t573 0).toList == x4_1.toList) x538000_1 x538001_1) else (none)) else (deaddroplaw10_ReadAlone.j3 k2 x5_1 x10_2 false x538000_1 x538001_1))) = some r := H
        have A121 := Aside0.mk A1210
        clear A1210
        have HC122 := Aside0.mk H
        clear H
        have hcz123_0 : wr.cell? ⟨gb537, 0, none⟩ = some (u538000) := (blk_cell BK537.out 0).trans rfl
        have hcz123_1 : wr.cell? ⟨gb537, 1, none⟩ = some (u538001) := (blk_cell BK537.out 1).trans rfl
        have hfz123_0 := blk_frozen BK537.out 0
        have hfz123_1 := blk_frozen BK537.out 1
        obtain ⟨Ao124, co124, eo124⟩ := Kd.R_slice HO_538000.out
        subst eo124
        obtain ⟨Ao125, co125, eo125⟩ := Kd.R_slice HO_538001.out
        subst eo125
        go_upto_region 31 with (first | ((with_reducible refine gate_callee (f := 14) rfl ?_); refine goesL_ (some 89) rfl rfl Try.func14 (by kernel_rfl) rfl #[.agg #[.slice Ao124 x538000_1.length co124, .slice Ao125 x538001_1.length co125], .string (⟨#[107]⟩ : ByteArray)] rfl ar_ ?_; (with_reducible refine (read_Texts.calls k2 _ _ x538000_1 _ _ x538001_1 (⟨#[107]⟩ : ByteArray) t573 _ ?side1 ?side2 ?side3 ?side4 A121.out).mono ?_); (case side1 => exact cr (Kd.R_reads' HO_538000.out).2.2); (case side2 => exact (Kd.R_reads' HO_538000.out).2.1); (case side3 => exact cr (Kd.R_reads' HO_538001.out).2.2); (case side4 => exact (Kd.R_reads' HO_538001.out).2.1); rintro e w126 ⟨v574, rfl, ho0, hb⟩; refine ⟨_, rfl, ?_⟩; replace HO_6 := Aside0.mk (Kd.R_below (rk HO_6.out) hb); replace HO_538000 := Aside0.mk (Kd.R_below (rk HO_538000.out) hb); replace HO_538001 := Aside0.mk (Kd.R_below (rk HO_538001.out) hb); have HO575 := Aside0.mk (Kd.R_lower (Kd.R_new' ho0 (Kd.R_lt (rk HO_10.out))) (below_size (bw1 HB.out GE537.out))); replace HO_10 := Aside0.mk (Kd.R_elder' (rk HO_10.out) (Kd.R_base ho0) hb); replace BK537 := Aside0.mk (blk_below (g := gb537) (o := .cells #[.slice Ao124 x538000_1.length co124, .slice Ao125 x538001_1.length co125] 28 (0, 0)) (bk BK537.out) hb); replace HB := Aside0.mk (below_step (bw1 HB.out GE537.out) hb); (try clear hb); (try clear hb2); (try clear hk); (try clear hi); (try clear ho0)))
        (try simp only [Act.put, List.setIfInBounds_toArray, List.set_cons_zero, List.set_cons_succ])
        go_cut [13] (fun v13 wc => ∃ (kq : Nat) (x13_121 : Bool), v13 = .bool x13_121 ∧ Aside0 (deaddroplaw10_ReadAlone.j3 kq x5_1 x10_2 x13_121 x538000_1 x538001_1 = some r) ∧ Aside0 (kq ≤ k2) ∧ Aside0 (Kd.R Kd.string 9 wc w.heap.size (fun _ => True) u10 x10_2) ∧ Aside0 (Kd.R k70 70 wc w.heap.size (fun _ => True) (.slice Ao124 x538000_1.length co124) x538000_1) ∧ Aside0 (Kd.R k34 34 wc w.heap.size (fun _ => True) (.slice Ao125 x538001_1.length co125) x538001_1) ∧ Aside0 (wc.heap[gb537]? = some (.cells #[(.slice Ao124 x538000_1.length co124), (.slice Ao125 x538001_1.length co125)] 28 (0, 0))) ∧ Aside0 (Below w.heap.size w wc))
        case first =>
         have H := HC122.out
         clear HC122
         by_cases c127 : x4_1.toList = ([] : List UInt8)
         ·
          rw [if_pos c127] at H
          have c127b0 : (x4_1.toList == ([] : List UInt8)) = true := beq_iff_eq.mpr c127
          have c127b1 : (x4_1.toList != ([] : List UInt8)) = false := bne_eq_false_iff_eq.mpr c127
          clear c127
          (first | rw [c127b0] | (simp only [i64_w, i32_w]; rw [c127b0]) | skip)
          by_cases c128 : (t573.length : Int) = 0
          ·
           rw [if_pos c128] at H
           have c128b0 : ((t573.length : Int) == 0) = true := beq_iff_eq.mpr c128
           have c128b1 : ((t573.length : Int) != 0) = false := bne_eq_false_iff_eq.mpr c128
           clear c128
           have H' := Aside0.mk H
           clear H
           obtain ⟨Ao129, co129, eo129⟩ := Kd.R_slice HO575.out
           subst eo129
           go_wp2
           go_meet
           case rel => exact ⟨_, (true), ok_, H', ⟨by have := HK1.out; have := HK2.out; first | omega | exact Nat.le_refl _⟩, ⟨by (with_reducible repeat (first | apply Kd.R_alloc | apply Kd.R_drewN | apply Kd.R_drew)); exact Kd.R_mono HO_10.out (fun _ hk => trivial)⟩, ⟨by (with_reducible repeat (first | apply Kd.R_alloc | apply Kd.R_drewN | apply Kd.R_drew)); exact HO_538000.out⟩, ⟨by (with_reducible repeat (first | apply Kd.R_alloc | apply Kd.R_drewN | apply Kd.R_drew)); exact HO_538001.out⟩, ⟨by (with_reducible repeat (first | refine blk_drewN ?_ _ | refine blk_drew ?_ | refine blk_alloc ?_ _)); exact BK537.out⟩, ⟨by repeat (first | (with_reducible first | exact HB.out | apply below_alloc | apply pw_below_drewN | apply below_drew1 | refine below_set ?_ GE537.out) | exact HB.out)⟩⟩
          ·
           rw [if_neg c128] at H
           have c128b0 : ((t573.length : Int) == 0) = false := beq_eq_false_iff_ne.mpr c128
           have c128b1 : ((t573.length : Int) != 0) = true := bne_iff_ne.mpr c128
           have c128b2 : ¬ (t573 = []) := fun h_ => c128 (by rw [h_]; rfl)
           by_cases c130 : (t573.length : Int) = 1
           ·
            rw [if_pos c130] at H
            have c130b0 : ((t573.length : Int) == 1) = true := beq_iff_eq.mpr c130
            have c130b1 : ((t573.length : Int) != 1) = false := bne_eq_false_iff_eq.mpr c130
            clear c130
            by_cases c131 : 0 < (t573.length : Int)
            rotate_left
            ·
             rw [if_neg c131] at H
             exact absurd H (by simp)
            rw [if_pos c131] at H
            have c131b0 : decide (0 < (t573.length : Int)) = true := decide_eq_true c131
            have c131b1 : decide (0 < t573.length) = true := decide_eq_true (by omega)
            clear c131
            have H' := Aside0.mk H
            clear H
            obtain ⟨Ao132, co132, eo132⟩ := Kd.R_slice HO575.out
            subst eo132
            have p576 : 0 ≤ (0 : Int) := (by omega)
            have q576 : 0 < (t573.length : Int) := of_decide_eq_true as_
            obtain ⟨ad576, e576, hx576_0⟩ := Kd.at_string (Kd.R_reads' HO575.out).2.2 0 p576 q576
            cases e576
            have qi576 : (0 < t573.length) = True := eq_true (by omega)
            (try rw [show ((0 : Int)).toNat = 0 from rfl] at hx576_0)
            (try rw [Addr.add_zero'] at hx576_0)
            replace p576 := eq_true p576
            replace q576 := eq_true q576
            go_wp2
            go_meet
            case rel => exact ⟨_, (((rdOf ByteArray.empty t573 0).toList == x4_1.toList)), ok_, H', ⟨by have := HK1.out; have := HK2.out; first | omega | exact Nat.le_refl _⟩, ⟨by (with_reducible repeat (first | apply Kd.R_alloc | apply Kd.R_drewN | apply Kd.R_drew)); exact Kd.R_mono HO_10.out (fun _ hk => trivial)⟩, ⟨by (with_reducible repeat (first | apply Kd.R_alloc | apply Kd.R_drewN | apply Kd.R_drew)); exact HO_538000.out⟩, ⟨by (with_reducible repeat (first | apply Kd.R_alloc | apply Kd.R_drewN | apply Kd.R_drew)); exact HO_538001.out⟩, ⟨by (with_reducible repeat (first | refine blk_drewN ?_ _ | refine blk_drew ?_ | refine blk_alloc ?_ _)); exact BK537.out⟩, ⟨by repeat (first | (with_reducible first | exact HB.out | apply below_alloc | apply pw_below_drewN | apply below_drew1 | refine below_set ?_ GE537.out) | exact HB.out)⟩⟩
           ·
            rw [if_neg c130] at H
            have c130b0 : ((t573.length : Int) == 1) = false := beq_eq_false_iff_ne.mpr c130
            have c130b1 : ((t573.length : Int) != 1) = true := bne_iff_ne.mpr c130
            have H' := Aside0.mk H
            clear H
            obtain ⟨Ao133, co133, eo133⟩ := Kd.R_slice HO575.out
            subst eo133
            go_wp2
            go_meet
            case rel => exact ⟨_, (false), ok_, H', ⟨by have := HK1.out; have := HK2.out; first | omega | exact Nat.le_refl _⟩, ⟨by (with_reducible repeat (first | apply Kd.R_alloc | apply Kd.R_drewN | apply Kd.R_drew)); exact Kd.R_mono HO_10.out (fun _ hk => trivial)⟩, ⟨by (with_reducible repeat (first | apply Kd.R_alloc | apply Kd.R_drewN | apply Kd.R_drew)); exact HO_538000.out⟩, ⟨by (with_reducible repeat (first | apply Kd.R_alloc | apply Kd.R_drewN | apply Kd.R_drew)); exact HO_538001.out⟩, ⟨by (with_reducible repeat (first | refine blk_drewN ?_ _ | refine blk_drew ?_ | refine blk_alloc ?_ _)); exact BK537.out⟩, ⟨by repeat (first | (with_reducible first | exact HB.out | apply below_alloc | apply pw_below_drewN | apply below_drew1 | refine below_set ?_ GE537.out) | exact HB.out)⟩⟩
         ·
          rw [if_neg c127] at H
          have c127b0 : (x4_1.toList == ([] : List UInt8)) = false := beq_eq_false_iff_ne.mpr c127
          have c127b1 : (x4_1.toList != ([] : List UInt8)) = true := bne_iff_ne.mpr c127
          (first | rw [c127b0] | (simp only [i64_w, i32_w]; rw [c127b0]) | skip)
          by_cases c134 : (t573.length : Int) = 1
          ·
           rw [if_pos c134] at H
           have c134b0 : ((t573.length : Int) == 1) = true := beq_iff_eq.mpr c134
           have c134b1 : ((t573.length : Int) != 1) = false := bne_eq_false_iff_eq.mpr c134
           clear c134
           by_cases c135 : 0 < (t573.length : Int)
           rotate_left
           ·
            rw [if_neg c135] at H
            exact absurd H (by simp)
           rw [if_pos c135] at H
           have c135b0 : decide (0 < (t573.length : Int)) = true := decide_eq_true c135
           have c135b1 : decide (0 < t573.length) = true := decide_eq_true (by omega)
           clear c135
           have H' := Aside0.mk H
           clear H
           obtain ⟨Ao136, co136, eo136⟩ := Kd.R_slice HO575.out
           subst eo136
           have p577 : 0 ≤ (0 : Int) := (by omega)
           have q577 : 0 < (t573.length : Int) := of_decide_eq_true as_
           obtain ⟨ad577, e577, hx577_0⟩ := Kd.at_string (Kd.R_reads' HO575.out).2.2 0 p577 q577
           cases e577
           have qi577 : (0 < t573.length) = True := eq_true (by omega)
           (try rw [show ((0 : Int)).toNat = 0 from rfl] at hx577_0)
           (try rw [Addr.add_zero'] at hx577_0)
           replace p577 := eq_true p577
           replace q577 := eq_true q577
           go_wp2
           go_meet
           case rel => exact ⟨_, (((rdOf ByteArray.empty t573 0).toList == x4_1.toList)), ok_, H', ⟨by have := HK1.out; have := HK2.out; first | omega | exact Nat.le_refl _⟩, ⟨by (with_reducible repeat (first | apply Kd.R_alloc | apply Kd.R_drewN | apply Kd.R_drew)); exact Kd.R_mono HO_10.out (fun _ hk => trivial)⟩, ⟨by (with_reducible repeat (first | apply Kd.R_alloc | apply Kd.R_drewN | apply Kd.R_drew)); exact HO_538000.out⟩, ⟨by (with_reducible repeat (first | apply Kd.R_alloc | apply Kd.R_drewN | apply Kd.R_drew)); exact HO_538001.out⟩, ⟨by (with_reducible repeat (first | refine blk_drewN ?_ _ | refine blk_drew ?_ | refine blk_alloc ?_ _)); exact BK537.out⟩, ⟨by repeat (first | (with_reducible first | exact HB.out | apply below_alloc | apply pw_below_drewN | apply below_drew1 | refine below_set ?_ GE537.out) | exact HB.out)⟩⟩
          ·
           rw [if_neg c134] at H
           have c134b0 : ((t573.length : Int) == 1) = false := beq_eq_false_iff_ne.mpr c134
           have c134b1 : ((t573.length : Int) != 1) = true := bne_iff_ne.mpr c134
           have H' := Aside0.mk H
           clear H
           obtain ⟨Ao137, co137, eo137⟩ := Kd.R_slice HO575.out
           subst eo137
           go_wp2
           go_meet
           case rel => exact ⟨_, (false), ok_, H', ⟨by have := HK1.out; have := HK2.out; first | omega | exact Nat.le_refl _⟩, ⟨by (with_reducible repeat (first | apply Kd.R_alloc | apply Kd.R_drewN | apply Kd.R_drew)); exact Kd.R_mono HO_10.out (fun _ hk => trivial)⟩, ⟨by (with_reducible repeat (first | apply Kd.R_alloc | apply Kd.R_drewN | apply Kd.R_drew)); exact HO_538000.out⟩, ⟨by (with_reducible repeat (first | apply Kd.R_alloc | apply Kd.R_drewN | apply Kd.R_drew)); exact HO_538001.out⟩, ⟨by (with_reducible repeat (first | refine blk_drewN ?_ _ | refine blk_drew ?_ | refine blk_alloc ?_ _)); exact BK537.out⟩, ⟨by repeat (first | (with_reducible first | exact HB.out | apply below_alloc | apply pw_below_drewN | apply below_drew1 | refine below_set ?_ GE537.out) | exact HB.out)⟩⟩
        case rest =>
         clear HC122
         try clear c9
         try clear c9b0
         try clear c109
         try clear c109b0
         try clear hcz123_0
         try clear hcz123_1
         try clear hfz123_0
         try clear hfz123_1
         obtain ⟨kq, x13_121, rfl, HA, HJ121, HO_10, HO_538000, HO_538001, BK537, HB⟩ := hcut
         cases kq with
         | zero => exact absurd HA.out (by simp [deaddroplaw10_ReadAlone.j3])
         | succ kj121 =>
          have H := HA.out
          clear HA
          simp only [deaddroplaw10_ReadAlone.j3] at H
          by_cases c138 : x13_121 = true
          rotate_left
          ·
           replace c138 := Bool.eq_false_iff.mpr c138
           subst c138
           have H1 : (none) = some r := by rw [if_neg (show ¬ (false = true) by decide)] at H; exact H
           clear H
           have H := H1
           clear H1
           exact absurd H (by simp)
          subst c138
          have H1 : ((read_Members.f kj121 x538000_1 x538001_1 (⟨#[107]⟩ : ByteArray)).bind fun t578 => ((deaddropref1_SameTexts.f kj121 t578 x10_2).bind fun t581 => (if t581 = true then ((read_Count.f kj121 x538000_1 x538001_1 (⟨#[107]⟩ : ByteArray)).bind fun t582 => (if t582 = x5_1 then ((deaddroplaw10_awake.f kj121).bind fun t583 => (some t583)) else (none))) else (none)))) = some r := by rw [if_pos rfl] at H; exact H
          clear H
          have H := H1
          clear H1
          replace H := Option.bind_eq_some_iff.mp H
          obtain ⟨t578, A1390, H⟩ := H
          replace H : ((deaddropref1_SameTexts.f kj121 t578 x10_2).bind fun t581 => (if t581 = true then ((read_Count.f kj121 x538000_1 x538001_1 (⟨#[107]⟩ : ByteArray)).bind fun t582 => (if t582 = x5_1 then ((deaddroplaw10_awake.f kj121).bind fun t583 => (some t583)) else (none))) else (none))) = some r := H
          have A139 := Aside0.mk A1390
          clear A1390
          replace H := Option.bind_eq_some_iff.mp H
          obtain ⟨t581, A1400, H⟩ := H
          replace H : (if t581 = true then ((read_Count.f kj121 x538000_1 x538001_1 (⟨#[107]⟩ : ByteArray)).bind fun t582 => (if t582 = x5_1 then ((deaddroplaw10_awake.f kj121).bind fun t583 => (some t583)) else (none))) else (none)) = some r := H
          have A140 := Aside0.mk A1400
          clear A1400
          by_cases c141 : t581 = true
          rotate_left
          ·
           replace c141 := Bool.eq_false_iff.mpr c141
           subst c141
           have H1 : (none) = some r := by rw [if_neg (show ¬ (false = true) by decide)] at H; exact H
           clear H
           have H := H1
           clear H1
           exact absurd H (by simp)
          subst c141
          have H1 : ((read_Count.f kj121 x538000_1 x538001_1 (⟨#[107]⟩ : ByteArray)).bind fun t582 => (if t582 = x5_1 then ((deaddroplaw10_awake.f kj121).bind fun t583 => (some t583)) else (none))) = some r := by rw [if_pos rfl] at H; exact H
          clear H
          have H := H1
          clear H1
          replace H := Option.bind_eq_some_iff.mp H
          obtain ⟨t582, A1420, H⟩ := H
          replace H : (if t582 = x5_1 then ((deaddroplaw10_awake.f kj121).bind fun t583 => (some t583)) else (none)) = some r := H
          have A142 := Aside0.mk A1420
          clear A1420
          by_cases c143 : t582 = x5_1
          rotate_left
          ·
           rw [if_neg c143] at H
           exact absurd H (by simp)
          rw [if_pos c143] at H
          have c143b0 : (t582 == x5_1) = true := beq_iff_eq.mpr c143
          have c143b1 : (t582 != x5_1) = false := bne_eq_false_iff_eq.mpr c143
          clear c143
          replace H := Option.bind_eq_some_iff.mp H
          obtain ⟨t583, A1440, H⟩ := H
          replace H : (some t583) = some r := H
          have A144 := Aside0.mk A1440
          clear A1440
          obtain rfl := Option.some.inj H
          have hcz145_0 : wc.cell? ⟨gb537, 0, none⟩ = some (.slice Ao124 x538000_1.length co124) := (blk_cell BK537.out 0).trans rfl
          have hcz145_1 : wc.cell? ⟨gb537, 1, none⟩ = some (.slice Ao125 x538001_1.length co125) := (blk_cell BK537.out 1).trans rfl
          have hfz145_0 := blk_frozen BK537.out 0
          have hfz145_1 := blk_frozen BK537.out 1
          go_wp2_with (first | (go_at_call 16; (with_reducible refine (read_Members.calls kj121 _ _ x538000_1 _ _ x538001_1 (⟨#[107]⟩ : ByteArray) t578 _ ?side1 ?side2 ?side3 ?side4 A139.out).mono ?_); (case side1 => exact cr (Kd.R_reads' HO_538000.out).2.2); (case side2 => exact (Kd.R_reads' HO_538000.out).2.1); (case side3 => exact cr (Kd.R_reads' HO_538001.out).2.2); (case side4 => exact (Kd.R_reads' HO_538001.out).2.1); rintro e w146 ⟨v579, rfl, ho0, hb⟩; replace HO_538000 := Aside0.mk (Kd.R_below (rk HO_538000.out) hb); replace HO_538001 := Aside0.mk (Kd.R_below (rk HO_538001.out) hb); have HO580 := Aside0.mk (Kd.R_lower (Kd.R_new' ho0 (Kd.R_lt (rk HO_10.out))) (below_size (bw1 HB.out GE537.out))); replace HO_10 := Aside0.mk (Kd.R_elder' (rk HO_10.out) (Kd.R_base ho0) hb); replace BK537 := Aside0.mk (blk_below (g := gb537) (o := .cells #[.slice Ao124 x538000_1.length co124, .slice Ao125 x538001_1.length co125] 28 (0, 0)) (bk BK537.out) hb); replace HB := Aside0.mk (below_step (bw1 HB.out GE537.out) hb); (try clear hb); (try clear hb2); (try clear hk); (try clear hi); (try clear ho0); obtain ⟨Ao147, co147, eo147⟩ := Kd.R_slice HO580.out; subst eo147; obtain ⟨Ao148, co148, eo148⟩ := Kd.R_slice HO_10.out; subst eo148) | (go_at_call 15; (with_reducible refine (deaddropref1_SameTexts.calls kj121 _ _ t578 _ _ x10_2 true _ ?side1 ?side2 ?side3 ?side4 A140.out).mono ?_); (case side1 => exact cr (Kd.R_reads' HO580.out).2.2); (case side2 => exact (Kd.R_reads' HO580.out).2.1); (case side3 => exact cr (Kd.R_reads' HO_10.out).2.2); (case side4 => exact (Kd.R_reads' HO_10.out).2.1); rintro e w' ⟨rfl, ⟨nd, rfl⟩⟩; have hcz149_0 : w146.cell? ⟨gb537, 0, none⟩ = some (.slice Ao124 x538000_1.length co124) := (blk_cell BK537.out 0).trans rfl; have hcz149_1 : w146.cell? ⟨gb537, 1, none⟩ = some (.slice Ao125 x538001_1.length co125) := (blk_cell BK537.out 1).trans rfl; have hfz149_0 := blk_frozen BK537.out 0; have hfz149_1 := blk_frozen BK537.out 1) | (go_at_call 10; (with_reducible refine (read_Count.calls kj121 _ _ x538000_1 _ _ x538001_1 (⟨#[107]⟩ : ByteArray) t582 _ ?side1 ?side2 ?side3 ?side4 A142.out).mono ?_); (case side1 => exact cr (Kd.R_reads' HO_538000.out).2.2); (case side2 => exact (Kd.R_reads' HO_538000.out).2.1); (case side3 => exact cr (Kd.R_reads' HO_538001.out).2.2); (case side4 => exact (Kd.R_reads' HO_538001.out).2.1); rintro e w150 ⟨rfl, hb⟩; replace HO_10 := Aside0.mk (Kd.R_below (rk HO_10.out) hb); replace HO_538000 := Aside0.mk (Kd.R_below (rk HO_538000.out) hb); replace HO_538001 := Aside0.mk (Kd.R_below (rk HO_538001.out) hb); replace HO580 := Aside0.mk (Kd.R_below (rk HO580.out) hb); replace BK537 := Aside0.mk (blk_below (g := gb537) (o := .cells #[.slice Ao124 x538000_1.length co124, .slice Ao125 x538001_1.length co125] 28 (0, 0)) (bk BK537.out) hb); replace HB := Aside0.mk (below_step (bw1 HB.out GE537.out) hb); (try clear hb); (try clear hb2); (try clear hk); (try clear hi)) | (go_at_call 11; (with_reducible refine (deaddroplaw10_awake.calls kj121  t583 _ A144.out).mono ?_); rintro e w151 ⟨rfl, hb⟩; replace HO_10 := Aside0.mk (Kd.R_below (rk HO_10.out) hb); replace HO_538000 := Aside0.mk (Kd.R_below (rk HO_538000.out) hb); replace HO_538001 := Aside0.mk (Kd.R_below (rk HO_538001.out) hb); replace HO580 := Aside0.mk (Kd.R_below (rk HO580.out) hb); replace BK537 := Aside0.mk (blk_below (g := gb537) (o := .cells #[.slice Ao124 x538000_1.length co124, .slice Ao125 x538001_1.length co125] 28 (0, 0)) (bk BK537.out) hb); replace HB := Aside0.mk (below_step (bw1 HB.out GE537.out) hb); (try clear hb); (try clear hb2); (try clear hk); (try clear hi)))
          go_ret
          exact ⟨by first | rfl | (simp [errW_none, errW_some] <;> rfl) | (simp [*, errW_none, errW_some] <;> rfl), by repeat (first | (with_reducible first | exact HB.out | apply below_alloc | apply pw_below_drewN | apply below_drew1 | refine below_set ?_ GE537.out) | exact HB.out)⟩
/-- THE ONE PURE STATEMENT of deaddroplaw10_ReadAlone: yours. -/
def deaddroplaw10_ReadAlone.Pure : Prop := ∀ (l0 : List Int), l0.length ≤ maxLen → l0.length * 1 ≤ 140737488351232 → (∀ x ∈ l0, (Lit.int .u8 x).wf = true) → ∃ k, deaddroplaw10_ReadAlone.f k l0 = some true
theorem deaddroplaw10_ReadAlone.walk (P : deaddroplaw10_ReadAlone.Pure) (a0 : Option Addr) (len0 cap0 : Nat) (z0 : List Int) (w : World) (w0 : (a0 = none ∧ len0 = 0 ∧ cap0 = 0 ∧ z0 = []) ∨ ∃ x, a0 = some x ∧ len0 ≤ cap0 ∧ cap0 ≤ maxLen ∧ z0.length = cap0 ∧ (∀ i, i < z0.length → w.cell? (x.add i) = some (.int .u8 (z0.getD i 0))) ∧ ∀ n ∈ z0, (Lit.int .u8 n).wf = true) (y0 : len0 * 1 ≤ 140737488351232) :
 Calls Try.prog 4 #[.slice a0 len0 cap0] w fun e w' => e = .returned (.bool true) ∧ Below w.heap.size w w' := by
 obtain ⟨l0, rfl, hr0, hm0, hw0, hc0⟩ := ReadsInt.ofRowC w0
 obtain ⟨k, h⟩ := P l0 hm0 y0 hw0
 refine (deaddroplaw10_ReadAlone.calls k _ _ l0 true w (Kd.C_of_reads (d := (0 : Int)) (h1 := fun _ => rfl) hr0) hc0 h).mono ?_
 rintro e w' ⟨rfl, hd⟩
 exact ⟨rfl, hd⟩

end Go.Proofs.Ytaonemedoikieaa.P
