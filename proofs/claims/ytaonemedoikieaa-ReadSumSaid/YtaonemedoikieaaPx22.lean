-- Written by a program of this work (wip/tools/mkprint.py) over the kit's print; Lean checks it.
import Derived.Test.YtaonemedoikieaaPx0
import Derived.Test.YtaonemedoikieaaPx5
import Derived.Test.YtaonemedoikieaaPx9
import Derived.Test.YtaonemedoikieaaPx10
import Derived.Test.YtaonemedoikieaaPx21
import Derived.Test.YtaonemedoikieaaHAbb
namespace Go.Proofs.Ytaonemedoikieaa.P
open Go.RowKit Go.Proofs.YtaonemedoikieaaW.PrintWords Go.Proofs.YtaonemedoikieaaW.PrintLast Go.Proofs.YtaonemedoikieaaW.PrintMore Go.Proofs.Ytaonemedoikieaa.AB
attribute [local go_sem] max2_int min2_int max_two min_two max_three min_three max_four min_four   -- for this text's walks alone
set_option linter.unusedVariables false
set_option linter.unusedSimpArgs false

/-! ### deaddroplaw10_ReadSum: function 3 -/
def deaddroplaw10_ReadSum.l0 : Nat → ByteArray → Int → Int → List (S70) → List (S34) → Option (Bool)
 | 0, _, _, _, _, _ => none
 | k + 1, x7, x8, x9, x515000, x515001 => if x9 < (x515001.length : Int) then (if 0 ≤ x9 then (if ((rd_T34 x515001 x9).f1).toList = x7.toList then (if ((rd_T34 x515001 x9).f2) = 3 then (deaddroplaw10_ReadSum.l0 k x7 (wrap64 (x8 + ((rd_T34 x515001 x9).f4))) (wrap64 (x9 + 1)) x515000 x515001) else (deaddroplaw10_ReadSum.l0 k x7 x8 (wrap64 (x9 + 1)) x515000 x515001)) else (deaddroplaw10_ReadSum.l0 k x7 x8 (wrap64 (x9 + 1)) x515000 x515001)) else (none)) else ((read_Count.f k x515000 x515001 x7).bind fun t521 => (if t521 = x8 then ((deaddropref7_Join.f k x515000 x515001 x515000 x515001).bind fun bt522 => ((read_Count.f k bt522.1 bt522.2 x7).bind fun t528 => (if t528 = x8 then ((deaddroplaw10_awake.f k).bind fun t529 => (some t529)) else (none)))) else (none)))
def deaddroplaw10_ReadSum.f (k : Nat) (l0 : List Int) (a1 : Int) : Option (Bool) := (deaddroplaw9_Apart.f k l0).bind fun t491 => ((deaddropref7_All.f k t491).bind fun bt494 => (if 1 < (t491.length : Int) then (if 2 < (t491.length : Int) then ((deaddropref7_Join.f k ((rd_T28 t491 1).f0) ((rd_T28 t491 1).f1) ((rd_T28 t491 2).f0) ((rd_T28 t491 2).f1)).bind fun bt502 => ((deaddropref7_Join.f k bt494.1 bt494.2 bt502.1 bt502.2).bind fun bt508 => (deaddroplaw10_ReadSum.l0 k (strOfNums (([(107 + (Int.tmod a1 3)) % 256] : List Int))) 0 0 bt508.1 bt508.2))) else (none)) else (none)))
theorem deaddroplaw10_ReadSum.mono_l : ∀ k, (∀ y0 y1 y2 y3 y4, LeO (deaddroplaw10_ReadSum.l0 k y0 y1 y2 y3 y4) (deaddroplaw10_ReadSum.l0 (k + 1) y0 y1 y2 y3 y4))
 | 0 => fun _ _ _ _ _ r h => by simp [deaddroplaw10_ReadSum.l0] at h
 | k + 1 => by
  have ih0 := deaddroplaw10_ReadSum.mono_l k
  ·
   intro y0 y1 y2 y3 y4
   unfold deaddroplaw10_ReadSum.l0
   repeat' first
   | with_reducible (first | exact ih0 _ _ _ _ _ | exact deaddroplaw10_awake.mono _ | exact deaddroplaw9_Apart.mono _ _ | exact deaddropref7_All.mono _ _ | exact deaddropref7_Join.mono _ _ _ _ _ | exact read_Count.mono _ _ _ _ | exact LeO.refl _ | exact LeO.none _ | refine LeO.ite ?_ ?_ | refine LeO.bind ?_ (fun _ => ?_))
   | exact ih0 _ _ _ _ _ | exact deaddroplaw10_awake.mono _ | exact deaddroplaw9_Apart.mono _ _ | exact deaddropref7_All.mono _ _ | exact deaddropref7_Join.mono _ _ _ _ _ | exact read_Count.mono _ _ _ _ | exact LeO.none _ | refine LeO.ite ?_ ?_ | refine LeO.bind ?_ (fun _ => ?_)
theorem deaddroplaw10_ReadSum.mono : ∀ a0 a1 k, LeO (deaddroplaw10_ReadSum.f k a0 a1) (deaddroplaw10_ReadSum.f (k + 1) a0 a1) := by
 intro a0 a1 k
 have ih0 := deaddroplaw10_ReadSum.mono_l k
 unfold deaddroplaw10_ReadSum.f
 repeat' first
  | with_reducible (first | exact ih0 _ _ _ _ _ | exact deaddroplaw10_awake.mono _ | exact deaddroplaw9_Apart.mono _ _ | exact deaddropref7_All.mono _ _ | exact deaddropref7_Join.mono _ _ _ _ _ | exact read_Count.mono _ _ _ _ | exact LeO.refl _ | exact LeO.none _ | refine LeO.ite ?_ ?_ | refine LeO.bind ?_ (fun _ => ?_))
  | exact ih0 _ _ _ _ _ | exact deaddroplaw10_awake.mono _ | exact deaddroplaw9_Apart.mono _ _ | exact deaddropref7_All.mono _ _ | exact deaddropref7_Join.mono _ _ _ _ _ | exact read_Count.mono _ _ _ _ | exact LeO.none _ | refine LeO.ite ?_ ?_ | refine LeO.bind ?_ (fun _ => ?_)
def deaddroplaw10_ReadSum.T2 : Bool × List (List Nat × List Nat) := (true, [([], []), ([0], [0]), ([], []), ([2], [2]), ([3], [3]), ([], []), ([5], [5]), ([6], [6]), ([4, 7, 1], [4, 7]), ([1, 8, 8], [1, 8]), ([], []), ([10, 9, 9, 0, 1, 2, 3, 4, 5, 6, 7, 8, 9, 10], [9, 10])])
def deaddroplaw10_ReadSum.B2 : List Nat := [0, 1, 0, 4, 12, 0, 32, 96, 255, 511, 0, 2047]
theorem deaddroplaw10_ReadSum.tab2 : rtab .any (opsOf Try.f3 2) = deaddroplaw10_ReadSum.T2 := by kernel_rfl
theorem deaddroplaw10_ReadSum.bits2 : waitsOk deaddroplaw10_ReadSum.T2.2 deaddroplaw10_ReadSum.B2 = true := by kernel_rfl
set_option maxHeartbeats 8000000 in
set_option maxRecDepth 100000 in
theorem deaddroplaw10_ReadSum.calls (k : Nat) (A0 : Option Addr) (c0 : Nat) (l0 : List Int) (a1 : Int) (r : Bool) (w : World) (hr0 : Kd.C (Kd.int .u8) w A0 l0.length l0) (hc0 : l0.length ≤ c0) (h : deaddroplaw10_ReadSum.f k l0 a1 = some r) :
 Calls Try.prog 3 #[.slice A0 l0.length c0, .int .u8 a1] w fun e w' => e = .returned (.bool r) ∧ Below w.heap.size w w' := by
 have hu28 := Try.underlying28
 have HR0 := Aside0.mk hr0
 have HC0 := Aside0.mk hc0
 clear hr0 hc0
 have HB := Aside0.mk (Below.refl w.heap.size w)
 have H : ((deaddroplaw9_Apart.f k l0).bind fun t491 => ((deaddropref7_All.f k t491).bind fun bt494 => (if 1 < (t491.length : Int) then (if 2 < (t491.length : Int) then ((deaddropref7_Join.f k ((rd_T28 t491 1).f0) ((rd_T28 t491 1).f1) ((rd_T28 t491 2).f0) ((rd_T28 t491 2).f1)).bind fun bt502 => ((deaddropref7_Join.f k bt494.1 bt494.2 bt502.1 bt502.2).bind fun bt508 => (deaddroplaw10_ReadSum.l0 k (strOfNums (([(107 + (Int.tmod a1 3)) % 256] : List Int))) 0 0 bt508.1 bt508.2))) else (none)) else (none)))) = some r := h
 clear h
 replace H := Option.bind_eq_some_iff.mp H
 obtain ⟨t491, A30, H⟩ := H
 replace H : ((deaddropref7_All.f k t491).bind fun bt494 => (if 1 < (t491.length : Int) then (if 2 < (t491.length : Int) then ((deaddropref7_Join.f k ((rd_T28 t491 1).f0) ((rd_T28 t491 1).f1) ((rd_T28 t491 2).f0) ((rd_T28 t491 2).f1)).bind fun bt502 => ((deaddropref7_Join.f k bt494.1 bt494.2 bt502.1 bt502.2).bind fun bt508 => (deaddroplaw10_ReadSum.l0 k (strOfNums (([(107 + (Int.tmod a1 3)) % 256] : List Int))) 0 0 bt508.1 bt508.2))) else (none)) else (none))) = some r := H
 have A3 := Aside0.mk A30
 clear A30
 replace H := Option.bind_eq_some_iff.mp H
 obtain ⟨⟨t494, t497⟩, A40, H⟩ := H
 replace H : (if 1 < (t491.length : Int) then (if 2 < (t491.length : Int) then ((deaddropref7_Join.f k ((rd_T28 t491 1).f0) ((rd_T28 t491 1).f1) ((rd_T28 t491 2).f0) ((rd_T28 t491 2).f1)).bind fun bt502 => ((deaddropref7_Join.f k t494 t497 bt502.1 bt502.2).bind fun bt508 => (deaddroplaw10_ReadSum.l0 k (strOfNums (([(107 + (Int.tmod a1 3)) % 256] : List Int))) 0 0 bt508.1 bt508.2))) else (none)) else (none)) = some r := H
 have A4 := Aside0.mk A40
 clear A40
 by_cases c5 : 1 < (t491.length : Int)
 rotate_left
 ·
  rw [if_neg c5] at H
  exact absurd H (by simp)

 rw [if_pos c5] at H
 have c5b0 : decide (1 < (t491.length : Int)) = true := decide_eq_true c5
 have c5b1 : decide (1 < t491.length) = true := decide_eq_true (by omega)
 clear c5
 by_cases c6 : 2 < (t491.length : Int)
 rotate_left
 ·
  rw [if_neg c6] at H
  exact absurd H (by simp)
 rw [if_pos c6] at H
 have c6b0 : decide (2 < (t491.length : Int)) = true := decide_eq_true c6
 have c6b1 : decide (2 < t491.length) = true := decide_eq_true (by omega)
 clear c6
 replace H := Option.bind_eq_some_iff.mp H
 obtain ⟨⟨t502, t505⟩, A70, H⟩ := H
 replace H : ((deaddropref7_Join.f k t494 t497 t502 t505).bind fun bt508 => (deaddroplaw10_ReadSum.l0 k (strOfNums (([(107 + (Int.tmod a1 3)) % 256] : List Int))) 0 0 bt508.1 bt508.2)) = some r := H
 have A7 := Aside0.mk A70
 clear A70
 replace H := Option.bind_eq_some_iff.mp H
 obtain ⟨⟨t508, t511⟩, A80, H⟩ := H
 replace H : (deaddroplaw10_ReadSum.l0 k (strOfNums (([(107 + (Int.tmod a1 3)) % 256] : List Int))) 0 0 t508 t511) = some r := H
 have A8 := Aside0.mk A80
 clear A80
 obtain ⟨y515, hy515⟩ : ∃ y_ : List Int, y_ = (([(107 + (Int.tmod a1 3)) % 256] : List Int)) := ⟨_, rfl⟩
 replace H : (deaddroplaw10_ReadSum.l0 k (strOfNums y515) 0 0 t508 t511) = some r := by first | (rw [hy515]; with_reducible exact H) | (have H2_ := (Option.bind_some _ _).symm.trans H; rw [hy515]; with_reducible exact H2_) | (have H2_ := (Option.bind_some _ _).symm.trans H; with_reducible exact H2_) | with_reducible exact H | (rw [hy515]; exact H) | exact H
 have Ny515 := Aside0.mk hy515
 clear hy515
 have H' := Aside0.mk H
 clear H
 go_enter Try.func3, Try.ntmps3
 try go_wp2_with (first | ((with_reducible refine gate_callee (f := 7) rfl ?_); refine goesL_ (some 11) rfl rfl Try.func7 (by kernel_rfl) rfl #[.slice A0 l0.length c0] rfl ar_ ?_; (with_reducible refine (deaddroplaw9_Apart.calls k _ _ l0 t491 _ ?side1 ?side2 A3.out).mono ?_); (case side1 => repeat (first | exact HR0.out | (with_reducible refine Kd.C_alloc ?_ _) | (with_reducible refine Kd.C_drewN ?_ _) | (with_reducible refine Kd.C_drew ?_))); (case side2 => exact HC0.out); rintro e w9 ⟨v492, rfl, ho0, hb⟩; refine ⟨_, rfl, ?_⟩; have HO493 := Aside0.mk (Kd.N_lower (Kd.N_mono (ok' := fun k_ => True) ho0 (fun k_ hk_ => trivial)) (below_size (bw HB.out))); replace HB := Aside0.mk (below_step (bw HB.out) hb); (try clear hb); (try clear hb2); (try clear hk); (try clear hi); (try clear ho0); obtain ⟨Ao10, co10, eo10⟩ := Kd.N_slice HO493.out; subst eo10))
 replace HO493 := Aside0.mk (Kd.N_drew HO493.out)
 replace HB := Aside0.mk (below_drew1 HB.out)
 have p500 : 0 ≤ (1 : Int) := (by omega)
 have q500 : 1 < (t491.length : Int) := of_decide_eq_true as_
 obtain ⟨ad500, A500_0, c500_0, A500_1, c500_1, e500, hx500_0, hx500_1, hl500_0, hi500_0, hl500_1, hi500_1⟩ := at_T28 (Kd.N_reads' HO493.out).2.2 1 p500 q500
 cases e500
 obtain ⟨ce500, hce500, hMe500, hcc500⟩ := Kd.N_get HO493.out z28 1 p500 (by first | exact q500 | exact of_decide_eq_true as_ | (have e_ := (Kd.N_reads' HO493.out).1; omega))
 obtain ⟨ua500_0, uc500_0, ua500_1, uc500_1, rfl, ul500_0, ge500_0, ul500_1, ge500_1⟩ := k28_openF hMe500
 have hv500_0 := hcc500 0 _ rfl
 rw [Nat.add_zero] at hv500_0
 replace hv500_0 := Option.some.inj (hv500_0.symm.trans hx500_0)
 injection hv500_0 with hva_ hvn_ hvc_
 rw [hva_] at ge500_0
 rw [hvc_] at ul500_0
 have HL500_0 := Aside0.mk (show Kd.V k70 70 _ w.heap.size _ _ ((rd_T28 t491 1).f0) from Kd.V_mk ul500_0 ge500_0)
 clear hva_ hvn_ hvc_ ge500_0 ul500_0
 have hv500_1 := hcc500 1 _ rfl
 rw [add_field _ _ 1 (by omega)] at hv500_1
 replace hv500_1 := Option.some.inj (hv500_1.symm.trans hx500_1)
 injection hv500_1 with hva_ hvn_ hvc_
 rw [hva_] at ge500_1
 rw [hvc_] at ul500_1
 have HL500_1 := Aside0.mk (show Kd.V k34 34 _ w.heap.size _ _ ((rd_T28 t491 1).f1) from Kd.V_mk ul500_1 ge500_1)
 clear hva_ hvn_ hvc_ ge500_1 ul500_1
 clear hcc500 hce500
 (try simp only [show (1 : Int).toNat = 1 from rfl, Nat.reduceMul, Nat.reduceEqDiff, Go.Addr.add, ↓reduceIte] at hx500_0)
 (try simp only [show (1 : Int).toNat = 1 from rfl, Nat.reduceMul, Nat.reduceEqDiff, Go.Addr.add, ↓reduceIte] at hx500_1)
 have qi500 : (1 < t491.length) = True := eq_true (by omega)
 (try rw [show ((1 : Int)).toNat = 1 from rfl] at hx500_0)
 (try rw [show 1 * 2 = 2 from rfl] at hx500_0)
 (try rw [show ((1 : Int)).toNat = 1 from rfl] at hx500_1)
 (try rw [show 1 * 2 = 2 from rfl] at hx500_1)
 have HR500_0 := Aside0.mk hi500_0
 have HC500_0 := Aside0.mk hl500_0
 clear hi500_0 hl500_0
 have HR500_1 := Aside0.mk hi500_1
 have HC500_1 := Aside0.mk hl500_1
 clear hi500_1 hl500_1
 replace p500 := eq_true p500
 replace q500 := eq_true q500
 have p501 : 0 ≤ (2 : Int) := (by omega)
 have q501 : 2 < (t491.length : Int) := of_decide_eq_true as_
 obtain ⟨ad501, A501_0, c501_0, A501_1, c501_1, e501, hx501_0, hx501_1, hl501_0, hi501_0, hl501_1, hi501_1⟩ := at_T28 (Kd.N_reads' HO493.out).2.2 2 p501 q501
 obtain rfl : ad500 = ad501 := (by injection e501)
 obtain ⟨ce501, hce501, hMe501, hcc501⟩ := Kd.N_get HO493.out z28 2 p501 (by first | exact q501 | exact of_decide_eq_true as_ | (have e_ := (Kd.N_reads' HO493.out).1; omega))
 obtain ⟨ua501_0, uc501_0, ua501_1, uc501_1, rfl, ul501_0, ge501_0, ul501_1, ge501_1⟩ := k28_openF hMe501
 have hv501_0 := hcc501 0 _ rfl
 rw [Nat.add_zero] at hv501_0
 replace hv501_0 := Option.some.inj (hv501_0.symm.trans hx501_0)
 injection hv501_0 with hva_ hvn_ hvc_
 rw [hva_] at ge501_0
 rw [hvc_] at ul501_0
 have HL501_0 := Aside0.mk (show Kd.V k70 70 _ w.heap.size _ _ ((rd_T28 t491 2).f0) from Kd.V_mk ul501_0 ge501_0)
 clear hva_ hvn_ hvc_ ge501_0 ul501_0
 have hv501_1 := hcc501 1 _ rfl
 rw [add_field _ _ 1 (by omega)] at hv501_1
 replace hv501_1 := Option.some.inj (hv501_1.symm.trans hx501_1)
 injection hv501_1 with hva_ hvn_ hvc_
 rw [hva_] at ge501_1
 rw [hvc_] at ul501_1
 have HL501_1 := Aside0.mk (show Kd.V k34 34 _ w.heap.size _ _ ((rd_T28 t491 2).f1) from Kd.V_mk ul501_1 ge501_1)
 clear hva_ hvn_ hvc_ ge501_1 ul501_1
 clear hcc501 hce501
 (try simp only [show (2 : Int).toNat = 2 from rfl, Nat.reduceMul, Nat.reduceEqDiff, Go.Addr.add, ↓reduceIte] at hx501_0)
 (try simp only [show (2 : Int).toNat = 2 from rfl, Nat.reduceMul, Nat.reduceEqDiff, Go.Addr.add, ↓reduceIte] at hx501_1)
 have qi501 : (2 < t491.length) = True := eq_true (by omega)
 (try rw [show ((2 : Int)).toNat = 2 from rfl] at hx501_0)
 (try rw [show 2 * 2 = 4 from rfl] at hx501_0)
 (try rw [show ((2 : Int)).toNat = 2 from rfl] at hx501_1)
 (try rw [show 2 * 2 = 4 from rfl] at hx501_1)
 have HR501_0 := Aside0.mk hi501_0
 have HC501_0 := Aside0.mk hl501_0
 clear hi501_0 hl501_0
 have HR501_1 := Aside0.mk hi501_1
 have HC501_1 := Aside0.mk hl501_1
 clear hi501_1 hl501_1
 replace p501 := eq_true p501
 replace q501 := eq_true q501
 refine start_ (n := 12) (S := fun w' => w'.cell? ⟨ad500.block, ad500.off + 2, none⟩ = some (.slice A500_0 ((rd_T28 t491 1).f0).length c500_0) ∧ w'.cell? ⟨ad500.block, ad500.off + 2 + 1, none⟩ = some (.slice A500_1 ((rd_T28 t491 1).f1).length c500_1) ∧ w'.cell? ⟨ad500.block, ad500.off + 4, none⟩ = some (.slice A501_0 ((rd_T28 t491 2).f0).length c501_0) ∧ w'.cell? ⟨ad500.block, ad500.off + 4 + 1, none⟩ = some (.slice A501_1 ((rd_T28 t491 2).f1).length c501_1)) (ds := []) (fl 0 12) (by kernel_rfl) rfl rfl ⟨hx500_0, hx500_1, hx501_0, hx501_1⟩ (fun hHeld => ?_); refine with_tabW deaddroplaw10_ReadSum.tab2 deaddroplaw10_ReadSum.bits2 (fun HT_ HW_ => ?_)
 generalize w9.drew = w11 at HO493 HB HL500_0 HL500_1 HL501_0 HL501_1 HR500_0 HR500_1 HR501_0 HR501_1 hx500_0 hx500_1 hx501_0 hx501_1 hHeld ⊢
 refine pure_ (i := 0) (N := some 12) (fl 1 12) rfl rfl (any_of HT_.out (by kernel_rfl)) (fun _ _ _ h => h) (Or.inl ⟨by rfl, py⟩) pa ?_
 refine pure_ (i := 2) (N := some 14) #[true, false, true, false, false, false, false, false, false, false, false, false] rfl rfl (any_of HT_.out (by kernel_rfl)) (fun _ _ _ h => h) (Or.inl ⟨by rfl, py⟩) pa ?_
 refine pure_ (i := 3) (N := some 15) #[true, false, true, true, false, false, false, false, false, false, false, false] rfl rfl (any_of HT_.out (by kernel_rfl)) (fun _ _ _ h => h) (Or.inl ⟨by rfl, py⟩) pa ?_
 refine pure_ (i := 5) (N := some 17) #[true, false, true, true, false, true, false, false, false, false, false, false] rfl rfl (any_of HT_.out (by kernel_rfl)) (fun _ _ _ h => h) (Or.inl ⟨by rfl, py⟩) pa ?_
 refine pure_ (i := 6) (N := some 18) #[true, false, true, true, false, true, true, false, false, false, false, false] rfl rfl (any_of HT_.out (by kernel_rfl)) (fun _ _ _ h => h) (Or.inl ⟨by rfl, py⟩) pa ?_
 refine take_ (i := 4) (N := some 16) (v := ?_) (a' := ?_) #[true, false, true, true, true, true, true, false, false, false, false, false] rfl rfl (take_ofW HT_.out HW_.out (by kernel_rfl)) (fun _ _ _ h => h) (Or.inl ⟨by rfl, ?_⟩) hHeld ?_ ?_
 rotate_left
 ·
  rintro w' ⟨s0, s1, s2, s3⟩
  go_simp
  with_reducible rfl
 rotate_left
 ·
  simp only [Act.put, List.setIfInBounds_toArray, List.set_cons_zero, List.set_cons_succ, i64_w, i32_w]
  rfl
 refine take_ (i := 7) (N := some 19) (v := ?_) (a' := ?_) #[true, false, true, true, true, true, true, true, false, false, false, false] rfl rfl (take_ofW HT_.out HW_.out (by kernel_rfl)) (fun _ _ _ h => h) (Or.inl ⟨by rfl, ?_⟩) hHeld ?_ ?_
 rotate_left
 ·
  rintro w' ⟨s0, s1, s2, s3⟩
  go_simp
  with_reducible rfl
 rotate_left
 ·
  simp only [Act.put, List.setIfInBounds_toArray, List.set_cons_zero, List.set_cons_succ, i64_w, i32_w]
  rfl
 refine join_ (σ := Value × Value × Value × Value × Value × Value × Nat) 1 (fl 11 12) (fun s_ => [(13, .agg #[s_.1, s_.2.1]), (20, .agg #[s_.2.2.1, s_.2.2.2.1]), (21, .agg #[s_.2.2.2.2.1, s_.2.2.2.2.2.1]), (6, .pointer (some ⟨s_.2.2.2.2.2.2, 0, none⟩))]) (fun s_ w' => (w'.cell? ⟨ad500.block, ad500.off + 2, none⟩ = some (.slice A500_0 ((rd_T28 t491 1).f0).length c500_0) ∧ w'.cell? ⟨ad500.block, ad500.off + 2 + 1, none⟩ = some (.slice A500_1 ((rd_T28 t491 1).f1).length c500_1) ∧ w'.cell? ⟨ad500.block, ad500.off + 4, none⟩ = some (.slice A501_0 ((rd_T28 t491 2).f0).length c501_0) ∧ w'.cell? ⟨ad500.block, ad500.off + 4 + 1, none⟩ = some (.slice A501_1 ((rd_T28 t491 2).f1).length c501_1)) ∧ (Kd.V k70 70 w' w.heap.size (fun k_ => some k_ ≠ (.slice (some ad500) t491.length co10 : Value).ownBlock ∧ some k_ ≠ (s_.1 : Value).ownBlock ∧ some k_ ≠ (s_.2.1 : Value).ownBlock ∧ some k_ ≠ (s_.2.2.1 : Value).ownBlock ∧ some k_ ≠ (s_.2.2.2.1 : Value).ownBlock ∧ some k_ ≠ (s_.2.2.2.2.1 : Value).ownBlock ∧ some k_ ≠ (s_.2.2.2.2.2.1 : Value).ownBlock ∧ k_ ≠ s_.2.2.2.2.2.2) (.slice A500_0 ((rd_T28 t491 1).f0).length c500_0) ((rd_T28 t491 1).f0)) ∧ (Kd.V k34 34 w' w.heap.size (fun k_ => some k_ ≠ (.slice (some ad500) t491.length co10 : Value).ownBlock ∧ some k_ ≠ (s_.1 : Value).ownBlock ∧ some k_ ≠ (s_.2.1 : Value).ownBlock ∧ some k_ ≠ (s_.2.2.1 : Value).ownBlock ∧ some k_ ≠ (s_.2.2.2.1 : Value).ownBlock ∧ some k_ ≠ (s_.2.2.2.2.1 : Value).ownBlock ∧ some k_ ≠ (s_.2.2.2.2.2.1 : Value).ownBlock ∧ k_ ≠ s_.2.2.2.2.2.2) (.slice A500_1 ((rd_T28 t491 1).f1).length c500_1) ((rd_T28 t491 1).f1)) ∧ (Kd.V k70 70 w' w.heap.size (fun k_ => some k_ ≠ (.slice (some ad500) t491.length co10 : Value).ownBlock ∧ some k_ ≠ (s_.1 : Value).ownBlock ∧ some k_ ≠ (s_.2.1 : Value).ownBlock ∧ some k_ ≠ (s_.2.2.1 : Value).ownBlock ∧ some k_ ≠ (s_.2.2.2.1 : Value).ownBlock ∧ some k_ ≠ (s_.2.2.2.2.1 : Value).ownBlock ∧ some k_ ≠ (s_.2.2.2.2.2.1 : Value).ownBlock ∧ k_ ≠ s_.2.2.2.2.2.2) (.slice A501_0 ((rd_T28 t491 2).f0).length c501_0) ((rd_T28 t491 2).f0)) ∧ (Kd.V k34 34 w' w.heap.size (fun k_ => some k_ ≠ (.slice (some ad500) t491.length co10 : Value).ownBlock ∧ some k_ ≠ (s_.1 : Value).ownBlock ∧ some k_ ≠ (s_.2.1 : Value).ownBlock ∧ some k_ ≠ (s_.2.2.1 : Value).ownBlock ∧ some k_ ≠ (s_.2.2.2.1 : Value).ownBlock ∧ some k_ ≠ (s_.2.2.2.2.1 : Value).ownBlock ∧ some k_ ≠ (s_.2.2.2.2.2.1 : Value).ownBlock ∧ k_ ≠ s_.2.2.2.2.2.2) (.slice A501_1 ((rd_T28 t491 2).f1).length c501_1) ((rd_T28 t491 2).f1)) ∧ (Kd.N k28 28 w' w.heap.size (fun k_ => some k_ ≠ (s_.1 : Value).ownBlock ∧ some k_ ≠ (s_.2.1 : Value).ownBlock ∧ some k_ ≠ (s_.2.2.1 : Value).ownBlock ∧ some k_ ≠ (s_.2.2.2.1 : Value).ownBlock ∧ some k_ ≠ (s_.2.2.2.2.1 : Value).ownBlock ∧ some k_ ≠ (s_.2.2.2.2.2.1 : Value).ownBlock ∧ k_ ≠ s_.2.2.2.2.2.2) (.slice (some ad500) t491.length co10) t491) ∧ (Kd.R k70 70 w' w.heap.size (fun k_ => some k_ ≠ (s_.2.2.1 : Value).ownBlock ∧ some k_ ≠ (s_.2.2.2.2.1 : Value).ownBlock) s_.1 t494) ∧ (Kd.R k34 34 w' w.heap.size (fun k_ => some k_ ≠ (s_.2.2.2.1 : Value).ownBlock ∧ some k_ ≠ (s_.2.2.2.2.2.1 : Value).ownBlock) s_.2.1 t497) ∧ (Kd.R k70 70 w' w.heap.size (fun k_ => some k_ ≠ (s_.1 : Value).ownBlock ∧ some k_ ≠ (s_.2.2.2.2.1 : Value).ownBlock) s_.2.2.1 t502) ∧ (Kd.R k34 34 w' w.heap.size (fun k_ => some k_ ≠ (s_.2.1 : Value).ownBlock ∧ some k_ ≠ (s_.2.2.2.2.2.1 : Value).ownBlock) s_.2.2.2.1 t505) ∧ (Kd.R k70 70 w' w.heap.size (fun k_ => some k_ ≠ (s_.1 : Value).ownBlock ∧ some k_ ≠ (s_.2.2.1 : Value).ownBlock) s_.2.2.2.2.1 t508) ∧ (Kd.R k34 34 w' w.heap.size (fun k_ => some k_ ≠ (s_.2.1 : Value).ownBlock ∧ some k_ ≠ (s_.2.2.2.1 : Value).ownBlock) s_.2.2.2.2.2.1 t511) ∧ (w'.heap[s_.2.2.2.2.2.2]? = some (.cells #[.slice none 0 0, .slice none 0 0] 28 (0, 0))) ∧ (w.heap.size ≤ s_.2.2.2.2.2.2) ∧ (w.heap.size ≤ s_.2.2.2.2.2.2) ∧ (Below w.heap.size w w')) ?_ ?_
 rotate_left
 ·
  intro hCont
  refine two_ (i := 1) (j := 10) (Ni := some 13) (Nj := some 6) (fl 8 12) #[true, false, true, true, true, true, true, true, false, false, true, false] rfl rfl rfl rfl (two_of HT_.out (by kernel_rfl)) (by decide) (by decide) (fun K hK => ?_) (fun K hK => ?_)
  ·
   skip
   refine goes_ Try.func9 (by kernel_rfl) rfl #[.slice (some ad500) t491.length co10] (by rfl) rfl rfl ar_ ?_
   with_reducible refine (deaddropref7_All.calls k _ _ t491 t494 t497 _ ?side1 ?side2 A4.out).mono ?_
   (case side1 => exact cr (Kd.N_reads' HO493.out).2.2)
   (case side2 => exact (Kd.N_reads' HO493.out).2.1)
   rintro e w12 ⟨v495, v498, rfl, ho0, ho1, hb⟩
   have HS0_ := (hb.cell (World.block_lt_of_cell? _ _ (hHeld.1))).trans (hHeld.1)
   have HS1_ := (hb.cell (World.block_lt_of_cell? _ _ (hHeld.2.1))).trans (hHeld.2.1)
   have HS2_ := (hb.cell (World.block_lt_of_cell? _ _ (hHeld.2.2.1))).trans (hHeld.2.2.1)
   have HS3_ := (hb.cell (World.block_lt_of_cell? _ _ (hHeld.2.2.2))).trans (hHeld.2.2.2)
   refine ⟨_, rfl, ?_⟩
   replace HO493 := Aside0.mk (Kd.N_mono (Kd.N_told (Kd.N_told (Kd.N_old (nk HO493.out) hb) (Kd.R_base ho0)) (Kd.R_base ho1)) (fun _ h_ => h_.1))
   replace HL500_0 := Aside0.mk (Kd.V_mono (Kd.V_told (Kd.V_told (Kd.V_old (vk HL500_0.out) hb) (Kd.R_base ho0)) (Kd.R_base ho1)) (fun _ h_ => h_.1))
   replace HL500_1 := Aside0.mk (Kd.V_mono (Kd.V_told (Kd.V_told (Kd.V_old (vk HL500_1.out) hb) (Kd.R_base ho0)) (Kd.R_base ho1)) (fun _ h_ => h_.1))
   replace HL501_0 := Aside0.mk (Kd.V_mono (Kd.V_told (Kd.V_told (Kd.V_old (vk HL501_0.out) hb) (Kd.R_base ho0)) (Kd.R_base ho1)) (fun _ h_ => h_.1))
   replace HL501_1 := Aside0.mk (Kd.V_mono (Kd.V_told (Kd.V_told (Kd.V_old (vk HL501_1.out) hb) (Kd.R_base ho0)) (Kd.R_base ho1)) (fun _ h_ => h_.1))
   have HO496 := Aside0.mk (Kd.R_lower ho0 (below_size (bw HB.out)))
   have HO499 := Aside0.mk (Kd.R_lower ho1 (below_size (bw HB.out)))
   replace HR500_0 := Aside0.mk (Kd.C_below (ck HR500_0.out) hb)
   replace HR500_1 := Aside0.mk (Kd.C_below (ck HR500_1.out) hb)
   replace HR501_0 := Aside0.mk (Kd.C_below (ck HR501_0.out) hb)
   replace HR501_1 := Aside0.mk (Kd.C_below (ck HR501_1.out) hb)
   replace HB := Aside0.mk (below_step (bw HB.out) hb)
   (try clear hb)
   (try clear hb2)
   (try clear hk)
   (try clear hi)
   (try clear ho0)
   (try clear ho1)
   refine hK.out _ _ ⟨HS0_, HS1_, HS2_, HS3_⟩ (fun hHeld => ?_)
   clear hK K
   refine norm_ (a' := ?_) ?_ ?_
   rotate_left
   ·
    show Act.put _ (some 13) _ = _
    simp only [Act.put, List.setIfInBounds_toArray, List.set_cons_zero, List.set_cons_succ, i64_w, i32_w]
    rfl
   refine two_ (i := 8) (j := 10) (Ni := some 20) (Nj := some 6) (fl 9 12) #[true, true, true, true, true, true, true, true, false, false, true, false] rfl rfl rfl rfl (two_of HT_.out (by kernel_rfl)) (by decide) (by decide) (fun K hK => ?_) (fun K hK => ?_)
   ·
    skip
    refine goes_ Try.func8 (by kernel_rfl) rfl #[.agg #[.slice A500_0 ((rd_T28 t491 1).f0).length c500_0, .slice A500_1 ((rd_T28 t491 1).f1).length c500_1], .agg #[.slice A501_0 ((rd_T28 t491 2).f0).length c501_0, .slice A501_1 ((rd_T28 t491 2).f1).length c501_1]] (by rfl) rfl rfl ar_ ?_
    with_reducible refine (deaddropref7_Join.calls k _ _ ((rd_T28 t491 1).f0) _ _ ((rd_T28 t491 1).f1) _ _ ((rd_T28 t491 2).f0) _ _ ((rd_T28 t491 2).f1) t502 t505 _ ?side1 ?side2 ?side3 ?side4 ?side5 ?side6 ?side7 ?side8 A7.out).mono ?_
    (case side1 => exact cr (ck HR500_0.out))
    (case side2 => exact HC500_0.out)
    (case side3 => exact cr (ck HR500_1.out))
    (case side4 => exact HC500_1.out)
    (case side5 => exact cr (ck HR501_0.out))
    (case side6 => exact HC501_0.out)
    (case side7 => exact cr (ck HR501_1.out))
    (case side8 => exact HC501_1.out)
    rintro e w13 ⟨v503, v506, rfl, ho0, ho1, hb⟩
    have HS0_ := (hb.cell (World.block_lt_of_cell? _ _ (hHeld.1))).trans (hHeld.1)
    have HS1_ := (hb.cell (World.block_lt_of_cell? _ _ (hHeld.2.1))).trans (hHeld.2.1)
    have HS2_ := (hb.cell (World.block_lt_of_cell? _ _ (hHeld.2.2.1))).trans (hHeld.2.2.1)
    have HS3_ := (hb.cell (World.block_lt_of_cell? _ _ (hHeld.2.2.2))).trans (hHeld.2.2.2)
    refine ⟨_, rfl, ?_⟩
    replace HO493 := Aside0.mk (Kd.N_mono (Kd.N_told (Kd.N_told (Kd.N_old (nk HO493.out) hb) (Kd.R_base ho0)) (Kd.R_base ho1)) (fun _ h_ => h_.1))
    replace HL500_0 := Aside0.mk (Kd.V_mono (Kd.V_told (Kd.V_told (Kd.V_old (vk HL500_0.out) hb) (Kd.R_base ho0)) (Kd.R_base ho1)) (fun _ h_ => h_.1))
    replace HL500_1 := Aside0.mk (Kd.V_mono (Kd.V_told (Kd.V_told (Kd.V_old (vk HL500_1.out) hb) (Kd.R_base ho0)) (Kd.R_base ho1)) (fun _ h_ => h_.1))
    replace HL501_0 := Aside0.mk (Kd.V_mono (Kd.V_told (Kd.V_told (Kd.V_old (vk HL501_0.out) hb) (Kd.R_base ho0)) (Kd.R_base ho1)) (fun _ h_ => h_.1))
    replace HL501_1 := Aside0.mk (Kd.V_mono (Kd.V_told (Kd.V_told (Kd.V_old (vk HL501_1.out) hb) (Kd.R_base ho0)) (Kd.R_base ho1)) (fun _ h_ => h_.1))
    have HO504 := Aside0.mk (Kd.R_lower (Kd.R_new' ho0 (Kd.R_lt (rk HO496.out))) (below_size (bw HB.out)))
    replace HO496 := Aside0.mk (Kd.R_elder' (rk HO496.out) (Kd.R_base ho0) hb)
    have HO507 := Aside0.mk (Kd.R_lower (Kd.R_new' ho1 (Kd.R_lt (rk HO499.out))) (below_size (bw HB.out)))
    replace HO499 := Aside0.mk (Kd.R_elder' (rk HO499.out) (Kd.R_base ho1) hb)
    replace HR500_0 := Aside0.mk (Kd.C_below (ck HR500_0.out) hb)
    replace HR500_1 := Aside0.mk (Kd.C_below (ck HR500_1.out) hb)
    replace HR501_0 := Aside0.mk (Kd.C_below (ck HR501_0.out) hb)
    replace HR501_1 := Aside0.mk (Kd.C_below (ck HR501_1.out) hb)
    replace HB := Aside0.mk (below_step (bw HB.out) hb)
    (try clear hb)
    (try clear hb2)
    (try clear hk)
    (try clear hi)
    (try clear ho0)
    (try clear ho1)
    obtain ⟨Ao14, co14, eo14⟩ := Kd.R_slice HO496.out
    (first | subst eo14 | (injection eo14 with f1_ f2_ f3_; have f4_ := f1_.symm; have f5_ := f3_.symm; clear f1_ f2_ f3_; subst f4_; subst f5_))
    obtain ⟨Ao15, co15, eo15⟩ := Kd.R_slice HO499.out
    (first | subst eo15 | (injection eo15 with f1_ f2_ f3_; have f4_ := f1_.symm; have f5_ := f3_.symm; clear f1_ f2_ f3_; subst f4_; subst f5_))
    obtain ⟨Ao16, co16, eo16⟩ := Kd.R_slice HO504.out
    (first | subst eo16 | (injection eo16 with f1_ f2_ f3_; have f4_ := f1_.symm; have f5_ := f3_.symm; clear f1_ f2_ f3_; subst f4_; subst f5_))
    obtain ⟨Ao17, co17, eo17⟩ := Kd.R_slice HO507.out
    (first | subst eo17 | (injection eo17 with f1_ f2_ f3_; have f4_ := f1_.symm; have f5_ := f3_.symm; clear f1_ f2_ f3_; subst f4_; subst f5_))
    refine hK.out _ _ ⟨HS0_, HS1_, HS2_, HS3_⟩ (fun hHeld => ?_)
    clear hK K
    refine norm_ (a' := ?_) ?_ ?_
    rotate_left
    ·
     show Act.put _ (some 20) _ = _
     simp only [Act.put, List.setIfInBounds_toArray, List.set_cons_zero, List.set_cons_succ, i64_w, i32_w]
     rfl
    refine two_ (i := 9) (j := 10) (Ni := some 21) (Nj := some 6) (fl 10 12) #[true, true, true, true, true, true, true, true, true, false, true, false] rfl rfl rfl rfl (two_of HT_.out (by kernel_rfl)) (by decide) (by decide) (fun K hK => ?_) (fun K hK => ?_)
    ·
     skip
     refine goes_ Try.func8 (by kernel_rfl) rfl #[.agg #[.slice Ao14 t494.length co14, .slice Ao15 t497.length co15], .agg #[.slice Ao16 t502.length co16, .slice Ao17 t505.length co17]] (by rfl) rfl rfl ar_ ?_
     with_reducible refine (deaddropref7_Join.calls k _ _ t494 _ _ t497 _ _ t502 _ _ t505 t508 t511 _ ?side1 ?side2 ?side3 ?side4 ?side5 ?side6 ?side7 ?side8 A8.out).mono ?_
     (case side1 => exact cr (Kd.R_reads' HO496.out).2.2)
     (case side2 => exact (Kd.R_reads' HO496.out).2.1)
     (case side3 => exact cr (Kd.R_reads' HO499.out).2.2)
     (case side4 => exact (Kd.R_reads' HO499.out).2.1)
     (case side5 => exact cr (Kd.R_reads' HO504.out).2.2)
     (case side6 => exact (Kd.R_reads' HO504.out).2.1)
     (case side7 => exact cr (Kd.R_reads' HO507.out).2.2)
     (case side8 => exact (Kd.R_reads' HO507.out).2.1)
     rintro e w18 ⟨v509, v512, rfl, ho0, ho1, hb⟩
     have HS0_ := (hb.cell (World.block_lt_of_cell? _ _ (hHeld.1))).trans (hHeld.1)
     have HS1_ := (hb.cell (World.block_lt_of_cell? _ _ (hHeld.2.1))).trans (hHeld.2.1)
     have HS2_ := (hb.cell (World.block_lt_of_cell? _ _ (hHeld.2.2.1))).trans (hHeld.2.2.1)
     have HS3_ := (hb.cell (World.block_lt_of_cell? _ _ (hHeld.2.2.2))).trans (hHeld.2.2.2)
     refine ⟨_, rfl, ?_⟩
     replace HO493 := Aside0.mk (Kd.N_mono (Kd.N_told (Kd.N_told (Kd.N_old (nk HO493.out) hb) (Kd.R_base ho0)) (Kd.R_base ho1)) (fun _ h_ => h_.1))
     replace HL500_0 := Aside0.mk (Kd.V_mono (Kd.V_told (Kd.V_told (Kd.V_old (vk HL500_0.out) hb) (Kd.R_base ho0)) (Kd.R_base ho1)) (fun _ h_ => h_.1))
     replace HL500_1 := Aside0.mk (Kd.V_mono (Kd.V_told (Kd.V_told (Kd.V_old (vk HL500_1.out) hb) (Kd.R_base ho0)) (Kd.R_base ho1)) (fun _ h_ => h_.1))
     replace HL501_0 := Aside0.mk (Kd.V_mono (Kd.V_told (Kd.V_told (Kd.V_old (vk HL501_0.out) hb) (Kd.R_base ho0)) (Kd.R_base ho1)) (fun _ h_ => h_.1))
     replace HL501_1 := Aside0.mk (Kd.V_mono (Kd.V_told (Kd.V_told (Kd.V_old (vk HL501_1.out) hb) (Kd.R_base ho0)) (Kd.R_base ho1)) (fun _ h_ => h_.1))
     have HO510 := Aside0.mk (Kd.R_lower (Kd.R_new' (Kd.R_new' ho0 (Kd.R_lt (rk HO496.out))) (Kd.R_lt (rk HO504.out))) (below_size (bw HB.out)))
     replace HO496 := Aside0.mk (Kd.R_elder' (rk HO496.out) (Kd.R_base ho0) hb)
     replace HO504 := Aside0.mk (Kd.R_elder' (rk HO504.out) (Kd.R_base ho0) hb)
     have HO513 := Aside0.mk (Kd.R_lower (Kd.R_new' (Kd.R_new' ho1 (Kd.R_lt (rk HO499.out))) (Kd.R_lt (rk HO507.out))) (below_size (bw HB.out)))
     replace HO499 := Aside0.mk (Kd.R_elder' (rk HO499.out) (Kd.R_base ho1) hb)
     replace HO507 := Aside0.mk (Kd.R_elder' (rk HO507.out) (Kd.R_base ho1) hb)
     replace HR500_0 := Aside0.mk (Kd.C_below (ck HR500_0.out) hb)
     replace HR500_1 := Aside0.mk (Kd.C_below (ck HR500_1.out) hb)
     replace HR501_0 := Aside0.mk (Kd.C_below (ck HR501_0.out) hb)
     replace HR501_1 := Aside0.mk (Kd.C_below (ck HR501_1.out) hb)
     replace HB := Aside0.mk (below_step (bw HB.out) hb)
     (try clear hb)
     (try clear hb2)
     (try clear hk)
     (try clear hi)
     (try clear ho0)
     (try clear ho1)
     refine hK.out _ _ ⟨HS0_, HS1_, HS2_, HS3_⟩ (fun hHeld => ?_)
     clear hK K
     refine norm_ (a' := ?_) ?_ ?_
     rotate_left
     ·
      show Act.put _ (some 21) _ = _
      simp only [Act.put, List.setIfInBounds_toArray, List.set_cons_zero, List.set_cons_succ, i64_w, i32_w]
      rfl
     refine one_ (i := 10) (N := some 6) (fl 11 12) rfl rfl (one_of HT_.out (by kernel_rfl)) (by decide) (fun K hK => ?_)
     refine box_step ?hg (N := 6) ?hd (cs := #[.slice none 0 0, .slice none 0 0]) (t := 28) ?hr ?_; (case hd => rfl); (case hg => rfl); (case hr => first | (go_simp; done) | (go_simp; rfl))
     intro gb514 hg w19 hbox hb
     have HS0_ := (hb.cell (World.block_lt_of_cell? _ _ (hHeld.1))).trans (hHeld.1)
     have HS1_ := (hb.cell (World.block_lt_of_cell? _ _ (hHeld.2.1))).trans (hHeld.2.1)
     have HS2_ := (hb.cell (World.block_lt_of_cell? _ _ (hHeld.2.2.1))).trans (hHeld.2.2.1)
     have HS3_ := (hb.cell (World.block_lt_of_cell? _ _ (hHeld.2.2.2))).trans (hHeld.2.2.2)
     replace HO493 := Aside0.mk (Kd.N_below (Kd.N_elderB (nk HO493.out) gb514 (Nat.le_of_eq hg.symm)) hb)
     replace HL500_0 := Aside0.mk (Kd.V_below (Kd.V_elderB (vk HL500_0.out) gb514 (Nat.le_of_eq hg.symm)) hb)
     replace HL500_1 := Aside0.mk (Kd.V_below (Kd.V_elderB (vk HL500_1.out) gb514 (Nat.le_of_eq hg.symm)) hb)
     replace HL501_0 := Aside0.mk (Kd.V_below (Kd.V_elderB (vk HL501_0.out) gb514 (Nat.le_of_eq hg.symm)) hb)
     replace HL501_1 := Aside0.mk (Kd.V_below (Kd.V_elderB (vk HL501_1.out) gb514 (Nat.le_of_eq hg.symm)) hb)
     replace HO496 := Aside0.mk (Kd.R_below (rk HO496.out) hb)
     replace HO499 := Aside0.mk (Kd.R_below (rk HO499.out) hb)
     replace HO504 := Aside0.mk (Kd.R_below (rk HO504.out) hb)
     replace HO507 := Aside0.mk (Kd.R_below (rk HO507.out) hb)
     replace HO510 := Aside0.mk (Kd.R_below (rk HO510.out) hb)
     replace HO513 := Aside0.mk (Kd.R_below (rk HO513.out) hb)
     replace HR500_0 := Aside0.mk (Kd.C_below (ck HR500_0.out) hb)
     replace HR500_1 := Aside0.mk (Kd.C_below (ck HR500_1.out) hb)
     replace HR501_0 := Aside0.mk (Kd.C_below (ck HR501_0.out) hb)
     replace HR501_1 := Aside0.mk (Kd.C_below (ck HR501_1.out) hb)
     have BK514 := Aside0.mk (hbox)
     have GW514 := Aside0.mk ((by rw [hg]; exact (below_size (bw HB.out)) : w.heap.size ≤ gb514))
     have GE514 := Aside0.mk ((by rw [hg]; exact (below_size (bw HB.out)) : w.heap.size ≤ gb514))
     replace HB := Aside0.mk (below_step (bw HB.out) hb)
     clear hb hbox hg
     refine hK.out _ _ ⟨HS0_, HS1_, HS2_, HS3_⟩ (fun hHeld => ?_)
     clear hK K
     refine norm_ (a' := ?_) ?_ ?_
     rotate_left
     ·
      show Act.put _ (some 6) _ = _
      simp only [Act.put, List.setIfInBounds_toArray, List.set_cons_zero, List.set_cons_succ, i64_w, i32_w]
      rfl
     exact norm_ (by simp only [putAll, Act.put, List.setIfInBounds_toArray, List.set_cons_zero, List.set_cons_succ]) (hCont (.slice Ao14 t494.length co14, .slice Ao15 t497.length co15, .slice Ao16 t502.length co16, .slice Ao17 t505.length co17, v509, v512, gb514) _ ⟨hHeld, (by (with_reducible repeat (first | apply Kd.V_alloc | apply Kd.V_drewN | apply Kd.V_drew)); exact Kd.V_mono HL500_0.out (fun _ hk => ⟨hk.1.1.1.1.1.1.1.2, ⟨hk.1.1.1.1.1.1.2, ⟨hk.1.1.1.1.1.2, ⟨hk.1.1.1.1.2, ⟨hk.1.1.1.2, ⟨hk.1.1.2, ⟨hk.1.2, hk.2⟩⟩⟩⟩⟩⟩⟩)), (by (with_reducible repeat (first | apply Kd.V_alloc | apply Kd.V_drewN | apply Kd.V_drew)); exact Kd.V_mono HL500_1.out (fun _ hk => ⟨hk.1.1.1.1.1.1.1.2, ⟨hk.1.1.1.1.1.1.2, ⟨hk.1.1.1.1.1.2, ⟨hk.1.1.1.1.2, ⟨hk.1.1.1.2, ⟨hk.1.1.2, ⟨hk.1.2, hk.2⟩⟩⟩⟩⟩⟩⟩)), (by (with_reducible repeat (first | apply Kd.V_alloc | apply Kd.V_drewN | apply Kd.V_drew)); exact Kd.V_mono HL501_0.out (fun _ hk => ⟨hk.1.1.1.1.1.1.1.2, ⟨hk.1.1.1.1.1.1.2, ⟨hk.1.1.1.1.1.2, ⟨hk.1.1.1.1.2, ⟨hk.1.1.1.2, ⟨hk.1.1.2, ⟨hk.1.2, hk.2⟩⟩⟩⟩⟩⟩⟩)), (by (with_reducible repeat (first | apply Kd.V_alloc | apply Kd.V_drewN | apply Kd.V_drew)); exact Kd.V_mono HL501_1.out (fun _ hk => ⟨hk.1.1.1.1.1.1.1.2, ⟨hk.1.1.1.1.1.1.2, ⟨hk.1.1.1.1.1.2, ⟨hk.1.1.1.1.2, ⟨hk.1.1.1.2, ⟨hk.1.1.2, ⟨hk.1.2, hk.2⟩⟩⟩⟩⟩⟩⟩)), (by (with_reducible repeat (first | apply Kd.N_alloc | apply Kd.N_drewN | apply Kd.N_drew)); exact Kd.N_mono HO493.out (fun _ hk => ⟨hk.1.1.1.1.1.1.2, ⟨hk.1.1.1.1.1.2, ⟨hk.1.1.1.1.2, ⟨hk.1.1.1.2, ⟨hk.1.1.2, ⟨hk.1.2, hk.2⟩⟩⟩⟩⟩⟩)), (by (with_reducible repeat (first | apply Kd.R_alloc | apply Kd.R_drewN | apply Kd.R_drew)); exact Kd.R_mono HO496.out (fun _ hk => ⟨hk.1.2, hk.2⟩)), (by (with_reducible repeat (first | apply Kd.R_alloc | apply Kd.R_drewN | apply Kd.R_drew)); exact Kd.R_mono HO499.out (fun _ hk => ⟨hk.1.2, hk.2⟩)), (by (with_reducible repeat (first | apply Kd.R_alloc | apply Kd.R_drewN | apply Kd.R_drew)); exact Kd.R_mono HO504.out (fun _ hk => ⟨hk.1.2, hk.2⟩)), (by (with_reducible repeat (first | apply Kd.R_alloc | apply Kd.R_drewN | apply Kd.R_drew)); exact Kd.R_mono HO507.out (fun _ hk => ⟨hk.1.2, hk.2⟩)), (by (with_reducible repeat (first | apply Kd.R_alloc | apply Kd.R_drewN | apply Kd.R_drew)); exact Kd.R_mono HO510.out (fun _ hk => ⟨hk.1.2, hk.2⟩)), (by (with_reducible repeat (first | apply Kd.R_alloc | apply Kd.R_drewN | apply Kd.R_drew)); exact Kd.R_mono HO513.out (fun _ hk => ⟨hk.1.2, hk.2⟩)), (bk BK514.out), GW514.out, GE514.out, (bw1 HB.out GE514.out)⟩)
    ·
     skip
     refine box_step ?hg (N := 6) ?hd (cs := #[.slice none 0 0, .slice none 0 0]) (t := 28) ?hr ?_; (case hd => rfl); (case hg => rfl); (case hr => first | (go_simp; done) | (go_simp; rfl))
     intro gb514 hg w14 hbox hb
     have HS0_ := (hb.cell (World.block_lt_of_cell? _ _ (hHeld.1))).trans (hHeld.1)
     have HS1_ := (hb.cell (World.block_lt_of_cell? _ _ (hHeld.2.1))).trans (hHeld.2.1)
     have HS2_ := (hb.cell (World.block_lt_of_cell? _ _ (hHeld.2.2.1))).trans (hHeld.2.2.1)
     have HS3_ := (hb.cell (World.block_lt_of_cell? _ _ (hHeld.2.2.2))).trans (hHeld.2.2.2)
     replace HO493 := Aside0.mk (Kd.N_below (Kd.N_elderB (nk HO493.out) gb514 (Nat.le_of_eq hg.symm)) hb)
     replace HL500_0 := Aside0.mk (Kd.V_below (Kd.V_elderB (vk HL500_0.out) gb514 (Nat.le_of_eq hg.symm)) hb)
     replace HL500_1 := Aside0.mk (Kd.V_below (Kd.V_elderB (vk HL500_1.out) gb514 (Nat.le_of_eq hg.symm)) hb)
     replace HL501_0 := Aside0.mk (Kd.V_below (Kd.V_elderB (vk HL501_0.out) gb514 (Nat.le_of_eq hg.symm)) hb)
     replace HL501_1 := Aside0.mk (Kd.V_below (Kd.V_elderB (vk HL501_1.out) gb514 (Nat.le_of_eq hg.symm)) hb)
     replace HO496 := Aside0.mk (Kd.R_below (rk HO496.out) hb)
     replace HO499 := Aside0.mk (Kd.R_below (rk HO499.out) hb)
     replace HO504 := Aside0.mk (Kd.R_below (rk HO504.out) hb)
     replace HO507 := Aside0.mk (Kd.R_below (rk HO507.out) hb)
     replace HR500_0 := Aside0.mk (Kd.C_below (ck HR500_0.out) hb)
     replace HR500_1 := Aside0.mk (Kd.C_below (ck HR500_1.out) hb)
     replace HR501_0 := Aside0.mk (Kd.C_below (ck HR501_0.out) hb)
     replace HR501_1 := Aside0.mk (Kd.C_below (ck HR501_1.out) hb)
     have BK514 := Aside0.mk (hbox)
     have GW514 := Aside0.mk ((by rw [hg]; exact (below_size (bw HB.out)) : w.heap.size ≤ gb514))
     have GE514 := Aside0.mk ((by rw [hg]; exact (below_size (bw HB.out)) : w.heap.size ≤ gb514))
     replace HB := Aside0.mk (below_step (bw HB.out) hb)
     clear hb hbox hg
     obtain ⟨Ao15, co15, eo15⟩ := Kd.R_slice HO496.out
     (first | subst eo15 | (injection eo15 with f1_ f2_ f3_; have f4_ := f1_.symm; have f5_ := f3_.symm; clear f1_ f2_ f3_; subst f4_; subst f5_))
     obtain ⟨Ao16, co16, eo16⟩ := Kd.R_slice HO499.out
     (first | subst eo16 | (injection eo16 with f1_ f2_ f3_; have f4_ := f1_.symm; have f5_ := f3_.symm; clear f1_ f2_ f3_; subst f4_; subst f5_))
     obtain ⟨Ao17, co17, eo17⟩ := Kd.R_slice HO504.out
     (first | subst eo17 | (injection eo17 with f1_ f2_ f3_; have f4_ := f1_.symm; have f5_ := f3_.symm; clear f1_ f2_ f3_; subst f4_; subst f5_))
     obtain ⟨Ao18, co18, eo18⟩ := Kd.R_slice HO507.out
     (first | subst eo18 | (injection eo18 with f1_ f2_ f3_; have f4_ := f1_.symm; have f5_ := f3_.symm; clear f1_ f2_ f3_; subst f4_; subst f5_))
     refine hK.out _ _ ⟨HS0_, HS1_, HS2_, HS3_⟩ (fun hHeld => ?_)
     clear hK K
     refine norm_ (a' := ?_) ?_ ?_
     rotate_left
     ·
      show Act.put _ (some 6) _ = _
      simp only [Act.put, List.setIfInBounds_toArray, List.set_cons_zero, List.set_cons_succ, i64_w, i32_w]
      rfl
     refine one_ (i := 9) (N := some 21) (fl 11 12) rfl rfl (one_of HT_.out (by kernel_rfl)) (by decide) (fun K hK => ?_)
     refine goes_ Try.func8 (by kernel_rfl) rfl #[.agg #[.slice Ao15 t494.length co15, .slice Ao16 t497.length co16], .agg #[.slice Ao17 t502.length co17, .slice Ao18 t505.length co18]] (by rfl) rfl rfl ar_ ?_
     with_reducible refine (deaddropref7_Join.calls k _ _ t494 _ _ t497 _ _ t502 _ _ t505 t508 t511 _ ?side1 ?side2 ?side3 ?side4 ?side5 ?side6 ?side7 ?side8 A8.out).mono ?_
     (case side1 => exact cr (Kd.R_reads' HO496.out).2.2)
     (case side2 => exact (Kd.R_reads' HO496.out).2.1)
     (case side3 => exact cr (Kd.R_reads' HO499.out).2.2)
     (case side4 => exact (Kd.R_reads' HO499.out).2.1)
     (case side5 => exact cr (Kd.R_reads' HO504.out).2.2)
     (case side6 => exact (Kd.R_reads' HO504.out).2.1)
     (case side7 => exact cr (Kd.R_reads' HO507.out).2.2)
     (case side8 => exact (Kd.R_reads' HO507.out).2.1)
     rintro e w19 ⟨v509, v512, rfl, ho0, ho1, hb⟩
     have HS0_ := (hb.cell (World.block_lt_of_cell? _ _ (hHeld.1))).trans (hHeld.1)
     have HS1_ := (hb.cell (World.block_lt_of_cell? _ _ (hHeld.2.1))).trans (hHeld.2.1)
     have HS2_ := (hb.cell (World.block_lt_of_cell? _ _ (hHeld.2.2.1))).trans (hHeld.2.2.1)
     have HS3_ := (hb.cell (World.block_lt_of_cell? _ _ (hHeld.2.2.2))).trans (hHeld.2.2.2)
     refine ⟨_, rfl, ?_⟩
     replace HO493 := Aside0.mk (Kd.N_mono (Kd.N_told (Kd.N_told (Kd.N_old (nk HO493.out) hb) (Kd.R_base ho0)) (Kd.R_base ho1)) (fun _ h_ => h_.1))
     replace HL500_0 := Aside0.mk (Kd.V_mono (Kd.V_told (Kd.V_told (Kd.V_old (vk HL500_0.out) hb) (Kd.R_base ho0)) (Kd.R_base ho1)) (fun _ h_ => h_.1))
     replace HL500_1 := Aside0.mk (Kd.V_mono (Kd.V_told (Kd.V_told (Kd.V_old (vk HL500_1.out) hb) (Kd.R_base ho0)) (Kd.R_base ho1)) (fun _ h_ => h_.1))
     replace HL501_0 := Aside0.mk (Kd.V_mono (Kd.V_told (Kd.V_told (Kd.V_old (vk HL501_0.out) hb) (Kd.R_base ho0)) (Kd.R_base ho1)) (fun _ h_ => h_.1))
     replace HL501_1 := Aside0.mk (Kd.V_mono (Kd.V_told (Kd.V_told (Kd.V_old (vk HL501_1.out) hb) (Kd.R_base ho0)) (Kd.R_base ho1)) (fun _ h_ => h_.1))
     have HO510 := Aside0.mk (Kd.R_lower (Kd.R_new' (Kd.R_new' ho0 (Kd.R_lt (rk HO496.out))) (Kd.R_lt (rk HO504.out))) (below_size (bw1 HB.out GE514.out)))
     replace HO496 := Aside0.mk (Kd.R_elder' (rk HO496.out) (Kd.R_base ho0) hb)
     replace HO504 := Aside0.mk (Kd.R_elder' (rk HO504.out) (Kd.R_base ho0) hb)
     have HO513 := Aside0.mk (Kd.R_lower (Kd.R_new' (Kd.R_new' ho1 (Kd.R_lt (rk HO499.out))) (Kd.R_lt (rk HO507.out))) (below_size (bw1 HB.out GE514.out)))
     replace HO499 := Aside0.mk (Kd.R_elder' (rk HO499.out) (Kd.R_base ho1) hb)
     replace HO507 := Aside0.mk (Kd.R_elder' (rk HO507.out) (Kd.R_base ho1) hb)
     replace HR500_0 := Aside0.mk (Kd.C_below (ck HR500_0.out) hb)
     replace HR500_1 := Aside0.mk (Kd.C_below (ck HR500_1.out) hb)
     replace HR501_0 := Aside0.mk (Kd.C_below (ck HR501_0.out) hb)
     replace HR501_1 := Aside0.mk (Kd.C_below (ck HR501_1.out) hb)
     replace BK514 := Aside0.mk (blk_below (g := gb514) (o := .cells #[.slice none 0 0, .slice none 0 0] 28 (0, 0)) (bk BK514.out) hb)
     replace HB := Aside0.mk (below_step (bw1 HB.out GE514.out) hb)
     (try clear hb)
     (try clear hb2)
     (try clear hk)
     (try clear hi)
     (try clear ho0)
     (try clear ho1)
     refine hK.out _ _ ⟨HS0_, HS1_, HS2_, HS3_⟩ (fun hHeld => ?_)
     clear hK K
     refine norm_ (a' := ?_) ?_ ?_
     rotate_left
     ·
      show Act.put _ (some 21) _ = _
      simp only [Act.put, List.setIfInBounds_toArray, List.set_cons_zero, List.set_cons_succ, i64_w, i32_w]
      rfl
     exact norm_ (by simp only [putAll, Act.put, List.setIfInBounds_toArray, List.set_cons_zero, List.set_cons_succ]) (hCont (.slice Ao15 t494.length co15, .slice Ao16 t497.length co16, .slice Ao17 t502.length co17, .slice Ao18 t505.length co18, v509, v512, gb514) _ ⟨hHeld, (by (with_reducible repeat (first | apply Kd.V_alloc | apply Kd.V_drewN | apply Kd.V_drew)); exact Kd.V_mono HL500_0.out (fun _ hk => ⟨hk.1.1.1.1.1.1.1.2, ⟨hk.1.1.1.1.1.1.2, ⟨hk.1.1.1.1.1.2, ⟨hk.1.1.1.1.2, ⟨hk.1.1.1.2, ⟨hk.1.2, ⟨hk.2, hk.1.1.2⟩⟩⟩⟩⟩⟩⟩)), (by (with_reducible repeat (first | apply Kd.V_alloc | apply Kd.V_drewN | apply Kd.V_drew)); exact Kd.V_mono HL500_1.out (fun _ hk => ⟨hk.1.1.1.1.1.1.1.2, ⟨hk.1.1.1.1.1.1.2, ⟨hk.1.1.1.1.1.2, ⟨hk.1.1.1.1.2, ⟨hk.1.1.1.2, ⟨hk.1.2, ⟨hk.2, hk.1.1.2⟩⟩⟩⟩⟩⟩⟩)), (by (with_reducible repeat (first | apply Kd.V_alloc | apply Kd.V_drewN | apply Kd.V_drew)); exact Kd.V_mono HL501_0.out (fun _ hk => ⟨hk.1.1.1.1.1.1.1.2, ⟨hk.1.1.1.1.1.1.2, ⟨hk.1.1.1.1.1.2, ⟨hk.1.1.1.1.2, ⟨hk.1.1.1.2, ⟨hk.1.2, ⟨hk.2, hk.1.1.2⟩⟩⟩⟩⟩⟩⟩)), (by (with_reducible repeat (first | apply Kd.V_alloc | apply Kd.V_drewN | apply Kd.V_drew)); exact Kd.V_mono HL501_1.out (fun _ hk => ⟨hk.1.1.1.1.1.1.1.2, ⟨hk.1.1.1.1.1.1.2, ⟨hk.1.1.1.1.1.2, ⟨hk.1.1.1.1.2, ⟨hk.1.1.1.2, ⟨hk.1.2, ⟨hk.2, hk.1.1.2⟩⟩⟩⟩⟩⟩⟩)), (by (with_reducible repeat (first | apply Kd.N_alloc | apply Kd.N_drewN | apply Kd.N_drew)); exact Kd.N_mono HO493.out (fun _ hk => ⟨hk.1.1.1.1.1.1.2, ⟨hk.1.1.1.1.1.2, ⟨hk.1.1.1.1.2, ⟨hk.1.1.1.2, ⟨hk.1.2, ⟨hk.2, hk.1.1.2⟩⟩⟩⟩⟩⟩)), (by (with_reducible repeat (first | apply Kd.R_alloc | apply Kd.R_drewN | apply Kd.R_drew)); exact Kd.R_mono HO496.out (fun _ hk => ⟨hk.1.2, hk.2⟩)), (by (with_reducible repeat (first | apply Kd.R_alloc | apply Kd.R_drewN | apply Kd.R_drew)); exact Kd.R_mono HO499.out (fun _ hk => ⟨hk.1.2, hk.2⟩)), (by (with_reducible repeat (first | apply Kd.R_alloc | apply Kd.R_drewN | apply Kd.R_drew)); exact Kd.R_mono HO504.out (fun _ hk => ⟨hk.1.2, hk.2⟩)), (by (with_reducible repeat (first | apply Kd.R_alloc | apply Kd.R_drewN | apply Kd.R_drew)); exact Kd.R_mono HO507.out (fun _ hk => ⟨hk.1.2, hk.2⟩)), (by (with_reducible repeat (first | apply Kd.R_alloc | apply Kd.R_drewN | apply Kd.R_drew)); exact Kd.R_mono HO510.out (fun _ hk => ⟨hk.1.2, hk.2⟩)), (by (with_reducible repeat (first | apply Kd.R_alloc | apply Kd.R_drewN | apply Kd.R_drew)); exact Kd.R_mono HO513.out (fun _ hk => ⟨hk.1.2, hk.2⟩)), (bk BK514.out), GW514.out, GE514.out, (bw1 HB.out GE514.out)⟩)
   ·
    skip
    refine box_step ?hg (N := 6) ?hd (cs := #[.slice none 0 0, .slice none 0 0]) (t := 28) ?hr ?_; (case hd => rfl); (case hg => rfl); (case hr => first | (go_simp; done) | (go_simp; rfl))
    intro gb514 hg w13 hbox hb
    have HS0_ := (hb.cell (World.block_lt_of_cell? _ _ (hHeld.1))).trans (hHeld.1)
    have HS1_ := (hb.cell (World.block_lt_of_cell? _ _ (hHeld.2.1))).trans (hHeld.2.1)
    have HS2_ := (hb.cell (World.block_lt_of_cell? _ _ (hHeld.2.2.1))).trans (hHeld.2.2.1)
    have HS3_ := (hb.cell (World.block_lt_of_cell? _ _ (hHeld.2.2.2))).trans (hHeld.2.2.2)
    replace HO493 := Aside0.mk (Kd.N_below (Kd.N_elderB (nk HO493.out) gb514 (Nat.le_of_eq hg.symm)) hb)
    replace HL500_0 := Aside0.mk (Kd.V_below (Kd.V_elderB (vk HL500_0.out) gb514 (Nat.le_of_eq hg.symm)) hb)
    replace HL500_1 := Aside0.mk (Kd.V_below (Kd.V_elderB (vk HL500_1.out) gb514 (Nat.le_of_eq hg.symm)) hb)
    replace HL501_0 := Aside0.mk (Kd.V_below (Kd.V_elderB (vk HL501_0.out) gb514 (Nat.le_of_eq hg.symm)) hb)
    replace HL501_1 := Aside0.mk (Kd.V_below (Kd.V_elderB (vk HL501_1.out) gb514 (Nat.le_of_eq hg.symm)) hb)
    replace HO496 := Aside0.mk (Kd.R_below (rk HO496.out) hb)
    replace HO499 := Aside0.mk (Kd.R_below (rk HO499.out) hb)
    replace HR500_0 := Aside0.mk (Kd.C_below (ck HR500_0.out) hb)
    replace HR500_1 := Aside0.mk (Kd.C_below (ck HR500_1.out) hb)
    replace HR501_0 := Aside0.mk (Kd.C_below (ck HR501_0.out) hb)
    replace HR501_1 := Aside0.mk (Kd.C_below (ck HR501_1.out) hb)
    have BK514 := Aside0.mk (hbox)
    have GW514 := Aside0.mk ((by rw [hg]; exact (below_size (bw HB.out)) : w.heap.size ≤ gb514))
    have GE514 := Aside0.mk ((by rw [hg]; exact (below_size (bw HB.out)) : w.heap.size ≤ gb514))
    replace HB := Aside0.mk (below_step (bw HB.out) hb)
    clear hb hbox hg
    refine hK.out _ _ ⟨HS0_, HS1_, HS2_, HS3_⟩ (fun hHeld => ?_)
    clear hK K
    refine norm_ (a' := ?_) ?_ ?_
    rotate_left
    ·
     show Act.put _ (some 6) _ = _
     simp only [Act.put, List.setIfInBounds_toArray, List.set_cons_zero, List.set_cons_succ, i64_w, i32_w]
     rfl
    refine one_ (i := 8) (N := some 20) #[true, true, true, true, true, true, true, true, true, false, true, false] rfl rfl (one_of HT_.out (by kernel_rfl)) (by decide) (fun K hK => ?_)
    refine goes_ Try.func8 (by kernel_rfl) rfl #[.agg #[.slice A500_0 ((rd_T28 t491 1).f0).length c500_0, .slice A500_1 ((rd_T28 t491 1).f1).length c500_1], .agg #[.slice A501_0 ((rd_T28 t491 2).f0).length c501_0, .slice A501_1 ((rd_T28 t491 2).f1).length c501_1]] (by rfl) rfl rfl ar_ ?_
    with_reducible refine (deaddropref7_Join.calls k _ _ ((rd_T28 t491 1).f0) _ _ ((rd_T28 t491 1).f1) _ _ ((rd_T28 t491 2).f0) _ _ ((rd_T28 t491 2).f1) t502 t505 _ ?side1 ?side2 ?side3 ?side4 ?side5 ?side6 ?side7 ?side8 A7.out).mono ?_
    (case side1 => exact cr (ck HR500_0.out))
    (case side2 => exact HC500_0.out)
    (case side3 => exact cr (ck HR500_1.out))
    (case side4 => exact HC500_1.out)
    (case side5 => exact cr (ck HR501_0.out))
    (case side6 => exact HC501_0.out)
    (case side7 => exact cr (ck HR501_1.out))
    (case side8 => exact HC501_1.out)
    rintro e w14 ⟨v503, v506, rfl, ho0, ho1, hb⟩
    have HS0_ := (hb.cell (World.block_lt_of_cell? _ _ (hHeld.1))).trans (hHeld.1)
    have HS1_ := (hb.cell (World.block_lt_of_cell? _ _ (hHeld.2.1))).trans (hHeld.2.1)
    have HS2_ := (hb.cell (World.block_lt_of_cell? _ _ (hHeld.2.2.1))).trans (hHeld.2.2.1)
    have HS3_ := (hb.cell (World.block_lt_of_cell? _ _ (hHeld.2.2.2))).trans (hHeld.2.2.2)
    refine ⟨_, rfl, ?_⟩
    replace HO493 := Aside0.mk (Kd.N_mono (Kd.N_told (Kd.N_told (Kd.N_old (nk HO493.out) hb) (Kd.R_base ho0)) (Kd.R_base ho1)) (fun _ h_ => h_.1))
    replace HL500_0 := Aside0.mk (Kd.V_mono (Kd.V_told (Kd.V_told (Kd.V_old (vk HL500_0.out) hb) (Kd.R_base ho0)) (Kd.R_base ho1)) (fun _ h_ => h_.1))
    replace HL500_1 := Aside0.mk (Kd.V_mono (Kd.V_told (Kd.V_told (Kd.V_old (vk HL500_1.out) hb) (Kd.R_base ho0)) (Kd.R_base ho1)) (fun _ h_ => h_.1))
    replace HL501_0 := Aside0.mk (Kd.V_mono (Kd.V_told (Kd.V_told (Kd.V_old (vk HL501_0.out) hb) (Kd.R_base ho0)) (Kd.R_base ho1)) (fun _ h_ => h_.1))
    replace HL501_1 := Aside0.mk (Kd.V_mono (Kd.V_told (Kd.V_told (Kd.V_old (vk HL501_1.out) hb) (Kd.R_base ho0)) (Kd.R_base ho1)) (fun _ h_ => h_.1))
    have HO504 := Aside0.mk (Kd.R_lower (Kd.R_new' ho0 (Kd.R_lt (rk HO496.out))) (below_size (bw1 HB.out GE514.out)))
    replace HO496 := Aside0.mk (Kd.R_elder' (rk HO496.out) (Kd.R_base ho0) hb)
    have HO507 := Aside0.mk (Kd.R_lower (Kd.R_new' ho1 (Kd.R_lt (rk HO499.out))) (below_size (bw1 HB.out GE514.out)))
    replace HO499 := Aside0.mk (Kd.R_elder' (rk HO499.out) (Kd.R_base ho1) hb)
    replace HR500_0 := Aside0.mk (Kd.C_below (ck HR500_0.out) hb)
    replace HR500_1 := Aside0.mk (Kd.C_below (ck HR500_1.out) hb)
    replace HR501_0 := Aside0.mk (Kd.C_below (ck HR501_0.out) hb)
    replace HR501_1 := Aside0.mk (Kd.C_below (ck HR501_1.out) hb)
    replace BK514 := Aside0.mk (blk_below (g := gb514) (o := .cells #[.slice none 0 0, .slice none 0 0] 28 (0, 0)) (bk BK514.out) hb)
    replace HB := Aside0.mk (below_step (bw1 HB.out GE514.out) hb)
    (try clear hb)
    (try clear hb2)
    (try clear hk)
    (try clear hi)
    (try clear ho0)
    (try clear ho1)
    obtain ⟨Ao15, co15, eo15⟩ := Kd.R_slice HO496.out
    (first | subst eo15 | (injection eo15 with f1_ f2_ f3_; have f4_ := f1_.symm; have f5_ := f3_.symm; clear f1_ f2_ f3_; subst f4_; subst f5_))
    obtain ⟨Ao16, co16, eo16⟩ := Kd.R_slice HO499.out
    (first | subst eo16 | (injection eo16 with f1_ f2_ f3_; have f4_ := f1_.symm; have f5_ := f3_.symm; clear f1_ f2_ f3_; subst f4_; subst f5_))
    obtain ⟨Ao17, co17, eo17⟩ := Kd.R_slice HO504.out
    (first | subst eo17 | (injection eo17 with f1_ f2_ f3_; have f4_ := f1_.symm; have f5_ := f3_.symm; clear f1_ f2_ f3_; subst f4_; subst f5_))
    obtain ⟨Ao18, co18, eo18⟩ := Kd.R_slice HO507.out
    (first | subst eo18 | (injection eo18 with f1_ f2_ f3_; have f4_ := f1_.symm; have f5_ := f3_.symm; clear f1_ f2_ f3_; subst f4_; subst f5_))
    refine hK.out _ _ ⟨HS0_, HS1_, HS2_, HS3_⟩ (fun hHeld => ?_)
    clear hK K
    refine norm_ (a' := ?_) ?_ ?_
    rotate_left
    ·
     show Act.put _ (some 20) _ = _
     simp only [Act.put, List.setIfInBounds_toArray, List.set_cons_zero, List.set_cons_succ, i64_w, i32_w]
     rfl
    refine one_ (i := 9) (N := some 21) (fl 11 12) rfl rfl (one_of HT_.out (by kernel_rfl)) (by decide) (fun K hK => ?_)
    refine goes_ Try.func8 (by kernel_rfl) rfl #[.agg #[.slice Ao15 t494.length co15, .slice Ao16 t497.length co16], .agg #[.slice Ao17 t502.length co17, .slice Ao18 t505.length co18]] (by rfl) rfl rfl ar_ ?_
    with_reducible refine (deaddropref7_Join.calls k _ _ t494 _ _ t497 _ _ t502 _ _ t505 t508 t511 _ ?side1 ?side2 ?side3 ?side4 ?side5 ?side6 ?side7 ?side8 A8.out).mono ?_
    (case side1 => exact cr (Kd.R_reads' HO496.out).2.2)
    (case side2 => exact (Kd.R_reads' HO496.out).2.1)
    (case side3 => exact cr (Kd.R_reads' HO499.out).2.2)
    (case side4 => exact (Kd.R_reads' HO499.out).2.1)
    (case side5 => exact cr (Kd.R_reads' HO504.out).2.2)
    (case side6 => exact (Kd.R_reads' HO504.out).2.1)
    (case side7 => exact cr (Kd.R_reads' HO507.out).2.2)
    (case side8 => exact (Kd.R_reads' HO507.out).2.1)
    rintro e w19 ⟨v509, v512, rfl, ho0, ho1, hb⟩
    have HS0_ := (hb.cell (World.block_lt_of_cell? _ _ (hHeld.1))).trans (hHeld.1)
    have HS1_ := (hb.cell (World.block_lt_of_cell? _ _ (hHeld.2.1))).trans (hHeld.2.1)
    have HS2_ := (hb.cell (World.block_lt_of_cell? _ _ (hHeld.2.2.1))).trans (hHeld.2.2.1)
    have HS3_ := (hb.cell (World.block_lt_of_cell? _ _ (hHeld.2.2.2))).trans (hHeld.2.2.2)
    refine ⟨_, rfl, ?_⟩
    replace HO493 := Aside0.mk (Kd.N_mono (Kd.N_told (Kd.N_told (Kd.N_old (nk HO493.out) hb) (Kd.R_base ho0)) (Kd.R_base ho1)) (fun _ h_ => h_.1))
    replace HL500_0 := Aside0.mk (Kd.V_mono (Kd.V_told (Kd.V_told (Kd.V_old (vk HL500_0.out) hb) (Kd.R_base ho0)) (Kd.R_base ho1)) (fun _ h_ => h_.1))
    replace HL500_1 := Aside0.mk (Kd.V_mono (Kd.V_told (Kd.V_told (Kd.V_old (vk HL500_1.out) hb) (Kd.R_base ho0)) (Kd.R_base ho1)) (fun _ h_ => h_.1))
    replace HL501_0 := Aside0.mk (Kd.V_mono (Kd.V_told (Kd.V_told (Kd.V_old (vk HL501_0.out) hb) (Kd.R_base ho0)) (Kd.R_base ho1)) (fun _ h_ => h_.1))
    replace HL501_1 := Aside0.mk (Kd.V_mono (Kd.V_told (Kd.V_told (Kd.V_old (vk HL501_1.out) hb) (Kd.R_base ho0)) (Kd.R_base ho1)) (fun _ h_ => h_.1))
    have HO510 := Aside0.mk (Kd.R_lower (Kd.R_new' (Kd.R_new' ho0 (Kd.R_lt (rk HO496.out))) (Kd.R_lt (rk HO504.out))) (below_size (bw1 HB.out GE514.out)))
    replace HO496 := Aside0.mk (Kd.R_elder' (rk HO496.out) (Kd.R_base ho0) hb)
    replace HO504 := Aside0.mk (Kd.R_elder' (rk HO504.out) (Kd.R_base ho0) hb)
    have HO513 := Aside0.mk (Kd.R_lower (Kd.R_new' (Kd.R_new' ho1 (Kd.R_lt (rk HO499.out))) (Kd.R_lt (rk HO507.out))) (below_size (bw1 HB.out GE514.out)))
    replace HO499 := Aside0.mk (Kd.R_elder' (rk HO499.out) (Kd.R_base ho1) hb)
    replace HO507 := Aside0.mk (Kd.R_elder' (rk HO507.out) (Kd.R_base ho1) hb)
    replace HR500_0 := Aside0.mk (Kd.C_below (ck HR500_0.out) hb)
    replace HR500_1 := Aside0.mk (Kd.C_below (ck HR500_1.out) hb)
    replace HR501_0 := Aside0.mk (Kd.C_below (ck HR501_0.out) hb)
    replace HR501_1 := Aside0.mk (Kd.C_below (ck HR501_1.out) hb)
    replace BK514 := Aside0.mk (blk_below (g := gb514) (o := .cells #[.slice none 0 0, .slice none 0 0] 28 (0, 0)) (bk BK514.out) hb)
    replace HB := Aside0.mk (below_step (bw1 HB.out GE514.out) hb)
    (try clear hb)
    (try clear hb2)
    (try clear hk)
    (try clear hi)
    (try clear ho0)
    (try clear ho1)
    refine hK.out _ _ ⟨HS0_, HS1_, HS2_, HS3_⟩ (fun hHeld => ?_)
    clear hK K
    refine norm_ (a' := ?_) ?_ ?_
    rotate_left
    ·
     show Act.put _ (some 21) _ = _
     simp only [Act.put, List.setIfInBounds_toArray, List.set_cons_zero, List.set_cons_succ, i64_w, i32_w]
     rfl
    exact norm_ (by simp only [putAll, Act.put, List.setIfInBounds_toArray, List.set_cons_zero, List.set_cons_succ]) (hCont (.slice Ao15 t494.length co15, .slice Ao16 t497.length co16, .slice Ao17 t502.length co17, .slice Ao18 t505.length co18, v509, v512, gb514) _ ⟨hHeld, (by (with_reducible repeat (first | apply Kd.V_alloc | apply Kd.V_drewN | apply Kd.V_drew)); exact Kd.V_mono HL500_0.out (fun _ hk => ⟨hk.1.1.1.1.1.1.1.2, ⟨hk.1.1.1.1.1.1.2, ⟨hk.1.1.1.1.1.2, ⟨hk.1.1.1.2, ⟨hk.1.1.2, ⟨hk.1.2, ⟨hk.2, hk.1.1.1.1.2⟩⟩⟩⟩⟩⟩⟩)), (by (with_reducible repeat (first | apply Kd.V_alloc | apply Kd.V_drewN | apply Kd.V_drew)); exact Kd.V_mono HL500_1.out (fun _ hk => ⟨hk.1.1.1.1.1.1.1.2, ⟨hk.1.1.1.1.1.1.2, ⟨hk.1.1.1.1.1.2, ⟨hk.1.1.1.2, ⟨hk.1.1.2, ⟨hk.1.2, ⟨hk.2, hk.1.1.1.1.2⟩⟩⟩⟩⟩⟩⟩)), (by (with_reducible repeat (first | apply Kd.V_alloc | apply Kd.V_drewN | apply Kd.V_drew)); exact Kd.V_mono HL501_0.out (fun _ hk => ⟨hk.1.1.1.1.1.1.1.2, ⟨hk.1.1.1.1.1.1.2, ⟨hk.1.1.1.1.1.2, ⟨hk.1.1.1.2, ⟨hk.1.1.2, ⟨hk.1.2, ⟨hk.2, hk.1.1.1.1.2⟩⟩⟩⟩⟩⟩⟩)), (by (with_reducible repeat (first | apply Kd.V_alloc | apply Kd.V_drewN | apply Kd.V_drew)); exact Kd.V_mono HL501_1.out (fun _ hk => ⟨hk.1.1.1.1.1.1.1.2, ⟨hk.1.1.1.1.1.1.2, ⟨hk.1.1.1.1.1.2, ⟨hk.1.1.1.2, ⟨hk.1.1.2, ⟨hk.1.2, ⟨hk.2, hk.1.1.1.1.2⟩⟩⟩⟩⟩⟩⟩)), (by (with_reducible repeat (first | apply Kd.N_alloc | apply Kd.N_drewN | apply Kd.N_drew)); exact Kd.N_mono HO493.out (fun _ hk => ⟨hk.1.1.1.1.1.1.2, ⟨hk.1.1.1.1.1.2, ⟨hk.1.1.1.2, ⟨hk.1.1.2, ⟨hk.1.2, ⟨hk.2, hk.1.1.1.1.2⟩⟩⟩⟩⟩⟩)), (by (with_reducible repeat (first | apply Kd.R_alloc | apply Kd.R_drewN | apply Kd.R_drew)); exact Kd.R_mono HO496.out (fun _ hk => ⟨hk.1.2, hk.2⟩)), (by (with_reducible repeat (first | apply Kd.R_alloc | apply Kd.R_drewN | apply Kd.R_drew)); exact Kd.R_mono HO499.out (fun _ hk => ⟨hk.1.2, hk.2⟩)), (by (with_reducible repeat (first | apply Kd.R_alloc | apply Kd.R_drewN | apply Kd.R_drew)); exact Kd.R_mono HO504.out (fun _ hk => ⟨hk.1.2, hk.2⟩)), (by (with_reducible repeat (first | apply Kd.R_alloc | apply Kd.R_drewN | apply Kd.R_drew)); exact Kd.R_mono HO507.out (fun _ hk => ⟨hk.1.2, hk.2⟩)), (by (with_reducible repeat (first | apply Kd.R_alloc | apply Kd.R_drewN | apply Kd.R_drew)); exact Kd.R_mono HO510.out (fun _ hk => ⟨hk.1.2, hk.2⟩)), (by (with_reducible repeat (first | apply Kd.R_alloc | apply Kd.R_drewN | apply Kd.R_drew)); exact Kd.R_mono HO513.out (fun _ hk => ⟨hk.1.2, hk.2⟩)), (bk BK514.out), GW514.out, GE514.out, (bw1 HB.out GE514.out)⟩)
  ·
   skip
   refine box_step ?hg (N := 6) ?hd (cs := #[.slice none 0 0, .slice none 0 0]) (t := 28) ?hr ?_; (case hd => rfl); (case hg => rfl); (case hr => first | (go_simp; done) | (go_simp; rfl))
   intro gb514 hg w12 hbox hb
   have HS0_ := (hb.cell (World.block_lt_of_cell? _ _ (hHeld.1))).trans (hHeld.1)
   have HS1_ := (hb.cell (World.block_lt_of_cell? _ _ (hHeld.2.1))).trans (hHeld.2.1)
   have HS2_ := (hb.cell (World.block_lt_of_cell? _ _ (hHeld.2.2.1))).trans (hHeld.2.2.1)
   have HS3_ := (hb.cell (World.block_lt_of_cell? _ _ (hHeld.2.2.2))).trans (hHeld.2.2.2)
   replace HO493 := Aside0.mk (Kd.N_below (Kd.N_elderB (nk HO493.out) gb514 (Nat.le_of_eq hg.symm)) hb)
   replace HL500_0 := Aside0.mk (Kd.V_below (Kd.V_elderB (vk HL500_0.out) gb514 (Nat.le_of_eq hg.symm)) hb)
   replace HL500_1 := Aside0.mk (Kd.V_below (Kd.V_elderB (vk HL500_1.out) gb514 (Nat.le_of_eq hg.symm)) hb)
   replace HL501_0 := Aside0.mk (Kd.V_below (Kd.V_elderB (vk HL501_0.out) gb514 (Nat.le_of_eq hg.symm)) hb)
   replace HL501_1 := Aside0.mk (Kd.V_below (Kd.V_elderB (vk HL501_1.out) gb514 (Nat.le_of_eq hg.symm)) hb)
   replace HR500_0 := Aside0.mk (Kd.C_below (ck HR500_0.out) hb)
   replace HR500_1 := Aside0.mk (Kd.C_below (ck HR500_1.out) hb)
   replace HR501_0 := Aside0.mk (Kd.C_below (ck HR501_0.out) hb)
   replace HR501_1 := Aside0.mk (Kd.C_below (ck HR501_1.out) hb)
   have BK514 := Aside0.mk (hbox)
   have GW514 := Aside0.mk ((by rw [hg]; exact (below_size (bw HB.out)) : w.heap.size ≤ gb514))
   have GE514 := Aside0.mk ((by rw [hg]; exact (below_size (bw HB.out)) : w.heap.size ≤ gb514))
   replace HB := Aside0.mk (below_step (bw HB.out) hb)
   clear hb hbox hg
   refine hK.out _ _ ⟨HS0_, HS1_, HS2_, HS3_⟩ (fun hHeld => ?_)
   clear hK K
   refine norm_ (a' := ?_) ?_ ?_
   rotate_left
   ·
    show Act.put _ (some 6) _ = _
    simp only [Act.put, List.setIfInBounds_toArray, List.set_cons_zero, List.set_cons_succ, i64_w, i32_w]
    rfl
   refine one_ (i := 1) (N := some 13) #[true, true, true, true, true, true, true, true, false, false, true, false] rfl rfl (one_of HT_.out (by kernel_rfl)) (by decide) (fun K hK => ?_)
   refine goes_ Try.func9 (by kernel_rfl) rfl #[.slice (some ad500) t491.length co10] (by rfl) rfl rfl ar_ ?_
   with_reducible refine (deaddropref7_All.calls k _ _ t491 t494 t497 _ ?side1 ?side2 A4.out).mono ?_
   (case side1 => exact cr (Kd.N_reads' HO493.out).2.2)
   (case side2 => exact (Kd.N_reads' HO493.out).2.1)
   rintro e w13 ⟨v495, v498, rfl, ho0, ho1, hb⟩
   have HS0_ := (hb.cell (World.block_lt_of_cell? _ _ (hHeld.1))).trans (hHeld.1)
   have HS1_ := (hb.cell (World.block_lt_of_cell? _ _ (hHeld.2.1))).trans (hHeld.2.1)
   have HS2_ := (hb.cell (World.block_lt_of_cell? _ _ (hHeld.2.2.1))).trans (hHeld.2.2.1)
   have HS3_ := (hb.cell (World.block_lt_of_cell? _ _ (hHeld.2.2.2))).trans (hHeld.2.2.2)
   refine ⟨_, rfl, ?_⟩
   replace HO493 := Aside0.mk (Kd.N_mono (Kd.N_told (Kd.N_told (Kd.N_old (nk HO493.out) hb) (Kd.R_base ho0)) (Kd.R_base ho1)) (fun _ h_ => h_.1))
   replace HL500_0 := Aside0.mk (Kd.V_mono (Kd.V_told (Kd.V_told (Kd.V_old (vk HL500_0.out) hb) (Kd.R_base ho0)) (Kd.R_base ho1)) (fun _ h_ => h_.1))
   replace HL500_1 := Aside0.mk (Kd.V_mono (Kd.V_told (Kd.V_told (Kd.V_old (vk HL500_1.out) hb) (Kd.R_base ho0)) (Kd.R_base ho1)) (fun _ h_ => h_.1))
   replace HL501_0 := Aside0.mk (Kd.V_mono (Kd.V_told (Kd.V_told (Kd.V_old (vk HL501_0.out) hb) (Kd.R_base ho0)) (Kd.R_base ho1)) (fun _ h_ => h_.1))
   replace HL501_1 := Aside0.mk (Kd.V_mono (Kd.V_told (Kd.V_told (Kd.V_old (vk HL501_1.out) hb) (Kd.R_base ho0)) (Kd.R_base ho1)) (fun _ h_ => h_.1))
   have HO496 := Aside0.mk (Kd.R_lower ho0 (below_size (bw1 HB.out GE514.out)))
   have HO499 := Aside0.mk (Kd.R_lower ho1 (below_size (bw1 HB.out GE514.out)))
   replace HR500_0 := Aside0.mk (Kd.C_below (ck HR500_0.out) hb)
   replace HR500_1 := Aside0.mk (Kd.C_below (ck HR500_1.out) hb)
   replace HR501_0 := Aside0.mk (Kd.C_below (ck HR501_0.out) hb)
   replace HR501_1 := Aside0.mk (Kd.C_below (ck HR501_1.out) hb)
   replace BK514 := Aside0.mk (blk_below (g := gb514) (o := .cells #[.slice none 0 0, .slice none 0 0] 28 (0, 0)) (bk BK514.out) hb)
   replace HB := Aside0.mk (below_step (bw1 HB.out GE514.out) hb)
   (try clear hb)
   (try clear hb2)
   (try clear hk)
   (try clear hi)
   (try clear ho0)
   (try clear ho1)
   refine hK.out _ _ ⟨HS0_, HS1_, HS2_, HS3_⟩ (fun hHeld => ?_)
   clear hK K
   refine norm_ (a' := ?_) ?_ ?_
   rotate_left
   ·
    show Act.put _ (some 13) _ = _
    simp only [Act.put, List.setIfInBounds_toArray, List.set_cons_zero, List.set_cons_succ, i64_w, i32_w]
    rfl
   refine one_ (i := 8) (N := some 20) #[true, true, true, true, true, true, true, true, true, false, true, false] rfl rfl (one_of HT_.out (by kernel_rfl)) (by decide) (fun K hK => ?_)
   refine goes_ Try.func8 (by kernel_rfl) rfl #[.agg #[.slice A500_0 ((rd_T28 t491 1).f0).length c500_0, .slice A500_1 ((rd_T28 t491 1).f1).length c500_1], .agg #[.slice A501_0 ((rd_T28 t491 2).f0).length c501_0, .slice A501_1 ((rd_T28 t491 2).f1).length c501_1]] (by rfl) rfl rfl ar_ ?_
   with_reducible refine (deaddropref7_Join.calls k _ _ ((rd_T28 t491 1).f0) _ _ ((rd_T28 t491 1).f1) _ _ ((rd_T28 t491 2).f0) _ _ ((rd_T28 t491 2).f1) t502 t505 _ ?side1 ?side2 ?side3 ?side4 ?side5 ?side6 ?side7 ?side8 A7.out).mono ?_
   (case side1 => exact cr (ck HR500_0.out))
   (case side2 => exact HC500_0.out)
   (case side3 => exact cr (ck HR500_1.out))
   (case side4 => exact HC500_1.out)
   (case side5 => exact cr (ck HR501_0.out))
   (case side6 => exact HC501_0.out)
   (case side7 => exact cr (ck HR501_1.out))
   (case side8 => exact HC501_1.out)
   rintro e w14 ⟨v503, v506, rfl, ho0, ho1, hb⟩
   have HS0_ := (hb.cell (World.block_lt_of_cell? _ _ (hHeld.1))).trans (hHeld.1)
   have HS1_ := (hb.cell (World.block_lt_of_cell? _ _ (hHeld.2.1))).trans (hHeld.2.1)
   have HS2_ := (hb.cell (World.block_lt_of_cell? _ _ (hHeld.2.2.1))).trans (hHeld.2.2.1)
   have HS3_ := (hb.cell (World.block_lt_of_cell? _ _ (hHeld.2.2.2))).trans (hHeld.2.2.2)
   refine ⟨_, rfl, ?_⟩
   replace HO493 := Aside0.mk (Kd.N_mono (Kd.N_told (Kd.N_told (Kd.N_old (nk HO493.out) hb) (Kd.R_base ho0)) (Kd.R_base ho1)) (fun _ h_ => h_.1))
   replace HL500_0 := Aside0.mk (Kd.V_mono (Kd.V_told (Kd.V_told (Kd.V_old (vk HL500_0.out) hb) (Kd.R_base ho0)) (Kd.R_base ho1)) (fun _ h_ => h_.1))
   replace HL500_1 := Aside0.mk (Kd.V_mono (Kd.V_told (Kd.V_told (Kd.V_old (vk HL500_1.out) hb) (Kd.R_base ho0)) (Kd.R_base ho1)) (fun _ h_ => h_.1))
   replace HL501_0 := Aside0.mk (Kd.V_mono (Kd.V_told (Kd.V_told (Kd.V_old (vk HL501_0.out) hb) (Kd.R_base ho0)) (Kd.R_base ho1)) (fun _ h_ => h_.1))
   replace HL501_1 := Aside0.mk (Kd.V_mono (Kd.V_told (Kd.V_told (Kd.V_old (vk HL501_1.out) hb) (Kd.R_base ho0)) (Kd.R_base ho1)) (fun _ h_ => h_.1))
   have HO504 := Aside0.mk (Kd.R_lower (Kd.R_new' ho0 (Kd.R_lt (rk HO496.out))) (below_size (bw1 HB.out GE514.out)))
   replace HO496 := Aside0.mk (Kd.R_elder' (rk HO496.out) (Kd.R_base ho0) hb)
   have HO507 := Aside0.mk (Kd.R_lower (Kd.R_new' ho1 (Kd.R_lt (rk HO499.out))) (below_size (bw1 HB.out GE514.out)))
   replace HO499 := Aside0.mk (Kd.R_elder' (rk HO499.out) (Kd.R_base ho1) hb)
   replace HR500_0 := Aside0.mk (Kd.C_below (ck HR500_0.out) hb)
   replace HR500_1 := Aside0.mk (Kd.C_below (ck HR500_1.out) hb)
   replace HR501_0 := Aside0.mk (Kd.C_below (ck HR501_0.out) hb)
   replace HR501_1 := Aside0.mk (Kd.C_below (ck HR501_1.out) hb)
   replace BK514 := Aside0.mk (blk_below (g := gb514) (o := .cells #[.slice none 0 0, .slice none 0 0] 28 (0, 0)) (bk BK514.out) hb)
   replace HB := Aside0.mk (below_step (bw1 HB.out GE514.out) hb)
   (try clear hb)
   (try clear hb2)
   (try clear hk)
   (try clear hi)
   (try clear ho0)
   (try clear ho1)
   obtain ⟨Ao15, co15, eo15⟩ := Kd.R_slice HO496.out
   (first | subst eo15 | (injection eo15 with f1_ f2_ f3_; have f4_ := f1_.symm; have f5_ := f3_.symm; clear f1_ f2_ f3_; subst f4_; subst f5_))
   obtain ⟨Ao16, co16, eo16⟩ := Kd.R_slice HO499.out
   (first | subst eo16 | (injection eo16 with f1_ f2_ f3_; have f4_ := f1_.symm; have f5_ := f3_.symm; clear f1_ f2_ f3_; subst f4_; subst f5_))
   obtain ⟨Ao17, co17, eo17⟩ := Kd.R_slice HO504.out
   (first | subst eo17 | (injection eo17 with f1_ f2_ f3_; have f4_ := f1_.symm; have f5_ := f3_.symm; clear f1_ f2_ f3_; subst f4_; subst f5_))
   obtain ⟨Ao18, co18, eo18⟩ := Kd.R_slice HO507.out
   (first | subst eo18 | (injection eo18 with f1_ f2_ f3_; have f4_ := f1_.symm; have f5_ := f3_.symm; clear f1_ f2_ f3_; subst f4_; subst f5_))
   refine hK.out _ _ ⟨HS0_, HS1_, HS2_, HS3_⟩ (fun hHeld => ?_)
   clear hK K
   refine norm_ (a' := ?_) ?_ ?_
   rotate_left
   ·
    show Act.put _ (some 20) _ = _
    simp only [Act.put, List.setIfInBounds_toArray, List.set_cons_zero, List.set_cons_succ, i64_w, i32_w]
    rfl
   refine one_ (i := 9) (N := some 21) (fl 11 12) rfl rfl (one_of HT_.out (by kernel_rfl)) (by decide) (fun K hK => ?_)
   refine goes_ Try.func8 (by kernel_rfl) rfl #[.agg #[.slice Ao15 t494.length co15, .slice Ao16 t497.length co16], .agg #[.slice Ao17 t502.length co17, .slice Ao18 t505.length co18]] (by rfl) rfl rfl ar_ ?_
   with_reducible refine (deaddropref7_Join.calls k _ _ t494 _ _ t497 _ _ t502 _ _ t505 t508 t511 _ ?side1 ?side2 ?side3 ?side4 ?side5 ?side6 ?side7 ?side8 A8.out).mono ?_
   (case side1 => exact cr (Kd.R_reads' HO496.out).2.2)
   (case side2 => exact (Kd.R_reads' HO496.out).2.1)
   (case side3 => exact cr (Kd.R_reads' HO499.out).2.2)
   (case side4 => exact (Kd.R_reads' HO499.out).2.1)
   (case side5 => exact cr (Kd.R_reads' HO504.out).2.2)
   (case side6 => exact (Kd.R_reads' HO504.out).2.1)
   (case side7 => exact cr (Kd.R_reads' HO507.out).2.2)
   (case side8 => exact (Kd.R_reads' HO507.out).2.1)
   rintro e w19 ⟨v509, v512, rfl, ho0, ho1, hb⟩
   have HS0_ := (hb.cell (World.block_lt_of_cell? _ _ (hHeld.1))).trans (hHeld.1)
   have HS1_ := (hb.cell (World.block_lt_of_cell? _ _ (hHeld.2.1))).trans (hHeld.2.1)
   have HS2_ := (hb.cell (World.block_lt_of_cell? _ _ (hHeld.2.2.1))).trans (hHeld.2.2.1)
   have HS3_ := (hb.cell (World.block_lt_of_cell? _ _ (hHeld.2.2.2))).trans (hHeld.2.2.2)
   refine ⟨_, rfl, ?_⟩
   replace HO493 := Aside0.mk (Kd.N_mono (Kd.N_told (Kd.N_told (Kd.N_old (nk HO493.out) hb) (Kd.R_base ho0)) (Kd.R_base ho1)) (fun _ h_ => h_.1))
   replace HL500_0 := Aside0.mk (Kd.V_mono (Kd.V_told (Kd.V_told (Kd.V_old (vk HL500_0.out) hb) (Kd.R_base ho0)) (Kd.R_base ho1)) (fun _ h_ => h_.1))
   replace HL500_1 := Aside0.mk (Kd.V_mono (Kd.V_told (Kd.V_told (Kd.V_old (vk HL500_1.out) hb) (Kd.R_base ho0)) (Kd.R_base ho1)) (fun _ h_ => h_.1))
   replace HL501_0 := Aside0.mk (Kd.V_mono (Kd.V_told (Kd.V_told (Kd.V_old (vk HL501_0.out) hb) (Kd.R_base ho0)) (Kd.R_base ho1)) (fun _ h_ => h_.1))
   replace HL501_1 := Aside0.mk (Kd.V_mono (Kd.V_told (Kd.V_told (Kd.V_old (vk HL501_1.out) hb) (Kd.R_base ho0)) (Kd.R_base ho1)) (fun _ h_ => h_.1))
   have HO510 := Aside0.mk (Kd.R_lower (Kd.R_new' (Kd.R_new' ho0 (Kd.R_lt (rk HO496.out))) (Kd.R_lt (rk HO504.out))) (below_size (bw1 HB.out GE514.out)))
   replace HO496 := Aside0.mk (Kd.R_elder' (rk HO496.out) (Kd.R_base ho0) hb)
   replace HO504 := Aside0.mk (Kd.R_elder' (rk HO504.out) (Kd.R_base ho0) hb)
   have HO513 := Aside0.mk (Kd.R_lower (Kd.R_new' (Kd.R_new' ho1 (Kd.R_lt (rk HO499.out))) (Kd.R_lt (rk HO507.out))) (below_size (bw1 HB.out GE514.out)))
   replace HO499 := Aside0.mk (Kd.R_elder' (rk HO499.out) (Kd.R_base ho1) hb)
   replace HO507 := Aside0.mk (Kd.R_elder' (rk HO507.out) (Kd.R_base ho1) hb)
   replace HR500_0 := Aside0.mk (Kd.C_below (ck HR500_0.out) hb)
   replace HR500_1 := Aside0.mk (Kd.C_below (ck HR500_1.out) hb)
   replace HR501_0 := Aside0.mk (Kd.C_below (ck HR501_0.out) hb)
   replace HR501_1 := Aside0.mk (Kd.C_below (ck HR501_1.out) hb)
   replace BK514 := Aside0.mk (blk_below (g := gb514) (o := .cells #[.slice none 0 0, .slice none 0 0] 28 (0, 0)) (bk BK514.out) hb)
   replace HB := Aside0.mk (below_step (bw1 HB.out GE514.out) hb)
   (try clear hb)
   (try clear hb2)
   (try clear hk)
   (try clear hi)
   (try clear ho0)
   (try clear ho1)
   refine hK.out _ _ ⟨HS0_, HS1_, HS2_, HS3_⟩ (fun hHeld => ?_)
   clear hK K
   refine norm_ (a' := ?_) ?_ ?_
   rotate_left
   ·
    show Act.put _ (some 21) _ = _
    simp only [Act.put, List.setIfInBounds_toArray, List.set_cons_zero, List.set_cons_succ, i64_w, i32_w]
    rfl
   exact norm_ (by simp only [putAll, Act.put, List.setIfInBounds_toArray, List.set_cons_zero, List.set_cons_succ]) (hCont (.slice Ao15 t494.length co15, .slice Ao16 t497.length co16, .slice Ao17 t502.length co17, .slice Ao18 t505.length co18, v509, v512, gb514) _ ⟨hHeld, (by (with_reducible repeat (first | apply Kd.V_alloc | apply Kd.V_drewN | apply Kd.V_drew)); exact Kd.V_mono HL500_0.out (fun _ hk => ⟨hk.1.1.1.1.1.1.1.2, ⟨hk.1.1.1.1.1.2, ⟨hk.1.1.1.1.2, ⟨hk.1.1.1.2, ⟨hk.1.1.2, ⟨hk.1.2, ⟨hk.2, hk.1.1.1.1.1.1.2⟩⟩⟩⟩⟩⟩⟩)), (by (with_reducible repeat (first | apply Kd.V_alloc | apply Kd.V_drewN | apply Kd.V_drew)); exact Kd.V_mono HL500_1.out (fun _ hk => ⟨hk.1.1.1.1.1.1.1.2, ⟨hk.1.1.1.1.1.2, ⟨hk.1.1.1.1.2, ⟨hk.1.1.1.2, ⟨hk.1.1.2, ⟨hk.1.2, ⟨hk.2, hk.1.1.1.1.1.1.2⟩⟩⟩⟩⟩⟩⟩)), (by (with_reducible repeat (first | apply Kd.V_alloc | apply Kd.V_drewN | apply Kd.V_drew)); exact Kd.V_mono HL501_0.out (fun _ hk => ⟨hk.1.1.1.1.1.1.1.2, ⟨hk.1.1.1.1.1.2, ⟨hk.1.1.1.1.2, ⟨hk.1.1.1.2, ⟨hk.1.1.2, ⟨hk.1.2, ⟨hk.2, hk.1.1.1.1.1.1.2⟩⟩⟩⟩⟩⟩⟩)), (by (with_reducible repeat (first | apply Kd.V_alloc | apply Kd.V_drewN | apply Kd.V_drew)); exact Kd.V_mono HL501_1.out (fun _ hk => ⟨hk.1.1.1.1.1.1.1.2, ⟨hk.1.1.1.1.1.2, ⟨hk.1.1.1.1.2, ⟨hk.1.1.1.2, ⟨hk.1.1.2, ⟨hk.1.2, ⟨hk.2, hk.1.1.1.1.1.1.2⟩⟩⟩⟩⟩⟩⟩)), (by (with_reducible repeat (first | apply Kd.N_alloc | apply Kd.N_drewN | apply Kd.N_drew)); exact Kd.N_mono HO493.out (fun _ hk => ⟨hk.1.1.1.1.1.2, ⟨hk.1.1.1.1.2, ⟨hk.1.1.1.2, ⟨hk.1.1.2, ⟨hk.1.2, ⟨hk.2, hk.1.1.1.1.1.1.2⟩⟩⟩⟩⟩⟩)), (by (with_reducible repeat (first | apply Kd.R_alloc | apply Kd.R_drewN | apply Kd.R_drew)); exact Kd.R_mono HO496.out (fun _ hk => ⟨hk.1.2, hk.2⟩)), (by (with_reducible repeat (first | apply Kd.R_alloc | apply Kd.R_drewN | apply Kd.R_drew)); exact Kd.R_mono HO499.out (fun _ hk => ⟨hk.1.2, hk.2⟩)), (by (with_reducible repeat (first | apply Kd.R_alloc | apply Kd.R_drewN | apply Kd.R_drew)); exact Kd.R_mono HO504.out (fun _ hk => ⟨hk.1.2, hk.2⟩)), (by (with_reducible repeat (first | apply Kd.R_alloc | apply Kd.R_drewN | apply Kd.R_drew)); exact Kd.R_mono HO507.out (fun _ hk => ⟨hk.1.2, hk.2⟩)), (by (with_reducible repeat (first | apply Kd.R_alloc | apply Kd.R_drewN | apply Kd.R_drew)); exact Kd.R_mono HO510.out (fun _ hk => ⟨hk.1.2, hk.2⟩)), (by (with_reducible repeat (first | apply Kd.R_alloc | apply Kd.R_drewN | apply Kd.R_drew)); exact Kd.R_mono HO513.out (fun _ hk => ⟨hk.1.2, hk.2⟩)), (bk BK514.out), GW514.out, GE514.out, (bw1 HB.out GE514.out)⟩)
 rintro ⟨v495, v498, v503, v506, v509, v512, gb514⟩ w20 ⟨hS_, h0_, h1_, h2_, h3_, h4_, h5_, h6_, h7_, h8_, h9_, h10_, h11_, h12_, h13_, h14_⟩
 have n0_ : Aside0 (Kd.V k70 70 w20 w.heap.size (fun k_ => some k_ ≠ (.slice (some ad500) t491.length co10 : Value).ownBlock ∧ some k_ ≠ (v495 : Value).ownBlock ∧ some k_ ≠ (v498 : Value).ownBlock ∧ some k_ ≠ (v503 : Value).ownBlock ∧ some k_ ≠ (v506 : Value).ownBlock ∧ some k_ ≠ (v509 : Value).ownBlock ∧ some k_ ≠ (v512 : Value).ownBlock ∧ k_ ≠ gb514) (.slice A500_0 ((rd_T28 t491 1).f0).length c500_0) ((rd_T28 t491 1).f0)) := ⟨h0_⟩
 have n1_ : Aside0 (Kd.V k34 34 w20 w.heap.size (fun k_ => some k_ ≠ (.slice (some ad500) t491.length co10 : Value).ownBlock ∧ some k_ ≠ (v495 : Value).ownBlock ∧ some k_ ≠ (v498 : Value).ownBlock ∧ some k_ ≠ (v503 : Value).ownBlock ∧ some k_ ≠ (v506 : Value).ownBlock ∧ some k_ ≠ (v509 : Value).ownBlock ∧ some k_ ≠ (v512 : Value).ownBlock ∧ k_ ≠ gb514) (.slice A500_1 ((rd_T28 t491 1).f1).length c500_1) ((rd_T28 t491 1).f1)) := ⟨h1_⟩
 have n2_ : Aside0 (Kd.V k70 70 w20 w.heap.size (fun k_ => some k_ ≠ (.slice (some ad500) t491.length co10 : Value).ownBlock ∧ some k_ ≠ (v495 : Value).ownBlock ∧ some k_ ≠ (v498 : Value).ownBlock ∧ some k_ ≠ (v503 : Value).ownBlock ∧ some k_ ≠ (v506 : Value).ownBlock ∧ some k_ ≠ (v509 : Value).ownBlock ∧ some k_ ≠ (v512 : Value).ownBlock ∧ k_ ≠ gb514) (.slice A501_0 ((rd_T28 t491 2).f0).length c501_0) ((rd_T28 t491 2).f0)) := ⟨h2_⟩
 have n3_ : Aside0 (Kd.V k34 34 w20 w.heap.size (fun k_ => some k_ ≠ (.slice (some ad500) t491.length co10 : Value).ownBlock ∧ some k_ ≠ (v495 : Value).ownBlock ∧ some k_ ≠ (v498 : Value).ownBlock ∧ some k_ ≠ (v503 : Value).ownBlock ∧ some k_ ≠ (v506 : Value).ownBlock ∧ some k_ ≠ (v509 : Value).ownBlock ∧ some k_ ≠ (v512 : Value).ownBlock ∧ k_ ≠ gb514) (.slice A501_1 ((rd_T28 t491 2).f1).length c501_1) ((rd_T28 t491 2).f1)) := ⟨h3_⟩
 have n4_ : Aside0 (Kd.N k28 28 w20 w.heap.size (fun k_ => some k_ ≠ (v495 : Value).ownBlock ∧ some k_ ≠ (v498 : Value).ownBlock ∧ some k_ ≠ (v503 : Value).ownBlock ∧ some k_ ≠ (v506 : Value).ownBlock ∧ some k_ ≠ (v509 : Value).ownBlock ∧ some k_ ≠ (v512 : Value).ownBlock ∧ k_ ≠ gb514) (.slice (some ad500) t491.length co10) t491) := ⟨h4_⟩
 have n5_ : Aside0 (Kd.R k70 70 w20 w.heap.size (fun k_ => some k_ ≠ (v503 : Value).ownBlock ∧ some k_ ≠ (v509 : Value).ownBlock) v495 t494) := ⟨h5_⟩
 have n6_ : Aside0 (Kd.R k34 34 w20 w.heap.size (fun k_ => some k_ ≠ (v506 : Value).ownBlock ∧ some k_ ≠ (v512 : Value).ownBlock) v498 t497) := ⟨h6_⟩
 have n7_ : Aside0 (Kd.R k70 70 w20 w.heap.size (fun k_ => some k_ ≠ (v495 : Value).ownBlock ∧ some k_ ≠ (v509 : Value).ownBlock) v503 t502) := ⟨h7_⟩
 have n8_ : Aside0 (Kd.R k34 34 w20 w.heap.size (fun k_ => some k_ ≠ (v498 : Value).ownBlock ∧ some k_ ≠ (v512 : Value).ownBlock) v506 t505) := ⟨h8_⟩
 have n9_ : Aside0 (Kd.R k70 70 w20 w.heap.size (fun k_ => some k_ ≠ (v495 : Value).ownBlock ∧ some k_ ≠ (v503 : Value).ownBlock) v509 t508) := ⟨h9_⟩
 have n10_ : Aside0 (Kd.R k34 34 w20 w.heap.size (fun k_ => some k_ ≠ (v498 : Value).ownBlock ∧ some k_ ≠ (v506 : Value).ownBlock) v512 t511) := ⟨h10_⟩
 have n11_ : Aside0 (w20.heap[gb514]? = some (.cells #[.slice none 0 0, .slice none 0 0] 28 (0, 0))) := ⟨h11_⟩
 have n12_ : Aside0 (w.heap.size ≤ gb514) := ⟨h12_⟩
 have n13_ : Aside0 (w.heap.size ≤ gb514) := ⟨h13_⟩
 have n14_ : Aside0 (Below w.heap.size w w20) := ⟨h14_⟩
 clear HO493
 clear HB
 clear h0_ h1_ h2_ h3_ h4_ h5_ h6_ h7_ h8_ h9_ h10_ h11_ h12_ h13_ h14_
 have HL500_0 := n0_
 have HL500_1 := n1_
 have HL501_0 := n2_
 have HL501_1 := n3_
 have HO493 := n4_
 have HO496 := n5_
 have HO499 := n6_
 have HO504 := n7_
 have HO507 := n8_
 have HO510 := n9_
 have HO513 := n10_
 have BK514 := n11_
 have GW514 := n12_
 have GE514 := n13_
 have HB := n14_
 clear n0_ n1_ n2_ n3_ n4_ n5_ n6_ n7_ n8_ n9_ n10_ n11_ n12_ n13_ n14_
 have hHeld : w20.cell? ⟨ad500.block, ad500.off + 2, none⟩ = some (.slice A500_0 ((rd_T28 t491 1).f0).length c500_0) ∧ w20.cell? ⟨ad500.block, ad500.off + 2 + 1, none⟩ = some (.slice A500_1 ((rd_T28 t491 1).f1).length c500_1) ∧ w20.cell? ⟨ad500.block, ad500.off + 4, none⟩ = some (.slice A501_0 ((rd_T28 t491 2).f0).length c501_0) ∧ w20.cell? ⟨ad500.block, ad500.off + 4 + 1, none⟩ = some (.slice A501_1 ((rd_T28 t491 2).f1).length c501_1) := hS_
 obtain ⟨Ao21, co21, eo21⟩ := Kd.R_slice HO510.out
 (first | subst eo21 | (injection eo21 with f1_ f2_ f3_; have f4_ := f1_.symm; have f5_ := f3_.symm; clear f1_ f2_ f3_; subst f4_; subst f5_))
 obtain ⟨Ao23, co23, eo23⟩ := Kd.R_slice HO513.out
 (first | subst eo23 | (injection eo23 with f1_ f2_ f3_; have f4_ := f1_.symm; have f5_ := f3_.symm; clear f1_ f2_ f3_; subst f4_; subst f5_))
 refine norm_ (a' := ?_) ?_ ?_
 rotate_left
 ·
  simp only [putAll, Act.put, List.setIfInBounds_toArray, List.set_cons_zero, List.set_cons_succ]
  rfl
 refine one_ (i := 11) (N := none) (fl 12 12) rfl rfl (one_of HT_.out (by kernel_rfl)) (by decide) (fun K hK => ?_)
 have hs22 : w20.cell? ⟨gb514, 0, none⟩ = some (.slice none 0 0) := (blk_cell BK514.out 0).trans rfl
 have hfs22 := blk_frozen BK514.out 0
 have hs24 : w20.cell? ⟨gb514, 1, none⟩ = some (.slice none 0 0) := (blk_cell BK514.out 1).trans rfl
 have hfs24 := blk_frozen BK514.out 1
 refine skip_ (w1 := ?_) (by rfl) rfl ?_ ?_
 rotate_left
 ·
  go_simp
  rfl
 refine hK.out _ _ ⟨((cell_far (p := ⟨gb514, _, none⟩) (by first | exact Kd.own_blk (Kd.N_away HO493.out (fun _ hk => hk.2.2.2.2.2.2)) | (rw [add_block]; exact Kd.own_blk (Kd.N_away HO493.out (fun _ hk => hk.2.2.2.2.2.2))) | (show (Addr.add _ _).block ≠ _; rw [add_block]; exact Kd.own_blk (Kd.N_away HO493.out (fun _ hk => hk.2.2.2.2.2.2))) | (dsimp only; exact Kd.own_blk (Kd.N_away HO493.out (fun _ hk => hk.2.2.2.2.2.2)))) _).trans (((cell_far (p := ⟨gb514, _, none⟩) (by first | exact Kd.own_blk (Kd.N_away HO493.out (fun _ hk => hk.2.2.2.2.2.2)) | (rw [add_block]; exact Kd.own_blk (Kd.N_away HO493.out (fun _ hk => hk.2.2.2.2.2.2))) | (show (Addr.add _ _).block ≠ _; rw [add_block]; exact Kd.own_blk (Kd.N_away HO493.out (fun _ hk => hk.2.2.2.2.2.2))) | (dsimp only; exact Kd.own_blk (Kd.N_away HO493.out (fun _ hk => hk.2.2.2.2.2.2)))) _).trans (hHeld.1)))), ((cell_far (p := ⟨gb514, _, none⟩) (by first | exact Kd.own_blk (Kd.N_away HO493.out (fun _ hk => hk.2.2.2.2.2.2)) | (rw [add_block]; exact Kd.own_blk (Kd.N_away HO493.out (fun _ hk => hk.2.2.2.2.2.2))) | (show (Addr.add _ _).block ≠ _; rw [add_block]; exact Kd.own_blk (Kd.N_away HO493.out (fun _ hk => hk.2.2.2.2.2.2))) | (dsimp only; exact Kd.own_blk (Kd.N_away HO493.out (fun _ hk => hk.2.2.2.2.2.2)))) _).trans (((cell_far (p := ⟨gb514, _, none⟩) (by first | exact Kd.own_blk (Kd.N_away HO493.out (fun _ hk => hk.2.2.2.2.2.2)) | (rw [add_block]; exact Kd.own_blk (Kd.N_away HO493.out (fun _ hk => hk.2.2.2.2.2.2))) | (show (Addr.add _ _).block ≠ _; rw [add_block]; exact Kd.own_blk (Kd.N_away HO493.out (fun _ hk => hk.2.2.2.2.2.2))) | (dsimp only; exact Kd.own_blk (Kd.N_away HO493.out (fun _ hk => hk.2.2.2.2.2.2)))) _).trans (hHeld.2.1)))), ((cell_far (p := ⟨gb514, _, none⟩) (by first | exact Kd.own_blk (Kd.N_away HO493.out (fun _ hk => hk.2.2.2.2.2.2)) | (rw [add_block]; exact Kd.own_blk (Kd.N_away HO493.out (fun _ hk => hk.2.2.2.2.2.2))) | (show (Addr.add _ _).block ≠ _; rw [add_block]; exact Kd.own_blk (Kd.N_away HO493.out (fun _ hk => hk.2.2.2.2.2.2))) | (dsimp only; exact Kd.own_blk (Kd.N_away HO493.out (fun _ hk => hk.2.2.2.2.2.2)))) _).trans (((cell_far (p := ⟨gb514, _, none⟩) (by first | exact Kd.own_blk (Kd.N_away HO493.out (fun _ hk => hk.2.2.2.2.2.2)) | (rw [add_block]; exact Kd.own_blk (Kd.N_away HO493.out (fun _ hk => hk.2.2.2.2.2.2))) | (show (Addr.add _ _).block ≠ _; rw [add_block]; exact Kd.own_blk (Kd.N_away HO493.out (fun _ hk => hk.2.2.2.2.2.2))) | (dsimp only; exact Kd.own_blk (Kd.N_away HO493.out (fun _ hk => hk.2.2.2.2.2.2)))) _).trans (hHeld.2.2.1)))), ((cell_far (p := ⟨gb514, _, none⟩) (by first | exact Kd.own_blk (Kd.N_away HO493.out (fun _ hk => hk.2.2.2.2.2.2)) | (rw [add_block]; exact Kd.own_blk (Kd.N_away HO493.out (fun _ hk => hk.2.2.2.2.2.2))) | (show (Addr.add _ _).block ≠ _; rw [add_block]; exact Kd.own_blk (Kd.N_away HO493.out (fun _ hk => hk.2.2.2.2.2.2))) | (dsimp only; exact Kd.own_blk (Kd.N_away HO493.out (fun _ hk => hk.2.2.2.2.2.2)))) _).trans (((cell_far (p := ⟨gb514, _, none⟩) (by first | exact Kd.own_blk (Kd.N_away HO493.out (fun _ hk => hk.2.2.2.2.2.2)) | (rw [add_block]; exact Kd.own_blk (Kd.N_away HO493.out (fun _ hk => hk.2.2.2.2.2.2))) | (show (Addr.add _ _).block ≠ _; rw [add_block]; exact Kd.own_blk (Kd.N_away HO493.out (fun _ hk => hk.2.2.2.2.2.2))) | (dsimp only; exact Kd.own_blk (Kd.N_away HO493.out (fun _ hk => hk.2.2.2.2.2.2)))) _).trans (hHeld.2.2.2))))⟩ (fun hHeld => ?_)
 clear hK K
 refine done_ (done_of HT_.out (by kernel_rfl)) ?_
 try go_wp2_with (first | ((with_reducible refine gate_dst (N := 25) rfl ?_); refine Kd.R_lit (Kd.int .u8) _ 5 ?hg (N := 25) ?hd (xs := ([(107 + (Int.tmod a1 3)) % 256] : List Int)) (inner := [.int .u8 ((107 + (Int.tmod a1 3)) % 256)]) (ok := fun _ => True) (okp := fun _ => True) ?hr ?hp (fun _ hk => hk) trivial (Below.refl _ _) (Nat.le_refl _) (by simp) ?_; (case hd => rfl); (case hg => rfl); (case hr => first | (go_simp; done) | (go_simp; rfl)); (case hp => exact (Reps.one (show Kd.M (Kd.int .u8) _ _ _ ((107 + (Int.tmod a1 3)) % 256) [.int .u8 ((107 + (Int.tmod a1 3)) % 256)] from rfl) (Reps.none _ _))); intro v516 w25 ho26 hb hg_ hnew_; clear hg_ hnew_; (first | rw [← Ny515.out] at ho26 | (simp only [Int.reduceToNat] at ho26; rw [← Ny515.out] at ho26)); replace HO493 := Aside0.mk (Kd.N_elder' (by (with_reducible repeat (first | apply Kd.N_alloc | apply Kd.N_drewN | apply Kd.N_drew)); exact (Kd.N_mono (Kd.N_far (p := ⟨gb514, 1, none⟩) (Kd.N_far (p := ⟨gb514, 0, none⟩) (Kd.N_mono HO493.out (fun k_ hk => (⟨hk, hk.2.2.2.2.2.2⟩ : _ ∧ k_ ≠ gb514))) (fun _ hk => hk.2) (.slice Ao21 t508.length co21)) (fun _ hk => hk.2) (.slice Ao23 t511.length co23)) (fun _ h_ => h_.1))) (Kd.R_base ho26) hb); replace HL500_0 := Aside0.mk (Kd.V_elder' (by (with_reducible repeat (first | apply Kd.V_alloc | apply Kd.V_drewN | apply Kd.V_drew)); exact (Kd.V_mono (Kd.V_far (p := ⟨gb514, 1, none⟩) (Kd.V_far (p := ⟨gb514, 0, none⟩) (Kd.V_mono HL500_0.out (fun k_ hk => (⟨hk, hk.2.2.2.2.2.2.2⟩ : _ ∧ k_ ≠ gb514))) (fun _ hk => hk.2) (.slice Ao21 t508.length co21)) (fun _ hk => hk.2) (.slice Ao23 t511.length co23)) (fun _ h_ => h_.1))) (Kd.R_base ho26) hb); replace HL500_1 := Aside0.mk (Kd.V_elder' (by (with_reducible repeat (first | apply Kd.V_alloc | apply Kd.V_drewN | apply Kd.V_drew)); exact (Kd.V_mono (Kd.V_far (p := ⟨gb514, 1, none⟩) (Kd.V_far (p := ⟨gb514, 0, none⟩) (Kd.V_mono HL500_1.out (fun k_ hk => (⟨hk, hk.2.2.2.2.2.2.2⟩ : _ ∧ k_ ≠ gb514))) (fun _ hk => hk.2) (.slice Ao21 t508.length co21)) (fun _ hk => hk.2) (.slice Ao23 t511.length co23)) (fun _ h_ => h_.1))) (Kd.R_base ho26) hb); replace HL501_0 := Aside0.mk (Kd.V_elder' (by (with_reducible repeat (first | apply Kd.V_alloc | apply Kd.V_drewN | apply Kd.V_drew)); exact (Kd.V_mono (Kd.V_far (p := ⟨gb514, 1, none⟩) (Kd.V_far (p := ⟨gb514, 0, none⟩) (Kd.V_mono HL501_0.out (fun k_ hk => (⟨hk, hk.2.2.2.2.2.2.2⟩ : _ ∧ k_ ≠ gb514))) (fun _ hk => hk.2) (.slice Ao21 t508.length co21)) (fun _ hk => hk.2) (.slice Ao23 t511.length co23)) (fun _ h_ => h_.1))) (Kd.R_base ho26) hb); replace HL501_1 := Aside0.mk (Kd.V_elder' (by (with_reducible repeat (first | apply Kd.V_alloc | apply Kd.V_drewN | apply Kd.V_drew)); exact (Kd.V_mono (Kd.V_far (p := ⟨gb514, 1, none⟩) (Kd.V_far (p := ⟨gb514, 0, none⟩) (Kd.V_mono HL501_1.out (fun k_ hk => (⟨hk, hk.2.2.2.2.2.2.2⟩ : _ ∧ k_ ≠ gb514))) (fun _ hk => hk.2) (.slice Ao21 t508.length co21)) (fun _ hk => hk.2) (.slice Ao23 t511.length co23)) (fun _ h_ => h_.1))) (Kd.R_base ho26) hb); replace HO496 := Aside0.mk (Kd.R_below (by (with_reducible repeat (first | apply Kd.R_alloc | apply Kd.R_drewN | apply Kd.R_drew)); exact (Kd.R_mono (Kd.R_far (p := ⟨gb514, 1, none⟩) (Kd.R_far (p := ⟨gb514, 0, none⟩) (Kd.R_types HO496.out BK514.out (by decide)) (fun _ hk => hk.2) (.slice Ao21 t508.length co21)) (fun _ hk => hk.2) (.slice Ao23 t511.length co23)) (fun _ h_ => h_.1))) hb); replace HO499 := Aside0.mk (Kd.R_below (by (with_reducible repeat (first | apply Kd.R_alloc | apply Kd.R_drewN | apply Kd.R_drew)); exact (Kd.R_mono (Kd.R_far (p := ⟨gb514, 1, none⟩) (Kd.R_far (p := ⟨gb514, 0, none⟩) (Kd.R_types HO499.out BK514.out (by decide)) (fun _ hk => hk.2) (.slice Ao21 t508.length co21)) (fun _ hk => hk.2) (.slice Ao23 t511.length co23)) (fun _ h_ => h_.1))) hb); replace HO504 := Aside0.mk (Kd.R_below (by (with_reducible repeat (first | apply Kd.R_alloc | apply Kd.R_drewN | apply Kd.R_drew)); exact (Kd.R_mono (Kd.R_far (p := ⟨gb514, 1, none⟩) (Kd.R_far (p := ⟨gb514, 0, none⟩) (Kd.R_types HO504.out BK514.out (by decide)) (fun _ hk => hk.2) (.slice Ao21 t508.length co21)) (fun _ hk => hk.2) (.slice Ao23 t511.length co23)) (fun _ h_ => h_.1))) hb); replace HO507 := Aside0.mk (Kd.R_below (by (with_reducible repeat (first | apply Kd.R_alloc | apply Kd.R_drewN | apply Kd.R_drew)); exact (Kd.R_mono (Kd.R_far (p := ⟨gb514, 1, none⟩) (Kd.R_far (p := ⟨gb514, 0, none⟩) (Kd.R_types HO507.out BK514.out (by decide)) (fun _ hk => hk.2) (.slice Ao21 t508.length co21)) (fun _ hk => hk.2) (.slice Ao23 t511.length co23)) (fun _ h_ => h_.1))) hb); replace HO510 := Aside0.mk (Kd.R_below (by (with_reducible repeat (first | apply Kd.R_alloc | apply Kd.R_drewN | apply Kd.R_drew)); exact (Kd.R_mono (Kd.R_far (p := ⟨gb514, 1, none⟩) (Kd.R_far (p := ⟨gb514, 0, none⟩) (Kd.R_types HO510.out BK514.out (by decide)) (fun _ hk => hk.2) (.slice Ao21 t508.length co21)) (fun _ hk => hk.2) (.slice Ao23 t511.length co23)) (fun _ h_ => h_.1))) hb); replace HO513 := Aside0.mk (Kd.R_below (by (with_reducible repeat (first | apply Kd.R_alloc | apply Kd.R_drewN | apply Kd.R_drew)); exact (Kd.R_mono (Kd.R_far (p := ⟨gb514, 1, none⟩) (Kd.R_far (p := ⟨gb514, 0, none⟩) (Kd.R_types HO513.out BK514.out (by decide)) (fun _ hk => hk.2) (.slice Ao21 t508.length co21)) (fun _ hk => hk.2) (.slice Ao23 t511.length co23)) (fun _ h_ => h_.1))) hb); have HO517 := Aside0.mk (Kd.R_lower ho26 (below_size (bw1 HB.out GE514.out))); replace BK514 := Aside0.mk (blk_below (g := gb514) (o := .cells #[.slice Ao21 t508.length co21, .slice Ao23 t511.length co23] 28 (0, 0)) (by (with_reducible repeat (first | refine blk_drewN ?_ _ | refine blk_drew ?_ | refine blk_alloc ?_ _)); refine blk_put (cs := #[.slice Ao21 t508.length co21, .slice none 0 0]) ?_ 1 _ rfl; (with_reducible repeat (first | refine blk_drewN ?_ _ | refine blk_drew ?_ | refine blk_alloc ?_ _)); refine blk_put (cs := #[.slice none 0 0, .slice none 0 0]) ?_ 0 _ rfl; (with_reducible repeat (first | refine blk_drewN ?_ _ | refine blk_drew ?_ | refine blk_alloc ?_ _)); exact BK514.out) hb); replace HB := Aside0.mk (below_step (bw1 HB.out GE514.out) hb); clear hb ho26; have hcv27 := own_string (P := Try.prog) Try.underlying22 Try.underlying5 Try.underlying9 (Kd.own_of_R HO517.out)))
 go_loopg [8, 9] k (fun kq v8 v9 w' => ∃ (x8_1 : Int) (x9_1 : Int), v8 = .int .i64 x8_1 ∧ v9 = .int .i64 x9_1 ∧ Aside0 (deaddroplaw10_ReadSum.l0 kq (strOfNums y515) x8_1 x9_1 t508 t511 = some r) ∧ Aside0 (kq ≤ k) ∧ Aside0 (Kd.R k70 70 w' w.heap.size (fun _ => True) (.slice Ao21 t508.length co21) t508) ∧ Aside0 (Kd.R k34 34 w' w.heap.size (fun _ => True) (.slice Ao23 t511.length co23) t511) ∧ Aside0 (w'.heap[gb514]? = some (.cells #[(.slice Ao21 t508.length co21), (.slice Ao23 t511.length co23)] 28 (0, 0))) ∧ Aside0 (Below w.heap.size w w'))
 case atStart => exact ⟨(0), (0), ok_, ok_, H', ⟨Nat.le_refl _⟩, ⟨by (with_reducible repeat (first | apply Kd.R_alloc | apply Kd.R_drewN | apply Kd.R_drew)); exact Kd.R_mono HO510.out (fun _ hk => trivial)⟩, ⟨by (with_reducible repeat (first | apply Kd.R_alloc | apply Kd.R_drewN | apply Kd.R_drew)); exact Kd.R_mono HO513.out (fun _ hk => trivial)⟩, ⟨by (with_reducible repeat (first | refine blk_drewN ?_ _ | refine blk_drew ?_ | refine blk_alloc ?_ _)); exact BK514.out⟩, ⟨by repeat (first | (with_reducible first | exact HB.out | apply below_alloc | apply pw_below_drewN | apply below_drew1 | refine below_set ?_ GE514.out) | exact HB.out)⟩⟩
 case round =>
  clear H'
  try clear c5
  try clear hcv27
  obtain ⟨x8_1, x9_1, rfl, rfl, HA, HK1, HO_515000, HO_515001, BK514, HB⟩ := hrel
  cases gk with
  | zero => exact absurd HA.out (by simp [deaddroplaw10_ReadSum.l0])
  | succ k1 =>
   have H := HA.out
   clear HA
   simp only [deaddroplaw10_ReadSum.l0] at H
   by_cases c28 : x9_1 < (t511.length : Int)
   ·
    rw [if_pos c28] at H
    have c28b0 : decide (x9_1 < (t511.length : Int)) = true := decide_eq_true c28
    clear c28
    by_cases c29 : 0 ≤ x9_1
    rotate_left
    ·
     rw [if_neg c29] at H
     exact absurd H (by simp)
    rw [if_pos c29] at H
    have c29b0 : decide (0 ≤ x9_1) = true := decide_eq_true c29
    clear c29
    by_cases c30 : ((rd_T34 t511 x9_1).f1).toList = (strOfNums y515).toList
    ·
     rw [if_pos c30] at H
     have c30b0 : (((rd_T34 t511 x9_1).f1).toList == (strOfNums y515).toList) = true := beq_iff_eq.mpr c30
     have c30b1 : (((rd_T34 t511 x9_1).f1).toList != (strOfNums y515).toList) = false := bne_eq_false_iff_eq.mpr c30
     clear c30
     by_cases c31 : ((rd_T34 t511 x9_1).f2) = 3
     ·
      rw [if_pos c31] at H
      have c31b0 : (((rd_T34 t511 x9_1).f2) == 3) = true := beq_iff_eq.mpr c31
      have c31b1 : (((rd_T34 t511 x9_1).f2) != 3) = false := bne_eq_false_iff_eq.mpr c31
      clear c31
      have H' := Aside0.mk H
      clear H
      have hcz32_0 : wr.cell? ⟨gb514, 0, none⟩ = some (.slice Ao21 t508.length co21) := (blk_cell BK514.out 0).trans rfl
      have hcz32_1 : wr.cell? ⟨gb514, 1, none⟩ = some (.slice Ao23 t511.length co23) := (blk_cell BK514.out 1).trans rfl
      have hfz32_0 := blk_frozen BK514.out 0
      have hfz32_1 := blk_frozen BK514.out 1
      have p518 : 0 ≤ (x9_1 : Int) := of_decide_eq_true as_
      have q518 : x9_1 < (t511.length : Int) := of_decide_eq_true as_
      obtain ⟨ad518, e518, hx518_0, hx518_1, hx518_2, hx518_3, hx518_4, hx518_5⟩ := at_T34 (Kd.R_reads' HO_515001.out).2.2 x9_1 p518 q518
      cases e518
      replace p518 := eq_true p518
      replace q518 := eq_true q518
      have p519 : 0 ≤ (x9_1 : Int) := of_decide_eq_true as_
      have q519 : x9_1 < (t511.length : Int) := of_decide_eq_true as_
      obtain ⟨ad519, e519, hx519_0, hx519_1, hx519_2, hx519_3, hx519_4, hx519_5⟩ := at_T34 (Kd.R_reads' HO_515001.out).2.2 x9_1 p519 q519
      obtain rfl : ad518 = ad519 := (by injection e519)
      replace p519 := eq_true p519
      replace q519 := eq_true q519
      have p520 : 0 ≤ (x9_1 : Int) := of_decide_eq_true as_
      have q520 : x9_1 < (t511.length : Int) := of_decide_eq_true as_
      obtain ⟨ad520, e520, hx520_0, hx520_1, hx520_2, hx520_3, hx520_4, hx520_5⟩ := at_T34 (Kd.R_reads' HO_515001.out).2.2 x9_1 p520 q520
      obtain rfl : ad518 = ad520 := (by injection e520)
      replace p520 := eq_true p520
      replace q520 := eq_true q520
      go_wp2
      go_roundg k1
      case measure => have := HK1.out; omega
      case rel => exact ⟨(wrap64 (x8_1 + ((rd_T34 t511 x9_1).f4))), (wrap64 (x9_1 + 1)), ok_, ok_, H', ⟨by have := HK1.out; omega⟩, ⟨by (with_reducible repeat (first | apply Kd.R_alloc | apply Kd.R_drewN | apply Kd.R_drew)); exact HO_515000.out⟩, ⟨by (with_reducible repeat (first | apply Kd.R_alloc | apply Kd.R_drewN | apply Kd.R_drew)); exact HO_515001.out⟩, ⟨by (with_reducible repeat (first | refine blk_drewN ?_ _ | refine blk_drew ?_ | refine blk_alloc ?_ _)); exact BK514.out⟩, ⟨by repeat (first | (with_reducible first | exact HB.out | apply below_alloc | apply pw_below_drewN | apply below_drew1 | refine below_set ?_ GE514.out) | exact HB.out)⟩⟩
     ·
      rw [if_neg c31] at H
      have c31b0 : (((rd_T34 t511 x9_1).f2) == 3) = false := beq_eq_false_iff_ne.mpr c31
      have c31b1 : (((rd_T34 t511 x9_1).f2) != 3) = true := bne_iff_ne.mpr c31
      have H' := Aside0.mk H
      clear H
      have hcz33_0 : wr.cell? ⟨gb514, 0, none⟩ = some (.slice Ao21 t508.length co21) := (blk_cell BK514.out 0).trans rfl
      have hcz33_1 : wr.cell? ⟨gb514, 1, none⟩ = some (.slice Ao23 t511.length co23) := (blk_cell BK514.out 1).trans rfl
      have hfz33_0 := blk_frozen BK514.out 0
      have hfz33_1 := blk_frozen BK514.out 1
      have p518 : 0 ≤ (x9_1 : Int) := of_decide_eq_true as_
      have q518 : x9_1 < (t511.length : Int) := of_decide_eq_true as_
      obtain ⟨ad518, e518, hx518_0, hx518_1, hx518_2, hx518_3, hx518_4, hx518_5⟩ := at_T34 (Kd.R_reads' HO_515001.out).2.2 x9_1 p518 q518
      cases e518
      replace p518 := eq_true p518
      replace q518 := eq_true q518
      have p519 : 0 ≤ (x9_1 : Int) := of_decide_eq_true as_
      have q519 : x9_1 < (t511.length : Int) := of_decide_eq_true as_
      obtain ⟨ad519, e519, hx519_0, hx519_1, hx519_2, hx519_3, hx519_4, hx519_5⟩ := at_T34 (Kd.R_reads' HO_515001.out).2.2 x9_1 p519 q519
      obtain rfl : ad518 = ad519 := (by injection e519)
      replace p519 := eq_true p519
      replace q519 := eq_true q519
      go_wp2
      go_roundg k1
      case measure => have := HK1.out; omega
      case rel => exact ⟨(x8_1), (wrap64 (x9_1 + 1)), ok_, ok_, H', ⟨by have := HK1.out; omega⟩, ⟨by (with_reducible repeat (first | apply Kd.R_alloc | apply Kd.R_drewN | apply Kd.R_drew)); exact HO_515000.out⟩, ⟨by (with_reducible repeat (first | apply Kd.R_alloc | apply Kd.R_drewN | apply Kd.R_drew)); exact HO_515001.out⟩, ⟨by (with_reducible repeat (first | refine blk_drewN ?_ _ | refine blk_drew ?_ | refine blk_alloc ?_ _)); exact BK514.out⟩, ⟨by repeat (first | (with_reducible first | exact HB.out | apply below_alloc | apply pw_below_drewN | apply below_drew1 | refine below_set ?_ GE514.out) | exact HB.out)⟩⟩
    ·
     rw [if_neg c30] at H
     have c30b0 : (((rd_T34 t511 x9_1).f1).toList == (strOfNums y515).toList) = false := beq_eq_false_iff_ne.mpr c30
     have c30b1 : (((rd_T34 t511 x9_1).f1).toList != (strOfNums y515).toList) = true := bne_iff_ne.mpr c30
     have H' := Aside0.mk H
     clear H
     have hcz34_0 : wr.cell? ⟨gb514, 0, none⟩ = some (.slice Ao21 t508.length co21) := (blk_cell BK514.out 0).trans rfl
     have hcz34_1 : wr.cell? ⟨gb514, 1, none⟩ = some (.slice Ao23 t511.length co23) := (blk_cell BK514.out 1).trans rfl
     have hfz34_0 := blk_frozen BK514.out 0
     have hfz34_1 := blk_frozen BK514.out 1
     have p518 : 0 ≤ (x9_1 : Int) := of_decide_eq_true as_
     have q518 : x9_1 < (t511.length : Int) := of_decide_eq_true as_
     obtain ⟨ad518, e518, hx518_0, hx518_1, hx518_2, hx518_3, hx518_4, hx518_5⟩ := at_T34 (Kd.R_reads' HO_515001.out).2.2 x9_1 p518 q518
     cases e518
     replace p518 := eq_true p518
     replace q518 := eq_true q518
     go_wp2
     go_roundg k1
     case measure => have := HK1.out; omega
     case rel => exact ⟨(x8_1), (wrap64 (x9_1 + 1)), ok_, ok_, H', ⟨by have := HK1.out; omega⟩, ⟨by (with_reducible repeat (first | apply Kd.R_alloc | apply Kd.R_drewN | apply Kd.R_drew)); exact HO_515000.out⟩, ⟨by (with_reducible repeat (first | apply Kd.R_alloc | apply Kd.R_drewN | apply Kd.R_drew)); exact HO_515001.out⟩, ⟨by (with_reducible repeat (first | refine blk_drewN ?_ _ | refine blk_drew ?_ | refine blk_alloc ?_ _)); exact BK514.out⟩, ⟨by repeat (first | (with_reducible first | exact HB.out | apply below_alloc | apply pw_below_drewN | apply below_drew1 | refine below_set ?_ GE514.out) | exact HB.out)⟩⟩
   ·
    rw [if_neg c28] at H
    have c28b0 : decide (x9_1 < (t511.length : Int)) = false := decide_eq_false c28
    clear c28
    replace H := Option.bind_eq_some_iff.mp H
    obtain ⟨t521, A350, H⟩ := H
    replace H : (if t521 = x8_1 then ((deaddropref7_Join.f k1 t508 t511 t508 t511).bind fun bt522 => ((read_Count.f k1 bt522.1 bt522.2 (strOfNums y515)).bind fun t528 => (if t528 = x8_1 then ((deaddroplaw10_awake.f k1).bind fun t529 => (some t529)) else (none)))) else (none)) = some r := H
    have A35 := Aside0.mk A350
    clear A350
    by_cases c36 : t521 = x8_1
    rotate_left
    ·
     rw [if_neg c36] at H
     exact absurd H (by simp)
    rw [if_pos c36] at H
    have c36b0 : (t521 == x8_1) = true := beq_iff_eq.mpr c36
    have c36b1 : (t521 != x8_1) = false := bne_eq_false_iff_eq.mpr c36
    clear c36
    replace H := Option.bind_eq_some_iff.mp H
    obtain ⟨⟨t522, t525⟩, A370, H⟩ := H
    replace H : ((read_Count.f k1 t522 t525 (strOfNums y515)).bind fun t528 => (if t528 = x8_1 then ((deaddroplaw10_awake.f k1).bind fun t529 => (some t529)) else (none))) = some r := H
    have A37 := Aside0.mk A370
    clear A370
    replace H := Option.bind_eq_some_iff.mp H
    obtain ⟨t528, A380, H⟩ := H
    replace H : (if t528 = x8_1 then ((deaddroplaw10_awake.f k1).bind fun t529 => (some t529)) else (none)) = some r := H
    have A38 := Aside0.mk A380
    clear A380
    by_cases c39 : t528 = x8_1
    rotate_left
    ·
     rw [if_neg c39] at H
     exact absurd H (by simp)
    rw [if_pos c39] at H
    have c39b0 : (t528 == x8_1) = true := beq_iff_eq.mpr c39
    have c39b1 : (t528 != x8_1) = false := bne_eq_false_iff_eq.mpr c39
    clear c39
    replace H := Option.bind_eq_some_iff.mp H
    obtain ⟨t529, A400, H⟩ := H
    replace H : (some t529) = some r := H
    have A40 := Aside0.mk A400
    clear A400
    obtain rfl := Option.some.inj H
    have hcz41_0 : wr.cell? ⟨gb514, 0, none⟩ = some (.slice Ao21 t508.length co21) := (blk_cell BK514.out 0).trans rfl
    have hcz41_1 : wr.cell? ⟨gb514, 1, none⟩ = some (.slice Ao23 t511.length co23) := (blk_cell BK514.out 1).trans rfl
    have hfz41_0 := blk_frozen BK514.out 0
    have hfz41_1 := blk_frozen BK514.out 1
    go_wp2_with (first | ((with_reducible refine gate_callee (f := 10) rfl ?_); refine goesL_ (some 61) rfl rfl Try.func10 (by kernel_rfl) rfl #[.agg #[.slice Ao21 t508.length co21, .slice Ao23 t511.length co23], .string (strOfNums y515)] rfl ar_ ?_; (with_reducible refine (read_Count.calls k1 _ _ t508 _ _ t511 (strOfNums y515) t521 _ ?side1 ?side2 ?side3 ?side4 A35.out).mono ?_); (case side1 => exact cr (Kd.R_reads' HO_515000.out).2.2); (case side2 => exact (Kd.R_reads' HO_515000.out).2.1); (case side3 => exact cr (Kd.R_reads' HO_515001.out).2.2); (case side4 => exact (Kd.R_reads' HO_515001.out).2.1); rintro e w42 ⟨rfl, hb⟩; refine ⟨_, rfl, ?_⟩; replace HO_515000 := Aside0.mk (Kd.R_below (rk HO_515000.out) hb); replace HO_515001 := Aside0.mk (Kd.R_below (rk HO_515001.out) hb); replace BK514 := Aside0.mk (blk_below (g := gb514) (o := .cells #[.slice Ao21 t508.length co21, .slice Ao23 t511.length co23] 28 (0, 0)) (bk BK514.out) hb); replace HB := Aside0.mk (below_step (bw1 HB.out GE514.out) hb); (try clear hb); (try clear hb2); (try clear hk); (try clear hi); have hcz43_0 : w42.cell? ⟨gb514, 0, none⟩ = some (.slice Ao21 t508.length co21) := (blk_cell BK514.out 0).trans rfl; have hcz43_1 : w42.cell? ⟨gb514, 1, none⟩ = some (.slice Ao23 t511.length co23) := (blk_cell BK514.out 1).trans rfl; have hfz43_0 := blk_frozen BK514.out 0; have hfz43_1 := blk_frozen BK514.out 1) | (go_at_call 8; (with_reducible refine (deaddropref7_Join.calls k1 _ _ t508 _ _ t511 _ _ t508 _ _ t511 t522 t525 _ ?side1 ?side2 ?side3 ?side4 ?side5 ?side6 ?side7 ?side8 A37.out).mono ?_); (case side1 => exact cr (Kd.R_reads' HO_515000.out).2.2); (case side2 => exact (Kd.R_reads' HO_515000.out).2.1); (case side3 => exact cr (Kd.R_reads' HO_515001.out).2.2); (case side4 => exact (Kd.R_reads' HO_515001.out).2.1); (case side5 => exact cr (Kd.R_reads' HO_515000.out).2.2); (case side6 => exact (Kd.R_reads' HO_515000.out).2.1); (case side7 => exact cr (Kd.R_reads' HO_515001.out).2.2); (case side8 => exact (Kd.R_reads' HO_515001.out).2.1); rintro e w44 ⟨v523, v526, rfl, ho0, ho1, hb⟩; have HO524 := Aside0.mk (Kd.R_lower (Kd.R_new' ho0 (Kd.R_lt (rk HO_515000.out))) (below_size (bw1 HB.out GE514.out))); replace HO_515000 := Aside0.mk (Kd.R_elder' (rk HO_515000.out) (Kd.R_base ho0) hb); have HO527 := Aside0.mk (Kd.R_lower (Kd.R_new' ho1 (Kd.R_lt (rk HO_515001.out))) (below_size (bw1 HB.out GE514.out))); replace HO_515001 := Aside0.mk (Kd.R_elder' (rk HO_515001.out) (Kd.R_base ho1) hb); replace BK514 := Aside0.mk (blk_below (g := gb514) (o := .cells #[.slice Ao21 t508.length co21, .slice Ao23 t511.length co23] 28 (0, 0)) (bk BK514.out) hb); replace HB := Aside0.mk (below_step (bw1 HB.out GE514.out) hb); (try clear hb); (try clear hb2); (try clear hk); (try clear hi); (try clear ho0); (try clear ho1); obtain ⟨Ao45, co45, eo45⟩ := Kd.R_slice HO524.out; subst eo45; obtain ⟨Ao46, co46, eo46⟩ := Kd.R_slice HO527.out; subst eo46) | (go_at_call 10; (with_reducible refine (read_Count.calls k1 _ _ t522 _ _ t525 (strOfNums y515) t528 _ ?side1 ?side2 ?side3 ?side4 A38.out).mono ?_); (case side1 => exact cr (Kd.R_reads' HO524.out).2.2); (case side2 => exact (Kd.R_reads' HO524.out).2.1); (case side3 => exact cr (Kd.R_reads' HO527.out).2.2); (case side4 => exact (Kd.R_reads' HO527.out).2.1); rintro e w47 ⟨rfl, hb⟩; replace HO_515000 := Aside0.mk (Kd.R_below (rk HO_515000.out) hb); replace HO_515001 := Aside0.mk (Kd.R_below (rk HO_515001.out) hb); replace HO524 := Aside0.mk (Kd.R_below (rk HO524.out) hb); replace HO527 := Aside0.mk (Kd.R_below (rk HO527.out) hb); replace BK514 := Aside0.mk (blk_below (g := gb514) (o := .cells #[.slice Ao21 t508.length co21, .slice Ao23 t511.length co23] 28 (0, 0)) (bk BK514.out) hb); replace HB := Aside0.mk (below_step (bw1 HB.out GE514.out) hb); (try clear hb); (try clear hb2); (try clear hk); (try clear hi)) | (go_at_call 11; (with_reducible refine (deaddroplaw10_awake.calls k1  t529 _ A40.out).mono ?_); rintro e w48 ⟨rfl, hb⟩; replace HO_515000 := Aside0.mk (Kd.R_below (rk HO_515000.out) hb); replace HO_515001 := Aside0.mk (Kd.R_below (rk HO_515001.out) hb); replace HO524 := Aside0.mk (Kd.R_below (rk HO524.out) hb); replace HO527 := Aside0.mk (Kd.R_below (rk HO527.out) hb); replace BK514 := Aside0.mk (blk_below (g := gb514) (o := .cells #[.slice Ao21 t508.length co21, .slice Ao23 t511.length co23] 28 (0, 0)) (bk BK514.out) hb); replace HB := Aside0.mk (below_step (bw1 HB.out GE514.out) hb); (try clear hb); (try clear hb2); (try clear hk); (try clear hi)))
    go_ret
    exact ⟨by first | rfl | (simp [errW_none, errW_some] <;> rfl) | (simp [*, errW_none, errW_some] <;> rfl), by repeat (first | (with_reducible first | exact HB.out | apply below_alloc | apply pw_below_drewN | apply below_drew1 | refine below_set ?_ GE514.out) | exact HB.out)⟩
/-- THE ONE PURE STATEMENT of deaddroplaw10_ReadSum: yours. -/
def deaddroplaw10_ReadSum.Pure : Prop := ∀ (l0 : List Int) (a1 : Int), l0.length ≤ maxLen → l0.length * 1 ≤ 140737488351232 → (∀ x ∈ l0, (Lit.int .u8 x).wf = true) → (Lit.int .u8 a1).wf = true → ∃ k, deaddroplaw10_ReadSum.f k l0 a1 = some true
theorem deaddroplaw10_ReadSum.walk (P : deaddroplaw10_ReadSum.Pure) (a0 : Option Addr) (len0 cap0 : Nat) (z0 : List Int) (a1 : Int) (w : World) (w0 : (a0 = none ∧ len0 = 0 ∧ cap0 = 0 ∧ z0 = []) ∨ ∃ x, a0 = some x ∧ len0 ≤ cap0 ∧ cap0 ≤ maxLen ∧ z0.length = cap0 ∧ (∀ i, i < z0.length → w.cell? (x.add i) = some (.int .u8 (z0.getD i 0))) ∧ ∀ n ∈ z0, (Lit.int .u8 n).wf = true) (y0 : len0 * 1 ≤ 140737488351232) (w1 : (Lit.int .u8 a1).wf = true) :
 Calls Try.prog 3 #[.slice a0 len0 cap0, .int .u8 a1] w fun e w' => e = .returned (.bool true) ∧ Below w.heap.size w w' := by
 obtain ⟨l0, rfl, hr0, hm0, hw0, hc0⟩ := ReadsInt.ofRowC w0
 obtain ⟨k, h⟩ := P l0 a1 hm0 y0 hw0 w1
 refine (deaddroplaw10_ReadSum.calls k _ _ l0 a1 true w (Kd.C_of_reads (d := (0 : Int)) (h1 := fun _ => rfl) hr0) hc0 h).mono ?_
 rintro e w' ⟨rfl, hd⟩
 exact ⟨rfl, hd⟩

end Go.Proofs.Ytaonemedoikieaa.P
