-- Written by a program of this work (wip/tools/mkprint.py) over the kit's print; Lean checks it.
import Derived.Test.YtaonemedoikieaaMx0
import Derived.Test.YtaonemedoikieaaMx4
import Derived.Test.YtaonemedoikieaaMx6
import Derived.Test.YtaonemedoikieaaHAbb2
namespace Go.Proofs.Ytaonemedoikieaa.M
open Go.RowKit Go.Proofs.YtaonemedoikieaaW.PrintWords Go.Proofs.YtaonemedoikieaaW.PrintLast Go.Proofs.YtaonemedoikieaaW.PrintMore Go.Proofs.Ytaonemedoikieaa.AB
attribute [local go_sem] max2_int min2_int max_two min_two max_three min_three max_four min_four   -- for this text's walks alone
set_option linter.unusedVariables false
set_option linter.unusedSimpArgs false

/-! ### deaddropref7_Of: function 31 -/
def deaddropref7_Of.l0 : Nat → List (S32) → List (S70) → Int → Option ((List (S70)))
 | 0, _, _, _ => none
 | k + 1, x0, x3, x4 => if x4 < (x0.length : Int) then (if 0 ≤ x4 then ((some (([(⟨(rd_T32 x0 x4).f0, (rd_T32 x0 x4).f1, (rd_T32 x0 x4).f1⟩ : S70)] : List (S70)) : List (S70))).bind fun y239 => ((deaddropref7_MayRuns.f k y239).bind fun t242 => (if t242 = true then ((deaddropref7_Union.f k x3 y239).bind fun t243 => (deaddropref7_Of.l0 k x0 t243 (wrap64 (x4 + 1)))) else (none)))) else (none)) else (some x3)
def deaddropref7_Of.f (k : Nat) (l0 : List (S32)) : Option ((List (S70))) := deaddropref7_Of.l0 k l0 ([] : List (S70)) 0
theorem deaddropref7_Of.mono_l : ∀ k, (∀ y0 y1 y2, LeO (deaddropref7_Of.l0 k y0 y1 y2) (deaddropref7_Of.l0 (k + 1) y0 y1 y2))
 | 0 => fun _ _ _ r h => by simp [deaddropref7_Of.l0] at h
 | k + 1 => by
  have ih0 := deaddropref7_Of.mono_l k
  ·
   intro y0 y1 y2
   unfold deaddropref7_Of.l0
   repeat' first
   | with_reducible (first | exact ih0 _ _ _ | exact deaddropref7_MayRuns.mono _ _ | exact deaddropref7_Union.mono _ _ _ | exact LeO.refl _ | exact LeO.none _ | refine LeO.ite ?_ ?_ | refine LeO.bind ?_ (fun _ => ?_))
   | exact ih0 _ _ _ | exact deaddropref7_MayRuns.mono _ _ | exact deaddropref7_Union.mono _ _ _ | exact LeO.none _ | refine LeO.ite ?_ ?_ | refine LeO.bind ?_ (fun _ => ?_)
theorem deaddropref7_Of.mono : ∀ a0 k, LeO (deaddropref7_Of.f k a0) (deaddropref7_Of.f (k + 1) a0) := by
 intro a0 k
 have ih0 := deaddropref7_Of.mono_l k
 unfold deaddropref7_Of.f
 repeat' first
  | with_reducible (first | exact ih0 _ _ _ | exact deaddropref7_MayRuns.mono _ _ | exact deaddropref7_Union.mono _ _ _ | exact LeO.refl _ | exact LeO.none _ | refine LeO.ite ?_ ?_ | refine LeO.bind ?_ (fun _ => ?_))
  | exact ih0 _ _ _ | exact deaddropref7_MayRuns.mono _ _ | exact deaddropref7_Union.mono _ _ _ | exact LeO.none _ | refine LeO.ite ?_ ?_ | refine LeO.bind ?_ (fun _ => ?_)
def deaddropref7_Of.T5 : Bool × List (List Nat × List Nat) := (true, [([], []), ([], []), ([0, 1], [0, 1]), ([2], [2]), ([3], [3]), ([], []), ([], []), ([5, 6], [5, 6]), ([7], [7]), ([8], [8]), ([], []), ([], []), ([10, 11], [10, 11]), ([12], [12]), ([13], [13]), ([4, 9, 14], [4, 9, 14]), ([15], [15]), ([16, 0, 1, 2, 3, 4, 5, 6, 7, 8, 9, 10, 11, 12, 13, 14, 15, 16], [16])])
def deaddropref7_Of.B5 : List Nat := [0, 0, 3, 7, 15, 0, 0, 96, 224, 480, 0, 0, 3072, 7168, 15360, 32767, 65535, 131071]
theorem deaddropref7_Of.tab5 : rtab .any (opsOf Try.f31 5) = deaddropref7_Of.T5 := by kernel_rfl
theorem deaddropref7_Of.bits5 : waitsOk deaddropref7_Of.T5.2 deaddropref7_Of.B5 = true := by kernel_rfl
set_option maxHeartbeats 8000000 in
set_option maxRecDepth 100000 in
theorem deaddropref7_Of.calls (k : Nat) (A0 : Option Addr) (c0 : Nat) (l0 : List (S32)) (r : List (S70)) (w : World) (hr0 : Kd.C k32 w A0 l0.length l0) (hc0 : l0.length ≤ c0) (h : deaddropref7_Of.f k l0 = some r) :
 Calls Try.prog 31 #[.slice A0 l0.length c0] w fun e w' => ∃ v0_ : Value, e = .returned (v0_) ∧ Kd.R k70 70 w' w.heap.size (fun _ => True) v0_ r ∧ Below w.heap.size w w' := by
 have hu70 := Try.underlying70
 have HR0 := Aside0.mk hr0
 have HC0 := Aside0.mk hc0
 clear hr0 hc0
 have HB := Aside0.mk (Below.refl w.heap.size w)
 have H : (deaddropref7_Of.l0 k l0 ([] : List (S70)) 0) = some r := h
 clear h
 have H' := Aside0.mk H
 clear H
 go_enter Try.func31, Try.ntmps31
 go_wp2
 go_loopg [3, 4] k (fun kq v3 v4 w' => ∃ (x3_1 : List (S70)) (x4_1 : Int), v4 = .int .i64 x4_1 ∧ Aside0 (deaddropref7_Of.l0 kq l0 x3_1 x4_1 = some r) ∧ Aside0 (kq ≤ k) ∧ Aside0 (Kd.R k70 70 w' w.heap.size (fun _ => True) v3 x3_1) ∧ Aside0 (Below w.heap.size w w'))
 case atStart => exact ⟨(([] : List (S70))), (0), ok_, H', ⟨Nat.le_refl _⟩, ⟨by first | exact Kd.R_nil _ _ _ _ _ | exact Kd.N_nil _ _ _ _ _ | exact Kd.V_nil _ _ _ _ _ | exact Kd.Q_nil _ _ _ _ _ | exact Kd.S_nil _ _ _ _ _⟩, ⟨bw HB.out⟩⟩
 case round =>
  clear H'
  obtain ⟨x3_1, x4_1, rfl, HA, HK1, HO_3, HB⟩ := hrel
  cases gk with
  | zero => exact absurd HA.out (by simp [deaddropref7_Of.l0])
  | succ k1 =>
   have H := HA.out
   clear HA
   simp only [deaddropref7_Of.l0] at H
   by_cases c2 : x4_1 < (l0.length : Int)
   ·
    rw [if_pos c2] at H
    have c2b0 : decide (x4_1 < (l0.length : Int)) = true := decide_eq_true c2
    clear c2
    by_cases c3 : 0 ≤ x4_1
    rotate_left
    ·
     rw [if_neg c3] at H
     exact absurd H (by simp)
    rw [if_pos c3] at H
    have c3b0 : decide (0 ≤ x4_1) = true := decide_eq_true c3
    clear c3
    obtain ⟨y239, hy239⟩ : ∃ y_ : List (S70), y_ = (([(⟨(rd_T32 l0 x4_1).f0, (rd_T32 l0 x4_1).f1, (rd_T32 l0 x4_1).f1⟩ : S70)] : List (S70))) := ⟨_, rfl⟩
    replace H : ((deaddropref7_MayRuns.f k1 y239).bind fun t242 => (if t242 = true then ((deaddropref7_Union.f k1 x3_1 y239).bind fun t243 => (deaddropref7_Of.l0 k1 l0 t243 (wrap64 (x4_1 + 1)))) else (none))) = some r := by first | (rw [hy239]; with_reducible exact H) | (have H2_ := (Option.bind_some _ _).symm.trans H; rw [hy239]; with_reducible exact H2_) | (have H2_ := (Option.bind_some _ _).symm.trans H; with_reducible exact H2_) | with_reducible exact H | (rw [hy239]; exact H) | exact H
    have Ny239 := Aside0.mk hy239
    clear hy239
    replace H := Option.bind_eq_some_iff.mp H
    obtain ⟨t242, A40, H⟩ := H
    replace H : (if t242 = true then ((deaddropref7_Union.f k1 x3_1 y239).bind fun t243 => (deaddropref7_Of.l0 k1 l0 t243 (wrap64 (x4_1 + 1)))) else (none)) = some r := H
    have A4 := Aside0.mk A40
    clear A40
    by_cases c5 : t242 = true
    rotate_left
    ·
     replace c5 := Bool.eq_false_iff.mpr c5
     subst c5
     have H1 : (none) = some r := by rw [if_neg (show ¬ (false = true) by decide)] at H; exact H
     clear H
     have H := H1
     clear H1
     exact absurd H (by simp)
    subst c5
    have H1 : ((deaddropref7_Union.f k1 x3_1 y239).bind fun t243 => (deaddropref7_Of.l0 k1 l0 t243 (wrap64 (x4_1 + 1)))) = some r := by rw [if_pos rfl] at H; exact H
    clear H
    have H := H1
    clear H1
    replace H := Option.bind_eq_some_iff.mp H
    obtain ⟨t243, A60, H⟩ := H
    replace H : (deaddropref7_Of.l0 k1 l0 t243 (wrap64 (x4_1 + 1))) = some r := H
    have A6 := Aside0.mk A60
    clear A60
    have H' := Aside0.mk H
    clear H
    try go_wp2
    replace HO_3 := Aside0.mk (Kd.R_drew HO_3.out)
    replace HB := Aside0.mk (below_drew1 HB.out)
    have p236 : 0 ≤ (x4_1 : Int) := of_decide_eq_true as_
    have q236 : x4_1 < (l0.length : Int) := of_decide_eq_true as_
    obtain ⟨ad236, e236, hx236_0, hx236_1⟩ := at_T32 HR0.out x4_1 p236 q236
    have hw236_1 := hx236_1
    have hw236_0 := hx236_0
    cases e236
    replace hx236_0 := (HB.out.cell (World.block_lt_of_cell? w _ hx236_0)).trans hx236_0
    replace hx236_1 := (HB.out.cell (World.block_lt_of_cell? w _ hx236_1)).trans hx236_1
    replace p236 := eq_true p236
    replace q236 := eq_true q236
    have p237 : 0 ≤ (x4_1 : Int) := of_decide_eq_true as_
    have q237 : x4_1 < (l0.length : Int) := of_decide_eq_true as_
    obtain ⟨ad237, e237, hx237_0, hx237_1⟩ := at_T32 HR0.out x4_1 p237 q237
    have hw237_1 := hx237_1
    have hw237_0 := hx237_0
    obtain rfl : ad236 = ad237 := (by injection e237)
    replace hx237_0 := (HB.out.cell (World.block_lt_of_cell? w _ hx237_0)).trans hx237_0
    replace hx237_1 := (HB.out.cell (World.block_lt_of_cell? w _ hx237_1)).trans hx237_1
    replace p237 := eq_true p237
    replace q237 := eq_true q237
    have p238 : 0 ≤ (x4_1 : Int) := of_decide_eq_true as_
    have q238 : x4_1 < (l0.length : Int) := of_decide_eq_true as_
    obtain ⟨ad238, e238, hx238_0, hx238_1⟩ := at_T32 HR0.out x4_1 p238 q238
    have hw238_1 := hx238_1
    have hw238_0 := hx238_0
    obtain rfl : ad236 = ad238 := (by injection e238)
    replace hx238_0 := (HB.out.cell (World.block_lt_of_cell? w _ hx238_0)).trans hx238_0
    replace hx238_1 := (HB.out.cell (World.block_lt_of_cell? w _ hx238_1)).trans hx238_1
    replace p238 := eq_true p238
    replace q238 := eq_true q238
    refine start_ (n := 18) (S := fun w' => w'.cell? (ad236.add ((x4_1).toNat * 2)) = some (.int .i64 ((rd_T32 l0 x4_1).f0)) ∧ w'.cell? ⟨(ad236.add ((x4_1).toNat * 2)).block, (ad236.add ((x4_1).toNat * 2)).off + 1, none⟩ = some (.int .i64 ((rd_T32 l0 x4_1).f1)) ∧ w'.cell? (ad236.add ((x4_1).toNat * 2)) = some (.int .i64 ((rd_T32 l0 x4_1).f0)) ∧ w'.cell? ⟨(ad236.add ((x4_1).toNat * 2)).block, (ad236.add ((x4_1).toNat * 2)).off + 1, none⟩ = some (.int .i64 ((rd_T32 l0 x4_1).f1)) ∧ w'.cell? (ad236.add ((x4_1).toNat * 2)) = some (.int .i64 ((rd_T32 l0 x4_1).f0)) ∧ w'.cell? ⟨(ad236.add ((x4_1).toNat * 2)).block, (ad236.add ((x4_1).toNat * 2)).off + 1, none⟩ = some (.int .i64 ((rd_T32 l0 x4_1).f1))) (ds := []) (fl 0 18) (by kernel_rfl) rfl rfl ⟨(bc HB.out hw236_0), (bc HB.out hw236_1), (bc HB.out hw237_0), (bc HB.out hw237_1), (bc HB.out hw238_0), (bc HB.out hw238_1)⟩ (fun hHeld => ?_); refine with_tabW deaddropref7_Of.tab5 deaddropref7_Of.bits5 (fun HT_ HW_ => ?_)
    generalize wr.drew = w7 at HO_3 HB hx236_0 hx236_1 hx237_0 hx237_1 hx238_0 hx238_1 hHeld ⊢
    refine pure_ (i := 0) (N := some 12) (fl 1 18) rfl rfl (any_of HT_.out (by kernel_rfl)) (fun _ _ _ h => h) (Or.inl ⟨by rfl, py⟩) pa ?_
    refine pure_ (i := 1) (N := some 13) (fl 2 18) rfl rfl (any_of HT_.out (by kernel_rfl)) (fun _ _ _ h => h) (Or.inl ⟨by rfl, py⟩) pa ?_
    refine pure_ (i := 2) (N := some 14) (fl 3 18) rfl rfl (any_of HT_.out (by kernel_rfl)) (fun _ _ _ h => h) (Or.inl ⟨by rfl, py⟩) pa ?_
    refine pure_ (i := 3) (N := some 15) (fl 4 18) rfl rfl (any_of HT_.out (by kernel_rfl)) (fun _ _ _ h => h) (Or.inl ⟨by rfl, py⟩) pa ?_
    refine pure_ (i := 5) (N := some 17) #[true, true, true, true, false, true, false, false, false, false, false, false, false, false, false, false, false, false] rfl rfl (any_of HT_.out (by kernel_rfl)) (fun _ _ _ h => h) (Or.inl ⟨by rfl, py⟩) pa ?_
    refine pure_ (i := 6) (N := some 18) #[true, true, true, true, false, true, true, false, false, false, false, false, false, false, false, false, false, false] rfl rfl (any_of HT_.out (by kernel_rfl)) (fun _ _ _ h => h) (Or.inl ⟨by rfl, py⟩) pa ?_
    refine pure_ (i := 7) (N := some 19) #[true, true, true, true, false, true, true, true, false, false, false, false, false, false, false, false, false, false] rfl rfl (any_of HT_.out (by kernel_rfl)) (fun _ _ _ h => h) (Or.inl ⟨by rfl, py⟩) pa ?_
    refine pure_ (i := 8) (N := some 20) #[true, true, true, true, false, true, true, true, true, false, false, false, false, false, false, false, false, false] rfl rfl (any_of HT_.out (by kernel_rfl)) (fun _ _ _ h => h) (Or.inl ⟨by rfl, py⟩) pa ?_
    refine pure_ (i := 10) (N := some 22) #[true, true, true, true, false, true, true, true, true, false, true, false, false, false, false, false, false, false] rfl rfl (any_of HT_.out (by kernel_rfl)) (fun _ _ _ h => h) (Or.inl ⟨by rfl, py⟩) pa ?_
    refine pure_ (i := 11) (N := some 23) #[true, true, true, true, false, true, true, true, true, false, true, true, false, false, false, false, false, false] rfl rfl (any_of HT_.out (by kernel_rfl)) (fun _ _ _ h => h) (Or.inl ⟨by rfl, py⟩) pa ?_
    refine pure_ (i := 12) (N := some 24) #[true, true, true, true, false, true, true, true, true, false, true, true, true, false, false, false, false, false] rfl rfl (any_of HT_.out (by kernel_rfl)) (fun _ _ _ h => h) (Or.inl ⟨by rfl, py⟩) pa ?_
    refine pure_ (i := 13) (N := some 25) #[true, true, true, true, false, true, true, true, true, false, true, true, true, true, false, false, false, false] rfl rfl (any_of HT_.out (by kernel_rfl)) (fun _ _ _ h => h) (Or.inl ⟨by rfl, py⟩) pa ?_
    refine take_ (i := 4) (N := some 16) #[true, true, true, true, true, true, true, true, true, false, true, true, true, true, false, false, false, false] rfl rfl (take_ofW HT_.out HW_.out (by kernel_rfl)) (fun _ _ _ h => h) (Or.inl ⟨by rfl, tk⟩) hHeld pa ?_
    refine take_ (i := 9) (N := some 21) (fl 14 18) rfl rfl (take_ofW HT_.out HW_.out (by kernel_rfl)) (fun _ _ _ h => h) (Or.inl ⟨by rfl, tk⟩) hHeld pa ?_
    refine take_ (i := 14) (N := some 26) (fl 15 18) rfl rfl (take_ofW HT_.out HW_.out (by kernel_rfl)) (fun _ _ _ h => h) (Or.inl ⟨by rfl, tk⟩) hHeld pa ?_
    refine pure_ (i := 15) (N := some 27) (fl 16 18) rfl rfl (any_of HT_.out (by kernel_rfl)) (fun _ _ _ h => h) (Or.inl ⟨by rfl, py⟩) pa ?_
    refine one_ (i := 16) (N := some 28) (fl 17 18) rfl rfl (one_of HT_.out (by kernel_rfl)) (by decide) (fun K hK => ?_)
    refine Kd.R_lit_step k70 _ 70 ?hg (N := 28) ?hd (xs := ([(⟨(rd_T32 l0 x4_1).f0, (rd_T32 l0 x4_1).f1, (rd_T32 l0 x4_1).f1⟩ : S70)] : List (S70))) (inner := [.int .i64 ((rd_T32 l0 x4_1).f0), .int .i64 ((rd_T32 l0 x4_1).f1), .int .i64 ((rd_T32 l0 x4_1).f1)]) (ok := fun _ => True) (okp := fun _ => True) ?hr ?hp (fun _ hk => hk) trivial (Below.refl _ _) (Nat.le_refl _) (by simp) ?_; (case hd => rfl); (case hg => rfl); (case hr => first | (go_simp; done) | (go_simp; rfl)); (case hp => exact (Reps.c3 (show Kd.M k70 _ _ _ (⟨(rd_T32 l0 x4_1).f0, (rd_T32 l0 x4_1).f1, (rd_T32 l0 x4_1).f1⟩ : S70) [.int .i64 ((rd_T32 l0 x4_1).f0), .int .i64 ((rd_T32 l0 x4_1).f1), .int .i64 ((rd_T32 l0 x4_1).f1)] from (k70_mkM _ _ _ (⟨(rd_T32 l0 x4_1).f0, (rd_T32 l0 x4_1).f1, (rd_T32 l0 x4_1).f1⟩ : S70) )) (Reps.none _ _)))
    intro v240 w8 ho9 hb hg_ hnew_
    clear hg_ hnew_
    (first | rw [← Ny239.out] at ho9 | (simp only [Int.reduceToNat] at ho9; rw [← Ny239.out] at ho9))
    have HO241 := Aside0.mk (Kd.R_lower (Kd.R_new' ho9 (Kd.R_lt (rk HO_3.out))) (below_size (bw HB.out)))
    replace HO_3 := Aside0.mk (Kd.R_elder' (rk HO_3.out) (Kd.R_base ho9) hb)
    replace HB := Aside0.mk (below_step (bw HB.out) hb)
    clear hb ho9
    refine hK.out _ _ ⟨(bc HB.out hw236_0), (bc HB.out hw236_1), (bc HB.out hw237_0), (bc HB.out hw237_1), (bc HB.out hw238_0), (bc HB.out hw238_1)⟩ (fun hHeld => ?_)
    clear hK K
    refine norm_ (a' := ?_) ?_ ?_
    rotate_left
    ·
     show Act.put _ (some 28) _ = _
     simp only [Act.put, List.setIfInBounds_toArray, List.set_cons_zero, List.set_cons_succ, i64_w, i32_w]
     rfl
    refine pure_ (i := 17) (N := some 5) (fl 18 18) rfl rfl (any_of HT_.out (by kernel_rfl)) (fun _ _ _ h => h) (Or.inl ⟨by rfl, py⟩) pa ?_
    refine done_ (done_of HT_.out (by kernel_rfl)) ?_
    obtain ⟨Ao10, co10, eo10⟩ := Kd.R_slice HO241.out
    subst eo10
    try go_wp2_with (first | ((with_reducible refine gate_callee (f := 33) rfl ?_); refine goesL_ (some 30) rfl rfl Try.func33 (by kernel_rfl) rfl #[.slice Ao10 y239.length co10] rfl ar_ ?_; (with_reducible refine (deaddropref7_MayRuns.calls k1 _ _ y239 true _ ?side1 ?side2 A4.out).mono ?_); (case side1 => exact cr (Kd.R_reads' HO241.out).2.2); (case side2 => exact (Kd.R_reads' HO241.out).2.1); rintro e w11 ⟨rfl, hb⟩; refine ⟨_, rfl, ?_⟩; replace HO_3 := Aside0.mk (Kd.R_below (rk HO_3.out) hb); replace HO241 := Aside0.mk (Kd.R_below (rk HO241.out) hb); replace HB := Aside0.mk (below_step (bw HB.out) hb); (try clear hb); (try clear hb2); (try clear hk); (try clear hi); obtain ⟨Ao12, co12, eo12⟩ := Kd.R_slice HO_3.out; subst eo12) | ((with_reducible refine gate_callee (f := 23) rfl ?_); refine goesL_ (some 33) rfl rfl Try.func23 (by kernel_rfl) rfl #[.slice Ao12 x3_1.length co12, .slice Ao10 y239.length co10] rfl ar_ ?_; (with_reducible refine (deaddropref7_Union.calls k1 _ _ x3_1 _ _ y239 t243 _ ?side1 ?side2 ?side3 ?side4 A6.out).mono ?_); (case side1 => exact cr (Kd.R_reads' HO_3.out).2.2); (case side2 => exact (Kd.R_reads' HO_3.out).2.1); (case side3 => exact cr (Kd.R_reads' HO241.out).2.2); (case side4 => exact (Kd.R_reads' HO241.out).2.1); rintro e w13 ⟨v244, rfl, ho0, hb⟩; refine ⟨_, rfl, ?_⟩; have HO245 := Aside0.mk (Kd.R_lower (Kd.R_new' (Kd.R_new' ho0 (Kd.R_lt (rk HO_3.out))) (Kd.R_lt (rk HO241.out))) (below_size (bw HB.out))); replace HO_3 := Aside0.mk (Kd.R_elder' (rk HO_3.out) (Kd.R_base ho0) hb); replace HO241 := Aside0.mk (Kd.R_elder' (rk HO241.out) (Kd.R_base ho0) hb); replace HB := Aside0.mk (below_step (bw HB.out) hb); (try clear hb); (try clear hb2); (try clear hk); (try clear hi); (try clear ho0)))
    go_roundg k1
    case measure => have := HK1.out; omega
    case rel => exact ⟨(t243), (wrap64 (x4_1 + 1)), ok_, H', ⟨by have := HK1.out; omega⟩, ⟨by (with_reducible repeat (first | apply Kd.R_alloc | apply Kd.R_drewN | apply Kd.R_drew)); exact Kd.R_mono HO245.out (fun _ hk => trivial)⟩, ⟨bw HB.out⟩⟩
   ·
    rw [if_neg c2] at H
    have c2b0 : decide (x4_1 < (l0.length : Int)) = false := decide_eq_false c2
    clear c2
    obtain rfl := Option.some.inj H
    go_wp2
    go_ret
    exact ⟨_, by first | rfl | (simp [errW_none, errW_some] <;> rfl) | (simp [*, errW_none, errW_some] <;> rfl), rk HO_3.out, bw HB.out⟩

end Go.Proofs.Ytaonemedoikieaa.M
