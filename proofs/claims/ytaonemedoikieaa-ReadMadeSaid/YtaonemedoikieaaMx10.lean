-- Written by a program of this work (wip/tools/mkprint.py) over the kit's print; Lean checks it.
import Derived.Test.YtaonemedoikieaaMx0
import Derived.Test.YtaonemedoikieaaMx5
import Derived.Test.YtaonemedoikieaaHAbb2
namespace Go.Proofs.Ytaonemedoikieaa.M
open Go.RowKit Go.Proofs.YtaonemedoikieaaW.PrintWords Go.Proofs.YtaonemedoikieaaW.PrintLast Go.Proofs.YtaonemedoikieaaW.PrintMore Go.Proofs.Ytaonemedoikieaa.AB
attribute [local go_sem] max2_int min2_int max_two min_two max_three min_three max_four min_four   -- for this text's walks alone
set_option linter.unusedVariables false
set_option linter.unusedSimpArgs false

/-! ### deaddropref7_All: function 9 -/
def deaddropref7_All.l0 : Nat → List (S28) → Int → List (S70) → List (S34) → Option ((List (S70)) × (List (S34)))
 | 0, _, _, _, _ => none
 | k + 1, x0, x4, x314000, x314001 => if x4 < (x0.length : Int) then (if 0 ≤ x4 then ((deaddropref7_Join.f k x314000 x314001 ((rd_T28 x0 x4).f0) ((rd_T28 x0 x4).f1)).bind fun bt315 => (deaddropref7_All.l0 k x0 (wrap64 (x4 + 1)) bt315.1 bt315.2)) else (none)) else (some (x314000, x314001))
def deaddropref7_All.f (k : Nat) (l0 : List (S28)) : Option ((List (S70)) × (List (S34))) := deaddropref7_All.l0 k l0 0 ([] : List (S70)) ([] : List (S34))
theorem deaddropref7_All.mono_l : ∀ k, (∀ y0 y1 y2 y3, LeO (deaddropref7_All.l0 k y0 y1 y2 y3) (deaddropref7_All.l0 (k + 1) y0 y1 y2 y3))
 | 0 => fun _ _ _ _ r h => by simp [deaddropref7_All.l0] at h
 | k + 1 => by
  have ih0 := deaddropref7_All.mono_l k
  ·
   intro y0 y1 y2 y3
   unfold deaddropref7_All.l0
   repeat' first
   | with_reducible (first | exact ih0 _ _ _ _ | exact deaddropref7_Join.mono _ _ _ _ _ | exact LeO.refl _ | exact LeO.none _ | refine LeO.ite ?_ ?_ | refine LeO.bind ?_ (fun _ => ?_))
   | exact ih0 _ _ _ _ | exact deaddropref7_Join.mono _ _ _ _ _ | exact LeO.none _ | refine LeO.ite ?_ ?_ | refine LeO.bind ?_ (fun _ => ?_)
theorem deaddropref7_All.mono : ∀ a0 k, LeO (deaddropref7_All.f k a0) (deaddropref7_All.f (k + 1) a0) := by
 intro a0 k
 have ih0 := deaddropref7_All.mono_l k
 unfold deaddropref7_All.f
 repeat' first
  | with_reducible (first | exact ih0 _ _ _ _ | exact deaddropref7_Join.mono _ _ _ _ _ | exact LeO.refl _ | exact LeO.none _ | refine LeO.ite ?_ ?_ | refine LeO.bind ?_ (fun _ => ?_))
  | exact ih0 _ _ _ _ | exact deaddropref7_Join.mono _ _ _ _ _ | exact LeO.none _ | refine LeO.ite ?_ ?_ | refine LeO.bind ?_ (fun _ => ?_)
set_option maxHeartbeats 8000000 in
set_option maxRecDepth 100000 in
theorem deaddropref7_All.calls (k : Nat) (A0 : Option Addr) (c0 : Nat) (l0 : List (S28)) (r1 : List (S70)) (r2 : List (S34)) (w : World) (hr0 : Kd.C k28 w A0 l0.length l0) (hc0 : l0.length ≤ c0) (h : deaddropref7_All.f k l0 = some (r1, r2)) :
 Calls Try.prog 9 #[.slice A0 l0.length c0] w fun e w' => ∃ v0_ v1_ : Value, e = .returned (.agg #[v0_, v1_]) ∧ Kd.R k70 70 w' w.heap.size (fun _ => True) v0_ r1 ∧ Kd.R k34 34 w' w.heap.size (fun _ => True) v1_ r2 ∧ Below w.heap.size w w' := by
 have hu28 := Try.underlying28
 have HR0 := Aside0.mk hr0
 have HC0 := Aside0.mk hc0
 clear hr0 hc0
 have HB := Aside0.mk (Below.refl w.heap.size w)
 have H : (deaddropref7_All.l0 k l0 0 ([] : List (S70)) ([] : List (S34))) = some (r1, r2) := h
 clear h
 have H' := Aside0.mk H
 clear H
 go_enter Try.func9, Try.ntmps9
 go_wp2_with (first | ((with_reducible refine gate_dst (N := 2) rfl ?_); refine box_event ?hg (N := 2) ?hd (cs := #[.slice none 0 0, .slice none 0 0]) (t := 28) ?hr ?_; (case hd => rfl); (case hg => rfl); (case hr => first | (go_simp; done) | (go_simp; rfl)); intro gb312 hg w2 hbox hb; have BK312 := Aside0.mk (hbox); have GW312 := Aside0.mk ((by rw [hg]; exact (below_size (bw HB.out)) : w.heap.size ≤ gb312)); have GE312 := GW312; replace HB := Aside0.mk (below_step (bw HB.out) hb); clear hb hbox hg) | ((with_reducible refine gate_dst (N := 3) rfl ?_); refine box_event ?hg (N := 3) ?hd (cs := #[.slice none 0 0, .slice none 0 0]) (t := 28) ?hr ?_; (case hd => rfl); (case hg => rfl); (case hr => first | (go_simp; done) | (go_simp; rfl)); intro gb313 hg w3 hbox hb; have BK313 := Aside0.mk (hbox); have GW313 := Aside0.mk ((by rw [hg]; exact (below_size (bw1 HB.out GE312.out)) : w.heap.size ≤ gb313)); have GE313 := GW313; replace HB := Aside0.mk (below_step (bw1 HB.out GE312.out) hb); have NB312_313 := Aside0.mk (nbl BK312.out hg); have NB313_312 := Aside0.mk (nbg BK312.out hg); replace BK312 := Aside0.mk (bkb BK312.out hb); clear hb hbox hg))
 go_loopg [4] k (fun kq v4 w' => ∃ (x4_1 : Int) (x314000_1 : List (S70)) (x314001_1 : List (S34)) (u314000 : Value) (u314001 : Value), v4 = .int .i64 x4_1 ∧ Aside0 (deaddropref7_All.l0 kq l0 x4_1 x314000_1 x314001_1 = some (r1, r2)) ∧ Aside0 (kq ≤ k) ∧ Aside0 (Kd.R k70 70 w' w.heap.size (fun _ => True) u314000 x314000_1) ∧ Aside0 (Kd.R k34 34 w' w.heap.size (fun _ => True) u314001 x314001_1) ∧ Aside0 (w'.heap[gb312]? = some (.cells #[(.slice none 0 0), (.slice none 0 0)] 28 (0, 0))) ∧ Aside0 (w'.heap[gb313]? = some (.cells #[u314000, u314001] 28 (0, 0))) ∧ Aside0 (Below w.heap.size w w'))
 case atStart => exact ⟨(0), (([] : List (S70))), (([] : List (S34))), (.slice none 0 0), (.slice none 0 0), ok_, H', ⟨Nat.le_refl _⟩, ⟨by first | exact Kd.R_nil _ _ _ _ _ | exact Kd.N_nil _ _ _ _ _ | exact Kd.V_nil _ _ _ _ _ | exact Kd.Q_nil _ _ _ _ _ | exact Kd.S_nil _ _ _ _ _⟩, ⟨by first | exact Kd.R_nil _ _ _ _ _ | exact Kd.N_nil _ _ _ _ _ | exact Kd.V_nil _ _ _ _ _ | exact Kd.Q_nil _ _ _ _ _ | exact Kd.S_nil _ _ _ _ _⟩, ⟨bk BK312.out⟩, ⟨bk BK313.out⟩, ⟨bw2 HB.out GE312.out GE313.out⟩⟩
 case round =>
  clear H'
  obtain ⟨x4_1, x314000_1, x314001_1, u314000, u314001, rfl, HA, HK1, HO_314000, HO_314001, BK312, BK313, HB⟩ := hrel
  cases gk with
  | zero => exact absurd HA.out (by simp [deaddropref7_All.l0])
  | succ k1 =>
   have H := HA.out
   clear HA
   simp only [deaddropref7_All.l0] at H
   by_cases c4 : x4_1 < (l0.length : Int)
   ·
    rw [if_pos c4] at H
    have c4b0 : decide (x4_1 < (l0.length : Int)) = true := decide_eq_true c4
    clear c4
    by_cases c5 : 0 ≤ x4_1
    rotate_left
    ·
     rw [if_neg c5] at H
     exact absurd H (by simp)
    rw [if_pos c5] at H
    have c5b0 : decide (0 ≤ x4_1) = true := decide_eq_true c5
    clear c5
    replace H := Option.bind_eq_some_iff.mp H
    obtain ⟨⟨t315, t318⟩, A60, H⟩ := H
    replace H : (deaddropref7_All.l0 k1 l0 (wrap64 (x4_1 + 1)) t315 t318) = some (r1, r2) := H
    have A6 := Aside0.mk A60
    clear A60
    have H' := Aside0.mk H
    clear H
    try go_wp2
    replace HO_314000 := Aside0.mk (Kd.R_drew HO_314000.out)
    replace HO_314001 := Aside0.mk (Kd.R_drew HO_314001.out)
    replace BK312 := Aside0.mk (blk_drew BK312.out)
    replace BK313 := Aside0.mk (blk_drew BK313.out)
    replace HB := Aside0.mk (below_drew1 HB.out)
    have p314 : 0 ≤ (x4_1 : Int) := of_decide_eq_true as_
    have q314 : x4_1 < (l0.length : Int) := of_decide_eq_true as_
    obtain ⟨ad314, A314_0, c314_0, A314_1, c314_1, e314, hx314_0, hx314_1, hl314_0, hi314_0, hl314_1, hi314_1⟩ := at_T28 HR0.out x4_1 p314 q314
    have hw314_1 := hx314_1
    have hw314_0 := hx314_0
    cases e314
    replace hx314_0 := (HB.out.cell (World.block_lt_of_cell? w _ hx314_0)).trans hx314_0
    replace hx314_1 := (HB.out.cell (World.block_lt_of_cell? w _ hx314_1)).trans hx314_1
    have HR314_0 := Aside0.mk hi314_0
    have HC314_0 := Aside0.mk hl314_0
    clear hi314_0 hl314_0
    have HR314_1 := Aside0.mk hi314_1
    have HC314_1 := Aside0.mk hl314_1
    clear hi314_1 hl314_1
    replace p314 := eq_true p314
    replace q314 := eq_true q314
    obtain ⟨Ao8, co8, eo8⟩ := Kd.R_slice HO_314000.out
    (first | subst eo8 | (injection eo8 with f1_ f2_ f3_; have f4_ := f1_.symm; have f5_ := f3_.symm; clear f1_ f2_ f3_; subst f4_; subst f5_))
    obtain ⟨Ao9, co9, eo9⟩ := Kd.R_slice HO_314001.out
    (first | subst eo9 | (injection eo9 with f1_ f2_ f3_; have f4_ := f1_.symm; have f5_ := f3_.symm; clear f1_ f2_ f3_; subst f4_; subst f5_))
    refine start_ (n := 7) (S := fun w' => w'.cell? ⟨gb313, 0, none⟩ = some (.slice Ao8 x314000_1.length co8) ∧ w'.cell? ⟨gb313, 1, none⟩ = some (.slice Ao9 x314001_1.length co9) ∧ w'.cell? (ad314.add ((x4_1).toNat * 2)) = some (.slice A314_0 ((rd_T28 l0 x4_1).f0).length c314_0) ∧ w'.cell? ⟨(ad314.add ((x4_1).toNat * 2)).block, (ad314.add ((x4_1).toNat * 2)).off + 1, none⟩ = some (.slice A314_1 ((rd_T28 l0 x4_1).f1).length c314_1)) (ds := [6]) (fl 0 7) (by kernel_rfl) rfl rfl ⟨(blk_cell BK313.out 0).trans rfl, (blk_cell BK313.out 1).trans rfl, (bc HB.out hw314_0), (bc HB.out hw314_1)⟩ (fun hHeld => ?_)
    generalize wr.drew = w7 at HO_314000 HO_314001 BK312 BK313 HB HR314_0 HR314_1 hx314_0 hx314_1 hHeld ⊢
    refine pure_ (i := 1) (N := some 12) (v := ?_) (a' := ?_) #[false, true, false, false, false, false, false] rfl rfl (by kernel_rfl) (fun _ _ _ h => h) (Or.inl ⟨by rfl, ?_⟩) ?_ ?_
    rotate_left
    ·
     intro w'
     go_simp
     with_reducible rfl
    rotate_left
    ·
     simp only [Act.put, List.setIfInBounds_toArray, List.set_cons_zero, List.set_cons_succ, i64_w, i32_w]
     rfl
    refine pure_ (i := 2) (N := some 13) (v := ?_) (a' := ?_) #[false, true, true, false, false, false, false] rfl rfl (by kernel_rfl) (fun _ _ _ h => h) (Or.inl ⟨by rfl, ?_⟩) ?_ ?_
    rotate_left
    ·
     intro w'
     go_simp
     with_reducible rfl
    rotate_left
    ·
     simp only [Act.put, List.setIfInBounds_toArray, List.set_cons_zero, List.set_cons_succ, i64_w, i32_w]
     rfl
    refine pure_ (i := 3) (N := some 14) (v := ?_) (a' := ?_) #[false, true, true, true, false, false, false] rfl rfl (by kernel_rfl) (fun _ _ _ h => h) (Or.inl ⟨by rfl, ?_⟩) ?_ ?_
    rotate_left
    ·
     intro w'
     go_simp
     with_reducible rfl
    rotate_left
    ·
     simp only [Act.put, List.setIfInBounds_toArray, List.set_cons_zero, List.set_cons_succ, i64_w, i32_w]
     rfl
    refine take_ (i := 0) (N := some 11) (v := ?_) (a' := ?_) (fl 4 7) rfl rfl (by kernel_rfl) (fun _ _ _ h => h) (Or.inl ⟨by rfl, ?_⟩) hHeld ?_ ?_
    rotate_left
    ·
     rintro w' ⟨s0, s1, s2, s3⟩
     go_simp
     with_reducible rfl
    rotate_left
    ·
     simp only [Act.put, List.setIfInBounds_toArray, List.set_cons_zero, List.set_cons_succ, i64_w, i32_w]
     rfl
    refine take_ (i := 4) (N := some 15) (v := ?_) (a' := ?_) (fl 5 7) rfl rfl (by kernel_rfl) (fun _ _ _ h => h) (Or.inl ⟨by rfl, ?_⟩) hHeld ?_ ?_
    rotate_left
    ·
     rintro w' ⟨s0, s1, s2, s3⟩
     go_simp
     with_reducible rfl
    rotate_left
    ·
     simp only [Act.put, List.setIfInBounds_toArray, List.set_cons_zero, List.set_cons_succ, i64_w, i32_w]
     rfl
    refine one_ (i := 5) (N := some 16) (fl 6 7) rfl rfl (by kernel_rfl) (by decide) (fun K hK => ?_)
    refine goes_ Try.func8 (by kernel_rfl) rfl #[.agg #[.slice Ao8 x314000_1.length co8, .slice Ao9 x314001_1.length co9], .agg #[.slice A314_0 ((rd_T28 l0 x4_1).f0).length c314_0, .slice A314_1 ((rd_T28 l0 x4_1).f1).length c314_1]] (by rfl) rfl rfl ar_ ?_
    with_reducible refine (deaddropref7_Join.calls k1 _ _ x314000_1 _ _ x314001_1 _ _ ((rd_T28 l0 x4_1).f0) _ _ ((rd_T28 l0 x4_1).f1) t315 t318 _ ?side1 ?side2 ?side3 ?side4 ?side5 ?side6 ?side7 ?side8 A6.out).mono ?_
    (case side1 => exact cr (Kd.R_reads' HO_314000.out).2.2)
    (case side2 => exact (Kd.R_reads' HO_314000.out).2.1)
    (case side3 => exact cr (Kd.R_reads' HO_314001.out).2.2)
    (case side4 => exact (Kd.R_reads' HO_314001.out).2.1)
    (case side5 => exact cr (Kd.C_below HR314_0.out HB.out))
    (case side6 => exact HC314_0.out)
    (case side7 => exact cr (Kd.C_below HR314_1.out HB.out))
    (case side8 => exact HC314_1.out)
    rintro e w10 ⟨v316, v319, rfl, ho0, ho1, hb⟩
    refine ⟨_, rfl, ?_⟩
    have HO317 := Aside0.mk (Kd.R_lower (Kd.R_new' ho0 (Kd.R_lt (rk HO_314000.out))) (below_size (bw2 HB.out GE312.out GE313.out)))
    replace HO_314000 := Aside0.mk (Kd.R_elder' (rk HO_314000.out) (Kd.R_base ho0) hb)
    have HO320 := Aside0.mk (Kd.R_lower (Kd.R_new' ho1 (Kd.R_lt (rk HO_314001.out))) (below_size (bw2 HB.out GE312.out GE313.out)))
    replace HO_314001 := Aside0.mk (Kd.R_elder' (rk HO_314001.out) (Kd.R_base ho1) hb)
    replace BK312 := Aside0.mk (bkb BK312.out hb)
    replace BK313 := Aside0.mk (bkb BK313.out hb)
    replace HB := Aside0.mk (below_step (bw2 HB.out GE312.out GE313.out) hb)
    (try clear hb)
    (try clear hb2)
    (try clear hk)
    (try clear hi)
    (try clear ho0)
    (try clear ho1)
    obtain ⟨Ao11, co11, eo11⟩ := Kd.R_slice HO317.out
    (first | subst eo11 | (injection eo11 with f1_ f2_ f3_; have f4_ := f1_.symm; have f5_ := f3_.symm; clear f1_ f2_ f3_; subst f4_; subst f5_))
    obtain ⟨Ao13, co13, eo13⟩ := Kd.R_slice HO320.out
    (first | subst eo13 | (injection eo13 with f1_ f2_ f3_; have f4_ := f1_.symm; have f5_ := f3_.symm; clear f1_ f2_ f3_; subst f4_; subst f5_))
    refine hK.out _ _ ⟨(blk_cell BK313.out 0).trans rfl, (blk_cell BK313.out 1).trans rfl, (bc HB.out hw314_0), (bc HB.out hw314_1)⟩ (fun hHeld => ?_)
    clear hK K
    refine norm_ (a' := ?_) ?_ ?_
    rotate_left
    ·
     show Act.put _ (some 16) _ = _
     simp only [Act.put, List.setIfInBounds_toArray, List.set_cons_zero, List.set_cons_succ, i64_w, i32_w]
     rfl
    refine last_ (i := 6) (N := none) (fl 7 7) rfl rfl (by kernel_rfl) (by decide) (fun K hK => ?_)
    have hs12 : w10.cell? ⟨gb313, 0, none⟩ = some (.slice Ao8 x314000_1.length co8) := (blk_cell BK313.out 0).trans rfl
    have hfs12 := blk_frozen BK313.out 0
    have hns12_0 := NB312_313.out
    have hms12_0 := NB313_312.out
    have hs14 : w10.cell? ⟨gb313, 1, none⟩ = some (.slice Ao9 x314001_1.length co9) := (blk_cell BK313.out 1).trans rfl
    have hfs14 := blk_frozen BK313.out 1
    have hns14_0 := NB312_313.out
    have hms14_0 := NB313_312.out
    refine skip_ (w1 := ?_) (by rfl) rfl ?_ ?_
    rotate_left
    ·
     go_simp
     rfl
    refine hK.out _ _ ?_
    clear hK K
    refine done_ (by kernel_rfl) ?_
    try go_wp2
    go_roundg k1
    case measure => have := HK1.out; omega
    case rel => exact ⟨(wrap64 (x4_1 + 1)), (t315), (t318), (.slice Ao11 t315.length co11), (.slice Ao13 t318.length co13), ok_, H', ⟨by have := HK1.out; omega⟩, ⟨by (with_reducible repeat (first | apply Kd.R_alloc | apply Kd.R_drewN | apply Kd.R_drew)); exact Kd.R_mono (Kd.R_far (p := ⟨gb313, 1, none⟩) (Kd.R_far (p := ⟨gb313, 0, none⟩) (Kd.R_types HO317.out BK313.out (by decide)) (fun _ hk => hk.2) (.slice Ao11 t315.length co11)) (fun _ hk => hk.2) (.slice Ao13 t318.length co13)) (fun _ hk => trivial)⟩, ⟨by (with_reducible repeat (first | apply Kd.R_alloc | apply Kd.R_drewN | apply Kd.R_drew)); exact Kd.R_mono (Kd.R_far (p := ⟨gb313, 1, none⟩) (Kd.R_far (p := ⟨gb313, 0, none⟩) (Kd.R_types HO320.out BK313.out (by decide)) (fun _ hk => hk.2) (.slice Ao11 t315.length co11)) (fun _ hk => hk.2) (.slice Ao13 t318.length co13)) (fun _ hk => trivial)⟩, ⟨by (with_reducible repeat (first | refine blk_drewN ?_ _ | refine blk_drew ?_ | refine blk_alloc ?_ _)); refine blk_far ?_ NB312_313.out _; (with_reducible repeat (first | refine blk_drewN ?_ _ | refine blk_drew ?_ | refine blk_alloc ?_ _)); refine blk_far ?_ NB312_313.out _; (with_reducible repeat (first | refine blk_drewN ?_ _ | refine blk_drew ?_ | refine blk_alloc ?_ _)); exact BK312.out⟩, ⟨by (with_reducible repeat (first | refine blk_drewN ?_ _ | refine blk_drew ?_ | refine blk_alloc ?_ _)); refine blk_put (cs := #[.slice Ao11 t315.length co11, .slice Ao9 x314001_1.length co9]) ?_ 1 _ rfl; (with_reducible repeat (first | refine blk_drewN ?_ _ | refine blk_drew ?_ | refine blk_alloc ?_ _)); refine blk_put (cs := #[.slice Ao8 x314000_1.length co8, .slice Ao9 x314001_1.length co9]) ?_ 0 _ rfl; (with_reducible repeat (first | refine blk_drewN ?_ _ | refine blk_drew ?_ | refine blk_alloc ?_ _)); exact BK313.out⟩, ⟨bw2 HB.out GE312.out GE313.out⟩⟩
   ·
    rw [if_neg c4] at H
    have c4b0 : decide (x4_1 < (l0.length : Int)) = false := decide_eq_false c4
    clear c4
    simp only [Option.some.injEq, Prod.mk.injEq] at H
    obtain ⟨rfl, rfl⟩ := H
    have hnb15 := NB313_312.out
    have hnc15 := NB312_313.out
    obtain ⟨hcz16_0, hcz16_1⟩ := bx2 BK313.out
    obtain ⟨hfz16_0, hfz16_1⟩ := bf2 BK313.out
    obtain ⟨Ao17, co17, eo17⟩ := Kd.R_slice HO_314000.out
    subst eo17
    obtain ⟨hcz18_0, hcz18_1⟩ := bx2 BK312.out
    obtain ⟨hfz18_0, hfz18_1⟩ := bf2 BK312.out
    obtain ⟨Ao19, co19, eo19⟩ := Kd.R_slice HO_314001.out
    subst eo19
    go_wp2
    refine bodyPost_ret (results_cell_row rfl _ _ gb312 28 #[.slice Ao17 x314000_1.length co17, .slice Ao19 x314001_1.length co19] (0, 0) _ rfl (by (with_reducible repeat (first | refine blk_drewN ?_ _ | refine blk_drew ?_ | refine blk_alloc ?_ _)); refine blk_put (cs := #[.slice Ao17 x314000_1.length co17, .slice none 0 0]) ?_ 1 _ rfl; (with_reducible repeat (first | refine blk_drewN ?_ _ | refine blk_drew ?_ | refine blk_alloc ?_ _)); refine blk_put (cs := #[.slice none 0 0, .slice none 0 0]) ?_ 0 _ rfl; (with_reducible repeat (first | refine blk_drewN ?_ _ | refine blk_drew ?_ | refine blk_alloc ?_ _)); exact BK312.out) Try.underlying28 rfl (by kernel_rfl)) rfl ?_
    exact ⟨_, _, by first | rfl | (simp [errW_none, errW_some] <;> rfl) | (simp [*, errW_none, errW_some] <;> rfl), by (with_reducible repeat (first | apply Kd.R_alloc | apply Kd.R_drewN | apply Kd.R_drew)); exact Kd.R_mono (Kd.R_far (p := ⟨gb312, 1, none⟩) (Kd.R_far (p := ⟨gb312, 0, none⟩) (Kd.R_types HO_314000.out BK312.out (by decide)) (fun _ hk => hk.2) (.slice Ao17 x314000_1.length co17)) (fun _ hk => hk.2) (.slice Ao19 x314001_1.length co19)) (fun _ hk => trivial), by (with_reducible repeat (first | apply Kd.R_alloc | apply Kd.R_drewN | apply Kd.R_drew)); exact Kd.R_mono (Kd.R_far (p := ⟨gb312, 1, none⟩) (Kd.R_far (p := ⟨gb312, 0, none⟩) (Kd.R_types HO_314001.out BK312.out (by decide)) (fun _ hk => hk.2) (.slice Ao17 x314000_1.length co17)) (fun _ hk => hk.2) (.slice Ao19 x314001_1.length co19)) (fun _ hk => trivial), bw2 HB.out GE312.out GE313.out⟩

/-! ### facts_Find: function 27 -/
mutual
def facts_Find.l0 : Nat → ByteArray → Int → List (S34) → List (S34) → Int → Int → Option ((List (S34)))
 | 0, _, _, _, _, _, _ => none
 | k + 1, x1, x2, x7, x11, x12, x13 => if x13 < x12 then (if 0 ≤ x13 then (if x13 < (x11.length : Int) then (if ((rd_T34 x11 x13).f1).toList = x1.toList then (if x2 = 0 then (facts_Find.j1 k x1 x2 x7 x11 x12 x13 true ((rd_T34 x11 x13).f0.f0) ((rd_T34 x11 x13).f0.f1) ((rd_T34 x11 x13).f1) ((rd_T34 x11 x13).f2) ((rd_T34 x11 x13).f3) ((rd_T34 x11 x13).f4)) else (facts_Find.j1 k x1 x2 x7 x11 x12 x13 (((rd_T34 x11 x13).f2) == x2) ((rd_T34 x11 x13).f0.f0) ((rd_T34 x11 x13).f0.f1) ((rd_T34 x11 x13).f1) ((rd_T34 x11 x13).f2) ((rd_T34 x11 x13).f3) ((rd_T34 x11 x13).f4))) else (facts_Find.j1 k x1 x2 x7 x11 x12 x13 false ((rd_T34 x11 x13).f0.f0) ((rd_T34 x11 x13).f0.f1) ((rd_T34 x11 x13).f1) ((rd_T34 x11 x13).f2) ((rd_T34 x11 x13).f3) ((rd_T34 x11 x13).f4))) else (none)) else (none)) else (some x7)
def facts_Find.j1 : Nat → ByteArray → Int → List (S34) → List (S34) → Int → Int → Bool → Int → Int → ByteArray → Int → ByteArray → Int → Option ((List (S34)))
 | 0, _, _, _, _, _, _, _, _, _, _, _, _, _ => none
 | k + 1, x1, x2, x7, x11, x12, x13, x30, x324000, x324001, x324002, x324003, x324004, x324005 => if x30 = true then (if x7.length < 2199023255552 then (facts_Find.l0 k x1 x2 (x7 ++ [(⟨(⟨x324000, x324001⟩ : S32), x324002, x324003, x324004, x324005⟩ : S34)]) x11 x12 (wrap64 (x13 + 1))) else (none)) else (facts_Find.l0 k x1 x2 x7 x11 x12 (wrap64 (x13 + 1)))
end
def facts_Find.f (k : Nat) (l0_0 : List (S70)) (l0_1 : List (S34)) (a1 : ByteArray) (a2 : Int) : Option ((List (S34))) := facts_Find.l0 k a1 a2 ([] : List (S34)) l0_1 (l0_1.length : Int) 0
theorem facts_Find.mono_l : ∀ k, (∀ y0 y1 y2 y3 y4 y5, LeO (facts_Find.l0 k y0 y1 y2 y3 y4 y5) (facts_Find.l0 (k + 1) y0 y1 y2 y3 y4 y5)) ∧ (∀ y0 y1 y2 y3 y4 y5 y6 y7 y8 y9 y10 y11 y12, LeO (facts_Find.j1 k y0 y1 y2 y3 y4 y5 y6 y7 y8 y9 y10 y11 y12) (facts_Find.j1 (k + 1) y0 y1 y2 y3 y4 y5 y6 y7 y8 y9 y10 y11 y12))
 | 0 => by refine ⟨?_, ?_⟩ <;> (intros; intro r h; simp [facts_Find.l0, facts_Find.j1] at h)
 | k + 1 => by
  obtain ⟨ih0, ih1⟩ := facts_Find.mono_l k
  refine ⟨?_, ?_⟩ <;> intros <;> (first | unfold facts_Find.l0 | unfold facts_Find.j1) <;>
  repeat' first
  | with_reducible (first | exact ih0 _ _ _ _ _ _ | exact ih1 _ _ _ _ _ _ _ _ _ _ _ _ _ | exact LeO.refl _ | exact LeO.none _ | refine LeO.ite ?_ ?_ | refine LeO.bind ?_ (fun _ => ?_))
  | exact ih0 _ _ _ _ _ _ | exact ih1 _ _ _ _ _ _ _ _ _ _ _ _ _ | exact LeO.none _ | refine LeO.ite ?_ ?_ | refine LeO.bind ?_ (fun _ => ?_)
theorem facts_Find.mono : ∀ a0 a1 a2 a3 k, LeO (facts_Find.f k a0 a1 a2 a3) (facts_Find.f (k + 1) a0 a1 a2 a3) := by
 intro a0 a1 a2 a3 k
 obtain ⟨ih0, ih1⟩ := facts_Find.mono_l k
 unfold facts_Find.f
 repeat' first
  | with_reducible (first | exact ih0 _ _ _ _ _ _ | exact ih1 _ _ _ _ _ _ _ _ _ _ _ _ _ | exact LeO.refl _ | exact LeO.none _ | refine LeO.ite ?_ ?_ | refine LeO.bind ?_ (fun _ => ?_))
  | exact ih0 _ _ _ _ _ _ | exact ih1 _ _ _ _ _ _ _ _ _ _ _ _ _ | exact LeO.none _ | refine LeO.ite ?_ ?_ | refine LeO.bind ?_ (fun _ => ?_)
set_option maxHeartbeats 8000000 in
set_option maxRecDepth 100000 in
theorem facts_Find.calls (k : Nat) (A0_0 : Option Addr) (c0_0 : Nat) (l0_0 : List (S70)) (A0_1 : Option Addr) (c0_1 : Nat) (l0_1 : List (S34)) (a1 : ByteArray) (a2 : Int) (r : List (S34)) (w : World) (hr0_0 : Kd.C k70 w A0_0 l0_0.length l0_0) (hc0_0 : l0_0.length ≤ c0_0) (hr0_1 : Kd.C k34 w A0_1 l0_1.length l0_1) (hc0_1 : l0_1.length ≤ c0_1) (h : facts_Find.f k l0_0 l0_1 a1 a2 = some r) :
 Calls Try.prog 27 #[.agg #[.slice A0_0 l0_0.length c0_0, .slice A0_1 l0_1.length c0_1], .string a1, .int .i64 a2] w fun e w' => ∃ v0_ : Value, e = .returned (v0_) ∧ Kd.R k34 34 w' w.heap.size (fun _ => True) v0_ r ∧ Below w.heap.size w w' := by
 have hu28 := Try.underlying28
 have hu34 := Try.underlying34
 have HR0_0 := Aside0.mk hr0_0
 have HC0_0 := Aside0.mk hc0_0
 clear hr0_0 hc0_0
 have HR0_1 := Aside0.mk hr0_1
 have HC0_1 := Aside0.mk hc0_1
 clear hr0_1 hc0_1
 have HB := Aside0.mk (Below.refl w.heap.size w)
 have H : (facts_Find.l0 k a1 a2 ([] : List (S34)) l0_1 (l0_1.length : Int) 0) = some r := h
 clear h
 have H' := Aside0.mk H
 clear H
 go_enter Try.func27, Try.ntmps27
 go_wp2_with (first | ((with_reducible refine gate_dst (N := 3) rfl ?_); refine box_event ?hg (N := 3) ?hd (cs := #[.slice A0_0 l0_0.length c0_0, .slice A0_1 l0_1.length c0_1]) (t := 28) ?hr ?_; (case hd => rfl); (case hg => rfl); (case hr => first | (go_simp; done) | (go_simp; rfl)); intro gb321 hg w4 hbox hb; have BK321 := Aside0.mk (hbox); have GW321 := Aside0.mk ((by rw [hg]; exact (below_size (bw HB.out)) : w.heap.size ≤ gb321)); have GE321 := GW321; replace HB := Aside0.mk (below_step (bw HB.out) hb); clear hb hbox hg; obtain ⟨hcz5_0, hcz5_1⟩ := bx2 BK321.out; obtain ⟨hfz5_0, hfz5_1⟩ := bf2 BK321.out))
 go_loopg [7, 13] k (fun kq v7 v13 w' => ∃ (x7_1 : List (S34)) (x13_1 : Int), v13 = .int .i64 x13_1 ∧ Aside0 (facts_Find.l0 kq a1 a2 x7_1 l0_1 (l0_1.length : Int) x13_1 = some r) ∧ Aside0 (kq ≤ k) ∧ Aside0 (Kd.R k34 34 w' w.heap.size (fun _ => True) v7 x7_1) ∧ Aside0 (w'.heap[gb321]? = some (.cells #[(.slice A0_0 l0_0.length c0_0), (.slice A0_1 l0_1.length c0_1)] 28 (0, 0))) ∧ Aside0 (Below w.heap.size w w'))
 case atStart => exact ⟨(([] : List (S34))), (0), ok_, H', ⟨Nat.le_refl _⟩, ⟨by first | exact Kd.R_nil _ _ _ _ _ | exact Kd.N_nil _ _ _ _ _ | exact Kd.V_nil _ _ _ _ _ | exact Kd.Q_nil _ _ _ _ _ | exact Kd.S_nil _ _ _ _ _⟩, ⟨bk BK321.out⟩, ⟨bw1 HB.out GE321.out⟩⟩
 case round =>
  clear H'
  try clear hcz5_0
  try clear hcz5_1
  try clear hfz5_0
  try clear hfz5_1
  obtain ⟨x7_1, x13_1, rfl, HA, HK1, HO_7, BK321, HB⟩ := hrel
  cases gk with
  | zero => exact absurd HA.out (by simp [facts_Find.l0])
  | succ k1 =>
   have H := HA.out
   clear HA
   simp only [facts_Find.l0] at H
   by_cases c6 : x13_1 < (l0_1.length : Int)
   ·
    rw [if_pos c6] at H
    have c6b0 : decide (x13_1 < (l0_1.length : Int)) = true := decide_eq_true c6
    clear c6
    by_cases c7 : 0 ≤ x13_1
    rotate_left
    ·
     rw [if_neg c7] at H
     exact absurd H (by simp)
    rw [if_pos c7] at H
    have c7b0 : decide (0 ≤ x13_1) = true := decide_eq_true c7
    clear c7
    by_cases c8 : x13_1 < (l0_1.length : Int)
    rotate_left
    ·
     rw [if_neg c8] at H
     exact absurd H (by simp)
    rw [if_pos c8] at H
    have c8b0 : decide (x13_1 < (l0_1.length : Int)) = true := decide_eq_true c8
    clear c8
    have HC9 := Aside0.mk H
    clear H
    have p322 : 0 ≤ (x13_1 : Int) := of_decide_eq_true as_
    have q322 : x13_1 < (l0_1.length : Int) := of_decide_eq_true as_
    obtain ⟨ad322, e322, hx322_0, hx322_1, hx322_2, hx322_3, hx322_4, hx322_5⟩ := at_T34 HR0_1.out x13_1 p322 q322
    cases e322
    replace hx322_0 := (HB.out.cell (World.block_lt_of_cell? w _ hx322_0)).trans hx322_0
    replace hx322_1 := (HB.out.cell (World.block_lt_of_cell? w _ hx322_1)).trans hx322_1
    replace hx322_2 := (HB.out.cell (World.block_lt_of_cell? w _ hx322_2)).trans hx322_2
    replace hx322_3 := (HB.out.cell (World.block_lt_of_cell? w _ hx322_3)).trans hx322_3
    replace hx322_4 := (HB.out.cell (World.block_lt_of_cell? w _ hx322_4)).trans hx322_4
    replace hx322_5 := (HB.out.cell (World.block_lt_of_cell? w _ hx322_5)).trans hx322_5
    replace p322 := eq_true p322
    replace q322 := eq_true q322
    go_upto_region 5 with (first | ((with_reducible refine gate_dst (N := 9) rfl ?_); refine box_event ?hg (N := 9) ?hd (cs := #[.int .i64 0, .int .i64 0, .string (⟨#[]⟩ : ByteArray), .int .i64 0, .string (⟨#[]⟩ : ByteArray), .int .i64 0]) (t := 34) ?hr ?_; (case hd => rfl); (case hg => rfl); (case hr => first | (go_simp; done) | (go_simp; rfl)); intro gb323 hg w10 hbox hb; replace HO_7 := Aside0.mk (Kd.R_below (Kd.R_elderB (rk HO_7.out) gb323 (Nat.le_of_eq hg.symm)) hb); have BK323 := Aside0.mk (hbox); have GW323 := Aside0.mk ((by rw [hg]; exact (below_size (bw1 HB.out GE321.out)) : w.heap.size ≤ gb323)); have GE323 := GW323; replace HB := Aside0.mk (below_step (bw1 HB.out GE321.out) hb); have NB321_323 := Aside0.mk (nbl BK321.out hg); have NB323_321 := Aside0.mk (nbg BK321.out hg); replace BK321 := Aside0.mk (bkb BK321.out hb); clear hb hbox hg; have hnb11 := NB323_321.out; have hnc11 := NB321_323.out; obtain ⟨hcz12_0, hcz12_1, hcz12_2, hcz12_3, hcz12_4, hcz12_5⟩ := bx6 BK323.out; obtain ⟨hfz12_0, hfz12_1, hfz12_2, hfz12_3, hfz12_4, hfz12_5⟩ := bf6 BK323.out))
    (try simp only [Act.put, List.setIfInBounds_toArray, List.set_cons_zero, List.set_cons_succ])
    go_cut [30] (fun v30 wc => ∃ (kq : Nat) (x30_8 : Bool), v30 = .bool x30_8 ∧ Aside0 (facts_Find.j1 kq a1 a2 x7_1 l0_1 (l0_1.length : Int) x13_1 x30_8 ((rd_T34 l0_1 x13_1).f0.f0) ((rd_T34 l0_1 x13_1).f0.f1) ((rd_T34 l0_1 x13_1).f1) ((rd_T34 l0_1 x13_1).f2) ((rd_T34 l0_1 x13_1).f3) ((rd_T34 l0_1 x13_1).f4) = some r) ∧ Aside0 (kq ≤ k1) ∧ Aside0 (Kd.R k34 34 wc w.heap.size (fun k_ => k_ ≠ gb323) u7 x7_1) ∧ Aside0 (wc.heap[gb321]? = some (.cells #[(.slice A0_0 l0_0.length c0_0), (.slice (some ad322) l0_1.length c0_1)] 28 (0, 0))) ∧ Aside0 (wc.heap[gb323]? = some (.cells #[.int .i64 ((rd_T34 l0_1 x13_1).f0.f0), .int .i64 ((rd_T34 l0_1 x13_1).f0.f1), .string ((rd_T34 l0_1 x13_1).f1), .int .i64 ((rd_T34 l0_1 x13_1).f2), .string ((rd_T34 l0_1 x13_1).f3), .int .i64 ((rd_T34 l0_1 x13_1).f4)] 34 (0, 0))) ∧ Aside0 (Below w.heap.size w wc))
    case first =>
     have H := HC9.out
     clear HC9
     by_cases c13 : ((rd_T34 l0_1 x13_1).f1).toList = a1.toList
     ·
      rw [if_pos c13] at H
      have c13b0 : (((rd_T34 l0_1 x13_1).f1).toList == a1.toList) = true := beq_iff_eq.mpr c13
      have c13b1 : (((rd_T34 l0_1 x13_1).f1).toList != a1.toList) = false := bne_eq_false_iff_eq.mpr c13
      clear c13
      (first | rw [c13b0] | (simp only [i64_w, i32_w]; rw [c13b0]) | skip)
      by_cases c14 : a2 = 0
      ·
       rw [if_pos c14] at H
       have c14b0 : (a2 == 0) = true := beq_iff_eq.mpr c14
       have c14b1 : (a2 != 0) = false := bne_eq_false_iff_eq.mpr c14
       clear c14
       have H' := Aside0.mk H
       clear H
       have hnb15 := NB323_321.out
       have hnc15 := NB321_323.out
       obtain ⟨hcz16_0, hcz16_1, hcz16_2, hcz16_3, hcz16_4, hcz16_5⟩ := bx6 BK323.out
       obtain ⟨hfz16_0, hfz16_1, hfz16_2, hfz16_3, hfz16_4, hfz16_5⟩ := bf6 BK323.out
       go_wp2
       go_meet
       case rel => exact ⟨_, (true), ok_, H', ⟨by have := HK1.out; first | omega | exact Nat.le_refl _⟩, ⟨by (with_reducible repeat (first | apply Kd.R_alloc | apply Kd.R_drewN | apply Kd.R_drew)); exact Kd.R_mono (Kd.R_far (p := ⟨gb323, 5, none⟩) (Kd.R_far (p := ⟨gb323, 4, none⟩) (Kd.R_far (p := ⟨gb323, 3, none⟩) (Kd.R_far (p := ⟨gb323, 2, none⟩) (Kd.R_far (p := ⟨gb323, 1, none⟩) (Kd.R_far (p := ⟨gb323, 0, none⟩) (Kd.R_mono HO_7.out (fun k_ hk => (⟨hk, hk.2⟩ : _ ∧ k_ ≠ gb323))) (fun _ hk => hk.2) (.int .i64 ((rd_T34 l0_1 x13_1).f0.f0))) (fun _ hk => hk.2) (.int .i64 ((rd_T34 l0_1 x13_1).f0.f1))) (fun _ hk => hk.2) (.string ((rd_T34 l0_1 x13_1).f1))) (fun _ hk => hk.2) (.int .i64 ((rd_T34 l0_1 x13_1).f2))) (fun _ hk => hk.2) (.string ((rd_T34 l0_1 x13_1).f3))) (fun _ hk => hk.2) (.int .i64 ((rd_T34 l0_1 x13_1).f4))) (fun _ hk => hk.1.2)⟩, ⟨by (with_reducible repeat (first | refine blk_drewN ?_ _ | refine blk_drew ?_ | refine blk_alloc ?_ _)); refine blk_far ?_ NB321_323.out _; (with_reducible repeat (first | refine blk_drewN ?_ _ | refine blk_drew ?_ | refine blk_alloc ?_ _)); refine blk_far ?_ NB321_323.out _; (with_reducible repeat (first | refine blk_drewN ?_ _ | refine blk_drew ?_ | refine blk_alloc ?_ _)); refine blk_far ?_ NB321_323.out _; (with_reducible repeat (first | refine blk_drewN ?_ _ | refine blk_drew ?_ | refine blk_alloc ?_ _)); refine blk_far ?_ NB321_323.out _; (with_reducible repeat (first | refine blk_drewN ?_ _ | refine blk_drew ?_ | refine blk_alloc ?_ _)); refine blk_far ?_ NB321_323.out _; (with_reducible repeat (first | refine blk_drewN ?_ _ | refine blk_drew ?_ | refine blk_alloc ?_ _)); refine blk_far ?_ NB321_323.out _; (with_reducible repeat (first | refine blk_drewN ?_ _ | refine blk_drew ?_ | refine blk_alloc ?_ _)); exact BK321.out⟩, ⟨by (with_reducible repeat (first | refine blk_drewN ?_ _ | refine blk_drew ?_ | refine blk_alloc ?_ _)); refine blk_put (cs := #[.int .i64 ((rd_T34 l0_1 x13_1).f0.f0), .int .i64 ((rd_T34 l0_1 x13_1).f0.f1), .string ((rd_T34 l0_1 x13_1).f1), .int .i64 ((rd_T34 l0_1 x13_1).f2), .string ((rd_T34 l0_1 x13_1).f3), .int .i64 0]) ?_ 5 _ rfl; (with_reducible repeat (first | refine blk_drewN ?_ _ | refine blk_drew ?_ | refine blk_alloc ?_ _)); refine blk_put (cs := #[.int .i64 ((rd_T34 l0_1 x13_1).f0.f0), .int .i64 ((rd_T34 l0_1 x13_1).f0.f1), .string ((rd_T34 l0_1 x13_1).f1), .int .i64 ((rd_T34 l0_1 x13_1).f2), .string (⟨#[]⟩ : ByteArray), .int .i64 0]) ?_ 4 _ rfl; (with_reducible repeat (first | refine blk_drewN ?_ _ | refine blk_drew ?_ | refine blk_alloc ?_ _)); refine blk_put (cs := #[.int .i64 ((rd_T34 l0_1 x13_1).f0.f0), .int .i64 ((rd_T34 l0_1 x13_1).f0.f1), .string ((rd_T34 l0_1 x13_1).f1), .int .i64 0, .string (⟨#[]⟩ : ByteArray), .int .i64 0]) ?_ 3 _ rfl; (with_reducible repeat (first | refine blk_drewN ?_ _ | refine blk_drew ?_ | refine blk_alloc ?_ _)); refine blk_put (cs := #[.int .i64 ((rd_T34 l0_1 x13_1).f0.f0), .int .i64 ((rd_T34 l0_1 x13_1).f0.f1), .string (⟨#[]⟩ : ByteArray), .int .i64 0, .string (⟨#[]⟩ : ByteArray), .int .i64 0]) ?_ 2 _ rfl; (with_reducible repeat (first | refine blk_drewN ?_ _ | refine blk_drew ?_ | refine blk_alloc ?_ _)); refine blk_put (cs := #[.int .i64 ((rd_T34 l0_1 x13_1).f0.f0), .int .i64 0, .string (⟨#[]⟩ : ByteArray), .int .i64 0, .string (⟨#[]⟩ : ByteArray), .int .i64 0]) ?_ 1 _ rfl; (with_reducible repeat (first | refine blk_drewN ?_ _ | refine blk_drew ?_ | refine blk_alloc ?_ _)); refine blk_put (cs := #[.int .i64 0, .int .i64 0, .string (⟨#[]⟩ : ByteArray), .int .i64 0, .string (⟨#[]⟩ : ByteArray), .int .i64 0]) ?_ 0 _ rfl; (with_reducible repeat (first | refine blk_drewN ?_ _ | refine blk_drew ?_ | refine blk_alloc ?_ _)); exact BK323.out⟩, ⟨bw2 HB.out GE321.out GE323.out⟩⟩
      ·
       rw [if_neg c14] at H
       have c14b0 : (a2 == 0) = false := beq_eq_false_iff_ne.mpr c14
       have c14b1 : (a2 != 0) = true := bne_iff_ne.mpr c14
       have H' := Aside0.mk H
       clear H
       have hnb17 := NB323_321.out
       have hnc17 := NB321_323.out
       obtain ⟨hcz18_0, hcz18_1, hcz18_2, hcz18_3, hcz18_4, hcz18_5⟩ := bx6 BK323.out
       obtain ⟨hfz18_0, hfz18_1, hfz18_2, hfz18_3, hfz18_4, hfz18_5⟩ := bf6 BK323.out
       go_wp2
       go_meet
       case rel => exact ⟨_, ((((rd_T34 l0_1 x13_1).f2) == a2)), ok_, H', ⟨by have := HK1.out; first | omega | exact Nat.le_refl _⟩, ⟨by (with_reducible repeat (first | apply Kd.R_alloc | apply Kd.R_drewN | apply Kd.R_drew)); exact Kd.R_mono (Kd.R_far (p := ⟨gb323, 5, none⟩) (Kd.R_far (p := ⟨gb323, 4, none⟩) (Kd.R_far (p := ⟨gb323, 3, none⟩) (Kd.R_far (p := ⟨gb323, 2, none⟩) (Kd.R_far (p := ⟨gb323, 1, none⟩) (Kd.R_far (p := ⟨gb323, 0, none⟩) (Kd.R_mono HO_7.out (fun k_ hk => (⟨hk, hk.2⟩ : _ ∧ k_ ≠ gb323))) (fun _ hk => hk.2) (.int .i64 ((rd_T34 l0_1 x13_1).f0.f0))) (fun _ hk => hk.2) (.int .i64 ((rd_T34 l0_1 x13_1).f0.f1))) (fun _ hk => hk.2) (.string ((rd_T34 l0_1 x13_1).f1))) (fun _ hk => hk.2) (.int .i64 ((rd_T34 l0_1 x13_1).f2))) (fun _ hk => hk.2) (.string ((rd_T34 l0_1 x13_1).f3))) (fun _ hk => hk.2) (.int .i64 ((rd_T34 l0_1 x13_1).f4))) (fun _ hk => hk.1.2)⟩, ⟨by (with_reducible repeat (first | refine blk_drewN ?_ _ | refine blk_drew ?_ | refine blk_alloc ?_ _)); refine blk_far ?_ NB321_323.out _; (with_reducible repeat (first | refine blk_drewN ?_ _ | refine blk_drew ?_ | refine blk_alloc ?_ _)); refine blk_far ?_ NB321_323.out _; (with_reducible repeat (first | refine blk_drewN ?_ _ | refine blk_drew ?_ | refine blk_alloc ?_ _)); refine blk_far ?_ NB321_323.out _; (with_reducible repeat (first | refine blk_drewN ?_ _ | refine blk_drew ?_ | refine blk_alloc ?_ _)); refine blk_far ?_ NB321_323.out _; (with_reducible repeat (first | refine blk_drewN ?_ _ | refine blk_drew ?_ | refine blk_alloc ?_ _)); refine blk_far ?_ NB321_323.out _; (with_reducible repeat (first | refine blk_drewN ?_ _ | refine blk_drew ?_ | refine blk_alloc ?_ _)); refine blk_far ?_ NB321_323.out _; (with_reducible repeat (first | refine blk_drewN ?_ _ | refine blk_drew ?_ | refine blk_alloc ?_ _)); exact BK321.out⟩, ⟨by (with_reducible repeat (first | refine blk_drewN ?_ _ | refine blk_drew ?_ | refine blk_alloc ?_ _)); refine blk_put (cs := #[.int .i64 ((rd_T34 l0_1 x13_1).f0.f0), .int .i64 ((rd_T34 l0_1 x13_1).f0.f1), .string ((rd_T34 l0_1 x13_1).f1), .int .i64 ((rd_T34 l0_1 x13_1).f2), .string ((rd_T34 l0_1 x13_1).f3), .int .i64 0]) ?_ 5 _ rfl; (with_reducible repeat (first | refine blk_drewN ?_ _ | refine blk_drew ?_ | refine blk_alloc ?_ _)); refine blk_put (cs := #[.int .i64 ((rd_T34 l0_1 x13_1).f0.f0), .int .i64 ((rd_T34 l0_1 x13_1).f0.f1), .string ((rd_T34 l0_1 x13_1).f1), .int .i64 ((rd_T34 l0_1 x13_1).f2), .string (⟨#[]⟩ : ByteArray), .int .i64 0]) ?_ 4 _ rfl; (with_reducible repeat (first | refine blk_drewN ?_ _ | refine blk_drew ?_ | refine blk_alloc ?_ _)); refine blk_put (cs := #[.int .i64 ((rd_T34 l0_1 x13_1).f0.f0), .int .i64 ((rd_T34 l0_1 x13_1).f0.f1), .string ((rd_T34 l0_1 x13_1).f1), .int .i64 0, .string (⟨#[]⟩ : ByteArray), .int .i64 0]) ?_ 3 _ rfl; (with_reducible repeat (first | refine blk_drewN ?_ _ | refine blk_drew ?_ | refine blk_alloc ?_ _)); refine blk_put (cs := #[.int .i64 ((rd_T34 l0_1 x13_1).f0.f0), .int .i64 ((rd_T34 l0_1 x13_1).f0.f1), .string (⟨#[]⟩ : ByteArray), .int .i64 0, .string (⟨#[]⟩ : ByteArray), .int .i64 0]) ?_ 2 _ rfl; (with_reducible repeat (first | refine blk_drewN ?_ _ | refine blk_drew ?_ | refine blk_alloc ?_ _)); refine blk_put (cs := #[.int .i64 ((rd_T34 l0_1 x13_1).f0.f0), .int .i64 0, .string (⟨#[]⟩ : ByteArray), .int .i64 0, .string (⟨#[]⟩ : ByteArray), .int .i64 0]) ?_ 1 _ rfl; (with_reducible repeat (first | refine blk_drewN ?_ _ | refine blk_drew ?_ | refine blk_alloc ?_ _)); refine blk_put (cs := #[.int .i64 0, .int .i64 0, .string (⟨#[]⟩ : ByteArray), .int .i64 0, .string (⟨#[]⟩ : ByteArray), .int .i64 0]) ?_ 0 _ rfl; (with_reducible repeat (first | refine blk_drewN ?_ _ | refine blk_drew ?_ | refine blk_alloc ?_ _)); exact BK323.out⟩, ⟨bw2 HB.out GE321.out GE323.out⟩⟩
     ·
      rw [if_neg c13] at H
      have c13b0 : (((rd_T34 l0_1 x13_1).f1).toList == a1.toList) = false := beq_eq_false_iff_ne.mpr c13
      have c13b1 : (((rd_T34 l0_1 x13_1).f1).toList != a1.toList) = true := bne_iff_ne.mpr c13
      (first | rw [c13b0] | (simp only [i64_w, i32_w]; rw [c13b0]) | skip)
      have H' := Aside0.mk H
      clear H
      have hnb19 := NB323_321.out
      have hnc19 := NB321_323.out
      obtain ⟨hcz20_0, hcz20_1, hcz20_2, hcz20_3, hcz20_4, hcz20_5⟩ := bx6 BK323.out
      obtain ⟨hfz20_0, hfz20_1, hfz20_2, hfz20_3, hfz20_4, hfz20_5⟩ := bf6 BK323.out
      go_wp2
      go_meet
      case rel => exact ⟨_, (false), ok_, H', ⟨by have := HK1.out; first | omega | exact Nat.le_refl _⟩, ⟨by (with_reducible repeat (first | apply Kd.R_alloc | apply Kd.R_drewN | apply Kd.R_drew)); exact Kd.R_mono (Kd.R_far (p := ⟨gb323, 5, none⟩) (Kd.R_far (p := ⟨gb323, 4, none⟩) (Kd.R_far (p := ⟨gb323, 3, none⟩) (Kd.R_far (p := ⟨gb323, 2, none⟩) (Kd.R_far (p := ⟨gb323, 1, none⟩) (Kd.R_far (p := ⟨gb323, 0, none⟩) (Kd.R_mono HO_7.out (fun k_ hk => (⟨hk, hk.2⟩ : _ ∧ k_ ≠ gb323))) (fun _ hk => hk.2) (.int .i64 ((rd_T34 l0_1 x13_1).f0.f0))) (fun _ hk => hk.2) (.int .i64 ((rd_T34 l0_1 x13_1).f0.f1))) (fun _ hk => hk.2) (.string ((rd_T34 l0_1 x13_1).f1))) (fun _ hk => hk.2) (.int .i64 ((rd_T34 l0_1 x13_1).f2))) (fun _ hk => hk.2) (.string ((rd_T34 l0_1 x13_1).f3))) (fun _ hk => hk.2) (.int .i64 ((rd_T34 l0_1 x13_1).f4))) (fun _ hk => hk.1.2)⟩, ⟨by (with_reducible repeat (first | refine blk_drewN ?_ _ | refine blk_drew ?_ | refine blk_alloc ?_ _)); refine blk_far ?_ NB321_323.out _; (with_reducible repeat (first | refine blk_drewN ?_ _ | refine blk_drew ?_ | refine blk_alloc ?_ _)); refine blk_far ?_ NB321_323.out _; (with_reducible repeat (first | refine blk_drewN ?_ _ | refine blk_drew ?_ | refine blk_alloc ?_ _)); refine blk_far ?_ NB321_323.out _; (with_reducible repeat (first | refine blk_drewN ?_ _ | refine blk_drew ?_ | refine blk_alloc ?_ _)); refine blk_far ?_ NB321_323.out _; (with_reducible repeat (first | refine blk_drewN ?_ _ | refine blk_drew ?_ | refine blk_alloc ?_ _)); refine blk_far ?_ NB321_323.out _; (with_reducible repeat (first | refine blk_drewN ?_ _ | refine blk_drew ?_ | refine blk_alloc ?_ _)); refine blk_far ?_ NB321_323.out _; (with_reducible repeat (first | refine blk_drewN ?_ _ | refine blk_drew ?_ | refine blk_alloc ?_ _)); exact BK321.out⟩, ⟨by (with_reducible repeat (first | refine blk_drewN ?_ _ | refine blk_drew ?_ | refine blk_alloc ?_ _)); refine blk_put (cs := #[.int .i64 ((rd_T34 l0_1 x13_1).f0.f0), .int .i64 ((rd_T34 l0_1 x13_1).f0.f1), .string ((rd_T34 l0_1 x13_1).f1), .int .i64 ((rd_T34 l0_1 x13_1).f2), .string ((rd_T34 l0_1 x13_1).f3), .int .i64 0]) ?_ 5 _ rfl; (with_reducible repeat (first | refine blk_drewN ?_ _ | refine blk_drew ?_ | refine blk_alloc ?_ _)); refine blk_put (cs := #[.int .i64 ((rd_T34 l0_1 x13_1).f0.f0), .int .i64 ((rd_T34 l0_1 x13_1).f0.f1), .string ((rd_T34 l0_1 x13_1).f1), .int .i64 ((rd_T34 l0_1 x13_1).f2), .string (⟨#[]⟩ : ByteArray), .int .i64 0]) ?_ 4 _ rfl; (with_reducible repeat (first | refine blk_drewN ?_ _ | refine blk_drew ?_ | refine blk_alloc ?_ _)); refine blk_put (cs := #[.int .i64 ((rd_T34 l0_1 x13_1).f0.f0), .int .i64 ((rd_T34 l0_1 x13_1).f0.f1), .string ((rd_T34 l0_1 x13_1).f1), .int .i64 0, .string (⟨#[]⟩ : ByteArray), .int .i64 0]) ?_ 3 _ rfl; (with_reducible repeat (first | refine blk_drewN ?_ _ | refine blk_drew ?_ | refine blk_alloc ?_ _)); refine blk_put (cs := #[.int .i64 ((rd_T34 l0_1 x13_1).f0.f0), .int .i64 ((rd_T34 l0_1 x13_1).f0.f1), .string (⟨#[]⟩ : ByteArray), .int .i64 0, .string (⟨#[]⟩ : ByteArray), .int .i64 0]) ?_ 2 _ rfl; (with_reducible repeat (first | refine blk_drewN ?_ _ | refine blk_drew ?_ | refine blk_alloc ?_ _)); refine blk_put (cs := #[.int .i64 ((rd_T34 l0_1 x13_1).f0.f0), .int .i64 0, .string (⟨#[]⟩ : ByteArray), .int .i64 0, .string (⟨#[]⟩ : ByteArray), .int .i64 0]) ?_ 1 _ rfl; (with_reducible repeat (first | refine blk_drewN ?_ _ | refine blk_drew ?_ | refine blk_alloc ?_ _)); refine blk_put (cs := #[.int .i64 0, .int .i64 0, .string (⟨#[]⟩ : ByteArray), .int .i64 0, .string (⟨#[]⟩ : ByteArray), .int .i64 0]) ?_ 0 _ rfl; (with_reducible repeat (first | refine blk_drewN ?_ _ | refine blk_drew ?_ | refine blk_alloc ?_ _)); exact BK323.out⟩, ⟨bw2 HB.out GE321.out GE323.out⟩⟩
    case rest =>
     clear HC9
     try clear c6
     try clear c6b0
     try clear c7
     try clear c7b0
     try clear c8
     try clear c8b0
     try clear hcz12_0
     try clear hcz12_1
     try clear hcz12_2
     try clear hcz12_3
     try clear hcz12_4
     try clear hcz12_5
     try clear hcz5_0
     try clear hcz5_1
     try clear hfz12_0
     try clear hfz12_1
     try clear hfz12_2
     try clear hfz12_3
     try clear hfz12_4
     try clear hfz12_5
     try clear hfz5_0
     try clear hfz5_1
     try clear hx322_0
     try clear hx322_1
     try clear hx322_2
     try clear hx322_3
     try clear hx322_4
     try clear hx322_5
     try clear p322
     try clear q322
     obtain ⟨kq, x30_8, rfl, HA, HJ8, HO_7, BK321, BK323, HB⟩ := hcut
     cases kq with
     | zero => exact absurd HA.out (by simp [facts_Find.j1])
     | succ kj8 =>
      have H := HA.out
      clear HA
      simp only [facts_Find.j1] at H
      by_cases c21 : x30_8 = true
      ·
       subst c21
       have H1 : (if x7_1.length < 2199023255552 then (facts_Find.l0 kj8 a1 a2 (x7_1 ++ [(⟨(⟨((rd_T34 l0_1 x13_1).f0.f0), ((rd_T34 l0_1 x13_1).f0.f1)⟩ : S32), ((rd_T34 l0_1 x13_1).f1), ((rd_T34 l0_1 x13_1).f2), ((rd_T34 l0_1 x13_1).f3), ((rd_T34 l0_1 x13_1).f4)⟩ : S34)]) l0_1 (l0_1.length : Int) (wrap64 (x13_1 + 1))) else (none)) = some r := by rw [if_pos rfl] at H; exact H
       clear H
       have H := H1
       clear H1
       by_cases c22 : x7_1.length < 2199023255552
       rotate_left
       ·
        rw [if_neg c22] at H
        exact absurd H (by simp)
       rw [if_pos c22] at H
       have LMc22 := Aside0.mk c22
       clear c22
       obtain ⟨y324, hy324⟩ : ∃ y_ : List (S34), y_ = (x7_1 ++ [(⟨(⟨((rd_T34 l0_1 x13_1).f0.f0), ((rd_T34 l0_1 x13_1).f0.f1)⟩ : S32), ((rd_T34 l0_1 x13_1).f1), ((rd_T34 l0_1 x13_1).f2), ((rd_T34 l0_1 x13_1).f3), ((rd_T34 l0_1 x13_1).f4)⟩ : S34)]) := ⟨_, rfl⟩
       replace H : (facts_Find.l0 kj8 a1 a2 y324 l0_1 (l0_1.length : Int) (wrap64 (x13_1 + 1))) = some r := by first | (rw [hy324]; with_reducible exact H) | (have H2_ := (Option.bind_some _ _).symm.trans H; rw [hy324]; with_reducible exact H2_) | (have H2_ := (Option.bind_some _ _).symm.trans H; with_reducible exact H2_) | with_reducible exact H | (rw [hy324]; exact H) | exact H
       have Ny324 := Aside0.mk hy324
       clear hy324
       have H' := Aside0.mk H
       clear H
       have hnb23 := NB323_321.out
       have hnc23 := NB321_323.out
       obtain ⟨hcz24_0, hcz24_1, hcz24_2, hcz24_3, hcz24_4, hcz24_5⟩ := bx6 BK323.out
       obtain ⟨hfz24_0, hfz24_1, hfz24_2, hfz24_3, hfz24_4, hfz24_5⟩ := bf6 BK323.out
       go_wp2_with (first | ((with_reducible refine gate_builtin (b := .append) (xs := #[.tmp 31, .tmp 33]) rfl ?_); at_builtin; refine Kd.R_append k34 (w0 := w) w.heap.size rfl (.tmp 31) (.tmp 33) 26 34 (.agg #[(.int .i64 0), (.int .i64 0), (.string ⟨#[]⟩), (.int .i64 0), (.string ⟨#[]⟩), (.int .i64 0)]) 64 rfl Try.underlying26 info34 rfl (by decide) (by omega) u7 x7_1 (⟨(⟨((rd_T34 l0_1 x13_1).f0.f0), ((rd_T34 l0_1 x13_1).f0.f1)⟩ : S32), ((rd_T34 l0_1 x13_1).f1), ((rd_T34 l0_1 x13_1).f2), ((rd_T34 l0_1 x13_1).f3), ((rd_T34 l0_1 x13_1).f4)⟩ : S34) [.int .i64 ((rd_T34 l0_1 x13_1).f0.f0), .int .i64 ((rd_T34 l0_1 x13_1).f0.f1), .string ((rd_T34 l0_1 x13_1).f1), .int .i64 ((rd_T34 l0_1 x13_1).f2), .string ((rd_T34 l0_1 x13_1).f3), .int .i64 ((rd_T34 l0_1 x13_1).f4)] (fun k_ => k_ ≠ gb323) (fun _ => False) rfl rfl ?aP (fun _ hk => hk.elim) ?aF ?aO ?aB ?aS ?aL ?_; (case aP => exact k34_mkM _ _ _ (⟨(⟨((rd_T34 l0_1 x13_1).f0.f0), ((rd_T34 l0_1 x13_1).f0.f1)⟩ : S32), ((rd_T34 l0_1 x13_1).f1), ((rd_T34 l0_1 x13_1).f2), ((rd_T34 l0_1 x13_1).f3), ((rd_T34 l0_1 x13_1).f4)⟩ : S34)); (case aB => exact (bw2 HB.out GE321.out GE323.out)); (case aF => exact (fun k_ hk => Kd.freshB (g := gb323) (o := .cells #[.int .i64 ((rd_T34 l0_1 x13_1).f0.f0), .int .i64 ((rd_T34 l0_1 x13_1).f0.f1), .string ((rd_T34 l0_1 x13_1).f1), .int .i64 ((rd_T34 l0_1 x13_1).f2), .string ((rd_T34 l0_1 x13_1).f3), .int .i64 ((rd_T34 l0_1 x13_1).f4)] 34 (0, 0)) (bk BK323.out) k_ hk)); (case aO => exact (rk HO_7.out)); (case aS => exact (below_size (bw2 HB.out GE321.out GE323.out))); (case aL => have := LMc22.out; omega); intro v325 w25 ho hb hg hat; rw [← Ny324.out] at ho; replace BK321 := Aside0.mk (bkg BK321.out hg (Kd.R_ne HO_7.out BK321.out (by decide))); replace BK323 := Aside0.mk (bkg BK323.out hg (Kd.R_away HO_7.out (fun _ hk => hk))); replace HB := Aside0.mk (hb); have HO326 := Aside0.mk (ho); clear HO_7; clear ho hb hg hat))
       go_roundg kj8
       case measure => have := HK1.out; have := HJ8.out; omega
       case rel => exact ⟨(y324), (wrap64 (x13_1 + 1)), ok_, H', ⟨by have := HK1.out; have := HJ8.out; omega⟩, ⟨by (with_reducible repeat (first | apply Kd.R_alloc | apply Kd.R_drewN | apply Kd.R_drew)); exact Kd.R_mono HO326.out (fun _ hk => trivial)⟩, ⟨bk BK321.out⟩, ⟨bw2 HB.out GE321.out GE323.out⟩⟩
      ·
       replace c21 := Bool.eq_false_iff.mpr c21
       subst c21
       have H1 : (facts_Find.l0 kj8 a1 a2 x7_1 l0_1 (l0_1.length : Int) (wrap64 (x13_1 + 1))) = some r := by rw [if_neg (show ¬ (false = true) by decide)] at H; exact H
       clear H
       have H := H1
       clear H1
       have H' := Aside0.mk H
       clear H
       go_wp2
       go_roundg kj8
       case measure => have := HK1.out; have := HJ8.out; omega
       case rel => exact ⟨(x7_1), (wrap64 (x13_1 + 1)), ok_, H', ⟨by have := HK1.out; have := HJ8.out; omega⟩, ⟨by (with_reducible repeat (first | apply Kd.R_alloc | apply Kd.R_drewN | apply Kd.R_drew)); exact Kd.R_mono HO_7.out (fun _ hk => trivial)⟩, ⟨bk BK321.out⟩, ⟨bw2 HB.out GE321.out GE323.out⟩⟩
   ·
    rw [if_neg c6] at H
    have c6b0 : decide (x13_1 < (l0_1.length : Int)) = false := decide_eq_false c6
    clear c6
    obtain rfl := Option.some.inj H
    go_wp2
    go_ret
    exact ⟨_, by first | rfl | (simp [errW_none, errW_some] <;> rfl) | (simp [*, errW_none, errW_some] <;> rfl), rk HO_7.out, bw1 HB.out GE321.out⟩

/-! ### read_Count: function 10 -/
def read_Count.l0 : Nat → Int → List (S34) → Int → Int → Option (Int)
  | 0, _, _, _, _ => none
  | k + 1, x5, x10, x11, x12 => if x12 < x11 then (if 0 ≤ x12 then (if x12 < (x10.length : Int) then (read_Count.l0 k (wrap64 (x5 + ((rd_T34 x10 x12).f4))) x10 x11 (wrap64 (x12 + 1))) else (none)) else (none)) else (some x5)
def read_Count.f (k : Nat) (l0_0 : List (S70)) (l0_1 : List (S34)) (a1 : ByteArray) : Option (Int) := (facts_Find.f k l0_0 l0_1 a1 3).bind fun t328 => (read_Count.l0 k 0 t328 (t328.length : Int) 0)
theorem read_Count.mono_l : ∀ k, (∀ y0 y1 y2 y3, LeO (read_Count.l0 k y0 y1 y2 y3) (read_Count.l0 (k + 1) y0 y1 y2 y3))
  | 0 => fun _ _ _ _ r h => by simp [read_Count.l0] at h
  | k + 1 => by
    have ih0 := read_Count.mono_l k
    · intro y0 y1 y2 y3
      unfold read_Count.l0
      repeat' first
      | with_reducible (first | exact ih0 _ _ _ _ | exact facts_Find.mono _ _ _ _ _ | exact LeO.refl _ | exact LeO.none _ | refine LeO.ite ?_ ?_ | refine LeO.bind ?_ (fun _ => ?_))
      | exact ih0 _ _ _ _ | exact facts_Find.mono _ _ _ _ _ | exact LeO.none _ | refine LeO.ite ?_ ?_ | refine LeO.bind ?_ (fun _ => ?_)
theorem read_Count.mono : ∀ a0 a1 a2 k, LeO (read_Count.f k a0 a1 a2) (read_Count.f (k + 1) a0 a1 a2) := by
  intro a0 a1 a2 k
  have ih0 := read_Count.mono_l k
  unfold read_Count.f
  repeat' first
      | with_reducible (first | exact ih0 _ _ _ _ | exact facts_Find.mono _ _ _ _ _ | exact LeO.refl _ | exact LeO.none _ | refine LeO.ite ?_ ?_ | refine LeO.bind ?_ (fun _ => ?_))
      | exact ih0 _ _ _ _ | exact facts_Find.mono _ _ _ _ _ | exact LeO.none _ | refine LeO.ite ?_ ?_ | refine LeO.bind ?_ (fun _ => ?_)
set_option maxHeartbeats 8000000 in
set_option maxRecDepth 100000 in
theorem read_Count.calls (k : Nat) (A0_0 : Option Addr) (c0_0 : Nat) (l0_0 : List (S70)) (A0_1 : Option Addr) (c0_1 : Nat) (l0_1 : List (S34)) (a1 : ByteArray) (r : Int) (w : World) (hr0_0 : Kd.C k70 w A0_0 l0_0.length l0_0) (hc0_0 : l0_0.length ≤ c0_0) (hr0_1 : Kd.C k34 w A0_1 l0_1.length l0_1) (hc0_1 : l0_1.length ≤ c0_1) (h : read_Count.f k l0_0 l0_1 a1 = some r) :
    Calls Try.prog 10 #[.agg #[.slice A0_0 l0_0.length c0_0, .slice A0_1 l0_1.length c0_1], .string a1] w fun e w' => e = .returned (.int .i64 r) ∧ Below w.heap.size w w' := by
  have hu28 := Try.underlying28
  have hu34 := Try.underlying34
  have HR0_0 := Aside0.mk hr0_0
  have HC0_0 := Aside0.mk hc0_0
  clear hr0_0 hc0_0
  have HR0_1 := Aside0.mk hr0_1
  have HC0_1 := Aside0.mk hc0_1
  clear hr0_1 hc0_1
  have HB := Aside0.mk (Below.refl w.heap.size w)
  have H : ((facts_Find.f k l0_0 l0_1 a1 3).bind fun t328 => (read_Count.l0 k 0 t328 (t328.length : Int) 0)) = some r := h
  clear h
  replace H := Option.bind_eq_some_iff.mp H
  obtain ⟨t328, A30, H⟩ := H
  replace H : (read_Count.l0 k 0 t328 (t328.length : Int) 0) = some r := H
  have A3 := Aside0.mk A30
  clear A30
  have H' := Aside0.mk H
  clear H
  go_enter Try.func10, Try.ntmps10
  go_wp2_with (first | ((with_reducible refine gate_dst (N := 2) rfl ?_); refine box_event ?hg (N := 2) ?hd (cs := #[.slice A0_0 l0_0.length c0_0, .slice A0_1 l0_1.length c0_1]) (t := 28) ?hr ?_; (case hd => rfl); (case hg => rfl); (case hr => first | (go_simp; done) | (go_simp; rfl)); intro gb327 hg w4 hbox hb; have BK327 := Aside0.mk (hbox); have GW327 := Aside0.mk ((by rw [hg]; exact (below_size (bw HB.out)) : w.heap.size ≤ gb327)); have GE327 := GW327; replace HB := Aside0.mk (below_step (bw HB.out) hb); clear hb hbox hg; obtain ⟨hcz5_0, hcz5_1⟩ := bx2 BK327.out; obtain ⟨hfz5_0, hfz5_1⟩ := bf2 BK327.out) | ((with_reducible refine gate_callee (f := 27) rfl ?_); refine goesL_ (some 10) rfl rfl Try.func27 (by kernel_rfl) rfl #[.agg #[.slice A0_0 l0_0.length c0_0, .slice A0_1 l0_1.length c0_1], .string a1, .int .i64 3] rfl ar_ ?_; (with_reducible refine (facts_Find.calls k _ _ l0_0 _ _ l0_1 a1 3 t328 _ ?side1 ?side2 ?side3 ?side4 A3.out).mono ?_); (case side1 => exact cr (Kd.C_below HR0_0.out HB.out)); (case side2 => exact HC0_0.out); (case side3 => exact cr (Kd.C_below HR0_1.out HB.out)); (case side4 => exact HC0_1.out); rintro e w6 ⟨v329, rfl, ho0, hb⟩; refine ⟨_, rfl, ?_⟩; have HO330 := Aside0.mk (Kd.R_lower ho0 (below_size (bw1 HB.out GE327.out))); replace BK327 := Aside0.mk (bkb BK327.out hb); replace HB := Aside0.mk (below_step (bw1 HB.out GE327.out) hb); (try clear hb); (try clear hb2); (try clear hk); (try clear hi); (try clear ho0); obtain ⟨Ao7, co7, eo7⟩ := Kd.R_slice HO330.out; subst eo7))
  go_loopg [5, 12] k (fun kq v5 v12 w' => ∃ (x5_1 : Int) (x12_1 : Int), v5 = .int .i64 x5_1 ∧ v12 = .int .i64 x12_1 ∧ Aside0 (read_Count.l0 kq x5_1 t328 (t328.length : Int) x12_1 = some r) ∧ Aside0 (kq ≤ k) ∧ Aside0 (Kd.R k34 34 w' w.heap.size (fun _ => True) (.slice Ao7 t328.length co7) t328) ∧ Aside0 (w'.heap[gb327]? = some (.cells #[(.slice A0_0 l0_0.length c0_0), (.slice A0_1 l0_1.length c0_1)] 28 (0, 0))) ∧ Aside0 (Below w.heap.size w w'))
  case atStart => exact ⟨(0), (0), ok_, ok_, H', ⟨Nat.le_refl _⟩, ⟨rk HO330.out⟩, ⟨bk BK327.out⟩, ⟨bw1 HB.out GE327.out⟩⟩
  case round =>
    clear H'
    try clear hcz5_0
    try clear hcz5_1
    try clear hfz5_0
    try clear hfz5_1
    obtain ⟨x5_1, x12_1, rfl, rfl, HA, HK1, HO_10, BK327, HB⟩ := hrel
    cases gk with
    | zero => exact absurd HA.out (by simp [read_Count.l0])
    | succ k1 =>
      have H := HA.out
      clear HA
      simp only [read_Count.l0] at H
      by_cases c8 : x12_1 < (t328.length : Int)
      · rw [if_pos c8] at H
        have c8b0 : decide (x12_1 < (t328.length : Int)) = true := decide_eq_true c8
        clear c8
        by_cases c9 : 0 ≤ x12_1
        · rw [if_pos c9] at H
          have c9b0 : decide (0 ≤ x12_1) = true := decide_eq_true c9
          clear c9
          by_cases c10 : x12_1 < (t328.length : Int)
          · rw [if_pos c10] at H
            have c10b0 : decide (x12_1 < (t328.length : Int)) = true := decide_eq_true c10
            clear c10
            have H' := Aside0.mk H
            clear H
            have p331 : 0 ≤ (x12_1 : Int) := of_decide_eq_true as_
            have q331 : x12_1 < (t328.length : Int) := of_decide_eq_true as_
            obtain ⟨ad331, e331, hx331_0, hx331_1, hx331_2, hx331_3, hx331_4, hx331_5⟩ := at_T34 (Kd.R_reads' HO_10.out).2.2 x12_1 p331 q331
            cases e331
            replace p331 := eq_true p331
            replace q331 := eq_true q331
            go_wp2_with (first | ((with_reducible refine gate_dst (N := 7) rfl ?_); refine box_event ?hg (N := 7) ?hd (cs := #[.int .i64 0, .int .i64 0, .string (⟨#[]⟩ : ByteArray), .int .i64 0, .string (⟨#[]⟩ : ByteArray), .int .i64 0]) (t := 34) ?hr ?_; (case hd => rfl); (case hg => rfl); (case hr => first | (go_simp; done) | (go_simp; rfl)); intro gb332 hg w11 hbox hb; replace HO_10 := Aside0.mk (Kd.R_below (Kd.R_elderB (rk HO_10.out) gb332 (Nat.le_of_eq hg.symm)) hb); have BK332 := Aside0.mk (hbox); have GW332 := Aside0.mk ((by rw [hg]; exact (below_size (bw1 HB.out GE327.out)) : w.heap.size ≤ gb332)); have GE332 := GW332; replace HB := Aside0.mk (below_step (bw1 HB.out GE327.out) hb); have NB327_332 := Aside0.mk (nbl BK327.out hg); have NB332_327 := Aside0.mk (nbg BK327.out hg); replace BK327 := Aside0.mk (bkb BK327.out hb); clear hb hbox hg; have hnb12 := NB332_327.out; have hnc12 := NB327_332.out; obtain ⟨hcz13_0, hcz13_1, hcz13_2, hcz13_3, hcz13_4, hcz13_5⟩ := bx6 BK332.out; obtain ⟨hfz13_0, hfz13_1, hfz13_2, hfz13_3, hfz13_4, hfz13_5⟩ := bf6 BK332.out))
            go_roundg k1
            case measure => have := HK1.out; omega
            case rel => exact ⟨(wrap64 (x5_1 + ((rd_T34 t328 x12_1).f4))), (wrap64 (x12_1 + 1)), ok_, ok_, H', ⟨by have := HK1.out; omega⟩, ⟨by (with_reducible repeat (first | apply Kd.R_alloc | apply Kd.R_drewN | apply Kd.R_drew)); exact Kd.R_mono (Kd.R_far (p := ⟨gb332, 5, none⟩) (Kd.R_far (p := ⟨gb332, 4, none⟩) (Kd.R_far (p := ⟨gb332, 3, none⟩) (Kd.R_far (p := ⟨gb332, 2, none⟩) (Kd.R_far (p := ⟨gb332, 1, none⟩) (Kd.R_far (p := ⟨gb332, 0, none⟩) (Kd.R_mono HO_10.out (fun k_ hk => (⟨hk, hk.2⟩ : _ ∧ k_ ≠ gb332))) (fun _ hk => hk.2) (.int .i64 ((rd_T34 t328 x12_1).f0.f0))) (fun _ hk => hk.2) (.int .i64 ((rd_T34 t328 x12_1).f0.f1))) (fun _ hk => hk.2) (.string ((rd_T34 t328 x12_1).f1))) (fun _ hk => hk.2) (.int .i64 ((rd_T34 t328 x12_1).f2))) (fun _ hk => hk.2) (.string ((rd_T34 t328 x12_1).f3))) (fun _ hk => hk.2) (.int .i64 ((rd_T34 t328 x12_1).f4))) (fun _ hk => trivial)⟩, ⟨by (with_reducible repeat (first | refine blk_drewN ?_ _ | refine blk_drew ?_ | refine blk_alloc ?_ _)); refine blk_far ?_ NB327_332.out _; (with_reducible repeat (first | refine blk_drewN ?_ _ | refine blk_drew ?_ | refine blk_alloc ?_ _)); refine blk_far ?_ NB327_332.out _; (with_reducible repeat (first | refine blk_drewN ?_ _ | refine blk_drew ?_ | refine blk_alloc ?_ _)); refine blk_far ?_ NB327_332.out _; (with_reducible repeat (first | refine blk_drewN ?_ _ | refine blk_drew ?_ | refine blk_alloc ?_ _)); refine blk_far ?_ NB327_332.out _; (with_reducible repeat (first | refine blk_drewN ?_ _ | refine blk_drew ?_ | refine blk_alloc ?_ _)); refine blk_far ?_ NB327_332.out _; (with_reducible repeat (first | refine blk_drewN ?_ _ | refine blk_drew ?_ | refine blk_alloc ?_ _)); refine blk_far ?_ NB327_332.out _; (with_reducible repeat (first | refine blk_drewN ?_ _ | refine blk_drew ?_ | refine blk_alloc ?_ _)); exact BK327.out⟩, ⟨bw2 HB.out GE327.out GE332.out⟩⟩
          · rw [if_neg c10] at H
            exact absurd H (by simp)
        · rw [if_neg c9] at H
          exact absurd H (by simp)
      · rw [if_neg c8] at H
        have c8b0 : decide (x12_1 < (t328.length : Int)) = false := decide_eq_false c8
        clear c8
        obtain rfl := Option.some.inj H
        go_wp2
        go_ret
        exact ⟨by first | rfl | (simp [errW_none, errW_some] <;> rfl) | (simp [*, errW_none, errW_some] <;> rfl), bw1 HB.out GE327.out⟩

end Go.Proofs.Ytaonemedoikieaa.M
