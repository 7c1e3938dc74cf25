-- Written by a program of this work (wip/tools/mkprint.py) over the kit's print; Lean checks it.
import Derived.Test.YtaonemedoikieaaQx0
import Derived.Test.YtaonemedoikieaaQx11
import Derived.Test.YtaonemedoikieaaQx14
import Derived.Test.YtaonemedoikieaaHAbb
namespace Go.Proofs.Ytaonemedoikieaa.Q
open Go.RowKit Go.Proofs.YtaonemedoikieaaW.PrintWords Go.Proofs.YtaonemedoikieaaW.PrintLast Go.Proofs.YtaonemedoikieaaW.PrintMore Go.Proofs.Ytaonemedoikieaa.AB
attribute [local go_sem] max2_int min2_int max_two min_two max_three min_three max_four min_four   -- for this text's walks alone
set_option linter.unusedVariables false
set_option linter.unusedSimpArgs false

/-! ### deaddropref7_Join: function 8 -/
mutual
def deaddropref7_Join.l0 : Nat → Int → Int → List (S70) → List (S34) → List (S70) → List (S34) → List (S70) → List (S34) → Option ((List (S70)) × (List (S34)))
 | 0, _, _, _, _, _, _, _, _ => none
 | k + 1, x6, x7, x310000, x310001, x311000, x311001, x316000, x316001 => if x6 < (x310001.length : Int) then (none) else (if x7 < (x311001.length : Int) then (if x7 = (x311001.length : Int) then (deaddropref7_Join.j1 k x6 x7 true x310000 x310001 x311000 x311001 x316000 x316001) else (deaddropref7_Join.j1 k x6 x7 false x310000 x310001 x311000 x311001 x316000 x316001)) else (some (x316000, x316001)))
def deaddropref7_Join.j1 : Nat → Int → Int → Bool → List (S70) → List (S34) → List (S70) → List (S34) → List (S70) → List (S34) → Option ((List (S70)) × (List (S34)))
 | 0, _, _, _, _, _, _, _, _, _ => none
 | k + 1, x6, x7, x55, x310000, x310001, x311000, x311001, x316000, x316001 => if x55 = true then (none) else (if 0 ≤ x7 then (if x7 < (x311001.length : Int) then ((deaddropref7_Has.f k x310000 ((rd_T34 x311001 x7).f0.f0) ((rd_T34 x311001 x7).f0.f1)).bind fun t318 => (if t318 = true then (none) else (if x316001.length < 2199023255552 then (deaddropref7_Join.l0 k x6 (wrap64 (x7 + 1)) x310000 x310001 x311000 x311001 x316000 (x316001 ++ [(⟨(⟨(rd_T34 x311001 x7).f0.f0, (rd_T34 x311001 x7).f0.f1⟩ : S32), (rd_T34 x311001 x7).f1, (rd_T34 x311001 x7).f2, (rd_T34 x311001 x7).f3, (rd_T34 x311001 x7).f4⟩ : S34)])) else (none)))) else (none)) else (none))
end
def deaddropref7_Join.f (k : Nat) (l0_0 : List (S70)) (l0_1 : List (S34)) (l1_0 : List (S70)) (l1_1 : List (S34)) : Option ((List (S70)) × (List (S34))) := (deaddropref7_Union.f k l0_0 l1_0).bind fun t312 => (deaddropref7_Join.l0 k 0 0 l0_0 l0_1 l1_0 l1_1 t312 ([] : List (S34)))
theorem deaddropref7_Join.mono_l : ∀ k, (∀ y0 y1 y2 y3 y4 y5 y6 y7, LeO (deaddropref7_Join.l0 k y0 y1 y2 y3 y4 y5 y6 y7) (deaddropref7_Join.l0 (k + 1) y0 y1 y2 y3 y4 y5 y6 y7)) ∧ (∀ y0 y1 y2 y3 y4 y5 y6 y7 y8, LeO (deaddropref7_Join.j1 k y0 y1 y2 y3 y4 y5 y6 y7 y8) (deaddropref7_Join.j1 (k + 1) y0 y1 y2 y3 y4 y5 y6 y7 y8))
 | 0 => ⟨fun _ _ _ _ _ _ _ _ r h => by simp [deaddropref7_Join.l0] at h, fun _ _ _ _ _ _ _ _ _ r h => by simp [deaddropref7_Join.j1] at h⟩
 | k + 1 => by
  obtain ⟨ih0, ih1⟩ := deaddropref7_Join.mono_l k
  refine ⟨?_, ?_⟩
  ·
   intro y0 y1 y2 y3 y4 y5 y6 y7
   unfold deaddropref7_Join.l0
   repeat' first
   | (with_reducible exact ih0 _ _ _ _ _ _ _ _)
   | (with_reducible exact ih1 _ _ _ _ _ _ _ _ _)
   | (with_reducible exact deaddropref7_Has.mono _ _ _ _)
   | (with_reducible exact deaddropref7_Union.mono _ _ _)
   | (with_reducible exact LeO.refl _)
   | (with_reducible exact LeO.none _)
   | (with_reducible refine LeO.ite ?_ ?_)
   | (with_reducible refine LeO.bind ?_ (fun _ => ?_))
   | exact ih0 _ _ _ _ _ _ _ _
   | exact ih1 _ _ _ _ _ _ _ _ _
   | exact deaddropref7_Has.mono _ _ _ _
   | exact deaddropref7_Union.mono _ _ _
   | exact LeO.none _
   | refine LeO.ite ?_ ?_
   | refine LeO.bind ?_ (fun _ => ?_)
  ·
   intro y0 y1 y2 y3 y4 y5 y6 y7 y8
   unfold deaddropref7_Join.j1
   repeat' first
   | (with_reducible exact ih0 _ _ _ _ _ _ _ _)
   | (with_reducible exact ih1 _ _ _ _ _ _ _ _ _)
   | (with_reducible exact deaddropref7_Has.mono _ _ _ _)
   | (with_reducible exact deaddropref7_Union.mono _ _ _)
   | (with_reducible exact LeO.refl _)
   | (with_reducible exact LeO.none _)
   | (with_reducible refine LeO.ite ?_ ?_)
   | (with_reducible refine LeO.bind ?_ (fun _ => ?_))
   | exact ih0 _ _ _ _ _ _ _ _
   | exact ih1 _ _ _ _ _ _ _ _ _
   | exact deaddropref7_Has.mono _ _ _ _
   | exact deaddropref7_Union.mono _ _ _
   | exact LeO.none _
   | refine LeO.ite ?_ ?_
   | refine LeO.bind ?_ (fun _ => ?_)
theorem deaddropref7_Join.mono : ∀ a0 a1 a2 a3 k, LeO (deaddropref7_Join.f k a0 a1 a2 a3) (deaddropref7_Join.f (k + 1) a0 a1 a2 a3) := by
 intro a0 a1 a2 a3 k
 obtain ⟨ih0, ih1⟩ := deaddropref7_Join.mono_l k
 unfold deaddropref7_Join.f
 repeat' first
  | (with_reducible exact ih0 _ _ _ _ _ _ _ _)
  | (with_reducible exact ih1 _ _ _ _ _ _ _ _ _)
  | (with_reducible exact deaddropref7_Has.mono _ _ _ _)
  | (with_reducible exact deaddropref7_Union.mono _ _ _)
  | (with_reducible exact LeO.refl _)
  | (with_reducible exact LeO.none _)
  | (with_reducible refine LeO.ite ?_ ?_)
  | (with_reducible refine LeO.bind ?_ (fun _ => ?_))
  | exact ih0 _ _ _ _ _ _ _ _
  | exact ih1 _ _ _ _ _ _ _ _ _
  | exact deaddropref7_Has.mono _ _ _ _
  | exact deaddropref7_Union.mono _ _ _
  | exact LeO.none _
  | refine LeO.ite ?_ ?_
  | refine LeO.bind ?_ (fun _ => ?_)
def deaddropref7_Join.T4 : Bool × List (List Nat × List Nat) := (true, [([], []), ([], []), ([1], [1]), ([2], [2]), ([0, 3], [0, 3]), ([4], [4]), ([5], [5]), ([5], [5]), ([7, 5], [5, 7]), ([8, 5], [5, 8]), ([6, 9, 5], [5, 6, 9]), ([10, 5, 5], [5, 10]), ([11], [11]), ([12, 11], [11, 12]), ([11], [11]), ([13, 14, 11], [11, 13, 14]), ([15, 11], [11, 15]), ([16, 11], [11, 16]), ([11], [11]), ([18, 11], [11, 18]), ([11], [11]), ([19, 20, 11], [11, 19, 20]), ([21, 11], [11, 21]), ([22, 11], [11, 22]), ([17, 23, 11, 11], [11, 17, 23]), ([24, 11], [11, 24]), ([11, 25, 5], [5, 11, 25]), ([5, 26], [5, 26])])
def deaddropref7_Join.B4 : List Nat := [0, 0, 2, 6, 15, 31, 63, 63, 191, 447, 1023, 2047, 4095, 8191, 4095, 32767, 65535, 131071, 4095, 266239, 4095, 1839103, 3936255, 8130559, 16777215, 33554431, 67108863, 134217727]
theorem deaddropref7_Join.tab4 : rtab .any (opsOf Try.f8 4) = deaddropref7_Join.T4 := by kernel_rfl
theorem deaddropref7_Join.bits4 : waitsOk deaddropref7_Join.T4.2 deaddropref7_Join.B4 = true := by kernel_rfl
def deaddropref7_Join.T11 : Bool × List (List Nat × List Nat) := (true, [([], []), ([0], [0]), ([], []), ([2], [2]), ([], []), ([3, 4], [3, 4]), ([5], [5]), ([6], [6]), ([1, 7], [1, 7]), ([0, 1, 2, 3, 4, 5, 6, 7, 8], []), ([9, 8, 8, 0, 1, 2, 3, 4, 5, 6, 7, 8], [8, 9])])
def deaddropref7_Join.B11 : List Nat := [0, 1, 0, 4, 0, 28, 60, 124, 255, 511, 1023]
theorem deaddropref7_Join.tab11 : rtab .any (opsOf Try.f8 11) = deaddropref7_Join.T11 := by kernel_rfl
theorem deaddropref7_Join.bits11 : waitsOk deaddropref7_Join.T11.2 deaddropref7_Join.B11 = true := by kernel_rfl
set_option maxHeartbeats 8000000 in
set_option maxRecDepth 100000 in
theorem deaddropref7_Join.calls (k : Nat) (A0_0 : Option Addr) (c0_0 : Nat) (l0_0 : List (S70)) (A0_1 : Option Addr) (c0_1 : Nat) (l0_1 : List (S34)) (A1_0 : Option Addr) (c1_0 : Nat) (l1_0 : List (S70)) (A1_1 : Option Addr) (c1_1 : Nat) (l1_1 : List (S34)) (r1 : List (S70)) (r2 : List (S34)) (w : World) (hr0_0 : Kd.C k70 w A0_0 l0_0.length l0_0) (hc0_0 : l0_0.length ≤ c0_0) (hr0_1 : Kd.C k34 w A0_1 l0_1.length l0_1) (hc0_1 : l0_1.length ≤ c0_1) (hr1_0 : Kd.C k70 w A1_0 l1_0.length l1_0) (hc1_0 : l1_0.length ≤ c1_0) (hr1_1 : Kd.C k34 w A1_1 l1_1.length l1_1) (hc1_1 : l1_1.length ≤ c1_1) (h : deaddropref7_Join.f k l0_0 l0_1 l1_0 l1_1 = some (r1, r2)) :
 Calls Try.prog 8 #[.agg #[.slice A0_0 l0_0.length c0_0, .slice A0_1 l0_1.length c0_1], .agg #[.slice A1_0 l1_0.length c1_0, .slice A1_1 l1_1.length c1_1]] w fun e w' => ∃ v0_ v1_ : Value, e = .returned (.agg #[v0_, v1_]) ∧ Kd.R k70 70 w' w.heap.size (fun _ => True) v0_ r1 ∧ Kd.R k34 34 w' w.heap.size (fun _ => True) v1_ r2 ∧ Below w.heap.size w w' := by
 have hu28 := Try.underlying28
 have hu32 := Try.underlying32
 have hu34 := Try.underlying34
 have HR0_0 := Aside0.mk hr0_0
 have HC0_0 := Aside0.mk hc0_0
 clear hr0_0 hc0_0
 have HR0_1 := Aside0.mk hr0_1
 have HC0_1 := Aside0.mk hc0_1
 clear hr0_1 hc0_1
 have HR1_0 := Aside0.mk hr1_0
 have HC1_0 := Aside0.mk hc1_0
 clear hr1_0 hc1_0
 have HR1_1 := Aside0.mk hr1_1
 have HC1_1 := Aside0.mk hc1_1
 clear hr1_1 hc1_1
 have HB := Aside0.mk (Below.refl w.heap.size w)
 have H : ((deaddropref7_Union.f k l0_0 l1_0).bind fun t312 => (deaddropref7_Join.l0 k 0 0 l0_0 l0_1 l1_0 l1_1 t312 ([] : List (S34)))) = some (r1, r2) := h
 clear h
 replace H := Option.bind_eq_some_iff.mp H
 obtain ⟨t312, A30, H⟩ := H
 replace H : (deaddropref7_Join.l0 k 0 0 l0_0 l0_1 l1_0 l1_1 t312 ([] : List (S34))) = some (r1, r2) := H
 have A3 := Aside0.mk A30
 clear A30
 have H' := Aside0.mk H
 clear H
 go_enter Try.func8, Try.ntmps8
 go_wp2_with (first | ((with_reducible refine gate_dst (N := 2) rfl ?_); (try (refine gate_guard (by rfl) ?_; dsimp only)); refine box_event ?hg (N := 2) ?hd (cs := #[.slice A0_0 l0_0.length c0_0, .slice A0_1 l0_1.length c0_1]) (t := 28) ?hr ?_; (case hd => rfl); (case hg => rfl); (case hr => first | (go_simp; done) | (go_simp; rfl)); intro gb309 hg w4 hbox hb; have BK309 := Aside0.mk (hbox); have GW309 := Aside0.mk ((by rw [hg]; exact (below_size (bw HB.out)) : w.heap.size ≤ gb309)); have GE309 := Aside0.mk ((by rw [hg]; exact (below_size (bw HB.out)) : w.heap.size ≤ gb309)); replace HB := Aside0.mk (below_step (bw HB.out) hb); clear hb hbox hg) | ((with_reducible refine gate_dst (N := 3) rfl ?_); (try (refine gate_guard (by rfl) ?_; dsimp only)); refine box_event ?hg (N := 3) ?hd (cs := #[.slice A1_0 l1_0.length c1_0, .slice A1_1 l1_1.length c1_1]) (t := 28) ?hr ?_; (case hd => rfl); (case hg => rfl); (case hr => first | (go_simp; done) | (go_simp; rfl)); intro gb310 hg w5 hbox hb; have BK310 := Aside0.mk (hbox); have GW310 := Aside0.mk ((by rw [hg]; exact (below_size (bw1 HB.out GE309.out)) : w.heap.size ≤ gb310)); have GE310 := Aside0.mk ((by rw [hg]; exact (below_size (bw1 HB.out GE309.out)) : w.heap.size ≤ gb310)); replace HB := Aside0.mk (below_step (bw1 HB.out GE309.out) hb); have NB309_310 := Aside0.mk ((by rw [hg]; exact Nat.ne_of_lt (blk_lt (g := gb309) (o := .cells #[.slice A0_0 l0_0.length c0_0, .slice A0_1 l0_1.length c0_1] 28 (0, 0)) (bk BK309.out)) : gb309 ≠ gb310)); have NB310_309 := Aside0.mk ((by rw [hg]; exact Nat.ne_of_gt (blk_lt (g := gb309) (o := .cells #[.slice A0_0 l0_0.length c0_0, .slice A0_1 l0_1.length c0_1] 28 (0, 0)) (bk BK309.out)) : gb310 ≠ gb309)); replace BK309 := Aside0.mk (blk_below (g := gb309) (o := .cells #[.slice A0_0 l0_0.length c0_0, .slice A0_1 l0_1.length c0_1] 28 (0, 0)) (bk BK309.out) hb); clear hb hbox hg) | ((with_reducible refine gate_dst (N := 4) rfl ?_); (try (refine gate_guard (by rfl) ?_; dsimp only)); refine box_event ?hg (N := 4) ?hd (cs := #[.slice none 0 0, .slice none 0 0]) (t := 28) ?hr ?_; (case hd => rfl); (case hg => rfl); (case hr => first | (go_simp; done) | (go_simp; rfl)); intro gb311 hg w6 hbox hb; have BK311 := Aside0.mk (hbox); have GW311 := Aside0.mk ((by rw [hg]; exact (below_size (bw2 HB.out GE309.out GE310.out)) : w.heap.size ≤ gb311)); have GE311 := Aside0.mk ((by rw [hg]; exact (below_size (bw2 HB.out GE309.out GE310.out)) : w.heap.size ≤ gb311)); replace HB := Aside0.mk (below_step (bw2 HB.out GE309.out GE310.out) hb); have NB309_311 := Aside0.mk ((by rw [hg]; exact Nat.ne_of_lt (blk_lt (g := gb309) (o := .cells #[.slice A0_0 l0_0.length c0_0, .slice A0_1 l0_1.length c0_1] 28 (0, 0)) (bk BK309.out)) : gb309 ≠ gb311)); have NB311_309 := Aside0.mk ((by rw [hg]; exact Nat.ne_of_gt (blk_lt (g := gb309) (o := .cells #[.slice A0_0 l0_0.length c0_0, .slice A0_1 l0_1.length c0_1] 28 (0, 0)) (bk BK309.out)) : gb311 ≠ gb309)); replace BK309 := Aside0.mk (blk_below (g := gb309) (o := .cells #[.slice A0_0 l0_0.length c0_0, .slice A0_1 l0_1.length c0_1] 28 (0, 0)) (bk BK309.out) hb); have NB310_311 := Aside0.mk ((by rw [hg]; exact Nat.ne_of_lt (blk_lt (g := gb310) (o := .cells #[.slice A1_0 l1_0.length c1_0, .slice A1_1 l1_1.length c1_1] 28 (0, 0)) (bk BK310.out)) : gb310 ≠ gb311)); have NB311_310 := Aside0.mk ((by rw [hg]; exact Nat.ne_of_gt (blk_lt (g := gb310) (o := .cells #[.slice A1_0 l1_0.length c1_0, .slice A1_1 l1_1.length c1_1] 28 (0, 0)) (bk BK310.out)) : gb311 ≠ gb310)); replace BK310 := Aside0.mk (blk_below (g := gb310) (o := .cells #[.slice A1_0 l1_0.length c1_0, .slice A1_1 l1_1.length c1_1] 28 (0, 0)) (bk BK310.out) hb); clear hb hbox hg; have hnb7 := NB309_310.out; have hnc7 := NB310_309.out; have hnb8 := NB309_311.out; have hnc8 := NB311_309.out; have hcz9_0 : w6.cell? ⟨gb309, 0, none⟩ = some (.slice A0_0 l0_0.length c0_0) := (blk_cell BK309.out 0).trans rfl; have hcz9_1 : w6.cell? ⟨gb309, 1, none⟩ = some (.slice A0_1 l0_1.length c0_1) := (blk_cell BK309.out 1).trans rfl; have hfz9_0 := blk_frozen BK309.out 0; have hfz9_1 := blk_frozen BK309.out 1; have hnb10 := NB310_311.out; have hnc10 := NB311_310.out; have hcz11_0 : w6.cell? ⟨gb310, 0, none⟩ = some (.slice A1_0 l1_0.length c1_0) := (blk_cell BK310.out 0).trans rfl; have hcz11_1 : w6.cell? ⟨gb310, 1, none⟩ = some (.slice A1_1 l1_1.length c1_1) := (blk_cell BK310.out 1).trans rfl; have hfz11_0 := blk_frozen BK310.out 0; have hfz11_1 := blk_frozen BK310.out 1) | ((with_reducible refine gate_callee (f := 23) rfl ?_); refine goesL_ (some 14) rfl rfl Try.func23 (by kernel_rfl) rfl #[.slice A0_0 l0_0.length c0_0, .slice A1_0 l1_0.length c1_0] rfl ar_ ?_; (with_reducible refine (deaddropref7_Union.calls k _ _ l0_0 _ _ l1_0 t312 _ ?side1 ?side2 ?side3 ?side4 A3.out).mono ?_); (case side1 => exact cr (Kd.C_below HR0_0.out HB.out)); (case side2 => exact HC0_0.out); (case side3 => exact cr (Kd.C_below HR1_0.out HB.out)); (case side4 => exact HC1_0.out); rintro e w12 ⟨v313, rfl, ho0, hb⟩; refine ⟨_, rfl, ?_⟩; have HO314 := Aside0.mk (Kd.R_lower ho0 (below_size (bw3 HB.out GE309.out GE310.out GE311.out))); replace BK309 := Aside0.mk (blk_below (g := gb309) (o := .cells #[.slice A0_0 l0_0.length c0_0, .slice A0_1 l0_1.length c0_1] 28 (0, 0)) (bk BK309.out) hb); replace BK310 := Aside0.mk (blk_below (g := gb310) (o := .cells #[.slice A1_0 l1_0.length c1_0, .slice A1_1 l1_1.length c1_1] 28 (0, 0)) (bk BK310.out) hb); replace BK311 := Aside0.mk (blk_below (g := gb311) (o := .cells #[.slice none 0 0, .slice none 0 0] 28 (0, 0)) (bk BK311.out) hb); replace HB := Aside0.mk (below_step (bw3 HB.out GE309.out GE310.out GE311.out) hb); (try clear hb); (try clear hb2); (try clear hk); (try clear hi); (try clear ho0); obtain ⟨Ao13, co13, eo13⟩ := Kd.R_slice HO314.out; subst eo13) | ((with_reducible refine gate_dst (N := 5) rfl ?_); (try (refine gate_guard (by rfl) ?_; dsimp only)); refine box_event ?hg (N := 5) ?hd (cs := #[.slice none 0 0, .slice none 0 0]) (t := 28) ?hr ?_; (case hd => rfl); (case hg => rfl); (case hr => first | (go_simp; done) | (go_simp; rfl)); intro gb315 hg w14 hbox hb; replace HO314 := Aside0.mk (Kd.R_below (rk HO314.out) hb); have BK315 := Aside0.mk (hbox); have GW315 := Aside0.mk ((by rw [hg]; exact (below_size (bw3 HB.out GE309.out GE310.out GE311.out)) : w.heap.size ≤ gb315)); have GE315 := Aside0.mk ((by rw [hg]; exact (below_size (bw3 HB.out GE309.out GE310.out GE311.out)) : w.heap.size ≤ gb315)); replace HB := Aside0.mk (below_step (bw3 HB.out GE309.out GE310.out GE311.out) hb); have NB309_315 := Aside0.mk ((by rw [hg]; exact Nat.ne_of_lt (blk_lt (g := gb309) (o := .cells #[.slice A0_0 l0_0.length c0_0, .slice A0_1 l0_1.length c0_1] 28 (0, 0)) (bk BK309.out)) : gb309 ≠ gb315)); have NB315_309 := Aside0.mk ((by rw [hg]; exact Nat.ne_of_gt (blk_lt (g := gb309) (o := .cells #[.slice A0_0 l0_0.length c0_0, .slice A0_1 l0_1.length c0_1] 28 (0, 0)) (bk BK309.out)) : gb315 ≠ gb309)); replace BK309 := Aside0.mk (blk_below (g := gb309) (o := .cells #[.slice A0_0 l0_0.length c0_0, .slice A0_1 l0_1.length c0_1] 28 (0, 0)) (bk BK309.out) hb); have NB310_315 := Aside0.mk ((by rw [hg]; exact Nat.ne_of_lt (blk_lt (g := gb310) (o := .cells #[.slice A1_0 l1_0.length c1_0, .slice A1_1 l1_1.length c1_1] 28 (0, 0)) (bk BK310.out)) : gb310 ≠ gb315)); have NB315_310 := Aside0.mk ((by rw [hg]; exact Nat.ne_of_gt (blk_lt (g := gb310) (o := .cells #[.slice A1_0 l1_0.length c1_0, .slice A1_1 l1_1.length c1_1] 28 (0, 0)) (bk BK310.out)) : gb315 ≠ gb310)); replace BK310 := Aside0.mk (blk_below (g := gb310) (o := .cells #[.slice A1_0 l1_0.length c1_0, .slice A1_1 l1_1.length c1_1] 28 (0, 0)) (bk BK310.out) hb); have NB311_315 := Aside0.mk ((by rw [hg]; exact Nat.ne_of_lt (blk_lt (g := gb311) (o := .cells #[.slice none 0 0, .slice none 0 0] 28 (0, 0)) (bk BK311.out)) : gb311 ≠ gb315)); have NB315_311 := Aside0.mk ((by rw [hg]; exact Nat.ne_of_gt (blk_lt (g := gb311) (o := .cells #[.slice none 0 0, .slice none 0 0] 28 (0, 0)) (bk BK311.out)) : gb315 ≠ gb311)); replace BK311 := Aside0.mk (blk_below (g := gb311) (o := .cells #[.slice none 0 0, .slice none 0 0] 28 (0, 0)) (bk BK311.out) hb); clear hb hbox hg; have hnb15 := NB315_309.out; have hnc15 := NB309_315.out; have hnb16 := NB315_310.out; have hnc16 := NB310_315.out; have hnb17 := NB315_311.out; have hnc17 := NB311_315.out; have hcz18_0 : w14.cell? ⟨gb315, 0, none⟩ = some (.slice none 0 0) := (blk_cell BK315.out 0).trans rfl; have hcz18_1 : w14.cell? ⟨gb315, 1, none⟩ = some (.slice none 0 0) := (blk_cell BK315.out 1).trans rfl; have hfz18_0 := blk_frozen BK315.out 0; have hfz18_1 := blk_frozen BK315.out 1))
 go_loopg [6, 7] k (fun kq v6 v7 w' => ∃ (x6_1 : Int) (x7_1 : Int) (x316001_1 : List (S34)) (u316001 : Value), v6 = .int .i64 x6_1 ∧ v7 = .int .i64 x7_1 ∧ Aside0 (deaddropref7_Join.l0 kq x6_1 x7_1 l0_0 l0_1 l1_0 l1_1 t312 x316001_1 = some (r1, r2)) ∧ Aside0 (kq ≤ k) ∧ Aside0 (Kd.R k70 70 w' w.heap.size (fun _ => True) (.slice Ao13 t312.length co13) t312) ∧ Aside0 (Kd.R k34 34 w' w.heap.size (fun _ => True) u316001 x316001_1) ∧ Aside0 (w'.heap[gb309]? = some (.cells #[(.slice A0_0 l0_0.length c0_0), (.slice A0_1 l0_1.length c0_1)] 28 (0, 0))) ∧ Aside0 (w'.heap[gb310]? = some (.cells #[(.slice A1_0 l1_0.length c1_0), (.slice A1_1 l1_1.length c1_1)] 28 (0, 0))) ∧ Aside0 (w'.heap[gb311]? = some (.cells #[(.slice none 0 0), (.slice none 0 0)] 28 (0, 0))) ∧ Aside0 (w'.heap[gb315]? = some (.cells #[(.slice Ao13 t312.length co13), u316001] 28 (0, 0))) ∧ Aside0 (Below w.heap.size w w'))
 case atStart => exact ⟨(0), (0), (([] : List (S34))), (.slice none 0 0), ok_, ok_, H', ⟨Nat.le_refl _⟩, ⟨by (with_reducible repeat (first | apply Kd.R_alloc | apply Kd.R_drewN | apply Kd.R_drew)); exact Kd.R_mono (Kd.R_far (p := ⟨gb315, 1, none⟩) (Kd.R_far (p := ⟨gb315, 0, none⟩) (Kd.R_types HO314.out BK315.out (by decide)) (fun _ hk => hk.2) (.slice Ao13 t312.length co13)) (fun _ hk => hk.2) (.slice none 0 0)) (fun _ hk => trivial)⟩, ⟨by first | exact Kd.R_nil _ _ _ _ _ | exact Kd.N_nil _ _ _ _ _ | exact Kd.V_nil _ _ _ _ _ | exact Kd.Q_nil _ _ _ _ _ | exact Kd.S_nil _ _ _ _ _⟩, ⟨by (with_reducible repeat (first | refine blk_drewN ?_ _ | refine blk_drew ?_ | refine blk_alloc ?_ _)); refine blk_far ?_ NB309_315.out _; (with_reducible repeat (first | refine blk_drewN ?_ _ | refine blk_drew ?_ | refine blk_alloc ?_ _)); refine blk_far ?_ NB309_315.out _; (with_reducible repeat (first | refine blk_drewN ?_ _ | refine blk_drew ?_ | refine blk_alloc ?_ _)); exact BK309.out⟩, ⟨by (with_reducible repeat (first | refine blk_drewN ?_ _ | refine blk_drew ?_ | refine blk_alloc ?_ _)); refine blk_far ?_ NB310_315.out _; (with_reducible repeat (first | refine blk_drewN ?_ _ | refine blk_drew ?_ | refine blk_alloc ?_ _)); refine blk_far ?_ NB310_315.out _; (with_reducible repeat (first | refine blk_drewN ?_ _ | refine blk_drew ?_ | refine blk_alloc ?_ _)); exact BK310.out⟩, ⟨by (with_reducible repeat (first | refine blk_drewN ?_ _ | refine blk_drew ?_ | refine blk_alloc ?_ _)); refine blk_far ?_ NB311_315.out _; (with_reducible repeat (first | refine blk_drewN ?_ _ | refine blk_drew ?_ | refine blk_alloc ?_ _)); refine blk_far ?_ NB311_315.out _; (with_reducible repeat (first | refine blk_drewN ?_ _ | refine blk_drew ?_ | refine blk_alloc ?_ _)); exact BK311.out⟩, ⟨by (with_reducible repeat (first | refine blk_drewN ?_ _ | refine blk_drew ?_ | refine blk_alloc ?_ _)); refine blk_put (cs := #[.slice Ao13 t312.length co13, .slice none 0 0]) ?_ 1 _ rfl; (with_reducible repeat (first | refine blk_drewN ?_ _ | refine blk_drew ?_ | refine blk_alloc ?_ _)); refine blk_put (cs := #[.slice none 0 0, .slice none 0 0]) ?_ 0 _ rfl; (with_reducible repeat (first | refine blk_drewN ?_ _ | refine blk_drew ?_ | refine blk_alloc ?_ _)); exact BK315.out⟩, ⟨by repeat (first | (with_reducible first | exact HB.out | apply below_alloc | apply pw_below_drewN | apply below_drew1 | refine below_set ?_ GE309.out | refine below_set ?_ GE310.out | refine below_set ?_ GE311.out | refine below_set ?_ GE315.out) | exact HB.out)⟩⟩
 case round =>
  clear H'
  try clear c1
  try clear c2
  try clear p2
  try clear c7
  try clear c8
  try clear c10
  try clear c15
  try clear c16
  try clear c17
  try clear hcz11_0
  try clear hcz11_1
  try clear hcz18_0
  try clear hcz18_1
  try clear hcz9_0
  try clear hcz9_1
  try clear hfz11_0
  try clear hfz11_1
  try clear hfz18_0
  try clear hfz18_1
  try clear hfz9_0
  try clear hfz9_1
  obtain ⟨x6_1, x7_1, x316001_1, u316001, rfl, rfl, HA, HK1, HO_316000, HO_316001, BK309, BK310, BK311, BK315, HB⟩ := hrel
  cases gk with
  | zero => exact absurd HA.out (by simp [deaddropref7_Join.l0])
  | succ k1 =>
   have H := HA.out
   clear HA
   simp only [deaddropref7_Join.l0] at H
   by_cases c19 : x6_1 < (l0_1.length : Int)
   ·
    rw [if_pos c19] at H
    exact absurd H (by simp)
   rw [if_neg c19] at H
   have c19b0 : decide (x6_1 < (l0_1.length : Int)) = false := decide_eq_false c19
   clear c19
   by_cases c20 : x7_1 < (l1_1.length : Int)
   ·
    rw [if_pos c20] at H
    have c20b0 : decide (x7_1 < (l1_1.length : Int)) = true := decide_eq_true c20
    clear c20
    have HC21 := Aside0.mk H
    clear H
    have hnb22 := NB309_310.out
    have hnc22 := NB310_309.out
    have hnb23 := NB309_311.out
    have hnc23 := NB311_309.out
    have hnb24 := NB309_315.out
    have hnc24 := NB315_309.out
    have hcz25_0 : wr.cell? ⟨gb309, 0, none⟩ = some (.slice A0_0 l0_0.length c0_0) := (blk_cell BK309.out 0).trans rfl
    have hcz25_1 : wr.cell? ⟨gb309, 1, none⟩ = some (.slice A0_1 l0_1.length c0_1) := (blk_cell BK309.out 1).trans rfl
    have hfz25_0 := blk_frozen BK309.out 0
    have hfz25_1 := blk_frozen BK309.out 1
    have hnb26 := NB310_311.out
    have hnc26 := NB311_310.out
    have hnb27 := NB310_315.out
    have hnc27 := NB315_310.out
    have hcz28_0 : wr.cell? ⟨gb310, 0, none⟩ = some (.slice A1_0 l1_0.length c1_0) := (blk_cell BK310.out 0).trans rfl
    have hcz28_1 : wr.cell? ⟨gb310, 1, none⟩ = some (.slice A1_1 l1_1.length c1_1) := (blk_cell BK310.out 1).trans rfl
    have hfz28_0 := blk_frozen BK310.out 0
    have hfz28_1 := blk_frozen BK310.out 1
    go_upto_region 4 with (fail)
    go_cut [55] (fun v55 wc => ∃ (kq : Nat) (x55_20 : Bool), v55 = .bool x55_20 ∧ Aside0 (deaddropref7_Join.j1 kq x6_1 x7_1 x55_20 l0_0 l0_1 l1_0 l1_1 t312 x316001_1 = some (r1, r2)) ∧ Aside0 (kq ≤ k1) ∧ Aside0 (Kd.R k70 70 wc w.heap.size (fun _ => True) (.slice Ao13 t312.length co13) t312) ∧ Aside0 (Kd.R k34 34 wc w.heap.size (fun _ => True) u316001 x316001_1) ∧ Aside0 (wc.heap[gb309]? = some (.cells #[(.slice A0_0 l0_0.length c0_0), (.slice A0_1 l0_1.length c0_1)] 28 (0, 0))) ∧ Aside0 (wc.heap[gb310]? = some (.cells #[(.slice A1_0 l1_0.length c1_0), (.slice A1_1 l1_1.length c1_1)] 28 (0, 0))) ∧ Aside0 (wc.heap[gb311]? = some (.cells #[(.slice none 0 0), (.slice none 0 0)] 28 (0, 0))) ∧ Aside0 (wc.heap[gb315]? = some (.cells #[(.slice Ao13 t312.length co13), u316001] 28 (0, 0))) ∧ Aside0 (Below w.heap.size w wc))
    case first =>
     have H := HC21.out
     clear HC21
     by_cases c29 : x7_1 = (l1_1.length : Int)
     ·
      rw [if_pos c29] at H
      have c29b0 : (x7_1 == (l1_1.length : Int)) = true := beq_iff_eq.mpr c29
      have c29b1 : (x7_1 != (l1_1.length : Int)) = false := bne_eq_false_iff_eq.mpr c29
      clear c29
      (first | rw [c29b0] | (simp only [i64_w, i32_w]; rw [c29b0]) | skip)
      have H' := Aside0.mk H
      clear H
      try go_wp2
      replace HO_316000 := Aside0.mk (Kd.R_drew HO_316000.out)
      replace HO_316001 := Aside0.mk (Kd.R_drew HO_316001.out)
      replace BK309 := Aside0.mk (blk_drew BK309.out)
      replace BK310 := Aside0.mk (blk_drew BK310.out)
      replace BK311 := Aside0.mk (blk_drew BK311.out)
      replace BK315 := Aside0.mk (blk_drew BK315.out)
      replace HB := Aside0.mk (below_drew1 HB.out)
      refine start_ (n := 28) (S := fun w' => w'.cell? ⟨gb310, 0, none⟩ = some (.slice A1_0 l1_0.length c1_0) ∧ w'.cell? ⟨gb310, 1, none⟩ = some (.slice A1_1 l1_1.length c1_1)) (ds := []) (fl 0 28) (by kernel_rfl) rfl rfl ⟨(blk_cell BK310.out 0).trans rfl, (blk_cell BK310.out 1).trans rfl⟩ (fun hHeld => ?_); refine with_tabW deaddropref7_Join.tab4 deaddropref7_Join.bits4 (fun HT_ HW_ => ?_)
      generalize wr.drew = w30 at HO_316000 HO_316001 BK309 BK310 BK311 BK315 HB hHeld ⊢
      refine pure_ (i := 0) (N := some 28) (fl 1 28) rfl rfl (any_of HT_.out (by kernel_rfl)) (fun _ _ _ h => h) (Or.inl ⟨by rfl, py⟩) pa ?_
      refine pure_ (i := 1) (N := some 29) (fl 2 28) rfl rfl (any_of HT_.out (by kernel_rfl)) (fun _ _ _ h => h) (Or.inl ⟨by rfl, py⟩) pa ?_
      refine take_ (i := 2) (N := some 30) (v := ?_) (a' := ?_) (fl 3 28) rfl rfl (take_ofW HT_.out HW_.out (by kernel_rfl)) (fun _ _ _ h => h) (Or.inl ⟨by rfl, ?_⟩) hHeld ?_ ?_
      rotate_left
      ·
       rintro w' ⟨s0, s1⟩
       go_simp
       with_reducible rfl
      rotate_left
      ·
       simp only [Act.put, List.setIfInBounds_toArray, List.set_cons_zero, List.set_cons_succ, i64_w, i32_w]
       rfl
      refine pure_ (i := 3) (N := some 31) (fl 4 28) rfl rfl (any_of HT_.out (by kernel_rfl)) (fun _ _ _ h => h) (Or.inl ⟨by rfl, py⟩) pa ?_
      refine pure_ (i := 4) (N := some 32) (fl 5 28) rfl rfl (any_of HT_.out (by kernel_rfl)) (fun _ _ _ h => h) (Or.inl ⟨by rfl, py⟩) pa ?_
      refine pure_ (i := 5) (N := some 33) (fl 6 28) rfl rfl (any_of HT_.out (by kernel_rfl)) (fun _ _ _ h => h) (Or.inl ⟨by rfl, py⟩) pa ?_
      refine pure_ (i := 6) (N := some 34) (v := undef) (a' := ?_) (fl 7 28) rfl rfl (any_of HT_.out (by kernel_rfl)) (fun _ _ _ h => h) (Or.inr ⟨by rfl, rfl⟩) ?_ ?_
      rotate_left
      ·
       simp only [Act.put, List.setIfInBounds_toArray, List.set_cons_zero, List.set_cons_succ, i64_w, i32_w]
       rfl
      refine pure_ (i := 7) (N := some 35) (v := undef) (a' := ?_) (fl 8 28) rfl rfl (any_of HT_.out (by kernel_rfl)) (fun _ _ _ h => h) (Or.inr ⟨by rfl, rfl⟩) ?_ ?_
      rotate_left
      ·
       simp only [Act.put, List.setIfInBounds_toArray, List.set_cons_zero, List.set_cons_succ, i64_w, i32_w]
       rfl
      refine pure_ (i := 8) (N := some 36) (v := undef) (a' := ?_) (fl 9 28) rfl rfl (any_of HT_.out (by kernel_rfl)) (fun _ _ _ h => h) (Or.inr ⟨by rfl, rfl⟩) ?_ ?_
      rotate_left
      ·
       simp only [Act.put, List.setIfInBounds_toArray, List.set_cons_zero, List.set_cons_succ, i64_w, i32_w]
       rfl
      refine pure_ (i := 9) (N := some 37) (v := undef) (a' := ?_) (fl 10 28) rfl rfl (any_of HT_.out (by kernel_rfl)) (fun _ _ _ h => h) (Or.inr ⟨by rfl, rfl⟩) ?_ ?_
      rotate_left
      ·
       simp only [Act.put, List.setIfInBounds_toArray, List.set_cons_zero, List.set_cons_succ, i64_w, i32_w]
       rfl
      refine pure_ (i := 10) (N := some 38) (v := undef) (a' := ?_) (fl 11 28) rfl rfl (any_of HT_.out (by kernel_rfl)) (fun _ _ _ h => h) (Or.inr ⟨by rfl, rfl⟩) ?_ ?_
      rotate_left
      ·
       simp only [Act.put, List.setIfInBounds_toArray, List.set_cons_zero, List.set_cons_succ, i64_w, i32_w]
       rfl
      refine pure_ (i := 11) (N := some 39) (v := undef) (a' := ?_) (fl 12 28) rfl rfl (any_of HT_.out (by kernel_rfl)) (fun _ _ _ h => h) (Or.inr ⟨by rfl, rfl⟩) ?_ ?_
      rotate_left
      ·
       simp only [Act.put, List.setIfInBounds_toArray, List.set_cons_zero, List.set_cons_succ, i64_w, i32_w]
       rfl
      refine pure_ (i := 12) (N := some 40) (v := undef) (a' := ?_) (fl 13 28) rfl rfl (any_of HT_.out (by kernel_rfl)) (fun _ _ _ h => h) (Or.inr ⟨by rfl, rfl⟩) ?_ ?_
      rotate_left
      ·
       simp only [Act.put, List.setIfInBounds_toArray, List.set_cons_zero, List.set_cons_succ, i64_w, i32_w]
       rfl
      refine pure_ (i := 13) (N := some 41) (v := undef) (a' := ?_) (fl 14 28) rfl rfl (any_of HT_.out (by kernel_rfl)) (fun _ _ _ h => h) (Or.inr ⟨by rfl, rfl⟩) ?_ ?_
      rotate_left
      ·
       simp only [Act.put, List.setIfInBounds_toArray, List.set_cons_zero, List.set_cons_succ, i64_w, i32_w]
       rfl
      refine pure_ (i := 14) (N := some 42) (v := undef) (a' := ?_) (fl 15 28) rfl rfl (any_of HT_.out (by kernel_rfl)) (fun _ _ _ h => h) (Or.inr ⟨by rfl, rfl⟩) ?_ ?_
      rotate_left
      ·
       simp only [Act.put, List.setIfInBounds_toArray, List.set_cons_zero, List.set_cons_succ, i64_w, i32_w]
       rfl
      refine pure_ (i := 15) (N := some 43) (v := undef) (a' := ?_) (fl 16 28) rfl rfl (any_of HT_.out (by kernel_rfl)) (fun _ _ _ h => h) (Or.inr ⟨by rfl, rfl⟩) ?_ ?_
      rotate_left
      ·
       simp only [Act.put, List.setIfInBounds_toArray, List.set_cons_zero, List.set_cons_succ, i64_w, i32_w]
       rfl
      refine pure_ (i := 16) (N := some 44) (v := undef) (a' := ?_) (fl 17 28) rfl rfl (any_of HT_.out (by kernel_rfl)) (fun _ _ _ h => h) (Or.inr ⟨by rfl, rfl⟩) ?_ ?_
      rotate_left
      ·
       simp only [Act.put, List.setIfInBounds_toArray, List.set_cons_zero, List.set_cons_succ, i64_w, i32_w]
       rfl
      refine pure_ (i := 17) (N := some 45) (v := undef) (a' := ?_) (fl 18 28) rfl rfl (any_of HT_.out (by kernel_rfl)) (fun _ _ _ h => h) (Or.inr ⟨by rfl, rfl⟩) ?_ ?_
      rotate_left
      ·
       simp only [Act.put, List.setIfInBounds_toArray, List.set_cons_zero, List.set_cons_succ, i64_w, i32_w]
       rfl
      refine pure_ (i := 18) (N := some 46) (v := undef) (a' := ?_) (fl 19 28) rfl rfl (any_of HT_.out (by kernel_rfl)) (fun _ _ _ h => h) (Or.inr ⟨by rfl, rfl⟩) ?_ ?_
      rotate_left
      ·
       simp only [Act.put, List.setIfInBounds_toArray, List.set_cons_zero, List.set_cons_succ, i64_w, i32_w]
       rfl
      refine pure_ (i := 19) (N := some 47) (v := undef) (a' := ?_) (fl 20 28) rfl rfl (any_of HT_.out (by kernel_rfl)) (fun _ _ _ h => h) (Or.inr ⟨by rfl, rfl⟩) ?_ ?_
      rotate_left
      ·
       simp only [Act.put, List.setIfInBounds_toArray, List.set_cons_zero, List.set_cons_succ, i64_w, i32_w]
       rfl
      refine pure_ (i := 20) (N := some 48) (v := undef) (a' := ?_) (fl 21 28) rfl rfl (any_of HT_.out (by kernel_rfl)) (fun _ _ _ h => h) (Or.inr ⟨by rfl, rfl⟩) ?_ ?_
      rotate_left
      ·
       simp only [Act.put, List.setIfInBounds_toArray, List.set_cons_zero, List.set_cons_succ, i64_w, i32_w]
       rfl
      refine pure_ (i := 21) (N := some 49) (v := undef) (a' := ?_) (fl 22 28) rfl rfl (any_of HT_.out (by kernel_rfl)) (fun _ _ _ h => h) (Or.inr ⟨by rfl, rfl⟩) ?_ ?_
      rotate_left
      ·
       simp only [Act.put, List.setIfInBounds_toArray, List.set_cons_zero, List.set_cons_succ, i64_w, i32_w]
       rfl
      refine pure_ (i := 22) (N := some 50) (v := undef) (a' := ?_) (fl 23 28) rfl rfl (any_of HT_.out (by kernel_rfl)) (fun _ _ _ h => h) (Or.inr ⟨by rfl, rfl⟩) ?_ ?_
      rotate_left
      ·
       simp only [Act.put, List.setIfInBounds_toArray, List.set_cons_zero, List.set_cons_succ, i64_w, i32_w]
       rfl
      refine pure_ (i := 23) (N := some 51) (v := undef) (a' := ?_) (fl 24 28) rfl rfl (any_of HT_.out (by kernel_rfl)) (fun _ _ _ h => h) (Or.inr ⟨by rfl, rfl⟩) ?_ ?_
      rotate_left
      ·
       simp only [Act.put, List.setIfInBounds_toArray, List.set_cons_zero, List.set_cons_succ, i64_w, i32_w]
       rfl
      refine pure_ (i := 24) (N := some 52) (v := undef) (a' := ?_) (fl 25 28) rfl rfl (any_of HT_.out (by kernel_rfl)) (fun _ _ _ h => h) (Or.inr ⟨by rfl, rfl⟩) ?_ ?_
      rotate_left
      ·
       simp only [Act.put, List.setIfInBounds_toArray, List.set_cons_zero, List.set_cons_succ, i64_w, i32_w]
       rfl
      refine pure_ (i := 25) (N := some 53) (v := undef) (a' := ?_) (fl 26 28) rfl rfl (any_of HT_.out (by kernel_rfl)) (fun _ _ _ h => h) (Or.inr ⟨by rfl, rfl⟩) ?_ ?_
      rotate_left
      ·
       simp only [Act.put, List.setIfInBounds_toArray, List.set_cons_zero, List.set_cons_succ, i64_w, i32_w]
       rfl
      refine pure_ (i := 26) (N := some 54) (v := undef) (a' := ?_) (fl 27 28) rfl rfl (any_of HT_.out (by kernel_rfl)) (fun _ _ _ h => h) (Or.inr ⟨by rfl, rfl⟩) ?_ ?_
      rotate_left
      ·
       simp only [Act.put, List.setIfInBounds_toArray, List.set_cons_zero, List.set_cons_succ, i64_w, i32_w]
       rfl
      refine pure_ (i := 27) (N := some 55) (fl 28 28) rfl rfl (any_of HT_.out (by kernel_rfl)) (fun _ _ _ h => h) (Or.inl ⟨by rfl, py⟩) pa ?_
      refine done_ (done_of HT_.out (by kernel_rfl)) ?_
      try go_wp2
      go_meet
      case rel => exact ⟨_, (true), ok_, H', ⟨by have := HK1.out; first | omega | exact Nat.le_refl _⟩, ⟨by (with_reducible repeat (first | apply Kd.R_alloc | apply Kd.R_drewN | apply Kd.R_drew)); exact HO_316000.out⟩, ⟨by (with_reducible repeat (first | apply Kd.R_alloc | apply Kd.R_drewN | apply Kd.R_drew)); exact HO_316001.out⟩, ⟨by (with_reducible repeat (first | refine blk_drewN ?_ _ | refine blk_drew ?_ | refine blk_alloc ?_ _)); exact BK309.out⟩, ⟨by (with_reducible repeat (first | refine blk_drewN ?_ _ | refine blk_drew ?_ | refine blk_alloc ?_ _)); exact BK310.out⟩, ⟨by (with_reducible repeat (first | refine blk_drewN ?_ _ | refine blk_drew ?_ | refine blk_alloc ?_ _)); exact BK311.out⟩, ⟨by (with_reducible repeat (first | refine blk_drewN ?_ _ | refine blk_drew ?_ | refine blk_alloc ?_ _)); exact BK315.out⟩, ⟨by repeat (first | (with_reducible first | exact HB.out | apply below_alloc | apply pw_below_drewN | apply below_drew1 | refine below_set ?_ GE309.out | refine below_set ?_ GE310.out | refine below_set ?_ GE311.out | refine below_set ?_ GE315.out) | exact HB.out)⟩⟩
     ·
      rw [if_neg c29] at H
      have c29b0 : (x7_1 == (l1_1.length : Int)) = false := beq_eq_false_iff_ne.mpr c29
      have c29b1 : (x7_1 != (l1_1.length : Int)) = true := bne_iff_ne.mpr c29
      (first | rw [c29b0] | (simp only [i64_w, i32_w]; rw [c29b0]) | skip)
      have H' := Aside0.mk H
      clear H
      try go_wp2
      replace HO_316000 := Aside0.mk (Kd.R_drew HO_316000.out)
      replace HO_316001 := Aside0.mk (Kd.R_drew HO_316001.out)
      replace BK309 := Aside0.mk (blk_drew BK309.out)
      replace BK310 := Aside0.mk (blk_drew BK310.out)
      replace BK311 := Aside0.mk (blk_drew BK311.out)
      replace BK315 := Aside0.mk (blk_drew BK315.out)
      replace HB := Aside0.mk (below_drew1 HB.out)
      refine start_ (n := 28) (S := fun w' => w'.cell? ⟨gb310, 0, none⟩ = some (.slice A1_0 l1_0.length c1_0) ∧ w'.cell? ⟨gb310, 1, none⟩ = some (.slice A1_1 l1_1.length c1_1) ∧ w'.cell? ⟨gb309, 0, none⟩ = some (.slice A0_0 l0_0.length c0_0) ∧ w'.cell? ⟨gb309, 1, none⟩ = some (.slice A0_1 l0_1.length c0_1)) (ds := []) (fl 0 28) (by kernel_rfl) rfl rfl ⟨(blk_cell BK310.out 0).trans rfl, (blk_cell BK310.out 1).trans rfl, (blk_cell BK309.out 0).trans rfl, (blk_cell BK309.out 1).trans rfl⟩ (fun hHeld => ?_); refine with_tabW deaddropref7_Join.tab4 deaddropref7_Join.bits4 (fun HT_ HW_ => ?_)
      generalize wr.drew = w31 at HO_316000 HO_316001 BK309 BK310 BK311 BK315 HB hHeld ⊢
      refine pure_ (i := 0) (N := some 28) (fl 1 28) rfl rfl (any_of HT_.out (by kernel_rfl)) (fun _ _ _ h => h) (Or.inl ⟨by rfl, py⟩) pa ?_
      refine pure_ (i := 1) (N := some 29) (fl 2 28) rfl rfl (any_of HT_.out (by kernel_rfl)) (fun _ _ _ h => h) (Or.inl ⟨by rfl, py⟩) pa ?_
      refine take_ (i := 2) (N := some 30) (v := ?_) (a' := ?_) (fl 3 28) rfl rfl (take_ofW HT_.out HW_.out (by kernel_rfl)) (fun _ _ _ h => h) (Or.inl ⟨by rfl, ?_⟩) hHeld ?_ ?_
      rotate_left
      ·
       rintro w' ⟨s0, s1, s2, s3⟩
       go_simp
       with_reducible rfl
      rotate_left
      ·
       simp only [Act.put, List.setIfInBounds_toArray, List.set_cons_zero, List.set_cons_succ, i64_w, i32_w]
       rfl
      refine pure_ (i := 3) (N := some 31) (fl 4 28) rfl rfl (any_of HT_.out (by kernel_rfl)) (fun _ _ _ h => h) (Or.inl ⟨by rfl, py⟩) pa ?_
      refine pure_ (i := 4) (N := some 32) (fl 5 28) rfl rfl (any_of HT_.out (by kernel_rfl)) (fun _ _ _ h => h) (Or.inl ⟨by rfl, py⟩) pa ?_
      refine pure_ (i := 5) (N := some 33) (fl 6 28) rfl rfl (any_of HT_.out (by kernel_rfl)) (fun _ _ _ h => h) (Or.inl ⟨by rfl, py⟩) pa ?_
      refine pure_ (i := 6) (N := some 34) (fl 7 28) rfl rfl (any_of HT_.out (by kernel_rfl)) (fun _ _ _ h => h) (Or.inl ⟨by rfl, py⟩) pa ?_
      refine pure_ (i := 7) (N := some 35) (fl 8 28) rfl rfl (any_of HT_.out (by kernel_rfl)) (fun _ _ _ h => h) (Or.inl ⟨by rfl, py⟩) pa ?_
      refine take_ (i := 8) (N := some 36) (v := ?_) (a' := ?_) (fl 9 28) rfl rfl (take_ofW HT_.out HW_.out (by kernel_rfl)) (fun _ _ _ h => h) (Or.inl ⟨by rfl, ?_⟩) hHeld ?_ ?_
      rotate_left
      ·
       rintro w' ⟨s0, s1, s2, s3⟩
       go_simp
       with_reducible rfl
      rotate_left
      ·
       simp only [Act.put, List.setIfInBounds_toArray, List.set_cons_zero, List.set_cons_succ, i64_w, i32_w]
       rfl
      refine pure_ (i := 9) (N := some 37) (fl 10 28) rfl rfl (any_of HT_.out (by kernel_rfl)) (fun _ _ _ h => h) (Or.inl ⟨by rfl, py⟩) pa ?_
      refine pure_ (i := 10) (N := some 38) (fl 11 28) rfl rfl (any_of HT_.out (by kernel_rfl)) (fun _ _ _ h => h) (Or.inl ⟨by rfl, py⟩) pa ?_
      refine pure_ (i := 11) (N := some 39) (fl 12 28) rfl rfl (any_of HT_.out (by kernel_rfl)) (fun _ _ _ h => h) (Or.inl ⟨by rfl, py⟩) pa ?_
      refine pure_ (i := 12) (N := some 40) (v := undef) (a' := ?_) (fl 13 28) rfl rfl (any_of HT_.out (by kernel_rfl)) (fun _ _ _ h => h) (Or.inr ⟨by rfl, rfl⟩) ?_ ?_
      rotate_left
      ·
       simp only [Act.put, List.setIfInBounds_toArray, List.set_cons_zero, List.set_cons_succ, i64_w, i32_w]
       rfl
      refine pure_ (i := 13) (N := some 41) (v := undef) (a' := ?_) (fl 14 28) rfl rfl (any_of HT_.out (by kernel_rfl)) (fun _ _ _ h => h) (Or.inr ⟨by rfl, rfl⟩) ?_ ?_
      rotate_left
      ·
       simp only [Act.put, List.setIfInBounds_toArray, List.set_cons_zero, List.set_cons_succ, i64_w, i32_w]
       rfl
      refine pure_ (i := 14) (N := some 42) (v := undef) (a' := ?_) (fl 15 28) rfl rfl (any_of HT_.out (by kernel_rfl)) (fun _ _ _ h => h) (Or.inr ⟨by rfl, rfl⟩) ?_ ?_
      rotate_left
      ·
       simp only [Act.put, List.setIfInBounds_toArray, List.set_cons_zero, List.set_cons_succ, i64_w, i32_w]
       rfl
      refine pure_ (i := 15) (N := some 43) (v := undef) (a' := ?_) (fl 16 28) rfl rfl (any_of HT_.out (by kernel_rfl)) (fun _ _ _ h => h) (Or.inr ⟨by rfl, rfl⟩) ?_ ?_
      rotate_left
      ·
       simp only [Act.put, List.setIfInBounds_toArray, List.set_cons_zero, List.set_cons_succ, i64_w, i32_w]
       rfl
      refine pure_ (i := 16) (N := some 44) (v := undef) (a' := ?_) (fl 17 28) rfl rfl (any_of HT_.out (by kernel_rfl)) (fun _ _ _ h => h) (Or.inr ⟨by rfl, rfl⟩) ?_ ?_
      rotate_left
      ·
       simp only [Act.put, List.setIfInBounds_toArray, List.set_cons_zero, List.set_cons_succ, i64_w, i32_w]
       rfl
      refine pure_ (i := 17) (N := some 45) (v := undef) (a' := ?_) (fl 18 28) rfl rfl (any_of HT_.out (by kernel_rfl)) (fun _ _ _ h => h) (Or.inr ⟨by rfl, rfl⟩) ?_ ?_
      rotate_left
      ·
       simp only [Act.put, List.setIfInBounds_toArray, List.set_cons_zero, List.set_cons_succ, i64_w, i32_w]
       rfl
      refine pure_ (i := 18) (N := some 46) (v := undef) (a' := ?_) (fl 19 28) rfl rfl (any_of HT_.out (by kernel_rfl)) (fun _ _ _ h => h) (Or.inr ⟨by rfl, rfl⟩) ?_ ?_
      rotate_left
      ·
       simp only [Act.put, List.setIfInBounds_toArray, List.set_cons_zero, List.set_cons_succ, i64_w, i32_w]
       rfl
      refine pure_ (i := 19) (N := some 47) (v := undef) (a' := ?_) (fl 20 28) rfl rfl (any_of HT_.out (by kernel_rfl)) (fun _ _ _ h => h) (Or.inr ⟨by rfl, rfl⟩) ?_ ?_
      rotate_left
      ·
       simp only [Act.put, List.setIfInBounds_toArray, List.set_cons_zero, List.set_cons_succ, i64_w, i32_w]
       rfl
      refine pure_ (i := 20) (N := some 48) (v := undef) (a' := ?_) (fl 21 28) rfl rfl (any_of HT_.out (by kernel_rfl)) (fun _ _ _ h => h) (Or.inr ⟨by rfl, rfl⟩) ?_ ?_
      rotate_left
      ·
       simp only [Act.put, List.setIfInBounds_toArray, List.set_cons_zero, List.set_cons_succ, i64_w, i32_w]
       rfl
      refine pure_ (i := 21) (N := some 49) (v := undef) (a' := ?_) (fl 22 28) rfl rfl (any_of HT_.out (by kernel_rfl)) (fun _ _ _ h => h) (Or.inr ⟨by rfl, rfl⟩) ?_ ?_
      rotate_left
      ·
       simp only [Act.put, List.setIfInBounds_toArray, List.set_cons_zero, List.set_cons_succ, i64_w, i32_w]
       rfl
      refine pure_ (i := 22) (N := some 50) (v := undef) (a' := ?_) (fl 23 28) rfl rfl (any_of HT_.out (by kernel_rfl)) (fun _ _ _ h => h) (Or.inr ⟨by rfl, rfl⟩) ?_ ?_
      rotate_left
      ·
       simp only [Act.put, List.setIfInBounds_toArray, List.set_cons_zero, List.set_cons_succ, i64_w, i32_w]
       rfl
      refine pure_ (i := 23) (N := some 51) (v := undef) (a' := ?_) (fl 24 28) rfl rfl (any_of HT_.out (by kernel_rfl)) (fun _ _ _ h => h) (Or.inr ⟨by rfl, rfl⟩) ?_ ?_
      rotate_left
      ·
       simp only [Act.put, List.setIfInBounds_toArray, List.set_cons_zero, List.set_cons_succ, i64_w, i32_w]
       rfl
      refine pure_ (i := 24) (N := some 52) (v := undef) (a' := ?_) (fl 25 28) rfl rfl (any_of HT_.out (by kernel_rfl)) (fun _ _ _ h => h) (Or.inr ⟨by rfl, rfl⟩) ?_ ?_
      rotate_left
      ·
       simp only [Act.put, List.setIfInBounds_toArray, List.set_cons_zero, List.set_cons_succ, i64_w, i32_w]
       rfl
      refine pure_ (i := 25) (N := some 53) (v := undef) (a' := ?_) (fl 26 28) rfl rfl (any_of HT_.out (by kernel_rfl)) (fun _ _ _ h => h) (Or.inr ⟨by rfl, rfl⟩) ?_ ?_
      rotate_left
      ·
       simp only [Act.put, List.setIfInBounds_toArray, List.set_cons_zero, List.set_cons_succ, i64_w, i32_w]
       rfl
      refine pure_ (i := 26) (N := some 54) (fl 27 28) rfl rfl (any_of HT_.out (by kernel_rfl)) (fun _ _ _ h => h) (Or.inl ⟨by rfl, py⟩) pa ?_
      refine pure_ (i := 27) (N := some 55) (fl 28 28) rfl rfl (any_of HT_.out (by kernel_rfl)) (fun _ _ _ h => h) (Or.inl ⟨by rfl, py⟩) pa ?_
      refine done_ (done_of HT_.out (by kernel_rfl)) ?_
      try go_wp2
      go_meet
      case rel => exact ⟨_, (false), ok_, H', ⟨by have := HK1.out; first | omega | exact Nat.le_refl _⟩, ⟨by (with_reducible repeat (first | apply Kd.R_alloc | apply Kd.R_drewN | apply Kd.R_drew)); exact HO_316000.out⟩, ⟨by (with_reducible repeat (first | apply Kd.R_alloc | apply Kd.R_drewN | apply Kd.R_drew)); exact HO_316001.out⟩, ⟨by (with_reducible repeat (first | refine blk_drewN ?_ _ | refine blk_drew ?_ | refine blk_alloc ?_ _)); exact BK309.out⟩, ⟨by (with_reducible repeat (first | refine blk_drewN ?_ _ | refine blk_drew ?_ | refine blk_alloc ?_ _)); exact BK310.out⟩, ⟨by (with_reducible repeat (first | refine blk_drewN ?_ _ | refine blk_drew ?_ | refine blk_alloc ?_ _)); exact BK311.out⟩, ⟨by (with_reducible repeat (first | refine blk_drewN ?_ _ | refine blk_drew ?_ | refine blk_alloc ?_ _)); exact BK315.out⟩, ⟨by repeat (first | (with_reducible first | exact HB.out | apply below_alloc | apply pw_below_drewN | apply below_drew1 | refine below_set ?_ GE309.out | refine below_set ?_ GE310.out | refine below_set ?_ GE311.out | refine below_set ?_ GE315.out) | exact HB.out)⟩⟩
    case rest =>
     clear HC21
     try clear c1
     try clear c2
     try clear p2
     try clear c7
     try clear c8
     try clear c10
     try clear c15
     try clear c16
     try clear c17
     try clear c19
     try clear c19b0
     try clear c20
     try clear c20b0
     try clear c22
     try clear c23
     try clear c24
     try clear c26
     try clear c27
     try clear c29
     try clear c29b0
     try clear c29b1
     try clear hcz11_0
     try clear hcz11_1
     try clear hcz18_0
     try clear hcz18_1
     try clear hcz25_0
     try clear hcz25_1
     try clear hcz28_0
     try clear hcz28_1
     try clear hcz9_0
     try clear hcz9_1
     try clear hfz11_0
     try clear hfz11_1
     try clear hfz18_0
     try clear hfz18_1
     try clear hfz25_0
     try clear hfz25_1
     try clear hfz28_0
     try clear hfz28_1
     try clear hfz9_0
     try clear hfz9_1
     try clear p2
     obtain ⟨kq, x55_20, rfl, HA, HJ20, HO_316000, HO_316001, BK309, BK310, BK311, BK315, HB⟩ := hcut
     cases kq with
     | zero => exact absurd HA.out (by simp [deaddropref7_Join.j1])
     | succ kj20 =>
      have H := HA.out
      clear HA
      simp only [deaddropref7_Join.j1] at H
      by_cases c32 : x55_20 = true
      ·
       subst c32
       have H1 : (none) = some (r1, r2) := by rw [if_pos rfl] at H; exact H
       clear H
       have H := H1
       clear H1
       exact absurd H (by simp)
      replace c32 := Bool.eq_false_iff.mpr c32
      subst c32
      have H1 : (if 0 ≤ x7_1 then (if x7_1 < (l1_1.length : Int) then ((deaddropref7_Has.f kj20 l0_0 ((rd_T34 l1_1 x7_1).f0.f0) ((rd_T34 l1_1 x7_1).f0.f1)).bind fun t318 => (if t318 = true then (none) else (if x316001_1.length < 2199023255552 then (deaddropref7_Join.l0 kj20 x6_1 (wrap64 (x7_1 + 1)) l0_0 l0_1 l1_0 l1_1 t312 (x316001_1 ++ [(⟨(⟨(rd_T34 l1_1 x7_1).f0.f0, (rd_T34 l1_1 x7_1).f0.f1⟩ : S32), (rd_T34 l1_1 x7_1).f1, (rd_T34 l1_1 x7_1).f2, (rd_T34 l1_1 x7_1).f3, (rd_T34 l1_1 x7_1).f4⟩ : S34)])) else (none)))) else (none)) else (none)) = some (r1, r2) := by rw [if_neg (show ¬ (false = true) by decide)] at H; exact H
      clear H
      have H := H1
      clear H1
      by_cases c33 : 0 ≤ x7_1
      rotate_left
      ·
       rw [if_neg c33] at H
       exact absurd H (by simp)
      rw [if_pos c33] at H
      have c33b0 : decide (0 ≤ x7_1) = true := decide_eq_true c33
      clear c33
      by_cases c34 : x7_1 < (l1_1.length : Int)
      rotate_left
      ·
       rw [if_neg c34] at H
       exact absurd H (by simp)
      rw [if_pos c34] at H
      have c34b0 : decide (x7_1 < (l1_1.length : Int)) = true := decide_eq_true c34
      clear c34
      replace H := Option.bind_eq_some_iff.mp H
      obtain ⟨t318, A350, H⟩ := H
      replace H : (if t318 = true then (none) else (if x316001_1.length < 2199023255552 then (deaddropref7_Join.l0 kj20 x6_1 (wrap64 (x7_1 + 1)) l0_0 l0_1 l1_0 l1_1 t312 (x316001_1 ++ [(⟨(⟨(rd_T34 l1_1 x7_1).f0.f0, (rd_T34 l1_1 x7_1).f0.f1⟩ : S32), (rd_T34 l1_1 x7_1).f1, (rd_T34 l1_1 x7_1).f2, (rd_T34 l1_1 x7_1).f3, (rd_T34 l1_1 x7_1).f4⟩ : S34)])) else (none))) = some (r1, r2) := H
      have A35 := Aside0.mk A350
      clear A350
      by_cases c36 : t318 = true
      ·
       subst c36
       have H1 : (none) = some (r1, r2) := by rw [if_pos rfl] at H; exact H
       clear H
       have H := H1
       clear H1
       exact absurd H (by simp)
      replace c36 := Bool.eq_false_iff.mpr c36
      subst c36
      have H1 : (if x316001_1.length < 2199023255552 then (deaddropref7_Join.l0 kj20 x6_1 (wrap64 (x7_1 + 1)) l0_0 l0_1 l1_0 l1_1 t312 (x316001_1 ++ [(⟨(⟨(rd_T34 l1_1 x7_1).f0.f0, (rd_T34 l1_1 x7_1).f0.f1⟩ : S32), (rd_T34 l1_1 x7_1).f1, (rd_T34 l1_1 x7_1).f2, (rd_T34 l1_1 x7_1).f3, (rd_T34 l1_1 x7_1).f4⟩ : S34)])) else (none)) = some (r1, r2) := by rw [if_neg (show ¬ (false = true) by decide)] at H; exact H
      clear H
      have H := H1
      clear H1
      by_cases c37 : x316001_1.length < 2199023255552
      rotate_left
      ·
       rw [if_neg c37] at H
       exact absurd H (by simp)
      rw [if_pos c37] at H
      have LMc37 := Aside0.mk c37
      clear c37
      obtain ⟨y320, hy320⟩ : ∃ y_ : List (S34), y_ = (x316001_1 ++ [(⟨(⟨(rd_T34 l1_1 x7_1).f0.f0, (rd_T34 l1_1 x7_1).f0.f1⟩ : S32), (rd_T34 l1_1 x7_1).f1, (rd_T34 l1_1 x7_1).f2, (rd_T34 l1_1 x7_1).f3, (rd_T34 l1_1 x7_1).f4⟩ : S34)]) := ⟨_, rfl⟩
      replace H : (deaddropref7_Join.l0 kj20 x6_1 (wrap64 (x7_1 + 1)) l0_0 l0_1 l1_0 l1_1 t312 y320) = some (r1, r2) := by first | (rw [hy320]; with_reducible exact H) | (have H2_ := (Option.bind_some _ _).symm.trans H; rw [hy320]; with_reducible exact H2_) | (have H2_ := (Option.bind_some _ _).symm.trans H; with_reducible exact H2_) | with_reducible exact H | (rw [hy320]; exact H) | exact H
      have Ny320 := Aside0.mk hy320
      clear hy320
      have H' := Aside0.mk H
      clear H
      have hnb38 := NB310_309.out
      have hnc38 := NB309_310.out
      have hnb39 := NB310_311.out
      have hnc39 := NB311_310.out
      have hnb40 := NB310_315.out
      have hnc40 := NB315_310.out
      have hcz41_0 : wc.cell? ⟨gb310, 0, none⟩ = some (.slice A1_0 l1_0.length c1_0) := (blk_cell BK310.out 0).trans rfl
      have hcz41_1 : wc.cell? ⟨gb310, 1, none⟩ = some (.slice A1_1 l1_1.length c1_1) := (blk_cell BK310.out 1).trans rfl
      have hfz41_0 := blk_frozen BK310.out 0
      have hfz41_1 := blk_frozen BK310.out 1
      have p316 : 0 ≤ (x7_1 : Int) := of_decide_eq_true as_
      have q316 : x7_1 < (l1_1.length : Int) := of_decide_eq_true as_
      obtain ⟨ad316, e316, hx316_0, hx316_1, hx316_2, hx316_3, hx316_4, hx316_5⟩ := at_T34 HR1_1.out x7_1 p316 q316
      cases e316
      replace hx316_0 := (HB.out.cell (World.block_lt_of_cell? w _ hx316_0)).trans hx316_0
      replace hx316_1 := (HB.out.cell (World.block_lt_of_cell? w _ hx316_1)).trans hx316_1
      replace hx316_2 := (HB.out.cell (World.block_lt_of_cell? w _ hx316_2)).trans hx316_2
      replace hx316_3 := (HB.out.cell (World.block_lt_of_cell? w _ hx316_3)).trans hx316_3
      replace hx316_4 := (HB.out.cell (World.block_lt_of_cell? w _ hx316_4)).trans hx316_4
      replace hx316_5 := (HB.out.cell (World.block_lt_of_cell? w _ hx316_5)).trans hx316_5
      replace p316 := eq_true p316
      replace q316 := eq_true q316
      try go_wp2_with (first | ((with_reducible refine gate_dst (N := 9) rfl ?_); (try (refine gate_guard (by rfl) ?_; dsimp only)); refine box_event ?hg (N := 9) ?hd (cs := #[.int .i64 0, .int .i64 0]) (t := 32) ?hr ?_; (case hd => rfl); (case hg => rfl); (case hr => first | (go_simp; done) | (go_simp; rfl)); intro gb317 hg w42 hbox hb; replace HO_316000 := Aside0.mk (Kd.R_below (rk HO_316000.out) hb); replace HO_316001 := Aside0.mk (Kd.R_below (rk HO_316001.out) hb); have BK317 := Aside0.mk (hbox); have GW317 := Aside0.mk ((by rw [hg]; exact (below_size (bw4 HB.out GE309.out GE310.out GE311.out GE315.out)) : w.heap.size ≤ gb317)); have GE317 := Aside0.mk ((by rw [hg]; exact (below_size (bw4 HB.out GE309.out GE310.out GE311.out GE315.out)) : w.heap.size ≤ gb317)); replace HB := Aside0.mk (below_step (bw4 HB.out GE309.out GE310.out GE311.out GE315.out) hb); have NB309_317 := Aside0.mk ((by rw [hg]; exact Nat.ne_of_lt (blk_lt (g := gb309) (o := .cells #[.slice A0_0 l0_0.length c0_0, .slice A0_1 l0_1.length c0_1] 28 (0, 0)) (bk BK309.out)) : gb309 ≠ gb317)); have NB317_309 := Aside0.mk ((by rw [hg]; exact Nat.ne_of_gt (blk_lt (g := gb309) (o := .cells #[.slice A0_0 l0_0.length c0_0, .slice A0_1 l0_1.length c0_1] 28 (0, 0)) (bk BK309.out)) : gb317 ≠ gb309)); replace BK309 := Aside0.mk (blk_below (g := gb309) (o := .cells #[.slice A0_0 l0_0.length c0_0, .slice A0_1 l0_1.length c0_1] 28 (0, 0)) (bk BK309.out) hb); have NB310_317 := Aside0.mk ((by rw [hg]; exact Nat.ne_of_lt (blk_lt (g := gb310) (o := .cells #[.slice A1_0 l1_0.length c1_0, .slice (some ad316) l1_1.length c1_1] 28 (0, 0)) (bk BK310.out)) : gb310 ≠ gb317)); have NB317_310 := Aside0.mk ((by rw [hg]; exact Nat.ne_of_gt (blk_lt (g := gb310) (o := .cells #[.slice A1_0 l1_0.length c1_0, .slice (some ad316) l1_1.length c1_1] 28 (0, 0)) (bk BK310.out)) : gb317 ≠ gb310)); replace BK310 := Aside0.mk (blk_below (g := gb310) (o := .cells #[.slice A1_0 l1_0.length c1_0, .slice (some ad316) l1_1.length c1_1] 28 (0, 0)) (bk BK310.out) hb); have NB311_317 := Aside0.mk ((by rw [hg]; exact Nat.ne_of_lt (blk_lt (g := gb311) (o := .cells #[.slice none 0 0, .slice none 0 0] 28 (0, 0)) (bk BK311.out)) : gb311 ≠ gb317)); have NB317_311 := Aside0.mk ((by rw [hg]; exact Nat.ne_of_gt (blk_lt (g := gb311) (o := .cells #[.slice none 0 0, .slice none 0 0] 28 (0, 0)) (bk BK311.out)) : gb317 ≠ gb311)); replace BK311 := Aside0.mk (blk_below (g := gb311) (o := .cells #[.slice none 0 0, .slice none 0 0] 28 (0, 0)) (bk BK311.out) hb); have NB315_317 := Aside0.mk ((by rw [hg]; exact Nat.ne_of_lt (blk_lt (g := gb315) (o := .cells #[.slice Ao13 t312.length co13, u316001] 28 (0, 0)) (bk BK315.out)) : gb315 ≠ gb317)); have NB317_315 := Aside0.mk ((by rw [hg]; exact Nat.ne_of_gt (blk_lt (g := gb315) (o := .cells #[.slice Ao13 t312.length co13, u316001] 28 (0, 0)) (bk BK315.out)) : gb317 ≠ gb315)); replace BK315 := Aside0.mk (blk_below (g := gb315) (o := .cells #[.slice Ao13 t312.length co13, u316001] 28 (0, 0)) (bk BK315.out) hb); clear hb hbox hg; have hnb43 := NB317_309.out; have hnc43 := NB309_317.out; have hnb44 := NB317_310.out; have hnc44 := NB310_317.out; have hnb45 := NB317_311.out; have hnc45 := NB311_317.out; have hnb46 := NB317_315.out; have hnc46 := NB315_317.out; have hcz47_0 : w42.cell? ⟨gb317, 0, none⟩ = some (.int .i64 0) := (blk_cell BK317.out 0).trans rfl; have hcz47_1 : w42.cell? ⟨gb317, 1, none⟩ = some (.int .i64 0) := (blk_cell BK317.out 1).trans rfl; have hfz47_0 := blk_frozen BK317.out 0; have hfz47_1 := blk_frozen BK317.out 1; have hnb48 := NB309_311.out; have hnc48 := NB311_309.out; have hnb49 := NB309_315.out; have hnc49 := NB315_309.out; have hcz50_0 : w42.cell? ⟨gb309, 0, none⟩ = some (.slice A0_0 l0_0.length c0_0) := (blk_cell BK309.out 0).trans rfl; have hcz50_1 : w42.cell? ⟨gb309, 1, none⟩ = some (.slice A0_1 l0_1.length c0_1) := (blk_cell BK309.out 1).trans rfl; have hfz50_0 := blk_frozen BK309.out 0; have hfz50_1 := blk_frozen BK309.out 1) | ((with_reducible refine gate_callee (f := 25) rfl ?_); refine goesL_ (some 93) rfl rfl Try.func25 (by kernel_rfl) rfl #[.slice A0_0 l0_0.length c0_0, .agg #[.int .i64 ((rd_T34 l1_1 x7_1).f0.f0), .int .i64 ((rd_T34 l1_1 x7_1).f0.f1)]] rfl ar_ ?_; (with_reducible refine (deaddropref7_Has.calls kj20 _ _ l0_0 ((rd_T34 l1_1 x7_1).f0.f0) ((rd_T34 l1_1 x7_1).f0.f1) false _ ?side1 ?side2 A35.out).mono ?_); (case side1 => exact Kd.C_below HR0_0.out (bw5 HB.out GE309.out GE310.out GE311.out GE315.out GE317.out)); (case side2 => exact HC0_0.out); rintro e w51 ⟨rfl, hb⟩; refine ⟨_, rfl, ?_⟩; replace HO_316000 := Aside0.mk (Kd.R_below (by (with_reducible repeat (first | apply Kd.R_alloc | apply Kd.R_drewN | apply Kd.R_drew)); exact (Kd.R_mono (Kd.R_far (p := ⟨gb317, 1, none⟩) (Kd.R_far (p := ⟨gb317, 0, none⟩) (Kd.R_types HO_316000.out BK317.out (by decide)) (fun _ hk => hk.2) (.int .i64 ((rd_T34 l1_1 x7_1).f0.f0))) (fun _ hk => hk.2) (.int .i64 ((rd_T34 l1_1 x7_1).f0.f1))) (fun _ h_ => h_.1))) hb); replace HO_316001 := Aside0.mk (Kd.R_below (by (with_reducible repeat (first | apply Kd.R_alloc | apply Kd.R_drewN | apply Kd.R_drew)); exact (Kd.R_mono (Kd.R_far (p := ⟨gb317, 1, none⟩) (Kd.R_far (p := ⟨gb317, 0, none⟩) (Kd.R_types HO_316001.out BK317.out (by decide)) (fun _ hk => hk.2) (.int .i64 ((rd_T34 l1_1 x7_1).f0.f0))) (fun _ hk => hk.2) (.int .i64 ((rd_T34 l1_1 x7_1).f0.f1))) (fun _ h_ => h_.1))) hb); replace BK309 := Aside0.mk (blk_below (g := gb309) (o := .cells #[.slice A0_0 l0_0.length c0_0, .slice A0_1 l0_1.length c0_1] 28 (0, 0)) (by (with_reducible repeat (first | refine blk_drewN ?_ _ | refine blk_drew ?_ | refine blk_alloc ?_ _)); refine blk_far ?_ NB309_317.out _; (with_reducible repeat (first | refine blk_drewN ?_ _ | refine blk_drew ?_ | refine blk_alloc ?_ _)); refine blk_far ?_ NB309_317.out _; (with_reducible repeat (first | refine blk_drewN ?_ _ | refine blk_drew ?_ | refine blk_alloc ?_ _)); exact BK309.out) hb); replace BK310 := Aside0.mk (blk_below (g := gb310) (o := .cells #[.slice A1_0 l1_0.length c1_0, .slice (some ad316) l1_1.length c1_1] 28 (0, 0)) (by (with_reducible repeat (first | refine blk_drewN ?_ _ | refine blk_drew ?_ | refine blk_alloc ?_ _)); refine blk_far ?_ NB310_317.out _; (with_reducible repeat (first | refine blk_drewN ?_ _ | refine blk_drew ?_ | refine blk_alloc ?_ _)); refine blk_far ?_ NB310_317.out _; (with_reducible repeat (first | refine blk_drewN ?_ _ | refine blk_drew ?_ | refine blk_alloc ?_ _)); exact BK310.out) hb); replace BK311 := Aside0.mk (blk_below (g := gb311) (o := .cells #[.slice none 0 0, .slice none 0 0] 28 (0, 0)) (by (with_reducible repeat (first | refine blk_drewN ?_ _ | refine blk_drew ?_ | refine blk_alloc ?_ _)); refine blk_far ?_ NB311_317.out _; (with_reducible repeat (first | refine blk_drewN ?_ _ | refine blk_drew ?_ | refine blk_alloc ?_ _)); refine blk_far ?_ NB311_317.out _; (with_reducible repeat (first | refine blk_drewN ?_ _ | refine blk_drew ?_ | refine blk_alloc ?_ _)); exact BK311.out) hb); replace BK315 := Aside0.mk (blk_below (g := gb315) (o := .cells #[.slice Ao13 t312.length co13, u316001] 28 (0, 0)) (by (with_reducible repeat (first | refine blk_drewN ?_ _ | refine blk_drew ?_ | refine blk_alloc ?_ _)); refine blk_far ?_ NB315_317.out _; (with_reducible repeat (first | refine blk_drewN ?_ _ | refine blk_drew ?_ | refine blk_alloc ?_ _)); refine blk_far ?_ NB315_317.out _; (with_reducible repeat (first | refine blk_drewN ?_ _ | refine blk_drew ?_ | refine blk_alloc ?_ _)); exact BK315.out) hb); replace BK317 := Aside0.mk (blk_below (g := gb317) (o := .cells #[.int .i64 ((rd_T34 l1_1 x7_1).f0.f0), .int .i64 ((rd_T34 l1_1 x7_1).f0.f1)] 32 (0, 0)) (by (with_reducible repeat (first | refine blk_drewN ?_ _ | refine blk_drew ?_ | refine blk_alloc ?_ _)); refine blk_put (cs := #[.int .i64 ((rd_T34 l1_1 x7_1).f0.f0), .int .i64 0]) ?_ 1 _ rfl; (with_reducible repeat (first | refine blk_drewN ?_ _ | refine blk_drew ?_ | refine blk_alloc ?_ _)); refine blk_put (cs := #[.int .i64 0, .int .i64 0]) ?_ 0 _ rfl; (with_reducible repeat (first | refine blk_drewN ?_ _ | refine blk_drew ?_ | refine blk_alloc ?_ _)); exact BK317.out) hb); replace HB := Aside0.mk (below_step (bw5 HB.out GE309.out GE310.out GE311.out GE315.out GE317.out) hb); (try clear hb); (try clear hb2); (try clear hk); (try clear hi)))
      replace HO_316000 := Aside0.mk (Kd.R_drew HO_316000.out)
      replace HO_316001 := Aside0.mk (Kd.R_drew HO_316001.out)
      replace BK309 := Aside0.mk (blk_drew BK309.out)
      replace BK310 := Aside0.mk (blk_drew BK310.out)
      replace BK311 := Aside0.mk (blk_drew BK311.out)
      replace BK315 := Aside0.mk (blk_drew BK315.out)
      replace BK317 := Aside0.mk (blk_drew BK317.out)
      replace HB := Aside0.mk (below_drew1 HB.out)
      have p319 : 0 ≤ (x7_1 : Int) := of_decide_eq_true as_
      have q319 : x7_1 < (l1_1.length : Int) := of_decide_eq_true as_
      obtain ⟨ad319, e319, hx319_0, hx319_1, hx319_2, hx319_3, hx319_4, hx319_5⟩ := at_T34 HR1_1.out x7_1 p319 q319
      have hw319_5 := hx319_5
      have hw319_4 := hx319_4
      have hw319_3 := hx319_3
      have hw319_2 := hx319_2
      have hw319_1 := hx319_1
      have hw319_0 := hx319_0
      obtain rfl : ad316 = ad319 := (by injection e319)
      replace hx319_0 := (HB.out.cell (World.block_lt_of_cell? w _ hx319_0)).trans hx319_0
      replace hx319_1 := (HB.out.cell (World.block_lt_of_cell? w _ hx319_1)).trans hx319_1
      replace hx319_2 := (HB.out.cell (World.block_lt_of_cell? w _ hx319_2)).trans hx319_2
      replace hx319_3 := (HB.out.cell (World.block_lt_of_cell? w _ hx319_3)).trans hx319_3
      replace hx319_4 := (HB.out.cell (World.block_lt_of_cell? w _ hx319_4)).trans hx319_4
      replace hx319_5 := (HB.out.cell (World.block_lt_of_cell? w _ hx319_5)).trans hx319_5
      replace p319 := eq_true p319
      replace q319 := eq_true q319
      refine start_ (n := 11) (S := fun w' => w'.cell? ⟨gb315, 0, none⟩ = some (.slice Ao13 t312.length co13) ∧ w'.cell? ⟨gb315, 1, none⟩ = some (u316001) ∧ w'.cell? ⟨gb310, 0, none⟩ = some (.slice A1_0 l1_0.length c1_0) ∧ w'.cell? ⟨gb310, 1, none⟩ = some (.slice (some ad316) l1_1.length c1_1) ∧ w'.cell? (ad316.add ((x7_1).toNat * 6)) = some (.int .i64 ((rd_T34 l1_1 x7_1).f0.f0)) ∧ w'.cell? ⟨(ad316.add ((x7_1).toNat * 6)).block, (ad316.add ((x7_1).toNat * 6)).off + 1, none⟩ = some (.int .i64 ((rd_T34 l1_1 x7_1).f0.f1)) ∧ w'.cell? ⟨(ad316.add ((x7_1).toNat * 6)).block, (ad316.add ((x7_1).toNat * 6)).off + 2, none⟩ = some (.string ((rd_T34 l1_1 x7_1).f1)) ∧ w'.cell? ⟨(ad316.add ((x7_1).toNat * 6)).block, (ad316.add ((x7_1).toNat * 6)).off + 3, none⟩ = some (.int .i64 ((rd_T34 l1_1 x7_1).f2)) ∧ w'.cell? ⟨(ad316.add ((x7_1).toNat * 6)).block, (ad316.add ((x7_1).toNat * 6)).off + 4, none⟩ = some (.string ((rd_T34 l1_1 x7_1).f3)) ∧ w'.cell? ⟨(ad316.add ((x7_1).toNat * 6)).block, (ad316.add ((x7_1).toNat * 6)).off + 5, none⟩ = some (.int .i64 ((rd_T34 l1_1 x7_1).f4))) (ds := [10]) (fl 0 11) (by kernel_rfl) rfl rfl ⟨(blk_cell BK315.out 0).trans rfl, (blk_cell BK315.out 1).trans rfl, (blk_cell BK310.out 0).trans rfl, (blk_cell BK310.out 1).trans rfl, (bc HB.out hw319_0), (bc HB.out hw319_1), (bc HB.out hw319_2), (bc HB.out hw319_3), (bc HB.out hw319_4), (bc HB.out hw319_5)⟩ (fun hHeld => ?_); refine with_tabW deaddropref7_Join.tab11 deaddropref7_Join.bits11 (fun HT_ HW_ => ?_)
      generalize w51.drew = w52 at HO_316000 HO_316001 BK309 BK310 BK311 BK315 BK317 HB hx319_0 hx319_1 hx319_2 hx319_3 hx319_4 hx319_5 hHeld ⊢
      refine pure_ (i := 0) (N := some 95) (fl 1 11) rfl rfl (any_of HT_.out (by kernel_rfl)) (fun _ _ _ h => h) (Or.inl ⟨by rfl, py⟩) pa ?_
      refine pure_ (i := 2) (N := some 97) #[true, false, true, false, false, false, false, false, false, false, false] rfl rfl (any_of HT_.out (by kernel_rfl)) (fun _ _ _ h => h) (Or.inl ⟨by rfl, py⟩) pa ?_
      refine pure_ (i := 4) (N := some 99) #[true, false, true, false, true, false, false, false, false, false, false] rfl rfl (any_of HT_.out (by kernel_rfl)) (fun _ _ _ h => h) (Or.inl ⟨by rfl, py⟩) pa ?_
      refine take_ (i := 1) (N := some 96) (v := ?_) (a' := ?_) #[true, true, true, false, true, false, false, false, false, false, false] rfl rfl (take_ofW HT_.out HW_.out (by kernel_rfl)) (fun _ _ _ h => h) (Or.inl ⟨by rfl, ?_⟩) hHeld ?_ ?_
      rotate_left
      ·
       rintro w' ⟨s0, s1, s2, s3, s4, s5, s6, s7, s8, s9⟩
       go_simp
       with_reducible rfl
      rotate_left
      ·
       simp only [Act.put, List.setIfInBounds_toArray, List.set_cons_zero, List.set_cons_succ, i64_w, i32_w]
       rfl
      refine take_ (i := 3) (N := some 98) (v := ?_) (a' := ?_) (fl 5 11) rfl rfl (take_ofW HT_.out HW_.out (by kernel_rfl)) (fun _ _ _ h => h) (Or.inl ⟨by rfl, ?_⟩) hHeld ?_ ?_
      rotate_left
      ·
       rintro w' ⟨s0, s1, s2, s3, s4, s5, s6, s7, s8, s9⟩
       go_simp
       with_reducible rfl
      rotate_left
      ·
       simp only [Act.put, List.setIfInBounds_toArray, List.set_cons_zero, List.set_cons_succ, i64_w, i32_w]
       rfl
      refine pure_ (i := 5) (N := some 100) (fl 6 11) rfl rfl (any_of HT_.out (by kernel_rfl)) (fun _ _ _ h => h) (Or.inl ⟨by rfl, py⟩) pa ?_
      refine take_ (i := 6) (N := some 101) (v := ?_) (a' := ?_) (fl 7 11) rfl rfl (take_ofW HT_.out HW_.out (by kernel_rfl)) (fun _ _ _ h => h) (Or.inl ⟨by rfl, ?_⟩) hHeld ?_ ?_
      rotate_left
      ·
       rintro w' ⟨s0, s1, s2, s3, s4, s5, s6, s7, s8, s9⟩
       go_simp
       with_reducible rfl
      rotate_left
      ·
       simp only [Act.put, List.setIfInBounds_toArray, List.set_cons_zero, List.set_cons_succ, i64_w, i32_w]
       rfl
      refine one_ (i := 7) (N := some 102) (fl 8 11) rfl rfl (one_of HT_.out (by kernel_rfl)) (by decide) (fun K hK => ?_)
      refine value_ (w1 := ?_) (v := ?_) (by rfl) rfl ?_ ?_
      rotate_left 2
      ·
       go_simp
       constructor
       ·
        rfl
       ·
        rfl
      refine hK.out _ _ ⟨(blk_cell (blk_alloc BK315.out _) 0).trans rfl, (blk_cell (blk_alloc BK315.out _) 1).trans rfl, (blk_cell (blk_alloc BK310.out _) 0).trans rfl, (blk_cell (blk_alloc BK310.out _) 1).trans rfl, (World.cell?_alloc_lt _ _ _ (World.block_lt_of_cell? _ _ ((bc HB.out hw319_0)))).trans ((bc HB.out hw319_0)), (World.cell?_alloc_lt _ _ _ (World.block_lt_of_cell? _ _ ((bc HB.out hw319_1)))).trans ((bc HB.out hw319_1)), (World.cell?_alloc_lt _ _ _ (World.block_lt_of_cell? _ _ ((bc HB.out hw319_2)))).trans ((bc HB.out hw319_2)), (World.cell?_alloc_lt _ _ _ (World.block_lt_of_cell? _ _ ((bc HB.out hw319_3)))).trans ((bc HB.out hw319_3)), (World.cell?_alloc_lt _ _ _ (World.block_lt_of_cell? _ _ ((bc HB.out hw319_4)))).trans ((bc HB.out hw319_4)), (World.cell?_alloc_lt _ _ _ (World.block_lt_of_cell? _ _ ((bc HB.out hw319_5)))).trans ((bc HB.out hw319_5))⟩ (fun hHeld => ?_)
      clear hK K
      refine norm_ (a' := ?_) ?_ ?_
      rotate_left
      ·
       show Act.put _ (some 102) _ = _
       simp only [Act.put, List.setIfInBounds_toArray, List.set_cons_zero, List.set_cons_succ, i64_w, i32_w]
       rfl
      refine one_ (i := 8) (N := some 103) (fl 9 11) rfl rfl (one_of HT_.out (by kernel_rfl)) (by decide) (fun K hK => ?_)
      refine Kd.R_append_step k34 (w0 := w) w.heap.size (by rfl) (.tmp 96) (.tmp 102) 26 34 (.agg #[(.int .i64 0), (.int .i64 0), (.string ⟨#[]⟩), (.int .i64 0), (.string ⟨#[]⟩), (.int .i64 0)]) 64 rfl Try.underlying26 info34 rfl (by decide) (by omega) u316001 x316001_1 (⟨(⟨(rd_T34 l1_1 x7_1).f0.f0, (rd_T34 l1_1 x7_1).f0.f1⟩ : S32), (rd_T34 l1_1 x7_1).f1, (rd_T34 l1_1 x7_1).f2, (rd_T34 l1_1 x7_1).f3, (rd_T34 l1_1 x7_1).f4⟩ : S34) [.int .i64 ((rd_T34 l1_1 x7_1).f0.f0), .int .i64 ((rd_T34 l1_1 x7_1).f0.f1), .string ((rd_T34 l1_1 x7_1).f1), .int .i64 ((rd_T34 l1_1 x7_1).f2), .string ((rd_T34 l1_1 x7_1).f3), .int .i64 ((rd_T34 l1_1 x7_1).f4)] (fun _ => True) (fun _ => False) rfl rfl ?aP (fun _ hk => hk.elim) ?aF ?aO ?aB ?aS ?aL ?_
      (case aP => exact k34_mkM _ _ _ (⟨(⟨(rd_T34 l1_1 x7_1).f0.f0, (rd_T34 l1_1 x7_1).f0.f1⟩ : S32), (rd_T34 l1_1 x7_1).f1, (rd_T34 l1_1 x7_1).f2, (rd_T34 l1_1 x7_1).f3, (rd_T34 l1_1 x7_1).f4⟩ : S34))
      (case aB => exact (bw5 HB.out GE309.out GE310.out GE311.out GE315.out GE317.out))
      (case aF => exact (fun _ _ => trivial))
      (case aO => exact (rk HO_316001.out))
      (case aS => exact (below_size (bw5 HB.out GE309.out GE310.out GE311.out GE315.out GE317.out)))
      (case aL => have := LMc37.out; omega)
      intro v321 w53 ho hb hg hat
      rw [← Ny320.out] at ho
      replace HO_316000 := Aside0.mk (Kd.R_over' (rk HO_316000.out) (Kd.R_typed (rk HO_316001.out)) (by decide) hg)
      replace BK309 := Aside0.mk (blk_grown (g := gb309) (o := .cells #[.slice A0_0 l0_0.length c0_0, .slice A0_1 l0_1.length c0_1] 28 (0, 0)) (bk BK309.out) hg (Kd.R_ne HO_316001.out BK309.out (by decide)))
      replace BK310 := Aside0.mk (blk_grown (g := gb310) (o := .cells #[.slice A1_0 l1_0.length c1_0, .slice (some ad316) l1_1.length c1_1] 28 (0, 0)) (bk BK310.out) hg (Kd.R_ne HO_316001.out BK310.out (by decide)))
      replace BK311 := Aside0.mk (blk_grown (g := gb311) (o := .cells #[.slice none 0 0, .slice none 0 0] 28 (0, 0)) (bk BK311.out) hg (Kd.R_ne HO_316001.out BK311.out (by decide)))
      replace BK315 := Aside0.mk (blk_grown (g := gb315) (o := .cells #[.slice Ao13 t312.length co13, u316001] 28 (0, 0)) (bk BK315.out) hg (Kd.R_ne HO_316001.out BK315.out (by decide)))
      replace BK317 := Aside0.mk (blk_grown (g := gb317) (o := .cells #[.int .i64 ((rd_T34 l1_1 x7_1).f0.f0), .int .i64 ((rd_T34 l1_1 x7_1).f0.f1)] 32 (0, 0)) (bk BK317.out) hg (Kd.R_ne HO_316001.out BK317.out (by decide)))
      replace HB := Aside0.mk (hb)
      have HO322 := Aside0.mk (ho)
      clear HO_316001
      clear ho hb hg hat
      obtain ⟨Ao54, co54, eo54⟩ := Kd.R_slice HO322.out
      (first | subst eo54 | (injection eo54 with f1_ f2_ f3_; have f4_ := f1_.symm; have f5_ := f3_.symm; clear f1_ f2_ f3_; subst f4_; subst f5_))
      refine hK.out _ _ ⟨(blk_cell BK315.out 0).trans rfl, (blk_cell BK315.out 1).trans rfl, (blk_cell BK310.out 0).trans rfl, (blk_cell BK310.out 1).trans rfl, (bc HB.out hw319_0), (bc HB.out hw319_1), (bc HB.out hw319_2), (bc HB.out hw319_3), (bc HB.out hw319_4), (bc HB.out hw319_5)⟩ (fun hHeld => ?_)
      clear hK K
      refine norm_ (a' := ?_) ?_ ?_
      rotate_left
      ·
       show Act.put _ (some 103) _ = _
       simp only [Act.put, List.setIfInBounds_toArray, List.set_cons_zero, List.set_cons_succ, i64_w, i32_w]
       rfl
      refine pure_ (i := 9) (N := some 104) (fl 10 11) rfl rfl (any_of HT_.out (by kernel_rfl)) (fun _ _ _ h => h) (Or.inl ⟨by rfl, py⟩) pa ?_
      refine last_ (i := 10) (N := none) (fl 11 11) rfl rfl (one_of HT_.out (by kernel_rfl)) (by decide) (fun K hK => ?_)
      have hs55 : w53.cell? ⟨gb315, 1, none⟩ = some (u316001) := (blk_cell BK315.out 1).trans rfl
      have hfs55 := blk_frozen BK315.out 1
      have hns55_0 := NB309_315.out
      have hns55_1 := NB310_315.out
      have hns55_2 := NB311_315.out
      have hns55_4 := NB317_315.out
      have hms55_0 := NB315_309.out
      have hms55_1 := NB315_310.out
      have hms55_2 := NB315_311.out
      have hms55_4 := NB315_317.out
      refine skip_ (w1 := ?_) (by rfl) rfl ?_ ?_
      rotate_left
      ·
       go_simp
       rfl
      refine hK.out _ _ ?_
      clear hK K
      refine done_ (done_of HT_.out (by kernel_rfl)) ?_
      try go_wp2
      go_roundg kj20
      case measure => have := HK1.out; have := HJ20.out; omega
      case rel => exact ⟨(x6_1), (wrap64 (x7_1 + 1)), (y320), (.slice Ao54 y320.length co54), ok_, ok_, H', ⟨by have := HK1.out; have := HJ20.out; omega⟩, ⟨by (with_reducible repeat (first | apply Kd.R_alloc | apply Kd.R_drewN | apply Kd.R_drew)); exact Kd.R_mono (Kd.R_far (p := ⟨gb315, 1, none⟩) (Kd.R_types HO_316000.out BK315.out (by decide)) (fun _ hk => hk.2) (.slice Ao54 y320.length co54)) (fun _ hk => trivial)⟩, ⟨by (with_reducible repeat (first | apply Kd.R_alloc | apply Kd.R_drewN | apply Kd.R_drew)); exact Kd.R_mono (Kd.R_far (p := ⟨gb315, 1, none⟩) (Kd.R_types HO322.out BK315.out (by decide)) (fun _ hk => hk.2) (.slice Ao54 y320.length co54)) (fun _ hk => trivial)⟩, ⟨by (with_reducible repeat (first | refine blk_drewN ?_ _ | refine blk_drew ?_ | refine blk_alloc ?_ _)); refine blk_far ?_ NB309_315.out _; (with_reducible repeat (first | refine blk_drewN ?_ _ | refine blk_drew ?_ | refine blk_alloc ?_ _)); exact BK309.out⟩, ⟨by (with_reducible repeat (first | refine blk_drewN ?_ _ | refine blk_drew ?_ | refine blk_alloc ?_ _)); refine blk_far ?_ NB310_315.out _; (with_reducible repeat (first | refine blk_drewN ?_ _ | refine blk_drew ?_ | refine blk_alloc ?_ _)); exact BK310.out⟩, ⟨by (with_reducible repeat (first | refine blk_drewN ?_ _ | refine blk_drew ?_ | refine blk_alloc ?_ _)); refine blk_far ?_ NB311_315.out _; (with_reducible repeat (first | refine blk_drewN ?_ _ | refine blk_drew ?_ | refine blk_alloc ?_ _)); exact BK311.out⟩, ⟨by (with_reducible repeat (first | refine blk_drewN ?_ _ | refine blk_drew ?_ | refine blk_alloc ?_ _)); refine blk_put (cs := #[.slice Ao13 t312.length co13, u316001]) ?_ 1 _ rfl; (with_reducible repeat (first | refine blk_drewN ?_ _ | refine blk_drew ?_ | refine blk_alloc ?_ _)); exact BK315.out⟩, ⟨by repeat (first | (with_reducible first | exact HB.out | apply below_alloc | apply pw_below_drewN | apply below_drew1 | refine below_set ?_ GE309.out | refine below_set ?_ GE310.out | refine below_set ?_ GE311.out | refine below_set ?_ GE315.out | refine below_set ?_ GE317.out) | exact HB.out)⟩⟩
   ·
    rw [if_neg c20] at H
    have c20b0 : decide (x7_1 < (l1_1.length : Int)) = false := decide_eq_false c20
    clear c20
    simp only [Option.some.injEq, Prod.mk.injEq] at H
    obtain ⟨rfl, rfl⟩ := H
    have hnb56 := NB309_310.out
    have hnc56 := NB310_309.out
    have hnb57 := NB309_311.out
    have hnc57 := NB311_309.out
    have hnb58 := NB309_315.out
    have hnc58 := NB315_309.out
    have hcz59_0 : wr.cell? ⟨gb309, 0, none⟩ = some (.slice A0_0 l0_0.length c0_0) := (blk_cell BK309.out 0).trans rfl
    have hcz59_1 : wr.cell? ⟨gb309, 1, none⟩ = some (.slice A0_1 l0_1.length c0_1) := (blk_cell BK309.out 1).trans rfl
    have hfz59_0 := blk_frozen BK309.out 0
    have hfz59_1 := blk_frozen BK309.out 1
    have hnb60 := NB310_311.out
    have hnc60 := NB311_310.out
    have hnb61 := NB310_315.out
    have hnc61 := NB315_310.out
    have hcz62_0 : wr.cell? ⟨gb310, 0, none⟩ = some (.slice A1_0 l1_0.length c1_0) := (blk_cell BK310.out 0).trans rfl
    have hcz62_1 : wr.cell? ⟨gb310, 1, none⟩ = some (.slice A1_1 l1_1.length c1_1) := (blk_cell BK310.out 1).trans rfl
    have hfz62_0 := blk_frozen BK310.out 0
    have hfz62_1 := blk_frozen BK310.out 1
    have hnb63 := NB315_311.out
    have hnc63 := NB311_315.out
    have hcz64_0 : wr.cell? ⟨gb315, 0, none⟩ = some (.slice Ao13 t312.length co13) := (blk_cell BK315.out 0).trans rfl
    have hcz64_1 : wr.cell? ⟨gb315, 1, none⟩ = some (u316001) := (blk_cell BK315.out 1).trans rfl
    have hfz64_0 := blk_frozen BK315.out 0
    have hfz64_1 := blk_frozen BK315.out 1
    have hcz65_0 : wr.cell? ⟨gb311, 0, none⟩ = some (.slice none 0 0) := (blk_cell BK311.out 0).trans rfl
    have hcz65_1 : wr.cell? ⟨gb311, 1, none⟩ = some (.slice none 0 0) := (blk_cell BK311.out 1).trans rfl
    have hfz65_0 := blk_frozen BK311.out 0
    have hfz65_1 := blk_frozen BK311.out 1
    obtain ⟨Ao66, co66, eo66⟩ := Kd.R_slice HO_316001.out
    subst eo66
    go_wp2
    refine bodyPost_ret (results_cell_row rfl _ _ gb311 28 #[.slice Ao13 t312.length co13, .slice Ao66 x316001_1.length co66] (0, 0) _ rfl (by (with_reducible repeat (first | refine blk_drewN ?_ _ | refine blk_drew ?_ | refine blk_alloc ?_ _)); refine blk_put (cs := #[.slice Ao13 t312.length co13, .slice none 0 0]) ?_ 1 _ rfl; (with_reducible repeat (first | refine blk_drewN ?_ _ | refine blk_drew ?_ | refine blk_alloc ?_ _)); refine blk_put (cs := #[.slice none 0 0, .slice none 0 0]) ?_ 0 _ rfl; (with_reducible repeat (first | refine blk_drewN ?_ _ | refine blk_drew ?_ | refine blk_alloc ?_ _)); exact BK311.out) Try.underlying28 rfl (by kernel_rfl)) rfl ?_
    exact ⟨_, _, by first | rfl | (simp [errW_none, errW_some] <;> rfl) | (simp [*, errW_none, errW_some] <;> rfl), by (with_reducible repeat (first | apply Kd.R_alloc | apply Kd.R_drewN | apply Kd.R_drew)); exact Kd.R_mono (Kd.R_far (p := ⟨gb311, 1, none⟩) (Kd.R_far (p := ⟨gb311, 0, none⟩) (Kd.R_types HO_316000.out BK311.out (by decide)) (fun _ hk => hk.2) (.slice Ao13 t312.length co13)) (fun _ hk => hk.2) (.slice Ao66 x316001_1.length co66)) (fun _ hk => trivial), by (with_reducible repeat (first | apply Kd.R_alloc | apply Kd.R_drewN | apply Kd.R_drew)); exact Kd.R_mono (Kd.R_far (p := ⟨gb311, 1, none⟩) (Kd.R_far (p := ⟨gb311, 0, none⟩) (Kd.R_types HO_316001.out BK311.out (by decide)) (fun _ hk => hk.2) (.slice Ao13 t312.length co13)) (fun _ hk => hk.2) (.slice Ao66 x316001_1.length co66)) (fun _ hk => trivial), by repeat (first | (with_reducible first | exact HB.out | apply below_alloc | apply pw_below_drewN | apply below_drew1 | refine below_set ?_ GE309.out | refine below_set ?_ GE310.out | refine below_set ?_ GE311.out | refine below_set ?_ GE315.out) | exact HB.out)⟩

end Go.Proofs.Ytaonemedoikieaa.Q
