-- Written by a program of this work (wip/tools/mkprint.py) over the kit's print; Lean checks it.
import Derived.Test.YtaonemedoikieaaMx0
import Derived.Test.YtaonemedoikieaaMx2
import Derived.Test.YtaonemedoikieaaMx4
import Derived.Test.YtaonemedoikieaaHAbb2
namespace Go.Proofs.Ytaonemedoikieaa.M
open Go.RowKit Go.Proofs.YtaonemedoikieaaW.PrintWords Go.Proofs.YtaonemedoikieaaW.PrintLast Go.Proofs.YtaonemedoikieaaW.PrintMore Go.Proofs.Ytaonemedoikieaa.AB
attribute [local go_sem] max2_int min2_int max_two min_two max_three min_three max_four min_four   -- for this text's walks alone
set_option linter.unusedVariables false
set_option linter.unusedSimpArgs false

/-! ### deaddropref7_Join: function 8 -/
mutual
def deaddropref7_Join.l0 : Nat → Int → Int → List (S70) → List (S34) → List (S70) → List (S34) → List (S70) → List (S34) → Option ((List (S70)) × (List (S34)))
 | 0, _, _, _, _, _, _, _, _ => none
 | k + 1, x6, x7, x195000, x195001, x196000, x196001, x201000, x201001 => if x6 < (x195001.length : Int) then (deaddropref7_Join.j1 k x6 x7 true x195000 x195001 x196000 x196001 x201000 x201001) else (deaddropref7_Join.j1 k x6 x7 (decide (x7 < (x196001.length : Int))) x195000 x195001 x196000 x196001 x201000 x201001)
def deaddropref7_Join.j1 : Nat → Int → Int → Bool → List (S70) → List (S34) → List (S70) → List (S34) → List (S70) → List (S34) → Option ((List (S70)) × (List (S34)))
 | 0, _, _, _, _, _, _, _, _, _ => none
 | k + 1, x6, x7, x27, x195000, x195001, x196000, x196001, x201000, x201001 => if x27 = true then (if x7 = (x196001.length : Int) then (deaddropref7_Join.j2 k x6 x7 true x195000 x195001 x196000 x196001 x201000 x201001) else (if x6 < (x195001.length : Int) then (if 0 ≤ x6 then (if 0 ≤ x7 then (if x7 < (x196001.length : Int) then ((deaddropref7_Cmp.f k ((rd_T34 x195001 x6).f0.f0) ((rd_T34 x195001 x6).f0.f1) ((rd_T34 x196001 x7).f0.f0) ((rd_T34 x196001 x7).f0.f1)).bind fun t203 => (deaddropref7_Join.j2 k x6 x7 (decide (t203 ≤ 0)) x195000 x195001 x196000 x196001 x201000 x201001)) else (none)) else (none)) else (none)) else (deaddropref7_Join.j2 k x6 x7 false x195000 x195001 x196000 x196001 x201000 x201001))) else (some (x201000, x201001))
def deaddropref7_Join.j2 : Nat → Int → Int → Bool → List (S70) → List (S34) → List (S70) → List (S34) → List (S70) → List (S34) → Option ((List (S70)) × (List (S34)))
 | 0, _, _, _, _, _, _, _, _, _ => none
 | k + 1, x6, x7, x55, x195000, x195001, x196000, x196001, x201000, x201001 => if x55 = true then (if 0 ≤ x6 then (if x6 < (x195001.length : Int) then ((deaddropref7_Has.f k x196000 ((rd_T34 x195001 x6).f0.f0) ((rd_T34 x195001 x6).f0.f1)).bind fun t206 => (if t206 = true then ((deaddropref7_at.f k x196000 x196001 ((rd_T34 x195001 x6).f0.f0) ((rd_T34 x195001 x6).f0.f1)).bind fun t207 => (if t207 = true then (if x201001.length < 2199023255552 then (deaddropref7_Join.l0 k (wrap64 (x6 + 1)) x7 x195000 x195001 x196000 x196001 x201000 (x201001 ++ [(⟨(⟨(rd_T34 x195001 x6).f0.f0, (rd_T34 x195001 x6).f0.f1⟩ : S32), (rd_T34 x195001 x6).f1, (rd_T34 x195001 x6).f2, (rd_T34 x195001 x6).f3, (rd_T34 x195001 x6).f4⟩ : S34)])) else (none)) else (deaddropref7_Join.l0 k (wrap64 (x6 + 1)) x7 x195000 x195001 x196000 x196001 x201000 x201001))) else (if x201001.length < 2199023255552 then (deaddropref7_Join.l0 k (wrap64 (x6 + 1)) x7 x195000 x195001 x196000 x196001 x201000 (x201001 ++ [(⟨(⟨(rd_T34 x195001 x6).f0.f0, (rd_T34 x195001 x6).f0.f1⟩ : S32), (rd_T34 x195001 x6).f1, (rd_T34 x195001 x6).f2, (rd_T34 x195001 x6).f3, (rd_T34 x195001 x6).f4⟩ : S34)])) else (none)))) else (none)) else (none)) else (if 0 ≤ x7 then (if x7 < (x196001.length : Int) then ((deaddropref7_Has.f k x195000 ((rd_T34 x196001 x7).f0.f0) ((rd_T34 x196001 x7).f0.f1)).bind fun t218 => (if t218 = true then (deaddropref7_Join.l0 k x6 (wrap64 (x7 + 1)) x195000 x195001 x196000 x196001 x201000 x201001) else (if x201001.length < 2199023255552 then (deaddropref7_Join.l0 k x6 (wrap64 (x7 + 1)) x195000 x195001 x196000 x196001 x201000 (x201001 ++ [(⟨(⟨(rd_T34 x196001 x7).f0.f0, (rd_T34 x196001 x7).f0.f1⟩ : S32), (rd_T34 x196001 x7).f1, (rd_T34 x196001 x7).f2, (rd_T34 x196001 x7).f3, (rd_T34 x196001 x7).f4⟩ : S34)])) else (none)))) else (none)) else (none))
end
def deaddropref7_Join.f (k : Nat) (l0_0 : List (S70)) (l0_1 : List (S34)) (l1_0 : List (S70)) (l1_1 : List (S34)) : Option ((List (S70)) × (List (S34))) := (deaddropref7_Union.f k l0_0 l1_0).bind fun t197 => (deaddropref7_Join.l0 k 0 0 l0_0 l0_1 l1_0 l1_1 t197 ([] : List (S34)))
theorem deaddropref7_Join.mono_l : ∀ k, (∀ y0 y1 y2 y3 y4 y5 y6 y7, LeO (deaddropref7_Join.l0 k y0 y1 y2 y3 y4 y5 y6 y7) (deaddropref7_Join.l0 (k + 1) y0 y1 y2 y3 y4 y5 y6 y7)) ∧ (∀ y0 y1 y2 y3 y4 y5 y6 y7 y8, LeO (deaddropref7_Join.j1 k y0 y1 y2 y3 y4 y5 y6 y7 y8) (deaddropref7_Join.j1 (k + 1) y0 y1 y2 y3 y4 y5 y6 y7 y8)) ∧ (∀ y0 y1 y2 y3 y4 y5 y6 y7 y8, LeO (deaddropref7_Join.j2 k y0 y1 y2 y3 y4 y5 y6 y7 y8) (deaddropref7_Join.j2 (k + 1) y0 y1 y2 y3 y4 y5 y6 y7 y8))
 | 0 => by refine ⟨?_, ?_, ?_⟩ <;> (intros; intro r h; simp [deaddropref7_Join.l0, deaddropref7_Join.j1, deaddropref7_Join.j2] at h)
 | k + 1 => by
  obtain ⟨ih0, ih1, ih2⟩ := deaddropref7_Join.mono_l k
  refine ⟨?_, ?_, ?_⟩ <;> intros <;> (first | unfold deaddropref7_Join.l0 | unfold deaddropref7_Join.j1 | unfold deaddropref7_Join.j2) <;>
  repeat' first
  | with_reducible (first | exact ih0 _ _ _ _ _ _ _ _ | exact ih1 _ _ _ _ _ _ _ _ _ | exact ih2 _ _ _ _ _ _ _ _ _ | exact deaddropref7_Cmp.mono _ _ _ _ _ | exact deaddropref7_Has.mono _ _ _ _ | exact deaddropref7_Union.mono _ _ _ | exact deaddropref7_at.mono _ _ _ _ _ | exact LeO.refl _ | exact LeO.none _ | refine LeO.ite ?_ ?_ | refine LeO.bind ?_ (fun _ => ?_))
  | exact ih0 _ _ _ _ _ _ _ _ | exact ih1 _ _ _ _ _ _ _ _ _ | exact ih2 _ _ _ _ _ _ _ _ _ | exact deaddropref7_Cmp.mono _ _ _ _ _ | exact deaddropref7_Has.mono _ _ _ _ | exact deaddropref7_Union.mono _ _ _ | exact deaddropref7_at.mono _ _ _ _ _ | exact LeO.none _ | refine LeO.ite ?_ ?_ | refine LeO.bind ?_ (fun _ => ?_)
theorem deaddropref7_Join.mono : ∀ a0 a1 a2 a3 k, LeO (deaddropref7_Join.f k a0 a1 a2 a3) (deaddropref7_Join.f (k + 1) a0 a1 a2 a3) := by
 intro a0 a1 a2 a3 k
 obtain ⟨ih0, ih1, ih2⟩ := deaddropref7_Join.mono_l k
 unfold deaddropref7_Join.f
 repeat' first
  | with_reducible (first | exact ih0 _ _ _ _ _ _ _ _ | exact ih1 _ _ _ _ _ _ _ _ _ | exact ih2 _ _ _ _ _ _ _ _ _ | exact deaddropref7_Cmp.mono _ _ _ _ _ | exact deaddropref7_Has.mono _ _ _ _ | exact deaddropref7_Union.mono _ _ _ | exact deaddropref7_at.mono _ _ _ _ _ | exact LeO.refl _ | exact LeO.none _ | refine LeO.ite ?_ ?_ | refine LeO.bind ?_ (fun _ => ?_))
  | exact ih0 _ _ _ _ _ _ _ _ | exact ih1 _ _ _ _ _ _ _ _ _ | exact ih2 _ _ _ _ _ _ _ _ _ | exact deaddropref7_Cmp.mono _ _ _ _ _ | exact deaddropref7_Has.mono _ _ _ _ | exact deaddropref7_Union.mono _ _ _ | exact deaddropref7_at.mono _ _ _ _ _ | exact LeO.none _ | refine LeO.ite ?_ ?_ | refine LeO.bind ?_ (fun _ => ?_)
def deaddropref7_Join.T4 : Bool × List (List Nat × List Nat) := (true, [([], []), ([], []), ([1], [1]), ([2], [2]), ([0, 3], [0, 3]), ([4], [4]), ([5], [5]), ([5], [5]), ([7, 5], [5, 7]), ([8, 5], [5, 8]), ([6, 9, 5], [5, 6, 9]), ([10, 5, 5], [5, 10]), ([11], [11]), ([12, 11], [11, 12]), ([11], [11]), ([13, 14, 11], [11, 13, 14]), ([15, 11], [11, 15]), ([16, 11], [11, 16]), ([11], [11]), ([18, 11], [11, 18]), ([11], [11]), ([19, 20, 11], [11, 19, 20]), ([21, 11], [11, 21]), ([22, 11], [11, 22]), ([17, 23, 11, 11], [11, 17, 23]), ([24, 11], [11, 24]), ([11, 25, 5], [5, 11, 25]), ([5, 26], [5, 26])])
def deaddropref7_Join.B4 : List Nat := [0, 0, 2, 6, 15, 31, 63, 63, 191, 447, 1023, 2047, 4095, 8191, 4095, 32767, 65535, 131071, 4095, 266239, 4095, 1839103, 3936255, 8130559, 16777215, 33554431, 67108863, 134217727]
theorem deaddropref7_Join.tab4 : rtab .any (opsOf Try.f8 4) = deaddropref7_Join.T4 := by kernel_rfl
theorem deaddropref7_Join.bits4 : waitsOk deaddropref7_Join.T4.2 deaddropref7_Join.B4 = true := by kernel_rfl
def deaddropref7_Join.T7 : Bool × List (List Nat × List Nat) := (true, [([], []), ([0], [0]), ([], []), ([2], [2]), ([], []), ([3, 4], [3, 4]), ([5], [5]), ([6], [6]), ([1, 7], [1, 7]), ([0, 1, 2, 3, 4, 5, 6, 7, 8], []), ([9, 8, 8, 0, 1, 2, 3, 4, 5, 6, 7, 8], [8, 9])])
def deaddropref7_Join.B7 : List Nat := [0, 1, 0, 4, 0, 28, 60, 124, 255, 511, 1023]
theorem deaddropref7_Join.tab7 : rtab .any (opsOf Try.f8 7) = deaddropref7_Join.T7 := by kernel_rfl
theorem deaddropref7_Join.bits7 : waitsOk deaddropref7_Join.T7.2 deaddropref7_Join.B7 = true := by kernel_rfl
def deaddropref7_Join.T11 : Bool × List (List Nat × List Nat) := (true, [([], []), ([0], [0]), ([], []), ([2], [2]), ([], []), ([3, 4], [3, 4]), ([5], [5]), ([6], [6]), ([1, 7], [1, 7]), ([0, 1, 2, 3, 4, 5, 6, 7, 8], []), ([9, 8, 8, 0, 1, 2, 3, 4, 5, 6, 7, 8], [8, 9])])
def deaddropref7_Join.B11 : List Nat := [0, 1, 0, 4, 0, 28, 60, 124, 255, 511, 1023]
theorem deaddropref7_Join.tab11 : rtab .any (opsOf Try.f8 11) = deaddropref7_Join.T11 := by kernel_rfl
theorem deaddropref7_Join.bits11 : waitsOk deaddropref7_Join.T11.2 deaddropref7_Join.B11 = true := by kernel_rfl
set_option maxHeartbeats 8000000 in
set_option maxRecDepth 100000 in
theorem deaddropref7_Join.calls (k : Nat) (A0_0 : Option Addr) (c0_0 : Nat) (l0_0 : List (S70)) (A0_1 : Option Addr) (c0_1 : Nat) (l0_1 : List (S34)) (A1_0 : Option Addr) (c1_0 : Nat) (l1_0 : List (S70)) (A1_1 : Option Addr) (c1_1 : Nat) (l1_1 : List (S34)) (r1 : List (S70)) (r2 : List (S34)) (w : World) (hr0_0 : Kd.C k70 w A0_0 l0_0.length l0_0) (hc0_0 : l0_0.length ≤ c0_0) (hr0_1 : Kd.C k34 w A0_1 l0_1.length l0_1) (hc0_1 : l0_1.length ≤ c0_1) (hr1_0 : Kd.C k70 w A1_0 l1_0.length l1_0) (hc1_0 : l1_0.length ≤ c1_0) (hr1_1 : Kd.C k34 w A1_1 l1_1.length l1_1) (hc1_1 : l1_1.length ≤ c1_1) (h : deaddropref7_Join.f k l0_0 l0_1 l1_0 l1_1 = some (r1, r2)) :
 Calls Try.prog 8 #[.agg #[.slice A0_0 l0_0.length c0_0, .slice A0_1 l0_1.length c0_1], .agg #[.slice A1_0 l1_0.length c1_0, .slice A1_1 l1_1.length c1_1]] w fun e w' => ∃ v0_ v1_ : Value, e = .returned (.agg #[v0_, v1_]) ∧ Kd.R k70 70 w' w.heap.size (fun _ => True) v0_ r1 ∧ Kd.R k34 34 w' w.heap.size (fun _ => True) v1_ r2 ∧ Below w.heap.size w w' := by
 have hu28 := Try.underlying28
 have hu32 := Try.underlying32
 have hu34 := Try.underlying34
 have HR0_0 := Aside0.mk hr0_0
 have HC0_0 := Aside0.mk hc0_0
 clear hr0_0 hc0_0
 have HR0_1 := Aside0.mk hr0_1
 have HC0_1 := Aside0.mk hc0_1
 clear hr0_1 hc0_1
 have HR1_0 := Aside0.mk hr1_0
 have HC1_0 := Aside0.mk hc1_0
 clear hr1_0 hc1_0
 have HR1_1 := Aside0.mk hr1_1
 have HC1_1 := Aside0.mk hc1_1
 clear hr1_1 hc1_1
 have HB := Aside0.mk (Below.refl w.heap.size w)
 have H : ((deaddropref7_Union.f k l0_0 l1_0).bind fun t197 => (deaddropref7_Join.l0 k 0 0 l0_0 l0_1 l1_0 l1_1 t197 ([] : List (S34)))) = some (r1, r2) := h
 clear h
 replace H := Option.bind_eq_some_iff.mp H
 obtain ⟨t197, A30, H⟩ := H
 replace H : (deaddropref7_Join.l0 k 0 0 l0_0 l0_1 l1_0 l1_1 t197 ([] : List (S34))) = some (r1, r2) := H
 have A3 := Aside0.mk A30
 clear A30
 have H' := Aside0.mk H
 clear H
 go_enter Try.func8, Try.ntmps8
 go_wp2_with (first | ((with_reducible refine gate_dst (N := 2) rfl ?_); (try (refine gate_guard (by rfl) ?_; dsimp only)); refine box_event ?hg (N := 2) ?hd (cs := #[.slice A0_0 l0_0.length c0_0, .slice A0_1 l0_1.length c0_1]) (t := 28) ?hr ?_; (case hd => rfl); (case hg => rfl); (case hr => first | (go_simp; done) | (go_simp; rfl)); intro gb194 hg w4 hbox hb; have BK194 := Aside0.mk (hbox); have GW194 := Aside0.mk ((by rw [hg]; exact (below_size (bw HB.out)) : w.heap.size ≤ gb194)); have GE194 := GW194; replace HB := Aside0.mk (below_step (bw HB.out) hb); clear hb hbox hg) | ((with_reducible refine gate_dst (N := 3) rfl ?_); (try (refine gate_guard (by rfl) ?_; dsimp only)); refine box_event ?hg (N := 3) ?hd (cs := #[.slice A1_0 l1_0.length c1_0, .slice A1_1 l1_1.length c1_1]) (t := 28) ?hr ?_; (case hd => rfl); (case hg => rfl); (case hr => first | (go_simp; done) | (go_simp; rfl)); intro gb195 hg w5 hbox hb; have BK195 := Aside0.mk (hbox); have GW195 := Aside0.mk ((by rw [hg]; exact (below_size (bw1 HB.out GE194.out)) : w.heap.size ≤ gb195)); have GE195 := GW195; replace HB := Aside0.mk (below_step (bw1 HB.out GE194.out) hb); have NB194_195 := Aside0.mk (nbl BK194.out hg); have NB195_194 := Aside0.mk (nbg BK194.out hg); replace BK194 := Aside0.mk (bkb BK194.out hb); clear hb hbox hg) | ((with_reducible refine gate_dst (N := 4) rfl ?_); (try (refine gate_guard (by rfl) ?_; dsimp only)); refine box_event ?hg (N := 4) ?hd (cs := #[.slice none 0 0, .slice none 0 0]) (t := 28) ?hr ?_; (case hd => rfl); (case hg => rfl); (case hr => first | (go_simp; done) | (go_simp; rfl)); intro gb196 hg w6 hbox hb; have BK196 := Aside0.mk (hbox); have GW196 := Aside0.mk ((by rw [hg]; exact (below_size (bw2 HB.out GE194.out GE195.out)) : w.heap.size ≤ gb196)); have GE196 := GW196; replace HB := Aside0.mk (below_step (bw2 HB.out GE194.out GE195.out) hb); have NB194_196 := Aside0.mk (nbl BK194.out hg); have NB196_194 := Aside0.mk (nbg BK194.out hg); replace BK194 := Aside0.mk (bkb BK194.out hb); have NB195_196 := Aside0.mk (nbl BK195.out hg); have NB196_195 := Aside0.mk (nbg BK195.out hg); replace BK195 := Aside0.mk (bkb BK195.out hb); clear hb hbox hg; have hnb7 := NB194_195.out; have hnc7 := NB195_194.out; have hnb8 := NB194_196.out; have hnc8 := NB196_194.out; obtain ⟨hcz9_0, hcz9_1⟩ := bx2 BK194.out; obtain ⟨hfz9_0, hfz9_1⟩ := bf2 BK194.out; have hnb10 := NB195_196.out; have hnc10 := NB196_195.out; obtain ⟨hcz11_0, hcz11_1⟩ := bx2 BK195.out; obtain ⟨hfz11_0, hfz11_1⟩ := bf2 BK195.out) | ((with_reducible refine gate_callee (f := 23) rfl ?_); refine goesL_ (some 14) rfl rfl Try.func23 (by kernel_rfl) rfl #[.slice A0_0 l0_0.length c0_0, .slice A1_0 l1_0.length c1_0] rfl ar_ ?_; (with_reducible refine (deaddropref7_Union.calls k _ _ l0_0 _ _ l1_0 t197 _ ?side1 ?side2 ?side3 ?side4 A3.out).mono ?_); (case side1 => exact cr (Kd.C_below HR0_0.out HB.out)); (case side2 => exact HC0_0.out); (case side3 => exact cr (Kd.C_below HR1_0.out HB.out)); (case side4 => exact HC1_0.out); rintro e w12 ⟨v198, rfl, ho0, hb⟩; refine ⟨_, rfl, ?_⟩; have HO199 := Aside0.mk (Kd.R_lower ho0 (below_size (bw3 HB.out GE194.out GE195.out GE196.out))); replace BK194 := Aside0.mk (bkb BK194.out hb); replace BK195 := Aside0.mk (bkb BK195.out hb); replace BK196 := Aside0.mk (bkb BK196.out hb); replace HB := Aside0.mk (below_step (bw3 HB.out GE194.out GE195.out GE196.out) hb); (try clear hb); (try clear hb2); (try clear hk); (try clear hi); (try clear ho0); obtain ⟨Ao13, co13, eo13⟩ := Kd.R_slice HO199.out; subst eo13) | ((with_reducible refine gate_dst (N := 5) rfl ?_); (try (refine gate_guard (by rfl) ?_; dsimp only)); refine box_event ?hg (N := 5) ?hd (cs := #[.slice none 0 0, .slice none 0 0]) (t := 28) ?hr ?_; (case hd => rfl); (case hg => rfl); (case hr => first | (go_simp; done) | (go_simp; rfl)); intro gb200 hg w14 hbox hb; replace HO199 := Aside0.mk (Kd.R_below (rk HO199.out) hb); have BK200 := Aside0.mk (hbox); have GW200 := Aside0.mk ((by rw [hg]; exact (below_size (bw3 HB.out GE194.out GE195.out GE196.out)) : w.heap.size ≤ gb200)); have GE200 := GW200; replace HB := Aside0.mk (below_step (bw3 HB.out GE194.out GE195.out GE196.out) hb); have NB194_200 := Aside0.mk (nbl BK194.out hg); have NB200_194 := Aside0.mk (nbg BK194.out hg); replace BK194 := Aside0.mk (bkb BK194.out hb); have NB195_200 := Aside0.mk (nbl BK195.out hg); have NB200_195 := Aside0.mk (nbg BK195.out hg); replace BK195 := Aside0.mk (bkb BK195.out hb); have NB196_200 := Aside0.mk (nbl BK196.out hg); have NB200_196 := Aside0.mk (nbg BK196.out hg); replace BK196 := Aside0.mk (bkb BK196.out hb); clear hb hbox hg; have hnb15 := NB200_194.out; have hnc15 := NB194_200.out; have hnb16 := NB200_195.out; have hnc16 := NB195_200.out; have hnb17 := NB200_196.out; have hnc17 := NB196_200.out; obtain ⟨hcz18_0, hcz18_1⟩ := bx2 BK200.out; obtain ⟨hfz18_0, hfz18_1⟩ := bf2 BK200.out))
 go_loopg [6, 7] k (fun kq v6 v7 w' => ∃ (x6_1 : Int) (x7_1 : Int) (x201001_1 : List (S34)) (u201001 : Value), v6 = .int .i64 x6_1 ∧ v7 = .int .i64 x7_1 ∧ Aside0 (deaddropref7_Join.l0 kq x6_1 x7_1 l0_0 l0_1 l1_0 l1_1 t197 x201001_1 = some (r1, r2)) ∧ Aside0 (kq ≤ k) ∧ Aside0 (Kd.R k70 70 w' w.heap.size (fun _ => True) (.slice Ao13 t197.length co13) t197) ∧ Aside0 (Kd.R k34 34 w' w.heap.size (fun _ => True) u201001 x201001_1) ∧ Aside0 (w'.heap[gb194]? = some (.cells #[(.slice A0_0 l0_0.length c0_0), (.slice A0_1 l0_1.length c0_1)] 28 (0, 0))) ∧ Aside0 (w'.heap[gb195]? = some (.cells #[(.slice A1_0 l1_0.length c1_0), (.slice A1_1 l1_1.length c1_1)] 28 (0, 0))) ∧ Aside0 (w'.heap[gb196]? = some (.cells #[(.slice none 0 0), (.slice none 0 0)] 28 (0, 0))) ∧ Aside0 (w'.heap[gb200]? = some (.cells #[(.slice Ao13 t197.length co13), u201001] 28 (0, 0))) ∧ Aside0 (Below w.heap.size w w'))
 case atStart => exact ⟨(0), (0), (([] : List (S34))), (.slice none 0 0), ok_, ok_, H', ⟨Nat.le_refl _⟩, ⟨by (with_reducible repeat (first | apply Kd.R_alloc | apply Kd.R_drewN | apply Kd.R_drew)); exact Kd.R_mono (Kd.R_far (p := ⟨gb200, 1, none⟩) (Kd.R_far (p := ⟨gb200, 0, none⟩) (Kd.R_types HO199.out BK200.out (by decide)) (fun _ hk => hk.2) (.slice Ao13 t197.length co13)) (fun _ hk => hk.2) (.slice none 0 0)) (fun _ hk => trivial)⟩, ⟨by first | exact Kd.R_nil _ _ _ _ _ | exact Kd.N_nil _ _ _ _ _ | exact Kd.V_nil _ _ _ _ _ | exact Kd.Q_nil _ _ _ _ _ | exact Kd.S_nil _ _ _ _ _⟩, ⟨by (with_reducible repeat (first | refine blk_drewN ?_ _ | refine blk_drew ?_ | refine blk_alloc ?_ _)); refine blk_far ?_ NB194_200.out _; (with_reducible repeat (first | refine blk_drewN ?_ _ | refine blk_drew ?_ | refine blk_alloc ?_ _)); refine blk_far ?_ NB194_200.out _; (with_reducible repeat (first | refine blk_drewN ?_ _ | refine blk_drew ?_ | refine blk_alloc ?_ _)); exact BK194.out⟩, ⟨by (with_reducible repeat (first | refine blk_drewN ?_ _ | refine blk_drew ?_ | refine blk_alloc ?_ _)); refine blk_far ?_ NB195_200.out _; (with_reducible repeat (first | refine blk_drewN ?_ _ | refine blk_drew ?_ | refine blk_alloc ?_ _)); refine blk_far ?_ NB195_200.out _; (with_reducible repeat (first | refine blk_drewN ?_ _ | refine blk_drew ?_ | refine blk_alloc ?_ _)); exact BK195.out⟩, ⟨by (with_reducible repeat (first | refine blk_drewN ?_ _ | refine blk_drew ?_ | refine blk_alloc ?_ _)); refine blk_far ?_ NB196_200.out _; (with_reducible repeat (first | refine blk_drewN ?_ _ | refine blk_drew ?_ | refine blk_alloc ?_ _)); refine blk_far ?_ NB196_200.out _; (with_reducible repeat (first | refine blk_drewN ?_ _ | refine blk_drew ?_ | refine blk_alloc ?_ _)); exact BK196.out⟩, ⟨by (with_reducible repeat (first | refine blk_drewN ?_ _ | refine blk_drew ?_ | refine blk_alloc ?_ _)); refine blk_put (cs := #[.slice Ao13 t197.length co13, .slice none 0 0]) ?_ 1 _ rfl; (with_reducible repeat (first | refine blk_drewN ?_ _ | refine blk_drew ?_ | refine blk_alloc ?_ _)); refine blk_put (cs := #[.slice none 0 0, .slice none 0 0]) ?_ 0 _ rfl; (with_reducible repeat (first | refine blk_drewN ?_ _ | refine blk_drew ?_ | refine blk_alloc ?_ _)); exact BK200.out⟩, ⟨bw4 HB.out GE194.out GE195.out GE196.out GE200.out⟩⟩
 case round =>
  clear H'
  try clear hcz11_0
  try clear hcz11_1
  try clear hcz18_0
  try clear hcz18_1
  try clear hcz9_0
  try clear hcz9_1
  try clear hfz11_0
  try clear hfz11_1
  try clear hfz18_0
  try clear hfz18_1
  try clear hfz9_0
  try clear hfz9_1
  obtain ⟨x6_1, x7_1, x201001_1, u201001, rfl, rfl, HA, HK1, HO_201000, HO_201001, BK194, BK195, BK196, BK200, HB⟩ := hrel
  cases gk with
  | zero => exact absurd HA.out (by simp [deaddropref7_Join.l0])
  | succ k1 =>
   have H := HA.out
   clear HA
   simp only [deaddropref7_Join.l0] at H
   have HC19 := Aside0.mk H
   clear H
   go_upto_region 3 with (fail)
   go_cut [27] (fun v27 wc => ∃ (kq : Nat) (x27_18 : Bool), v27 = .bool x27_18 ∧ Aside0 (deaddropref7_Join.j1 kq x6_1 x7_1 x27_18 l0_0 l0_1 l1_0 l1_1 t197 x201001_1 = some (r1, r2)) ∧ Aside0 (kq ≤ k1) ∧ Aside0 (Kd.R k70 70 wc w.heap.size (fun _ => True) (.slice Ao13 t197.length co13) t197) ∧ Aside0 (Kd.R k34 34 wc w.heap.size (fun _ => True) u201001 x201001_1) ∧ Aside0 (wc.heap[gb194]? = some (.cells #[(.slice A0_0 l0_0.length c0_0), (.slice A0_1 l0_1.length c0_1)] 28 (0, 0))) ∧ Aside0 (wc.heap[gb195]? = some (.cells #[(.slice A1_0 l1_0.length c1_0), (.slice A1_1 l1_1.length c1_1)] 28 (0, 0))) ∧ Aside0 (wc.heap[gb196]? = some (.cells #[(.slice none 0 0), (.slice none 0 0)] 28 (0, 0))) ∧ Aside0 (wc.heap[gb200]? = some (.cells #[(.slice Ao13 t197.length co13), u201001] 28 (0, 0))) ∧ Aside0 (Below w.heap.size w wc))
   case first =>
    have H := HC19.out
    clear HC19
    by_cases c20 : x6_1 < (l0_1.length : Int)
    ·
     rw [if_pos c20] at H
     have c20b0 : decide (x6_1 < (l0_1.length : Int)) = true := decide_eq_true c20
     clear c20
     (first | rw [c20b0] | (simp only [i64_w, i32_w]; rw [c20b0]) | skip)
     have H' := Aside0.mk H
     clear H
     have hnb21 := NB194_195.out
     have hnc21 := NB195_194.out
     have hnb22 := NB194_196.out
     have hnc22 := NB196_194.out
     have hnb23 := NB194_200.out
     have hnc23 := NB200_194.out
     obtain ⟨hcz24_0, hcz24_1⟩ := bx2 BK194.out
     obtain ⟨hfz24_0, hfz24_1⟩ := bf2 BK194.out
     go_wp2
     go_meet
     case rel => exact ⟨_, (true), ok_, H', ⟨by have := HK1.out; first | omega | exact Nat.le_refl _⟩, ⟨rk HO_201000.out⟩, ⟨rk HO_201001.out⟩, ⟨bk BK194.out⟩, ⟨bk BK195.out⟩, ⟨bk BK196.out⟩, ⟨bk BK200.out⟩, ⟨bw4 HB.out GE194.out GE195.out GE196.out GE200.out⟩⟩
    ·
     rw [if_neg c20] at H
     have c20b0 : decide (x6_1 < (l0_1.length : Int)) = false := decide_eq_false c20
     clear c20
     (first | rw [c20b0] | (simp only [i64_w, i32_w]; rw [c20b0]) | skip)
     have H' := Aside0.mk H
     clear H
     have hnb25 := NB194_195.out
     have hnc25 := NB195_194.out
     have hnb26 := NB194_196.out
     have hnc26 := NB196_194.out
     have hnb27 := NB194_200.out
     have hnc27 := NB200_194.out
     obtain ⟨hcz28_0, hcz28_1⟩ := bx2 BK194.out
     obtain ⟨hfz28_0, hfz28_1⟩ := bf2 BK194.out
     have hnb29 := NB195_196.out
     have hnc29 := NB196_195.out
     have hnb30 := NB195_200.out
     have hnc30 := NB200_195.out
     obtain ⟨hcz31_0, hcz31_1⟩ := bx2 BK195.out
     obtain ⟨hfz31_0, hfz31_1⟩ := bf2 BK195.out
     go_wp2
     go_meet
     case rel => exact ⟨_, (decide (x7_1 < (l1_1.length : Int))), ok_, H', ⟨by have := HK1.out; first | omega | exact Nat.le_refl _⟩, ⟨rk HO_201000.out⟩, ⟨rk HO_201001.out⟩, ⟨bk BK194.out⟩, ⟨bk BK195.out⟩, ⟨bk BK196.out⟩, ⟨bk BK200.out⟩, ⟨bw4 HB.out GE194.out GE195.out GE196.out GE200.out⟩⟩
   case rest =>
    clear HC19
    try clear hcz11_0
    try clear hcz11_1
    try clear hcz18_0
    try clear hcz18_1
    try clear hcz9_0
    try clear hcz9_1
    try clear hfz11_0
    try clear hfz11_1
    try clear hfz18_0
    try clear hfz18_1
    try clear hfz9_0
    try clear hfz9_1
    obtain ⟨kq, x27_18, rfl, HA, HJ18, HO_201000, HO_201001, BK194, BK195, BK196, BK200, HB⟩ := hcut
    cases kq with
    | zero => exact absurd HA.out (by simp [deaddropref7_Join.j1])
    | succ kj18 =>
     have H := HA.out
     clear HA
     simp only [deaddropref7_Join.j1] at H
     by_cases c32 : x27_18 = true
     ·
      subst c32
      have H1 : (if x7_1 = (l1_1.length : Int) then (deaddropref7_Join.j2 kj18 x6_1 x7_1 true l0_0 l0_1 l1_0 l1_1 t197 x201001_1) else (if x6_1 < (l0_1.length : Int) then (if 0 ≤ x6_1 then (if 0 ≤ x7_1 then (if x7_1 < (l1_1.length : Int) then ((deaddropref7_Cmp.f kj18 ((rd_T34 l0_1 x6_1).f0.f0) ((rd_T34 l0_1 x6_1).f0.f1) ((rd_T34 l1_1 x7_1).f0.f0) ((rd_T34 l1_1 x7_1).f0.f1)).bind fun t203 => (deaddropref7_Join.j2 kj18 x6_1 x7_1 (decide (t203 ≤ 0)) l0_0 l0_1 l1_0 l1_1 t197 x201001_1)) else (none)) else (none)) else (none)) else (deaddropref7_Join.j2 kj18 x6_1 x7_1 false l0_0 l0_1 l1_0 l1_1 t197 x201001_1))) = some (r1, r2) := by rw [if_pos rfl] at H; exact H
      clear H
      have H := H1
      clear H1
      have HC33 := Aside0.mk H
      clear H
      go_upto_region 4 with (fail)
      go_cut [55] (fun v55 wc => ∃ (kq : Nat) (x55_32 : Bool), v55 = .bool x55_32 ∧ Aside0 (deaddropref7_Join.j2 kq x6_1 x7_1 x55_32 l0_0 l0_1 l1_0 l1_1 t197 x201001_1 = some (r1, r2)) ∧ Aside0 (kq ≤ kj18) ∧ Aside0 (Kd.R k70 70 wc w.heap.size (fun _ => True) (.slice Ao13 t197.length co13) t197) ∧ Aside0 (Kd.R k34 34 wc w.heap.size (fun _ => True) u201001 x201001_1) ∧ Aside0 (wc.heap[gb194]? = some (.cells #[(.slice A0_0 l0_0.length c0_0), (.slice A0_1 l0_1.length c0_1)] 28 (0, 0))) ∧ Aside0 (wc.heap[gb195]? = some (.cells #[(.slice A1_0 l1_0.length c1_0), (.slice A1_1 l1_1.length c1_1)] 28 (0, 0))) ∧ Aside0 (wc.heap[gb196]? = some (.cells #[(.slice none 0 0), (.slice none 0 0)] 28 (0, 0))) ∧ Aside0 (wc.heap[gb200]? = some (.cells #[(.slice Ao13 t197.length co13), u201001] 28 (0, 0))) ∧ Aside0 (Below w.heap.size w wc))
      case first =>
       have H := HC33.out
       clear HC33
       by_cases c34 : x7_1 = (l1_1.length : Int)
       ·
        rw [if_pos c34] at H
        have c34b0 : (x7_1 == (l1_1.length : Int)) = true := beq_iff_eq.mpr c34
        have c34b1 : (x7_1 != (l1_1.length : Int)) = false := bne_eq_false_iff_eq.mpr c34
        clear c34
        (first | rw [c34b0] | (simp only [i64_w, i32_w]; rw [c34b0]) | skip)
        have H' := Aside0.mk H
        clear H
        try go_wp2
        replace HO_201000 := Aside0.mk (Kd.R_drew HO_201000.out)
        replace HO_201001 := Aside0.mk (Kd.R_drew HO_201001.out)
        replace BK194 := Aside0.mk (blk_drew BK194.out)
        replace BK195 := Aside0.mk (blk_drew BK195.out)
        replace BK196 := Aside0.mk (blk_drew BK196.out)
        replace BK200 := Aside0.mk (blk_drew BK200.out)
        replace HB := Aside0.mk (below_drew1 HB.out)
        refine start_ (n := 28) (S := fun w' => w'.cell? ⟨gb195, 0, none⟩ = some (.slice A1_0 l1_0.length c1_0) ∧ w'.cell? ⟨gb195, 1, none⟩ = some (.slice A1_1 l1_1.length c1_1)) (ds := []) (fl 0 28) (by kernel_rfl) rfl rfl ⟨(blk_cell BK195.out 0).trans rfl, (blk_cell BK195.out 1).trans rfl⟩ (fun hHeld => ?_); refine with_tabW deaddropref7_Join.tab4 deaddropref7_Join.bits4 (fun HT_ HW_ => ?_)
        generalize wc.drew = w35 at HO_201000 HO_201001 BK194 BK195 BK196 BK200 HB hHeld ⊢
        refine pure_ (i := 0) (N := some 28) (fl 1 28) rfl rfl (any_of HT_.out (by kernel_rfl)) (fun _ _ _ h => h) (Or.inl ⟨by rfl, py⟩) pa ?_
        refine pure_ (i := 1) (N := some 29) (fl 2 28) rfl rfl (any_of HT_.out (by kernel_rfl)) (fun _ _ _ h => h) (Or.inl ⟨by rfl, py⟩) pa ?_
        refine take_ (i := 2) (N := some 30) (fl 3 28) rfl rfl (take_ofW HT_.out HW_.out (by kernel_rfl)) (fun _ _ _ h => h) (Or.inl ⟨by rfl, tk⟩) hHeld pa ?_
        refine pure_ (i := 3) (N := some 31) (fl 4 28) rfl rfl (any_of HT_.out (by kernel_rfl)) (fun _ _ _ h => h) (Or.inl ⟨by rfl, py⟩) pa ?_
        refine pure_ (i := 4) (N := some 32) (fl 5 28) rfl rfl (any_of HT_.out (by kernel_rfl)) (fun _ _ _ h => h) (Or.inl ⟨by rfl, py⟩) pa ?_
        refine pure_ (i := 5) (N := some 33) (fl 6 28) rfl rfl (any_of HT_.out (by kernel_rfl)) (fun _ _ _ h => h) (Or.inl ⟨by rfl, py⟩) pa ?_
        refine pure_ (i := 6) (N := some 34) (v := undef) (a' := ?_) (fl 7 28) rfl rfl (any_of HT_.out (by kernel_rfl)) (fun _ _ _ h => h) (Or.inr ⟨by rfl, rfl⟩) ?_ ?_
        rotate_left
        ·
         simp only [Act.put, List.setIfInBounds_toArray, List.set_cons_zero, List.set_cons_succ, i64_w, i32_w]
         rfl
        refine pure_ (i := 7) (N := some 35) (v := undef) (a' := ?_) (fl 8 28) rfl rfl (any_of HT_.out (by kernel_rfl)) (fun _ _ _ h => h) (Or.inr ⟨by rfl, rfl⟩) ?_ ?_
        rotate_left
        ·
         simp only [Act.put, List.setIfInBounds_toArray, List.set_cons_zero, List.set_cons_succ, i64_w, i32_w]
         rfl
        refine pure_ (i := 8) (N := some 36) (v := undef) (a' := ?_) (fl 9 28) rfl rfl (any_of HT_.out (by kernel_rfl)) (fun _ _ _ h => h) (Or.inr ⟨by rfl, rfl⟩) ?_ ?_
        rotate_left
        ·
         simp only [Act.put, List.setIfInBounds_toArray, List.set_cons_zero, List.set_cons_succ, i64_w, i32_w]
         rfl
        refine pure_ (i := 9) (N := some 37) (v := undef) (a' := ?_) (fl 10 28) rfl rfl (any_of HT_.out (by kernel_rfl)) (fun _ _ _ h => h) (Or.inr ⟨by rfl, rfl⟩) ?_ ?_
        rotate_left
        ·
         simp only [Act.put, List.setIfInBounds_toArray, List.set_cons_zero, List.set_cons_succ, i64_w, i32_w]
         rfl
        refine pure_ (i := 10) (N := some 38) (v := undef) (a' := ?_) (fl 11 28) rfl rfl (any_of HT_.out (by kernel_rfl)) (fun _ _ _ h => h) (Or.inr ⟨by rfl, rfl⟩) ?_ ?_
        rotate_left
        ·
         simp only [Act.put, List.setIfInBounds_toArray, List.set_cons_zero, List.set_cons_succ, i64_w, i32_w]
         rfl
        refine pure_ (i := 11) (N := some 39) (v := undef) (a' := ?_) (fl 12 28) rfl rfl (any_of HT_.out (by kernel_rfl)) (fun _ _ _ h => h) (Or.inr ⟨by rfl, rfl⟩) ?_ ?_
        rotate_left
        ·
         simp only [Act.put, List.setIfInBounds_toArray, List.set_cons_zero, List.set_cons_succ, i64_w, i32_w]
         rfl
        refine pure_ (i := 12) (N := some 40) (v := undef) (a' := ?_) (fl 13 28) rfl rfl (any_of HT_.out (by kernel_rfl)) (fun _ _ _ h => h) (Or.inr ⟨by rfl, rfl⟩) ?_ ?_
        rotate_left
        ·
         simp only [Act.put, List.setIfInBounds_toArray, List.set_cons_zero, List.set_cons_succ, i64_w, i32_w]
         rfl
        refine pure_ (i := 13) (N := some 41) (v := undef) (a' := ?_) (fl 14 28) rfl rfl (any_of HT_.out (by kernel_rfl)) (fun _ _ _ h => h) (Or.inr ⟨by rfl, rfl⟩) ?_ ?_
        rotate_left
        ·
         simp only [Act.put, List.setIfInBounds_toArray, List.set_cons_zero, List.set_cons_succ, i64_w, i32_w]
         rfl
        refine pure_ (i := 14) (N := some 42) (v := undef) (a' := ?_) (fl 15 28) rfl rfl (any_of HT_.out (by kernel_rfl)) (fun _ _ _ h => h) (Or.inr ⟨by rfl, rfl⟩) ?_ ?_
        rotate_left
        ·
         simp only [Act.put, List.setIfInBounds_toArray, List.set_cons_zero, List.set_cons_succ, i64_w, i32_w]
         rfl
        refine pure_ (i := 15) (N := some 43) (v := undef) (a' := ?_) (fl 16 28) rfl rfl (any_of HT_.out (by kernel_rfl)) (fun _ _ _ h => h) (Or.inr ⟨by rfl, rfl⟩) ?_ ?_
        rotate_left
        ·
         simp only [Act.put, List.setIfInBounds_toArray, List.set_cons_zero, List.set_cons_succ, i64_w, i32_w]
         rfl
        refine pure_ (i := 16) (N := some 44) (v := undef) (a' := ?_) (fl 17 28) rfl rfl (any_of HT_.out (by kernel_rfl)) (fun _ _ _ h => h) (Or.inr ⟨by rfl, rfl⟩) ?_ ?_
        rotate_left
        ·
         simp only [Act.put, List.setIfInBounds_toArray, List.set_cons_zero, List.set_cons_succ, i64_w, i32_w]
         rfl
        refine pure_ (i := 17) (N := some 45) (v := undef) (a' := ?_) (fl 18 28) rfl rfl (any_of HT_.out (by kernel_rfl)) (fun _ _ _ h => h) (Or.inr ⟨by rfl, rfl⟩) ?_ ?_
        rotate_left
        ·
         simp only [Act.put, List.setIfInBounds_toArray, List.set_cons_zero, List.set_cons_succ, i64_w, i32_w]
         rfl
        refine pure_ (i := 18) (N := some 46) (v := undef) (a' := ?_) (fl 19 28) rfl rfl (any_of HT_.out (by kernel_rfl)) (fun _ _ _ h => h) (Or.inr ⟨by rfl, rfl⟩) ?_ ?_
        rotate_left
        ·
         simp only [Act.put, List.setIfInBounds_toArray, List.set_cons_zero, List.set_cons_succ, i64_w, i32_w]
         rfl
        refine pure_ (i := 19) (N := some 47) (v := undef) (a' := ?_) (fl 20 28) rfl rfl (any_of HT_.out (by kernel_rfl)) (fun _ _ _ h => h) (Or.inr ⟨by rfl, rfl⟩) ?_ ?_
        rotate_left
        ·
         simp only [Act.put, List.setIfInBounds_toArray, List.set_cons_zero, List.set_cons_succ, i64_w, i32_w]
         rfl
        refine pure_ (i := 20) (N := some 48) (v := undef) (a' := ?_) (fl 21 28) rfl rfl (any_of HT_.out (by kernel_rfl)) (fun _ _ _ h => h) (Or.inr ⟨by rfl, rfl⟩) ?_ ?_
        rotate_left
        ·
         simp only [Act.put, List.setIfInBounds_toArray, List.set_cons_zero, List.set_cons_succ, i64_w, i32_w]
         rfl
        refine pure_ (i := 21) (N := some 49) (v := undef) (a' := ?_) (fl 22 28) rfl rfl (any_of HT_.out (by kernel_rfl)) (fun _ _ _ h => h) (Or.inr ⟨by rfl, rfl⟩) ?_ ?_
        rotate_left
        ·
         simp only [Act.put, List.setIfInBounds_toArray, List.set_cons_zero, List.set_cons_succ, i64_w, i32_w]
         rfl
        refine pure_ (i := 22) (N := some 50) (v := undef) (a' := ?_) (fl 23 28) rfl rfl (any_of HT_.out (by kernel_rfl)) (fun _ _ _ h => h) (Or.inr ⟨by rfl, rfl⟩) ?_ ?_
        rotate_left
        ·
         simp only [Act.put, List.setIfInBounds_toArray, List.set_cons_zero, List.set_cons_succ, i64_w, i32_w]
         rfl
        refine pure_ (i := 23) (N := some 51) (v := undef) (a' := ?_) (fl 24 28) rfl rfl (any_of HT_.out (by kernel_rfl)) (fun _ _ _ h => h) (Or.inr ⟨by rfl, rfl⟩) ?_ ?_
        rotate_left
        ·
         simp only [Act.put, List.setIfInBounds_toArray, List.set_cons_zero, List.set_cons_succ, i64_w, i32_w]
         rfl
        refine pure_ (i := 24) (N := some 52) (v := undef) (a' := ?_) (fl 25 28) rfl rfl (any_of HT_.out (by kernel_rfl)) (fun _ _ _ h => h) (Or.inr ⟨by rfl, rfl⟩) ?_ ?_
        rotate_left
        ·
         simp only [Act.put, List.setIfInBounds_toArray, List.set_cons_zero, List.set_cons_succ, i64_w, i32_w]
         rfl
        refine pure_ (i := 25) (N := some 53) (v := undef) (a' := ?_) (fl 26 28) rfl rfl (any_of HT_.out (by kernel_rfl)) (fun _ _ _ h => h) (Or.inr ⟨by rfl, rfl⟩) ?_ ?_
        rotate_left
        ·
         simp only [Act.put, List.setIfInBounds_toArray, List.set_cons_zero, List.set_cons_succ, i64_w, i32_w]
         rfl
        refine pure_ (i := 26) (N := some 54) (v := undef) (a' := ?_) (fl 27 28) rfl rfl (any_of HT_.out (by kernel_rfl)) (fun _ _ _ h => h) (Or.inr ⟨by rfl, rfl⟩) ?_ ?_
        rotate_left
        ·
         simp only [Act.put, List.setIfInBounds_toArray, List.set_cons_zero, List.set_cons_succ, i64_w, i32_w]
         rfl
        refine pure_ (i := 27) (N := some 55) (fl 28 28) rfl rfl (any_of HT_.out (by kernel_rfl)) (fun _ _ _ h => h) (Or.inl ⟨by rfl, py⟩) pa ?_
        refine done_ (done_of HT_.out (by kernel_rfl)) ?_
        try go_wp2
        go_meet
        case rel => exact ⟨_, (true), ok_, H', ⟨by have := HK1.out; have := HJ18.out; first | omega | exact Nat.le_refl _⟩, ⟨rk HO_201000.out⟩, ⟨rk HO_201001.out⟩, ⟨bk BK194.out⟩, ⟨bk BK195.out⟩, ⟨bk BK196.out⟩, ⟨bk BK200.out⟩, ⟨bw4 HB.out GE194.out GE195.out GE196.out GE200.out⟩⟩
       ·
        rw [if_neg c34] at H
        have c34b0 : (x7_1 == (l1_1.length : Int)) = false := beq_eq_false_iff_ne.mpr c34
        have c34b1 : (x7_1 != (l1_1.length : Int)) = true := bne_iff_ne.mpr c34
        (first | rw [c34b0] | (simp only [i64_w, i32_w]; rw [c34b0]) | skip)
        by_cases c36 : x6_1 < (l0_1.length : Int)
        ·
         rw [if_pos c36] at H
         have c36b0 : decide (x6_1 < (l0_1.length : Int)) = true := decide_eq_true c36
         clear c36
         by_cases c37 : 0 ≤ x6_1
         rotate_left
         ·
          rw [if_neg c37] at H
          exact absurd H (by simp)
         rw [if_pos c37] at H
         have c37b0 : decide (0 ≤ x6_1) = true := decide_eq_true c37
         clear c37
         by_cases c38 : 0 ≤ x7_1
         rotate_left
         ·
          rw [if_neg c38] at H
          exact absurd H (by simp)
         rw [if_pos c38] at H
         have c38b0 : decide (0 ≤ x7_1) = true := decide_eq_true c38
         clear c38
         by_cases c39 : x7_1 < (l1_1.length : Int)
         rotate_left
         ·
          rw [if_neg c39] at H
          exact absurd H (by simp)
         rw [if_pos c39] at H
         have c39b0 : decide (x7_1 < (l1_1.length : Int)) = true := decide_eq_true c39
         clear c39
         replace H := Option.bind_eq_some_iff.mp H
         obtain ⟨t203, A400, H⟩ := H
         replace H : (deaddropref7_Join.j2 kj18 x6_1 x7_1 (decide (t203 ≤ 0)) l0_0 l0_1 l1_0 l1_1 t197 x201001_1) = some (r1, r2) := H
         have A40 := Aside0.mk A400
         clear A400
         have H' := Aside0.mk H
         clear H
         try go_wp2
         replace HO_201000 := Aside0.mk (Kd.R_drew HO_201000.out)
         replace HO_201001 := Aside0.mk (Kd.R_drew HO_201001.out)
         replace BK194 := Aside0.mk (blk_drew BK194.out)
         replace BK195 := Aside0.mk (blk_drew BK195.out)
         replace BK196 := Aside0.mk (blk_drew BK196.out)
         replace BK200 := Aside0.mk (blk_drew BK200.out)
         replace HB := Aside0.mk (below_drew1 HB.out)
         have p201 : 0 ≤ (x6_1 : Int) := of_decide_eq_true as_
         have q201 : x6_1 < (l0_1.length : Int) := of_decide_eq_true as_
         obtain ⟨ad201, e201, hx201_0, hx201_1, hx201_2, hx201_3, hx201_4, hx201_5⟩ := at_T34 HR0_1.out x6_1 p201 q201
         have hw201_5 := hx201_5
         have hw201_4 := hx201_4
         have hw201_3 := hx201_3
         have hw201_2 := hx201_2
         have hw201_1 := hx201_1
         have hw201_0 := hx201_0
         cases e201
         replace hx201_0 := (HB.out.cell (World.block_lt_of_cell? w _ hx201_0)).trans hx201_0
         replace hx201_1 := (HB.out.cell (World.block_lt_of_cell? w _ hx201_1)).trans hx201_1
         replace hx201_2 := (HB.out.cell (World.block_lt_of_cell? w _ hx201_2)).trans hx201_2
         replace hx201_3 := (HB.out.cell (World.block_lt_of_cell? w _ hx201_3)).trans hx201_3
         replace hx201_4 := (HB.out.cell (World.block_lt_of_cell? w _ hx201_4)).trans hx201_4
         replace hx201_5 := (HB.out.cell (World.block_lt_of_cell? w _ hx201_5)).trans hx201_5
         replace p201 := eq_true p201
         replace q201 := eq_true q201
         have p202 : 0 ≤ (x7_1 : Int) := of_decide_eq_true as_
         have q202 : x7_1 < (l1_1.length : Int) := of_decide_eq_true as_
         obtain ⟨ad202, e202, hx202_0, hx202_1, hx202_2, hx202_3, hx202_4, hx202_5⟩ := at_T34 HR1_1.out x7_1 p202 q202
         have hw202_5 := hx202_5
         have hw202_4 := hx202_4
         have hw202_3 := hx202_3
         have hw202_2 := hx202_2
         have hw202_1 := hx202_1
         have hw202_0 := hx202_0
         cases e202
         replace hx202_0 := (HB.out.cell (World.block_lt_of_cell? w _ hx202_0)).trans hx202_0
         replace hx202_1 := (HB.out.cell (World.block_lt_of_cell? w _ hx202_1)).trans hx202_1
         replace hx202_2 := (HB.out.cell (World.block_lt_of_cell? w _ hx202_2)).trans hx202_2
         replace hx202_3 := (HB.out.cell (World.block_lt_of_cell? w _ hx202_3)).trans hx202_3
         replace hx202_4 := (HB.out.cell (World.block_lt_of_cell? w _ hx202_4)).trans hx202_4
         replace hx202_5 := (HB.out.cell (World.block_lt_of_cell? w _ hx202_5)).trans hx202_5
         replace p202 := eq_true p202
         replace q202 := eq_true q202
         refine start_ (n := 28) (S := fun w' => w'.cell? ⟨gb195, 0, none⟩ = some (.slice A1_0 l1_0.length c1_0) ∧ w'.cell? ⟨gb195, 1, none⟩ = some (.slice (some ad202) l1_1.length c1_1) ∧ w'.cell? ⟨gb194, 0, none⟩ = some (.slice A0_0 l0_0.length c0_0) ∧ w'.cell? ⟨gb194, 1, none⟩ = some (.slice (some ad201) l0_1.length c0_1) ∧ w'.cell? (ad201.add ((x6_1).toNat * 6)) = some (.int .i64 ((rd_T34 l0_1 x6_1).f0.f0)) ∧ w'.cell? ⟨(ad201.add ((x6_1).toNat * 6)).block, (ad201.add ((x6_1).toNat * 6)).off + 1, none⟩ = some (.int .i64 ((rd_T34 l0_1 x6_1).f0.f1)) ∧ w'.cell? ⟨(ad201.add ((x6_1).toNat * 6)).block, (ad201.add ((x6_1).toNat * 6)).off + 2, none⟩ = some (.string ((rd_T34 l0_1 x6_1).f1)) ∧ w'.cell? ⟨(ad201.add ((x6_1).toNat * 6)).block, (ad201.add ((x6_1).toNat * 6)).off + 3, none⟩ = some (.int .i64 ((rd_T34 l0_1 x6_1).f2)) ∧ w'.cell? ⟨(ad201.add ((x6_1).toNat * 6)).block, (ad201.add ((x6_1).toNat * 6)).off + 4, none⟩ = some (.string ((rd_T34 l0_1 x6_1).f3)) ∧ w'.cell? ⟨(ad201.add ((x6_1).toNat * 6)).block, (ad201.add ((x6_1).toNat * 6)).off + 5, none⟩ = some (.int .i64 ((rd_T34 l0_1 x6_1).f4)) ∧ w'.cell? (ad202.add ((x7_1).toNat * 6)) = some (.int .i64 ((rd_T34 l1_1 x7_1).f0.f0)) ∧ w'.cell? ⟨(ad202.add ((x7_1).toNat * 6)).block, (ad202.add ((x7_1).toNat * 6)).off + 1, none⟩ = some (.int .i64 ((rd_T34 l1_1 x7_1).f0.f1)) ∧ w'.cell? ⟨(ad202.add ((x7_1).toNat * 6)).block, (ad202.add ((x7_1).toNat * 6)).off + 2, none⟩ = some (.string ((rd_T34 l1_1 x7_1).f1)) ∧ w'.cell? ⟨(ad202.add ((x7_1).toNat * 6)).block, (ad202.add ((x7_1).toNat * 6)).off + 3, none⟩ = some (.int .i64 ((rd_T34 l1_1 x7_1).f2)) ∧ w'.cell? ⟨(ad202.add ((x7_1).toNat * 6)).block, (ad202.add ((x7_1).toNat * 6)).off + 4, none⟩ = some (.string ((rd_T34 l1_1 x7_1).f3)) ∧ w'.cell? ⟨(ad202.add ((x7_1).toNat * 6)).block, (ad202.add ((x7_1).toNat * 6)).off + 5, none⟩ = some (.int .i64 ((rd_T34 l1_1 x7_1).f4))) (ds := []) (fl 0 28) (by kernel_rfl) rfl rfl ⟨(blk_cell BK195.out 0).trans rfl, (blk_cell BK195.out 1).trans rfl, (blk_cell BK194.out 0).trans rfl, (blk_cell BK194.out 1).trans rfl, (bc HB.out hw201_0), (bc HB.out hw201_1), (bc HB.out hw201_2), (bc HB.out hw201_3), (bc HB.out hw201_4), (bc HB.out hw201_5), (bc HB.out hw202_0), (bc HB.out hw202_1), (bc HB.out hw202_2), (bc HB.out hw202_3), (bc HB.out hw202_4), (bc HB.out hw202_5)⟩ (fun hHeld => ?_); refine with_tabW deaddropref7_Join.tab4 deaddropref7_Join.bits4 (fun HT_ HW_ => ?_)
         generalize wc.drew = w41 at HO_201000 HO_201001 BK194 BK195 BK196 BK200 HB hx201_0 hx201_1 hx201_2 hx201_3 hx201_4 hx201_5 hx202_0 hx202_1 hx202_2 hx202_3 hx202_4 hx202_5 hHeld ⊢
         refine pure_ (i := 0) (N := some 28) (fl 1 28) rfl rfl (any_of HT_.out (by kernel_rfl)) (fun _ _ _ h => h) (Or.inl ⟨by rfl, py⟩) pa ?_
         refine pure_ (i := 1) (N := some 29) (fl 2 28) rfl rfl (any_of HT_.out (by kernel_rfl)) (fun _ _ _ h => h) (Or.inl ⟨by rfl, py⟩) pa ?_
         refine take_ (i := 2) (N := some 30) (fl 3 28) rfl rfl (take_ofW HT_.out HW_.out (by kernel_rfl)) (fun _ _ _ h => h) (Or.inl ⟨by rfl, tk⟩) hHeld pa ?_
         refine pure_ (i := 3) (N := some 31) (fl 4 28) rfl rfl (any_of HT_.out (by kernel_rfl)) (fun _ _ _ h => h) (Or.inl ⟨by rfl, py⟩) pa ?_
         refine pure_ (i := 4) (N := some 32) (fl 5 28) rfl rfl (any_of HT_.out (by kernel_rfl)) (fun _ _ _ h => h) (Or.inl ⟨by rfl, py⟩) pa ?_
         refine pure_ (i := 5) (N := some 33) (fl 6 28) rfl rfl (any_of HT_.out (by kernel_rfl)) (fun _ _ _ h => h) (Or.inl ⟨by rfl, py⟩) pa ?_
         refine pure_ (i := 6) (N := some 34) (fl 7 28) rfl rfl (any_of HT_.out (by kernel_rfl)) (fun _ _ _ h => h) (Or.inl ⟨by rfl, py⟩) pa ?_
         refine pure_ (i := 7) (N := some 35) (fl 8 28) rfl rfl (any_of HT_.out (by kernel_rfl)) (fun _ _ _ h => h) (Or.inl ⟨by rfl, py⟩) pa ?_
         refine take_ (i := 8) (N := some 36) (fl 9 28) rfl rfl (take_ofW HT_.out HW_.out (by kernel_rfl)) (fun _ _ _ h => h) (Or.inl ⟨by rfl, tk⟩) hHeld pa ?_
         refine pure_ (i := 9) (N := some 37) (fl 10 28) rfl rfl (any_of HT_.out (by kernel_rfl)) (fun _ _ _ h => h) (Or.inl ⟨by rfl, py⟩) pa ?_
         refine pure_ (i := 10) (N := some 38) (fl 11 28) rfl rfl (any_of HT_.out (by kernel_rfl)) (fun _ _ _ h => h) (Or.inl ⟨by rfl, py⟩) pa ?_
         refine pure_ (i := 11) (N := some 39) (fl 12 28) rfl rfl (any_of HT_.out (by kernel_rfl)) (fun _ _ _ h => h) (Or.inl ⟨by rfl, py⟩) pa ?_
         refine pure_ (i := 12) (N := some 40) (fl 13 28) rfl rfl (any_of HT_.out (by kernel_rfl)) (fun _ _ _ h => h) (Or.inl ⟨by rfl, py⟩) pa ?_
         refine pure_ (i := 14) (N := some 42) #[true, true, true, true, true, true, true, true, true, true, true, true, true, false, true, false, false, false, false, false, false, false, false, false, false, false, false, false] rfl rfl (any_of HT_.out (by kernel_rfl)) (fun _ _ _ h => h) (Or.inl ⟨by rfl, py⟩) pa ?_
         refine pure_ (i := 18) (N := some 46) #[true, true, true, true, true, true, true, true, true, true, true, true, true, false, true, false, false, false, true, false, false, false, false, false, false, false, false, false] rfl rfl (any_of HT_.out (by kernel_rfl)) (fun _ _ _ h => h) (Or.inl ⟨by rfl, py⟩) pa ?_
         refine pure_ (i := 20) (N := some 48) #[true, true, true, true, true, true, true, true, true, true, true, true, true, false, true, false, false, false, true, false, true, false, false, false, false, false, false, false] rfl rfl (any_of HT_.out (by kernel_rfl)) (fun _ _ _ h => h) (Or.inl ⟨by rfl, py⟩) pa ?_
         refine take_ (i := 13) (N := some 41) #[true, true, true, true, true, true, true, true, true, true, true, true, true, true, true, false, false, false, true, false, true, false, false, false, false, false, false, false] rfl rfl (take_ofW HT_.out HW_.out (by kernel_rfl)) (fun _ _ _ h => h) (Or.inl ⟨by rfl, tk⟩) hHeld pa ?_
         refine pure_ (i := 15) (N := some 43) #[true, true, true, true, true, true, true, true, true, true, true, true, true, true, true, true, false, false, true, false, true, false, false, false, false, false, false, false] rfl rfl (any_of HT_.out (by kernel_rfl)) (fun _ _ _ h => h) (Or.inl ⟨by rfl, py⟩) pa ?_
         refine pure_ (i := 16) (N := some 44) #[true, true, true, true, true, true, true, true, true, true, true, true, true, true, true, true, true, false, true, false, true, false, false, false, false, false, false, false] rfl rfl (any_of HT_.out (by kernel_rfl)) (fun _ _ _ h => h) (Or.inl ⟨by rfl, py⟩) pa ?_
         refine take_ (i := 17) (N := some 45) #[true, true, true, true, true, true, true, true, true, true, true, true, true, true, true, true, true, true, true, false, true, false, false, false, false, false, false, false] rfl rfl (take_ofW HT_.out HW_.out (by kernel_rfl)) (fun _ _ _ h => h) (Or.inl ⟨by rfl, tk⟩) hHeld pa ?_
         refine take_ (i := 19) (N := some 47) (fl 21 28) rfl rfl (take_ofW HT_.out HW_.out (by kernel_rfl)) (fun _ _ _ h => h) (Or.inl ⟨by rfl, tk⟩) hHeld pa ?_
         refine pure_ (i := 21) (N := some 49) (fl 22 28) rfl rfl (any_of HT_.out (by kernel_rfl)) (fun _ _ _ h => h) (Or.inl ⟨by rfl, py⟩) pa ?_
         refine pure_ (i := 22) (N := some 50) (fl 23 28) rfl rfl (any_of HT_.out (by kernel_rfl)) (fun _ _ _ h => h) (Or.inl ⟨by rfl, py⟩) pa ?_
         refine take_ (i := 23) (N := some 51) (fl 24 28) rfl rfl (take_ofW HT_.out HW_.out (by kernel_rfl)) (fun _ _ _ h => h) (Or.inl ⟨by rfl, tk⟩) hHeld pa ?_
         refine one_ (i := 24) (N := some 52) (fl 25 28) rfl rfl (one_of HT_.out (by kernel_rfl)) (by decide) (fun K hK => ?_)
         refine goes_ Try.func24 (by kernel_rfl) rfl #[.agg #[.int .i64 ((rd_T34 l0_1 x6_1).f0.f0), .int .i64 ((rd_T34 l0_1 x6_1).f0.f1)], .agg #[.int .i64 ((rd_T34 l1_1 x7_1).f0.f0), .int .i64 ((rd_T34 l1_1 x7_1).f0.f1)]] (by rfl) rfl rfl ar_ ?_
         with_reducible refine (deaddropref7_Cmp.calls kj18 ((rd_T34 l0_1 x6_1).f0.f0) ((rd_T34 l0_1 x6_1).f0.f1) ((rd_T34 l1_1 x7_1).f0.f0) ((rd_T34 l1_1 x7_1).f0.f1) t203 _ A40.out).mono ?_
         rintro e w42 ⟨rfl, hb⟩
         refine ⟨_, rfl, ?_⟩
         replace HO_201000 := Aside0.mk (Kd.R_below (rk HO_201000.out) hb)
         replace HO_201001 := Aside0.mk (Kd.R_below (rk HO_201001.out) hb)
         replace BK194 := Aside0.mk (bkb BK194.out hb)
         replace BK195 := Aside0.mk (bkb BK195.out hb)
         replace BK196 := Aside0.mk (bkb BK196.out hb)
         replace BK200 := Aside0.mk (bkb BK200.out hb)
         replace HB := Aside0.mk (below_step (bw4 HB.out GE194.out GE195.out GE196.out GE200.out) hb)
         (try clear hb)
         (try clear hb2)
         (try clear hk)
         (try clear hi)
         refine hK.out _ _ ⟨(blk_cell BK195.out 0).trans rfl, (blk_cell BK195.out 1).trans rfl, (blk_cell BK194.out 0).trans rfl, (blk_cell BK194.out 1).trans rfl, (bc HB.out hw201_0), (bc HB.out hw201_1), (bc HB.out hw201_2), (bc HB.out hw201_3), (bc HB.out hw201_4), (bc HB.out hw201_5), (bc HB.out hw202_0), (bc HB.out hw202_1), (bc HB.out hw202_2), (bc HB.out hw202_3), (bc HB.out hw202_4), (bc HB.out hw202_5)⟩ (fun hHeld => ?_)
         clear hK K
         refine norm_ (a' := ?_) ?_ ?_
         rotate_left
         ·
          show Act.put _ (some 52) _ = _
          simp only [Act.put, List.setIfInBounds_toArray, List.set_cons_zero, List.set_cons_succ, i64_w, i32_w]
          rfl
         refine pure_ (i := 25) (N := some 53) (fl 26 28) rfl rfl (any_of HT_.out (by kernel_rfl)) (fun _ _ _ h => h) (Or.inl ⟨by rfl, py⟩) pa ?_
         refine pure_ (i := 26) (N := some 54) (fl 27 28) rfl rfl (any_of HT_.out (by kernel_rfl)) (fun _ _ _ h => h) (Or.inl ⟨by rfl, py⟩) pa ?_
         refine pure_ (i := 27) (N := some 55) (fl 28 28) rfl rfl (any_of HT_.out (by kernel_rfl)) (fun _ _ _ h => h) (Or.inl ⟨by rfl, py⟩) pa ?_
         refine done_ (done_of HT_.out (by kernel_rfl)) ?_
         try go_wp2
         go_meet
         case rel => exact ⟨_, (decide (t203 ≤ 0)), ok_, H', ⟨by have := HK1.out; have := HJ18.out; first | omega | exact Nat.le_refl _⟩, ⟨rk HO_201000.out⟩, ⟨rk HO_201001.out⟩, ⟨bk BK194.out⟩, ⟨bk BK195.out⟩, ⟨bk BK196.out⟩, ⟨bk BK200.out⟩, ⟨bw4 HB.out GE194.out GE195.out GE196.out GE200.out⟩⟩
        ·
         rw [if_neg c36] at H
         have c36b0 : decide (x6_1 < (l0_1.length : Int)) = false := decide_eq_false c36
         clear c36
         have H' := Aside0.mk H
         clear H
         try go_wp2
         replace HO_201000 := Aside0.mk (Kd.R_drew HO_201000.out)
         replace HO_201001 := Aside0.mk (Kd.R_drew HO_201001.out)
         replace BK194 := Aside0.mk (blk_drew BK194.out)
         replace BK195 := Aside0.mk (blk_drew BK195.out)
         replace BK196 := Aside0.mk (blk_drew BK196.out)
         replace BK200 := Aside0.mk (blk_drew BK200.out)
         replace HB := Aside0.mk (below_drew1 HB.out)
         refine start_ (n := 28) (S := fun w' => w'.cell? ⟨gb195, 0, none⟩ = some (.slice A1_0 l1_0.length c1_0) ∧ w'.cell? ⟨gb195, 1, none⟩ = some (.slice A1_1 l1_1.length c1_1) ∧ w'.cell? ⟨gb194, 0, none⟩ = some (.slice A0_0 l0_0.length c0_0) ∧ w'.cell? ⟨gb194, 1, none⟩ = some (.slice A0_1 l0_1.length c0_1)) (ds := []) (fl 0 28) (by kernel_rfl) rfl rfl ⟨(blk_cell BK195.out 0).trans rfl, (blk_cell BK195.out 1).trans rfl, (blk_cell BK194.out 0).trans rfl, (blk_cell BK194.out 1).trans rfl⟩ (fun hHeld => ?_); refine with_tabW deaddropref7_Join.tab4 deaddropref7_Join.bits4 (fun HT_ HW_ => ?_)
         generalize wc.drew = w43 at HO_201000 HO_201001 BK194 BK195 BK196 BK200 HB hHeld ⊢
         refine pure_ (i := 0) (N := some 28) (fl 1 28) rfl rfl (any_of HT_.out (by kernel_rfl)) (fun _ _ _ h => h) (Or.inl ⟨by rfl, py⟩) pa ?_
         refine pure_ (i := 1) (N := some 29) (fl 2 28) rfl rfl (any_of HT_.out (by kernel_rfl)) (fun _ _ _ h => h) (Or.inl ⟨by rfl, py⟩) pa ?_
         refine take_ (i := 2) (N := some 30) (fl 3 28) rfl rfl (take_ofW HT_.out HW_.out (by kernel_rfl)) (fun _ _ _ h => h) (Or.inl ⟨by rfl, tk⟩) hHeld pa ?_
         refine pure_ (i := 3) (N := some 31) (fl 4 28) rfl rfl (any_of HT_.out (by kernel_rfl)) (fun _ _ _ h => h) (Or.inl ⟨by rfl, py⟩) pa ?_
         refine pure_ (i := 4) (N := some 32) (fl 5 28) rfl rfl (any_of HT_.out (by kernel_rfl)) (fun _ _ _ h => h) (Or.inl ⟨by rfl, py⟩) pa ?_
         refine pure_ (i := 5) (N := some 33) (fl 6 28) rfl rfl (any_of HT_.out (by kernel_rfl)) (fun _ _ _ h => h) (Or.inl ⟨by rfl, py⟩) pa ?_
         refine pure_ (i := 6) (N := some 34) (fl 7 28) rfl rfl (any_of HT_.out (by kernel_rfl)) (fun _ _ _ h => h) (Or.inl ⟨by rfl, py⟩) pa ?_
         refine pure_ (i := 7) (N := some 35) (fl 8 28) rfl rfl (any_of HT_.out (by kernel_rfl)) (fun _ _ _ h => h) (Or.inl ⟨by rfl, py⟩) pa ?_
         refine take_ (i := 8) (N := some 36) (fl 9 28) rfl rfl (take_ofW HT_.out HW_.out (by kernel_rfl)) (fun _ _ _ h => h) (Or.inl ⟨by rfl, tk⟩) hHeld pa ?_
         refine pure_ (i := 9) (N := some 37) (fl 10 28) rfl rfl (any_of HT_.out (by kernel_rfl)) (fun _ _ _ h => h) (Or.inl ⟨by rfl, py⟩) pa ?_
         refine pure_ (i := 10) (N := some 38) (fl 11 28) rfl rfl (any_of HT_.out (by kernel_rfl)) (fun _ _ _ h => h) (Or.inl ⟨by rfl, py⟩) pa ?_
         refine pure_ (i := 11) (N := some 39) (fl 12 28) rfl rfl (any_of HT_.out (by kernel_rfl)) (fun _ _ _ h => h) (Or.inl ⟨by rfl, py⟩) pa ?_
         refine pure_ (i := 12) (N := some 40) (v := undef) (a' := ?_) (fl 13 28) rfl rfl (any_of HT_.out (by kernel_rfl)) (fun _ _ _ h => h) (Or.inr ⟨by rfl, rfl⟩) ?_ ?_
         rotate_left
         ·
          simp only [Act.put, List.setIfInBounds_toArray, List.set_cons_zero, List.set_cons_succ, i64_w, i32_w]
          rfl
         refine pure_ (i := 13) (N := some 41) (v := undef) (a' := ?_) (fl 14 28) rfl rfl (any_of HT_.out (by kernel_rfl)) (fun _ _ _ h => h) (Or.inr ⟨by rfl, rfl⟩) ?_ ?_
         rotate_left
         ·
          simp only [Act.put, List.setIfInBounds_toArray, List.set_cons_zero, List.set_cons_succ, i64_w, i32_w]
          rfl
         refine pure_ (i := 14) (N := some 42) (v := undef) (a' := ?_) (fl 15 28) rfl rfl (any_of HT_.out (by kernel_rfl)) (fun _ _ _ h => h) (Or.inr ⟨by rfl, rfl⟩) ?_ ?_
         rotate_left
         ·
          simp only [Act.put, List.setIfInBounds_toArray, List.set_cons_zero, List.set_cons_succ, i64_w, i32_w]
          rfl
         refine pure_ (i := 15) (N := some 43) (v := undef) (a' := ?_) (fl 16 28) rfl rfl (any_of HT_.out (by kernel_rfl)) (fun _ _ _ h => h) (Or.inr ⟨by rfl, rfl⟩) ?_ ?_
         rotate_left
         ·
          simp only [Act.put, List.setIfInBounds_toArray, List.set_cons_zero, List.set_cons_succ, i64_w, i32_w]
          rfl
         refine pure_ (i := 16) (N := some 44) (v := undef) (a' := ?_) (fl 17 28) rfl rfl (any_of HT_.out (by kernel_rfl)) (fun _ _ _ h => h) (Or.inr ⟨by rfl, rfl⟩) ?_ ?_
         rotate_left
         ·
          simp only [Act.put, List.setIfInBounds_toArray, List.set_cons_zero, List.set_cons_succ, i64_w, i32_w]
          rfl
         refine pure_ (i := 17) (N := some 45) (v := undef) (a' := ?_) (fl 18 28) rfl rfl (any_of HT_.out (by kernel_rfl)) (fun _ _ _ h => h) (Or.inr ⟨by rfl, rfl⟩) ?_ ?_
         rotate_left
         ·
          simp only [Act.put, List.setIfInBounds_toArray, List.set_cons_zero, List.set_cons_succ, i64_w, i32_w]
          rfl
         refine pure_ (i := 18) (N := some 46) (v := undef) (a' := ?_) (fl 19 28) rfl rfl (any_of HT_.out (by kernel_rfl)) (fun _ _ _ h => h) (Or.inr ⟨by rfl, rfl⟩) ?_ ?_
         rotate_left
         ·
          simp only [Act.put, List.setIfInBounds_toArray, List.set_cons_zero, List.set_cons_succ, i64_w, i32_w]
          rfl
         refine pure_ (i := 19) (N := some 47) (v := undef) (a' := ?_) (fl 20 28) rfl rfl (any_of HT_.out (by kernel_rfl)) (fun _ _ _ h => h) (Or.inr ⟨by rfl, rfl⟩) ?_ ?_
         rotate_left
         ·
          simp only [Act.put, List.setIfInBounds_toArray, List.set_cons_zero, List.set_cons_succ, i64_w, i32_w]
          rfl
         refine pure_ (i := 20) (N := some 48) (v := undef) (a' := ?_) (fl 21 28) rfl rfl (any_of HT_.out (by kernel_rfl)) (fun _ _ _ h => h) (Or.inr ⟨by rfl, rfl⟩) ?_ ?_
         rotate_left
         ·
          simp only [Act.put, List.setIfInBounds_toArray, List.set_cons_zero, List.set_cons_succ, i64_w, i32_w]
          rfl
         refine pure_ (i := 21) (N := some 49) (v := undef) (a' := ?_) (fl 22 28) rfl rfl (any_of HT_.out (by kernel_rfl)) (fun _ _ _ h => h) (Or.inr ⟨by rfl, rfl⟩) ?_ ?_
         rotate_left
         ·
          simp only [Act.put, List.setIfInBounds_toArray, List.set_cons_zero, List.set_cons_succ, i64_w, i32_w]
          rfl
         refine pure_ (i := 22) (N := some 50) (v := undef) (a' := ?_) (fl 23 28) rfl rfl (any_of HT_.out (by kernel_rfl)) (fun _ _ _ h => h) (Or.inr ⟨by rfl, rfl⟩) ?_ ?_
         rotate_left
         ·
          simp only [Act.put, List.setIfInBounds_toArray, List.set_cons_zero, List.set_cons_succ, i64_w, i32_w]
          rfl
         refine pure_ (i := 23) (N := some 51) (v := undef) (a' := ?_) (fl 24 28) rfl rfl (any_of HT_.out (by kernel_rfl)) (fun _ _ _ h => h) (Or.inr ⟨by rfl, rfl⟩) ?_ ?_
         rotate_left
         ·
          simp only [Act.put, List.setIfInBounds_toArray, List.set_cons_zero, List.set_cons_succ, i64_w, i32_w]
          rfl
         refine pure_ (i := 24) (N := some 52) (v := undef) (a' := ?_) (fl 25 28) rfl rfl (any_of HT_.out (by kernel_rfl)) (fun _ _ _ h => h) (Or.inr ⟨by rfl, rfl⟩) ?_ ?_
         rotate_left
         ·
          simp only [Act.put, List.setIfInBounds_toArray, List.set_cons_zero, List.set_cons_succ, i64_w, i32_w]
          rfl
         refine pure_ (i := 25) (N := some 53) (v := undef) (a' := ?_) (fl 26 28) rfl rfl (any_of HT_.out (by kernel_rfl)) (fun _ _ _ h => h) (Or.inr ⟨by rfl, rfl⟩) ?_ ?_
         rotate_left
         ·
          simp only [Act.put, List.setIfInBounds_toArray, List.set_cons_zero, List.set_cons_succ, i64_w, i32_w]
          rfl
         refine pure_ (i := 26) (N := some 54) (fl 27 28) rfl rfl (any_of HT_.out (by kernel_rfl)) (fun _ _ _ h => h) (Or.inl ⟨by rfl, py⟩) pa ?_
         refine pure_ (i := 27) (N := some 55) (fl 28 28) rfl rfl (any_of HT_.out (by kernel_rfl)) (fun _ _ _ h => h) (Or.inl ⟨by rfl, py⟩) pa ?_
         refine done_ (done_of HT_.out (by kernel_rfl)) ?_
         try go_wp2
         go_meet
         case rel => exact ⟨_, (false), ok_, H', ⟨by have := HK1.out; have := HJ18.out; first | omega | exact Nat.le_refl _⟩, ⟨rk HO_201000.out⟩, ⟨rk HO_201001.out⟩, ⟨bk BK194.out⟩, ⟨bk BK195.out⟩, ⟨bk BK196.out⟩, ⟨bk BK200.out⟩, ⟨bw4 HB.out GE194.out GE195.out GE196.out GE200.out⟩⟩
      case rest =>
       clear HC33
       obtain ⟨kq, x55_32, rfl, HA, HJ32, HO_201000, HO_201001, BK194, BK195, BK196, BK200, HB⟩ := hcut
       cases kq with
       | zero => exact absurd HA.out (by simp [deaddropref7_Join.j2])
       | succ kj32 =>
        have H := HA.out
        clear HA
        simp only [deaddropref7_Join.j2] at H
        by_cases c44 : x55_32 = true
        ·
         subst c44
         have H1 : (if 0 ≤ x6_1 then (if x6_1 < (l0_1.length : Int) then ((deaddropref7_Has.f kj32 l1_0 ((rd_T34 l0_1 x6_1).f0.f0) ((rd_T34 l0_1 x6_1).f0.f1)).bind fun t206 => (if t206 = true then ((deaddropref7_at.f kj32 l1_0 l1_1 ((rd_T34 l0_1 x6_1).f0.f0) ((rd_T34 l0_1 x6_1).f0.f1)).bind fun t207 => (if t207 = true then (if x201001_1.length < 2199023255552 then (deaddropref7_Join.l0 kj32 (wrap64 (x6_1 + 1)) x7_1 l0_0 l0_1 l1_0 l1_1 t197 (x201001_1 ++ [(⟨(⟨(rd_T34 l0_1 x6_1).f0.f0, (rd_T34 l0_1 x6_1).f0.f1⟩ : S32), (rd_T34 l0_1 x6_1).f1, (rd_T34 l0_1 x6_1).f2, (rd_T34 l0_1 x6_1).f3, (rd_T34 l0_1 x6_1).f4⟩ : S34)])) else (none)) else (deaddropref7_Join.l0 kj32 (wrap64 (x6_1 + 1)) x7_1 l0_0 l0_1 l1_0 l1_1 t197 x201001_1))) else (if x201001_1.length < 2199023255552 then (deaddropref7_Join.l0 kj32 (wrap64 (x6_1 + 1)) x7_1 l0_0 l0_1 l1_0 l1_1 t197 (x201001_1 ++ [(⟨(⟨(rd_T34 l0_1 x6_1).f0.f0, (rd_T34 l0_1 x6_1).f0.f1⟩ : S32), (rd_T34 l0_1 x6_1).f1, (rd_T34 l0_1 x6_1).f2, (rd_T34 l0_1 x6_1).f3, (rd_T34 l0_1 x6_1).f4⟩ : S34)])) else (none)))) else (none)) else (none)) = some (r1, r2) := by rw [if_pos rfl] at H; exact H
         clear H
         have H := H1
         clear H1
         by_cases c45 : 0 ≤ x6_1
         rotate_left
         ·
          rw [if_neg c45] at H
          exact absurd H (by simp)
         rw [if_pos c45] at H
         have c45b0 : decide (0 ≤ x6_1) = true := decide_eq_true c45
         clear c45
         by_cases c46 : x6_1 < (l0_1.length : Int)
         rotate_left
         ·
          rw [if_neg c46] at H
          exact absurd H (by simp)
         rw [if_pos c46] at H
         have c46b0 : decide (x6_1 < (l0_1.length : Int)) = true := decide_eq_true c46
         clear c46
         replace H := Option.bind_eq_some_iff.mp H
         obtain ⟨t206, A470, H⟩ := H
         replace H : (if t206 = true then ((deaddropref7_at.f kj32 l1_0 l1_1 ((rd_T34 l0_1 x6_1).f0.f0) ((rd_T34 l0_1 x6_1).f0.f1)).bind fun t207 => (if t207 = true then (if x201001_1.length < 2199023255552 then (deaddropref7_Join.l0 kj32 (wrap64 (x6_1 + 1)) x7_1 l0_0 l0_1 l1_0 l1_1 t197 (x201001_1 ++ [(⟨(⟨(rd_T34 l0_1 x6_1).f0.f0, (rd_T34 l0_1 x6_1).f0.f1⟩ : S32), (rd_T34 l0_1 x6_1).f1, (rd_T34 l0_1 x6_1).f2, (rd_T34 l0_1 x6_1).f3, (rd_T34 l0_1 x6_1).f4⟩ : S34)])) else (none)) else (deaddropref7_Join.l0 kj32 (wrap64 (x6_1 + 1)) x7_1 l0_0 l0_1 l1_0 l1_1 t197 x201001_1))) else (if x201001_1.length < 2199023255552 then (deaddropref7_Join.l0 kj32 (wrap64 (x6_1 + 1)) x7_1 l0_0 l0_1 l1_0 l1_1 t197 (x201001_1 ++ [(⟨(⟨(rd_T34 l0_1 x6_1).f0.f0, (rd_T34 l0_1 x6_1).f0.f1⟩ : S32), (rd_T34 l0_1 x6_1).f1, (rd_T34 l0_1 x6_1).f2, (rd_T34 l0_1 x6_1).f3, (rd_T34 l0_1 x6_1).f4⟩ : S34)])) else (none))) = some (r1, r2) := H
         have A47 := Aside0.mk A470
         clear A470
         by_cases c48 : t206 = true
         ·
          subst c48
          have H1 : ((deaddropref7_at.f kj32 l1_0 l1_1 ((rd_T34 l0_1 x6_1).f0.f0) ((rd_T34 l0_1 x6_1).f0.f1)).bind fun t207 => (if t207 = true then (if x201001_1.length < 2199023255552 then (deaddropref7_Join.l0 kj32 (wrap64 (x6_1 + 1)) x7_1 l0_0 l0_1 l1_0 l1_1 t197 (x201001_1 ++ [(⟨(⟨(rd_T34 l0_1 x6_1).f0.f0, (rd_T34 l0_1 x6_1).f0.f1⟩ : S32), (rd_T34 l0_1 x6_1).f1, (rd_T34 l0_1 x6_1).f2, (rd_T34 l0_1 x6_1).f3, (rd_T34 l0_1 x6_1).f4⟩ : S34)])) else (none)) else (deaddropref7_Join.l0 kj32 (wrap64 (x6_1 + 1)) x7_1 l0_0 l0_1 l1_0 l1_1 t197 x201001_1))) = some (r1, r2) := by rw [if_pos rfl] at H; exact H
          clear H
          have H := H1
          clear H1
          replace H := Option.bind_eq_some_iff.mp H
          obtain ⟨t207, A490, H⟩ := H
          replace H : (if t207 = true then (if x201001_1.length < 2199023255552 then (deaddropref7_Join.l0 kj32 (wrap64 (x6_1 + 1)) x7_1 l0_0 l0_1 l1_0 l1_1 t197 (x201001_1 ++ [(⟨(⟨(rd_T34 l0_1 x6_1).f0.f0, (rd_T34 l0_1 x6_1).f0.f1⟩ : S32), (rd_T34 l0_1 x6_1).f1, (rd_T34 l0_1 x6_1).f2, (rd_T34 l0_1 x6_1).f3, (rd_T34 l0_1 x6_1).f4⟩ : S34)])) else (none)) else (deaddropref7_Join.l0 kj32 (wrap64 (x6_1 + 1)) x7_1 l0_0 l0_1 l1_0 l1_1 t197 x201001_1)) = some (r1, r2) := H
          have A49 := Aside0.mk A490
          clear A490
          by_cases c50 : t207 = true
          ·
           subst c50
           have H1 : (if x201001_1.length < 2199023255552 then (deaddropref7_Join.l0 kj32 (wrap64 (x6_1 + 1)) x7_1 l0_0 l0_1 l1_0 l1_1 t197 (x201001_1 ++ [(⟨(⟨(rd_T34 l0_1 x6_1).f0.f0, (rd_T34 l0_1 x6_1).f0.f1⟩ : S32), (rd_T34 l0_1 x6_1).f1, (rd_T34 l0_1 x6_1).f2, (rd_T34 l0_1 x6_1).f3, (rd_T34 l0_1 x6_1).f4⟩ : S34)])) else (none)) = some (r1, r2) := by rw [if_pos rfl] at H; exact H
           clear H
           have H := H1
           clear H1
           by_cases c51 : x201001_1.length < 2199023255552
           rotate_left
           ·
            rw [if_neg c51] at H
            exact absurd H (by simp)
           rw [if_pos c51] at H
           have LMc51 := Aside0.mk c51
           clear c51
           obtain ⟨y209, hy209⟩ : ∃ y_ : List (S34), y_ = (x201001_1 ++ [(⟨(⟨(rd_T34 l0_1 x6_1).f0.f0, (rd_T34 l0_1 x6_1).f0.f1⟩ : S32), (rd_T34 l0_1 x6_1).f1, (rd_T34 l0_1 x6_1).f2, (rd_T34 l0_1 x6_1).f3, (rd_T34 l0_1 x6_1).f4⟩ : S34)]) := ⟨_, rfl⟩
           replace H : (deaddropref7_Join.l0 kj32 (wrap64 (x6_1 + 1)) x7_1 l0_0 l0_1 l1_0 l1_1 t197 y209) = some (r1, r2) := by first | (rw [hy209]; with_reducible exact H) | (have H2_ := (Option.bind_some _ _).symm.trans H; rw [hy209]; with_reducible exact H2_) | (have H2_ := (Option.bind_some _ _).symm.trans H; with_reducible exact H2_) | with_reducible exact H | (rw [hy209]; exact H) | exact H
           have Ny209 := Aside0.mk hy209
           clear hy209
           have H' := Aside0.mk H
           clear H
           have hnb52 := NB194_195.out
           have hnc52 := NB195_194.out
           have hnb53 := NB194_196.out
           have hnc53 := NB196_194.out
           have hnb54 := NB194_200.out
           have hnc54 := NB200_194.out
           obtain ⟨hcz55_0, hcz55_1⟩ := bx2 BK194.out
           obtain ⟨hfz55_0, hfz55_1⟩ := bf2 BK194.out
           have p204 : 0 ≤ (x6_1 : Int) := of_decide_eq_true as_
           have q204 : x6_1 < (l0_1.length : Int) := of_decide_eq_true as_
           obtain ⟨ad204, e204, hx204_0, hx204_1, hx204_2, hx204_3, hx204_4, hx204_5⟩ := at_T34 HR0_1.out x6_1 p204 q204
           cases e204
           replace hx204_0 := (HB.out.cell (World.block_lt_of_cell? w _ hx204_0)).trans hx204_0
           replace hx204_1 := (HB.out.cell (World.block_lt_of_cell? w _ hx204_1)).trans hx204_1
           replace hx204_2 := (HB.out.cell (World.block_lt_of_cell? w _ hx204_2)).trans hx204_2
           replace hx204_3 := (HB.out.cell (World.block_lt_of_cell? w _ hx204_3)).trans hx204_3
           replace hx204_4 := (HB.out.cell (World.block_lt_of_cell? w _ hx204_4)).trans hx204_4
           replace hx204_5 := (HB.out.cell (World.block_lt_of_cell? w _ hx204_5)).trans hx204_5
           replace p204 := eq_true p204
           replace q204 := eq_true q204
           try go_wp2_with (first | ((with_reducible refine gate_dst (N := 8) rfl ?_); (try (refine gate_guard (by rfl) ?_; dsimp only)); refine box_event ?hg (N := 8) ?hd (cs := #[.int .i64 0, .int .i64 0]) (t := 32) ?hr ?_; (case hd => rfl); (case hg => rfl); (case hr => first | (go_simp; done) | (go_simp; rfl)); intro gb205 hg w56 hbox hb; replace HO_201000 := Aside0.mk (Kd.R_below (rk HO_201000.out) hb); replace HO_201001 := Aside0.mk (Kd.R_below (rk HO_201001.out) hb); have BK205 := Aside0.mk (hbox); have GW205 := Aside0.mk ((by rw [hg]; exact (below_size (bw4 HB.out GE194.out GE195.out GE196.out GE200.out)) : w.heap.size ≤ gb205)); have GE205 := GW205; replace HB := Aside0.mk (below_step (bw4 HB.out GE194.out GE195.out GE196.out GE200.out) hb); have NB194_205 := Aside0.mk (nbl BK194.out hg); have NB205_194 := Aside0.mk (nbg BK194.out hg); replace BK194 := Aside0.mk (bkb BK194.out hb); have NB195_205 := Aside0.mk (nbl BK195.out hg); have NB205_195 := Aside0.mk (nbg BK195.out hg); replace BK195 := Aside0.mk (bkb BK195.out hb); have NB196_205 := Aside0.mk (nbl BK196.out hg); have NB205_196 := Aside0.mk (nbg BK196.out hg); replace BK196 := Aside0.mk (bkb BK196.out hb); have NB200_205 := Aside0.mk (nbl BK200.out hg); have NB205_200 := Aside0.mk (nbg BK200.out hg); replace BK200 := Aside0.mk (bkb BK200.out hb); clear hb hbox hg; have hnb57 := NB205_194.out; have hnc57 := NB194_205.out; have hnb58 := NB205_195.out; have hnc58 := NB195_205.out; have hnb59 := NB205_196.out; have hnc59 := NB196_205.out; have hnb60 := NB205_200.out; have hnc60 := NB200_205.out; obtain ⟨hcz61_0, hcz61_1⟩ := bx2 BK205.out; obtain ⟨hfz61_0, hfz61_1⟩ := bf2 BK205.out; have hnb62 := NB195_196.out; have hnc62 := NB196_195.out; have hnb63 := NB195_200.out; have hnc63 := NB200_195.out; obtain ⟨hcz64_0, hcz64_1⟩ := bx2 BK195.out; obtain ⟨hfz64_0, hfz64_1⟩ := bf2 BK195.out) | ((with_reducible refine gate_callee (f := 25) rfl ?_); refine goesL_ (some 65) rfl rfl Try.func25 (by kernel_rfl) rfl #[.slice A1_0 l1_0.length c1_0, .agg #[.int .i64 ((rd_T34 l0_1 x6_1).f0.f0), .int .i64 ((rd_T34 l0_1 x6_1).f0.f1)]] rfl ar_ ?_; (with_reducible refine (deaddropref7_Has.calls kj32 _ _ l1_0 ((rd_T34 l0_1 x6_1).f0.f0) ((rd_T34 l0_1 x6_1).f0.f1) true _ ?side1 ?side2 A47.out).mono ?_); (case side1 => exact Kd.C_below HR1_0.out (bw5 HB.out GE194.out GE195.out GE196.out GE200.out GE205.out)); (case side2 => exact HC1_0.out); rintro e w65 ⟨rfl, hb⟩; refine ⟨_, rfl, ?_⟩; replace HO_201000 := Aside0.mk (Kd.R_below (by (with_reducible repeat (first | apply Kd.R_alloc | apply Kd.R_drewN | apply Kd.R_drew)); exact (Kd.R_mono (Kd.R_far (p := ⟨gb205, 1, none⟩) (Kd.R_far (p := ⟨gb205, 0, none⟩) (Kd.R_types HO_201000.out BK205.out (by decide)) (fun _ hk => hk.2) (.int .i64 ((rd_T34 l0_1 x6_1).f0.f0))) (fun _ hk => hk.2) (.int .i64 ((rd_T34 l0_1 x6_1).f0.f1))) (fun _ h_ => h_.1))) hb); replace HO_201001 := Aside0.mk (Kd.R_below (by (with_reducible repeat (first | apply Kd.R_alloc | apply Kd.R_drewN | apply Kd.R_drew)); exact (Kd.R_mono (Kd.R_far (p := ⟨gb205, 1, none⟩) (Kd.R_far (p := ⟨gb205, 0, none⟩) (Kd.R_types HO_201001.out BK205.out (by decide)) (fun _ hk => hk.2) (.int .i64 ((rd_T34 l0_1 x6_1).f0.f0))) (fun _ hk => hk.2) (.int .i64 ((rd_T34 l0_1 x6_1).f0.f1))) (fun _ h_ => h_.1))) hb); replace BK194 := Aside0.mk (blk_below (g := gb194) (o := .cells #[.slice A0_0 l0_0.length c0_0, .slice (some ad204) l0_1.length c0_1] 28 (0, 0)) (by (with_reducible repeat (first | refine blk_drewN ?_ _ | refine blk_drew ?_ | refine blk_alloc ?_ _)); refine blk_far ?_ NB194_205.out _; (with_reducible repeat (first | refine blk_drewN ?_ _ | refine blk_drew ?_ | refine blk_alloc ?_ _)); refine blk_far ?_ NB194_205.out _; (with_reducible repeat (first | refine blk_drewN ?_ _ | refine blk_drew ?_ | refine blk_alloc ?_ _)); exact BK194.out) hb); replace BK195 := Aside0.mk (blk_below (g := gb195) (o := .cells #[.slice A1_0 l1_0.length c1_0, .slice A1_1 l1_1.length c1_1] 28 (0, 0)) (by (with_reducible repeat (first | refine blk_drewN ?_ _ | refine blk_drew ?_ | refine blk_alloc ?_ _)); refine blk_far ?_ NB195_205.out _; (with_reducible repeat (first | refine blk_drewN ?_ _ | refine blk_drew ?_ | refine blk_alloc ?_ _)); refine blk_far ?_ NB195_205.out _; (with_reducible repeat (first | refine blk_drewN ?_ _ | refine blk_drew ?_ | refine blk_alloc ?_ _)); exact BK195.out) hb); replace BK196 := Aside0.mk (blk_below (g := gb196) (o := .cells #[.slice none 0 0, .slice none 0 0] 28 (0, 0)) (by (with_reducible repeat (first | refine blk_drewN ?_ _ | refine blk_drew ?_ | refine blk_alloc ?_ _)); refine blk_far ?_ NB196_205.out _; (with_reducible repeat (first | refine blk_drewN ?_ _ | refine blk_drew ?_ | refine blk_alloc ?_ _)); refine blk_far ?_ NB196_205.out _; (with_reducible repeat (first | refine blk_drewN ?_ _ | refine blk_drew ?_ | refine blk_alloc ?_ _)); exact BK196.out) hb); replace BK200 := Aside0.mk (blk_below (g := gb200) (o := .cells #[.slice Ao13 t197.length co13, u201001] 28 (0, 0)) (by (with_reducible repeat (first | refine blk_drewN ?_ _ | refine blk_drew ?_ | refine blk_alloc ?_ _)); refine blk_far ?_ NB200_205.out _; (with_reducible repeat (first | refine blk_drewN ?_ _ | refine blk_drew ?_ | refine blk_alloc ?_ _)); refine blk_far ?_ NB200_205.out _; (with_reducible repeat (first | refine blk_drewN ?_ _ | refine blk_drew ?_ | refine blk_alloc ?_ _)); exact BK200.out) hb); replace BK205 := Aside0.mk (blk_below (g := gb205) (o := .cells #[.int .i64 ((rd_T34 l0_1 x6_1).f0.f0), .int .i64 ((rd_T34 l0_1 x6_1).f0.f1)] 32 (0, 0)) (by (with_reducible repeat (first | refine blk_drewN ?_ _ | refine blk_drew ?_ | refine blk_alloc ?_ _)); refine blk_put (cs := #[.int .i64 ((rd_T34 l0_1 x6_1).f0.f0), .int .i64 0]) ?_ 1 _ rfl; (with_reducible repeat (first | refine blk_drewN ?_ _ | refine blk_drew ?_ | refine blk_alloc ?_ _)); refine blk_put (cs := #[.int .i64 0, .int .i64 0]) ?_ 0 _ rfl; (with_reducible repeat (first | refine blk_drewN ?_ _ | refine blk_drew ?_ | refine blk_alloc ?_ _)); exact BK205.out) hb); replace HB := Aside0.mk (below_step (bw5 HB.out GE194.out GE195.out GE196.out GE200.out GE205.out) hb); (try clear hb); (try clear hb2); (try clear hk); (try clear hi); obtain ⟨hcz66_0, hcz66_1⟩ := bx2 BK195.out; obtain ⟨hfz66_0, hfz66_1⟩ := bf2 BK195.out; obtain ⟨hcz67_0, hcz67_1⟩ := bx2 BK205.out; obtain ⟨hfz67_0, hfz67_1⟩ := bf2 BK205.out) | (go_at_call 26; (with_reducible refine (deaddropref7_at.calls kj32 _ _ l1_0 _ _ l1_1 ((rd_T34 l0_1 x6_1).f0.f0) ((rd_T34 l0_1 x6_1).f0.f1) true _ ?side1 ?side2 ?side3 ?side4 A49.out).mono ?_); (case side1 => exact cr (Kd.C_below HR1_0.out HB.out)); (case side2 => exact HC1_0.out); (case side3 => exact cr (Kd.C_below HR1_1.out HB.out)); (case side4 => exact HC1_1.out); rintro e w68 ⟨rfl, hb⟩; replace HO_201000 := Aside0.mk (Kd.R_below (rk HO_201000.out) hb); replace HO_201001 := Aside0.mk (Kd.R_below (rk HO_201001.out) hb); replace BK194 := Aside0.mk (bkb BK194.out hb); replace BK195 := Aside0.mk (bkb BK195.out hb); replace BK196 := Aside0.mk (bkb BK196.out hb); replace BK200 := Aside0.mk (bkb BK200.out hb); replace BK205 := Aside0.mk (bkb BK205.out hb); replace HB := Aside0.mk (below_step (bw5 HB.out GE194.out GE195.out GE196.out GE200.out GE205.out) hb); (try clear hb); (try clear hb2); (try clear hk); (try clear hi)))
           replace HO_201000 := Aside0.mk (Kd.R_drew HO_201000.out)
           replace HO_201001 := Aside0.mk (Kd.R_drew HO_201001.out)
           replace BK194 := Aside0.mk (blk_drew BK194.out)
           replace BK195 := Aside0.mk (blk_drew BK195.out)
           replace BK196 := Aside0.mk (blk_drew BK196.out)
           replace BK200 := Aside0.mk (blk_drew BK200.out)
           replace BK205 := Aside0.mk (blk_drew BK205.out)
           replace HB := Aside0.mk (below_drew1 HB.out)
           have p208 : 0 ≤ (x6_1 : Int) := of_decide_eq_true as_
           have q208 : x6_1 < (l0_1.length : Int) := of_decide_eq_true as_
           obtain ⟨ad208, e208, hx208_0, hx208_1, hx208_2, hx208_3, hx208_4, hx208_5⟩ := at_T34 HR0_1.out x6_1 p208 q208
           have hw208_5 := hx208_5
           have hw208_4 := hx208_4
           have hw208_3 := hx208_3
           have hw208_2 := hx208_2
           have hw208_1 := hx208_1
           have hw208_0 := hx208_0
           obtain rfl : ad204 = ad208 := (by injection e208)
           replace hx208_0 := (HB.out.cell (World.block_lt_of_cell? w _ hx208_0)).trans hx208_0
           replace hx208_1 := (HB.out.cell (World.block_lt_of_cell? w _ hx208_1)).trans hx208_1
           replace hx208_2 := (HB.out.cell (World.block_lt_of_cell? w _ hx208_2)).trans hx208_2
           replace hx208_3 := (HB.out.cell (World.block_lt_of_cell? w _ hx208_3)).trans hx208_3
           replace hx208_4 := (HB.out.cell (World.block_lt_of_cell? w _ hx208_4)).trans hx208_4
           replace hx208_5 := (HB.out.cell (World.block_lt_of_cell? w _ hx208_5)).trans hx208_5
           replace p208 := eq_true p208
           replace q208 := eq_true q208
           refine start_ (n := 11) (S := fun w' => w'.cell? ⟨gb200, 0, none⟩ = some (.slice Ao13 t197.length co13) ∧ w'.cell? ⟨gb200, 1, none⟩ = some (u201001) ∧ w'.cell? ⟨gb194, 0, none⟩ = some (.slice A0_0 l0_0.length c0_0) ∧ w'.cell? ⟨gb194, 1, none⟩ = some (.slice (some ad204) l0_1.length c0_1) ∧ w'.cell? (ad204.add ((x6_1).toNat * 6)) = some (.int .i64 ((rd_T34 l0_1 x6_1).f0.f0)) ∧ w'.cell? ⟨(ad204.add ((x6_1).toNat * 6)).block, (ad204.add ((x6_1).toNat * 6)).off + 1, none⟩ = some (.int .i64 ((rd_T34 l0_1 x6_1).f0.f1)) ∧ w'.cell? ⟨(ad204.add ((x6_1).toNat * 6)).block, (ad204.add ((x6_1).toNat * 6)).off + 2, none⟩ = some (.string ((rd_T34 l0_1 x6_1).f1)) ∧ w'.cell? ⟨(ad204.add ((x6_1).toNat * 6)).block, (ad204.add ((x6_1).toNat * 6)).off + 3, none⟩ = some (.int .i64 ((rd_T34 l0_1 x6_1).f2)) ∧ w'.cell? ⟨(ad204.add ((x6_1).toNat * 6)).block, (ad204.add ((x6_1).toNat * 6)).off + 4, none⟩ = some (.string ((rd_T34 l0_1 x6_1).f3)) ∧ w'.cell? ⟨(ad204.add ((x6_1).toNat * 6)).block, (ad204.add ((x6_1).toNat * 6)).off + 5, none⟩ = some (.int .i64 ((rd_T34 l0_1 x6_1).f4))) (ds := [10]) (fl 0 11) (by kernel_rfl) rfl rfl ⟨(blk_cell BK200.out 0).trans rfl, (blk_cell BK200.out 1).trans rfl, (blk_cell BK194.out 0).trans rfl, (blk_cell BK194.out 1).trans rfl, (bc HB.out hw208_0), (bc HB.out hw208_1), (bc HB.out hw208_2), (bc HB.out hw208_3), (bc HB.out hw208_4), (bc HB.out hw208_5)⟩ (fun hHeld => ?_); refine with_tabW deaddropref7_Join.tab7 deaddropref7_Join.bits7 (fun HT_ HW_ => ?_)
           generalize w68.drew = w69 at HO_201000 HO_201001 BK194 BK195 BK196 BK200 BK205 HB hx208_0 hx208_1 hx208_2 hx208_3 hx208_4 hx208_5 hHeld ⊢
           refine pure_ (i := 0) (N := some 72) (fl 1 11) rfl rfl (any_of HT_.out (by kernel_rfl)) (fun _ _ _ h => h) (Or.inl ⟨by rfl, py⟩) pa ?_
           refine pure_ (i := 2) (N := some 74) #[true, false, true, false, false, false, false, false, false, false, false] rfl rfl (any_of HT_.out (by kernel_rfl)) (fun _ _ _ h => h) (Or.inl ⟨by rfl, py⟩) pa ?_
           refine pure_ (i := 4) (N := some 76) #[true, false, true, false, true, false, false, false, false, false, false] rfl rfl (any_of HT_.out (by kernel_rfl)) (fun _ _ _ h => h) (Or.inl ⟨by rfl, py⟩) pa ?_
           refine take_ (i := 1) (N := some 73) #[true, true, true, false, true, false, false, false, false, false, false] rfl rfl (take_ofW HT_.out HW_.out (by kernel_rfl)) (fun _ _ _ h => h) (Or.inl ⟨by rfl, tk⟩) hHeld pa ?_
           refine take_ (i := 3) (N := some 75) (fl 5 11) rfl rfl (take_ofW HT_.out HW_.out (by kernel_rfl)) (fun _ _ _ h => h) (Or.inl ⟨by rfl, tk⟩) hHeld pa ?_
           refine pure_ (i := 5) (N := some 77) (fl 6 11) rfl rfl (any_of HT_.out (by kernel_rfl)) (fun _ _ _ h => h) (Or.inl ⟨by rfl, py⟩) pa ?_
           refine take_ (i := 6) (N := some 78) (fl 7 11) rfl rfl (take_ofW HT_.out HW_.out (by kernel_rfl)) (fun _ _ _ h => h) (Or.inl ⟨by rfl, tk⟩) hHeld pa ?_
           refine one_ (i := 7) (N := some 79) (fl 8 11) rfl rfl (one_of HT_.out (by kernel_rfl)) (by decide) (fun K hK => ?_)
           refine value_ (w1 := ?_) (v := ?_) (by rfl) rfl ?_ ?_
           rotate_left 2
           ·
            go_simp
            constructor
            ·
             rfl
            ·
             rfl
           refine hK.out _ _ ⟨(blk_cell (blk_alloc BK200.out _) 0).trans rfl, (blk_cell (blk_alloc BK200.out _) 1).trans rfl, (blk_cell (blk_alloc BK194.out _) 0).trans rfl, (blk_cell (blk_alloc BK194.out _) 1).trans rfl, (World.cell?_alloc_lt _ _ _ (World.block_lt_of_cell? _ _ ((bc HB.out hw208_0)))).trans ((bc HB.out hw208_0)), (World.cell?_alloc_lt _ _ _ (World.block_lt_of_cell? _ _ ((bc HB.out hw208_1)))).trans ((bc HB.out hw208_1)), (World.cell?_alloc_lt _ _ _ (World.block_lt_of_cell? _ _ ((bc HB.out hw208_2)))).trans ((bc HB.out hw208_2)), (World.cell?_alloc_lt _ _ _ (World.block_lt_of_cell? _ _ ((bc HB.out hw208_3)))).trans ((bc HB.out hw208_3)), (World.cell?_alloc_lt _ _ _ (World.block_lt_of_cell? _ _ ((bc HB.out hw208_4)))).trans ((bc HB.out hw208_4)), (World.cell?_alloc_lt _ _ _ (World.block_lt_of_cell? _ _ ((bc HB.out hw208_5)))).trans ((bc HB.out hw208_5))⟩ (fun hHeld => ?_)
           clear hK K
           refine norm_ (a' := ?_) ?_ ?_
           rotate_left
           ·
            show Act.put _ (some 79) _ = _
            simp only [Act.put, List.setIfInBounds_toArray, List.set_cons_zero, List.set_cons_succ, i64_w, i32_w]
            rfl
           refine one_ (i := 8) (N := some 80) (fl 9 11) rfl rfl (one_of HT_.out (by kernel_rfl)) (by decide) (fun K hK => ?_)
           refine Kd.R_append_step k34 (w0 := w) w.heap.size (by rfl) (.tmp 73) (.tmp 79) 26 34 (.agg #[(.int .i64 0), (.int .i64 0), (.string ⟨#[]⟩), (.int .i64 0), (.string ⟨#[]⟩), (.int .i64 0)]) 64 rfl Try.underlying26 info34 rfl (by decide) (by omega) u201001 x201001_1 (⟨(⟨(rd_T34 l0_1 x6_1).f0.f0, (rd_T34 l0_1 x6_1).f0.f1⟩ : S32), (rd_T34 l0_1 x6_1).f1, (rd_T34 l0_1 x6_1).f2, (rd_T34 l0_1 x6_1).f3, (rd_T34 l0_1 x6_1).f4⟩ : S34) [.int .i64 ((rd_T34 l0_1 x6_1).f0.f0), .int .i64 ((rd_T34 l0_1 x6_1).f0.f1), .string ((rd_T34 l0_1 x6_1).f1), .int .i64 ((rd_T34 l0_1 x6_1).f2), .string ((rd_T34 l0_1 x6_1).f3), .int .i64 ((rd_T34 l0_1 x6_1).f4)] (fun _ => True) (fun _ => False) rfl rfl ?aP (fun _ hk => hk.elim) ?aF ?aO ?aB ?aS ?aL ?_
           (case aP => exact k34_mkM _ _ _ (⟨(⟨(rd_T34 l0_1 x6_1).f0.f0, (rd_T34 l0_1 x6_1).f0.f1⟩ : S32), (rd_T34 l0_1 x6_1).f1, (rd_T34 l0_1 x6_1).f2, (rd_T34 l0_1 x6_1).f3, (rd_T34 l0_1 x6_1).f4⟩ : S34))
           (case aB => exact (bw5 HB.out GE194.out GE195.out GE196.out GE200.out GE205.out))
           (case aF => exact (fun _ _ => trivial))
           (case aO => exact (rk HO_201001.out))
           (case aS => exact (below_size (bw5 HB.out GE194.out GE195.out GE196.out GE200.out GE205.out)))
           (case aL => have := LMc51.out; omega)
           intro v210 w70 ho hb hg hat
           rw [← Ny209.out] at ho
           replace HO_201000 := Aside0.mk (Kd.R_over' (rk HO_201000.out) (Kd.R_typed (rk HO_201001.out)) (by decide) hg)
           replace BK194 := Aside0.mk (bkg BK194.out hg (Kd.R_ne HO_201001.out BK194.out (by decide)))
           replace BK195 := Aside0.mk (bkg BK195.out hg (Kd.R_ne HO_201001.out BK195.out (by decide)))
           replace BK196 := Aside0.mk (bkg BK196.out hg (Kd.R_ne HO_201001.out BK196.out (by decide)))
           replace BK200 := Aside0.mk (bkg BK200.out hg (Kd.R_ne HO_201001.out BK200.out (by decide)))
           replace BK205 := Aside0.mk (bkg BK205.out hg (Kd.R_ne HO_201001.out BK205.out (by decide)))
           replace HB := Aside0.mk (hb)
           have HO211 := Aside0.mk (ho)
           clear HO_201001
           clear ho hb hg hat
           obtain ⟨Ao71, co71, eo71⟩ := Kd.R_slice HO211.out
           (first | subst eo71 | (injection eo71 with f1_ f2_ f3_; have f4_ := f1_.symm; have f5_ := f3_.symm; clear f1_ f2_ f3_; subst f4_; subst f5_))
           refine hK.out _ _ ⟨(blk_cell BK200.out 0).trans rfl, (blk_cell BK200.out 1).trans rfl, (blk_cell BK194.out 0).trans rfl, (blk_cell BK194.out 1).trans rfl, (bc HB.out hw208_0), (bc HB.out hw208_1), (bc HB.out hw208_2), (bc HB.out hw208_3), (bc HB.out hw208_4), (bc HB.out hw208_5)⟩ (fun hHeld => ?_)
           clear hK K
           refine norm_ (a' := ?_) ?_ ?_
           rotate_left
           ·
            show Act.put _ (some 80) _ = _
            simp only [Act.put, List.setIfInBounds_toArray, List.set_cons_zero, List.set_cons_succ, i64_w, i32_w]
            rfl
           refine pure_ (i := 9) (N := some 81) (fl 10 11) rfl rfl (any_of HT_.out (by kernel_rfl)) (fun _ _ _ h => h) (Or.inl ⟨by rfl, py⟩) pa ?_
           refine last_ (i := 10) (N := none) (fl 11 11) rfl rfl (one_of HT_.out (by kernel_rfl)) (by decide) (fun K hK => ?_)
           have hs72 : w70.cell? ⟨gb200, 1, none⟩ = some (u201001) := (blk_cell BK200.out 1).trans rfl
           have hfs72 := blk_frozen BK200.out 1
           have hns72_0 := NB194_200.out
           have hns72_1 := NB195_200.out
           have hns72_2 := NB196_200.out
           have hns72_4 := NB205_200.out
           have hms72_0 := NB200_194.out
           have hms72_1 := NB200_195.out
           have hms72_2 := NB200_196.out
           have hms72_4 := NB200_205.out
           refine skip_ (w1 := ?_) (by rfl) rfl ?_ ?_
           rotate_left
           ·
            go_simp
            rfl
           refine hK.out _ _ ?_
           clear hK K
           refine done_ (done_of HT_.out (by kernel_rfl)) ?_
           try go_wp2
           go_roundg kj32
           case measure => have := HK1.out; have := HJ18.out; have := HJ32.out; omega
           case rel => exact ⟨(wrap64 (x6_1 + 1)), (x7_1), (y209), (.slice Ao71 y209.length co71), ok_, ok_, H', ⟨by have := HK1.out; have := HJ18.out; have := HJ32.out; omega⟩, ⟨by (with_reducible repeat (first | apply Kd.R_alloc | apply Kd.R_drewN | apply Kd.R_drew)); exact Kd.R_mono (Kd.R_far (p := ⟨gb200, 1, none⟩) (Kd.R_types HO_201000.out BK200.out (by decide)) (fun _ hk => hk.2) (.slice Ao71 y209.length co71)) (fun _ hk => trivial)⟩, ⟨by (with_reducible repeat (first | apply Kd.R_alloc | apply Kd.R_drewN | apply Kd.R_drew)); exact Kd.R_mono (Kd.R_far (p := ⟨gb200, 1, none⟩) (Kd.R_types HO211.out BK200.out (by decide)) (fun _ hk => hk.2) (.slice Ao71 y209.length co71)) (fun _ hk => trivial)⟩, ⟨by (with_reducible repeat (first | refine blk_drewN ?_ _ | refine blk_drew ?_ | refine blk_alloc ?_ _)); refine blk_far ?_ NB194_200.out _; (with_reducible repeat (first | refine blk_drewN ?_ _ | refine blk_drew ?_ | refine blk_alloc ?_ _)); exact BK194.out⟩, ⟨by (with_reducible repeat (first | refine blk_drewN ?_ _ | refine blk_drew ?_ | refine blk_alloc ?_ _)); refine blk_far ?_ NB195_200.out _; (with_reducible repeat (first | refine blk_drewN ?_ _ | refine blk_drew ?_ | refine blk_alloc ?_ _)); exact BK195.out⟩, ⟨by (with_reducible repeat (first | refine blk_drewN ?_ _ | refine blk_drew ?_ | refine blk_alloc ?_ _)); refine blk_far ?_ NB196_200.out _; (with_reducible repeat (first | refine blk_drewN ?_ _ | refine blk_drew ?_ | refine blk_alloc ?_ _)); exact BK196.out⟩, ⟨by (with_reducible repeat (first | refine blk_drewN ?_ _ | refine blk_drew ?_ | refine blk_alloc ?_ _)); refine blk_put (cs := #[.slice Ao13 t197.length co13, u201001]) ?_ 1 _ rfl; (with_reducible repeat (first | refine blk_drewN ?_ _ | refine blk_drew ?_ | refine blk_alloc ?_ _)); exact BK200.out⟩, ⟨bw5 HB.out GE194.out GE195.out GE196.out GE200.out GE205.out⟩⟩
          ·
           replace c50 := Bool.eq_false_iff.mpr c50
           subst c50
           have H1 : (deaddropref7_Join.l0 kj32 (wrap64 (x6_1 + 1)) x7_1 l0_0 l0_1 l1_0 l1_1 t197 x201001_1) = some (r1, r2) := by rw [if_neg (show ¬ (false = true) by decide)] at H; exact H
           clear H
           have H := H1
           clear H1
           have H' := Aside0.mk H
           clear H
           have hnb73 := NB194_195.out
           have hnc73 := NB195_194.out
           have hnb74 := NB194_196.out
           have hnc74 := NB196_194.out
           have hnb75 := NB194_200.out
           have hnc75 := NB200_194.out
           obtain ⟨hcz76_0, hcz76_1⟩ := bx2 BK194.out
           obtain ⟨hfz76_0, hfz76_1⟩ := bf2 BK194.out
           have p204 : 0 ≤ (x6_1 : Int) := of_decide_eq_true as_
           have q204 : x6_1 < (l0_1.length : Int) := of_decide_eq_true as_
           obtain ⟨ad204, e204, hx204_0, hx204_1, hx204_2, hx204_3, hx204_4, hx204_5⟩ := at_T34 HR0_1.out x6_1 p204 q204
           cases e204
           replace hx204_0 := (HB.out.cell (World.block_lt_of_cell? w _ hx204_0)).trans hx204_0
           replace hx204_1 := (HB.out.cell (World.block_lt_of_cell? w _ hx204_1)).trans hx204_1
           replace hx204_2 := (HB.out.cell (World.block_lt_of_cell? w _ hx204_2)).trans hx204_2
           replace hx204_3 := (HB.out.cell (World.block_lt_of_cell? w _ hx204_3)).trans hx204_3
           replace hx204_4 := (HB.out.cell (World.block_lt_of_cell? w _ hx204_4)).trans hx204_4
           replace hx204_5 := (HB.out.cell (World.block_lt_of_cell? w _ hx204_5)).trans hx204_5
           replace p204 := eq_true p204
           replace q204 := eq_true q204
           go_wp2_with (first | ((with_reducible refine gate_dst (N := 8) rfl ?_); (try (refine gate_guard (by rfl) ?_; dsimp only)); refine box_event ?hg (N := 8) ?hd (cs := #[.int .i64 0, .int .i64 0]) (t := 32) ?hr ?_; (case hd => rfl); (case hg => rfl); (case hr => first | (go_simp; done) | (go_simp; rfl)); intro gb205 hg w77 hbox hb; replace HO_201000 := Aside0.mk (Kd.R_below (rk HO_201000.out) hb); replace HO_201001 := Aside0.mk (Kd.R_below (rk HO_201001.out) hb); have BK205 := Aside0.mk (hbox); have GW205 := Aside0.mk ((by rw [hg]; exact (below_size (bw4 HB.out GE194.out GE195.out GE196.out GE200.out)) : w.heap.size ≤ gb205)); have GE205 := GW205; replace HB := Aside0.mk (below_step (bw4 HB.out GE194.out GE195.out GE196.out GE200.out) hb); have NB194_205 := Aside0.mk (nbl BK194.out hg); have NB205_194 := Aside0.mk (nbg BK194.out hg); replace BK194 := Aside0.mk (bkb BK194.out hb); have NB195_205 := Aside0.mk (nbl BK195.out hg); have NB205_195 := Aside0.mk (nbg BK195.out hg); replace BK195 := Aside0.mk (bkb BK195.out hb); have NB196_205 := Aside0.mk (nbl BK196.out hg); have NB205_196 := Aside0.mk (nbg BK196.out hg); replace BK196 := Aside0.mk (bkb BK196.out hb); have NB200_205 := Aside0.mk (nbl BK200.out hg); have NB205_200 := Aside0.mk (nbg BK200.out hg); replace BK200 := Aside0.mk (bkb BK200.out hb); clear hb hbox hg; have hnb78 := NB205_194.out; have hnc78 := NB194_205.out; have hnb79 := NB205_195.out; have hnc79 := NB195_205.out; have hnb80 := NB205_196.out; have hnc80 := NB196_205.out; have hnb81 := NB205_200.out; have hnc81 := NB200_205.out; obtain ⟨hcz82_0, hcz82_1⟩ := bx2 BK205.out; obtain ⟨hfz82_0, hfz82_1⟩ := bf2 BK205.out; have hnb83 := NB195_196.out; have hnc83 := NB196_195.out; have hnb84 := NB195_200.out; have hnc84 := NB200_195.out; obtain ⟨hcz85_0, hcz85_1⟩ := bx2 BK195.out; obtain ⟨hfz85_0, hfz85_1⟩ := bf2 BK195.out) | ((with_reducible refine gate_callee (f := 25) rfl ?_); refine goesL_ (some 65) rfl rfl Try.func25 (by kernel_rfl) rfl #[.slice A1_0 l1_0.length c1_0, .agg #[.int .i64 ((rd_T34 l0_1 x6_1).f0.f0), .int .i64 ((rd_T34 l0_1 x6_1).f0.f1)]] rfl ar_ ?_; (with_reducible refine (deaddropref7_Has.calls kj32 _ _ l1_0 ((rd_T34 l0_1 x6_1).f0.f0) ((rd_T34 l0_1 x6_1).f0.f1) true _ ?side1 ?side2 A47.out).mono ?_); (case side1 => exact Kd.C_below HR1_0.out (bw5 HB.out GE194.out GE195.out GE196.out GE200.out GE205.out)); (case side2 => exact HC1_0.out); rintro e w86 ⟨rfl, hb⟩; refine ⟨_, rfl, ?_⟩; replace HO_201000 := Aside0.mk (Kd.R_below (by (with_reducible repeat (first | apply Kd.R_alloc | apply Kd.R_drewN | apply Kd.R_drew)); exact (Kd.R_mono (Kd.R_far (p := ⟨gb205, 1, none⟩) (Kd.R_far (p := ⟨gb205, 0, none⟩) (Kd.R_types HO_201000.out BK205.out (by decide)) (fun _ hk => hk.2) (.int .i64 ((rd_T34 l0_1 x6_1).f0.f0))) (fun _ hk => hk.2) (.int .i64 ((rd_T34 l0_1 x6_1).f0.f1))) (fun _ h_ => h_.1))) hb); replace HO_201001 := Aside0.mk (Kd.R_below (by (with_reducible repeat (first | apply Kd.R_alloc | apply Kd.R_drewN | apply Kd.R_drew)); exact (Kd.R_mono (Kd.R_far (p := ⟨gb205, 1, none⟩) (Kd.R_far (p := ⟨gb205, 0, none⟩) (Kd.R_types HO_201001.out BK205.out (by decide)) (fun _ hk => hk.2) (.int .i64 ((rd_T34 l0_1 x6_1).f0.f0))) (fun _ hk => hk.2) (.int .i64 ((rd_T34 l0_1 x6_1).f0.f1))) (fun _ h_ => h_.1))) hb); replace BK194 := Aside0.mk (blk_below (g := gb194) (o := .cells #[.slice A0_0 l0_0.length c0_0, .slice (some ad204) l0_1.length c0_1] 28 (0, 0)) (by (with_reducible repeat (first | refine blk_drewN ?_ _ | refine blk_drew ?_ | refine blk_alloc ?_ _)); refine blk_far ?_ NB194_205.out _; (with_reducible repeat (first | refine blk_drewN ?_ _ | refine blk_drew ?_ | refine blk_alloc ?_ _)); refine blk_far ?_ NB194_205.out _; (with_reducible repeat (first | refine blk_drewN ?_ _ | refine blk_drew ?_ | refine blk_alloc ?_ _)); exact BK194.out) hb); replace BK195 := Aside0.mk (blk_below (g := gb195) (o := .cells #[.slice A1_0 l1_0.length c1_0, .slice A1_1 l1_1.length c1_1] 28 (0, 0)) (by (with_reducible repeat (first | refine blk_drewN ?_ _ | refine blk_drew ?_ | refine blk_alloc ?_ _)); refine blk_far ?_ NB195_205.out _; (with_reducible repeat (first | refine blk_drewN ?_ _ | refine blk_drew ?_ | refine blk_alloc ?_ _)); refine blk_far ?_ NB195_205.out _; (with_reducible repeat (first | refine blk_drewN ?_ _ | refine blk_drew ?_ | refine blk_alloc ?_ _)); exact BK195.out) hb); replace BK196 := Aside0.mk (blk_below (g := gb196) (o := .cells #[.slice none 0 0, .slice none 0 0] 28 (0, 0)) (by (with_reducible repeat (first | refine blk_drewN ?_ _ | refine blk_drew ?_ | refine blk_alloc ?_ _)); refine blk_far ?_ NB196_205.out _; (with_reducible repeat (first | refine blk_drewN ?_ _ | refine blk_drew ?_ | refine blk_alloc ?_ _)); refine blk_far ?_ NB196_205.out _; (with_reducible repeat (first | refine blk_drewN ?_ _ | refine blk_drew ?_ | refine blk_alloc ?_ _)); exact BK196.out) hb); replace BK200 := Aside0.mk (blk_below (g := gb200) (o := .cells #[.slice Ao13 t197.length co13, u201001] 28 (0, 0)) (by (with_reducible repeat (first | refine blk_drewN ?_ _ | refine blk_drew ?_ | refine blk_alloc ?_ _)); refine blk_far ?_ NB200_205.out _; (with_reducible repeat (first | refine blk_drewN ?_ _ | refine blk_drew ?_ | refine blk_alloc ?_ _)); refine blk_far ?_ NB200_205.out _; (with_reducible repeat (first | refine blk_drewN ?_ _ | refine blk_drew ?_ | refine blk_alloc ?_ _)); exact BK200.out) hb); replace BK205 := Aside0.mk (blk_below (g := gb205) (o := .cells #[.int .i64 ((rd_T34 l0_1 x6_1).f0.f0), .int .i64 ((rd_T34 l0_1 x6_1).f0.f1)] 32 (0, 0)) (by (with_reducible repeat (first | refine blk_drewN ?_ _ | refine blk_drew ?_ | refine blk_alloc ?_ _)); refine blk_put (cs := #[.int .i64 ((rd_T34 l0_1 x6_1).f0.f0), .int .i64 0]) ?_ 1 _ rfl; (with_reducible repeat (first | refine blk_drewN ?_ _ | refine blk_drew ?_ | refine blk_alloc ?_ _)); refine blk_put (cs := #[.int .i64 0, .int .i64 0]) ?_ 0 _ rfl; (with_reducible repeat (first | refine blk_drewN ?_ _ | refine blk_drew ?_ | refine blk_alloc ?_ _)); exact BK205.out) hb); replace HB := Aside0.mk (below_step (bw5 HB.out GE194.out GE195.out GE196.out GE200.out GE205.out) hb); (try clear hb); (try clear hb2); (try clear hk); (try clear hi); obtain ⟨hcz87_0, hcz87_1⟩ := bx2 BK195.out; obtain ⟨hfz87_0, hfz87_1⟩ := bf2 BK195.out; obtain ⟨hcz88_0, hcz88_1⟩ := bx2 BK205.out; obtain ⟨hfz88_0, hfz88_1⟩ := bf2 BK205.out) | (go_at_call 26; (with_reducible refine (deaddropref7_at.calls kj32 _ _ l1_0 _ _ l1_1 ((rd_T34 l0_1 x6_1).f0.f0) ((rd_T34 l0_1 x6_1).f0.f1) false _ ?side1 ?side2 ?side3 ?side4 A49.out).mono ?_); (case side1 => exact cr (Kd.C_below HR1_0.out HB.out)); (case side2 => exact HC1_0.out); (case side3 => exact cr (Kd.C_below HR1_1.out HB.out)); (case side4 => exact HC1_1.out); rintro e w89 ⟨rfl, hb⟩; replace HO_201000 := Aside0.mk (Kd.R_below (rk HO_201000.out) hb); replace HO_201001 := Aside0.mk (Kd.R_below (rk HO_201001.out) hb); replace BK194 := Aside0.mk (bkb BK194.out hb); replace BK195 := Aside0.mk (bkb BK195.out hb); replace BK196 := Aside0.mk (bkb BK196.out hb); replace BK200 := Aside0.mk (bkb BK200.out hb); replace BK205 := Aside0.mk (bkb BK205.out hb); replace HB := Aside0.mk (below_step (bw5 HB.out GE194.out GE195.out GE196.out GE200.out GE205.out) hb); (try clear hb); (try clear hb2); (try clear hk); (try clear hi)))
           go_roundg kj32
           case measure => have := HK1.out; have := HJ18.out; have := HJ32.out; omega
           case rel => exact ⟨(wrap64 (x6_1 + 1)), (x7_1), (x201001_1), (u201001), ok_, ok_, H', ⟨by have := HK1.out; have := HJ18.out; have := HJ32.out; omega⟩, ⟨rk HO_201000.out⟩, ⟨rk HO_201001.out⟩, ⟨bk BK194.out⟩, ⟨bk BK195.out⟩, ⟨bk BK196.out⟩, ⟨bk BK200.out⟩, ⟨bw5 HB.out GE194.out GE195.out GE196.out GE200.out GE205.out⟩⟩
         ·
          replace c48 := Bool.eq_false_iff.mpr c48
          subst c48
          have H1 : (if x201001_1.length < 2199023255552 then (deaddropref7_Join.l0 kj32 (wrap64 (x6_1 + 1)) x7_1 l0_0 l0_1 l1_0 l1_1 t197 (x201001_1 ++ [(⟨(⟨(rd_T34 l0_1 x6_1).f0.f0, (rd_T34 l0_1 x6_1).f0.f1⟩ : S32), (rd_T34 l0_1 x6_1).f1, (rd_T34 l0_1 x6_1).f2, (rd_T34 l0_1 x6_1).f3, (rd_T34 l0_1 x6_1).f4⟩ : S34)])) else (none)) = some (r1, r2) := by rw [if_neg (show ¬ (false = true) by decide)] at H; exact H
          clear H
          have H := H1
          clear H1
          by_cases c90 : x201001_1.length < 2199023255552
          rotate_left
          ·
           rw [if_neg c90] at H
           exact absurd H (by simp)
          rw [if_pos c90] at H
          have LMc90 := Aside0.mk c90
          clear c90
          obtain ⟨y213, hy213⟩ : ∃ y_ : List (S34), y_ = (x201001_1 ++ [(⟨(⟨(rd_T34 l0_1 x6_1).f0.f0, (rd_T34 l0_1 x6_1).f0.f1⟩ : S32), (rd_T34 l0_1 x6_1).f1, (rd_T34 l0_1 x6_1).f2, (rd_T34 l0_1 x6_1).f3, (rd_T34 l0_1 x6_1).f4⟩ : S34)]) := ⟨_, rfl⟩
          replace H : (deaddropref7_Join.l0 kj32 (wrap64 (x6_1 + 1)) x7_1 l0_0 l0_1 l1_0 l1_1 t197 y213) = some (r1, r2) := by first | (rw [hy213]; with_reducible exact H) | (have H2_ := (Option.bind_some _ _).symm.trans H; rw [hy213]; with_reducible exact H2_) | (have H2_ := (Option.bind_some _ _).symm.trans H; with_reducible exact H2_) | with_reducible exact H | (rw [hy213]; exact H) | exact H
          have Ny213 := Aside0.mk hy213
          clear hy213
          have H' := Aside0.mk H
          clear H
          have hnb91 := NB194_195.out
          have hnc91 := NB195_194.out
          have hnb92 := NB194_196.out
          have hnc92 := NB196_194.out
          have hnb93 := NB194_200.out
          have hnc93 := NB200_194.out
          obtain ⟨hcz94_0, hcz94_1⟩ := bx2 BK194.out
          obtain ⟨hfz94_0, hfz94_1⟩ := bf2 BK194.out
          have p204 : 0 ≤ (x6_1 : Int) := of_decide_eq_true as_
          have q204 : x6_1 < (l0_1.length : Int) := of_decide_eq_true as_
          obtain ⟨ad204, e204, hx204_0, hx204_1, hx204_2, hx204_3, hx204_4, hx204_5⟩ := at_T34 HR0_1.out x6_1 p204 q204
          cases e204
          replace hx204_0 := (HB.out.cell (World.block_lt_of_cell? w _ hx204_0)).trans hx204_0
          replace hx204_1 := (HB.out.cell (World.block_lt_of_cell? w _ hx204_1)).trans hx204_1
          replace hx204_2 := (HB.out.cell (World.block_lt_of_cell? w _ hx204_2)).trans hx204_2
          replace hx204_3 := (HB.out.cell (World.block_lt_of_cell? w _ hx204_3)).trans hx204_3
          replace hx204_4 := (HB.out.cell (World.block_lt_of_cell? w _ hx204_4)).trans hx204_4
          replace hx204_5 := (HB.out.cell (World.block_lt_of_cell? w _ hx204_5)).trans hx204_5
          replace p204 := eq_true p204
          replace q204 := eq_true q204
          try go_wp2_with (first | ((with_reducible refine gate_dst (N := 8) rfl ?_); (try (refine gate_guard (by rfl) ?_; dsimp only)); refine box_event ?hg (N := 8) ?hd (cs := #[.int .i64 0, .int .i64 0]) (t := 32) ?hr ?_; (case hd => rfl); (case hg => rfl); (case hr => first | (go_simp; done) | (go_simp; rfl)); intro gb205 hg w95 hbox hb; replace HO_201000 := Aside0.mk (Kd.R_below (rk HO_201000.out) hb); replace HO_201001 := Aside0.mk (Kd.R_below (rk HO_201001.out) hb); have BK205 := Aside0.mk (hbox); have GW205 := Aside0.mk ((by rw [hg]; exact (below_size (bw4 HB.out GE194.out GE195.out GE196.out GE200.out)) : w.heap.size ≤ gb205)); have GE205 := GW205; replace HB := Aside0.mk (below_step (bw4 HB.out GE194.out GE195.out GE196.out GE200.out) hb); have NB194_205 := Aside0.mk (nbl BK194.out hg); have NB205_194 := Aside0.mk (nbg BK194.out hg); replace BK194 := Aside0.mk (bkb BK194.out hb); have NB195_205 := Aside0.mk (nbl BK195.out hg); have NB205_195 := Aside0.mk (nbg BK195.out hg); replace BK195 := Aside0.mk (bkb BK195.out hb); have NB196_205 := Aside0.mk (nbl BK196.out hg); have NB205_196 := Aside0.mk (nbg BK196.out hg); replace BK196 := Aside0.mk (bkb BK196.out hb); have NB200_205 := Aside0.mk (nbl BK200.out hg); have NB205_200 := Aside0.mk (nbg BK200.out hg); replace BK200 := Aside0.mk (bkb BK200.out hb); clear hb hbox hg; have hnb96 := NB205_194.out; have hnc96 := NB194_205.out; have hnb97 := NB205_195.out; have hnc97 := NB195_205.out; have hnb98 := NB205_196.out; have hnc98 := NB196_205.out; have hnb99 := NB205_200.out; have hnc99 := NB200_205.out; obtain ⟨hcz100_0, hcz100_1⟩ := bx2 BK205.out; obtain ⟨hfz100_0, hfz100_1⟩ := bf2 BK205.out; have hnb101 := NB195_196.out; have hnc101 := NB196_195.out; have hnb102 := NB195_200.out; have hnc102 := NB200_195.out; obtain ⟨hcz103_0, hcz103_1⟩ := bx2 BK195.out; obtain ⟨hfz103_0, hfz103_1⟩ := bf2 BK195.out) | ((with_reducible refine gate_callee (f := 25) rfl ?_); refine goesL_ (some 65) rfl rfl Try.func25 (by kernel_rfl) rfl #[.slice A1_0 l1_0.length c1_0, .agg #[.int .i64 ((rd_T34 l0_1 x6_1).f0.f0), .int .i64 ((rd_T34 l0_1 x6_1).f0.f1)]] rfl ar_ ?_; (with_reducible refine (deaddropref7_Has.calls kj32 _ _ l1_0 ((rd_T34 l0_1 x6_1).f0.f0) ((rd_T34 l0_1 x6_1).f0.f1) false _ ?side1 ?side2 A47.out).mono ?_); (case side1 => exact Kd.C_below HR1_0.out (bw5 HB.out GE194.out GE195.out GE196.out GE200.out GE205.out)); (case side2 => exact HC1_0.out); rintro e w104 ⟨rfl, hb⟩; refine ⟨_, rfl, ?_⟩; replace HO_201000 := Aside0.mk (Kd.R_below (by (with_reducible repeat (first | apply Kd.R_alloc | apply Kd.R_drewN | apply Kd.R_drew)); exact (Kd.R_mono (Kd.R_far (p := ⟨gb205, 1, none⟩) (Kd.R_far (p := ⟨gb205, 0, none⟩) (Kd.R_types HO_201000.out BK205.out (by decide)) (fun _ hk => hk.2) (.int .i64 ((rd_T34 l0_1 x6_1).f0.f0))) (fun _ hk => hk.2) (.int .i64 ((rd_T34 l0_1 x6_1).f0.f1))) (fun _ h_ => h_.1))) hb); replace HO_201001 := Aside0.mk (Kd.R_below (by (with_reducible repeat (first | apply Kd.R_alloc | apply Kd.R_drewN | apply Kd.R_drew)); exact (Kd.R_mono (Kd.R_far (p := ⟨gb205, 1, none⟩) (Kd.R_far (p := ⟨gb205, 0, none⟩) (Kd.R_types HO_201001.out BK205.out (by decide)) (fun _ hk => hk.2) (.int .i64 ((rd_T34 l0_1 x6_1).f0.f0))) (fun _ hk => hk.2) (.int .i64 ((rd_T34 l0_1 x6_1).f0.f1))) (fun _ h_ => h_.1))) hb); replace BK194 := Aside0.mk (blk_below (g := gb194) (o := .cells #[.slice A0_0 l0_0.length c0_0, .slice (some ad204) l0_1.length c0_1] 28 (0, 0)) (by (with_reducible repeat (first | refine blk_drewN ?_ _ | refine blk_drew ?_ | refine blk_alloc ?_ _)); refine blk_far ?_ NB194_205.out _; (with_reducible repeat (first | refine blk_drewN ?_ _ | refine blk_drew ?_ | refine blk_alloc ?_ _)); refine blk_far ?_ NB194_205.out _; (with_reducible repeat (first | refine blk_drewN ?_ _ | refine blk_drew ?_ | refine blk_alloc ?_ _)); exact BK194.out) hb); replace BK195 := Aside0.mk (blk_below (g := gb195) (o := .cells #[.slice A1_0 l1_0.length c1_0, .slice A1_1 l1_1.length c1_1] 28 (0, 0)) (by (with_reducible repeat (first | refine blk_drewN ?_ _ | refine blk_drew ?_ | refine blk_alloc ?_ _)); refine blk_far ?_ NB195_205.out _; (with_reducible repeat (first | refine blk_drewN ?_ _ | refine blk_drew ?_ | refine blk_alloc ?_ _)); refine blk_far ?_ NB195_205.out _; (with_reducible repeat (first | refine blk_drewN ?_ _ | refine blk_drew ?_ | refine blk_alloc ?_ _)); exact BK195.out) hb); replace BK196 := Aside0.mk (blk_below (g := gb196) (o := .cells #[.slice none 0 0, .slice none 0 0] 28 (0, 0)) (by (with_reducible repeat (first | refine blk_drewN ?_ _ | refine blk_drew ?_ | refine blk_alloc ?_ _)); refine blk_far ?_ NB196_205.out _; (with_reducible repeat (first | refine blk_drewN ?_ _ | refine blk_drew ?_ | refine blk_alloc ?_ _)); refine blk_far ?_ NB196_205.out _; (with_reducible repeat (first | refine blk_drewN ?_ _ | refine blk_drew ?_ | refine blk_alloc ?_ _)); exact BK196.out) hb); replace BK200 := Aside0.mk (blk_below (g := gb200) (o := .cells #[.slice Ao13 t197.length co13, u201001] 28 (0, 0)) (by (with_reducible repeat (first | refine blk_drewN ?_ _ | refine blk_drew ?_ | refine blk_alloc ?_ _)); refine blk_far ?_ NB200_205.out _; (with_reducible repeat (first | refine blk_drewN ?_ _ | refine blk_drew ?_ | refine blk_alloc ?_ _)); refine blk_far ?_ NB200_205.out _; (with_reducible repeat (first | refine blk_drewN ?_ _ | refine blk_drew ?_ | refine blk_alloc ?_ _)); exact BK200.out) hb); replace BK205 := Aside0.mk (blk_below (g := gb205) (o := .cells #[.int .i64 ((rd_T34 l0_1 x6_1).f0.f0), .int .i64 ((rd_T34 l0_1 x6_1).f0.f1)] 32 (0, 0)) (by (with_reducible repeat (first | refine blk_drewN ?_ _ | refine blk_drew ?_ | refine blk_alloc ?_ _)); refine blk_put (cs := #[.int .i64 ((rd_T34 l0_1 x6_1).f0.f0), .int .i64 0]) ?_ 1 _ rfl; (with_reducible repeat (first | refine blk_drewN ?_ _ | refine blk_drew ?_ | refine blk_alloc ?_ _)); refine blk_put (cs := #[.int .i64 0, .int .i64 0]) ?_ 0 _ rfl; (with_reducible repeat (first | refine blk_drewN ?_ _ | refine blk_drew ?_ | refine blk_alloc ?_ _)); exact BK205.out) hb); replace HB := Aside0.mk (below_step (bw5 HB.out GE194.out GE195.out GE196.out GE200.out GE205.out) hb); (try clear hb); (try clear hb2); (try clear hk); (try clear hi)))
          replace HO_201000 := Aside0.mk (Kd.R_drew HO_201000.out)
          replace HO_201001 := Aside0.mk (Kd.R_drew HO_201001.out)
          replace BK194 := Aside0.mk (blk_drew BK194.out)
          replace BK195 := Aside0.mk (blk_drew BK195.out)
          replace BK196 := Aside0.mk (blk_drew BK196.out)
          replace BK200 := Aside0.mk (blk_drew BK200.out)
          replace BK205 := Aside0.mk (blk_drew BK205.out)
          replace HB := Aside0.mk (below_drew1 HB.out)
          have p212 : 0 ≤ (x6_1 : Int) := of_decide_eq_true as_
          have q212 : x6_1 < (l0_1.length : Int) := of_decide_eq_true as_
          obtain ⟨ad212, e212, hx212_0, hx212_1, hx212_2, hx212_3, hx212_4, hx212_5⟩ := at_T34 HR0_1.out x6_1 p212 q212
          have hw212_5 := hx212_5
          have hw212_4 := hx212_4
          have hw212_3 := hx212_3
          have hw212_2 := hx212_2
          have hw212_1 := hx212_1
          have hw212_0 := hx212_0
          obtain rfl : ad204 = ad212 := (by injection e212)
          replace hx212_0 := (HB.out.cell (World.block_lt_of_cell? w _ hx212_0)).trans hx212_0
          replace hx212_1 := (HB.out.cell (World.block_lt_of_cell? w _ hx212_1)).trans hx212_1
          replace hx212_2 := (HB.out.cell (World.block_lt_of_cell? w _ hx212_2)).trans hx212_2
          replace hx212_3 := (HB.out.cell (World.block_lt_of_cell? w _ hx212_3)).trans hx212_3
          replace hx212_4 := (HB.out.cell (World.block_lt_of_cell? w _ hx212_4)).trans hx212_4
          replace hx212_5 := (HB.out.cell (World.block_lt_of_cell? w _ hx212_5)).trans hx212_5
          replace p212 := eq_true p212
          replace q212 := eq_true q212
          refine start_ (n := 11) (S := fun w' => w'.cell? ⟨gb200, 0, none⟩ = some (.slice Ao13 t197.length co13) ∧ w'.cell? ⟨gb200, 1, none⟩ = some (u201001) ∧ w'.cell? ⟨gb194, 0, none⟩ = some (.slice A0_0 l0_0.length c0_0) ∧ w'.cell? ⟨gb194, 1, none⟩ = some (.slice (some ad204) l0_1.length c0_1) ∧ w'.cell? (ad204.add ((x6_1).toNat * 6)) = some (.int .i64 ((rd_T34 l0_1 x6_1).f0.f0)) ∧ w'.cell? ⟨(ad204.add ((x6_1).toNat * 6)).block, (ad204.add ((x6_1).toNat * 6)).off + 1, none⟩ = some (.int .i64 ((rd_T34 l0_1 x6_1).f0.f1)) ∧ w'.cell? ⟨(ad204.add ((x6_1).toNat * 6)).block, (ad204.add ((x6_1).toNat * 6)).off + 2, none⟩ = some (.string ((rd_T34 l0_1 x6_1).f1)) ∧ w'.cell? ⟨(ad204.add ((x6_1).toNat * 6)).block, (ad204.add ((x6_1).toNat * 6)).off + 3, none⟩ = some (.int .i64 ((rd_T34 l0_1 x6_1).f2)) ∧ w'.cell? ⟨(ad204.add ((x6_1).toNat * 6)).block, (ad204.add ((x6_1).toNat * 6)).off + 4, none⟩ = some (.string ((rd_T34 l0_1 x6_1).f3)) ∧ w'.cell? ⟨(ad204.add ((x6_1).toNat * 6)).block, (ad204.add ((x6_1).toNat * 6)).off + 5, none⟩ = some (.int .i64 ((rd_T34 l0_1 x6_1).f4))) (ds := [10]) (fl 0 11) (by kernel_rfl) rfl rfl ⟨(blk_cell BK200.out 0).trans rfl, (blk_cell BK200.out 1).trans rfl, (blk_cell BK194.out 0).trans rfl, (blk_cell BK194.out 1).trans rfl, (bc HB.out hw212_0), (bc HB.out hw212_1), (bc HB.out hw212_2), (bc HB.out hw212_3), (bc HB.out hw212_4), (bc HB.out hw212_5)⟩ (fun hHeld => ?_); refine with_tabW deaddropref7_Join.tab7 deaddropref7_Join.bits7 (fun HT_ HW_ => ?_)
          generalize w104.drew = w105 at HO_201000 HO_201001 BK194 BK195 BK196 BK200 BK205 HB hx212_0 hx212_1 hx212_2 hx212_3 hx212_4 hx212_5 hHeld ⊢
          refine pure_ (i := 0) (N := some 72) (fl 1 11) rfl rfl (any_of HT_.out (by kernel_rfl)) (fun _ _ _ h => h) (Or.inl ⟨by rfl, py⟩) pa ?_
          refine pure_ (i := 2) (N := some 74) #[true, false, true, false, false, false, false, false, false, false, false] rfl rfl (any_of HT_.out (by kernel_rfl)) (fun _ _ _ h => h) (Or.inl ⟨by rfl, py⟩) pa ?_
          refine pure_ (i := 4) (N := some 76) #[true, false, true, false, true, false, false, false, false, false, false] rfl rfl (any_of HT_.out (by kernel_rfl)) (fun _ _ _ h => h) (Or.inl ⟨by rfl, py⟩) pa ?_
          refine take_ (i := 1) (N := some 73) #[true, true, true, false, true, false, false, false, false, false, false] rfl rfl (take_ofW HT_.out HW_.out (by kernel_rfl)) (fun _ _ _ h => h) (Or.inl ⟨by rfl, tk⟩) hHeld pa ?_
          refine take_ (i := 3) (N := some 75) (fl 5 11) rfl rfl (take_ofW HT_.out HW_.out (by kernel_rfl)) (fun _ _ _ h => h) (Or.inl ⟨by rfl, tk⟩) hHeld pa ?_
          refine pure_ (i := 5) (N := some 77) (fl 6 11) rfl rfl (any_of HT_.out (by kernel_rfl)) (fun _ _ _ h => h) (Or.inl ⟨by rfl, py⟩) pa ?_
          refine take_ (i := 6) (N := some 78) (fl 7 11) rfl rfl (take_ofW HT_.out HW_.out (by kernel_rfl)) (fun _ _ _ h => h) (Or.inl ⟨by rfl, tk⟩) hHeld pa ?_
          refine one_ (i := 7) (N := some 79) (fl 8 11) rfl rfl (one_of HT_.out (by kernel_rfl)) (by decide) (fun K hK => ?_)
          refine value_ (w1 := ?_) (v := ?_) (by rfl) rfl ?_ ?_
          rotate_left 2
          ·
           go_simp
           constructor
           ·
            rfl
           ·
            rfl
          refine hK.out _ _ ⟨(blk_cell (blk_alloc BK200.out _) 0).trans rfl, (blk_cell (blk_alloc BK200.out _) 1).trans rfl, (blk_cell (blk_alloc BK194.out _) 0).trans rfl, (blk_cell (blk_alloc BK194.out _) 1).trans rfl, (World.cell?_alloc_lt _ _ _ (World.block_lt_of_cell? _ _ ((bc HB.out hw212_0)))).trans ((bc HB.out hw212_0)), (World.cell?_alloc_lt _ _ _ (World.block_lt_of_cell? _ _ ((bc HB.out hw212_1)))).trans ((bc HB.out hw212_1)), (World.cell?_alloc_lt _ _ _ (World.block_lt_of_cell? _ _ ((bc HB.out hw212_2)))).trans ((bc HB.out hw212_2)), (World.cell?_alloc_lt _ _ _ (World.block_lt_of_cell? _ _ ((bc HB.out hw212_3)))).trans ((bc HB.out hw212_3)), (World.cell?_alloc_lt _ _ _ (World.block_lt_of_cell? _ _ ((bc HB.out hw212_4)))).trans ((bc HB.out hw212_4)), (World.cell?_alloc_lt _ _ _ (World.block_lt_of_cell? _ _ ((bc HB.out hw212_5)))).trans ((bc HB.out hw212_5))⟩ (fun hHeld => ?_)
          clear hK K
          refine norm_ (a' := ?_) ?_ ?_
          rotate_left
          ·
           show Act.put _ (some 79) _ = _
           simp only [Act.put, List.setIfInBounds_toArray, List.set_cons_zero, List.set_cons_succ, i64_w, i32_w]
           rfl
          refine one_ (i := 8) (N := some 80) (fl 9 11) rfl rfl (one_of HT_.out (by kernel_rfl)) (by decide) (fun K hK => ?_)
          refine Kd.R_append_step k34 (w0 := w) w.heap.size (by rfl) (.tmp 73) (.tmp 79) 26 34 (.agg #[(.int .i64 0), (.int .i64 0), (.string ⟨#[]⟩), (.int .i64 0), (.string ⟨#[]⟩), (.int .i64 0)]) 64 rfl Try.underlying26 info34 rfl (by decide) (by omega) u201001 x201001_1 (⟨(⟨(rd_T34 l0_1 x6_1).f0.f0, (rd_T34 l0_1 x6_1).f0.f1⟩ : S32), (rd_T34 l0_1 x6_1).f1, (rd_T34 l0_1 x6_1).f2, (rd_T34 l0_1 x6_1).f3, (rd_T34 l0_1 x6_1).f4⟩ : S34) [.int .i64 ((rd_T34 l0_1 x6_1).f0.f0), .int .i64 ((rd_T34 l0_1 x6_1).f0.f1), .string ((rd_T34 l0_1 x6_1).f1), .int .i64 ((rd_T34 l0_1 x6_1).f2), .string ((rd_T34 l0_1 x6_1).f3), .int .i64 ((rd_T34 l0_1 x6_1).f4)] (fun _ => True) (fun _ => False) rfl rfl ?aP (fun _ hk => hk.elim) ?aF ?aO ?aB ?aS ?aL ?_
          (case aP => exact k34_mkM _ _ _ (⟨(⟨(rd_T34 l0_1 x6_1).f0.f0, (rd_T34 l0_1 x6_1).f0.f1⟩ : S32), (rd_T34 l0_1 x6_1).f1, (rd_T34 l0_1 x6_1).f2, (rd_T34 l0_1 x6_1).f3, (rd_T34 l0_1 x6_1).f4⟩ : S34))
          (case aB => exact (bw5 HB.out GE194.out GE195.out GE196.out GE200.out GE205.out))
          (case aF => exact (fun _ _ => trivial))
          (case aO => exact (rk HO_201001.out))
          (case aS => exact (below_size (bw5 HB.out GE194.out GE195.out GE196.out GE200.out GE205.out)))
          (case aL => have := LMc90.out; omega)
          intro v214 w106 ho hb hg hat
          rw [← Ny213.out] at ho
          replace HO_201000 := Aside0.mk (Kd.R_over' (rk HO_201000.out) (Kd.R_typed (rk HO_201001.out)) (by decide) hg)
          replace BK194 := Aside0.mk (bkg BK194.out hg (Kd.R_ne HO_201001.out BK194.out (by decide)))
          replace BK195 := Aside0.mk (bkg BK195.out hg (Kd.R_ne HO_201001.out BK195.out (by decide)))
          replace BK196 := Aside0.mk (bkg BK196.out hg (Kd.R_ne HO_201001.out BK196.out (by decide)))
          replace BK200 := Aside0.mk (bkg BK200.out hg (Kd.R_ne HO_201001.out BK200.out (by decide)))
          replace BK205 := Aside0.mk (bkg BK205.out hg (Kd.R_ne HO_201001.out BK205.out (by decide)))
          replace HB := Aside0.mk (hb)
          have HO215 := Aside0.mk (ho)
          clear HO_201001
          clear ho hb hg hat
          obtain ⟨Ao107, co107, eo107⟩ := Kd.R_slice HO215.out
          (first | subst eo107 | (injection eo107 with f1_ f2_ f3_; have f4_ := f1_.symm; have f5_ := f3_.symm; clear f1_ f2_ f3_; subst f4_; subst f5_))
          refine hK.out _ _ ⟨(blk_cell BK200.out 0).trans rfl, (blk_cell BK200.out 1).trans rfl, (blk_cell BK194.out 0).trans rfl, (blk_cell BK194.out 1).trans rfl, (bc HB.out hw212_0), (bc HB.out hw212_1), (bc HB.out hw212_2), (bc HB.out hw212_3), (bc HB.out hw212_4), (bc HB.out hw212_5)⟩ (fun hHeld => ?_)
          clear hK K
          refine norm_ (a' := ?_) ?_ ?_
          rotate_left
          ·
           show Act.put _ (some 80) _ = _
           simp only [Act.put, List.setIfInBounds_toArray, List.set_cons_zero, List.set_cons_succ, i64_w, i32_w]
           rfl
          refine pure_ (i := 9) (N := some 81) (fl 10 11) rfl rfl (any_of HT_.out (by kernel_rfl)) (fun _ _ _ h => h) (Or.inl ⟨by rfl, py⟩) pa ?_
          refine last_ (i := 10) (N := none) (fl 11 11) rfl rfl (one_of HT_.out (by kernel_rfl)) (by decide) (fun K hK => ?_)
          have hs108 : w106.cell? ⟨gb200, 1, none⟩ = some (u201001) := (blk_cell BK200.out 1).trans rfl
          have hfs108 := blk_frozen BK200.out 1
          have hns108_0 := NB194_200.out
          have hns108_1 := NB195_200.out
          have hns108_2 := NB196_200.out
          have hns108_4 := NB205_200.out
          have hms108_0 := NB200_194.out
          have hms108_1 := NB200_195.out
          have hms108_2 := NB200_196.out
          have hms108_4 := NB200_205.out
          refine skip_ (w1 := ?_) (by rfl) rfl ?_ ?_
          rotate_left
          ·
           go_simp
           rfl
          refine hK.out _ _ ?_
          clear hK K
          refine done_ (done_of HT_.out (by kernel_rfl)) ?_
          try go_wp2
          go_roundg kj32
          case measure => have := HK1.out; have := HJ18.out; have := HJ32.out; omega
          case rel => exact ⟨(wrap64 (x6_1 + 1)), (x7_1), (y213), (.slice Ao107 y213.length co107), ok_, ok_, H', ⟨by have := HK1.out; have := HJ18.out; have := HJ32.out; omega⟩, ⟨by (with_reducible repeat (first | apply Kd.R_alloc | apply Kd.R_drewN | apply Kd.R_drew)); exact Kd.R_mono (Kd.R_far (p := ⟨gb200, 1, none⟩) (Kd.R_types HO_201000.out BK200.out (by decide)) (fun _ hk => hk.2) (.slice Ao107 y213.length co107)) (fun _ hk => trivial)⟩, ⟨by (with_reducible repeat (first | apply Kd.R_alloc | apply Kd.R_drewN | apply Kd.R_drew)); exact Kd.R_mono (Kd.R_far (p := ⟨gb200, 1, none⟩) (Kd.R_types HO215.out BK200.out (by decide)) (fun _ hk => hk.2) (.slice Ao107 y213.length co107)) (fun _ hk => trivial)⟩, ⟨by (with_reducible repeat (first | refine blk_drewN ?_ _ | refine blk_drew ?_ | refine blk_alloc ?_ _)); refine blk_far ?_ NB194_200.out _; (with_reducible repeat (first | refine blk_drewN ?_ _ | refine blk_drew ?_ | refine blk_alloc ?_ _)); exact BK194.out⟩, ⟨by (with_reducible repeat (first | refine blk_drewN ?_ _ | refine blk_drew ?_ | refine blk_alloc ?_ _)); refine blk_far ?_ NB195_200.out _; (with_reducible repeat (first | refine blk_drewN ?_ _ | refine blk_drew ?_ | refine blk_alloc ?_ _)); exact BK195.out⟩, ⟨by (with_reducible repeat (first | refine blk_drewN ?_ _ | refine blk_drew ?_ | refine blk_alloc ?_ _)); refine blk_far ?_ NB196_200.out _; (with_reducible repeat (first | refine blk_drewN ?_ _ | refine blk_drew ?_ | refine blk_alloc ?_ _)); exact BK196.out⟩, ⟨by (with_reducible repeat (first | refine blk_drewN ?_ _ | refine blk_drew ?_ | refine blk_alloc ?_ _)); refine blk_put (cs := #[.slice Ao13 t197.length co13, u201001]) ?_ 1 _ rfl; (with_reducible repeat (first | refine blk_drewN ?_ _ | refine blk_drew ?_ | refine blk_alloc ?_ _)); exact BK200.out⟩, ⟨bw5 HB.out GE194.out GE195.out GE196.out GE200.out GE205.out⟩⟩
        ·
         replace c44 := Bool.eq_false_iff.mpr c44
         subst c44
         have H1 : (if 0 ≤ x7_1 then (if x7_1 < (l1_1.length : Int) then ((deaddropref7_Has.f kj32 l0_0 ((rd_T34 l1_1 x7_1).f0.f0) ((rd_T34 l1_1 x7_1).f0.f1)).bind fun t218 => (if t218 = true then (deaddropref7_Join.l0 kj32 x6_1 (wrap64 (x7_1 + 1)) l0_0 l0_1 l1_0 l1_1 t197 x201001_1) else (if x201001_1.length < 2199023255552 then (deaddropref7_Join.l0 kj32 x6_1 (wrap64 (x7_1 + 1)) l0_0 l0_1 l1_0 l1_1 t197 (x201001_1 ++ [(⟨(⟨(rd_T34 l1_1 x7_1).f0.f0, (rd_T34 l1_1 x7_1).f0.f1⟩ : S32), (rd_T34 l1_1 x7_1).f1, (rd_T34 l1_1 x7_1).f2, (rd_T34 l1_1 x7_1).f3, (rd_T34 l1_1 x7_1).f4⟩ : S34)])) else (none)))) else (none)) else (none)) = some (r1, r2) := by rw [if_neg (show ¬ (false = true) by decide)] at H; exact H
         clear H
         have H := H1
         clear H1
         by_cases c109 : 0 ≤ x7_1
         rotate_left
         ·
          rw [if_neg c109] at H
          exact absurd H (by simp)
         rw [if_pos c109] at H
         have c109b0 : decide (0 ≤ x7_1) = true := decide_eq_true c109
         clear c109
         by_cases c110 : x7_1 < (l1_1.length : Int)
         rotate_left
         ·
          rw [if_neg c110] at H
          exact absurd H (by simp)
         rw [if_pos c110] at H
         have c110b0 : decide (x7_1 < (l1_1.length : Int)) = true := decide_eq_true c110
         clear c110
         replace H := Option.bind_eq_some_iff.mp H
         obtain ⟨t218, A1110, H⟩ := H
         replace H : (if t218 = true then (deaddropref7_Join.l0 kj32 x6_1 (wrap64 (x7_1 + 1)) l0_0 l0_1 l1_0 l1_1 t197 x201001_1) else (if x201001_1.length < 2199023255552 then (deaddropref7_Join.l0 kj32 x6_1 (wrap64 (x7_1 + 1)) l0_0 l0_1 l1_0 l1_1 t197 (x201001_1 ++ [(⟨(⟨(rd_T34 l1_1 x7_1).f0.f0, (rd_T34 l1_1 x7_1).f0.f1⟩ : S32), (rd_T34 l1_1 x7_1).f1, (rd_T34 l1_1 x7_1).f2, (rd_T34 l1_1 x7_1).f3, (rd_T34 l1_1 x7_1).f4⟩ : S34)])) else (none))) = some (r1, r2) := H
         have A111 := Aside0.mk A1110
         clear A1110
         by_cases c112 : t218 = true
         ·
          subst c112
          have H1 : (deaddropref7_Join.l0 kj32 x6_1 (wrap64 (x7_1 + 1)) l0_0 l0_1 l1_0 l1_1 t197 x201001_1) = some (r1, r2) := by rw [if_pos rfl] at H; exact H
          clear H
          have H := H1
          clear H1
          have H' := Aside0.mk H
          clear H
          have hnb113 := NB195_194.out
          have hnc113 := NB194_195.out
          have hnb114 := NB195_196.out
          have hnc114 := NB196_195.out
          have hnb115 := NB195_200.out
          have hnc115 := NB200_195.out
          obtain ⟨hcz116_0, hcz116_1⟩ := bx2 BK195.out
          obtain ⟨hfz116_0, hfz116_1⟩ := bf2 BK195.out
          have p216 : 0 ≤ (x7_1 : Int) := of_decide_eq_true as_
          have q216 : x7_1 < (l1_1.length : Int) := of_decide_eq_true as_
          obtain ⟨ad216, e216, hx216_0, hx216_1, hx216_2, hx216_3, hx216_4, hx216_5⟩ := at_T34 HR1_1.out x7_1 p216 q216
          cases e216
          replace hx216_0 := (HB.out.cell (World.block_lt_of_cell? w _ hx216_0)).trans hx216_0
          replace hx216_1 := (HB.out.cell (World.block_lt_of_cell? w _ hx216_1)).trans hx216_1
          replace hx216_2 := (HB.out.cell (World.block_lt_of_cell? w _ hx216_2)).trans hx216_2
          replace hx216_3 := (HB.out.cell (World.block_lt_of_cell? w _ hx216_3)).trans hx216_3
          replace hx216_4 := (HB.out.cell (World.block_lt_of_cell? w _ hx216_4)).trans hx216_4
          replace hx216_5 := (HB.out.cell (World.block_lt_of_cell? w _ hx216_5)).trans hx216_5
          replace p216 := eq_true p216
          replace q216 := eq_true q216
          go_wp2_with (first | ((with_reducible refine gate_dst (N := 9) rfl ?_); (try (refine gate_guard (by rfl) ?_; dsimp only)); refine box_event ?hg (N := 9) ?hd (cs := #[.int .i64 0, .int .i64 0]) (t := 32) ?hr ?_; (case hd => rfl); (case hg => rfl); (case hr => first | (go_simp; done) | (go_simp; rfl)); intro gb217 hg w117 hbox hb; replace HO_201000 := Aside0.mk (Kd.R_below (rk HO_201000.out) hb); replace HO_201001 := Aside0.mk (Kd.R_below (rk HO_201001.out) hb); have BK217 := Aside0.mk (hbox); have GW217 := Aside0.mk ((by rw [hg]; exact (below_size (bw4 HB.out GE194.out GE195.out GE196.out GE200.out)) : w.heap.size ≤ gb217)); have GE217 := GW217; replace HB := Aside0.mk (below_step (bw4 HB.out GE194.out GE195.out GE196.out GE200.out) hb); have NB194_217 := Aside0.mk (nbl BK194.out hg); have NB217_194 := Aside0.mk (nbg BK194.out hg); replace BK194 := Aside0.mk (bkb BK194.out hb); have NB195_217 := Aside0.mk (nbl BK195.out hg); have NB217_195 := Aside0.mk (nbg BK195.out hg); replace BK195 := Aside0.mk (bkb BK195.out hb); have NB196_217 := Aside0.mk (nbl BK196.out hg); have NB217_196 := Aside0.mk (nbg BK196.out hg); replace BK196 := Aside0.mk (bkb BK196.out hb); have NB200_217 := Aside0.mk (nbl BK200.out hg); have NB217_200 := Aside0.mk (nbg BK200.out hg); replace BK200 := Aside0.mk (bkb BK200.out hb); clear hb hbox hg; have hnb118 := NB217_194.out; have hnc118 := NB194_217.out; have hnb119 := NB217_195.out; have hnc119 := NB195_217.out; have hnb120 := NB217_196.out; have hnc120 := NB196_217.out; have hnb121 := NB217_200.out; have hnc121 := NB200_217.out; obtain ⟨hcz122_0, hcz122_1⟩ := bx2 BK217.out; obtain ⟨hfz122_0, hfz122_1⟩ := bf2 BK217.out; have hnb123 := NB194_196.out; have hnc123 := NB196_194.out; have hnb124 := NB194_200.out; have hnc124 := NB200_194.out; obtain ⟨hcz125_0, hcz125_1⟩ := bx2 BK194.out; obtain ⟨hfz125_0, hfz125_1⟩ := bf2 BK194.out) | ((with_reducible refine gate_callee (f := 25) rfl ?_); refine goesL_ (some 93) rfl rfl Try.func25 (by kernel_rfl) rfl #[.slice A0_0 l0_0.length c0_0, .agg #[.int .i64 ((rd_T34 l1_1 x7_1).f0.f0), .int .i64 ((rd_T34 l1_1 x7_1).f0.f1)]] rfl ar_ ?_; (with_reducible refine (deaddropref7_Has.calls kj32 _ _ l0_0 ((rd_T34 l1_1 x7_1).f0.f0) ((rd_T34 l1_1 x7_1).f0.f1) true _ ?side1 ?side2 A111.out).mono ?_); (case side1 => exact Kd.C_below HR0_0.out (bw5 HB.out GE194.out GE195.out GE196.out GE200.out GE217.out)); (case side2 => exact HC0_0.out); rintro e w126 ⟨rfl, hb⟩; refine ⟨_, rfl, ?_⟩; replace HO_201000 := Aside0.mk (Kd.R_below (by (with_reducible repeat (first | apply Kd.R_alloc | apply Kd.R_drewN | apply Kd.R_drew)); exact (Kd.R_mono (Kd.R_far (p := ⟨gb217, 1, none⟩) (Kd.R_far (p := ⟨gb217, 0, none⟩) (Kd.R_types HO_201000.out BK217.out (by decide)) (fun _ hk => hk.2) (.int .i64 ((rd_T34 l1_1 x7_1).f0.f0))) (fun _ hk => hk.2) (.int .i64 ((rd_T34 l1_1 x7_1).f0.f1))) (fun _ h_ => h_.1))) hb); replace HO_201001 := Aside0.mk (Kd.R_below (by (with_reducible repeat (first | apply Kd.R_alloc | apply Kd.R_drewN | apply Kd.R_drew)); exact (Kd.R_mono (Kd.R_far (p := ⟨gb217, 1, none⟩) (Kd.R_far (p := ⟨gb217, 0, none⟩) (Kd.R_types HO_201001.out BK217.out (by decide)) (fun _ hk => hk.2) (.int .i64 ((rd_T34 l1_1 x7_1).f0.f0))) (fun _ hk => hk.2) (.int .i64 ((rd_T34 l1_1 x7_1).f0.f1))) (fun _ h_ => h_.1))) hb); replace BK194 := Aside0.mk (blk_below (g := gb194) (o := .cells #[.slice A0_0 l0_0.length c0_0, .slice A0_1 l0_1.length c0_1] 28 (0, 0)) (by (with_reducible repeat (first | refine blk_drewN ?_ _ | refine blk_drew ?_ | refine blk_alloc ?_ _)); refine blk_far ?_ NB194_217.out _; (with_reducible repeat (first | refine blk_drewN ?_ _ | refine blk_drew ?_ | refine blk_alloc ?_ _)); refine blk_far ?_ NB194_217.out _; (with_reducible repeat (first | refine blk_drewN ?_ _ | refine blk_drew ?_ | refine blk_alloc ?_ _)); exact BK194.out) hb); replace BK195 := Aside0.mk (blk_below (g := gb195) (o := .cells #[.slice A1_0 l1_0.length c1_0, .slice (some ad216) l1_1.length c1_1] 28 (0, 0)) (by (with_reducible repeat (first | refine blk_drewN ?_ _ | refine blk_drew ?_ | refine blk_alloc ?_ _)); refine blk_far ?_ NB195_217.out _; (with_reducible repeat (first | refine blk_drewN ?_ _ | refine blk_drew ?_ | refine blk_alloc ?_ _)); refine blk_far ?_ NB195_217.out _; (with_reducible repeat (first | refine blk_drewN ?_ _ | refine blk_drew ?_ | refine blk_alloc ?_ _)); exact BK195.out) hb); replace BK196 := Aside0.mk (blk_below (g := gb196) (o := .cells #[.slice none 0 0, .slice none 0 0] 28 (0, 0)) (by (with_reducible repeat (first | refine blk_drewN ?_ _ | refine blk_drew ?_ | refine blk_alloc ?_ _)); refine blk_far ?_ NB196_217.out _; (with_reducible repeat (first | refine blk_drewN ?_ _ | refine blk_drew ?_ | refine blk_alloc ?_ _)); refine blk_far ?_ NB196_217.out _; (with_reducible repeat (first | refine blk_drewN ?_ _ | refine blk_drew ?_ | refine blk_alloc ?_ _)); exact BK196.out) hb); replace BK200 := Aside0.mk (blk_below (g := gb200) (o := .cells #[.slice Ao13 t197.length co13, u201001] 28 (0, 0)) (by (with_reducible repeat (first | refine blk_drewN ?_ _ | refine blk_drew ?_ | refine blk_alloc ?_ _)); refine blk_far ?_ NB200_217.out _; (with_reducible repeat (first | refine blk_drewN ?_ _ | refine blk_drew ?_ | refine blk_alloc ?_ _)); refine blk_far ?_ NB200_217.out _; (with_reducible repeat (first | refine blk_drewN ?_ _ | refine blk_drew ?_ | refine blk_alloc ?_ _)); exact BK200.out) hb); replace BK217 := Aside0.mk (blk_below (g := gb217) (o := .cells #[.int .i64 ((rd_T34 l1_1 x7_1).f0.f0), .int .i64 ((rd_T34 l1_1 x7_1).f0.f1)] 32 (0, 0)) (by (with_reducible repeat (first | refine blk_drewN ?_ _ | refine blk_drew ?_ | refine blk_alloc ?_ _)); refine blk_put (cs := #[.int .i64 ((rd_T34 l1_1 x7_1).f0.f0), .int .i64 0]) ?_ 1 _ rfl; (with_reducible repeat (first | refine blk_drewN ?_ _ | refine blk_drew ?_ | refine blk_alloc ?_ _)); refine blk_put (cs := #[.int .i64 0, .int .i64 0]) ?_ 0 _ rfl; (with_reducible repeat (first | refine blk_drewN ?_ _ | refine blk_drew ?_ | refine blk_alloc ?_ _)); exact BK217.out) hb); replace HB := Aside0.mk (below_step (bw5 HB.out GE194.out GE195.out GE196.out GE200.out GE217.out) hb); (try clear hb); (try clear hb2); (try clear hk); (try clear hi)))
          go_roundg kj32
          case measure => have := HK1.out; have := HJ18.out; have := HJ32.out; omega
          case rel => exact ⟨(x6_1), (wrap64 (x7_1 + 1)), (x201001_1), (u201001), ok_, ok_, H', ⟨by have := HK1.out; have := HJ18.out; have := HJ32.out; omega⟩, ⟨rk HO_201000.out⟩, ⟨rk HO_201001.out⟩, ⟨bk BK194.out⟩, ⟨bk BK195.out⟩, ⟨bk BK196.out⟩, ⟨bk BK200.out⟩, ⟨bw5 HB.out GE194.out GE195.out GE196.out GE200.out GE217.out⟩⟩
         ·
          replace c112 := Bool.eq_false_iff.mpr c112
          subst c112
          have H1 : (if x201001_1.length < 2199023255552 then (deaddropref7_Join.l0 kj32 x6_1 (wrap64 (x7_1 + 1)) l0_0 l0_1 l1_0 l1_1 t197 (x201001_1 ++ [(⟨(⟨(rd_T34 l1_1 x7_1).f0.f0, (rd_T34 l1_1 x7_1).f0.f1⟩ : S32), (rd_T34 l1_1 x7_1).f1, (rd_T34 l1_1 x7_1).f2, (rd_T34 l1_1 x7_1).f3, (rd_T34 l1_1 x7_1).f4⟩ : S34)])) else (none)) = some (r1, r2) := by rw [if_neg (show ¬ (false = true) by decide)] at H; exact H
          clear H
          have H := H1
          clear H1
          by_cases c127 : x201001_1.length < 2199023255552
          rotate_left
          ·
           rw [if_neg c127] at H
           exact absurd H (by simp)
          rw [if_pos c127] at H
          have LMc127 := Aside0.mk c127
          clear c127
          obtain ⟨y220, hy220⟩ : ∃ y_ : List (S34), y_ = (x201001_1 ++ [(⟨(⟨(rd_T34 l1_1 x7_1).f0.f0, (rd_T34 l1_1 x7_1).f0.f1⟩ : S32), (rd_T34 l1_1 x7_1).f1, (rd_T34 l1_1 x7_1).f2, (rd_T34 l1_1 x7_1).f3, (rd_T34 l1_1 x7_1).f4⟩ : S34)]) := ⟨_, rfl⟩
          replace H : (deaddropref7_Join.l0 kj32 x6_1 (wrap64 (x7_1 + 1)) l0_0 l0_1 l1_0 l1_1 t197 y220) = some (r1, r2) := by first | (rw [hy220]; with_reducible exact H) | (have H2_ := (Option.bind_some _ _).symm.trans H; rw [hy220]; with_reducible exact H2_) | (have H2_ := (Option.bind_some _ _).symm.trans H; with_reducible exact H2_) | with_reducible exact H | (rw [hy220]; exact H) | exact H
          have Ny220 := Aside0.mk hy220
          clear hy220
          have H' := Aside0.mk H
          clear H
          have hnb128 := NB195_194.out
          have hnc128 := NB194_195.out
          have hnb129 := NB195_196.out
          have hnc129 := NB196_195.out
          have hnb130 := NB195_200.out
          have hnc130 := NB200_195.out
          obtain ⟨hcz131_0, hcz131_1⟩ := bx2 BK195.out
          obtain ⟨hfz131_0, hfz131_1⟩ := bf2 BK195.out
          have p216 : 0 ≤ (x7_1 : Int) := of_decide_eq_true as_
          have q216 : x7_1 < (l1_1.length : Int) := of_decide_eq_true as_
          obtain ⟨ad216, e216, hx216_0, hx216_1, hx216_2, hx216_3, hx216_4, hx216_5⟩ := at_T34 HR1_1.out x7_1 p216 q216
          cases e216
          replace hx216_0 := (HB.out.cell (World.block_lt_of_cell? w _ hx216_0)).trans hx216_0
          replace hx216_1 := (HB.out.cell (World.block_lt_of_cell? w _ hx216_1)).trans hx216_1
          replace hx216_2 := (HB.out.cell (World.block_lt_of_cell? w _ hx216_2)).trans hx216_2
          replace hx216_3 := (HB.out.cell (World.block_lt_of_cell? w _ hx216_3)).trans hx216_3
          replace hx216_4 := (HB.out.cell (World.block_lt_of_cell? w _ hx216_4)).trans hx216_4
          replace hx216_5 := (HB.out.cell (World.block_lt_of_cell? w _ hx216_5)).trans hx216_5
          replace p216 := eq_true p216
          replace q216 := eq_true q216
          try go_wp2_with (first | ((with_reducible refine gate_dst (N := 9) rfl ?_); (try (refine gate_guard (by rfl) ?_; dsimp only)); refine box_event ?hg (N := 9) ?hd (cs := #[.int .i64 0, .int .i64 0]) (t := 32) ?hr ?_; (case hd => rfl); (case hg => rfl); (case hr => first | (go_simp; done) | (go_simp; rfl)); intro gb217 hg w132 hbox hb; replace HO_201000 := Aside0.mk (Kd.R_below (rk HO_201000.out) hb); replace HO_201001 := Aside0.mk (Kd.R_below (rk HO_201001.out) hb); have BK217 := Aside0.mk (hbox); have GW217 := Aside0.mk ((by rw [hg]; exact (below_size (bw4 HB.out GE194.out GE195.out GE196.out GE200.out)) : w.heap.size ≤ gb217)); have GE217 := GW217; replace HB := Aside0.mk (below_step (bw4 HB.out GE194.out GE195.out GE196.out GE200.out) hb); have NB194_217 := Aside0.mk (nbl BK194.out hg); have NB217_194 := Aside0.mk (nbg BK194.out hg); replace BK194 := Aside0.mk (bkb BK194.out hb); have NB195_217 := Aside0.mk (nbl BK195.out hg); have NB217_195 := Aside0.mk (nbg BK195.out hg); replace BK195 := Aside0.mk (bkb BK195.out hb); have NB196_217 := Aside0.mk (nbl BK196.out hg); have NB217_196 := Aside0.mk (nbg BK196.out hg); replace BK196 := Aside0.mk (bkb BK196.out hb); have NB200_217 := Aside0.mk (nbl BK200.out hg); have NB217_200 := Aside0.mk (nbg BK200.out hg); replace BK200 := Aside0.mk (bkb BK200.out hb); clear hb hbox hg; have hnb133 := NB217_194.out; have hnc133 := NB194_217.out; have hnb134 := NB217_195.out; have hnc134 := NB195_217.out; have hnb135 := NB217_196.out; have hnc135 := NB196_217.out; have hnb136 := NB217_200.out; have hnc136 := NB200_217.out; obtain ⟨hcz137_0, hcz137_1⟩ := bx2 BK217.out; obtain ⟨hfz137_0, hfz137_1⟩ := bf2 BK217.out; have hnb138 := NB194_196.out; have hnc138 := NB196_194.out; have hnb139 := NB194_200.out; have hnc139 := NB200_194.out; obtain ⟨hcz140_0, hcz140_1⟩ := bx2 BK194.out; obtain ⟨hfz140_0, hfz140_1⟩ := bf2 BK194.out) | ((with_reducible refine gate_callee (f := 25) rfl ?_); refine goesL_ (some 93) rfl rfl Try.func25 (by kernel_rfl) rfl #[.slice A0_0 l0_0.length c0_0, .agg #[.int .i64 ((rd_T34 l1_1 x7_1).f0.f0), .int .i64 ((rd_T34 l1_1 x7_1).f0.f1)]] rfl ar_ ?_; (with_reducible refine (deaddropref7_Has.calls kj32 _ _ l0_0 ((rd_T34 l1_1 x7_1).f0.f0) ((rd_T34 l1_1 x7_1).f0.f1) false _ ?side1 ?side2 A111.out).mono ?_); (case side1 => exact Kd.C_below HR0_0.out (bw5 HB.out GE194.out GE195.out GE196.out GE200.out GE217.out)); (case side2 => exact HC0_0.out); rintro e w141 ⟨rfl, hb⟩; refine ⟨_, rfl, ?_⟩; replace HO_201000 := Aside0.mk (Kd.R_below (by (with_reducible repeat (first | apply Kd.R_alloc | apply Kd.R_drewN | apply Kd.R_drew)); exact (Kd.R_mono (Kd.R_far (p := ⟨gb217, 1, none⟩) (Kd.R_far (p := ⟨gb217, 0, none⟩) (Kd.R_types HO_201000.out BK217.out (by decide)) (fun _ hk => hk.2) (.int .i64 ((rd_T34 l1_1 x7_1).f0.f0))) (fun _ hk => hk.2) (.int .i64 ((rd_T34 l1_1 x7_1).f0.f1))) (fun _ h_ => h_.1))) hb); replace HO_201001 := Aside0.mk (Kd.R_below (by (with_reducible repeat (first | apply Kd.R_alloc | apply Kd.R_drewN | apply Kd.R_drew)); exact (Kd.R_mono (Kd.R_far (p := ⟨gb217, 1, none⟩) (Kd.R_far (p := ⟨gb217, 0, none⟩) (Kd.R_types HO_201001.out BK217.out (by decide)) (fun _ hk => hk.2) (.int .i64 ((rd_T34 l1_1 x7_1).f0.f0))) (fun _ hk => hk.2) (.int .i64 ((rd_T34 l1_1 x7_1).f0.f1))) (fun _ h_ => h_.1))) hb); replace BK194 := Aside0.mk (blk_below (g := gb194) (o := .cells #[.slice A0_0 l0_0.length c0_0, .slice A0_1 l0_1.length c0_1] 28 (0, 0)) (by (with_reducible repeat (first | refine blk_drewN ?_ _ | refine blk_drew ?_ | refine blk_alloc ?_ _)); refine blk_far ?_ NB194_217.out _; (with_reducible repeat (first | refine blk_drewN ?_ _ | refine blk_drew ?_ | refine blk_alloc ?_ _)); refine blk_far ?_ NB194_217.out _; (with_reducible repeat (first | refine blk_drewN ?_ _ | refine blk_drew ?_ | refine blk_alloc ?_ _)); exact BK194.out) hb); replace BK195 := Aside0.mk (blk_below (g := gb195) (o := .cells #[.slice A1_0 l1_0.length c1_0, .slice (some ad216) l1_1.length c1_1] 28 (0, 0)) (by (with_reducible repeat (first | refine blk_drewN ?_ _ | refine blk_drew ?_ | refine blk_alloc ?_ _)); refine blk_far ?_ NB195_217.out _; (with_reducible repeat (first | refine blk_drewN ?_ _ | refine blk_drew ?_ | refine blk_alloc ?_ _)); refine blk_far ?_ NB195_217.out _; (with_reducible repeat (first | refine blk_drewN ?_ _ | refine blk_drew ?_ | refine blk_alloc ?_ _)); exact BK195.out) hb); replace BK196 := Aside0.mk (blk_below (g := gb196) (o := .cells #[.slice none 0 0, .slice none 0 0] 28 (0, 0)) (by (with_reducible repeat (first | refine blk_drewN ?_ _ | refine blk_drew ?_ | refine blk_alloc ?_ _)); refine blk_far ?_ NB196_217.out _; (with_reducible repeat (first | refine blk_drewN ?_ _ | refine blk_drew ?_ | refine blk_alloc ?_ _)); refine blk_far ?_ NB196_217.out _; (with_reducible repeat (first | refine blk_drewN ?_ _ | refine blk_drew ?_ | refine blk_alloc ?_ _)); exact BK196.out) hb); replace BK200 := Aside0.mk (blk_below (g := gb200) (o := .cells #[.slice Ao13 t197.length co13, u201001] 28 (0, 0)) (by (with_reducible repeat (first | refine blk_drewN ?_ _ | refine blk_drew ?_ | refine blk_alloc ?_ _)); refine blk_far ?_ NB200_217.out _; (with_reducible repeat (first | refine blk_drewN ?_ _ | refine blk_drew ?_ | refine blk_alloc ?_ _)); refine blk_far ?_ NB200_217.out _; (with_reducible repeat (first | refine blk_drewN ?_ _ | refine blk_drew ?_ | refine blk_alloc ?_ _)); exact BK200.out) hb); replace BK217 := Aside0.mk (blk_below (g := gb217) (o := .cells #[.int .i64 ((rd_T34 l1_1 x7_1).f0.f0), .int .i64 ((rd_T34 l1_1 x7_1).f0.f1)] 32 (0, 0)) (by (with_reducible repeat (first | refine blk_drewN ?_ _ | refine blk_drew ?_ | refine blk_alloc ?_ _)); refine blk_put (cs := #[.int .i64 ((rd_T34 l1_1 x7_1).f0.f0), .int .i64 0]) ?_ 1 _ rfl; (with_reducible repeat (first | refine blk_drewN ?_ _ | refine blk_drew ?_ | refine blk_alloc ?_ _)); refine blk_put (cs := #[.int .i64 0, .int .i64 0]) ?_ 0 _ rfl; (with_reducible repeat (first | refine blk_drewN ?_ _ | refine blk_drew ?_ | refine blk_alloc ?_ _)); exact BK217.out) hb); replace HB := Aside0.mk (below_step (bw5 HB.out GE194.out GE195.out GE196.out GE200.out GE217.out) hb); (try clear hb); (try clear hb2); (try clear hk); (try clear hi)))
          replace HO_201000 := Aside0.mk (Kd.R_drew HO_201000.out)
          replace HO_201001 := Aside0.mk (Kd.R_drew HO_201001.out)
          replace BK194 := Aside0.mk (blk_drew BK194.out)
          replace BK195 := Aside0.mk (blk_drew BK195.out)
          replace BK196 := Aside0.mk (blk_drew BK196.out)
          replace BK200 := Aside0.mk (blk_drew BK200.out)
          replace BK217 := Aside0.mk (blk_drew BK217.out)
          replace HB := Aside0.mk (below_drew1 HB.out)
          have p219 : 0 ≤ (x7_1 : Int) := of_decide_eq_true as_
          have q219 : x7_1 < (l1_1.length : Int) := of_decide_eq_true as_
          obtain ⟨ad219, e219, hx219_0, hx219_1, hx219_2, hx219_3, hx219_4, hx219_5⟩ := at_T34 HR1_1.out x7_1 p219 q219
          have hw219_5 := hx219_5
          have hw219_4 := hx219_4
          have hw219_3 := hx219_3
          have hw219_2 := hx219_2
          have hw219_1 := hx219_1
          have hw219_0 := hx219_0
          obtain rfl : ad216 = ad219 := (by injection e219)
          replace hx219_0 := (HB.out.cell (World.block_lt_of_cell? w _ hx219_0)).trans hx219_0
          replace hx219_1 := (HB.out.cell (World.block_lt_of_cell? w _ hx219_1)).trans hx219_1
          replace hx219_2 := (HB.out.cell (World.block_lt_of_cell? w _ hx219_2)).trans hx219_2
          replace hx219_3 := (HB.out.cell (World.block_lt_of_cell? w _ hx219_3)).trans hx219_3
          replace hx219_4 := (HB.out.cell (World.block_lt_of_cell? w _ hx219_4)).trans hx219_4
          replace hx219_5 := (HB.out.cell (World.block_lt_of_cell? w _ hx219_5)).trans hx219_5
          replace p219 := eq_true p219
          replace q219 := eq_true q219
          refine start_ (n := 11) (S := fun w' => w'.cell? ⟨gb200, 0, none⟩ = some (.slice Ao13 t197.length co13) ∧ w'.cell? ⟨gb200, 1, none⟩ = some (u201001) ∧ w'.cell? ⟨gb195, 0, none⟩ = some (.slice A1_0 l1_0.length c1_0) ∧ w'.cell? ⟨gb195, 1, none⟩ = some (.slice (some ad216) l1_1.length c1_1) ∧ w'.cell? (ad216.add ((x7_1).toNat * 6)) = some (.int .i64 ((rd_T34 l1_1 x7_1).f0.f0)) ∧ w'.cell? ⟨(ad216.add ((x7_1).toNat * 6)).block, (ad216.add ((x7_1).toNat * 6)).off + 1, none⟩ = some (.int .i64 ((rd_T34 l1_1 x7_1).f0.f1)) ∧ w'.cell? ⟨(ad216.add ((x7_1).toNat * 6)).block, (ad216.add ((x7_1).toNat * 6)).off + 2, none⟩ = some (.string ((rd_T34 l1_1 x7_1).f1)) ∧ w'.cell? ⟨(ad216.add ((x7_1).toNat * 6)).block, (ad216.add ((x7_1).toNat * 6)).off + 3, none⟩ = some (.int .i64 ((rd_T34 l1_1 x7_1).f2)) ∧ w'.cell? ⟨(ad216.add ((x7_1).toNat * 6)).block, (ad216.add ((x7_1).toNat * 6)).off + 4, none⟩ = some (.string ((rd_T34 l1_1 x7_1).f3)) ∧ w'.cell? ⟨(ad216.add ((x7_1).toNat * 6)).block, (ad216.add ((x7_1).toNat * 6)).off + 5, none⟩ = some (.int .i64 ((rd_T34 l1_1 x7_1).f4))) (ds := [10]) (fl 0 11) (by kernel_rfl) rfl rfl ⟨(blk_cell BK200.out 0).trans rfl, (blk_cell BK200.out 1).trans rfl, (blk_cell BK195.out 0).trans rfl, (blk_cell BK195.out 1).trans rfl, (bc HB.out hw219_0), (bc HB.out hw219_1), (bc HB.out hw219_2), (bc HB.out hw219_3), (bc HB.out hw219_4), (bc HB.out hw219_5)⟩ (fun hHeld => ?_); refine with_tabW deaddropref7_Join.tab11 deaddropref7_Join.bits11 (fun HT_ HW_ => ?_)
          generalize w141.drew = w142 at HO_201000 HO_201001 BK194 BK195 BK196 BK200 BK217 HB hx219_0 hx219_1 hx219_2 hx219_3 hx219_4 hx219_5 hHeld ⊢
          refine pure_ (i := 0) (N := some 95) (fl 1 11) rfl rfl (any_of HT_.out (by kernel_rfl)) (fun _ _ _ h => h) (Or.inl ⟨by rfl, py⟩) pa ?_
          refine pure_ (i := 2) (N := some 97) #[true, false, true, false, false, false, false, false, false, false, false] rfl rfl (any_of HT_.out (by kernel_rfl)) (fun _ _ _ h => h) (Or.inl ⟨by rfl, py⟩) pa ?_
          refine pure_ (i := 4) (N := some 99) #[true, false, true, false, true, false, false, false, false, false, false] rfl rfl (any_of HT_.out (by kernel_rfl)) (fun _ _ _ h => h) (Or.inl ⟨by rfl, py⟩) pa ?_
          refine take_ (i := 1) (N := some 96) #[true, true, true, false, true, false, false, false, false, false, false] rfl rfl (take_ofW HT_.out HW_.out (by kernel_rfl)) (fun _ _ _ h => h) (Or.inl ⟨by rfl, tk⟩) hHeld pa ?_
          refine take_ (i := 3) (N := some 98) (fl 5 11) rfl rfl (take_ofW HT_.out HW_.out (by kernel_rfl)) (fun _ _ _ h => h) (Or.inl ⟨by rfl, tk⟩) hHeld pa ?_
          refine pure_ (i := 5) (N := some 100) (fl 6 11) rfl rfl (any_of HT_.out (by kernel_rfl)) (fun _ _ _ h => h) (Or.inl ⟨by rfl, py⟩) pa ?_
          refine take_ (i := 6) (N := some 101) (fl 7 11) rfl rfl (take_ofW HT_.out HW_.out (by kernel_rfl)) (fun _ _ _ h => h) (Or.inl ⟨by rfl, tk⟩) hHeld pa ?_
          refine one_ (i := 7) (N := some 102) (fl 8 11) rfl rfl (one_of HT_.out (by kernel_rfl)) (by decide) (fun K hK => ?_)
          refine value_ (w1 := ?_) (v := ?_) (by rfl) rfl ?_ ?_
          rotate_left 2
          ·
           go_simp
           constructor
           ·
            rfl
           ·
            rfl
          refine hK.out _ _ ⟨(blk_cell (blk_alloc BK200.out _) 0).trans rfl, (blk_cell (blk_alloc BK200.out _) 1).trans rfl, (blk_cell (blk_alloc BK195.out _) 0).trans rfl, (blk_cell (blk_alloc BK195.out _) 1).trans rfl, (World.cell?_alloc_lt _ _ _ (World.block_lt_of_cell? _ _ ((bc HB.out hw219_0)))).trans ((bc HB.out hw219_0)), (World.cell?_alloc_lt _ _ _ (World.block_lt_of_cell? _ _ ((bc HB.out hw219_1)))).trans ((bc HB.out hw219_1)), (World.cell?_alloc_lt _ _ _ (World.block_lt_of_cell? _ _ ((bc HB.out hw219_2)))).trans ((bc HB.out hw219_2)), (World.cell?_alloc_lt _ _ _ (World.block_lt_of_cell? _ _ ((bc HB.out hw219_3)))).trans ((bc HB.out hw219_3)), (World.cell?_alloc_lt _ _ _ (World.block_lt_of_cell? _ _ ((bc HB.out hw219_4)))).trans ((bc HB.out hw219_4)), (World.cell?_alloc_lt _ _ _ (World.block_lt_of_cell? _ _ ((bc HB.out hw219_5)))).trans ((bc HB.out hw219_5))⟩ (fun hHeld => ?_)
          clear hK K
          refine norm_ (a' := ?_) ?_ ?_
          rotate_left
          ·
           show Act.put _ (some 102) _ = _
           simp only [Act.put, List.setIfInBounds_toArray, List.set_cons_zero, List.set_cons_succ, i64_w, i32_w]
           rfl
          refine one_ (i := 8) (N := some 103) (fl 9 11) rfl rfl (one_of HT_.out (by kernel_rfl)) (by decide) (fun K hK => ?_)
          refine Kd.R_append_step k34 (w0 := w) w.heap.size (by rfl) (.tmp 96) (.tmp 102) 26 34 (.agg #[(.int .i64 0), (.int .i64 0), (.string ⟨#[]⟩), (.int .i64 0), (.string ⟨#[]⟩), (.int .i64 0)]) 64 rfl Try.underlying26 info34 rfl (by decide) (by omega) u201001 x201001_1 (⟨(⟨(rd_T34 l1_1 x7_1).f0.f0, (rd_T34 l1_1 x7_1).f0.f1⟩ : S32), (rd_T34 l1_1 x7_1).f1, (rd_T34 l1_1 x7_1).f2, (rd_T34 l1_1 x7_1).f3, (rd_T34 l1_1 x7_1).f4⟩ : S34) [.int .i64 ((rd_T34 l1_1 x7_1).f0.f0), .int .i64 ((rd_T34 l1_1 x7_1).f0.f1), .string ((rd_T34 l1_1 x7_1).f1), .int .i64 ((rd_T34 l1_1 x7_1).f2), .string ((rd_T34 l1_1 x7_1).f3), .int .i64 ((rd_T34 l1_1 x7_1).f4)] (fun _ => True) (fun _ => False) rfl rfl ?aP (fun _ hk => hk.elim) ?aF ?aO ?aB ?aS ?aL ?_
          (case aP => exact k34_mkM _ _ _ (⟨(⟨(rd_T34 l1_1 x7_1).f0.f0, (rd_T34 l1_1 x7_1).f0.f1⟩ : S32), (rd_T34 l1_1 x7_1).f1, (rd_T34 l1_1 x7_1).f2, (rd_T34 l1_1 x7_1).f3, (rd_T34 l1_1 x7_1).f4⟩ : S34))
          (case aB => exact (bw5 HB.out GE194.out GE195.out GE196.out GE200.out GE217.out))
          (case aF => exact (fun _ _ => trivial))
          (case aO => exact (rk HO_201001.out))
          (case aS => exact (below_size (bw5 HB.out GE194.out GE195.out GE196.out GE200.out GE217.out)))
          (case aL => have := LMc127.out; omega)
          intro v221 w143 ho hb hg hat
          rw [← Ny220.out] at ho
          replace HO_201000 := Aside0.mk (Kd.R_over' (rk HO_201000.out) (Kd.R_typed (rk HO_201001.out)) (by decide) hg)
          replace BK194 := Aside0.mk (bkg BK194.out hg (Kd.R_ne HO_201001.out BK194.out (by decide)))
          replace BK195 := Aside0.mk (bkg BK195.out hg (Kd.R_ne HO_201001.out BK195.out (by decide)))
          replace BK196 := Aside0.mk (bkg BK196.out hg (Kd.R_ne HO_201001.out BK196.out (by decide)))
          replace BK200 := Aside0.mk (bkg BK200.out hg (Kd.R_ne HO_201001.out BK200.out (by decide)))
          replace BK217 := Aside0.mk (bkg BK217.out hg (Kd.R_ne HO_201001.out BK217.out (by decide)))
          replace HB := Aside0.mk (hb)
          have HO222 := Aside0.mk (ho)
          clear HO_201001
          clear ho hb hg hat
          obtain ⟨Ao144, co144, eo144⟩ := Kd.R_slice HO222.out
          (first | subst eo144 | (injection eo144 with f1_ f2_ f3_; have f4_ := f1_.symm; have f5_ := f3_.symm; clear f1_ f2_ f3_; subst f4_; subst f5_))
          refine hK.out _ _ ⟨(blk_cell BK200.out 0).trans rfl, (blk_cell BK200.out 1).trans rfl, (blk_cell BK195.out 0).trans rfl, (blk_cell BK195.out 1).trans rfl, (bc HB.out hw219_0), (bc HB.out hw219_1), (bc HB.out hw219_2), (bc HB.out hw219_3), (bc HB.out hw219_4), (bc HB.out hw219_5)⟩ (fun hHeld => ?_)
          clear hK K
          refine norm_ (a' := ?_) ?_ ?_
          rotate_left
          ·
           show Act.put _ (some 103) _ = _
           simp only [Act.put, List.setIfInBounds_toArray, List.set_cons_zero, List.set_cons_succ, i64_w, i32_w]
           rfl
          refine pure_ (i := 9) (N := some 104) (fl 10 11) rfl rfl (any_of HT_.out (by kernel_rfl)) (fun _ _ _ h => h) (Or.inl ⟨by rfl, py⟩) pa ?_
          refine last_ (i := 10) (N := none) (fl 11 11) rfl rfl (one_of HT_.out (by kernel_rfl)) (by decide) (fun K hK => ?_)
          have hs145 : w143.cell? ⟨gb200, 1, none⟩ = some (u201001) := (blk_cell BK200.out 1).trans rfl
          have hfs145 := blk_frozen BK200.out 1
          have hns145_0 := NB194_200.out
          have hns145_1 := NB195_200.out
          have hns145_2 := NB196_200.out
          have hns145_4 := NB217_200.out
          have hms145_0 := NB200_194.out
          have hms145_1 := NB200_195.out
          have hms145_2 := NB200_196.out
          have hms145_4 := NB200_217.out
          refine skip_ (w1 := ?_) (by rfl) rfl ?_ ?_
          rotate_left
          ·
           go_simp
           rfl
          refine hK.out _ _ ?_
          clear hK K
          refine done_ (done_of HT_.out (by kernel_rfl)) ?_
          try go_wp2
          go_roundg kj32
          case measure => have := HK1.out; have := HJ18.out; have := HJ32.out; omega
          case rel => exact ⟨(x6_1), (wrap64 (x7_1 + 1)), (y220), (.slice Ao144 y220.length co144), ok_, ok_, H', ⟨by have := HK1.out; have := HJ18.out; have := HJ32.out; omega⟩, ⟨by (with_reducible repeat (first | apply Kd.R_alloc | apply Kd.R_drewN | apply Kd.R_drew)); exact Kd.R_mono (Kd.R_far (p := ⟨gb200, 1, none⟩) (Kd.R_types HO_201000.out BK200.out (by decide)) (fun _ hk => hk.2) (.slice Ao144 y220.length co144)) (fun _ hk => trivial)⟩, ⟨by (with_reducible repeat (first | apply Kd.R_alloc | apply Kd.R_drewN | apply Kd.R_drew)); exact Kd.R_mono (Kd.R_far (p := ⟨gb200, 1, none⟩) (Kd.R_types HO222.out BK200.out (by decide)) (fun _ hk => hk.2) (.slice Ao144 y220.length co144)) (fun _ hk => trivial)⟩, ⟨by (with_reducible repeat (first | refine blk_drewN ?_ _ | refine blk_drew ?_ | refine blk_alloc ?_ _)); refine blk_far ?_ NB194_200.out _; (with_reducible repeat (first | refine blk_drewN ?_ _ | refine blk_drew ?_ | refine blk_alloc ?_ _)); exact BK194.out⟩, ⟨by (with_reducible repeat (first | refine blk_drewN ?_ _ | refine blk_drew ?_ | refine blk_alloc ?_ _)); refine blk_far ?_ NB195_200.out _; (with_reducible repeat (first | refine blk_drewN ?_ _ | refine blk_drew ?_ | refine blk_alloc ?_ _)); exact BK195.out⟩, ⟨by (with_reducible repeat (first | refine blk_drewN ?_ _ | refine blk_drew ?_ | refine blk_alloc ?_ _)); refine blk_far ?_ NB196_200.out _; (with_reducible repeat (first | refine blk_drewN ?_ _ | refine blk_drew ?_ | refine blk_alloc ?_ _)); exact BK196.out⟩, ⟨by (with_reducible repeat (first | refine blk_drewN ?_ _ | refine blk_drew ?_ | refine blk_alloc ?_ _)); refine blk_put (cs := #[.slice Ao13 t197.length co13, u201001]) ?_ 1 _ rfl; (with_reducible repeat (first | refine blk_drewN ?_ _ | refine blk_drew ?_ | refine blk_alloc ?_ _)); exact BK200.out⟩, ⟨bw5 HB.out GE194.out GE195.out GE196.out GE200.out GE217.out⟩⟩
     ·
      replace c32 := Bool.eq_false_iff.mpr c32
      subst c32
      have H1 : (some (t197, x201001_1)) = some (r1, r2) := by rw [if_neg (show ¬ (false = true) by decide)] at H; exact H
      clear H
      have H := H1
      clear H1
      simp only [Option.some.injEq, Prod.mk.injEq] at H
      obtain ⟨rfl, rfl⟩ := H
      have hnb146 := NB200_194.out
      have hnc146 := NB194_200.out
      have hnb147 := NB200_195.out
      have hnc147 := NB195_200.out
      have hnb148 := NB200_196.out
      have hnc148 := NB196_200.out
      obtain ⟨hcz149_0, hcz149_1⟩ := bx2 BK200.out
      obtain ⟨hfz149_0, hfz149_1⟩ := bf2 BK200.out
      have hnb150 := NB196_194.out
      have hnc150 := NB194_196.out
      have hnb151 := NB196_195.out
      have hnc151 := NB195_196.out
      obtain ⟨hcz152_0, hcz152_1⟩ := bx2 BK196.out
      obtain ⟨hfz152_0, hfz152_1⟩ := bf2 BK196.out
      obtain ⟨Ao153, co153, eo153⟩ := Kd.R_slice HO_201001.out
      subst eo153
      go_wp2
      refine bodyPost_ret (results_cell_row rfl _ _ gb196 28 #[.slice Ao13 t197.length co13, .slice Ao153 x201001_1.length co153] (0, 0) _ rfl (by (with_reducible repeat (first | refine blk_drewN ?_ _ | refine blk_drew ?_ | refine blk_alloc ?_ _)); refine blk_put (cs := #[.slice Ao13 t197.length co13, .slice none 0 0]) ?_ 1 _ rfl; (with_reducible repeat (first | refine blk_drewN ?_ _ | refine blk_drew ?_ | refine blk_alloc ?_ _)); refine blk_put (cs := #[.slice none 0 0, .slice none 0 0]) ?_ 0 _ rfl; (with_reducible repeat (first | refine blk_drewN ?_ _ | refine blk_drew ?_ | refine blk_alloc ?_ _)); exact BK196.out) Try.underlying28 rfl (by kernel_rfl)) rfl ?_
      exact ⟨_, _, by first | rfl | (simp [errW_none, errW_some] <;> rfl) | (simp [*, errW_none, errW_some] <;> rfl), by (with_reducible repeat (first | apply Kd.R_alloc | apply Kd.R_drewN | apply Kd.R_drew)); exact Kd.R_mono (Kd.R_far (p := ⟨gb196, 1, none⟩) (Kd.R_far (p := ⟨gb196, 0, none⟩) (Kd.R_types HO_201000.out BK196.out (by decide)) (fun _ hk => hk.2) (.slice Ao13 t197.length co13)) (fun _ hk => hk.2) (.slice Ao153 x201001_1.length co153)) (fun _ hk => trivial), by (with_reducible repeat (first | apply Kd.R_alloc | apply Kd.R_drewN | apply Kd.R_drew)); exact Kd.R_mono (Kd.R_far (p := ⟨gb196, 1, none⟩) (Kd.R_far (p := ⟨gb196, 0, none⟩) (Kd.R_types HO_201001.out BK196.out (by decide)) (fun _ hk => hk.2) (.slice Ao13 t197.length co13)) (fun _ hk => hk.2) (.slice Ao153 x201001_1.length co153)) (fun _ hk => trivial), bw4 HB.out GE194.out GE195.out GE196.out GE200.out⟩

end Go.Proofs.Ytaonemedoikieaa.M
