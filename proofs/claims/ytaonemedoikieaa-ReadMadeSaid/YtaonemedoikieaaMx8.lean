-- Written by a program of this work (wip/tools/mkprint.py) over the kit's print; Lean checks it.
import Derived.Test.YtaonemedoikieaaMx0
import Derived.Test.YtaonemedoikieaaMx5
import Derived.Test.YtaonemedoikieaaMx6
import Derived.Test.YtaonemedoikieaaMx7
import Derived.Test.YtaonemedoikieaaHAbb2
namespace Go.Proofs.Ytaonemedoikieaa.M
open Go.RowKit Go.Proofs.YtaonemedoikieaaW.PrintWords Go.Proofs.YtaonemedoikieaaW.PrintLast Go.Proofs.YtaonemedoikieaaW.PrintMore Go.Proofs.Ytaonemedoikieaa.AB
attribute [local go_sem] max2_int min2_int max_two min_two max_three min_three max_four min_four   -- for this text's walks alone
set_option linter.unusedVariables false
set_option linter.unusedSimpArgs false

/-! ### deaddropref7_Do: function 13 -/
mutual
def deaddropref7_Do.j0 : Nat → Int → Bool → List (S70) → List (S34) → Int → ByteArray → ByteArray → Int → Option ((List (S70)) × (List (S34)) × Int)
 | 0, _, _, _, _, _, _, _, _ => none
 | k + 1, x1, x7, x247000, x247001, x248000, x248001, x248002, x248003 => if x1 < 0 then (none) else (if x1 ≥ 8 then (none) else (if x248000 < 1 then (none) else (if x248000 > 5 then (none) else (if (x248001.size : Int) > 40 then (none) else (if x7 = true then (if (x248002.size : Int) > 200 then (none) else (if x248000 = 4 then (if x248003 < (-1099511627776) then (none) else (deaddropref7_Do.j1 k x1 (decide (x248003 > 1099511627776)) x247000 x247001 x248000 x248001 x248002 x248003)) else (deaddropref7_Do.j1 k x1 false x247000 x247001 x248000 x248001 x248002 x248003))) else (if x248000 = 4 then (if x248003 < (-1099511627776) then (none) else (deaddropref7_Do.j1 k x1 (decide (x248003 > 1099511627776)) x247000 x247001 x248000 x248001 x248002 x248003)) else (deaddropref7_Do.j1 k x1 false x247000 x247001 x248000 x248001 x248002 x248003)))))))
def deaddropref7_Do.j1 : Nat → Int → Bool → List (S70) → List (S34) → Int → ByteArray → ByteArray → Int → Option ((List (S70)) × (List (S34)) × Int)
 | 0, _, _, _, _, _, _, _, _ => none
 | k + 1, x1, x71, x247000, x247001, x248000, x248001, x248002, x248003 => if x71 = true then (none) else (deaddropref7_Do.l0 k x1 ([] : List (S32)) x248003 0 x247000 x247001 x248000 x248001 x248002 x248003)
def deaddropref7_Do.l0 : Nat → Int → List (S32) → Int → Int → List (S70) → List (S34) → Int → ByteArray → ByteArray → Int → Option ((List (S70)) × (List (S34)) × Int)
 | 0, _, _, _, _, _, _, _, _, _, _ => none
 | k + 1, x1, x8, x9, x10, x247000, x247001, x248000, x248001, x248002, x248003 => if x10 < (x247001.length : Int) then (if 0 ≤ x10 then ((deaddropref7_goes.f k ((rd_T34 x247001 x10).f0.f0) ((rd_T34 x247001 x10).f0.f1) ((rd_T34 x247001 x10).f1) ((rd_T34 x247001 x10).f2) ((rd_T34 x247001 x10).f3) ((rd_T34 x247001 x10).f4) x1 x248000 x248001 x248002 x248003).bind fun t250 => (if t250 = true then (if x8.length < 8796093022208 then (deaddropref7_Do.l0 k x1 (x8 ++ [(⟨(rd_T34 x247001 x10).f0.f0, (rd_T34 x247001 x10).f0.f1⟩ : S32)]) (wrap64 (x9 + ((rd_T34 x247001 x10).f4))) (wrap64 (x10 + 1)) x247000 x247001 x248000 x248001 x248002 x248003) else (none)) else (deaddropref7_Do.l0 k x1 x8 x9 (wrap64 (x10 + 1)) x247000 x247001 x248000 x248001 x248002 x248003))) else (none)) else (if (x8.length : Int) = 0 then (if x248000 = 3 then (deaddropref7_Do.j3 k x1 x8 x9 true x247000 x247001 x248000 x248001 x248002 x248003) else (deaddropref7_Do.j3 k x1 x8 x9 (x248000 == 5) x247000 x247001 x248000 x248001 x248002 x248003)) else (deaddropref7_Do.j3 k x1 x8 x9 false x247000 x247001 x248000 x248001 x248002 x248003))
def deaddropref7_Do.j3 : Nat → Int → List (S32) → Int → Bool → List (S70) → List (S34) → Int → ByteArray → ByteArray → Int → Option ((List (S70)) × (List (S34)) × Int)
 | 0, _, _, _, _, _, _, _, _, _, _ => none
 | k + 1, x1, x8, x9, x119, x247000, x247001, x248000, x248001, x248002, x248003 => if x119 = true then (some (([] : List (S70)), ([] : List (S34)), 2)) else (if x248000 = 3 then (deaddropref7_Do.j4 k x1 x8 x9 false x247000 x247001 x248000 x248001 x248002 x248003) else (deaddropref7_Do.j4 k x1 x8 x9 (x248000 != 5) x247000 x247001 x248000 x248001 x248002 x248003))
def deaddropref7_Do.j4 : Nat → Int → List (S32) → Int → Bool → List (S70) → List (S34) → Int → ByteArray → ByteArray → Int → Option ((List (S70)) × (List (S34)) × Int)
 | 0, _, _, _, _, _, _, _, _, _, _ => none
 | k + 1, x1, x8, x9, x128, x247000, x247001, x248000, x248001, x248002, x248003 => if x128 = true then ((deaddropref7_Last.f k x247000 x1).bind fun t257 => (if x248000 = 4 then (deaddropref7_Do.j5 k x8 x247000 x247001 x1 (wrap64 (t257 + 1)) x248001 3 (⟨#[]⟩ : ByteArray) x9) else (deaddropref7_Do.j5 k x8 x247000 x247001 x1 (wrap64 (t257 + 1)) x248001 x248000 x248002 0))) else (deaddropref7_Do.j6 k x8 x247000 x247001 ([] : List (S34)))
def deaddropref7_Do.j6 : Nat → List (S32) → List (S70) → List (S34) → List (S34) → Option ((List (S70)) × (List (S34)) × Int)
 | 0, _, _, _, _ => none
 | k + 1, x8, x247000, x247001, x257001 => (deaddropref7_Of.f k x8).bind fun t265 => ((deaddropref7_Join.f k x247000 x247001 t265 x257001).bind fun bt268 => (if (bt268.2.length : Int) > 400 then (none) else (some (t265, x257001, 0))))
def deaddropref7_Do.j5 : Nat → List (S32) → List (S70) → List (S34) → Int → Int → ByteArray → Int → ByteArray → Int → Option ((List (S70)) × (List (S34)) × Int)
 | 0, _, _, _, _, _, _, _, _, _ => none
 | k + 1, x8, x247000, x247001, x259000, x259001, x259002, x259003, x259004, x259005 => if x259001 > 4503599627370496 then (none) else (if x259005 < (-1099511627776) then (some (([] : List (S70)), ([] : List (S34)), 4)) else (if x259005 > 1099511627776 then (some (([] : List (S70)), ([] : List (S34)), 4)) else (if x8.length < 8796093022208 then (deaddropref7_Do.j6 k (x8 ++ [(⟨x259000, x259001⟩ : S32)]) x247000 x247001 (([(⟨(⟨x259000, x259001⟩ : S32), x259002, x259003, x259004, x259005⟩ : S34)] : List (S34)))) else (none))))
end
def deaddropref7_Do.f (k : Nat) (l0_0 : List (S70)) (l0_1 : List (S34)) (a1 : Int) (a2_0 : Int) (a2_1 : ByteArray) (a2_2 : ByteArray) (a2_3 : Int) : Option ((List (S70)) × (List (S34)) × Int) := if a2_0 = 1 then (deaddropref7_Do.j0 k a1 true l0_0 l0_1 a2_0 a2_1 a2_2 a2_3) else (if a2_0 = 2 then (deaddropref7_Do.j0 k a1 true l0_0 l0_1 a2_0 a2_1 a2_2 a2_3) else (deaddropref7_Do.j0 k a1 (a2_0 == 3) l0_0 l0_1 a2_0 a2_1 a2_2 a2_3))
theorem deaddropref7_Do.mono_l : ∀ k, (∀ y0 y1 y2 y3 y4 y5 y6 y7, LeO (deaddropref7_Do.j0 k y0 y1 y2 y3 y4 y5 y6 y7) (deaddropref7_Do.j0 (k + 1) y0 y1 y2 y3 y4 y5 y6 y7)) ∧ (∀ y0 y1 y2 y3 y4 y5 y6 y7, LeO (deaddropref7_Do.j1 k y0 y1 y2 y3 y4 y5 y6 y7) (deaddropref7_Do.j1 (k + 1) y0 y1 y2 y3 y4 y5 y6 y7)) ∧ (∀ y0 y1 y2 y3 y4 y5 y6 y7 y8 y9, LeO (deaddropref7_Do.l0 k y0 y1 y2 y3 y4 y5 y6 y7 y8 y9) (deaddropref7_Do.l0 (k + 1) y0 y1 y2 y3 y4 y5 y6 y7 y8 y9)) ∧ (∀ y0 y1 y2 y3 y4 y5 y6 y7 y8 y9, LeO (deaddropref7_Do.j3 k y0 y1 y2 y3 y4 y5 y6 y7 y8 y9) (deaddropref7_Do.j3 (k + 1) y0 y1 y2 y3 y4 y5 y6 y7 y8 y9)) ∧ (∀ y0 y1 y2 y3 y4 y5 y6 y7 y8 y9, LeO (deaddropref7_Do.j4 k y0 y1 y2 y3 y4 y5 y6 y7 y8 y9) (deaddropref7_Do.j4 (k + 1) y0 y1 y2 y3 y4 y5 y6 y7 y8 y9)) ∧ (∀ y0 y1 y2 y3, LeO (deaddropref7_Do.j6 k y0 y1 y2 y3) (deaddropref7_Do.j6 (k + 1) y0 y1 y2 y3)) ∧ (∀ y0 y1 y2 y3 y4 y5 y6 y7 y8, LeO (deaddropref7_Do.j5 k y0 y1 y2 y3 y4 y5 y6 y7 y8) (deaddropref7_Do.j5 (k + 1) y0 y1 y2 y3 y4 y5 y6 y7 y8))
 | 0 => by refine ⟨?_, ?_, ?_, ?_, ?_, ?_, ?_⟩ <;> (intros; intro r h; simp [deaddropref7_Do.j0, deaddropref7_Do.j1, deaddropref7_Do.l0, deaddropref7_Do.j3, deaddropref7_Do.j4, deaddropref7_Do.j6, deaddropref7_Do.j5] at h)
 | k + 1 => by
  obtain ⟨ih0, ih1, ih2, ih3, ih4, ih5, ih6⟩ := deaddropref7_Do.mono_l k
  refine ⟨?_, ?_, ?_, ?_, ?_, ?_, ?_⟩ <;> intros <;> (first | unfold deaddropref7_Do.j0 | unfold deaddropref7_Do.j1 | unfold deaddropref7_Do.l0 | unfold deaddropref7_Do.j3 | unfold deaddropref7_Do.j4 | unfold deaddropref7_Do.j6 | unfold deaddropref7_Do.j5) <;>
  repeat' first
  | with_reducible (first | exact ih0 _ _ _ _ _ _ _ _ | exact ih1 _ _ _ _ _ _ _ _ | exact ih2 _ _ _ _ _ _ _ _ _ _ | exact ih3 _ _ _ _ _ _ _ _ _ _ | exact ih4 _ _ _ _ _ _ _ _ _ _ | exact ih5 _ _ _ _ | exact ih6 _ _ _ _ _ _ _ _ _ | exact deaddropref7_Join.mono _ _ _ _ _ | exact deaddropref7_Last.mono _ _ _ | exact deaddropref7_Of.mono _ _ | exact deaddropref7_goes.mono _ _ _ _ _ _ _ _ _ _ _ _ | exact LeO.refl _ | exact LeO.none _ | refine LeO.ite ?_ ?_ | refine LeO.bind ?_ (fun _ => ?_))
  | exact ih0 _ _ _ _ _ _ _ _ | exact ih1 _ _ _ _ _ _ _ _ | exact ih2 _ _ _ _ _ _ _ _ _ _ | exact ih3 _ _ _ _ _ _ _ _ _ _ | exact ih4 _ _ _ _ _ _ _ _ _ _ | exact ih5 _ _ _ _ | exact ih6 _ _ _ _ _ _ _ _ _ | exact deaddropref7_Join.mono _ _ _ _ _ | exact deaddropref7_Last.mono _ _ _ | exact deaddropref7_Of.mono _ _ | exact deaddropref7_goes.mono _ _ _ _ _ _ _ _ _ _ _ _ | exact LeO.none _ | refine LeO.ite ?_ ?_ | refine LeO.bind ?_ (fun _ => ?_)
theorem deaddropref7_Do.mono : ∀ a0 a1 a2 a3 a4 a5 a6 k, LeO (deaddropref7_Do.f k a0 a1 a2 a3 a4 a5 a6) (deaddropref7_Do.f (k + 1) a0 a1 a2 a3 a4 a5 a6) := by
 intro a0 a1 a2 a3 a4 a5 a6 k
 obtain ⟨ih0, ih1, ih2, ih3, ih4, ih5, ih6⟩ := deaddropref7_Do.mono_l k
 unfold deaddropref7_Do.f
 repeat' first
  | with_reducible (first | exact ih0 _ _ _ _ _ _ _ _ | exact ih1 _ _ _ _ _ _ _ _ | exact ih2 _ _ _ _ _ _ _ _ _ _ | exact ih3 _ _ _ _ _ _ _ _ _ _ | exact ih4 _ _ _ _ _ _ _ _ _ _ | exact ih5 _ _ _ _ | exact ih6 _ _ _ _ _ _ _ _ _ | exact deaddropref7_Join.mono _ _ _ _ _ | exact deaddropref7_Last.mono _ _ _ | exact deaddropref7_Of.mono _ _ | exact deaddropref7_goes.mono _ _ _ _ _ _ _ _ _ _ _ _ | exact LeO.refl _ | exact LeO.none _ | refine LeO.ite ?_ ?_ | refine LeO.bind ?_ (fun _ => ?_))
  | exact ih0 _ _ _ _ _ _ _ _ | exact ih1 _ _ _ _ _ _ _ _ | exact ih2 _ _ _ _ _ _ _ _ _ _ | exact ih3 _ _ _ _ _ _ _ _ _ _ | exact ih4 _ _ _ _ _ _ _ _ _ _ | exact ih5 _ _ _ _ | exact ih6 _ _ _ _ _ _ _ _ _ | exact deaddropref7_Join.mono _ _ _ _ _ | exact deaddropref7_Last.mono _ _ _ | exact deaddropref7_Of.mono _ _ | exact deaddropref7_goes.mono _ _ _ _ _ _ _ _ _ _ _ _ | exact LeO.none _ | refine LeO.ite ?_ ?_ | refine LeO.bind ?_ (fun _ => ?_)
def deaddropref7_Do.T9 : Bool × List (List Nat × List Nat) := (true, [([], []), ([0], [0]), ([], []), ([1, 2], [1, 2]), ([3], [3]), ([], []), ([], []), ([4, 5, 6], [4, 5, 6])])
def deaddropref7_Do.B9 : List Nat := [0, 1, 0, 7, 15, 0, 0, 127]
theorem deaddropref7_Do.tab9 : rtab .any (opsOf Try.f13 9) = deaddropref7_Do.T9 := by kernel_rfl
theorem deaddropref7_Do.bits9 : waitsOk deaddropref7_Do.T9.2 deaddropref7_Do.B9 = true := by kernel_rfl
def deaddropref7_Do.T16 : Bool × List (List Nat × List Nat) := (true, [([], []), ([], []), ([1], [1]), ([], []), ([2, 3], [2, 3]), ([4], [4]), ([0, 5], [0, 5]), ([], []), ([7], [7]), ([], []), ([9], [9]), ([], []), ([11], [11]), ([6, 8, 10, 12], [6, 8, 10, 12]), ([], []), ([14, 13, 4, 0, 1, 2, 3, 4, 5, 6, 7, 8, 9, 10, 11, 12, 13, 14], [13, 14])])
def deaddropref7_Do.B16 : List Nat := [0, 0, 2, 0, 14, 30, 63, 0, 128, 0, 512, 0, 2048, 8191, 0, 32767]
theorem deaddropref7_Do.tab16 : rtab .any (opsOf Try.f13 16) = deaddropref7_Do.T16 := by kernel_rfl
theorem deaddropref7_Do.bits16 : waitsOk deaddropref7_Do.T16.2 deaddropref7_Do.B16 = true := by kernel_rfl
theorem field28 (a b : Value) (W : World) : (Instr.field 28 (.agg #[a, b]) 1).run Try.prog W = .ok b W := by
  have hu26 := Try.underlying26
  have hu28 := Try.underlying28
  simp [Instr.field, asAgg, part, isAgg, run_underlying hu28, run_underlying hu26]
attribute [local go_sem] field28
set_option maxHeartbeats 8000000 in
set_option maxRecDepth 100000 in
theorem deaddropref7_Do.calls (k : Nat) (A0_0 : Option Addr) (c0_0 : Nat) (l0_0 : List (S70)) (A0_1 : Option Addr) (c0_1 : Nat) (l0_1 : List (S34)) (a1 : Int) (a2_0 : Int) (a2_1 : ByteArray) (a2_2 : ByteArray) (a2_3 : Int) (r1 : List (S70)) (r2 : List (S34)) (r3 : Int) (w : World) (hr0_0 : Kd.C k70 w A0_0 l0_0.length l0_0) (hc0_0 : l0_0.length ≤ c0_0) (hr0_1 : Kd.C k34 w A0_1 l0_1.length l0_1) (hc0_1 : l0_1.length ≤ c0_1) (h : deaddropref7_Do.f k l0_0 l0_1 a1 a2_0 a2_1 a2_2 a2_3 = some (r1, r2, r3)) :
 Calls Try.prog 13 #[.agg #[.slice A0_0 l0_0.length c0_0, .slice A0_1 l0_1.length c0_1], .int .i64 a1, .agg #[.int .i64 a2_0, .string a2_1, .string a2_2, .int .i64 a2_3]] w fun e w' => ∃ v0_ v1_ : Value, e = .returned (.agg #[v0_, v1_, .int .i64 r3]) ∧ Kd.R k70 70 w' w.heap.size (fun _ => True) v0_ r1 ∧ Kd.R k34 34 w' w.heap.size (fun _ => True) v1_ r2 ∧ Below w.heap.size w w' := by
 have hu28 := Try.underlying28
 have hu40 := Try.underlying40
 have hu43 := Try.underlying43
 have hu34 := Try.underlying34
 have hu32 := Try.underlying32
 have HR0_0 := Aside0.mk hr0_0
 have HC0_0 := Aside0.mk hc0_0
 clear hr0_0 hc0_0
 have HR0_1 := Aside0.mk hr0_1
 have HC0_1 := Aside0.mk hc0_1
 clear hr0_1 hc0_1
 have HB := Aside0.mk (Below.refl w.heap.size w)
 have H : (if a2_0 = 1 then (deaddropref7_Do.j0 k a1 true l0_0 l0_1 a2_0 a2_1 a2_2 a2_3) else (if a2_0 = 2 then (deaddropref7_Do.j0 k a1 true l0_0 l0_1 a2_0 a2_1 a2_2 a2_3) else (deaddropref7_Do.j0 k a1 (a2_0 == 3) l0_0 l0_1 a2_0 a2_1 a2_2 a2_3))) = some (r1, r2, r3) := h
 clear h
 have HC4 := Aside0.mk H
 clear H
 go_enter Try.func13, Try.ntmps13
 go_upto_region 1 with (first | ((with_reducible refine gate_dst (N := 3) rfl ?_); (try (refine gate_guard (by rfl) ?_; dsimp only)); refine box_event ?hg (N := 3) ?hd (cs := #[.slice A0_0 l0_0.length c0_0, .slice A0_1 l0_1.length c0_1]) (t := 28) ?hr ?_; (case hd => rfl); (case hg => rfl); (case hr => first | (go_simp; done) | (go_simp; rfl)); intro gb246 hg w5 hbox hb; have BK246 := Aside0.mk (hbox); have GW246 := Aside0.mk ((by rw [hg]; exact (below_size (bw HB.out)) : w.heap.size ≤ gb246)); have GE246 := GW246; replace HB := Aside0.mk (below_step (bw HB.out) hb); clear hb hbox hg) | ((with_reducible refine gate_dst (N := 5) rfl ?_); (try (refine gate_guard (by rfl) ?_; dsimp only)); refine box_event ?hg (N := 5) ?hd (cs := #[.int .i64 a2_0, .string a2_1, .string a2_2, .int .i64 a2_3]) (t := 40) ?hr ?_; (case hd => rfl); (case hg => rfl); (case hr => first | (go_simp; done) | (go_simp; rfl)); intro gb247 hg w6 hbox hb; have BK247 := Aside0.mk (hbox); have GW247 := Aside0.mk ((by rw [hg]; exact (below_size (bw1 HB.out GE246.out)) : w.heap.size ≤ gb247)); have GE247 := GW247; replace HB := Aside0.mk (below_step (bw1 HB.out GE246.out) hb); have NB246_247 := Aside0.mk (nbl BK246.out hg); have NB247_246 := Aside0.mk (nbg BK246.out hg); replace BK246 := Aside0.mk (bkb BK246.out hb); clear hb hbox hg) | ((with_reducible refine gate_dst (N := 6) rfl ?_); (try (refine gate_guard (by rfl) ?_; dsimp only)); refine box_event ?hg (N := 6) ?hd (cs := #[.slice none 0 0, .slice none 0 0, .int .i64 0]) (t := 43) ?hr ?_; (case hd => rfl); (case hg => rfl); (case hr => first | (go_simp; done) | (go_simp; rfl)); intro gb248 hg w7 hbox hb; have BK248 := Aside0.mk (hbox); have GW248 := Aside0.mk ((by rw [hg]; exact (below_size (bw2 HB.out GE246.out GE247.out)) : w.heap.size ≤ gb248)); have GE248 := GW248; replace HB := Aside0.mk (below_step (bw2 HB.out GE246.out GE247.out) hb); have NB246_248 := Aside0.mk (nbl BK246.out hg); have NB248_246 := Aside0.mk (nbg BK246.out hg); replace BK246 := Aside0.mk (bkb BK246.out hb); have NB247_248 := Aside0.mk (nbl BK247.out hg); have NB248_247 := Aside0.mk (nbg BK247.out hg); replace BK247 := Aside0.mk (bkb BK247.out hb); clear hb hbox hg))
 (try simp only [Act.put, List.setIfInBounds_toArray, List.set_cons_zero, List.set_cons_succ])
 go_cut [7] (fun v7 wc => ∃ (kq : Nat) (x7_3 : Bool), v7 = .bool x7_3 ∧ Aside0 (deaddropref7_Do.j0 kq a1 x7_3 l0_0 l0_1 a2_0 a2_1 a2_2 a2_3 = some (r1, r2, r3)) ∧ Aside0 (kq ≤ k) ∧ Aside0 (wc.heap[gb246]? = some (.cells #[(.slice A0_0 l0_0.length c0_0), (.slice A0_1 l0_1.length c0_1)] 28 (0, 0))) ∧ Aside0 (wc.heap[gb247]? = some (.cells #[.int .i64 a2_0, .string a2_1, .string a2_2, .int .i64 a2_3] 40 (0, 0))) ∧ Aside0 (wc.heap[gb248]? = some (.cells #[(.slice none 0 0), (.slice none 0 0), .int .i64 0] 43 (0, 0))) ∧ Aside0 (Below w.heap.size w wc))
 case first =>
  have H := HC4.out
  clear HC4
  by_cases c8 : a2_0 = 1
  ·
   rw [if_pos c8] at H
   have c8b0 : (a2_0 == 1) = true := beq_iff_eq.mpr c8
   have c8b1 : (a2_0 != 1) = false := bne_eq_false_iff_eq.mpr c8
   clear c8
   (first | rw [c8b0] | (simp only [i64_w, i32_w]; rw [c8b0]) | skip)
   have H' := Aside0.mk H
   clear H
   have hnb9 := NB247_246.out
   have hnc9 := NB246_247.out
   have hnb10 := NB247_248.out
   have hnc10 := NB248_247.out
   obtain ⟨hcz11_0, hcz11_1, hcz11_2, hcz11_3⟩ := bx4 BK247.out
   obtain ⟨hfz11_0, hfz11_1, hfz11_2, hfz11_3⟩ := bf4 BK247.out
   go_wp2
   go_meet
   case rel => exact ⟨_, (true), ok_, H', ⟨by first | omega | exact Nat.le_refl _⟩, ⟨bk BK246.out⟩, ⟨bk BK247.out⟩, ⟨bk BK248.out⟩, ⟨bw3 HB.out GE246.out GE247.out GE248.out⟩⟩
  ·
   rw [if_neg c8] at H
   have c8b0 : (a2_0 == 1) = false := beq_eq_false_iff_ne.mpr c8
   have c8b1 : (a2_0 != 1) = true := bne_iff_ne.mpr c8
   (first | rw [c8b0] | (simp only [i64_w, i32_w]; rw [c8b0]) | skip)
   by_cases c12 : a2_0 = 2
   ·
    rw [if_pos c12] at H
    have c12b0 : (a2_0 == 2) = true := beq_iff_eq.mpr c12
    have c12b1 : (a2_0 != 2) = false := bne_eq_false_iff_eq.mpr c12
    clear c12
    have H' := Aside0.mk H
    clear H
    have hnb13 := NB247_246.out
    have hnc13 := NB246_247.out
    have hnb14 := NB247_248.out
    have hnc14 := NB248_247.out
    obtain ⟨hcz15_0, hcz15_1, hcz15_2, hcz15_3⟩ := bx4 BK247.out
    obtain ⟨hfz15_0, hfz15_1, hfz15_2, hfz15_3⟩ := bf4 BK247.out
    go_wp2
    go_meet
    case rel => exact ⟨_, (true), ok_, H', ⟨by first | omega | exact Nat.le_refl _⟩, ⟨bk BK246.out⟩, ⟨bk BK247.out⟩, ⟨bk BK248.out⟩, ⟨bw3 HB.out GE246.out GE247.out GE248.out⟩⟩
   ·
    rw [if_neg c12] at H
    have c12b0 : (a2_0 == 2) = false := beq_eq_false_iff_ne.mpr c12
    have c12b1 : (a2_0 != 2) = true := bne_iff_ne.mpr c12
    have H' := Aside0.mk H
    clear H
    have hnb16 := NB247_246.out
    have hnc16 := NB246_247.out
    have hnb17 := NB247_248.out
    have hnc17 := NB248_247.out
    obtain ⟨hcz18_0, hcz18_1, hcz18_2, hcz18_3⟩ := bx4 BK247.out
    obtain ⟨hfz18_0, hfz18_1, hfz18_2, hfz18_3⟩ := bf4 BK247.out
    go_wp2
    go_meet
    case rel => exact ⟨_, ((a2_0 == 3)), ok_, H', ⟨by first | omega | exact Nat.le_refl _⟩, ⟨bk BK246.out⟩, ⟨bk BK247.out⟩, ⟨bk BK248.out⟩, ⟨bw3 HB.out GE246.out GE247.out GE248.out⟩⟩
 case rest =>
  revert u7 u13 u14 u15 u16 u17 u18 u19 u20 u21 u22 u23 u24 u25 u26 u27 u28 u29 u30 u31 u32 u33 u34 u35 u36 u37 u38 u39 u40 u41 u42 u43 u44 u45 u46 u47 u48 u49 u50 u51 u52 u53 u54 u55 u56 u57 u58 u59 u60 u61 u62 u63 u64 u65 u66 u67 u68 u69 u70 u71 u72 u73 u74 u75 u76 u77 u78 u79 u80 u81 u82 u83 u84 u85 u86 u87 u88 u89 u90 u91 u92 u93 u94 u95 u96 u97 u98 u99 u100 u101 u102 u103 u104 u105 u106 u107 u108 u109 u110 u111 u112 u113 u114 u115 u116 u117 u118 u119 u120 u121 u122 u123 u124 u125 u126 u127 u128 u129 u130 u131 u132 u133 u134 u135 u136 u137 u138 u139 u140 u141 u142 u143 u144 u145 u146 u147 u148 u149 u150 u151 u152 u153 u154 u155 u156 u157 u158 u159 u160 u161 u162 u163 u164 u165 u166 u167 u168 u169 u170 u171 u172 u173 u174 u175 u176 u177 u178 u179 u180 u181 u182 u183 u184 hcut
  refine id ?_
  intro u7 u13 u14 u15 u16 u17 u18 u19 u20 u21 u22 u23 u24 u25 u26 u27 u28 u29 u30 u31 u32 u33 u34 u35 u36 u37 u38 u39 u40 u41 u42 u43 u44 u45 u46 u47 u48 u49 u50 u51 u52 u53 u54 u55 u56 u57 u58 u59 u60 u61 u62 u63 u64 u65 u66 u67 u68 u69 u70 u71 u72 u73 u74 u75 u76 u77 u78 u79 u80 u81 u82 u83 u84 u85 u86 u87 u88 u89 u90 u91 u92 u93 u94 u95 u96 u97 u98 u99 u100 u101 u102 u103 u104 u105 u106 u107 u108 u109 u110 u111 u112 u113 u114 u115 u116 u117 u118 u119 u120 u121 u122 u123 u124 u125 u126 u127 u128 u129 u130 u131 u132 u133 u134 u135 u136 u137 u138 u139 u140 u141 u142 u143 u144 u145 u146 u147 u148 u149 u150 u151 u152 u153 u154 u155 u156 u157 u158 u159 u160 u161 u162 u163 u164 u165 u166 u167 u168 u169 u170 u171 u172 u173 u174 u175 u176 u177 u178 u179 u180 u181 u182 u183 u184 hcut
  clear HC4
  obtain ⟨kq, x7_3, rfl, HA, HJ3, BK246, BK247, BK248, HB⟩ := hcut
  cases kq with
  | zero => exact absurd HA.out (by simp [deaddropref7_Do.j0])
  | succ kj3 =>
   have H := HA.out
   clear HA
   simp only [deaddropref7_Do.j0] at H
   have HC19 := Aside0.mk H
   clear H
   go_upto_region 2 with (fail)
   go_cut [71] (fun v71 wc => ∃ (kq : Nat) (x71_18 : Bool), v71 = .bool x71_18 ∧ Aside0 (deaddropref7_Do.j1 kq a1 x71_18 l0_0 l0_1 a2_0 a2_1 a2_2 a2_3 = some (r1, r2, r3)) ∧ Aside0 (kq ≤ kj3) ∧ Aside0 (wc.heap[gb246]? = some (.cells #[(.slice A0_0 l0_0.length c0_0), (.slice A0_1 l0_1.length c0_1)] 28 (0, 0))) ∧ Aside0 (wc.heap[gb247]? = some (.cells #[.int .i64 a2_0, .string a2_1, .string a2_2, .int .i64 a2_3] 40 (0, 0))) ∧ Aside0 (wc.heap[gb248]? = some (.cells #[(.slice none 0 0), (.slice none 0 0), .int .i64 0] 43 (0, 0))) ∧ Aside0 (Below w.heap.size w wc))
   case first =>
    have H := HC19.out
    clear HC19
    by_cases c20 : a1 < 0
    ·
     rw [if_pos c20] at H
     exact absurd H (by simp)
    rw [if_neg c20] at H
    have c20b0 : decide (a1 < 0) = false := decide_eq_false c20
    clear c20
    (first | rw [c20b0] | (simp only [i64_w, i32_w]; rw [c20b0]) | skip)
    by_cases c21 : a1 ≥ 8
    ·
     rw [if_pos c21] at H
     exact absurd H (by simp)
    rw [if_neg c21] at H
    have c21b0 : decide (8 ≤ a1) = false := decide_eq_false c21
    clear c21
    by_cases c22 : a2_0 < 1
    ·
     rw [if_pos c22] at H
     exact absurd H (by simp)
    rw [if_neg c22] at H
    have c22b0 : decide (a2_0 < 1) = false := decide_eq_false c22
    clear c22
    by_cases c23 : a2_0 > 5
    ·
     rw [if_pos c23] at H
     exact absurd H (by simp)
    rw [if_neg c23] at H
    have c23b0 : decide (5 < a2_0) = false := decide_eq_false c23
    clear c23
    by_cases c24 : (a2_1.size : Int) > 40
    ·
     rw [if_pos c24] at H
     exact absurd H (by simp)
    rw [if_neg c24] at H
    have c24b0 : decide (40 < (a2_1.size : Int)) = false := decide_eq_false c24
    have c24b1 : decide (40 < a2_1.size) = false := decide_eq_false (by omega)
    clear c24
    by_cases c25 : x7_3 = true
    ·
     subst c25
     have H1 : (if (a2_2.size : Int) > 200 then (none) else (if a2_0 = 4 then (if a2_3 < (-1099511627776) then (none) else (deaddropref7_Do.j1 kj3 a1 (decide (a2_3 > 1099511627776)) l0_0 l0_1 a2_0 a2_1 a2_2 a2_3)) else (deaddropref7_Do.j1 kj3 a1 false l0_0 l0_1 a2_0 a2_1 a2_2 a2_3))) = some (r1, r2, r3) := by rw [if_pos rfl] at H; exact H
     clear H
     have H := H1
     clear H1
     by_cases c26 : (a2_2.size : Int) > 200
     ·
      rw [if_pos c26] at H
      exact absurd H (by simp)
     rw [if_neg c26] at H
     have c26b0 : decide (200 < (a2_2.size : Int)) = false := decide_eq_false c26
     have c26b1 : decide (200 < a2_2.size) = false := decide_eq_false (by omega)
     clear c26
     by_cases c27 : a2_0 = 4
     ·
      rw [if_pos c27] at H
      have c27b0 : (a2_0 == 4) = true := beq_iff_eq.mpr c27
      have c27b1 : (a2_0 != 4) = false := bne_eq_false_iff_eq.mpr c27
      clear c27
      by_cases c28 : a2_3 < (-1099511627776)
      ·
       rw [if_pos c28] at H
       exact absurd H (by simp)
      rw [if_neg c28] at H
      have c28b0 : decide (a2_3 < (-1099511627776)) = false := decide_eq_false c28
      clear c28
      have H' := Aside0.mk H
      clear H
      have hnb29 := NB247_246.out
      have hnc29 := NB246_247.out
      have hnb30 := NB247_248.out
      have hnc30 := NB248_247.out
      obtain ⟨hcz31_0, hcz31_1, hcz31_2, hcz31_3⟩ := bx4 BK247.out
      obtain ⟨hfz31_0, hfz31_1, hfz31_2, hfz31_3⟩ := bf4 BK247.out
      go_wp2
      go_meet
      case rel => exact ⟨_, (decide (a2_3 > 1099511627776)), ok_, H', ⟨by have := HJ3.out; first | omega | exact Nat.le_refl _⟩, ⟨bk BK246.out⟩, ⟨bk BK247.out⟩, ⟨bk BK248.out⟩, ⟨bw3 HB.out GE246.out GE247.out GE248.out⟩⟩
     ·
      rw [if_neg c27] at H
      have c27b0 : (a2_0 == 4) = false := beq_eq_false_iff_ne.mpr c27
      have c27b1 : (a2_0 != 4) = true := bne_iff_ne.mpr c27
      have H' := Aside0.mk H
      clear H
      have hnb32 := NB247_246.out
      have hnc32 := NB246_247.out
      have hnb33 := NB247_248.out
      have hnc33 := NB248_247.out
      obtain ⟨hcz34_0, hcz34_1, hcz34_2, hcz34_3⟩ := bx4 BK247.out
      obtain ⟨hfz34_0, hfz34_1, hfz34_2, hfz34_3⟩ := bf4 BK247.out
      go_wp2
      go_meet
      case rel => exact ⟨_, (false), ok_, H', ⟨by have := HJ3.out; first | omega | exact Nat.le_refl _⟩, ⟨bk BK246.out⟩, ⟨bk BK247.out⟩, ⟨bk BK248.out⟩, ⟨bw3 HB.out GE246.out GE247.out GE248.out⟩⟩
    ·
     replace c25 := Bool.eq_false_iff.mpr c25
     subst c25
     have H1 : (if a2_0 = 4 then (if a2_3 < (-1099511627776) then (none) else (deaddropref7_Do.j1 kj3 a1 (decide (a2_3 > 1099511627776)) l0_0 l0_1 a2_0 a2_1 a2_2 a2_3)) else (deaddropref7_Do.j1 kj3 a1 false l0_0 l0_1 a2_0 a2_1 a2_2 a2_3)) = some (r1, r2, r3) := by rw [if_neg (show ¬ (false = true) by decide)] at H; exact H
     clear H
     have H := H1
     clear H1
     by_cases c35 : a2_0 = 4
     ·
      rw [if_pos c35] at H
      have c35b0 : (a2_0 == 4) = true := beq_iff_eq.mpr c35
      have c35b1 : (a2_0 != 4) = false := bne_eq_false_iff_eq.mpr c35
      clear c35
      by_cases c36 : a2_3 < (-1099511627776)
      ·
       rw [if_pos c36] at H
       exact absurd H (by simp)
      rw [if_neg c36] at H
      have c36b0 : decide (a2_3 < (-1099511627776)) = false := decide_eq_false c36
      clear c36
      have H' := Aside0.mk H
      clear H
      have hnb37 := NB247_246.out
      have hnc37 := NB246_247.out
      have hnb38 := NB247_248.out
      have hnc38 := NB248_247.out
      obtain ⟨hcz39_0, hcz39_1, hcz39_2, hcz39_3⟩ := bx4 BK247.out
      obtain ⟨hfz39_0, hfz39_1, hfz39_2, hfz39_3⟩ := bf4 BK247.out
      go_wp2
      go_meet
      case rel => exact ⟨_, (decide (a2_3 > 1099511627776)), ok_, H', ⟨by have := HJ3.out; first | omega | exact Nat.le_refl _⟩, ⟨bk BK246.out⟩, ⟨bk BK247.out⟩, ⟨bk BK248.out⟩, ⟨bw3 HB.out GE246.out GE247.out GE248.out⟩⟩
     ·
      rw [if_neg c35] at H
      have c35b0 : (a2_0 == 4) = false := beq_eq_false_iff_ne.mpr c35
      have c35b1 : (a2_0 != 4) = true := bne_iff_ne.mpr c35
      have H' := Aside0.mk H
      clear H
      have hnb40 := NB247_246.out
      have hnc40 := NB246_247.out
      have hnb41 := NB247_248.out
      have hnc41 := NB248_247.out
      obtain ⟨hcz42_0, hcz42_1, hcz42_2, hcz42_3⟩ := bx4 BK247.out
      obtain ⟨hfz42_0, hfz42_1, hfz42_2, hfz42_3⟩ := bf4 BK247.out
      go_wp2
      go_meet
      case rel => exact ⟨_, (false), ok_, H', ⟨by have := HJ3.out; first | omega | exact Nat.le_refl _⟩, ⟨bk BK246.out⟩, ⟨bk BK247.out⟩, ⟨bk BK248.out⟩, ⟨bw3 HB.out GE246.out GE247.out GE248.out⟩⟩
   case rest =>
    revert u13 u14 u15 u16 u17 u18 u19 u20 u21 u22 u23 u24 u25 u26 u27 u28 u29 u30 u31 u32 u33 u34 u35 u36 u37 u38 u39 u40 u41 u42 u43 u44 u45 u46 u47 u48 u49 u50 u51 u52 u53 u54 u55 u56 u57 u58 u59 u60 u61 u62 u63 u64 u65 u66 u67 u68 u69 u70 u71 u72 u73 u74 u75 u76 u77 u78 u79 u80 u81 u82 u83 u84 u85 u86 u87 u88 u89 u90 u91 u92 u93 u94 u95 u96 u97 u98 u99 u100 u101 u102 u103 u104 u105 u106 u107 u108 u109 u110 u111 u112 u113 u114 u115 u116 u117 u118 u119 u120 u121 u122 u123 u124 u125 u126 u127 u128 u129 u130 u131 u132 u133 u134 u135 u136 u137 u138 u139 u140 u141 u142 u143 u144 u145 u146 u147 u148 u149 u150 u151 u152 u153 u154 u155 u156 u157 u158 u159 u160 u161 u162 u163 u164 u165 u166 u167 u168 u169 u170 u171 u172 u173 u174 u175 u176 u177 u178 u179 u180 u181 u182 u183 u184 hcut
    refine id ?_
    intro u13 u14 u15 u16 u17 u18 u19 u20 u21 u22 u23 u24 u25 u26 u27 u28 u29 u30 u31 u32 u33 u34 u35 u36 u37 u38 u39 u40 u41 u42 u43 u44 u45 u46 u47 u48 u49 u50 u51 u52 u53 u54 u55 u56 u57 u58 u59 u60 u61 u62 u63 u64 u65 u66 u67 u68 u69 u70 u71 u72 u73 u74 u75 u76 u77 u78 u79 u80 u81 u82 u83 u84 u85 u86 u87 u88 u89 u90 u91 u92 u93 u94 u95 u96 u97 u98 u99 u100 u101 u102 u103 u104 u105 u106 u107 u108 u109 u110 u111 u112 u113 u114 u115 u116 u117 u118 u119 u120 u121 u122 u123 u124 u125 u126 u127 u128 u129 u130 u131 u132 u133 u134 u135 u136 u137 u138 u139 u140 u141 u142 u143 u144 u145 u146 u147 u148 u149 u150 u151 u152 u153 u154 u155 u156 u157 u158 u159 u160 u161 u162 u163 u164 u165 u166 u167 u168 u169 u170 u171 u172 u173 u174 u175 u176 u177 u178 u179 u180 u181 u182 u183 u184 hcut
    clear HC19
    obtain ⟨kq, x71_18, rfl, HA, HJ18, BK246, BK247, BK248, HB⟩ := hcut
    cases kq with
    | zero => exact absurd HA.out (by simp [deaddropref7_Do.j1])
    | succ kj18 =>
     have H := HA.out
     clear HA
     simp only [deaddropref7_Do.j1] at H
     by_cases c43 : x71_18 = true
     ·
      subst c43
      have H1 : (none) = some (r1, r2, r3) := by rw [if_pos rfl] at H; exact H
      clear H
      have H := H1
      clear H1
      exact absurd H (by simp)
     replace c43 := Bool.eq_false_iff.mpr c43
     subst c43
     have H1 : (deaddropref7_Do.l0 kj18 a1 ([] : List (S32)) a2_3 0 l0_0 l0_1 a2_0 a2_1 a2_2 a2_3) = some (r1, r2, r3) := by rw [if_neg (show ¬ (false = true) by decide)] at H; exact H
     clear H
     have H := H1
     clear H1
     have H' := Aside0.mk H
     clear H
     have hnb44 := NB247_246.out
     have hnc44 := NB246_247.out
     have hnb45 := NB247_248.out
     have hnc45 := NB248_247.out
     obtain ⟨hcz46_0, hcz46_1, hcz46_2, hcz46_3⟩ := bx4 BK247.out
     obtain ⟨hfz46_0, hfz46_1, hfz46_2, hfz46_3⟩ := bf4 BK247.out
     go_wp2
     go_loopg [8, 9, 10] kj18 (fun kq v8 v9 v10 w' => ∃ (x8_3 : List (S32)) (x9_3 : Int) (x10_3 : Int), v9 = .int .i64 x9_3 ∧ v10 = .int .i64 x10_3 ∧ Aside0 (deaddropref7_Do.l0 kq a1 x8_3 x9_3 x10_3 l0_0 l0_1 a2_0 a2_1 a2_2 a2_3 = some (r1, r2, r3)) ∧ Aside0 (kq ≤ kj18) ∧ Aside0 (Kd.R k32 32 w' w.heap.size (fun _ => True) v8 x8_3) ∧ Aside0 (w'.heap[gb246]? = some (.cells #[(.slice A0_0 l0_0.length c0_0), (.slice A0_1 l0_1.length c0_1)] 28 (0, 0))) ∧ Aside0 (w'.heap[gb247]? = some (.cells #[.int .i64 a2_0, .string a2_1, .string a2_2, .int .i64 a2_3] 40 (0, 0))) ∧ Aside0 (w'.heap[gb248]? = some (.cells #[(.slice none 0 0), (.slice none 0 0), .int .i64 0] 43 (0, 0))) ∧ Aside0 (Below w.heap.size w w'))
     case atStart => exact ⟨(([] : List (S32))), (a2_3), (0), ok_, ok_, H', ⟨Nat.le_refl _⟩, ⟨by first | exact Kd.R_nil _ _ _ _ _ | exact Kd.N_nil _ _ _ _ _ | exact Kd.V_nil _ _ _ _ _ | exact Kd.Q_nil _ _ _ _ _ | exact Kd.S_nil _ _ _ _ _⟩, ⟨bk BK246.out⟩, ⟨bk BK247.out⟩, ⟨bk BK248.out⟩, ⟨bw3 HB.out GE246.out GE247.out GE248.out⟩⟩
     case round =>
      revert u8 u9 u10 u75 u76 u77 u78 u79 u80 u81 u82 u83 u84 u85 u86 u87 u88 u89 u90 u91 u92 u93 u94 u95 u96 u97 u98 u99 u100 u101 u102 u103 u104 u105 u106 hrel
      refine id ?_
      intro u8 u9 u10 u75 u76 u77 u78 u79 u80 u81 u82 u83 u84 u85 u86 u87 u88 u89 u90 u91 u92 u93 u94 u95 u96 u97 u98 u99 u100 u101 u102 u103 u104 u105 u106 hrel
      clear H'
      try clear c43
      try clear hcz46_0
      try clear hcz46_1
      try clear hcz46_2
      try clear hcz46_3
      try clear hfz46_0
      try clear hfz46_1
      try clear hfz46_2
      try clear hfz46_3
      obtain ⟨x8_3, x9_3, x10_3, rfl, rfl, HA, HK3, HO_8, BK246, BK247, BK248, HB⟩ := hrel
      cases gk with
      | zero => exact absurd HA.out (by simp [deaddropref7_Do.l0])
      | succ k3 =>
       have H := HA.out
       clear HA
       simp only [deaddropref7_Do.l0] at H
       by_cases c47 : x10_3 < (l0_1.length : Int)
       ·
        rw [if_pos c47] at H
        have c47b0 : decide (x10_3 < (l0_1.length : Int)) = true := decide_eq_true c47
        clear c47
        by_cases c48 : 0 ≤ x10_3
        rotate_left
        ·
         rw [if_neg c48] at H
         exact absurd H (by simp)
        rw [if_pos c48] at H
        have c48b0 : decide (0 ≤ x10_3) = true := decide_eq_true c48
        clear c48
        replace H := Option.bind_eq_some_iff.mp H
        obtain ⟨t250, A490, H⟩ := H
        replace H : (if t250 = true then (if x8_3.length < 8796093022208 then (deaddropref7_Do.l0 k3 a1 (x8_3 ++ [(⟨(rd_T34 l0_1 x10_3).f0.f0, (rd_T34 l0_1 x10_3).f0.f1⟩ : S32)]) (wrap64 (x9_3 + ((rd_T34 l0_1 x10_3).f4))) (wrap64 (x10_3 + 1)) l0_0 l0_1 a2_0 a2_1 a2_2 a2_3) else (none)) else (deaddropref7_Do.l0 k3 a1 x8_3 x9_3 (wrap64 (x10_3 + 1)) l0_0 l0_1 a2_0 a2_1 a2_2 a2_3)) = some (r1, r2, r3) := H
        have A49 := Aside0.mk A490
        clear A490
        by_cases c50 : t250 = true
        ·
         subst c50
         have H1 : (if x8_3.length < 8796093022208 then (deaddropref7_Do.l0 k3 a1 (x8_3 ++ [(⟨(rd_T34 l0_1 x10_3).f0.f0, (rd_T34 l0_1 x10_3).f0.f1⟩ : S32)]) (wrap64 (x9_3 + ((rd_T34 l0_1 x10_3).f4))) (wrap64 (x10_3 + 1)) l0_0 l0_1 a2_0 a2_1 a2_2 a2_3) else (none)) = some (r1, r2, r3) := by rw [if_pos rfl] at H; exact H
         clear H
         have H := H1
         clear H1
         by_cases c51 : x8_3.length < 8796093022208
         rotate_left
         ·
          rw [if_neg c51] at H
          exact absurd H (by simp)
         rw [if_pos c51] at H
         have LMc51 := Aside0.mk c51
         clear c51
         obtain ⟨y252, hy252⟩ : ∃ y_ : List (S32), y_ = (x8_3 ++ [(⟨(rd_T34 l0_1 x10_3).f0.f0, (rd_T34 l0_1 x10_3).f0.f1⟩ : S32)]) := ⟨_, rfl⟩
         replace H : (deaddropref7_Do.l0 k3 a1 y252 (wrap64 (x9_3 + ((rd_T34 l0_1 x10_3).f4))) (wrap64 (x10_3 + 1)) l0_0 l0_1 a2_0 a2_1 a2_2 a2_3) = some (r1, r2, r3) := by first | (rw [hy252]; with_reducible exact H) | (have H2_ := (Option.bind_some _ _).symm.trans H; rw [hy252]; with_reducible exact H2_) | (have H2_ := (Option.bind_some _ _).symm.trans H; with_reducible exact H2_) | with_reducible exact H | (rw [hy252]; exact H) | exact H
         have Ny252 := Aside0.mk hy252
         clear hy252
         have H' := Aside0.mk H
         clear H
         have hnb52 := NB246_247.out
         have hnc52 := NB247_246.out
         have hnb53 := NB246_248.out
         have hnc53 := NB248_246.out
         obtain ⟨hcz54_0, hcz54_1⟩ := bx2 BK246.out
         obtain ⟨hfz54_0, hfz54_1⟩ := bf2 BK246.out
         try go_wp2
         replace HO_8 := Aside0.mk (Kd.R_drew HO_8.out)
         replace BK246 := Aside0.mk (blk_drew BK246.out)
         replace BK247 := Aside0.mk (blk_drew BK247.out)
         replace BK248 := Aside0.mk (blk_drew BK248.out)
         replace HB := Aside0.mk (below_drew1 HB.out)
         have p249 : 0 ≤ (x10_3 : Int) := of_decide_eq_true as_
         have q249 : x10_3 < (l0_1.length : Int) := of_decide_eq_true as_
         obtain ⟨ad249, e249, hx249_0, hx249_1, hx249_2, hx249_3, hx249_4, hx249_5⟩ := at_T34 HR0_1.out x10_3 p249 q249
         have hw249_5 := hx249_5
         have hw249_4 := hx249_4
         have hw249_3 := hx249_3
         have hw249_2 := hx249_2
         have hw249_1 := hx249_1
         have hw249_0 := hx249_0
         cases e249
         replace hx249_0 := (HB.out.cell (World.block_lt_of_cell? w _ hx249_0)).trans hx249_0
         replace hx249_1 := (HB.out.cell (World.block_lt_of_cell? w _ hx249_1)).trans hx249_1
         replace hx249_2 := (HB.out.cell (World.block_lt_of_cell? w _ hx249_2)).trans hx249_2
         replace hx249_3 := (HB.out.cell (World.block_lt_of_cell? w _ hx249_3)).trans hx249_3
         replace hx249_4 := (HB.out.cell (World.block_lt_of_cell? w _ hx249_4)).trans hx249_4
         replace hx249_5 := (HB.out.cell (World.block_lt_of_cell? w _ hx249_5)).trans hx249_5
         replace p249 := eq_true p249
         replace q249 := eq_true q249
         refine start_ (n := 8) (S := fun w' => w'.cell? ⟨gb246, 0, none⟩ = some (.slice A0_0 l0_0.length c0_0) ∧ w'.cell? ⟨gb246, 1, none⟩ = some (.slice (some ad249) l0_1.length c0_1) ∧ w'.cell? ⟨gb247, 0, none⟩ = some (.int .i64 a2_0) ∧ w'.cell? ⟨gb247, 1, none⟩ = some (.string a2_1) ∧ w'.cell? ⟨gb247, 2, none⟩ = some (.string a2_2) ∧ w'.cell? ⟨gb247, 3, none⟩ = some (.int .i64 a2_3) ∧ w'.cell? (ad249.add ((x10_3).toNat * 6)) = some (.int .i64 ((rd_T34 l0_1 x10_3).f0.f0)) ∧ w'.cell? ⟨(ad249.add ((x10_3).toNat * 6)).block, (ad249.add ((x10_3).toNat * 6)).off + 1, none⟩ = some (.int .i64 ((rd_T34 l0_1 x10_3).f0.f1)) ∧ w'.cell? ⟨(ad249.add ((x10_3).toNat * 6)).block, (ad249.add ((x10_3).toNat * 6)).off + 2, none⟩ = some (.string ((rd_T34 l0_1 x10_3).f1)) ∧ w'.cell? ⟨(ad249.add ((x10_3).toNat * 6)).block, (ad249.add ((x10_3).toNat * 6)).off + 3, none⟩ = some (.int .i64 ((rd_T34 l0_1 x10_3).f2)) ∧ w'.cell? ⟨(ad249.add ((x10_3).toNat * 6)).block, (ad249.add ((x10_3).toNat * 6)).off + 4, none⟩ = some (.string ((rd_T34 l0_1 x10_3).f3)) ∧ w'.cell? ⟨(ad249.add ((x10_3).toNat * 6)).block, (ad249.add ((x10_3).toNat * 6)).off + 5, none⟩ = some (.int .i64 ((rd_T34 l0_1 x10_3).f4))) (ds := []) (fl 0 8) (by kernel_rfl) rfl rfl ⟨(blk_cell BK246.out 0).trans rfl, (blk_cell BK246.out 1).trans rfl, (blk_cell BK247.out 0).trans rfl, (blk_cell BK247.out 1).trans rfl, (blk_cell BK247.out 2).trans rfl, (blk_cell BK247.out 3).trans rfl, (bc HB.out hw249_0), (bc HB.out hw249_1), (bc HB.out hw249_2), (bc HB.out hw249_3), (bc HB.out hw249_4), (bc HB.out hw249_5)⟩ (fun hHeld => ?_); refine with_tabW deaddropref7_Do.tab9 deaddropref7_Do.bits9 (fun HT_ HW_ => ?_)
         generalize wr.drew = w55 at HO_8 BK246 BK247 BK248 HB hx249_0 hx249_1 hx249_2 hx249_3 hx249_4 hx249_5 hHeld ⊢
         refine pure_ (i := 0) (N := some 82) (fl 1 8) rfl rfl (any_of HT_.out (by kernel_rfl)) (fun _ _ _ h => h) (Or.inl ⟨by rfl, py⟩) pa ?_
         refine pure_ (i := 2) (N := some 84) #[true, false, true, false, false, false, false, false] rfl rfl (any_of HT_.out (by kernel_rfl)) (fun _ _ _ h => h) (Or.inl ⟨by rfl, py⟩) pa ?_
         refine pure_ (i := 5) (N := some 87) #[true, false, true, false, false, true, false, false] rfl rfl (any_of HT_.out (by kernel_rfl)) (fun _ _ _ h => h) (Or.inl ⟨by rfl, py⟩) pa ?_
         refine take_ (i := 1) (N := some 83) #[true, true, true, false, false, true, false, false] rfl rfl (take_ofW HT_.out HW_.out (by kernel_rfl)) (fun _ _ _ h => h) (Or.inl ⟨by rfl, tk⟩) hHeld pa ?_
         refine pure_ (i := 3) (N := some 85) #[true, true, true, true, false, true, false, false] rfl rfl (any_of HT_.out (by kernel_rfl)) (fun _ _ _ h => h) (Or.inl ⟨by rfl, py⟩) pa ?_
         refine take_ (i := 4) (N := some 86) (fl 6 8) rfl rfl (take_ofW HT_.out HW_.out (by kernel_rfl)) (fun _ _ _ h => h) (Or.inl ⟨by rfl, tk⟩) hHeld pa ?_
         refine take_ (i := 6) (N := some 88) (fl 7 8) rfl rfl (take_ofW HT_.out HW_.out (by kernel_rfl)) (fun _ _ _ h => h) (Or.inl ⟨by rfl, tk⟩) hHeld pa ?_
         refine one_ (i := 7) (N := some 89) (fl 8 8) rfl rfl (one_of HT_.out (by kernel_rfl)) (by decide) (fun K hK => ?_)
         refine goes_ Try.func29 (by kernel_rfl) rfl #[.agg #[.int .i64 ((rd_T34 l0_1 x10_3).f0.f0), .int .i64 ((rd_T34 l0_1 x10_3).f0.f1), .string ((rd_T34 l0_1 x10_3).f1), .int .i64 ((rd_T34 l0_1 x10_3).f2), .string ((rd_T34 l0_1 x10_3).f3), .int .i64 ((rd_T34 l0_1 x10_3).f4)], .int .i64 a1, .agg #[.int .i64 a2_0, .string a2_1, .string a2_2, .int .i64 a2_3]] (by rfl) rfl rfl ar_ ?_
         with_reducible refine (deaddropref7_goes.calls k3 ((rd_T34 l0_1 x10_3).f0.f0) ((rd_T34 l0_1 x10_3).f0.f1) ((rd_T34 l0_1 x10_3).f1) ((rd_T34 l0_1 x10_3).f2) ((rd_T34 l0_1 x10_3).f3) ((rd_T34 l0_1 x10_3).f4) a1 a2_0 a2_1 a2_2 a2_3 true _ A49.out).mono ?_
         rintro e w56 ⟨rfl, hb⟩
         refine ⟨_, rfl, ?_⟩
         replace HO_8 := Aside0.mk (Kd.R_below (rk HO_8.out) hb)
         replace BK246 := Aside0.mk (bkb BK246.out hb)
         replace BK247 := Aside0.mk (bkb BK247.out hb)
         replace BK248 := Aside0.mk (bkb BK248.out hb)
         replace HB := Aside0.mk (below_step (bw3 HB.out GE246.out GE247.out GE248.out) hb)
         (try clear hb)
         (try clear hb2)
         (try clear hk)
         (try clear hi)
         refine hK.out _ _ ⟨(blk_cell BK246.out 0).trans rfl, (blk_cell BK246.out 1).trans rfl, (blk_cell BK247.out 0).trans rfl, (blk_cell BK247.out 1).trans rfl, (blk_cell BK247.out 2).trans rfl, (blk_cell BK247.out 3).trans rfl, (bc HB.out hw249_0), (bc HB.out hw249_1), (bc HB.out hw249_2), (bc HB.out hw249_3), (bc HB.out hw249_4), (bc HB.out hw249_5)⟩ (fun hHeld => ?_)
         clear hK K
         refine norm_ (a' := ?_) ?_ ?_
         rotate_left
         ·
          show Act.put _ (some 89) _ = _
          simp only [Act.put, List.setIfInBounds_toArray, List.set_cons_zero, List.set_cons_succ, i64_w, i32_w]
          rfl
         refine done_ (done_of HT_.out (by kernel_rfl)) ?_
         obtain ⟨hcz57_0, hcz57_1⟩ := bx2 BK246.out
         obtain ⟨hfz57_0, hfz57_1⟩ := bf2 BK246.out
         have p251 : 0 ≤ (x10_3 : Int) := of_decide_eq_true as_
         have q251 : x10_3 < (l0_1.length : Int) := of_decide_eq_true as_
         obtain ⟨ad251, e251, hx251_0, hx251_1, hx251_2, hx251_3, hx251_4, hx251_5⟩ := at_T34 HR0_1.out x10_3 p251 q251
         obtain rfl : ad249 = ad251 := (by injection e251)
         replace hx251_0 := (HB.out.cell (World.block_lt_of_cell? w _ hx251_0)).trans hx251_0
         replace hx251_1 := (HB.out.cell (World.block_lt_of_cell? w _ hx251_1)).trans hx251_1
         replace hx251_2 := (HB.out.cell (World.block_lt_of_cell? w _ hx251_2)).trans hx251_2
         replace hx251_3 := (HB.out.cell (World.block_lt_of_cell? w _ hx251_3)).trans hx251_3
         replace hx251_4 := (HB.out.cell (World.block_lt_of_cell? w _ hx251_4)).trans hx251_4
         replace hx251_5 := (HB.out.cell (World.block_lt_of_cell? w _ hx251_5)).trans hx251_5
         replace p251 := eq_true p251
         replace q251 := eq_true q251
         try go_wp2_with (first | ((with_reducible refine gate_builtin (b := .append) (xs := #[.tmp 90, .tmp 97]) rfl ?_); (try (refine gate_guard (by rfl) ?_; dsimp only)); at_builtin; refine Kd.R_append k32 (w0 := w) w.heap.size rfl (.tmp 90) (.tmp 97) 60 32 (.agg #[(.int .i64 0), (.int .i64 0)]) 16 rfl Try.underlying60 info32 rfl (by decide) (by omega) u8 x8_3 (⟨(rd_T34 l0_1 x10_3).f0.f0, (rd_T34 l0_1 x10_3).f0.f1⟩ : S32) [.int .i64 ((rd_T34 l0_1 x10_3).f0.f0), .int .i64 ((rd_T34 l0_1 x10_3).f0.f1)] (fun _ => True) (fun _ => False) rfl rfl ?aP (fun _ hk => hk.elim) ?aF ?aO ?aB ?aS ?aL ?_; (case aP => exact k32_mkM _ _ _ (⟨(rd_T34 l0_1 x10_3).f0.f0, (rd_T34 l0_1 x10_3).f0.f1⟩ : S32)); (case aB => exact (bw3 HB.out GE246.out GE247.out GE248.out)); (case aF => exact (fun _ _ => trivial)); (case aO => exact (rk HO_8.out)); (case aS => exact (below_size (bw3 HB.out GE246.out GE247.out GE248.out))); (case aL => have := LMc51.out; omega); intro v253 w58 ho hb hg hat; rw [← Ny252.out] at ho; replace BK246 := Aside0.mk (bkg BK246.out hg (Kd.R_ne HO_8.out BK246.out (by decide))); replace BK247 := Aside0.mk (bkg BK247.out hg (Kd.R_ne HO_8.out BK247.out (by decide))); replace BK248 := Aside0.mk (bkg BK248.out hg (Kd.R_ne HO_8.out BK248.out (by decide))); replace HB := Aside0.mk (hb); have HO254 := Aside0.mk (ho); clear HO_8; clear ho hb hg hat; obtain ⟨hcz59_0, hcz59_1⟩ := bx2 BK246.out; obtain ⟨hfz59_0, hfz59_1⟩ := bf2 BK246.out; have p255 : 0 ≤ (x10_3 : Int) := of_decide_eq_true as_; have q255 : x10_3 < (l0_1.length : Int) := of_decide_eq_true as_; obtain ⟨ad255, e255, hx255_0, hx255_1, hx255_2, hx255_3, hx255_4, hx255_5⟩ := at_T34 HR0_1.out x10_3 p255 q255; obtain rfl : ad249 = ad255 := (by injection e255); replace hx255_0 := (HB.out.cell (World.block_lt_of_cell? w _ hx255_0)).trans hx255_0; replace hx255_1 := (HB.out.cell (World.block_lt_of_cell? w _ hx255_1)).trans hx255_1; replace hx255_2 := (HB.out.cell (World.block_lt_of_cell? w _ hx255_2)).trans hx255_2; replace hx255_3 := (HB.out.cell (World.block_lt_of_cell? w _ hx255_3)).trans hx255_3; replace hx255_4 := (HB.out.cell (World.block_lt_of_cell? w _ hx255_4)).trans hx255_4; replace hx255_5 := (HB.out.cell (World.block_lt_of_cell? w _ hx255_5)).trans hx255_5; replace p255 := eq_true p255; replace q255 := eq_true q255))
         go_roundg k3
         case measure => have := HJ3.out; have := HJ18.out; have := HK3.out; omega
         case rel => exact ⟨(y252), (wrap64 (x9_3 + ((rd_T34 l0_1 x10_3).f4))), (wrap64 (x10_3 + 1)), ok_, ok_, H', ⟨by have := HJ3.out; have := HJ18.out; have := HK3.out; omega⟩, ⟨rk HO254.out⟩, ⟨bk BK246.out⟩, ⟨bk BK247.out⟩, ⟨bk BK248.out⟩, ⟨bw3 HB.out GE246.out GE247.out GE248.out⟩⟩
        ·
         replace c50 := Bool.eq_false_iff.mpr c50
         subst c50
         have H1 : (deaddropref7_Do.l0 k3 a1 x8_3 x9_3 (wrap64 (x10_3 + 1)) l0_0 l0_1 a2_0 a2_1 a2_2 a2_3) = some (r1, r2, r3) := by rw [if_neg (show ¬ (false = true) by decide)] at H; exact H
         clear H
         have H := H1
         clear H1
         have H' := Aside0.mk H
         clear H
         have hnb60 := NB246_247.out
         have hnc60 := NB247_246.out
         have hnb61 := NB246_248.out
         have hnc61 := NB248_246.out
         obtain ⟨hcz62_0, hcz62_1⟩ := bx2 BK246.out
         obtain ⟨hfz62_0, hfz62_1⟩ := bf2 BK246.out
         try go_wp2
         replace HO_8 := Aside0.mk (Kd.R_drew HO_8.out)
         replace BK246 := Aside0.mk (blk_drew BK246.out)
         replace BK247 := Aside0.mk (blk_drew BK247.out)
         replace BK248 := Aside0.mk (blk_drew BK248.out)
         replace HB := Aside0.mk (below_drew1 HB.out)
         have p249 : 0 ≤ (x10_3 : Int) := of_decide_eq_true as_
         have q249 : x10_3 < (l0_1.length : Int) := of_decide_eq_true as_
         obtain ⟨ad249, e249, hx249_0, hx249_1, hx249_2, hx249_3, hx249_4, hx249_5⟩ := at_T34 HR0_1.out x10_3 p249 q249
         have hw249_5 := hx249_5
         have hw249_4 := hx249_4
         have hw249_3 := hx249_3
         have hw249_2 := hx249_2
         have hw249_1 := hx249_1
         have hw249_0 := hx249_0
         cases e249
         replace hx249_0 := (HB.out.cell (World.block_lt_of_cell? w _ hx249_0)).trans hx249_0
         replace hx249_1 := (HB.out.cell (World.block_lt_of_cell? w _ hx249_1)).trans hx249_1
         replace hx249_2 := (HB.out.cell (World.block_lt_of_cell? w _ hx249_2)).trans hx249_2
         replace hx249_3 := (HB.out.cell (World.block_lt_of_cell? w _ hx249_3)).trans hx249_3
         replace hx249_4 := (HB.out.cell (World.block_lt_of_cell? w _ hx249_4)).trans hx249_4
         replace hx249_5 := (HB.out.cell (World.block_lt_of_cell? w _ hx249_5)).trans hx249_5
         replace p249 := eq_true p249
         replace q249 := eq_true q249
         refine start_ (n := 8) (S := fun w' => w'.cell? ⟨gb246, 0, none⟩ = some (.slice A0_0 l0_0.length c0_0) ∧ w'.cell? ⟨gb246, 1, none⟩ = some (.slice (some ad249) l0_1.length c0_1) ∧ w'.cell? ⟨gb247, 0, none⟩ = some (.int .i64 a2_0) ∧ w'.cell? ⟨gb247, 1, none⟩ = some (.string a2_1) ∧ w'.cell? ⟨gb247, 2, none⟩ = some (.string a2_2) ∧ w'.cell? ⟨gb247, 3, none⟩ = some (.int .i64 a2_3) ∧ w'.cell? (ad249.add ((x10_3).toNat * 6)) = some (.int .i64 ((rd_T34 l0_1 x10_3).f0.f0)) ∧ w'.cell? ⟨(ad249.add ((x10_3).toNat * 6)).block, (ad249.add ((x10_3).toNat * 6)).off + 1, none⟩ = some (.int .i64 ((rd_T34 l0_1 x10_3).f0.f1)) ∧ w'.cell? ⟨(ad249.add ((x10_3).toNat * 6)).block, (ad249.add ((x10_3).toNat * 6)).off + 2, none⟩ = some (.string ((rd_T34 l0_1 x10_3).f1)) ∧ w'.cell? ⟨(ad249.add ((x10_3).toNat * 6)).block, (ad249.add ((x10_3).toNat * 6)).off + 3, none⟩ = some (.int .i64 ((rd_T34 l0_1 x10_3).f2)) ∧ w'.cell? ⟨(ad249.add ((x10_3).toNat * 6)).block, (ad249.add ((x10_3).toNat * 6)).off + 4, none⟩ = some (.string ((rd_T34 l0_1 x10_3).f3)) ∧ w'.cell? ⟨(ad249.add ((x10_3).toNat * 6)).block, (ad249.add ((x10_3).toNat * 6)).off + 5, none⟩ = some (.int .i64 ((rd_T34 l0_1 x10_3).f4))) (ds := []) (fl 0 8) (by kernel_rfl) rfl rfl ⟨(blk_cell BK246.out 0).trans rfl, (blk_cell BK246.out 1).trans rfl, (blk_cell BK247.out 0).trans rfl, (blk_cell BK247.out 1).trans rfl, (blk_cell BK247.out 2).trans rfl, (blk_cell BK247.out 3).trans rfl, (bc HB.out hw249_0), (bc HB.out hw249_1), (bc HB.out hw249_2), (bc HB.out hw249_3), (bc HB.out hw249_4), (bc HB.out hw249_5)⟩ (fun hHeld => ?_); refine with_tabW deaddropref7_Do.tab9 deaddropref7_Do.bits9 (fun HT_ HW_ => ?_)
         generalize wr.drew = w63 at HO_8 BK246 BK247 BK248 HB hx249_0 hx249_1 hx249_2 hx249_3 hx249_4 hx249_5 hHeld ⊢
         refine pure_ (i := 0) (N := some 82) (fl 1 8) rfl rfl (any_of HT_.out (by kernel_rfl)) (fun _ _ _ h => h) (Or.inl ⟨by rfl, py⟩) pa ?_
         refine pure_ (i := 2) (N := some 84) #[true, false, true, false, false, false, false, false] rfl rfl (any_of HT_.out (by kernel_rfl)) (fun _ _ _ h => h) (Or.inl ⟨by rfl, py⟩) pa ?_
         refine pure_ (i := 5) (N := some 87) #[true, false, true, false, false, true, false, false] rfl rfl (any_of HT_.out (by kernel_rfl)) (fun _ _ _ h => h) (Or.inl ⟨by rfl, py⟩) pa ?_
         refine take_ (i := 1) (N := some 83) #[true, true, true, false, false, true, false, false] rfl rfl (take_ofW HT_.out HW_.out (by kernel_rfl)) (fun _ _ _ h => h) (Or.inl ⟨by rfl, tk⟩) hHeld pa ?_
         refine pure_ (i := 3) (N := some 85) #[true, true, true, true, false, true, false, false] rfl rfl (any_of HT_.out (by kernel_rfl)) (fun _ _ _ h => h) (Or.inl ⟨by rfl, py⟩) pa ?_
         refine take_ (i := 4) (N := some 86) (fl 6 8) rfl rfl (take_ofW HT_.out HW_.out (by kernel_rfl)) (fun _ _ _ h => h) (Or.inl ⟨by rfl, tk⟩) hHeld pa ?_
         refine take_ (i := 6) (N := some 88) (fl 7 8) rfl rfl (take_ofW HT_.out HW_.out (by kernel_rfl)) (fun _ _ _ h => h) (Or.inl ⟨by rfl, tk⟩) hHeld pa ?_
         refine one_ (i := 7) (N := some 89) (fl 8 8) rfl rfl (one_of HT_.out (by kernel_rfl)) (by decide) (fun K hK => ?_)
         refine goes_ Try.func29 (by kernel_rfl) rfl #[.agg #[.int .i64 ((rd_T34 l0_1 x10_3).f0.f0), .int .i64 ((rd_T34 l0_1 x10_3).f0.f1), .string ((rd_T34 l0_1 x10_3).f1), .int .i64 ((rd_T34 l0_1 x10_3).f2), .string ((rd_T34 l0_1 x10_3).f3), .int .i64 ((rd_T34 l0_1 x10_3).f4)], .int .i64 a1, .agg #[.int .i64 a2_0, .string a2_1, .string a2_2, .int .i64 a2_3]] (by rfl) rfl rfl ar_ ?_
         with_reducible refine (deaddropref7_goes.calls k3 ((rd_T34 l0_1 x10_3).f0.f0) ((rd_T34 l0_1 x10_3).f0.f1) ((rd_T34 l0_1 x10_3).f1) ((rd_T34 l0_1 x10_3).f2) ((rd_T34 l0_1 x10_3).f3) ((rd_T34 l0_1 x10_3).f4) a1 a2_0 a2_1 a2_2 a2_3 false _ A49.out).mono ?_
         rintro e w64 ⟨rfl, hb⟩
         refine ⟨_, rfl, ?_⟩
         replace HO_8 := Aside0.mk (Kd.R_below (rk HO_8.out) hb)
         replace BK246 := Aside0.mk (bkb BK246.out hb)
         replace BK247 := Aside0.mk (bkb BK247.out hb)
         replace BK248 := Aside0.mk (bkb BK248.out hb)
         replace HB := Aside0.mk (below_step (bw3 HB.out GE246.out GE247.out GE248.out) hb)
         (try clear hb)
         (try clear hb2)
         (try clear hk)
         (try clear hi)
         refine hK.out _ _ ⟨(blk_cell BK246.out 0).trans rfl, (blk_cell BK246.out 1).trans rfl, (blk_cell BK247.out 0).trans rfl, (blk_cell BK247.out 1).trans rfl, (blk_cell BK247.out 2).trans rfl, (blk_cell BK247.out 3).trans rfl, (bc HB.out hw249_0), (bc HB.out hw249_1), (bc HB.out hw249_2), (bc HB.out hw249_3), (bc HB.out hw249_4), (bc HB.out hw249_5)⟩ (fun hHeld => ?_)
         clear hK K
         refine norm_ (a' := ?_) ?_ ?_
         rotate_left
         ·
          show Act.put _ (some 89) _ = _
          simp only [Act.put, List.setIfInBounds_toArray, List.set_cons_zero, List.set_cons_succ, i64_w, i32_w]
          rfl
         refine done_ (done_of HT_.out (by kernel_rfl)) ?_
         try go_wp2
         go_roundg k3
         case measure => have := HJ3.out; have := HJ18.out; have := HK3.out; omega
         case rel => exact ⟨(x8_3), (x9_3), (wrap64 (x10_3 + 1)), ok_, ok_, H', ⟨by have := HJ3.out; have := HJ18.out; have := HK3.out; omega⟩, ⟨rk HO_8.out⟩, ⟨bk BK246.out⟩, ⟨bk BK247.out⟩, ⟨bk BK248.out⟩, ⟨bw3 HB.out GE246.out GE247.out GE248.out⟩⟩
       ·
        rw [if_neg c47] at H
        have c47b0 : decide (x10_3 < (l0_1.length : Int)) = false := decide_eq_false c47
        clear c47
        have HC65 := Aside0.mk H
        clear H
        have hnb66 := NB246_247.out
        have hnc66 := NB247_246.out
        have hnb67 := NB246_248.out
        have hnc67 := NB248_246.out
        obtain ⟨hcz68_0, hcz68_1⟩ := bx2 BK246.out
        obtain ⟨hfz68_0, hfz68_1⟩ := bf2 BK246.out
        go_upto_region 12 with (fail)
        go_cut [119] (fun v119 wc => ∃ (kq : Nat) (x119_64 : Bool), v119 = .bool x119_64 ∧ Aside0 (deaddropref7_Do.j3 kq a1 x8_3 x9_3 x119_64 l0_0 l0_1 a2_0 a2_1 a2_2 a2_3 = some (r1, r2, r3)) ∧ Aside0 (kq ≤ k3) ∧ Aside0 (Kd.R k32 32 wc w.heap.size (fun _ => True) u8 x8_3) ∧ Aside0 (wc.heap[gb246]? = some (.cells #[(.slice A0_0 l0_0.length c0_0), (.slice A0_1 l0_1.length c0_1)] 28 (0, 0))) ∧ Aside0 (wc.heap[gb247]? = some (.cells #[.int .i64 a2_0, .string a2_1, .string a2_2, .int .i64 a2_3] 40 (0, 0))) ∧ Aside0 (wc.heap[gb248]? = some (.cells #[(.slice none 0 0), (.slice none 0 0), .int .i64 0] 43 (0, 0))) ∧ Aside0 (Below w.heap.size w wc))
        case first =>
         have H := HC65.out
         clear HC65
         by_cases c69 : (x8_3.length : Int) = 0
         ·
          rw [if_pos c69] at H
          have c69b0 : ((x8_3.length : Int) == 0) = true := beq_iff_eq.mpr c69
          have c69b1 : ((x8_3.length : Int) != 0) = false := bne_eq_false_iff_eq.mpr c69
          clear c69
          (first | rw [c69b0] | (simp only [i64_w, i32_w]; rw [c69b0]) | skip)
          by_cases c70 : a2_0 = 3
          ·
           rw [if_pos c70] at H
           have c70b0 : (a2_0 == 3) = true := beq_iff_eq.mpr c70
           have c70b1 : (a2_0 != 3) = false := bne_eq_false_iff_eq.mpr c70
           clear c70
           have H' := Aside0.mk H
           clear H
           obtain ⟨Ao71, co71, eo71⟩ := Kd.R_slice HO_8.out
           subst eo71
           have hnb72 := NB247_246.out
           have hnc72 := NB246_247.out
           have hnb73 := NB247_248.out
           have hnc73 := NB248_247.out
           obtain ⟨hcz74_0, hcz74_1, hcz74_2, hcz74_3⟩ := bx4 BK247.out
           obtain ⟨hfz74_0, hfz74_1, hfz74_2, hfz74_3⟩ := bf4 BK247.out
           go_wp2
           go_meet
           case rel => exact ⟨_, (true), ok_, H', ⟨by have := HJ3.out; have := HJ18.out; have := HK3.out; first | omega | exact Nat.le_refl _⟩, ⟨rk HO_8.out⟩, ⟨bk BK246.out⟩, ⟨bk BK247.out⟩, ⟨bk BK248.out⟩, ⟨bw3 HB.out GE246.out GE247.out GE248.out⟩⟩
          ·
           rw [if_neg c70] at H
           have c70b0 : (a2_0 == 3) = false := beq_eq_false_iff_ne.mpr c70
           have c70b1 : (a2_0 != 3) = true := bne_iff_ne.mpr c70
           have H' := Aside0.mk H
           clear H
           obtain ⟨Ao75, co75, eo75⟩ := Kd.R_slice HO_8.out
           subst eo75
           have hnb76 := NB247_246.out
           have hnc76 := NB246_247.out
           have hnb77 := NB247_248.out
           have hnc77 := NB248_247.out
           obtain ⟨hcz78_0, hcz78_1, hcz78_2, hcz78_3⟩ := bx4 BK247.out
           obtain ⟨hfz78_0, hfz78_1, hfz78_2, hfz78_3⟩ := bf4 BK247.out
           go_wp2
           go_meet
           case rel => exact ⟨_, ((a2_0 == 5)), ok_, H', ⟨by have := HJ3.out; have := HJ18.out; have := HK3.out; first | omega | exact Nat.le_refl _⟩, ⟨rk HO_8.out⟩, ⟨bk BK246.out⟩, ⟨bk BK247.out⟩, ⟨bk BK248.out⟩, ⟨bw3 HB.out GE246.out GE247.out GE248.out⟩⟩
         ·
          rw [if_neg c69] at H
          have c69b0 : ((x8_3.length : Int) == 0) = false := beq_eq_false_iff_ne.mpr c69
          have c69b1 : ((x8_3.length : Int) != 0) = true := bne_iff_ne.mpr c69
          have c69b2 : ¬ (x8_3 = []) := fun h_ => c69 (by rw [h_]; rfl)
          (first | rw [c69b0] | (simp only [i64_w, i32_w]; rw [c69b0]) | skip)
          have H' := Aside0.mk H
          clear H
          obtain ⟨Ao79, co79, eo79⟩ := Kd.R_slice HO_8.out
          subst eo79
          go_wp2
          go_meet
          case rel => exact ⟨_, (false), ok_, H', ⟨by have := HJ3.out; have := HJ18.out; have := HK3.out; first | omega | exact Nat.le_refl _⟩, ⟨rk HO_8.out⟩, ⟨bk BK246.out⟩, ⟨bk BK247.out⟩, ⟨bk BK248.out⟩, ⟨bw3 HB.out GE246.out GE247.out GE248.out⟩⟩
        case rest =>
         revert u13 u14 u15 u16 u17 u18 u19 u20 u21 u22 u23 u24 u25 u26 u27 u28 u29 u30 u31 u32 u33 u34 u35 u36 u37 u38 u39 u40 u41 u42 u43 u44 u45 u46 u47 u48 u49 u50 u51 u52 u53 u54 u55 u56 u57 u58 u59 u60 u61 u62 u63 u64 u65 u66 u67 u68 u69 u70 u71 u72 u73 u74 u75 u76 u77 u78 u79 u80 u81 u82 u83 u84 u85 u86 u87 u88 u89 u90 u91 u92 u93 u94 u95 u96 u97 u98 u99 u100 u101 u102 u103 u104 u105 u106 u107 u108 u109 u110 u111 u112 u113 u114 u115 u116 u117 u118 u119 u120 u121 u122 u123 u124 u125 u126 u127 u128 u129 u130 u131 u132 u133 u134 u135 u136 u137 u138 u139 u140 u141 u142 u143 u144 u145 u146 u147 u148 u149 u150 u151 u152 u153 u154 u155 u156 u157 u158 u159 u160 u161 u162 u163 u164 u165 u166 u167 u168 u169 u170 u171 u172 u173 u174 u175 u176 u177 u178 u179 u180 u181 u182 u183 u184 hcut
         refine id ?_
         intro u13 u14 u15 u16 u17 u18 u19 u20 u21 u22 u23 u24 u25 u26 u27 u28 u29 u30 u31 u32 u33 u34 u35 u36 u37 u38 u39 u40 u41 u42 u43 u44 u45 u46 u47 u48 u49 u50 u51 u52 u53 u54 u55 u56 u57 u58 u59 u60 u61 u62 u63 u64 u65 u66 u67 u68 u69 u70 u71 u72 u73 u74 u75 u76 u77 u78 u79 u80 u81 u82 u83 u84 u85 u86 u87 u88 u89 u90 u91 u92 u93 u94 u95 u96 u97 u98 u99 u100 u101 u102 u103 u104 u105 u106 u107 u108 u109 u110 u111 u112 u113 u114 u115 u116 u117 u118 u119 u120 u121 u122 u123 u124 u125 u126 u127 u128 u129 u130 u131 u132 u133 u134 u135 u136 u137 u138 u139 u140 u141 u142 u143 u144 u145 u146 u147 u148 u149 u150 u151 u152 u153 u154 u155 u156 u157 u158 u159 u160 u161 u162 u163 u164 u165 u166 u167 u168 u169 u170 u171 u172 u173 u174 u175 u176 u177 u178 u179 u180 u181 u182 u183 u184 hcut
         clear HC65
         try clear c43
         try clear c47
         try clear c47b0
         try clear hcz46_0
         try clear hcz46_1
         try clear hcz46_2
         try clear hcz46_3
         try clear hcz68_0
         try clear hcz68_1
         try clear hfz46_0
         try clear hfz46_1
         try clear hfz46_2
         try clear hfz46_3
         try clear hfz68_0
         try clear hfz68_1
         obtain ⟨kq, x119_64, rfl, HA, HJ64, HO_8, BK246, BK247, BK248, HB⟩ := hcut
         cases kq with
         | zero => exact absurd HA.out (by simp [deaddropref7_Do.j3])
         | succ kj64 =>
          have H := HA.out
          clear HA
          simp only [deaddropref7_Do.j3] at H
          by_cases c80 : x119_64 = true
          ·
           subst c80
           have H1 : (some (([] : List (S70)), ([] : List (S34)), 2)) = some (r1, r2, r3) := by rw [if_pos rfl] at H; exact H
           clear H
           have H := H1
           clear H1
           simp only [Option.some.injEq, Prod.mk.injEq] at H
           obtain ⟨rfl, rfl, rfl⟩ := H
           have hnb81 := NB248_246.out
           have hnc81 := NB246_248.out
           have hnb82 := NB248_247.out
           have hnc82 := NB247_248.out
           obtain ⟨hcz83_0, hcz83_1, hcz83_2⟩ := bx3 BK248.out
           obtain ⟨hfz83_0, hfz83_1, hfz83_2⟩ := bf3 BK248.out
           go_wp2
           refine bodyPost_ret (results_cell_row rfl _ _ gb248 43 #[.slice none 0 0, .slice none 0 0, .int .i64 2] (0, 0) _ rfl (by (with_reducible repeat (first | refine blk_drewN ?_ _ | refine blk_drew ?_ | refine blk_alloc ?_ _)); refine blk_put (cs := #[.slice none 0 0, .slice none 0 0, .int .i64 0]) ?_ 2 _ rfl; (with_reducible repeat (first | refine blk_drewN ?_ _ | refine blk_drew ?_ | refine blk_alloc ?_ _)); refine blk_put (cs := #[.slice none 0 0, .slice none 0 0, .int .i64 0]) ?_ 1 _ rfl; (with_reducible repeat (first | refine blk_drewN ?_ _ | refine blk_drew ?_ | refine blk_alloc ?_ _)); refine blk_put (cs := #[.slice none 0 0, .slice none 0 0, .int .i64 0]) ?_ 0 _ rfl; (with_reducible repeat (first | refine blk_drewN ?_ _ | refine blk_drew ?_ | refine blk_alloc ?_ _)); exact BK248.out) Try.underlying43 rfl (by kernel_rfl)) rfl ?_
           exact ⟨_, _, by first | rfl | (simp [errW_none, errW_some] <;> rfl) | (simp [*, errW_none, errW_some] <;> rfl), by first | exact Kd.R_nil _ _ _ _ _ | exact Kd.N_nil _ _ _ _ _ | exact Kd.V_nil _ _ _ _ _ | exact Kd.Q_nil _ _ _ _ _ | exact Kd.S_nil _ _ _ _ _, by first | exact Kd.R_nil _ _ _ _ _ | exact Kd.N_nil _ _ _ _ _ | exact Kd.V_nil _ _ _ _ _ | exact Kd.Q_nil _ _ _ _ _ | exact Kd.S_nil _ _ _ _ _, bw3 HB.out GE246.out GE247.out GE248.out⟩
          ·
           replace c80 := Bool.eq_false_iff.mpr c80
           subst c80
           have H1 : (if a2_0 = 3 then (deaddropref7_Do.j4 kj64 a1 x8_3 x9_3 false l0_0 l0_1 a2_0 a2_1 a2_2 a2_3) else (deaddropref7_Do.j4 kj64 a1 x8_3 x9_3 (a2_0 != 5) l0_0 l0_1 a2_0 a2_1 a2_2 a2_3)) = some (r1, r2, r3) := by rw [if_neg (show ¬ (false = true) by decide)] at H; exact H
           clear H
           have H := H1
           clear H1
           have HC84 := Aside0.mk H
           clear H
           go_upto_region 15 with (first | ((with_reducible refine gate_dst (N := 11) rfl ?_); (try (refine gate_guard (by rfl) ?_; dsimp only)); refine box_event ?hg (N := 11) ?hd (cs := #[.slice none 0 0, .slice none 0 0]) (t := 28) ?hr ?_; (case hd => rfl); (case hg => rfl); (case hr => first | (go_simp; done) | (go_simp; rfl)); intro gb256 hg w85 hbox hb; replace HO_8 := Aside0.mk (Kd.R_below (rk HO_8.out) hb); have BK256 := Aside0.mk (hbox); have GW256 := Aside0.mk ((by rw [hg]; exact (below_size (bw3 HB.out GE246.out GE247.out GE248.out)) : w.heap.size ≤ gb256)); have GE256 := GW256; replace HB := Aside0.mk (below_step (bw3 HB.out GE246.out GE247.out GE248.out) hb); have NB246_256 := Aside0.mk (nbl BK246.out hg); have NB256_246 := Aside0.mk (nbg BK246.out hg); replace BK246 := Aside0.mk (bkb BK246.out hb); have NB247_256 := Aside0.mk (nbl BK247.out hg); have NB256_247 := Aside0.mk (nbg BK247.out hg); replace BK247 := Aside0.mk (bkb BK247.out hb); have NB248_256 := Aside0.mk (nbl BK248.out hg); have NB256_248 := Aside0.mk (nbg BK248.out hg); replace BK248 := Aside0.mk (bkb BK248.out hb); clear hb hbox hg))
           (try simp only [Act.put, List.setIfInBounds_toArray, List.set_cons_zero, List.set_cons_succ])
           go_cut [128] (fun v128 wc => ∃ (kq : Nat) (x128_83 : Bool), v128 = .bool x128_83 ∧ Aside0 (deaddropref7_Do.j4 kq a1 x8_3 x9_3 x128_83 l0_0 l0_1 a2_0 a2_1 a2_2 a2_3 = some (r1, r2, r3)) ∧ Aside0 (kq ≤ kj64) ∧ Aside0 (Kd.R k32 32 wc w.heap.size (fun _ => True) u8 x8_3) ∧ Aside0 (wc.heap[gb246]? = some (.cells #[(.slice A0_0 l0_0.length c0_0), (.slice A0_1 l0_1.length c0_1)] 28 (0, 0))) ∧ Aside0 (wc.heap[gb247]? = some (.cells #[.int .i64 a2_0, .string a2_1, .string a2_2, .int .i64 a2_3] 40 (0, 0))) ∧ Aside0 (wc.heap[gb248]? = some (.cells #[(.slice none 0 0), (.slice none 0 0), .int .i64 0] 43 (0, 0))) ∧ Aside0 (wc.heap[gb256]? = some (.cells #[(.slice none 0 0), (.slice none 0 0)] 28 (0, 0))) ∧ Aside0 (Below w.heap.size w wc))
           case first =>
            have H := HC84.out
            clear HC84
            by_cases c86 : a2_0 = 3
            ·
             rw [if_pos c86] at H
             have c86b0 : (a2_0 == 3) = true := beq_iff_eq.mpr c86
             have c86b1 : (a2_0 != 3) = false := bne_eq_false_iff_eq.mpr c86
             clear c86
             (first | rw [c86b0] | (simp only [i64_w, i32_w]; rw [c86b0]) | skip)
             have H' := Aside0.mk H
             clear H
             have hnb87 := NB247_246.out
             have hnc87 := NB246_247.out
             have hnb88 := NB247_248.out
             have hnc88 := NB248_247.out
             have hnb89 := NB247_256.out
             have hnc89 := NB256_247.out
             obtain ⟨hcz90_0, hcz90_1, hcz90_2, hcz90_3⟩ := bx4 BK247.out
             obtain ⟨hfz90_0, hfz90_1, hfz90_2, hfz90_3⟩ := bf4 BK247.out
             go_wp2
             go_meet
             case rel => exact ⟨_, (false), ok_, H', ⟨by have := HJ3.out; have := HJ18.out; have := HK3.out; have := HJ64.out; first | omega | exact Nat.le_refl _⟩, ⟨rk HO_8.out⟩, ⟨bk BK246.out⟩, ⟨bk BK247.out⟩, ⟨bk BK248.out⟩, ⟨bk BK256.out⟩, ⟨bw4 HB.out GE246.out GE247.out GE248.out GE256.out⟩⟩
            ·
             rw [if_neg c86] at H
             have c86b0 : (a2_0 == 3) = false := beq_eq_false_iff_ne.mpr c86
             have c86b1 : (a2_0 != 3) = true := bne_iff_ne.mpr c86
             (first | rw [c86b0] | (simp only [i64_w, i32_w]; rw [c86b0]) | skip)
             have H' := Aside0.mk H
             clear H
             have hnb91 := NB247_246.out
             have hnc91 := NB246_247.out
             have hnb92 := NB247_248.out
             have hnc92 := NB248_247.out
             have hnb93 := NB247_256.out
             have hnc93 := NB256_247.out
             obtain ⟨hcz94_0, hcz94_1, hcz94_2, hcz94_3⟩ := bx4 BK247.out
             obtain ⟨hfz94_0, hfz94_1, hfz94_2, hfz94_3⟩ := bf4 BK247.out
             go_wp2
             go_meet
             case rel => exact ⟨_, ((a2_0 != 5)), ok_, H', ⟨by have := HJ3.out; have := HJ18.out; have := HK3.out; have := HJ64.out; first | omega | exact Nat.le_refl _⟩, ⟨rk HO_8.out⟩, ⟨bk BK246.out⟩, ⟨bk BK247.out⟩, ⟨bk BK248.out⟩, ⟨bk BK256.out⟩, ⟨bw4 HB.out GE246.out GE247.out GE248.out GE256.out⟩⟩
           case rest =>
            revert u13 u14 u15 u16 u17 u18 u19 u20 u21 u22 u23 u24 u25 u26 u27 u28 u29 u30 u31 u32 u33 u34 u35 u36 u37 u38 u39 u40 u41 u42 u43 u44 u45 u46 u47 u48 u49 u50 u51 u52 u53 u54 u55 u56 u57 u58 u59 u60 u61 u62 u63 u64 u65 u66 u67 u68 u69 u70 u71 u72 u73 u74 u75 u76 u77 u78 u79 u80 u81 u82 u83 u84 u85 u86 u87 u88 u89 u90 u91 u92 u93 u94 u95 u96 u97 u98 u99 u100 u101 u102 u103 u104 u105 u106 u107 u108 u109 u110 u111 u112 u113 u114 u115 u116 u117 u118 u119 u120 u121 u122 u123 u124 u125 u126 u127 u128 u129 u130 u131 u132 u133 u134 u135 u136 u137 u138 u139 u140 u141 u142 u143 u144 u145 u146 u147 u148 u149 u150 u151 u152 u153 u154 u155 u156 u157 u158 u159 u160 u161 u162 u163 u164 u165 u166 u167 u168 u169 u170 u171 u172 u173 u174 u175 u176 u177 u178 u179 u180 u181 u182 u183 u184 hcut
            refine id ?_
            intro u13 u14 u15 u16 u17 u18 u19 u20 u21 u22 u23 u24 u25 u26 u27 u28 u29 u30 u31 u32 u33 u34 u35 u36 u37 u38 u39 u40 u41 u42 u43 u44 u45 u46 u47 u48 u49 u50 u51 u52 u53 u54 u55 u56 u57 u58 u59 u60 u61 u62 u63 u64 u65 u66 u67 u68 u69 u70 u71 u72 u73 u74 u75 u76 u77 u78 u79 u80 u81 u82 u83 u84 u85 u86 u87 u88 u89 u90 u91 u92 u93 u94 u95 u96 u97 u98 u99 u100 u101 u102 u103 u104 u105 u106 u107 u108 u109 u110 u111 u112 u113 u114 u115 u116 u117 u118 u119 u120 u121 u122 u123 u124 u125 u126 u127 u128 u129 u130 u131 u132 u133 u134 u135 u136 u137 u138 u139 u140 u141 u142 u143 u144 u145 u146 u147 u148 u149 u150 u151 u152 u153 u154 u155 u156 u157 u158 u159 u160 u161 u162 u163 u164 u165 u166 u167 u168 u169 u170 u171 u172 u173 u174 u175 u176 u177 u178 u179 u180 u181 u182 u183 u184 hcut
            clear HC84
            try clear c43
            try clear c47
            try clear c47b0
            try clear c80
            try clear hcz46_0
            try clear hcz46_1
            try clear hcz46_2
            try clear hcz46_3
            try clear hcz68_0
            try clear hcz68_1
            try clear hfz46_0
            try clear hfz46_1
            try clear hfz46_2
            try clear hfz46_3
            try clear hfz68_0
            try clear hfz68_1
            obtain ⟨kq, x128_83, rfl, HA, HJ83, HO_8, BK246, BK247, BK248, BK256, HB⟩ := hcut
            cases kq with
            | zero => exact absurd HA.out (by simp [deaddropref7_Do.j4])
            | succ kj83 =>
             have H := HA.out
             clear HA
             simp only [deaddropref7_Do.j4] at H
             have HC95 := Aside0.mk H
             clear H
             go_upto_if 128 with (fail)
             go_cut [8] (fun v8 wc => ∃ (kq : Nat) (x8_94 : List (S32)) (x249002_94 : Int) (x257001_94 : List (S34)) (u257001 : Value), Aside0 (deaddropref7_Do.j6 kq x8_94 l0_0 l0_1 x257001_94 = some (r1, r2, r3)) ∧ Aside0 (kq ≤ kj83) ∧ Aside0 (Kd.R k32 32 wc w.heap.size (fun _ => True) v8 x8_94) ∧ Aside0 (Kd.R k34 34 wc w.heap.size (fun _ => True) u257001 x257001_94) ∧ Aside0 (wc.heap[gb246]? = some (.cells #[(.slice A0_0 l0_0.length c0_0), (.slice A0_1 l0_1.length c0_1)] 28 (0, 0))) ∧ Aside0 (wc.heap[gb247]? = some (.cells #[.int .i64 a2_0, .string a2_1, .string a2_2, .int .i64 a2_3] 40 (0, 0))) ∧ Aside0 (wc.heap[gb248]? = some (.cells #[(.slice none 0 0), (.slice none 0 0), .int .i64 x249002_94] 43 (0, 0))) ∧ Aside0 (wc.heap[gb256]? = some (.cells #[(.slice none 0 0), u257001] 28 (0, 0))) ∧ Aside0 (Below w.heap.size w wc))
             case first =>
              have H := HC95.out
              clear HC95
              by_cases c96 : x128_83 = true
              ·
               subst c96
               have H1 : ((deaddropref7_Last.f kj83 l0_0 a1).bind fun t257 => (if a2_0 = 4 then (deaddropref7_Do.j5 kj83 x8_3 l0_0 l0_1 a1 (wrap64 (t257 + 1)) a2_1 3 (⟨#[]⟩ : ByteArray) x9_3) else (deaddropref7_Do.j5 kj83 x8_3 l0_0 l0_1 a1 (wrap64 (t257 + 1)) a2_1 a2_0 a2_2 0))) = some (r1, r2, r3) := by rw [if_pos rfl] at H; exact H
               clear H
               have H := H1
               clear H1
               replace H := Option.bind_eq_some_iff.mp H
               obtain ⟨t257, A970, H⟩ := H
               replace H : (if a2_0 = 4 then (deaddropref7_Do.j5 kj83 x8_3 l0_0 l0_1 a1 (wrap64 (t257 + 1)) a2_1 3 (⟨#[]⟩ : ByteArray) x9_3) else (deaddropref7_Do.j5 kj83 x8_3 l0_0 l0_1 a1 (wrap64 (t257 + 1)) a2_1 a2_0 a2_2 0)) = some (r1, r2, r3) := H
               have A97 := Aside0.mk A970
               clear A970
               have HC98 := Aside0.mk H
               clear H
               try go_wp2
               replace HO_8 := Aside0.mk (Kd.R_drew HO_8.out)
               replace BK246 := Aside0.mk (blk_drew BK246.out)
               replace BK247 := Aside0.mk (blk_drew BK247.out)
               replace BK248 := Aside0.mk (blk_drew BK248.out)
               replace BK256 := Aside0.mk (blk_drew BK256.out)
               replace HB := Aside0.mk (below_drew1 HB.out)
               refine start_ (n := 16) (S := fun w' => w'.cell? ⟨gb246, 0, none⟩ = some (.slice A0_0 l0_0.length c0_0) ∧ w'.cell? ⟨gb246, 1, none⟩ = some (.slice A0_1 l0_1.length c0_1) ∧ w'.cell? ⟨gb247, 0, none⟩ = some (.int .i64 a2_0) ∧ w'.cell? ⟨gb247, 1, none⟩ = some (.string a2_1) ∧ w'.cell? ⟨gb247, 2, none⟩ = some (.string a2_2) ∧ w'.cell? ⟨gb247, 3, none⟩ = some (.int .i64 a2_3)) (ds := []) (fl 0 16) (by kernel_rfl) rfl rfl ⟨(blk_cell BK246.out 0).trans rfl, (blk_cell BK246.out 1).trans rfl, (blk_cell BK247.out 0).trans rfl, (blk_cell BK247.out 1).trans rfl, (blk_cell BK247.out 2).trans rfl, (blk_cell BK247.out 3).trans rfl⟩ (fun hHeld => ?_); refine with_tabW deaddropref7_Do.tab16 deaddropref7_Do.bits16 (fun HT_ HW_ => ?_)
               generalize wc.drew = w99 at HO_8 BK246 BK247 BK248 BK256 HB hHeld ⊢
               refine pure_ (i := 0) (N := some 129) (fl 1 16) rfl rfl (any_of HT_.out (by kernel_rfl)) (fun _ _ _ h => h) (Or.inl ⟨by rfl, py⟩) pa ?_
               refine pure_ (i := 1) (N := some 130) (fl 2 16) rfl rfl (any_of HT_.out (by kernel_rfl)) (fun _ _ _ h => h) (Or.inl ⟨by rfl, py⟩) pa ?_
               refine pure_ (i := 3) (N := some 132) #[true, true, false, true, false, false, false, false, false, false, false, false, false, false, false, false] rfl rfl (any_of HT_.out (by kernel_rfl)) (fun _ _ _ h => h) (Or.inl ⟨by rfl, py⟩) pa ?_
               refine pure_ (i := 7) (N := some 136) #[true, true, false, true, false, false, false, true, false, false, false, false, false, false, false, false] rfl rfl (any_of HT_.out (by kernel_rfl)) (fun _ _ _ h => h) (Or.inl ⟨by rfl, py⟩) pa ?_
               refine pure_ (i := 9) (N := some 138) #[true, true, false, true, false, false, false, true, false, true, false, false, false, false, false, false] rfl rfl (any_of HT_.out (by kernel_rfl)) (fun _ _ _ h => h) (Or.inl ⟨by rfl, py⟩) pa ?_
               refine pure_ (i := 11) (N := some 140) #[true, true, false, true, false, false, false, true, false, true, false, true, false, false, false, false] rfl rfl (any_of HT_.out (by kernel_rfl)) (fun _ _ _ h => h) (Or.inl ⟨by rfl, py⟩) pa ?_
               refine take_ (i := 2) (N := some 131) #[true, true, true, true, false, false, false, true, false, true, false, true, false, false, false, false] rfl rfl (take_ofW HT_.out HW_.out (by kernel_rfl)) (fun _ _ _ h => h) (Or.inl ⟨by rfl, tk⟩) hHeld pa ?_
               refine take_ (i := 8) (N := some 137) #[true, true, true, true, false, false, false, true, true, true, false, true, false, false, false, false] rfl rfl (take_ofW HT_.out HW_.out (by kernel_rfl)) (fun _ _ _ h => h) (Or.inl ⟨by rfl, tk⟩) hHeld pa ?_
               refine take_ (i := 10) (N := some 139) #[true, true, true, true, false, false, false, true, true, true, true, true, false, false, false, false] rfl rfl (take_ofW HT_.out HW_.out (by kernel_rfl)) (fun _ _ _ h => h) (Or.inl ⟨by rfl, tk⟩) hHeld pa ?_
               refine take_ (i := 12) (N := some 141) #[true, true, true, true, false, false, false, true, true, true, true, true, true, false, false, false] rfl rfl (take_ofW HT_.out HW_.out (by kernel_rfl)) (fun _ _ _ h => h) (Or.inl ⟨by rfl, tk⟩) hHeld pa ?_
               refine join_ (σ := Nat) 1 (fl 15 16) (fun s_ => [(133, .int .i64 t257), (12, .pointer (some ⟨s_, 0, none⟩)), (134, .int .i64 (wrap64 (t257 + 1))), (135, .agg #[.int .i64 a1, .int .i64 (wrap64 (t257 + 1))]), (142, .agg #[.int .i64 a1, .int .i64 (wrap64 (t257 + 1)), .string a2_1, .int .i64 a2_0, .string a2_2, .int .i64 0])]) (fun s_ w' => (w'.cell? ⟨gb246, 0, none⟩ = some (.slice A0_0 l0_0.length c0_0) ∧ w'.cell? ⟨gb246, 1, none⟩ = some (.slice A0_1 l0_1.length c0_1) ∧ w'.cell? ⟨gb247, 0, none⟩ = some (.int .i64 a2_0) ∧ w'.cell? ⟨gb247, 1, none⟩ = some (.string a2_1) ∧ w'.cell? ⟨gb247, 2, none⟩ = some (.string a2_2) ∧ w'.cell? ⟨gb247, 3, none⟩ = some (.int .i64 a2_3)) ∧ (Kd.R k32 32 w' w.heap.size (fun _ => True) u8 x8_3) ∧ (w'.heap[gb246]? = some (.cells #[.slice A0_0 l0_0.length c0_0, .slice A0_1 l0_1.length c0_1] 28 (0, 0))) ∧ (w'.heap[gb247]? = some (.cells #[.int .i64 a2_0, .string a2_1, .string a2_2, .int .i64 a2_3] 40 (0, 0))) ∧ (w'.heap[gb248]? = some (.cells #[.slice none 0 0, .slice none 0 0, .int .i64 0] 43 (0, 0))) ∧ (w'.heap[gb256]? = some (.cells #[.slice none 0 0, .slice none 0 0] 28 (0, 0))) ∧ (w'.heap[s_]? = some (.cells #[.int .i64 0, .int .i64 0, .string (⟨#[]⟩ : ByteArray), .int .i64 0, .string (⟨#[]⟩ : ByteArray), .int .i64 0] 34 (0, 0))) ∧ (w.heap.size ≤ s_) ∧ (w.heap.size ≤ s_) ∧ (gb246 ≠ s_) ∧ (s_ ≠ gb246) ∧ (gb247 ≠ s_) ∧ (s_ ≠ gb247) ∧ (gb248 ≠ s_) ∧ (s_ ≠ gb248) ∧ (gb256 ≠ s_) ∧ (s_ ≠ gb256) ∧ (Below w.heap.size w w')) ?_ ?_
               rotate_left
               ·
                intro hCont
                refine two_ (i := 4) (j := 14) (Ni := some 133) (Nj := some 12) #[true, true, true, true, true, false, false, true, true, true, true, true, true, false, false, false] #[true, true, true, true, false, false, false, true, true, true, true, true, true, false, true, false] rfl rfl rfl rfl (two_of HT_.out (by kernel_rfl)) (by decide) (by decide) (fun K hK => ?_) (fun K hK => ?_)
                ·
                 skip
                 refine goes_ Try.func30 (by kernel_rfl) rfl #[.slice A0_0 l0_0.length c0_0, .int .i64 a1] (by rfl) rfl rfl ar_ ?_
                 with_reducible refine (deaddropref7_Last.calls kj83 _ _ l0_0 a1 t257 _ ?side1 ?side2 A97.out).mono ?_
                 (case side1 => exact cr (Kd.C_below HR0_0.out HB.out))
                 (case side2 => exact HC0_0.out)
                 rintro e w100 ⟨rfl, hb⟩
                 refine ⟨_, rfl, ?_⟩
                 replace HO_8 := Aside0.mk (Kd.R_below (rk HO_8.out) hb)
                 replace BK246 := Aside0.mk (bkb BK246.out hb)
                 replace BK247 := Aside0.mk (bkb BK247.out hb)
                 replace BK248 := Aside0.mk (bkb BK248.out hb)
                 replace BK256 := Aside0.mk (bkb BK256.out hb)
                 replace HB := Aside0.mk (below_step (bw4 HB.out GE246.out GE247.out GE248.out GE256.out) hb)
                 (try clear hb)
                 (try clear hb2)
                 (try clear hk)
                 (try clear hi)
                 refine hK.out _ _ ⟨(blk_cell BK246.out 0).trans rfl, (blk_cell BK246.out 1).trans rfl, (blk_cell BK247.out 0).trans rfl, (blk_cell BK247.out 1).trans rfl, (blk_cell BK247.out 2).trans rfl, (blk_cell BK247.out 3).trans rfl⟩ (fun hHeld => ?_)
                 clear hK K
                 refine norm_ (a' := ?_) ?_ ?_
                 rotate_left
                 ·
                  show Act.put _ (some 133) _ = _
                  simp only [Act.put, List.setIfInBounds_toArray, List.set_cons_zero, List.set_cons_succ, i64_w, i32_w]
                  rfl
                 refine pure_ (i := 5) (N := some 134) #[true, true, true, true, true, true, false, true, true, true, true, true, true, false, false, false] rfl rfl (any_of HT_.out (by kernel_rfl)) (fun _ _ _ h => h) (Or.inl ⟨by rfl, py⟩) pa ?_
                 refine pure_ (i := 6) (N := some 135) (fl 13 16) rfl rfl (any_of HT_.out (by kernel_rfl)) (fun _ _ _ h => h) (Or.inl ⟨by rfl, py⟩) pa ?_
                 refine pure_ (i := 13) (N := some 142) (fl 14 16) rfl rfl (any_of HT_.out (by kernel_rfl)) (fun _ _ _ h => h) (Or.inl ⟨by rfl, py⟩) pa ?_
                 refine one_ (i := 14) (N := some 12) (fl 15 16) rfl rfl (one_of HT_.out (by kernel_rfl)) (by decide) (fun K hK => ?_)
                 refine box_step ?hg (N := 12) ?hd (cs := #[.int .i64 0, .int .i64 0, .string (⟨#[]⟩ : ByteArray), .int .i64 0, .string (⟨#[]⟩ : ByteArray), .int .i64 0]) (t := 34) ?hr ?_; (case hd => rfl); (case hg => rfl); (case hr => first | (go_simp; done) | (go_simp; rfl))
                 intro gb258 hg w101 hbox hb
                 replace HO_8 := Aside0.mk (Kd.R_below (rk HO_8.out) hb)
                 have BK258 := Aside0.mk (hbox)
                 have GW258 := Aside0.mk ((by rw [hg]; exact (below_size (bw4 HB.out GE246.out GE247.out GE248.out GE256.out)) : w.heap.size ≤ gb258))
                 have GE258 := GW258
                 replace HB := Aside0.mk (below_step (bw4 HB.out GE246.out GE247.out GE248.out GE256.out) hb)
                 have NB246_258 := Aside0.mk (nbl BK246.out hg)
                 have NB258_246 := Aside0.mk (nbg BK246.out hg)
                 replace BK246 := Aside0.mk (bkb BK246.out hb)
                 have NB247_258 := Aside0.mk (nbl BK247.out hg)
                 have NB258_247 := Aside0.mk (nbg BK247.out hg)
                 replace BK247 := Aside0.mk (bkb BK247.out hb)
                 have NB248_258 := Aside0.mk (nbl BK248.out hg)
                 have NB258_248 := Aside0.mk (nbg BK248.out hg)
                 replace BK248 := Aside0.mk (bkb BK248.out hb)
                 have NB256_258 := Aside0.mk (nbl BK256.out hg)
                 have NB258_256 := Aside0.mk (nbg BK256.out hg)
                 replace BK256 := Aside0.mk (bkb BK256.out hb)
                 clear hb hbox hg
                 refine hK.out _ _ ⟨(blk_cell BK246.out 0).trans rfl, (blk_cell BK246.out 1).trans rfl, (blk_cell BK247.out 0).trans rfl, (blk_cell BK247.out 1).trans rfl, (blk_cell BK247.out 2).trans rfl, (blk_cell BK247.out 3).trans rfl⟩ (fun hHeld => ?_)
                 clear hK K
                 refine norm_ (a' := ?_) ?_ ?_
                 rotate_left
                 ·
                  show Act.put _ (some 12) _ = _
                  simp only [Act.put, List.setIfInBounds_toArray, List.set_cons_zero, List.set_cons_succ, i64_w, i32_w]
                  rfl
                 exact norm_ (by simp only [putAll, Act.put, List.setIfInBounds_toArray, List.set_cons_zero, List.set_cons_succ]) (hCont (gb258) _ ⟨hHeld, (rk HO_8.out), (bk BK246.out), (bk BK247.out), (bk BK248.out), (bk BK256.out), (bk BK258.out), GW258.out, GE258.out, NB246_258.out, NB258_246.out, NB247_258.out, NB258_247.out, NB248_258.out, NB258_248.out, NB256_258.out, NB258_256.out, (bw5 HB.out GE246.out GE247.out GE248.out GE256.out GE258.out)⟩)
                ·
                 skip
                 refine box_step ?hg (N := 12) ?hd (cs := #[.int .i64 0, .int .i64 0, .string (⟨#[]⟩ : ByteArray), .int .i64 0, .string (⟨#[]⟩ : ByteArray), .int .i64 0]) (t := 34) ?hr ?_; (case hd => rfl); (case hg => rfl); (case hr => first | (go_simp; done) | (go_simp; rfl))
                 intro gb258 hg w100 hbox hb
                 replace HO_8 := Aside0.mk (Kd.R_below (rk HO_8.out) hb)
                 have BK258 := Aside0.mk (hbox)
                 have GW258 := Aside0.mk ((by rw [hg]; exact (below_size (bw4 HB.out GE246.out GE247.out GE248.out GE256.out)) : w.heap.size ≤ gb258))
                 have GE258 := GW258
                 replace HB := Aside0.mk (below_step (bw4 HB.out GE246.out GE247.out GE248.out GE256.out) hb)
                 have NB246_258 := Aside0.mk (nbl BK246.out hg)
                 have NB258_246 := Aside0.mk (nbg BK246.out hg)
                 replace BK246 := Aside0.mk (bkb BK246.out hb)
                 have NB247_258 := Aside0.mk (nbl BK247.out hg)
                 have NB258_247 := Aside0.mk (nbg BK247.out hg)
                 replace BK247 := Aside0.mk (bkb BK247.out hb)
                 have NB248_258 := Aside0.mk (nbl BK248.out hg)
                 have NB258_248 := Aside0.mk (nbg BK248.out hg)
                 replace BK248 := Aside0.mk (bkb BK248.out hb)
                 have NB256_258 := Aside0.mk (nbl BK256.out hg)
                 have NB258_256 := Aside0.mk (nbg BK256.out hg)
                 replace BK256 := Aside0.mk (bkb BK256.out hb)
                 clear hb hbox hg
                 refine hK.out _ _ ⟨(blk_cell BK246.out 0).trans rfl, (blk_cell BK246.out 1).trans rfl, (blk_cell BK247.out 0).trans rfl, (blk_cell BK247.out 1).trans rfl, (blk_cell BK247.out 2).trans rfl, (blk_cell BK247.out 3).trans rfl⟩ (fun hHeld => ?_)
                 clear hK K
                 refine norm_ (a' := ?_) ?_ ?_
                 rotate_left
                 ·
                  show Act.put _ (some 12) _ = _
                  simp only [Act.put, List.setIfInBounds_toArray, List.set_cons_zero, List.set_cons_succ, i64_w, i32_w]
                  rfl
                 refine one_ (i := 4) (N := some 133) #[true, true, true, true, true, false, false, true, true, true, true, true, true, false, true, false] rfl rfl (one_of HT_.out (by kernel_rfl)) (by decide) (fun K hK => ?_)
                 refine goes_ Try.func30 (by kernel_rfl) rfl #[.slice A0_0 l0_0.length c0_0, .int .i64 a1] (by rfl) rfl rfl ar_ ?_
                 with_reducible refine (deaddropref7_Last.calls kj83 _ _ l0_0 a1 t257 _ ?side1 ?side2 A97.out).mono ?_
                 (case side1 => exact cr (Kd.C_below HR0_0.out HB.out))
                 (case side2 => exact HC0_0.out)
                 rintro e w101 ⟨rfl, hb⟩
                 refine ⟨_, rfl, ?_⟩
                 replace HO_8 := Aside0.mk (Kd.R_below (rk HO_8.out) hb)
                 replace BK246 := Aside0.mk (bkb BK246.out hb)
                 replace BK247 := Aside0.mk (bkb BK247.out hb)
                 replace BK248 := Aside0.mk (bkb BK248.out hb)
                 replace BK256 := Aside0.mk (bkb BK256.out hb)
                 replace BK258 := Aside0.mk (bkb BK258.out hb)
                 replace HB := Aside0.mk (below_step (bw5 HB.out GE246.out GE247.out GE248.out GE256.out GE258.out) hb)
                 (try clear hb)
                 (try clear hb2)
                 (try clear hk)
                 (try clear hi)
                 refine hK.out _ _ ⟨(blk_cell BK246.out 0).trans rfl, (blk_cell BK246.out 1).trans rfl, (blk_cell BK247.out 0).trans rfl, (blk_cell BK247.out 1).trans rfl, (blk_cell BK247.out 2).trans rfl, (blk_cell BK247.out 3).trans rfl⟩ (fun hHeld => ?_)
                 clear hK K
                 refine norm_ (a' := ?_) ?_ ?_
                 rotate_left
                 ·
                  show Act.put _ (some 133) _ = _
                  simp only [Act.put, List.setIfInBounds_toArray, List.set_cons_zero, List.set_cons_succ, i64_w, i32_w]
                  rfl
                 refine pure_ (i := 5) (N := some 134) #[true, true, true, true, true, true, false, true, true, true, true, true, true, false, true, false] rfl rfl (any_of HT_.out (by kernel_rfl)) (fun _ _ _ h => h) (Or.inl ⟨by rfl, py⟩) pa ?_
                 refine pure_ (i := 6) (N := some 135) #[true, true, true, true, true, true, true, true, true, true, true, true, true, false, true, false] rfl rfl (any_of HT_.out (by kernel_rfl)) (fun _ _ _ h => h) (Or.inl ⟨by rfl, py⟩) pa ?_
                 refine pure_ (i := 13) (N := some 142) (fl 15 16) rfl rfl (any_of HT_.out (by kernel_rfl)) (fun _ _ _ h => h) (Or.inl ⟨by rfl, py⟩) pa ?_
                 exact norm_ (by simp only [putAll, Act.put, List.setIfInBounds_toArray, List.set_cons_zero, List.set_cons_succ]) (hCont (gb258) _ ⟨hHeld, (rk HO_8.out), (bk BK246.out), (bk BK247.out), (bk BK248.out), (bk BK256.out), (bk BK258.out), GW258.out, GE258.out, NB246_258.out, NB258_246.out, NB247_258.out, NB258_247.out, NB248_258.out, NB258_248.out, NB256_258.out, NB258_256.out, (bw5 HB.out GE246.out GE247.out GE248.out GE256.out GE258.out)⟩)
               rintro gb258 w102 ⟨hS_, h0_, h1_, h2_, h3_, h4_, h5_, h6_, h7_, h8_, h9_, h10_, h11_, h12_, h13_, h14_, h15_, h16_⟩
               have n0_ : Aside0 (Kd.R k32 32 w102 w.heap.size (fun _ => True) u8 x8_3) := ⟨h0_⟩
               have n1_ : Aside0 (w102.heap[gb246]? = some (.cells #[.slice A0_0 l0_0.length c0_0, .slice A0_1 l0_1.length c0_1] 28 (0, 0))) := ⟨h1_⟩
               have n2_ : Aside0 (w102.heap[gb247]? = some (.cells #[.int .i64 a2_0, .string a2_1, .string a2_2, .int .i64 a2_3] 40 (0, 0))) := ⟨h2_⟩
               have n3_ : Aside0 (w102.heap[gb248]? = some (.cells #[.slice none 0 0, .slice none 0 0, .int .i64 0] 43 (0, 0))) := ⟨h3_⟩
               have n4_ : Aside0 (w102.heap[gb256]? = some (.cells #[.slice none 0 0, .slice none 0 0] 28 (0, 0))) := ⟨h4_⟩
               have n5_ : Aside0 (w102.heap[gb258]? = some (.cells #[.int .i64 0, .int .i64 0, .string (⟨#[]⟩ : ByteArray), .int .i64 0, .string (⟨#[]⟩ : ByteArray), .int .i64 0] 34 (0, 0))) := ⟨h5_⟩
               have n6_ : Aside0 (w.heap.size ≤ gb258) := ⟨h6_⟩
               have n7_ : Aside0 (w.heap.size ≤ gb258) := ⟨h7_⟩
               have n8_ : Aside0 (gb246 ≠ gb258) := ⟨h8_⟩
               have n9_ : Aside0 (gb258 ≠ gb246) := ⟨h9_⟩
               have n10_ : Aside0 (gb247 ≠ gb258) := ⟨h10_⟩
               have n11_ : Aside0 (gb258 ≠ gb247) := ⟨h11_⟩
               have n12_ : Aside0 (gb248 ≠ gb258) := ⟨h12_⟩
               have n13_ : Aside0 (gb258 ≠ gb248) := ⟨h13_⟩
               have n14_ : Aside0 (gb256 ≠ gb258) := ⟨h14_⟩
               have n15_ : Aside0 (gb258 ≠ gb256) := ⟨h15_⟩
               have n16_ : Aside0 (Below w.heap.size w w102) := ⟨h16_⟩
               clear HO_8
               clear BK246
               clear BK247
               clear BK248
               clear BK256
               clear HB
               clear h0_ h1_ h2_ h3_ h4_ h5_ h6_ h7_ h8_ h9_ h10_ h11_ h12_ h13_ h14_ h15_ h16_
               have HO_8 := n0_
               have BK246 := n1_
               have BK247 := n2_
               have BK248 := n3_
               have BK256 := n4_
               have BK258 := n5_
               have GW258 := n6_
               have GE258 := n7_
               have NB246_258 := n8_
               have NB258_246 := n9_
               have NB247_258 := n10_
               have NB258_247 := n11_
               have NB248_258 := n12_
               have NB258_248 := n13_
               have NB256_258 := n14_
               have NB258_256 := n15_
               have HB := n16_
               clear n0_ n1_ n2_ n3_ n4_ n5_ n6_ n7_ n8_ n9_ n10_ n11_ n12_ n13_ n14_ n15_ n16_
               have hHeld : w102.cell? ⟨gb246, 0, none⟩ = some (.slice A0_0 l0_0.length c0_0) ∧ w102.cell? ⟨gb246, 1, none⟩ = some (.slice A0_1 l0_1.length c0_1) ∧ w102.cell? ⟨gb247, 0, none⟩ = some (.int .i64 a2_0) ∧ w102.cell? ⟨gb247, 1, none⟩ = some (.string a2_1) ∧ w102.cell? ⟨gb247, 2, none⟩ = some (.string a2_2) ∧ w102.cell? ⟨gb247, 3, none⟩ = some (.int .i64 a2_3) := hS_
               refine norm_ (a' := ?_) ?_ ?_
               rotate_left
               ·
                simp only [putAll, Act.put, List.setIfInBounds_toArray, List.set_cons_zero, List.set_cons_succ]
                rfl
               refine one_ (i := 15) (N := none) (fl 16 16) rfl rfl (one_of HT_.out (by kernel_rfl)) (by decide) (fun K hK => ?_)
               have hs103 : w102.cell? ⟨gb258, 0, none⟩ = some (.int .i64 0) := (blk_cell BK258.out 0).trans rfl
               have hfs103 := blk_frozen BK258.out 0
               have hns103_0 := NB246_258.out
               have hns103_1 := NB247_258.out
               have hns103_2 := NB248_258.out
               have hns103_3 := NB256_258.out
               have hms103_0 := NB258_246.out
               have hms103_1 := NB258_247.out
               have hms103_2 := NB258_248.out
               have hms103_3 := NB258_256.out
               have hs104 : w102.cell? ⟨gb258, 1, none⟩ = some (.int .i64 0) := (blk_cell BK258.out 1).trans rfl
               have hfs104 := blk_frozen BK258.out 1
               have hns104_0 := NB246_258.out
               have hns104_1 := NB247_258.out
               have hns104_2 := NB248_258.out
               have hns104_3 := NB256_258.out
               have hms104_0 := NB258_246.out
               have hms104_1 := NB258_247.out
               have hms104_2 := NB258_248.out
               have hms104_3 := NB258_256.out
               have hs105 : w102.cell? ⟨gb258, 2, none⟩ = some (.string (⟨#[]⟩ : ByteArray)) := (blk_cell BK258.out 2).trans rfl
               have hfs105 := blk_frozen BK258.out 2
               have hns105_0 := NB246_258.out
               have hns105_1 := NB247_258.out
               have hns105_2 := NB248_258.out
               have hns105_3 := NB256_258.out
               have hms105_0 := NB258_246.out
               have hms105_1 := NB258_247.out
               have hms105_2 := NB258_248.out
               have hms105_3 := NB258_256.out
               have hs106 : w102.cell? ⟨gb258, 3, none⟩ = some (.int .i64 0) := (blk_cell BK258.out 3).trans rfl
               have hfs106 := blk_frozen BK258.out 3
               have hns106_0 := NB246_258.out
               have hns106_1 := NB247_258.out
               have hns106_2 := NB248_258.out
               have hns106_3 := NB256_258.out
               have hms106_0 := NB258_246.out
               have hms106_1 := NB258_247.out
               have hms106_2 := NB258_248.out
               have hms106_3 := NB258_256.out
               have hs107 : w102.cell? ⟨gb258, 4, none⟩ = some (.string (⟨#[]⟩ : ByteArray)) := (blk_cell BK258.out 4).trans rfl
               have hfs107 := blk_frozen BK258.out 4
               have hns107_0 := NB246_258.out
               have hns107_1 := NB247_258.out
               have hns107_2 := NB248_258.out
               have hns107_3 := NB256_258.out
               have hms107_0 := NB258_246.out
               have hms107_1 := NB258_247.out
               have hms107_2 := NB258_248.out
               have hms107_3 := NB258_256.out
               have hs108 : w102.cell? ⟨gb258, 5, none⟩ = some (.int .i64 0) := (blk_cell BK258.out 5).trans rfl
               have hfs108 := blk_frozen BK258.out 5
               have hns108_0 := NB246_258.out
               have hns108_1 := NB247_258.out
               have hns108_2 := NB248_258.out
               have hns108_3 := NB256_258.out
               have hms108_0 := NB258_246.out
               have hms108_1 := NB258_247.out
               have hms108_2 := NB258_248.out
               have hms108_3 := NB258_256.out
               refine skip_ (w1 := ?_) (by rfl) rfl ?_ ?_
               rotate_left
               ·
                go_simp
                rfl
               refine hK.out _ _ ⟨((cell_far (p := ⟨gb258, _, none⟩) NB246_258.out _).trans (((cell_far (p := ⟨gb258, _, none⟩) NB246_258.out _).trans (((cell_far (p := ⟨gb258, _, none⟩) NB246_258.out _).trans (((cell_far (p := ⟨gb258, _, none⟩) NB246_258.out _).trans (((cell_far (p := ⟨gb258, _, none⟩) NB246_258.out _).trans (((cell_far (p := ⟨gb258, _, none⟩) NB246_258.out _).trans (hHeld.1)))))))))))), ((cell_far (p := ⟨gb258, _, none⟩) NB246_258.out _).trans (((cell_far (p := ⟨gb258, _, none⟩) NB246_258.out _).trans (((cell_far (p := ⟨gb258, _, none⟩) NB246_258.out _).trans (((cell_far (p := ⟨gb258, _, none⟩) NB246_258.out _).trans (((cell_far (p := ⟨gb258, _, none⟩) NB246_258.out _).trans (((cell_far (p := ⟨gb258, _, none⟩) NB246_258.out _).trans (hHeld.2.1)))))))))))), ((cell_far (p := ⟨gb258, _, none⟩) NB247_258.out _).trans (((cell_far (p := ⟨gb258, _, none⟩) NB247_258.out _).trans (((cell_far (p := ⟨gb258, _, none⟩) NB247_258.out _).trans (((cell_far (p := ⟨gb258, _, none⟩) NB247_258.out _).trans (((cell_far (p := ⟨gb258, _, none⟩) NB247_258.out _).trans (((cell_far (p := ⟨gb258, _, none⟩) NB247_258.out _).trans (hHeld.2.2.1)))))))))))), ((cell_far (p := ⟨gb258, _, none⟩) NB247_258.out _).trans (((cell_far (p := ⟨gb258, _, none⟩) NB247_258.out _).trans (((cell_far (p := ⟨gb258, _, none⟩) NB247_258.out _).trans (((cell_far (p := ⟨gb258, _, none⟩) NB247_258.out _).trans (((cell_far (p := ⟨gb258, _, none⟩) NB247_258.out _).trans (((cell_far (p := ⟨gb258, _, none⟩) NB247_258.out _).trans (hHeld.2.2.2.1)))))))))))), ((cell_far (p := ⟨gb258, _, none⟩) NB247_258.out _).trans (((cell_far (p := ⟨gb258, _, none⟩) NB247_258.out _).trans (((cell_far (p := ⟨gb258, _, none⟩) NB247_258.out _).trans (((cell_far (p := ⟨gb258, _, none⟩) NB247_258.out _).trans (((cell_far (p := ⟨gb258, _, none⟩) NB247_258.out _).trans (((cell_far (p := ⟨gb258, _, none⟩) NB247_258.out _).trans (hHeld.2.2.2.2.1)))))))))))), ((cell_far (p := ⟨gb258, _, none⟩) NB247_258.out _).trans (((cell_far (p := ⟨gb258, _, none⟩) NB247_258.out _).trans (((cell_far (p := ⟨gb258, _, none⟩) NB247_258.out _).trans (((cell_far (p := ⟨gb258, _, none⟩) NB247_258.out _).trans (((cell_far (p := ⟨gb258, _, none⟩) NB247_258.out _).trans (((cell_far (p := ⟨gb258, _, none⟩) NB247_258.out _).trans (hHeld.2.2.2.2.2))))))))))))⟩ (fun hHeld => ?_)
               clear hK K
               refine done_ (done_of HT_.out (by kernel_rfl)) ?_
               have hnb109 := NB247_246.out
               have hnc109 := NB246_247.out
               have hnb110 := NB247_248.out
               have hnc110 := NB248_247.out
               have hnb111 := NB247_256.out
               have hnc111 := NB256_247.out
               have hnb112 := NB247_258.out
               have hnc112 := NB258_247.out
               obtain ⟨hcz113_0, hcz113_1, hcz113_2, hcz113_3⟩ := bx4 BK247.out
               obtain ⟨hfz113_0, hfz113_1, hfz113_2, hfz113_3⟩ := bf4 BK247.out
               go_upto_if 145 with (fail)
               go_cut [] (fun wc => ∃ (kq : Nat) (x259003_97 : Int) (x259004_97 : ByteArray) (x259005_97 : Int), Aside0 (deaddropref7_Do.j5 kq x8_3 l0_0 l0_1 a1 (wrap64 (t257 + 1)) a2_1 x259003_97 x259004_97 x259005_97 = some (r1, r2, r3)) ∧ Aside0 (kq ≤ kj83) ∧ Aside0 (Kd.R k32 32 wc w.heap.size (fun _ => True) u8 x8_3) ∧ Aside0 (wc.heap[gb246]? = some (.cells #[(.slice A0_0 l0_0.length c0_0), (.slice A0_1 l0_1.length c0_1)] 28 (0, 0))) ∧ Aside0 (wc.heap[gb247]? = some (.cells #[.int .i64 a2_0, .string a2_1, .string a2_2, .int .i64 a2_3] 40 (0, 0))) ∧ Aside0 (wc.heap[gb248]? = some (.cells #[(.slice none 0 0), (.slice none 0 0), .int .i64 0] 43 (0, 0))) ∧ Aside0 (wc.heap[gb256]? = some (.cells #[(.slice none 0 0), (.slice none 0 0)] 28 (0, 0))) ∧ Aside0 (wc.heap[gb258]? = some (.cells #[.int .i64 a1, .int .i64 (wrap64 (t257 + 1)), .string a2_1, .int .i64 x259003_97, .string x259004_97, .int .i64 x259005_97] 34 (0, 0))) ∧ Aside0 (Below w.heap.size w wc))
               case first =>
                have H := HC98.out
                clear HC98
                by_cases c114 : a2_0 = 4
                ·
                 rw [if_pos c114] at H
                 have c114b0 : (a2_0 == 4) = true := beq_iff_eq.mpr c114
                 have c114b1 : (a2_0 != 4) = false := bne_eq_false_iff_eq.mpr c114
                 clear c114
                 (first | rw [c114b0] | (simp only [i64_w, i32_w]; rw [c114b0]) | skip)
                 have H' := Aside0.mk H
                 clear H
                 have hnb115 := NB258_246.out
                 have hnc115 := NB246_258.out
                 have hnb116 := NB258_247.out
                 have hnc116 := NB247_258.out
                 have hnb117 := NB258_248.out
                 have hnc117 := NB248_258.out
                 have hnb118 := NB258_256.out
                 have hnc118 := NB256_258.out
                 obtain ⟨hcz119_0, hcz119_1, hcz119_2, hcz119_3, hcz119_4, hcz119_5⟩ := bx6 BK258.out
                 obtain ⟨hfz119_0, hfz119_1, hfz119_2, hfz119_3, hfz119_4, hfz119_5⟩ := bf6 BK258.out
                 go_wp2
                 go_meet
                 case rel => exact ⟨_, (3), ((⟨#[]⟩ : ByteArray)), (x9_3), H', ⟨by have := HJ3.out; have := HJ18.out; have := HK3.out; have := HJ64.out; have := HJ83.out; first | omega | exact Nat.le_refl _⟩, ⟨by (with_reducible repeat (first | apply Kd.R_alloc | apply Kd.R_drewN | apply Kd.R_drew)); exact Kd.R_mono (Kd.R_far (p := ⟨gb258, 5, none⟩) (Kd.R_far (p := ⟨gb258, 4, none⟩) (Kd.R_far (p := ⟨gb258, 3, none⟩) (Kd.R_far (p := ⟨gb258, 5, none⟩) (Kd.R_far (p := ⟨gb258, 4, none⟩) (Kd.R_far (p := ⟨gb258, 3, none⟩) (Kd.R_far (p := ⟨gb258, 2, none⟩) (Kd.R_far (p := ⟨gb258, 1, none⟩) (Kd.R_far (p := ⟨gb258, 0, none⟩) (Kd.R_types HO_8.out BK258.out (by decide)) (fun _ hk => hk.2) (.int .i64 a1)) (fun _ hk => hk.2) (.int .i64 (wrap64 (t257 + 1)))) (fun _ hk => hk.2) (.string a2_1)) (fun _ hk => hk.2) (.int .i64 a2_0)) (fun _ hk => hk.2) (.string a2_2)) (fun _ hk => hk.2) (.int .i64 0)) (fun _ hk => hk.2) (.int .i64 3)) (fun _ hk => hk.2) (.string (⟨#[]⟩ : ByteArray))) (fun _ hk => hk.2) (.int .i64 x9_3)) (fun _ hk => trivial)⟩, ⟨by (with_reducible repeat (first | refine blk_drewN ?_ _ | refine blk_drew ?_ | refine blk_alloc ?_ _)); refine blk_far ?_ NB246_258.out _; (with_reducible repeat (first | refine blk_drewN ?_ _ | refine blk_drew ?_ | refine blk_alloc ?_ _)); refine blk_far ?_ NB246_258.out _; (with_reducible repeat (first | refine blk_drewN ?_ _ | refine blk_drew ?_ | refine blk_alloc ?_ _)); refine blk_far ?_ NB246_258.out _; (with_reducible repeat (first | refine blk_drewN ?_ _ | refine blk_drew ?_ | refine blk_alloc ?_ _)); refine blk_far ?_ NB246_258.out _; (with_reducible repeat (first | refine blk_drewN ?_ _ | refine blk_drew ?_ | refine blk_alloc ?_ _)); refine blk_far ?_ NB246_258.out _; (with_reducible repeat (first | refine blk_drewN ?_ _ | refine blk_drew ?_ | refine blk_alloc ?_ _)); refine blk_far ?_ NB246_258.out _; (with_reducible repeat (first | refine blk_drewN ?_ _ | refine blk_drew ?_ | refine blk_alloc ?_ _)); refine blk_far ?_ NB246_258.out _; (with_reducible repeat (first | refine blk_drewN ?_ _ | refine blk_drew ?_ | refine blk_alloc ?_ _)); refine blk_far ?_ NB246_258.out _; (with_reducible repeat (first | refine blk_drewN ?_ _ | refine blk_drew ?_ | refine blk_alloc ?_ _)); refine blk_far ?_ NB246_258.out _; (with_reducible repeat (first | refine blk_drewN ?_ _ | refine blk_drew ?_ | refine blk_alloc ?_ _)); exact BK246.out⟩, ⟨by (with_reducible repeat (first | refine blk_drewN ?_ _ | refine blk_drew ?_ | refine blk_alloc ?_ _)); refine blk_far ?_ NB247_258.out _; (with_reducible repeat (first | refine blk_drewN ?_ _ | refine blk_drew ?_ | refine blk_alloc ?_ _)); refine blk_far ?_ NB247_258.out _; (with_reducible repeat (first | refine blk_drewN ?_ _ | refine blk_drew ?_ | refine blk_alloc ?_ _)); refine blk_far ?_ NB247_258.out _; (with_reducible repeat (first | refine blk_drewN ?_ _ | refine blk_drew ?_ | refine blk_alloc ?_ _)); refine blk_far ?_ NB247_258.out _; (with_reducible repeat (first | refine blk_drewN ?_ _ | refine blk_drew ?_ | refine blk_alloc ?_ _)); refine blk_far ?_ NB247_258.out _; (with_reducible repeat (first | refine blk_drewN ?_ _ | refine blk_drew ?_ | refine blk_alloc ?_ _)); refine blk_far ?_ NB247_258.out _; (with_reducible repeat (first | refine blk_drewN ?_ _ | refine blk_drew ?_ | refine blk_alloc ?_ _)); refine blk_far ?_ NB247_258.out _; (with_reducible repeat (first | refine blk_drewN ?_ _ | refine blk_drew ?_ | refine blk_alloc ?_ _)); refine blk_far ?_ NB247_258.out _; (with_reducible repeat (first | refine blk_drewN ?_ _ | refine blk_drew ?_ | refine blk_alloc ?_ _)); refine blk_far ?_ NB247_258.out _; (with_reducible repeat (first | refine blk_drewN ?_ _ | refine blk_drew ?_ | refine blk_alloc ?_ _)); exact BK247.out⟩, ⟨by (with_reducible repeat (first | refine blk_drewN ?_ _ | refine blk_drew ?_ | refine blk_alloc ?_ _)); refine blk_far ?_ NB248_258.out _; (with_reducible repeat (first | refine blk_drewN ?_ _ | refine blk_drew ?_ | refine blk_alloc ?_ _)); refine blk_far ?_ NB248_258.out _; (with_reducible repeat (first | refine blk_drewN ?_ _ | refine blk_drew ?_ | refine blk_alloc ?_ _)); refine blk_far ?_ NB248_258.out _; (with_reducible repeat (first | refine blk_drewN ?_ _ | refine blk_drew ?_ | refine blk_alloc ?_ _)); refine blk_far ?_ NB248_258.out _; (with_reducible repeat (first | refine blk_drewN ?_ _ | refine blk_drew ?_ | refine blk_alloc ?_ _)); refine blk_far ?_ NB248_258.out _; (with_reducible repeat (first | refine blk_drewN ?_ _ | refine blk_drew ?_ | refine blk_alloc ?_ _)); refine blk_far ?_ NB248_258.out _; (with_reducible repeat (first | refine blk_drewN ?_ _ | refine blk_drew ?_ | refine blk_alloc ?_ _)); refine blk_far ?_ NB248_258.out _; (with_reducible repeat (first | refine blk_drewN ?_ _ | refine blk_drew ?_ | refine blk_alloc ?_ _)); refine blk_far ?_ NB248_258.out _; (with_reducible repeat (first | refine blk_drewN ?_ _ | refine blk_drew ?_ | refine blk_alloc ?_ _)); refine blk_far ?_ NB248_258.out _; (with_reducible repeat (first | refine blk_drewN ?_ _ | refine blk_drew ?_ | refine blk_alloc ?_ _)); exact BK248.out⟩, ⟨by (with_reducible repeat (first | refine blk_drewN ?_ _ | refine blk_drew ?_ | refine blk_alloc ?_ _)); refine blk_far ?_ NB256_258.out _; (with_reducible repeat (first | refine blk_drewN ?_ _ | refine blk_drew ?_ | refine blk_alloc ?_ _)); refine blk_far ?_ NB256_258.out _; (with_reducible repeat (first | refine blk_drewN ?_ _ | refine blk_drew ?_ | refine blk_alloc ?_ _)); refine blk_far ?_ NB256_258.out _; (with_reducible repeat (first | refine blk_drewN ?_ _ | refine blk_drew ?_ | refine blk_alloc ?_ _)); refine blk_far ?_ NB256_258.out _; (with_reducible repeat (first | refine blk_drewN ?_ _ | refine blk_drew ?_ | refine blk_alloc ?_ _)); refine blk_far ?_ NB256_258.out _; (with_reducible repeat (first | refine blk_drewN ?_ _ | refine blk_drew ?_ | refine blk_alloc ?_ _)); refine blk_far ?_ NB256_258.out _; (with_reducible repeat (first | refine blk_drewN ?_ _ | refine blk_drew ?_ | refine blk_alloc ?_ _)); refine blk_far ?_ NB256_258.out _; (with_reducible repeat (first | refine blk_drewN ?_ _ | refine blk_drew ?_ | refine blk_alloc ?_ _)); refine blk_far ?_ NB256_258.out _; (with_reducible repeat (first | refine blk_drewN ?_ _ | refine blk_drew ?_ | refine blk_alloc ?_ _)); refine blk_far ?_ NB256_258.out _; (with_reducible repeat (first | refine blk_drewN ?_ _ | refine blk_drew ?_ | refine blk_alloc ?_ _)); exact BK256.out⟩, ⟨by (with_reducible repeat (first | refine blk_drewN ?_ _ | refine blk_drew ?_ | refine blk_alloc ?_ _)); refine blk_put (cs := #[.int .i64 a1, .int .i64 (wrap64 (t257 + 1)), .string a2_1, .int .i64 3, .string (⟨#[]⟩ : ByteArray), .int .i64 0]) ?_ 5 _ rfl; (with_reducible repeat (first | refine blk_drewN ?_ _ | refine blk_drew ?_ | refine blk_alloc ?_ _)); refine blk_put (cs := #[.int .i64 a1, .int .i64 (wrap64 (t257 + 1)), .string a2_1, .int .i64 3, .string a2_2, .int .i64 0]) ?_ 4 _ rfl; (with_reducible repeat (first | refine blk_drewN ?_ _ | refine blk_drew ?_ | refine blk_alloc ?_ _)); refine blk_put (cs := #[.int .i64 a1, .int .i64 (wrap64 (t257 + 1)), .string a2_1, .int .i64 a2_0, .string a2_2, .int .i64 0]) ?_ 3 _ rfl; (with_reducible repeat (first | refine blk_drewN ?_ _ | refine blk_drew ?_ | refine blk_alloc ?_ _)); refine blk_put (cs := #[.int .i64 a1, .int .i64 (wrap64 (t257 + 1)), .string a2_1, .int .i64 a2_0, .string a2_2, .int .i64 0]) ?_ 5 _ rfl; (with_reducible repeat (first | refine blk_drewN ?_ _ | refine blk_drew ?_ | refine blk_alloc ?_ _)); refine blk_put (cs := #[.int .i64 a1, .int .i64 (wrap64 (t257 + 1)), .string a2_1, .int .i64 a2_0, .string (⟨#[]⟩ : ByteArray), .int .i64 0]) ?_ 4 _ rfl; (with_reducible repeat (first | refine blk_drewN ?_ _ | refine blk_drew ?_ | refine blk_alloc ?_ _)); refine blk_put (cs := #[.int .i64 a1, .int .i64 (wrap64 (t257 + 1)), .string a2_1, .int .i64 0, .string (⟨#[]⟩ : ByteArray), .int .i64 0]) ?_ 3 _ rfl; (with_reducible repeat (first | refine blk_drewN ?_ _ | refine blk_drew ?_ | refine blk_alloc ?_ _)); refine blk_put (cs := #[.int .i64 a1, .int .i64 (wrap64 (t257 + 1)), .string (⟨#[]⟩ : ByteArray), .int .i64 0, .string (⟨#[]⟩ : ByteArray), .int .i64 0]) ?_ 2 _ rfl; (with_reducible repeat (first | refine blk_drewN ?_ _ | refine blk_drew ?_ | refine blk_alloc ?_ _)); refine blk_put (cs := #[.int .i64 a1, .int .i64 0, .string (⟨#[]⟩ : ByteArray), .int .i64 0, .string (⟨#[]⟩ : ByteArray), .int .i64 0]) ?_ 1 _ rfl; (with_reducible repeat (first | refine blk_drewN ?_ _ | refine blk_drew ?_ | refine blk_alloc ?_ _)); refine blk_put (cs := #[.int .i64 0, .int .i64 0, .string (⟨#[]⟩ : ByteArray), .int .i64 0, .string (⟨#[]⟩ : ByteArray), .int .i64 0]) ?_ 0 _ rfl; (with_reducible repeat (first | refine blk_drewN ?_ _ | refine blk_drew ?_ | refine blk_alloc ?_ _)); exact BK258.out⟩, ⟨bw5 HB.out GE246.out GE247.out GE248.out GE256.out GE258.out⟩⟩
                ·
                 rw [if_neg c114] at H
                 have c114b0 : (a2_0 == 4) = false := beq_eq_false_iff_ne.mpr c114
                 have c114b1 : (a2_0 != 4) = true := bne_iff_ne.mpr c114
                 (first | rw [c114b0] | (simp only [i64_w, i32_w]; rw [c114b0]) | skip)
                 have H' := Aside0.mk H
                 clear H
                 go_wp2
                 go_meet
                 case rel => exact ⟨_, (a2_0), (a2_2), (0), H', ⟨by have := HJ3.out; have := HJ18.out; have := HK3.out; have := HJ64.out; have := HJ83.out; first | omega | exact Nat.le_refl _⟩, ⟨by (with_reducible repeat (first | apply Kd.R_alloc | apply Kd.R_drewN | apply Kd.R_drew)); exact Kd.R_mono (Kd.R_far (p := ⟨gb258, 5, none⟩) (Kd.R_far (p := ⟨gb258, 4, none⟩) (Kd.R_far (p := ⟨gb258, 3, none⟩) (Kd.R_far (p := ⟨gb258, 2, none⟩) (Kd.R_far (p := ⟨gb258, 1, none⟩) (Kd.R_far (p := ⟨gb258, 0, none⟩) (Kd.R_types HO_8.out BK258.out (by decide)) (fun _ hk => hk.2) (.int .i64 a1)) (fun _ hk => hk.2) (.int .i64 (wrap64 (t257 + 1)))) (fun _ hk => hk.2) (.string a2_1)) (fun _ hk => hk.2) (.int .i64 a2_0)) (fun _ hk => hk.2) (.string a2_2)) (fun _ hk => hk.2) (.int .i64 0)) (fun _ hk => trivial)⟩, ⟨by (with_reducible repeat (first | refine blk_drewN ?_ _ | refine blk_drew ?_ | refine blk_alloc ?_ _)); refine blk_far ?_ NB246_258.out _; (with_reducible repeat (first | refine blk_drewN ?_ _ | refine blk_drew ?_ | refine blk_alloc ?_ _)); refine blk_far ?_ NB246_258.out _; (with_reducible repeat (first | refine blk_drewN ?_ _ | refine blk_drew ?_ | refine blk_alloc ?_ _)); refine blk_far ?_ NB246_258.out _; (with_reducible repeat (first | refine blk_drewN ?_ _ | refine blk_drew ?_ | refine blk_alloc ?_ _)); refine blk_far ?_ NB246_258.out _; (with_reducible repeat (first | refine blk_drewN ?_ _ | refine blk_drew ?_ | refine blk_alloc ?_ _)); refine blk_far ?_ NB246_258.out _; (with_reducible repeat (first | refine blk_drewN ?_ _ | refine blk_drew ?_ | refine blk_alloc ?_ _)); refine blk_far ?_ NB246_258.out _; (with_reducible repeat (first | refine blk_drewN ?_ _ | refine blk_drew ?_ | refine blk_alloc ?_ _)); exact BK246.out⟩, ⟨by (with_reducible repeat (first | refine blk_drewN ?_ _ | refine blk_drew ?_ | refine blk_alloc ?_ _)); refine blk_far ?_ NB247_258.out _; (with_reducible repeat (first | refine blk_drewN ?_ _ | refine blk_drew ?_ | refine blk_alloc ?_ _)); refine blk_far ?_ NB247_258.out _; (with_reducible repeat (first | refine blk_drewN ?_ _ | refine blk_drew ?_ | refine blk_alloc ?_ _)); refine blk_far ?_ NB247_258.out _; (with_reducible repeat (first | refine blk_drewN ?_ _ | refine blk_drew ?_ | refine blk_alloc ?_ _)); refine blk_far ?_ NB247_258.out _; (with_reducible repeat (first | refine blk_drewN ?_ _ | refine blk_drew ?_ | refine blk_alloc ?_ _)); refine blk_far ?_ NB247_258.out _; (with_reducible repeat (first | refine blk_drewN ?_ _ | refine blk_drew ?_ | refine blk_alloc ?_ _)); refine blk_far ?_ NB247_258.out _; (with_reducible repeat (first | refine blk_drewN ?_ _ | refine blk_drew ?_ | refine blk_alloc ?_ _)); exact BK247.out⟩, ⟨by (with_reducible repeat (first | refine blk_drewN ?_ _ | refine blk_drew ?_ | refine blk_alloc ?_ _)); refine blk_far ?_ NB248_258.out _; (with_reducible repeat (first | refine blk_drewN ?_ _ | refine blk_drew ?_ | refine blk_alloc ?_ _)); refine blk_far ?_ NB248_258.out _; (with_reducible repeat (first | refine blk_drewN ?_ _ | refine blk_drew ?_ | refine blk_alloc ?_ _)); refine blk_far ?_ NB248_258.out _; (with_reducible repeat (first | refine blk_drewN ?_ _ | refine blk_drew ?_ | refine blk_alloc ?_ _)); refine blk_far ?_ NB248_258.out _; (with_reducible repeat (first | refine blk_drewN ?_ _ | refine blk_drew ?_ | refine blk_alloc ?_ _)); refine blk_far ?_ NB248_258.out _; (with_reducible repeat (first | refine blk_drewN ?_ _ | refine blk_drew ?_ | refine blk_alloc ?_ _)); refine blk_far ?_ NB248_258.out _; (with_reducible repeat (first | refine blk_drewN ?_ _ | refine blk_drew ?_ | refine blk_alloc ?_ _)); exact BK248.out⟩, ⟨by (with_reducible repeat (first | refine blk_drewN ?_ _ | refine blk_drew ?_ | refine blk_alloc ?_ _)); refine blk_far ?_ NB256_258.out _; (with_reducible repeat (first | refine blk_drewN ?_ _ | refine blk_drew ?_ | refine blk_alloc ?_ _)); refine blk_far ?_ NB256_258.out _; (with_reducible repeat (first | refine blk_drewN ?_ _ | refine blk_drew ?_ | refine blk_alloc ?_ _)); refine blk_far ?_ NB256_258.out _; (with_reducible repeat (first | refine blk_drewN ?_ _ | refine blk_drew ?_ | refine blk_alloc ?_ _)); refine blk_far ?_ NB256_258.out _; (with_reducible repeat (first | refine blk_drewN ?_ _ | refine blk_drew ?_ | refine blk_alloc ?_ _)); refine blk_far ?_ NB256_258.out _; (with_reducible repeat (first | refine blk_drewN ?_ _ | refine blk_drew ?_ | refine blk_alloc ?_ _)); refine blk_far ?_ NB256_258.out _; (with_reducible repeat (first | refine blk_drewN ?_ _ | refine blk_drew ?_ | refine blk_alloc ?_ _)); exact BK256.out⟩, ⟨by (with_reducible repeat (first | refine blk_drewN ?_ _ | refine blk_drew ?_ | refine blk_alloc ?_ _)); refine blk_put (cs := #[.int .i64 a1, .int .i64 (wrap64 (t257 + 1)), .string a2_1, .int .i64 a2_0, .string a2_2, .int .i64 0]) ?_ 5 _ rfl; (with_reducible repeat (first | refine blk_drewN ?_ _ | refine blk_drew ?_ | refine blk_alloc ?_ _)); refine blk_put (cs := #[.int .i64 a1, .int .i64 (wrap64 (t257 + 1)), .string a2_1, .int .i64 a2_0, .string (⟨#[]⟩ : ByteArray), .int .i64 0]) ?_ 4 _ rfl; (with_reducible repeat (first | refine blk_drewN ?_ _ | refine blk_drew ?_ | refine blk_alloc ?_ _)); refine blk_put (cs := #[.int .i64 a1, .int .i64 (wrap64 (t257 + 1)), .string a2_1, .int .i64 0, .string (⟨#[]⟩ : ByteArray), .int .i64 0]) ?_ 3 _ rfl; (with_reducible repeat (first | refine blk_drewN ?_ _ | refine blk_drew ?_ | refine blk_alloc ?_ _)); refine blk_put (cs := #[.int .i64 a1, .int .i64 (wrap64 (t257 + 1)), .string (⟨#[]⟩ : ByteArray), .int .i64 0, .string (⟨#[]⟩ : ByteArray), .int .i64 0]) ?_ 2 _ rfl; (with_reducible repeat (first | refine blk_drewN ?_ _ | refine blk_drew ?_ | refine blk_alloc ?_ _)); refine blk_put (cs := #[.int .i64 a1, .int .i64 0, .string (⟨#[]⟩ : ByteArray), .int .i64 0, .string (⟨#[]⟩ : ByteArray), .int .i64 0]) ?_ 1 _ rfl; (with_reducible repeat (first | refine blk_drewN ?_ _ | refine blk_drew ?_ | refine blk_alloc ?_ _)); refine blk_put (cs := #[.int .i64 0, .int .i64 0, .string (⟨#[]⟩ : ByteArray), .int .i64 0, .string (⟨#[]⟩ : ByteArray), .int .i64 0]) ?_ 0 _ rfl; (with_reducible repeat (first | refine blk_drewN ?_ _ | refine blk_drew ?_ | refine blk_alloc ?_ _)); exact BK258.out⟩, ⟨bw5 HB.out GE246.out GE247.out GE248.out GE256.out GE258.out⟩⟩
               case rest =>
                revert u13 u14 u15 u16 u17 u18 u19 u20 u21 u22 u23 u24 u25 u26 u27 u28 u29 u30 u31 u32 u33 u34 u35 u36 u37 u38 u39 u40 u41 u42 u43 u44 u45 u46 u47 u48 u49 u50 u51 u52 u53 u54 u55 u56 u57 u58 u59 u60 u61 u62 u63 u64 u65 u66 u67 u68 u69 u70 u71 u72 u73 u74 u75 u76 u77 u78 u79 u80 u81 u82 u83 u84 u85 u86 u87 u88 u89 u90 u91 u92 u93 u94 u95 u96 u97 u98 u99 u100 u101 u102 u103 u104 u105 u106 u107 u108 u109 u110 u111 u112 u113 u114 u115 u116 u117 u118 u119 u120 u121 u122 u123 u124 u125 u126 u127 u128 u129 u130 u131 u132 u133 u134 u135 u136 u137 u138 u139 u140 u141 u142 u143 u144 u145 u146 u147 u148 u149 u150 u151 u152 u153 u154 u155 u156 u157 u158 u159 u160 u161 u162 u163 u164 u165 u166 u167 u168 u169 u170 u171 u172 u173 u174 u175 u176 u177 u178 u179 u180 u181 u182 u183 u184 hcut
                refine id ?_
                intro u13 u14 u15 u16 u17 u18 u19 u20 u21 u22 u23 u24 u25 u26 u27 u28 u29 u30 u31 u32 u33 u34 u35 u36 u37 u38 u39 u40 u41 u42 u43 u44 u45 u46 u47 u48 u49 u50 u51 u52 u53 u54 u55 u56 u57 u58 u59 u60 u61 u62 u63 u64 u65 u66 u67 u68 u69 u70 u71 u72 u73 u74 u75 u76 u77 u78 u79 u80 u81 u82 u83 u84 u85 u86 u87 u88 u89 u90 u91 u92 u93 u94 u95 u96 u97 u98 u99 u100 u101 u102 u103 u104 u105 u106 u107 u108 u109 u110 u111 u112 u113 u114 u115 u116 u117 u118 u119 u120 u121 u122 u123 u124 u125 u126 u127 u128 u129 u130 u131 u132 u133 u134 u135 u136 u137 u138 u139 u140 u141 u142 u143 u144 u145 u146 u147 u148 u149 u150 u151 u152 u153 u154 u155 u156 u157 u158 u159 u160 u161 u162 u163 u164 u165 u166 u167 u168 u169 u170 u171 u172 u173 u174 u175 u176 u177 u178 u179 u180 u181 u182 u183 u184 hcut
                clear HC98
                try clear c96
                try clear hcz113_0
                try clear hcz113_1
                try clear hcz113_2
                try clear hcz113_3
                try clear hfz113_0
                try clear hfz113_1
                try clear hfz113_2
                try clear hfz113_3
                try clear hfz68_0
                try clear hfz68_1
                obtain ⟨kq, x259003_97, x259004_97, x259005_97, HA, HJ97, HO_8, BK246, BK247, BK248, BK256, BK258, HB⟩ := hcut
                cases kq with
                | zero => exact absurd HA.out (by simp [deaddropref7_Do.j5])
                | succ kj97 =>
                 have H := HA.out
                 clear HA
                 simp only [deaddropref7_Do.j5] at H
                 by_cases c120 : (wrap64 (t257 + 1)) > 4503599627370496
                 ·
                  rw [if_pos c120] at H
                  exact absurd H (by simp)
                 rw [if_neg c120] at H
                 have c120b0 : decide (4503599627370496 < (wrap64 (t257 + 1))) = false := decide_eq_false c120
                 clear c120
                 by_cases c121 : x259005_97 < (-1099511627776)
                 ·
                  rw [if_pos c121] at H
                  have c121b0 : decide (x259005_97 < (-1099511627776)) = true := decide_eq_true c121
                  clear c121
                  simp only [Option.some.injEq, Prod.mk.injEq] at H
                  obtain ⟨rfl, rfl, rfl⟩ := H
                  have hnb122 := NB258_246.out
                  have hnc122 := NB246_258.out
                  have hnb123 := NB258_247.out
                  have hnc123 := NB247_258.out
                  have hnb124 := NB258_248.out
                  have hnc124 := NB248_258.out
                  have hnb125 := NB258_256.out
                  have hnc125 := NB256_258.out
                  obtain ⟨hcz126_0, hcz126_1, hcz126_2, hcz126_3, hcz126_4, hcz126_5⟩ := bx6 BK258.out
                  obtain ⟨hfz126_0, hfz126_1, hfz126_2, hfz126_3, hfz126_4, hfz126_5⟩ := bf6 BK258.out
                  have hnb127 := NB248_246.out
                  have hnc127 := NB246_248.out
                  have hnb128 := NB248_247.out
                  have hnc128 := NB247_248.out
                  have hnb129 := NB248_256.out
                  have hnc129 := NB256_248.out
                  obtain ⟨hcz130_0, hcz130_1, hcz130_2⟩ := bx3 BK248.out
                  obtain ⟨hfz130_0, hfz130_1, hfz130_2⟩ := bf3 BK248.out
                  go_wp2
                  refine bodyPost_ret (results_cell_row rfl _ _ gb248 43 #[.slice none 0 0, .slice none 0 0, .int .i64 4] (0, 0) _ rfl (by (with_reducible repeat (first | refine blk_drewN ?_ _ | refine blk_drew ?_ | refine blk_alloc ?_ _)); refine blk_put (cs := #[.slice none 0 0, .slice none 0 0, .int .i64 0]) ?_ 2 _ rfl; (with_reducible repeat (first | refine blk_drewN ?_ _ | refine blk_drew ?_ | refine blk_alloc ?_ _)); refine blk_put (cs := #[.slice none 0 0, .slice none 0 0, .int .i64 0]) ?_ 1 _ rfl; (with_reducible repeat (first | refine blk_drewN ?_ _ | refine blk_drew ?_ | refine blk_alloc ?_ _)); refine blk_put (cs := #[.slice none 0 0, .slice none 0 0, .int .i64 0]) ?_ 0 _ rfl; (with_reducible repeat (first | refine blk_drewN ?_ _ | refine blk_drew ?_ | refine blk_alloc ?_ _)); exact BK248.out) Try.underlying43 rfl (by kernel_rfl)) rfl ?_
                  exact ⟨_, _, by first | rfl | (simp [errW_none, errW_some] <;> rfl) | (simp [*, errW_none, errW_some] <;> rfl), by first | exact Kd.R_nil _ _ _ _ _ | exact Kd.N_nil _ _ _ _ _ | exact Kd.V_nil _ _ _ _ _ | exact Kd.Q_nil _ _ _ _ _ | exact Kd.S_nil _ _ _ _ _, by first | exact Kd.R_nil _ _ _ _ _ | exact Kd.N_nil _ _ _ _ _ | exact Kd.V_nil _ _ _ _ _ | exact Kd.Q_nil _ _ _ _ _ | exact Kd.S_nil _ _ _ _ _, bw5 HB.out GE246.out GE247.out GE248.out GE256.out GE258.out⟩
                 ·
                  rw [if_neg c121] at H
                  have c121b0 : decide (x259005_97 < (-1099511627776)) = false := decide_eq_false c121
                  clear c121
                  by_cases c131 : x259005_97 > 1099511627776
                  ·
                   rw [if_pos c131] at H
                   have c131b0 : decide (1099511627776 < x259005_97) = true := decide_eq_true c131
                   clear c131
                   simp only [Option.some.injEq, Prod.mk.injEq] at H
                   obtain ⟨rfl, rfl, rfl⟩ := H
                   have hnb132 := NB258_246.out
                   have hnc132 := NB246_258.out
                   have hnb133 := NB258_247.out
                   have hnc133 := NB247_258.out
                   have hnb134 := NB258_248.out
                   have hnc134 := NB248_258.out
                   have hnb135 := NB258_256.out
                   have hnc135 := NB256_258.out
                   obtain ⟨hcz136_0, hcz136_1, hcz136_2, hcz136_3, hcz136_4, hcz136_5⟩ := bx6 BK258.out
                   obtain ⟨hfz136_0, hfz136_1, hfz136_2, hfz136_3, hfz136_4, hfz136_5⟩ := bf6 BK258.out
                   have hnb137 := NB248_246.out
                   have hnc137 := NB246_248.out
                   have hnb138 := NB248_247.out
                   have hnc138 := NB247_248.out
                   have hnb139 := NB248_256.out
                   have hnc139 := NB256_248.out
                   obtain ⟨hcz140_0, hcz140_1, hcz140_2⟩ := bx3 BK248.out
                   obtain ⟨hfz140_0, hfz140_1, hfz140_2⟩ := bf3 BK248.out
                   go_wp2
                   refine bodyPost_ret (results_cell_row rfl _ _ gb248 43 #[.slice none 0 0, .slice none 0 0, .int .i64 4] (0, 0) _ rfl (by (with_reducible repeat (first | refine blk_drewN ?_ _ | refine blk_drew ?_ | refine blk_alloc ?_ _)); refine blk_put (cs := #[.slice none 0 0, .slice none 0 0, .int .i64 0]) ?_ 2 _ rfl; (with_reducible repeat (first | refine blk_drewN ?_ _ | refine blk_drew ?_ | refine blk_alloc ?_ _)); refine blk_put (cs := #[.slice none 0 0, .slice none 0 0, .int .i64 0]) ?_ 1 _ rfl; (with_reducible repeat (first | refine blk_drewN ?_ _ | refine blk_drew ?_ | refine blk_alloc ?_ _)); refine blk_put (cs := #[.slice none 0 0, .slice none 0 0, .int .i64 0]) ?_ 0 _ rfl; (with_reducible repeat (first | refine blk_drewN ?_ _ | refine blk_drew ?_ | refine blk_alloc ?_ _)); exact BK248.out) Try.underlying43 rfl (by kernel_rfl)) rfl ?_
                   exact ⟨_, _, by first | rfl | (simp [errW_none, errW_some] <;> rfl) | (simp [*, errW_none, errW_some] <;> rfl), by first | exact Kd.R_nil _ _ _ _ _ | exact Kd.N_nil _ _ _ _ _ | exact Kd.V_nil _ _ _ _ _ | exact Kd.Q_nil _ _ _ _ _ | exact Kd.S_nil _ _ _ _ _, by first | exact Kd.R_nil _ _ _ _ _ | exact Kd.N_nil _ _ _ _ _ | exact Kd.V_nil _ _ _ _ _ | exact Kd.Q_nil _ _ _ _ _ | exact Kd.S_nil _ _ _ _ _, bw5 HB.out GE246.out GE247.out GE248.out GE256.out GE258.out⟩
                  ·
                   rw [if_neg c131] at H
                   have c131b0 : decide (1099511627776 < x259005_97) = false := decide_eq_false c131
                   clear c131
                   by_cases c141 : x8_3.length < 8796093022208
                   rotate_left
                   ·
                    rw [if_neg c141] at H
                    exact absurd H (by simp)
                   rw [if_pos c141] at H
                   have LMc141 := Aside0.mk c141
                   clear c141
                   obtain ⟨y259, hy259⟩ : ∃ y_ : List (S32), y_ = (x8_3 ++ [(⟨a1, (wrap64 (t257 + 1))⟩ : S32)]) := ⟨_, rfl⟩
                   replace H : (deaddropref7_Do.j6 kj97 y259 l0_0 l0_1 (([(⟨(⟨a1, (wrap64 (t257 + 1))⟩ : S32), a2_1, x259003_97, x259004_97, x259005_97⟩ : S34)] : List (S34)))) = some (r1, r2, r3) := by first | (rw [hy259]; with_reducible exact H) | (have H2_ := (Option.bind_some _ _).symm.trans H; rw [hy259]; with_reducible exact H2_) | (have H2_ := (Option.bind_some _ _).symm.trans H; with_reducible exact H2_) | with_reducible exact H | (rw [hy259]; exact H) | exact H
                   have Ny259 := Aside0.mk hy259
                   clear hy259
                   obtain ⟨y262, hy262⟩ : ∃ y_ : List (S34), y_ = (([(⟨(⟨a1, (wrap64 (t257 + 1))⟩ : S32), a2_1, x259003_97, x259004_97, x259005_97⟩ : S34)] : List (S34))) := ⟨_, rfl⟩
                   replace H : (deaddropref7_Do.j6 kj97 y259 l0_0 l0_1 y262) = some (r1, r2, r3) := by first | (rw [hy262]; with_reducible exact H) | (have H2_ := (Option.bind_some _ _).symm.trans H; rw [hy262]; with_reducible exact H2_) | (have H2_ := (Option.bind_some _ _).symm.trans H; with_reducible exact H2_) | with_reducible exact H | (rw [hy262]; exact H) | exact H
                   have Ny262 := Aside0.mk hy262
                   clear hy262
                   have H' := Aside0.mk H
                   clear H
                   have hnb142 := NB258_246.out
                   have hnc142 := NB246_258.out
                   have hnb143 := NB258_247.out
                   have hnc143 := NB247_258.out
                   have hnb144 := NB258_248.out
                   have hnc144 := NB248_258.out
                   have hnb145 := NB258_256.out
                   have hnc145 := NB256_258.out
                   obtain ⟨hcz146_0, hcz146_1, hcz146_2, hcz146_3, hcz146_4, hcz146_5⟩ := bx6 BK258.out
                   obtain ⟨hfz146_0, hfz146_1, hfz146_2, hfz146_3, hfz146_4, hfz146_5⟩ := bf6 BK258.out
                   go_wp2_with (first | ((with_reducible refine gate_builtin (b := .append) (xs := #[.tmp 165, .tmp 168]) rfl ?_); (try (refine gate_guard (by rfl) ?_; dsimp only)); at_builtin; refine Kd.R_append k32 (w0 := w) w.heap.size rfl (.tmp 165) (.tmp 168) 60 32 (.agg #[(.int .i64 0), (.int .i64 0)]) 16 rfl Try.underlying60 info32 rfl (by decide) (by omega) u8 x8_3 (⟨a1, (wrap64 (t257 + 1))⟩ : S32) [.int .i64 a1, .int .i64 (wrap64 (t257 + 1))] (fun _ => True) (fun _ => False) rfl rfl ?aP (fun _ hk => hk.elim) ?aF ?aO ?aB ?aS ?aL ?_; (case aP => exact k32_mkM _ _ _ (⟨a1, (wrap64 (t257 + 1))⟩ : S32)); (case aB => exact (bw5 HB.out GE246.out GE247.out GE248.out GE256.out GE258.out)); (case aF => exact (fun _ _ => trivial)); (case aO => exact (rk HO_8.out)); (case aS => exact (below_size (bw5 HB.out GE246.out GE247.out GE248.out GE256.out GE258.out))); (case aL => have := LMc141.out; omega); intro v260 w147 ho hb hg hat; rw [← Ny259.out] at ho; replace BK246 := Aside0.mk (bkg BK246.out hg (Kd.R_ne HO_8.out BK246.out (by decide))); replace BK247 := Aside0.mk (bkg BK247.out hg (Kd.R_ne HO_8.out BK247.out (by decide))); replace BK248 := Aside0.mk (bkg BK248.out hg (Kd.R_ne HO_8.out BK248.out (by decide))); replace BK256 := Aside0.mk (bkg BK256.out hg (Kd.R_ne HO_8.out BK256.out (by decide))); replace BK258 := Aside0.mk (bkg BK258.out hg (Kd.R_ne HO_8.out BK258.out (by decide))); replace HB := Aside0.mk (hb); have HO261 := Aside0.mk (ho); clear HO_8; clear ho hb hg hat; obtain ⟨hcz148_0, hcz148_1, hcz148_2, hcz148_3, hcz148_4, hcz148_5⟩ := bx6 BK258.out; obtain ⟨hfz148_0, hfz148_1, hfz148_2, hfz148_3, hfz148_4, hfz148_5⟩ := bf6 BK258.out) | ((with_reducible refine gate_dst (N := 171) rfl ?_); (try (refine gate_guard (by rfl) ?_; dsimp only)); refine Kd.R_lit k34 _ 34 ?hg (N := 171) ?hd (xs := ([(⟨(⟨a1, (wrap64 (t257 + 1))⟩ : S32), a2_1, x259003_97, x259004_97, x259005_97⟩ : S34)] : List (S34))) (inner := [.int .i64 a1, .int .i64 (wrap64 (t257 + 1)), .string a2_1, .int .i64 x259003_97, .string x259004_97, .int .i64 x259005_97]) (ok := fun _ => True) (okp := fun _ => True) ?hr ?hp (fun _ hk => hk) trivial (Below.refl _ _) (Nat.le_refl _) (by simp) ?_; (case hd => rfl); (case hg => rfl); (case hr => first | (go_simp; done) | (go_simp; rfl)); (case hp => exact (Reps.c6 (show Kd.M k34 _ _ _ (⟨(⟨a1, (wrap64 (t257 + 1))⟩ : S32), a2_1, x259003_97, x259004_97, x259005_97⟩ : S34) [.int .i64 a1, .int .i64 (wrap64 (t257 + 1)), .string a2_1, .int .i64 x259003_97, .string x259004_97, .int .i64 x259005_97] from (k34_mkM _ _ _ (⟨(⟨a1, (wrap64 (t257 + 1))⟩ : S32), a2_1, x259003_97, x259004_97, x259005_97⟩ : S34) )) (Reps.none _ _))); intro v263 w149 ho150 hb hg_ hnew_; clear hg_ hnew_; (first | rw [← Ny262.out] at ho150 | (simp only [Int.reduceToNat] at ho150; rw [← Ny262.out] at ho150)); replace HO261 := Aside0.mk (Kd.R_below (rk HO261.out) hb); have HO264 := Aside0.mk (Kd.R_lower (Kd.R_newB ho150 (g := gb258) (o := .cells #[.int .i64 a1, .int .i64 (wrap64 (t257 + 1)), .string a2_1, .int .i64 x259003_97, .string x259004_97, .int .i64 x259005_97] 34 (0, 0)) (bk BK258.out)) (below_size (bw5 HB.out GE246.out GE247.out GE248.out GE256.out GE258.out))); replace BK246 := Aside0.mk (bkb BK246.out hb); replace BK247 := Aside0.mk (bkb BK247.out hb); replace BK248 := Aside0.mk (bkb BK248.out hb); replace BK256 := Aside0.mk (bkb BK256.out hb); replace BK258 := Aside0.mk (bkb BK258.out hb); replace HB := Aside0.mk (below_step (bw5 HB.out GE246.out GE247.out GE248.out GE256.out GE258.out) hb); clear hb ho150; obtain ⟨Ao151, co151, eo151⟩ := Kd.R_slice HO264.out; subst eo151; have hnb152 := NB256_246.out; have hnc152 := NB246_256.out; have hnb153 := NB256_247.out; have hnc153 := NB247_256.out; have hnb154 := NB256_248.out; have hnc154 := NB248_256.out; obtain ⟨hcz155_0, hcz155_1⟩ := bx2 BK256.out; obtain ⟨hfz155_0, hfz155_1⟩ := bf2 BK256.out))
                   go_meet
                   case rel => exact ⟨_, (y259), (0), (y262), (.slice Ao151 y262.length co151), H', ⟨by have := HJ3.out; have := HJ18.out; have := HK3.out; have := HJ64.out; have := HJ83.out; have := HJ97.out; first | omega | exact Nat.le_refl _⟩, ⟨by (with_reducible repeat (first | apply Kd.R_alloc | apply Kd.R_drewN | apply Kd.R_drew)); exact Kd.R_mono (Kd.R_far (p := ⟨gb256, 1, none⟩) (Kd.R_types HO261.out BK256.out (by decide)) (fun _ hk => hk.2) (.slice Ao151 y262.length co151)) (fun _ hk => trivial)⟩, ⟨by (with_reducible repeat (first | apply Kd.R_alloc | apply Kd.R_drewN | apply Kd.R_drew)); exact Kd.R_mono (Kd.R_far (p := ⟨gb256, 1, none⟩) (Kd.R_types HO264.out BK256.out (by decide)) (fun _ hk => hk.2) (.slice Ao151 y262.length co151)) (fun _ hk => trivial)⟩, ⟨by (with_reducible repeat (first | refine blk_drewN ?_ _ | refine blk_drew ?_ | refine blk_alloc ?_ _)); refine blk_far ?_ NB246_256.out _; (with_reducible repeat (first | refine blk_drewN ?_ _ | refine blk_drew ?_ | refine blk_alloc ?_ _)); exact BK246.out⟩, ⟨by (with_reducible repeat (first | refine blk_drewN ?_ _ | refine blk_drew ?_ | refine blk_alloc ?_ _)); refine blk_far ?_ NB247_256.out _; (with_reducible repeat (first | refine blk_drewN ?_ _ | refine blk_drew ?_ | refine blk_alloc ?_ _)); exact BK247.out⟩, ⟨by (with_reducible repeat (first | refine blk_drewN ?_ _ | refine blk_drew ?_ | refine blk_alloc ?_ _)); refine blk_far ?_ NB248_256.out _; (with_reducible repeat (first | refine blk_drewN ?_ _ | refine blk_drew ?_ | refine blk_alloc ?_ _)); exact BK248.out⟩, ⟨by (with_reducible repeat (first | refine blk_drewN ?_ _ | refine blk_drew ?_ | refine blk_alloc ?_ _)); refine blk_put (cs := #[.slice none 0 0, .slice none 0 0]) ?_ 1 _ rfl; (with_reducible repeat (first | refine blk_drewN ?_ _ | refine blk_drew ?_ | refine blk_alloc ?_ _)); exact BK256.out⟩, ⟨bw5 HB.out GE246.out GE247.out GE248.out GE256.out GE258.out⟩⟩
              ·
               replace c96 := Bool.eq_false_iff.mpr c96
               subst c96
               have H1 : (deaddropref7_Do.j6 kj83 x8_3 l0_0 l0_1 ([] : List (S34))) = some (r1, r2, r3) := by rw [if_neg (show ¬ (false = true) by decide)] at H; exact H
               clear H
               have H := H1
               clear H1
               have H' := Aside0.mk H
               clear H
               go_wp2
               go_meet
               case rel => exact ⟨_, (x8_3), (0), (([] : List (S34))), (.slice none 0 0), H', ⟨by have := HJ3.out; have := HJ18.out; have := HK3.out; have := HJ64.out; have := HJ83.out; first | omega | exact Nat.le_refl _⟩, ⟨rk HO_8.out⟩, ⟨by first | exact Kd.R_nil _ _ _ _ _ | exact Kd.N_nil _ _ _ _ _ | exact Kd.V_nil _ _ _ _ _ | exact Kd.Q_nil _ _ _ _ _ | exact Kd.S_nil _ _ _ _ _⟩, ⟨bk BK246.out⟩, ⟨bk BK247.out⟩, ⟨bk BK248.out⟩, ⟨bk BK256.out⟩, ⟨bw4 HB.out GE246.out GE247.out GE248.out GE256.out⟩⟩
             case rest =>
              revert u8 u12 u13 u14 u15 u16 u17 u18 u19 u20 u21 u22 u23 u24 u25 u26 u27 u28 u29 u30 u31 u32 u33 u34 u35 u36 u37 u38 u39 u40 u41 u42 u43 u44 u45 u46 u47 u48 u49 u50 u51 u52 u53 u54 u55 u56 u57 u58 u59 u60 u61 u62 u63 u64 u65 u66 u67 u68 u69 u70 u71 u72 u73 u74 u75 u76 u77 u78 u79 u80 u81 u82 u83 u84 u85 u86 u87 u88 u89 u90 u91 u92 u93 u94 u95 u96 u97 u98 u99 u100 u101 u102 u103 u104 u105 u106 u107 u108 u109 u110 u111 u112 u113 u114 u115 u116 u117 u118 u119 u120 u121 u122 u123 u124 u125 u126 u127 u128 u129 u130 u131 u132 u133 u134 u135 u136 u137 u138 u139 u140 u141 u142 u143 u144 u145 u146 u147 u148 u149 u150 u151 u152 u153 u154 u155 u156 u157 u158 u159 u160 u161 u162 u163 u164 u165 u166 u167 u168 u169 u170 u171 u172 u173 u174 u175 u176 u177 u178 u179 u180 u181 u182 u183 u184 hcut
              refine id ?_
              intro u8 u12 u13 u14 u15 u16 u17 u18 u19 u20 u21 u22 u23 u24 u25 u26 u27 u28 u29 u30 u31 u32 u33 u34 u35 u36 u37 u38 u39 u40 u41 u42 u43 u44 u45 u46 u47 u48 u49 u50 u51 u52 u53 u54 u55 u56 u57 u58 u59 u60 u61 u62 u63 u64 u65 u66 u67 u68 u69 u70 u71 u72 u73 u74 u75 u76 u77 u78 u79 u80 u81 u82 u83 u84 u85 u86 u87 u88 u89 u90 u91 u92 u93 u94 u95 u96 u97 u98 u99 u100 u101 u102 u103 u104 u105 u106 u107 u108 u109 u110 u111 u112 u113 u114 u115 u116 u117 u118 u119 u120 u121 u122 u123 u124 u125 u126 u127 u128 u129 u130 u131 u132 u133 u134 u135 u136 u137 u138 u139 u140 u141 u142 u143 u144 u145 u146 u147 u148 u149 u150 u151 u152 u153 u154 u155 u156 u157 u158 u159 u160 u161 u162 u163 u164 u165 u166 u167 u168 u169 u170 u171 u172 u173 u174 u175 u176 u177 u178 u179 u180 u181 u182 u183 u184 hcut
              clear HC95
              try clear hfz68_0
              try clear hfz68_1
              obtain ⟨kq, x8_94, x249002_94, x257001_94, u257001, HA, HJ94, HO_8, HO_257001, BK246, BK247, BK248, BK256, HB⟩ := hcut
              cases kq with
              | zero => exact absurd HA.out (by simp [deaddropref7_Do.j6])
              | succ kj94 =>
               have H := HA.out
               clear HA
               simp only [deaddropref7_Do.j6] at H
               replace H := Option.bind_eq_some_iff.mp H
               obtain ⟨t265, A1560, H⟩ := H
               replace H : ((deaddropref7_Join.f kj94 l0_0 l0_1 t265 x257001_94).bind fun bt268 => (if (bt268.2.length : Int) > 400 then (none) else (some (t265, x257001_94, 0)))) = some (r1, r2, r3) := H
               have A156 := Aside0.mk A1560
               clear A1560
               replace H := Option.bind_eq_some_iff.mp H
               obtain ⟨⟨t268, t271⟩, A1570, H⟩ := H
               replace H : (if (t271.length : Int) > 400 then (none) else (some (t265, x257001_94, 0))) = some (r1, r2, r3) := H
               have A157 := Aside0.mk A1570
               clear A1570
               by_cases c158 : (t271.length : Int) > 400
               ·
                rw [if_pos c158] at H
                exact absurd H (by simp)
               rw [if_neg c158] at H
               have c158b0 : decide (400 < (t271.length : Int)) = false := decide_eq_false c158
               have c158b1 : decide (400 < t271.length) = false := decide_eq_false (by omega)
               clear c158
               simp only [Option.some.injEq, Prod.mk.injEq] at H
               obtain ⟨rfl, rfl, rfl⟩ := H
               obtain ⟨Ao159, co159, eo159⟩ := Kd.R_slice HO_8.out
               subst eo159
               go_wp2_with (first | ((with_reducible refine gate_callee (f := 31) rfl ?_); refine goesL_ (some 174) rfl rfl Try.func31 (by kernel_rfl) rfl #[.slice Ao159 x8_94.length co159] rfl ar_ ?_; (with_reducible refine (deaddropref7_Of.calls kj94 _ _ x8_94 t265 _ ?side1 ?side2 A156.out).mono ?_); (case side1 => exact cr (Kd.R_reads' HO_8.out).2.2); (case side2 => exact (Kd.R_reads' HO_8.out).2.1); rintro e w160 ⟨v266, rfl, ho0, hb⟩; refine ⟨_, rfl, ?_⟩; replace HO_8 := Aside0.mk (Kd.R_below (rk HO_8.out) hb); replace HO_257001 := Aside0.mk (Kd.R_below (rk HO_257001.out) hb); have HO267 := Aside0.mk (Kd.R_lower ho0 (below_size (bw4 HB.out GE246.out GE247.out GE248.out GE256.out))); replace BK246 := Aside0.mk (bkb BK246.out hb); replace BK247 := Aside0.mk (bkb BK247.out hb); replace BK248 := Aside0.mk (bkb BK248.out hb); replace BK256 := Aside0.mk (bkb BK256.out hb); replace HB := Aside0.mk (below_step (bw4 HB.out GE246.out GE247.out GE248.out GE256.out) hb); (try clear hb); (try clear hb2); (try clear hk); (try clear hi); (try clear ho0); obtain ⟨Ao161, co161, eo161⟩ := Kd.R_slice HO267.out; subst eo161; have hnb162 := NB256_246.out; have hnc162 := NB246_256.out; have hnb163 := NB256_247.out; have hnc163 := NB247_256.out; have hnb164 := NB256_248.out; have hnc164 := NB248_256.out; obtain ⟨hcz165_0, hcz165_1⟩ := bx2 BK256.out; obtain ⟨hfz165_0, hfz165_1⟩ := bf2 BK256.out; have hnb166 := NB246_247.out; have hnc166 := NB247_246.out; have hnb167 := NB246_248.out; have hnc167 := NB248_246.out; obtain ⟨hcz168_0, hcz168_1⟩ := bx2 BK246.out; obtain ⟨hfz168_0, hfz168_1⟩ := bf2 BK246.out; obtain ⟨Ao169, co169, eo169⟩ := Kd.R_slice HO_257001.out; subst eo169) | ((with_reducible refine gate_callee (f := 8) rfl ?_); refine goesL_ (some 178) rfl rfl Try.func8 (by kernel_rfl) rfl #[.agg #[.slice A0_0 l0_0.length c0_0, .slice A0_1 l0_1.length c0_1], .agg #[.slice Ao161 t265.length co161, .slice Ao169 x257001_94.length co169]] rfl ar_ ?_; (with_reducible refine (deaddropref7_Join.calls kj94 _ _ l0_0 _ _ l0_1 _ _ t265 _ _ x257001_94 t268 t271 _ ?side1 ?side2 ?side3 ?side4 ?side5 ?side6 ?side7 ?side8 A157.out).mono ?_); (case side1 => exact Kd.C_below HR0_0.out (bw4 HB.out GE246.out GE247.out GE248.out GE256.out)); (case side2 => exact HC0_0.out); (case side3 => exact Kd.C_below HR0_1.out (bw4 HB.out GE246.out GE247.out GE248.out GE256.out)); (case side4 => exact HC0_1.out); (case side5 => refine (Kd.R_reads' (e := 70) (base := w.heap.size) (ok := fun k_ => True) (n := t265.length) (c := co161) ?_).2.2; exact (by (with_reducible repeat (first | apply Kd.R_alloc | apply Kd.R_drewN | apply Kd.R_drew)); exact (Kd.R_mono (Kd.R_far (p := ⟨gb256, 0, none⟩) (Kd.R_types HO267.out BK256.out (by decide)) (fun _ hk => hk.2) (.slice Ao161 t265.length co161)) (fun _ h_ => h_.1)))); (case side6 => exact (Kd.R_reads' HO267.out).2.1); (case side7 => refine (Kd.R_reads' (e := 34) (base := w.heap.size) (ok := fun k_ => True) (n := x257001_94.length) (c := co169) ?_).2.2; exact (by (with_reducible repeat (first | apply Kd.R_alloc | apply Kd.R_drewN | apply Kd.R_drew)); exact (Kd.R_mono (Kd.R_far (p := ⟨gb256, 0, none⟩) (Kd.R_types HO_257001.out BK256.out (by decide)) (fun _ hk => hk.2) (.slice Ao161 t265.length co161)) (fun _ h_ => h_.1)))); (case side8 => exact (Kd.R_reads' HO_257001.out).2.1); rintro e w170 ⟨v269, v272, rfl, ho0, ho1, hb⟩; refine ⟨_, rfl, ?_⟩; replace HO_8 := Aside0.mk (Kd.R_below (by (with_reducible repeat (first | apply Kd.R_alloc | apply Kd.R_drewN | apply Kd.R_drew)); exact (Kd.R_mono (Kd.R_far (p := ⟨gb256, 0, none⟩) (Kd.R_types HO_8.out BK256.out (by decide)) (fun _ hk => hk.2) (.slice Ao161 t265.length co161)) (fun _ h_ => h_.1))) hb); have HO270 := Aside0.mk (Kd.R_lower (Kd.R_new' ho0 (Kd.R_lt (by (with_reducible repeat (first | apply Kd.R_alloc | apply Kd.R_drewN | apply Kd.R_drew)); exact (Kd.R_mono (Kd.R_far (p := ⟨gb256, 0, none⟩) (Kd.R_types HO267.out BK256.out (by decide)) (fun _ hk => hk.2) (.slice Ao161 t265.length co161)) (fun _ h_ => h_.1))))) (below_size (bw4 HB.out GE246.out GE247.out GE248.out GE256.out))); replace HO267 := Aside0.mk (Kd.R_elder' (by (with_reducible repeat (first | apply Kd.R_alloc | apply Kd.R_drewN | apply Kd.R_drew)); exact (Kd.R_mono (Kd.R_far (p := ⟨gb256, 0, none⟩) (Kd.R_types HO267.out BK256.out (by decide)) (fun _ hk => hk.2) (.slice Ao161 t265.length co161)) (fun _ h_ => h_.1))) (Kd.R_base ho0) hb); have HO273 := Aside0.mk (Kd.R_lower (Kd.R_new' ho1 (Kd.R_lt (by (with_reducible repeat (first | apply Kd.R_alloc | apply Kd.R_drewN | apply Kd.R_drew)); exact (Kd.R_mono (Kd.R_far (p := ⟨gb256, 0, none⟩) (Kd.R_types HO_257001.out BK256.out (by decide)) (fun _ hk => hk.2) (.slice Ao161 t265.length co161)) (fun _ h_ => h_.1))))) (below_size (bw4 HB.out GE246.out GE247.out GE248.out GE256.out))); replace HO_257001 := Aside0.mk (Kd.R_elder' (by (with_reducible repeat (first | apply Kd.R_alloc | apply Kd.R_drewN | apply Kd.R_drew)); exact (Kd.R_mono (Kd.R_far (p := ⟨gb256, 0, none⟩) (Kd.R_types HO_257001.out BK256.out (by decide)) (fun _ hk => hk.2) (.slice Ao161 t265.length co161)) (fun _ h_ => h_.1))) (Kd.R_base ho1) hb); replace BK246 := Aside0.mk (blk_below (g := gb246) (o := .cells #[.slice A0_0 l0_0.length c0_0, .slice A0_1 l0_1.length c0_1] 28 (0, 0)) (by (with_reducible repeat (first | refine blk_drewN ?_ _ | refine blk_drew ?_ | refine blk_alloc ?_ _)); refine blk_far ?_ NB246_256.out _; (with_reducible repeat (first | refine blk_drewN ?_ _ | refine blk_drew ?_ | refine blk_alloc ?_ _)); exact BK246.out) hb); replace BK247 := Aside0.mk (blk_below (g := gb247) (o := .cells #[.int .i64 a2_0, .string a2_1, .string a2_2, .int .i64 a2_3] 40 (0, 0)) (by (with_reducible repeat (first | refine blk_drewN ?_ _ | refine blk_drew ?_ | refine blk_alloc ?_ _)); refine blk_far ?_ NB247_256.out _; (with_reducible repeat (first | refine blk_drewN ?_ _ | refine blk_drew ?_ | refine blk_alloc ?_ _)); exact BK247.out) hb); replace BK248 := Aside0.mk (blk_below (g := gb248) (o := .cells #[.slice none 0 0, .slice none 0 0, .int .i64 x249002_94] 43 (0, 0)) (by (with_reducible repeat (first | refine blk_drewN ?_ _ | refine blk_drew ?_ | refine blk_alloc ?_ _)); refine blk_far ?_ NB248_256.out _; (with_reducible repeat (first | refine blk_drewN ?_ _ | refine blk_drew ?_ | refine blk_alloc ?_ _)); exact BK248.out) hb); replace BK256 := Aside0.mk (blk_below (g := gb256) (o := .cells #[.slice Ao161 t265.length co161, .slice Ao169 x257001_94.length co169] 28 (0, 0)) (by (with_reducible repeat (first | refine blk_drewN ?_ _ | refine blk_drew ?_ | refine blk_alloc ?_ _)); refine blk_put (cs := #[.slice none 0 0, .slice Ao169 x257001_94.length co169]) ?_ 0 _ rfl; (with_reducible repeat (first | refine blk_drewN ?_ _ | refine blk_drew ?_ | refine blk_alloc ?_ _)); exact BK256.out) hb); replace HB := Aside0.mk (below_step (bw4 HB.out GE246.out GE247.out GE248.out GE256.out) hb); (try clear hb); (try clear hb2); (try clear hk); (try clear hi); (try clear ho0); (try clear ho1); obtain ⟨Ao171, co171, eo171⟩ := Kd.R_slice HO273.out; subst eo171; obtain ⟨hcz172_0, hcz172_1⟩ := bx2 BK256.out; obtain ⟨hfz172_0, hfz172_1⟩ := bf2 BK256.out; have hnb173 := NB248_247.out; have hnc173 := NB247_248.out; obtain ⟨hcz174_0, hcz174_1, hcz174_2⟩ := bx3 BK248.out; obtain ⟨hfz174_0, hfz174_1, hfz174_2⟩ := bf3 BK248.out))
               refine bodyPost_ret (results_cell_row rfl _ _ gb248 43 #[.slice Ao161 t265.length co161, .slice Ao169 x257001_94.length co169, .int .i64 0] (0, 0) _ rfl (by (with_reducible repeat (first | refine blk_drewN ?_ _ | refine blk_drew ?_ | refine blk_alloc ?_ _)); refine blk_put (cs := #[.slice Ao161 t265.length co161, .slice Ao169 x257001_94.length co169, .int .i64 x249002_94]) ?_ 2 _ rfl; (with_reducible repeat (first | refine blk_drewN ?_ _ | refine blk_drew ?_ | refine blk_alloc ?_ _)); refine blk_put (cs := #[.slice Ao161 t265.length co161, .slice none 0 0, .int .i64 x249002_94]) ?_ 1 _ rfl; (with_reducible repeat (first | refine blk_drewN ?_ _ | refine blk_drew ?_ | refine blk_alloc ?_ _)); refine blk_put (cs := #[.slice none 0 0, .slice none 0 0, .int .i64 x249002_94]) ?_ 0 _ rfl; (with_reducible repeat (first | refine blk_drewN ?_ _ | refine blk_drew ?_ | refine blk_alloc ?_ _)); exact BK248.out) Try.underlying43 rfl (by kernel_rfl)) rfl ?_
               exact ⟨_, _, by first | rfl | (simp [errW_none, errW_some] <;> rfl) | (simp [*, errW_none, errW_some] <;> rfl), by (with_reducible repeat (first | apply Kd.R_alloc | apply Kd.R_drewN | apply Kd.R_drew)); exact Kd.R_mono (Kd.R_far (p := ⟨gb248, 2, none⟩) (Kd.R_far (p := ⟨gb248, 1, none⟩) (Kd.R_far (p := ⟨gb248, 0, none⟩) (Kd.R_types HO267.out BK248.out (by decide)) (fun _ hk => hk.2) (.slice Ao161 t265.length co161)) (fun _ hk => hk.2) (.slice Ao169 x257001_94.length co169)) (fun _ hk => hk.2) (.int .i64 0)) (fun _ hk => trivial), by (with_reducible repeat (first | apply Kd.R_alloc | apply Kd.R_drewN | apply Kd.R_drew)); exact Kd.R_mono (Kd.R_far (p := ⟨gb248, 2, none⟩) (Kd.R_far (p := ⟨gb248, 1, none⟩) (Kd.R_far (p := ⟨gb248, 0, none⟩) (Kd.R_types HO_257001.out BK248.out (by decide)) (fun _ hk => hk.2) (.slice Ao161 t265.length co161)) (fun _ hk => hk.2) (.slice Ao169 x257001_94.length co169)) (fun _ hk => hk.2) (.int .i64 0)) (fun _ hk => trivial), bw4 HB.out GE246.out GE247.out GE248.out GE256.out⟩

end Go.Proofs.Ytaonemedoikieaa.M
