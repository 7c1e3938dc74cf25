-- Written by a program of this work (wip/tools/mkprint.py) over the kit's print; Lean checks it.
import Derived.Test.YtaonemedoikieaaMx0
import Derived.Test.YtaonemedoikieaaHAbb2
namespace Go.Proofs.Ytaonemedoikieaa.M
open Go.RowKit Go.Proofs.YtaonemedoikieaaW.PrintWords Go.Proofs.YtaonemedoikieaaW.PrintLast Go.Proofs.YtaonemedoikieaaW.PrintMore Go.Proofs.Ytaonemedoikieaa.AB
attribute [local go_sem] max2_int min2_int max_two min_two max_three min_three max_four min_four   -- for this text's walks alone
set_option linter.unusedVariables false
set_option linter.unusedSimpArgs false

/-! ### deaddroplaw8_Op: function 12 -/
def deaddroplaw8_Op.f (a0 : Int) (a1 : Int) : Option (Int × ByteArray × ByteArray × Int) := some (wrap64 (1 + (Int.tmod (wrap64 (a0)) 5)), strOfNums (([107 + (((Int.tdiv a0 5) % 256) % 3)] : List Int)), strOfNums (([(97 + (Int.tmod a1 5)) % 256] : List Int)), wrap64 ((wrap64 (a1)) - 100))
set_option maxHeartbeats 8000000 in
set_option maxRecDepth 100000 in
theorem deaddroplaw8_Op.calls (a0 : Int) (a1 : Int) (r1 : Int) (r2 : ByteArray) (r3 : ByteArray) (r4 : Int) (w : World) (h : deaddroplaw8_Op.f a0 a1 = some (r1, r2, r3, r4)) :
    Calls Try.prog 12 #[.int .u8 a0, .int .u8 a1] w fun e w' => e = .returned (.agg #[.int .i64 r1, .string r2, .string r3, .int .i64 r4]) ∧ Below w.heap.size w w' := by
  have hu40 := Try.underlying40
  have HB := Aside0.mk (Below.refl w.heap.size w)
  have H : (some (wrap64 (1 + (Int.tmod (wrap64 (a0)) 5)), strOfNums (([107 + (((Int.tdiv a0 5) % 256) % 3)] : List Int)), strOfNums (([(97 + (Int.tmod a1 5)) % 256] : List Int)), wrap64 ((wrap64 (a1)) - 100))) = some (r1, r2, r3, r4) := h
  clear h
  obtain ⟨y224, hy224⟩ : ∃ y_ : List Int, y_ = (([107 + (((Int.tdiv a0 5) % 256) % 3)] : List Int)) := ⟨_, rfl⟩
  replace H : (some (wrap64 (1 + (Int.tmod (wrap64 (a0)) 5)), strOfNums y224, strOfNums (([(97 + (Int.tmod a1 5)) % 256] : List Int)), wrap64 ((wrap64 (a1)) - 100))) = some (r1, r2, r3, r4) := by first | (rw [hy224]; with_reducible exact H) | (have H2_ := (Option.bind_some _ _).symm.trans H; rw [hy224]; with_reducible exact H2_) | (have H2_ := (Option.bind_some _ _).symm.trans H; with_reducible exact H2_) | with_reducible exact H | (rw [hy224]; exact H) | exact H
  have Ny224 := Aside0.mk hy224
  clear hy224
  obtain ⟨y227, hy227⟩ : ∃ y_ : List Int, y_ = (([(97 + (Int.tmod a1 5)) % 256] : List Int)) := ⟨_, rfl⟩
  replace H : (some (wrap64 (1 + (Int.tmod (wrap64 (a0)) 5)), strOfNums y224, strOfNums y227, wrap64 ((wrap64 (a1)) - 100))) = some (r1, r2, r3, r4) := by first | (rw [hy227]; with_reducible exact H) | (have H2_ := (Option.bind_some _ _).symm.trans H; rw [hy227]; with_reducible exact H2_) | (have H2_ := (Option.bind_some _ _).symm.trans H; with_reducible exact H2_) | with_reducible exact H | (rw [hy227]; exact H) | exact H
  have Ny227 := Aside0.mk hy227
  clear hy227
  simp only [Option.some.injEq, Prod.mk.injEq] at H
  obtain ⟨rfl, rfl, rfl, rfl⟩ := H
  go_enter Try.func12, Try.ntmps12
  go_wp2_with (first | ((with_reducible refine gate_dst (N := 4) rfl ?_); refine box_event ?hg (N := 4) ?hd (cs := #[.int .i64 0, .string (⟨#[]⟩ : ByteArray), .string (⟨#[]⟩ : ByteArray), .int .i64 0]) (t := 40) ?hr ?_; (case hd => rfl); (case hg => rfl); (case hr => first | (go_simp; done) | (go_simp; rfl)); intro gb223 hg w3 hbox hb; have BK223 := Aside0.mk (hbox); have GW223 := Aside0.mk ((by rw [hg]; exact (below_size (bw HB.out)) : w.heap.size ≤ gb223)); have GE223 := GW223; replace HB := Aside0.mk (below_step (bw HB.out) hb); clear hb hbox hg) | ((with_reducible refine gate_dst (N := 13) rfl ?_); refine Kd.R_lit (Kd.int .u8) _ 5 ?hg (N := 13) ?hd (xs := ([107 + (((Int.tdiv a0 5) % 256) % 3)] : List Int)) (inner := [.int .u8 (107 + (((Int.tdiv a0 5) % 256) % 3))]) (ok := fun _ => True) (okp := fun _ => True) ?hr ?hp (fun _ hk => hk) trivial (Below.refl _ _) (Nat.le_refl _) (by simp) ?_; (case hd => rfl); (case hg => rfl); (case hr => first | (go_simp; done) | (go_simp; rfl)); (case hp => exact (Reps.one (show Kd.M (Kd.int .u8) _ _ _ (107 + (((Int.tdiv a0 5) % 256) % 3)) [.int .u8 (107 + (((Int.tdiv a0 5) % 256) % 3))] from rfl) (Reps.none _ _))); intro v225 w4 ho5 hb hg_ hnew_; clear hg_ hnew_; (first | rw [← Ny224.out] at ho5 | (simp only [Int.reduceToNat] at ho5; rw [← Ny224.out] at ho5)); have HO226 := Aside0.mk (Kd.R_lower ho5 (below_size (bw1 HB.out GE223.out))); replace BK223 := Aside0.mk (bkb BK223.out hb); replace HB := Aside0.mk (below_step (bw1 HB.out GE223.out) hb); clear hb ho5; have hcv6 := own_string (P := Try.prog) Try.underlying22 Try.underlying5 Try.underlying9 (Kd.own_of_R HO226.out)) | ((with_reducible refine gate_dst (N := 18) rfl ?_); refine Kd.R_lit (Kd.int .u8) _ 5 ?hg (N := 18) ?hd (xs := ([(97 + (Int.tmod a1 5)) % 256] : List Int)) (inner := [.int .u8 ((97 + (Int.tmod a1 5)) % 256)]) (ok := fun _ => True) (okp := fun _ => True) ?hr ?hp (fun _ hk => hk) trivial (Below.refl _ _) (Nat.le_refl _) (by simp) ?_; (case hd => rfl); (case hg => rfl); (case hr => first | (go_simp; done) | (go_simp; rfl)); (case hp => exact (Reps.one (show Kd.M (Kd.int .u8) _ _ _ ((97 + (Int.tmod a1 5)) % 256) [.int .u8 ((97 + (Int.tmod a1 5)) % 256)] from rfl) (Reps.none _ _))); intro v228 w7 ho8 hb hg_ hnew_; clear hg_ hnew_; (first | rw [← Ny227.out] at ho8 | (simp only [Int.reduceToNat] at ho8; rw [← Ny227.out] at ho8)); have HO229 := Aside0.mk (Kd.R_lower (Kd.R_new' ho8 (Kd.R_lt (rk HO226.out))) (below_size (bw1 HB.out GE223.out))); replace HO226 := Aside0.mk (Kd.R_elder' (rk HO226.out) (Kd.R_base ho8) hb); replace BK223 := Aside0.mk (bkb BK223.out hb); replace HB := Aside0.mk (below_step (bw1 HB.out GE223.out) hb); clear hb ho8; have hcv9 := own_string (P := Try.prog) Try.underlying22 Try.underlying5 Try.underlying9 (Kd.own_of_R HO229.out); obtain ⟨hcz10_0, hcz10_1, hcz10_2, hcz10_3⟩ := bx4 BK223.out; obtain ⟨hfz10_0, hfz10_1, hfz10_2, hfz10_3⟩ := bf4 BK223.out))
  refine bodyPost_ret (results_cell_row rfl _ _ gb223 40 #[.int .i64 (wrap64 (1 + (Int.tmod (wrap64 (a0)) 5))), .string (strOfNums y224), .string (strOfNums y227), .int .i64 (wrap64 ((wrap64 (a1)) - 100))] (0, 0) _ rfl (by (with_reducible repeat (first | refine blk_drewN ?_ _ | refine blk_drew ?_ | refine blk_alloc ?_ _)); refine blk_put (cs := #[.int .i64 (wrap64 (1 + (Int.tmod (wrap64 (a0)) 5))), .string (strOfNums y224), .string (strOfNums y227), .int .i64 0]) ?_ 3 _ rfl; (with_reducible repeat (first | refine blk_drewN ?_ _ | refine blk_drew ?_ | refine blk_alloc ?_ _)); refine blk_put (cs := #[.int .i64 (wrap64 (1 + (Int.tmod (wrap64 (a0)) 5))), .string (strOfNums y224), .string (⟨#[]⟩ : ByteArray), .int .i64 0]) ?_ 2 _ rfl; (with_reducible repeat (first | refine blk_drewN ?_ _ | refine blk_drew ?_ | refine blk_alloc ?_ _)); refine blk_put (cs := #[.int .i64 (wrap64 (1 + (Int.tmod (wrap64 (a0)) 5))), .string (⟨#[]⟩ : ByteArray), .string (⟨#[]⟩ : ByteArray), .int .i64 0]) ?_ 1 _ rfl; (with_reducible repeat (first | refine blk_drewN ?_ _ | refine blk_drew ?_ | refine blk_alloc ?_ _)); refine blk_put (cs := #[.int .i64 0, .string (⟨#[]⟩ : ByteArray), .string (⟨#[]⟩ : ByteArray), .int .i64 0]) ?_ 0 _ rfl; (with_reducible repeat (first | refine blk_drewN ?_ _ | refine blk_drew ?_ | refine blk_alloc ?_ _)); exact BK223.out) Try.underlying40 rfl (by kernel_rfl)) rfl ?_
  exact ⟨by first | rfl | (simp [errW_none, errW_some] <;> rfl) | (simp [*, errW_none, errW_some] <;> rfl), bw1 HB.out GE223.out⟩

/-! ### deaddropref7_goes: function 29 -/
def deaddropref7_goes.j0 : Nat → Int → Int → Bool → Int → Int → ByteArray → Int → ByteArray → Int → Int → ByteArray → ByteArray → Int → Option (Bool)
 | 0, _, _, _, _, _, _, _, _, _, _, _, _, _ => none
 | k + 1, x1, x13, x19, x231000, x231001, x231002, x231003, x231004, x231005, x232000, x232001, x232002, x232003 => if x19 = true then (if x231003 = 2 then (some (x231004.toList == x232002.toList)) else (some false)) else (if x13 = 4 then (if x231003 = 3 then (some (x231000 == x1)) else (some false)) else (some true))
def deaddropref7_goes.f (k : Nat) (a0_0 : Int) (a0_1 : Int) (a0_2 : ByteArray) (a0_3 : Int) (a0_4 : ByteArray) (a0_5 : Int) (a1 : Int) (a2_0 : Int) (a2_1 : ByteArray) (a2_2 : ByteArray) (a2_3 : Int) : Option (Bool) := if a0_2.toList = a2_1.toList then (if a2_0 = 1 then (some (a0_3 == 1)) else (if a2_0 = 2 then (deaddropref7_goes.j0 k a1 a2_0 (a2_0 == 2) a0_0 a0_1 a0_2 a0_3 a0_4 a0_5 a2_0 a2_1 a2_2 a2_3) else (deaddropref7_goes.j0 k a1 a2_0 (a2_0 == 3) a0_0 a0_1 a0_2 a0_3 a0_4 a0_5 a2_0 a2_1 a2_2 a2_3))) else (some false)
theorem deaddropref7_goes.mono_l : ∀ k, (∀ y0 y1 y2 y3 y4 y5 y6 y7 y8 y9 y10 y11 y12, LeO (deaddropref7_goes.j0 k y0 y1 y2 y3 y4 y5 y6 y7 y8 y9 y10 y11 y12) (deaddropref7_goes.j0 (k + 1) y0 y1 y2 y3 y4 y5 y6 y7 y8 y9 y10 y11 y12))
 | 0 => fun _ _ _ _ _ _ _ _ _ _ _ _ _ r h => by simp [deaddropref7_goes.j0] at h
 | k + 1 => by
  have ih0 := deaddropref7_goes.mono_l k
  ·
   intro y0 y1 y2 y3 y4 y5 y6 y7 y8 y9 y10 y11 y12
   unfold deaddropref7_goes.j0
   repeat' first
   | with_reducible (first | exact ih0 _ _ _ _ _ _ _ _ _ _ _ _ _ | exact LeO.refl _ | exact LeO.none _ | refine LeO.ite ?_ ?_ | refine LeO.bind ?_ (fun _ => ?_))
   | exact ih0 _ _ _ _ _ _ _ _ _ _ _ _ _ | exact LeO.none _ | refine LeO.ite ?_ ?_ | refine LeO.bind ?_ (fun _ => ?_)
theorem deaddropref7_goes.mono : ∀ a0 a1 a2 a3 a4 a5 a6 a7 a8 a9 a10 k, LeO (deaddropref7_goes.f k a0 a1 a2 a3 a4 a5 a6 a7 a8 a9 a10) (deaddropref7_goes.f (k + 1) a0 a1 a2 a3 a4 a5 a6 a7 a8 a9 a10) := by
 intro a0 a1 a2 a3 a4 a5 a6 a7 a8 a9 a10 k
 have ih0 := deaddropref7_goes.mono_l k
 unfold deaddropref7_goes.f
 repeat' first
  | with_reducible (first | exact ih0 _ _ _ _ _ _ _ _ _ _ _ _ _ | exact LeO.refl _ | exact LeO.none _ | refine LeO.ite ?_ ?_ | refine LeO.bind ?_ (fun _ => ?_))
  | exact ih0 _ _ _ _ _ _ _ _ _ _ _ _ _ | exact LeO.none _ | refine LeO.ite ?_ ?_ | refine LeO.bind ?_ (fun _ => ?_)
set_option maxHeartbeats 8000000 in
set_option maxRecDepth 100000 in
theorem deaddropref7_goes.calls (k : Nat) (a0_0 : Int) (a0_1 : Int) (a0_2 : ByteArray) (a0_3 : Int) (a0_4 : ByteArray) (a0_5 : Int) (a1 : Int) (a2_0 : Int) (a2_1 : ByteArray) (a2_2 : ByteArray) (a2_3 : Int) (r : Bool) (w : World) (h : deaddropref7_goes.f k a0_0 a0_1 a0_2 a0_3 a0_4 a0_5 a1 a2_0 a2_1 a2_2 a2_3 = some r) :
 Calls Try.prog 29 #[.agg #[.int .i64 a0_0, .int .i64 a0_1, .string a0_2, .int .i64 a0_3, .string a0_4, .int .i64 a0_5], .int .i64 a1, .agg #[.int .i64 a2_0, .string a2_1, .string a2_2, .int .i64 a2_3]] w fun e w' => e = .returned (.bool r) ∧ Below w.heap.size w w' := by
 have hu34 := Try.underlying34
 have hu40 := Try.underlying40
 have HB := Aside0.mk (Below.refl w.heap.size w)
 have H : (if a0_2.toList = a2_1.toList then (if a2_0 = 1 then (some (a0_3 == 1)) else (if a2_0 = 2 then (deaddropref7_goes.j0 k a1 a2_0 (a2_0 == 2) a0_0 a0_1 a0_2 a0_3 a0_4 a0_5 a2_0 a2_1 a2_2 a2_3) else (deaddropref7_goes.j0 k a1 a2_0 (a2_0 == 3) a0_0 a0_1 a0_2 a0_3 a0_4 a0_5 a2_0 a2_1 a2_2 a2_3))) else (some false)) = some r := h
 clear h
 by_cases c4 : a0_2.toList = a2_1.toList
 ·
  rw [if_pos c4] at H
  have c4b0 : (a0_2.toList == a2_1.toList) = true := beq_iff_eq.mpr c4
  have c4b1 : (a0_2.toList != a2_1.toList) = false := bne_eq_false_iff_eq.mpr c4
  clear c4
  by_cases c5 : a2_0 = 1
  ·
   rw [if_pos c5] at H
   have c5b0 : (a2_0 == 1) = true := beq_iff_eq.mpr c5
   have c5b1 : (a2_0 != 1) = false := bne_eq_false_iff_eq.mpr c5
   clear c5
   obtain rfl := Option.some.inj H
   go_enter Try.func29, Try.ntmps29
   go_wp2_with (first | ((with_reducible refine gate_dst (N := 3) rfl ?_); refine box_event ?hg (N := 3) ?hd (cs := #[.int .i64 a0_0, .int .i64 a0_1, .string a0_2, .int .i64 a0_3, .string a0_4, .int .i64 a0_5]) (t := 34) ?hr ?_; (case hd => rfl); (case hg => rfl); (case hr => first | (go_simp; done) | (go_simp; rfl)); intro gb230 hg w6 hbox hb; have BK230 := Aside0.mk (hbox); have GW230 := Aside0.mk ((by rw [hg]; exact (below_size (bw HB.out)) : w.heap.size ≤ gb230)); have GE230 := GW230; replace HB := Aside0.mk (below_step (bw HB.out) hb); clear hb hbox hg) | ((with_reducible refine gate_dst (N := 5) rfl ?_); refine box_event ?hg (N := 5) ?hd (cs := #[.int .i64 a2_0, .string a2_1, .string a2_2, .int .i64 a2_3]) (t := 40) ?hr ?_; (case hd => rfl); (case hg => rfl); (case hr => first | (go_simp; done) | (go_simp; rfl)); intro gb231 hg w7 hbox hb; have BK231 := Aside0.mk (hbox); have GW231 := Aside0.mk ((by rw [hg]; exact (below_size (bw1 HB.out GE230.out)) : w.heap.size ≤ gb231)); have GE231 := GW231; replace HB := Aside0.mk (below_step (bw1 HB.out GE230.out) hb); have NB230_231 := Aside0.mk (nbl BK230.out hg); have NB231_230 := Aside0.mk (nbg BK230.out hg); replace BK230 := Aside0.mk (bkb BK230.out hb); clear hb hbox hg; have hnb8 := NB230_231.out; have hnc8 := NB231_230.out; obtain ⟨hcz9_0, hcz9_1, hcz9_2, hcz9_3, hcz9_4, hcz9_5⟩ := bx6 BK230.out; obtain ⟨hfz9_0, hfz9_1, hfz9_2, hfz9_3, hfz9_4, hfz9_5⟩ := bf6 BK230.out; obtain ⟨hcz10_0, hcz10_1, hcz10_2, hcz10_3⟩ := bx4 BK231.out; obtain ⟨hfz10_0, hfz10_1, hfz10_2, hfz10_3⟩ := bf4 BK231.out))
   go_ret
   exact ⟨by first | rfl | (simp [errW_none, errW_some] <;> rfl) | (simp [*, errW_none, errW_some] <;> rfl), bw2 HB.out GE230.out GE231.out⟩
  ·
   rw [if_neg c5] at H
   have c5b0 : (a2_0 == 1) = false := beq_eq_false_iff_ne.mpr c5
   have c5b1 : (a2_0 != 1) = true := bne_iff_ne.mpr c5
   have HC11 := Aside0.mk H
   clear H
   go_enter Try.func29, Try.ntmps29
   go_upto_if 19 with (first | ((with_reducible refine gate_dst (N := 3) rfl ?_); refine box_event ?hg (N := 3) ?hd (cs := #[.int .i64 a0_0, .int .i64 a0_1, .string a0_2, .int .i64 a0_3, .string a0_4, .int .i64 a0_5]) (t := 34) ?hr ?_; (case hd => rfl); (case hg => rfl); (case hr => first | (go_simp; done) | (go_simp; rfl)); intro gb230 hg w12 hbox hb; have BK230 := Aside0.mk (hbox); have GW230 := Aside0.mk ((by rw [hg]; exact (below_size (bw HB.out)) : w.heap.size ≤ gb230)); have GE230 := GW230; replace HB := Aside0.mk (below_step (bw HB.out) hb); clear hb hbox hg) | ((with_reducible refine gate_dst (N := 5) rfl ?_); refine box_event ?hg (N := 5) ?hd (cs := #[.int .i64 a2_0, .string a2_1, .string a2_2, .int .i64 a2_3]) (t := 40) ?hr ?_; (case hd => rfl); (case hg => rfl); (case hr => first | (go_simp; done) | (go_simp; rfl)); intro gb231 hg w13 hbox hb; have BK231 := Aside0.mk (hbox); have GW231 := Aside0.mk ((by rw [hg]; exact (below_size (bw1 HB.out GE230.out)) : w.heap.size ≤ gb231)); have GE231 := GW231; replace HB := Aside0.mk (below_step (bw1 HB.out GE230.out) hb); have NB230_231 := Aside0.mk (nbl BK230.out hg); have NB231_230 := Aside0.mk (nbg BK230.out hg); replace BK230 := Aside0.mk (bkb BK230.out hb); clear hb hbox hg; have hnb14 := NB230_231.out; have hnc14 := NB231_230.out; obtain ⟨hcz15_0, hcz15_1, hcz15_2, hcz15_3, hcz15_4, hcz15_5⟩ := bx6 BK230.out; obtain ⟨hfz15_0, hfz15_1, hfz15_2, hfz15_3, hfz15_4, hfz15_5⟩ := bf6 BK230.out; obtain ⟨hcz16_0, hcz16_1, hcz16_2, hcz16_3⟩ := bx4 BK231.out; obtain ⟨hfz16_0, hfz16_1, hfz16_2, hfz16_3⟩ := bf4 BK231.out))
   (try simp only [Act.put, List.setIfInBounds_toArray, List.set_cons_zero, List.set_cons_succ])
   go_cut [19] (fun v19 wc => ∃ (kq : Nat) (x19_10 : Bool), v19 = .bool x19_10 ∧ Aside0 (deaddropref7_goes.j0 kq a1 a2_0 x19_10 a0_0 a0_1 a0_2 a0_3 a0_4 a0_5 a2_0 a2_1 a2_2 a2_3 = some r) ∧ Aside0 (kq ≤ k) ∧ Aside0 (wc.heap[gb230]? = some (.cells #[.int .i64 a0_0, .int .i64 a0_1, .string a0_2, .int .i64 a0_3, .string a0_4, .int .i64 a0_5] 34 (0, 0))) ∧ Aside0 (wc.heap[gb231]? = some (.cells #[.int .i64 a2_0, .string a2_1, .string a2_2, .int .i64 a2_3] 40 (0, 0))) ∧ Aside0 (Below w.heap.size w wc))
   case first =>
    have H := HC11.out
    clear HC11
    by_cases c17 : a2_0 = 2
    ·
     rw [if_pos c17] at H
     have c17b0 : (a2_0 == 2) = true := beq_iff_eq.mpr c17
     have c17b1 : (a2_0 != 2) = false := bne_eq_false_iff_eq.mpr c17
     clear c17
     (first | rw [c17b0] | (simp only [i64_w, i32_w]; rw [c17b0]) | skip)
     have H' := Aside0.mk H
     clear H
     go_wp2
     go_meet
     case rel => exact ⟨_, ((a2_0 == 2)), ok_, H', ⟨by first | omega | exact Nat.le_refl _⟩, ⟨bk BK230.out⟩, ⟨bk BK231.out⟩, ⟨bw2 HB.out GE230.out GE231.out⟩⟩
    ·
     rw [if_neg c17] at H
     have c17b0 : (a2_0 == 2) = false := beq_eq_false_iff_ne.mpr c17
     have c17b1 : (a2_0 != 2) = true := bne_iff_ne.mpr c17
     (first | rw [c17b0] | (simp only [i64_w, i32_w]; rw [c17b0]) | skip)
     have H' := Aside0.mk H
     clear H
     go_wp2
     go_meet
     case rel => exact ⟨_, ((a2_0 == 3)), ok_, H', ⟨by first | omega | exact Nat.le_refl _⟩, ⟨bk BK230.out⟩, ⟨bk BK231.out⟩, ⟨bw2 HB.out GE230.out GE231.out⟩⟩
   case rest =>
    clear HC11
    try clear c4
    try clear c4b0
    try clear c4b1
    try clear c5
    try clear c5b0
    try clear c5b1
    try clear hcz15_0
    try clear hcz15_1
    try clear hcz15_2
    try clear hcz15_3
    try clear hcz15_4
    try clear hcz15_5
    try clear hcz16_0
    try clear hcz16_1
    try clear hcz16_2
    try clear hcz16_3
    try clear hfz15_0
    try clear hfz15_1
    try clear hfz15_2
    try clear hfz15_3
    try clear hfz15_4
    try clear hfz15_5
    try clear hfz16_0
    try clear hfz16_1
    try clear hfz16_2
    try clear hfz16_3
    obtain ⟨kq, x19_10, rfl, HA, HJ10, BK230, BK231, HB⟩ := hcut
    cases kq with
    | zero => exact absurd HA.out (by simp [deaddropref7_goes.j0])
    | succ kj10 =>
     have H := HA.out
     clear HA
     simp only [deaddropref7_goes.j0] at H
     by_cases c18 : x19_10 = true
     ·
      subst c18
      have H1 : (if a0_3 = 2 then (some (a0_4.toList == a2_2.toList)) else (some false)) = some r := by rw [if_pos rfl] at H; exact H
      clear H
      have H := H1
      clear H1
      by_cases c19 : a0_3 = 2
      ·
       rw [if_pos c19] at H
       have c19b0 : (a0_3 == 2) = true := beq_iff_eq.mpr c19
       have c19b1 : (a0_3 != 2) = false := bne_eq_false_iff_eq.mpr c19
       clear c19
       obtain rfl := Option.some.inj H
       have hnb20 := NB230_231.out
       have hnc20 := NB231_230.out
       obtain ⟨hcz21_0, hcz21_1, hcz21_2, hcz21_3, hcz21_4, hcz21_5⟩ := bx6 BK230.out
       obtain ⟨hfz21_0, hfz21_1, hfz21_2, hfz21_3, hfz21_4, hfz21_5⟩ := bf6 BK230.out
       obtain ⟨hcz22_0, hcz22_1, hcz22_2, hcz22_3⟩ := bx4 BK231.out
       obtain ⟨hfz22_0, hfz22_1, hfz22_2, hfz22_3⟩ := bf4 BK231.out
       go_wp2
       go_ret
       exact ⟨by first | rfl | (simp [errW_none, errW_some] <;> rfl) | (simp [*, errW_none, errW_some] <;> rfl), bw2 HB.out GE230.out GE231.out⟩
      ·
       rw [if_neg c19] at H
       have c19b0 : (a0_3 == 2) = false := beq_eq_false_iff_ne.mpr c19
       have c19b1 : (a0_3 != 2) = true := bne_iff_ne.mpr c19
       obtain rfl := Option.some.inj H
       have hnb23 := NB230_231.out
       have hnc23 := NB231_230.out
       obtain ⟨hcz24_0, hcz24_1, hcz24_2, hcz24_3, hcz24_4, hcz24_5⟩ := bx6 BK230.out
       obtain ⟨hfz24_0, hfz24_1, hfz24_2, hfz24_3, hfz24_4, hfz24_5⟩ := bf6 BK230.out
       go_wp2
       go_ret
       exact ⟨by first | rfl | (simp [errW_none, errW_some] <;> rfl) | (simp [*, errW_none, errW_some] <;> rfl), bw2 HB.out GE230.out GE231.out⟩
     ·
      replace c18 := Bool.eq_false_iff.mpr c18
      subst c18
      have H1 : (if a2_0 = 4 then (if a0_3 = 3 then (some (a0_0 == a1)) else (some false)) else (some true)) = some r := by rw [if_neg (show ¬ (false = true) by decide)] at H; exact H
      clear H
      have H := H1
      clear H1
      by_cases c25 : a2_0 = 4
      rotate_left
      ·
       rw [if_neg c25] at H
       have c25b0 : (a2_0 == 4) = false := beq_eq_false_iff_ne.mpr c25
       have c25b1 : (a2_0 != 4) = true := bne_iff_ne.mpr c25
       obtain rfl := Option.some.inj H
       go_wp2
       go_ret
       exact ⟨by first | rfl | (simp [errW_none, errW_some] <;> rfl) | (simp [*, errW_none, errW_some] <;> rfl), bw2 HB.out GE230.out GE231.out⟩
      rw [if_pos c25] at H
      have c25b0 : (a2_0 == 4) = true := beq_iff_eq.mpr c25
      have c25b1 : (a2_0 != 4) = false := bne_eq_false_iff_eq.mpr c25
      clear c25
      by_cases c26 : a0_3 = 3
      ·
       rw [if_pos c26] at H
       have c26b0 : (a0_3 == 3) = true := beq_iff_eq.mpr c26
       have c26b1 : (a0_3 != 3) = false := bne_eq_false_iff_eq.mpr c26
       clear c26
       obtain rfl := Option.some.inj H
       have hnb27 := NB230_231.out
       have hnc27 := NB231_230.out
       obtain ⟨hcz28_0, hcz28_1, hcz28_2, hcz28_3, hcz28_4, hcz28_5⟩ := bx6 BK230.out
       obtain ⟨hfz28_0, hfz28_1, hfz28_2, hfz28_3, hfz28_4, hfz28_5⟩ := bf6 BK230.out
       go_wp2
       go_ret
       exact ⟨by first | rfl | (simp [errW_none, errW_some] <;> rfl) | (simp [*, errW_none, errW_some] <;> rfl), bw2 HB.out GE230.out GE231.out⟩
      ·
       rw [if_neg c26] at H
       have c26b0 : (a0_3 == 3) = false := beq_eq_false_iff_ne.mpr c26
       have c26b1 : (a0_3 != 3) = true := bne_iff_ne.mpr c26
       obtain rfl := Option.some.inj H
       have hnb29 := NB230_231.out
       have hnc29 := NB231_230.out
       obtain ⟨hcz30_0, hcz30_1, hcz30_2, hcz30_3, hcz30_4, hcz30_5⟩ := bx6 BK230.out
       obtain ⟨hfz30_0, hfz30_1, hfz30_2, hfz30_3, hfz30_4, hfz30_5⟩ := bf6 BK230.out
       go_wp2
       go_ret
       exact ⟨by first | rfl | (simp [errW_none, errW_some] <;> rfl) | (simp [*, errW_none, errW_some] <;> rfl), bw2 HB.out GE230.out GE231.out⟩
 ·
  rw [if_neg c4] at H
  have c4b0 : (a0_2.toList == a2_1.toList) = false := beq_eq_false_iff_ne.mpr c4
  have c4b1 : (a0_2.toList != a2_1.toList) = true := bne_iff_ne.mpr c4
  obtain rfl := Option.some.inj H
  go_enter Try.func29, Try.ntmps29
  go_wp2_with (first | ((with_reducible refine gate_dst (N := 3) rfl ?_); refine box_event ?hg (N := 3) ?hd (cs := #[.int .i64 a0_0, .int .i64 a0_1, .string a0_2, .int .i64 a0_3, .string a0_4, .int .i64 a0_5]) (t := 34) ?hr ?_; (case hd => rfl); (case hg => rfl); (case hr => first | (go_simp; done) | (go_simp; rfl)); intro gb230 hg w31 hbox hb; have BK230 := Aside0.mk (hbox); have GW230 := Aside0.mk ((by rw [hg]; exact (below_size (bw HB.out)) : w.heap.size ≤ gb230)); have GE230 := GW230; replace HB := Aside0.mk (below_step (bw HB.out) hb); clear hb hbox hg) | ((with_reducible refine gate_dst (N := 5) rfl ?_); refine box_event ?hg (N := 5) ?hd (cs := #[.int .i64 a2_0, .string a2_1, .string a2_2, .int .i64 a2_3]) (t := 40) ?hr ?_; (case hd => rfl); (case hg => rfl); (case hr => first | (go_simp; done) | (go_simp; rfl)); intro gb231 hg w32 hbox hb; have BK231 := Aside0.mk (hbox); have GW231 := Aside0.mk ((by rw [hg]; exact (below_size (bw1 HB.out GE230.out)) : w.heap.size ≤ gb231)); have GE231 := GW231; replace HB := Aside0.mk (below_step (bw1 HB.out GE230.out) hb); have NB230_231 := Aside0.mk (nbl BK230.out hg); have NB231_230 := Aside0.mk (nbg BK230.out hg); replace BK230 := Aside0.mk (bkb BK230.out hb); clear hb hbox hg; have hnb33 := NB230_231.out; have hnc33 := NB231_230.out; obtain ⟨hcz34_0, hcz34_1, hcz34_2, hcz34_3, hcz34_4, hcz34_5⟩ := bx6 BK230.out; obtain ⟨hfz34_0, hfz34_1, hfz34_2, hfz34_3, hfz34_4, hfz34_5⟩ := bf6 BK230.out; obtain ⟨hcz35_0, hcz35_1, hcz35_2, hcz35_3⟩ := bx4 BK231.out; obtain ⟨hfz35_0, hfz35_1, hfz35_2, hfz35_3⟩ := bf4 BK231.out))
  go_ret
  exact ⟨by first | rfl | (simp [errW_none, errW_some] <;> rfl) | (simp [*, errW_none, errW_some] <;> rfl), bw2 HB.out GE230.out GE231.out⟩

/-! ### deaddropref7_Last: function 30 -/
def deaddropref7_Last.l0 : Nat → List (S70) → Int → Int → Int → Option (Int)
  | 0, _, _, _, _ => none
  | k + 1, x0, x1, x5, x6 => if x6 < (x0.length : Int) then (if 0 ≤ x6 then (if ((rd_T70 x0 x6).f0) = x1 then (deaddropref7_Last.l0 k x0 x1 (mx x5 ((rd_T70 x0 x6).f2)) (wrap64 (x6 + 1))) else (deaddropref7_Last.l0 k x0 x1 x5 (wrap64 (x6 + 1)))) else (none)) else (some x5)
def deaddropref7_Last.f (k : Nat) (l0 : List (S70)) (a1 : Int) : Option (Int) := deaddropref7_Last.l0 k l0 a1 0 0
theorem deaddropref7_Last.mono_l : ∀ k, (∀ y0 y1 y2 y3, LeO (deaddropref7_Last.l0 k y0 y1 y2 y3) (deaddropref7_Last.l0 (k + 1) y0 y1 y2 y3))
  | 0 => fun _ _ _ _ r h => by simp [deaddropref7_Last.l0] at h
  | k + 1 => by
    have ih0 := deaddropref7_Last.mono_l k
    · intro y0 y1 y2 y3
      unfold deaddropref7_Last.l0
      repeat' first
      | with_reducible (first | exact ih0 _ _ _ _ | exact LeO.refl _ | exact LeO.none _ | refine LeO.ite ?_ ?_ | refine LeO.bind ?_ (fun _ => ?_))
      | exact ih0 _ _ _ _ | exact LeO.none _ | refine LeO.ite ?_ ?_ | refine LeO.bind ?_ (fun _ => ?_)
theorem deaddropref7_Last.mono : ∀ a0 a1 k, LeO (deaddropref7_Last.f k a0 a1) (deaddropref7_Last.f (k + 1) a0 a1) := by
  intro a0 a1 k
  have ih0 := deaddropref7_Last.mono_l k
  unfold deaddropref7_Last.f
  repeat' first
      | with_reducible (first | exact ih0 _ _ _ _ | exact LeO.refl _ | exact LeO.none _ | refine LeO.ite ?_ ?_ | refine LeO.bind ?_ (fun _ => ?_))
      | exact ih0 _ _ _ _ | exact LeO.none _ | refine LeO.ite ?_ ?_ | refine LeO.bind ?_ (fun _ => ?_)
set_option maxHeartbeats 8000000 in
set_option maxRecDepth 100000 in
theorem deaddropref7_Last.calls (k : Nat) (A0 : Option Addr) (c0 : Nat) (l0 : List (S70)) (a1 : Int) (r : Int) (w : World) (hr0 : Kd.C k70 w A0 l0.length l0) (hc0 : l0.length ≤ c0) (h : deaddropref7_Last.f k l0 a1 = some r) :
    Calls Try.prog 30 #[.slice A0 l0.length c0, .int .i64 a1] w fun e w' => e = .returned (.int .i64 r) ∧ Below w.heap.size w w' := by
  have HR0 := Aside0.mk hr0
  have HC0 := Aside0.mk hc0
  clear hr0 hc0
  have HB := Aside0.mk (Below.refl w.heap.size w)
  have H : (deaddropref7_Last.l0 k l0 a1 0 0) = some r := h
  clear h
  have H' := Aside0.mk H
  clear H
  go_enter Try.func30, Try.ntmps30
  go_wp2
  go_loopg [5, 6] k (fun kq v5 v6 w' => ∃ (x5_1 : Int) (x6_1 : Int), v5 = .int .i64 x5_1 ∧ v6 = .int .i64 x6_1 ∧ Aside0 (deaddropref7_Last.l0 kq l0 a1 x5_1 x6_1 = some r) ∧ Aside0 (kq ≤ k) ∧ Aside0 (Below w.heap.size w w'))
  case atStart => exact ⟨(0), (0), ok_, ok_, H', ⟨Nat.le_refl _⟩, ⟨bw HB.out⟩⟩
  case round =>
    clear H'
    obtain ⟨x5_1, x6_1, rfl, rfl, HA, HK1, HB⟩ := hrel
    cases gk with
    | zero => exact absurd HA.out (by simp [deaddropref7_Last.l0])
    | succ k1 =>
      have H := HA.out
      clear HA
      simp only [deaddropref7_Last.l0] at H
      by_cases c3 : x6_1 < (l0.length : Int)
      · rw [if_pos c3] at H
        have c3b0 : decide (x6_1 < (l0.length : Int)) = true := decide_eq_true c3
        clear c3
        by_cases c4 : 0 ≤ x6_1
        · rw [if_pos c4] at H
          have c4b0 : decide (0 ≤ x6_1) = true := decide_eq_true c4
          clear c4
          by_cases c5 : ((rd_T70 l0 x6_1).f0) = a1
          · rw [if_pos c5] at H
            have c5b0 : (((rd_T70 l0 x6_1).f0) == a1) = true := beq_iff_eq.mpr c5
            have c5b1 : (((rd_T70 l0 x6_1).f0) != a1) = false := bne_eq_false_iff_eq.mpr c5
            clear c5
            obtain ⟨ji6, hji6⟩ : ∃ j_ : Int, (mx x5_1 ((rd_T70 l0 x6_1).f2)) = j_ := ⟨_, rfl⟩
            replace H : (deaddropref7_Last.l0 k1 l0 a1 ji6 (wrap64 (x6_1 + 1))) = some r := by first | (rw [hji6] at H; exact H) | (simp only [hji6] at H ⊢; exact H)
            have hji6_ : (if x5_1 < ((rd_T70 l0 x6_1).f2) then ((rd_T70 l0 x6_1).f2) else x5_1) = ji6 := hji6
            have H' := Aside0.mk H
            clear H
            have p232 : 0 ≤ (x6_1 : Int) := of_decide_eq_true as_
            have q232 : x6_1 < (l0.length : Int) := of_decide_eq_true as_
            obtain ⟨ad232, e232, hx232_0, hx232_1, hx232_2⟩ := at_T70 HR0.out x6_1 p232 q232
            cases e232
            replace hx232_0 := (HB.out.cell (World.block_lt_of_cell? w _ hx232_0)).trans hx232_0
            replace hx232_1 := (HB.out.cell (World.block_lt_of_cell? w _ hx232_1)).trans hx232_1
            replace hx232_2 := (HB.out.cell (World.block_lt_of_cell? w _ hx232_2)).trans hx232_2
            replace p232 := eq_true p232
            replace q232 := eq_true q232
            have p233 : 0 ≤ (x6_1 : Int) := of_decide_eq_true as_
            have q233 : x6_1 < (l0.length : Int) := of_decide_eq_true as_
            obtain ⟨ad233, e233, hx233_0, hx233_1, hx233_2⟩ := at_T70 HR0.out x6_1 p233 q233
            obtain rfl : ad232 = ad233 := (by injection e233)
            replace hx233_0 := (HB.out.cell (World.block_lt_of_cell? w _ hx233_0)).trans hx233_0
            replace hx233_1 := (HB.out.cell (World.block_lt_of_cell? w _ hx233_1)).trans hx233_1
            replace hx233_2 := (HB.out.cell (World.block_lt_of_cell? w _ hx233_2)).trans hx233_2
            replace p233 := eq_true p233
            replace q233 := eq_true q233
            go_wp2
            go_roundg k1
            case measure => have := HK1.out; omega
            case rel => exact ⟨(ji6), (wrap64 (x6_1 + 1)), (by first | rfl | (simp; done) | (simp only [← hji6] <;> (first | rfl | simp)) | (simp [*]; done)), ok_, H', ⟨by have := HK1.out; omega⟩, ⟨bw HB.out⟩⟩
          · rw [if_neg c5] at H
            have c5b0 : (((rd_T70 l0 x6_1).f0) == a1) = false := beq_eq_false_iff_ne.mpr c5
            have c5b1 : (((rd_T70 l0 x6_1).f0) != a1) = true := bne_iff_ne.mpr c5
            have H' := Aside0.mk H
            clear H
            have p232 : 0 ≤ (x6_1 : Int) := of_decide_eq_true as_
            have q232 : x6_1 < (l0.length : Int) := of_decide_eq_true as_
            obtain ⟨ad232, e232, hx232_0, hx232_1, hx232_2⟩ := at_T70 HR0.out x6_1 p232 q232
            cases e232
            replace hx232_0 := (HB.out.cell (World.block_lt_of_cell? w _ hx232_0)).trans hx232_0
            replace hx232_1 := (HB.out.cell (World.block_lt_of_cell? w _ hx232_1)).trans hx232_1
            replace hx232_2 := (HB.out.cell (World.block_lt_of_cell? w _ hx232_2)).trans hx232_2
            replace p232 := eq_true p232
            replace q232 := eq_true q232
            go_wp2
            go_roundg k1
            case measure => have := HK1.out; omega
            case rel => exact ⟨(x5_1), (wrap64 (x6_1 + 1)), ok_, ok_, H', ⟨by have := HK1.out; omega⟩, ⟨bw HB.out⟩⟩
        · rw [if_neg c4] at H
          exact absurd H (by simp)
      · rw [if_neg c3] at H
        have c3b0 : decide (x6_1 < (l0.length : Int)) = false := decide_eq_false c3
        clear c3
        obtain rfl := Option.some.inj H
        go_wp2
        go_ret
        exact ⟨by first | rfl | (simp [errW_none, errW_some] <;> rfl) | (simp [*, errW_none, errW_some] <;> rfl), bw HB.out⟩

/-! ### deaddropref7_MayRuns: function 33 -/
mutual
def deaddropref7_MayRuns.l0 : Nat → List (S70) → Int → Option (Bool)
 | 0, _, _ => none
 | k + 1, x0, x3 => if x3 < (x0.length : Int) then (if 0 ≤ x3 then (if ((rd_T70 x0 x3).f0) < 0 then (deaddropref7_MayRuns.j1 k x0 x3 true) else (if ((rd_T70 x0 x3).f0) ≥ 8 then (deaddropref7_MayRuns.j1 k x0 x3 true) else (if ((rd_T70 x0 x3).f1) < 1 then (deaddropref7_MayRuns.j1 k x0 x3 true) else (if ((rd_T70 x0 x3).f2) < ((rd_T70 x0 x3).f1) then (deaddropref7_MayRuns.j1 k x0 x3 true) else (deaddropref7_MayRuns.j1 k x0 x3 (decide (((rd_T70 x0 x3).f2) > 4503599627370496))))))) else (none)) else (some true)
def deaddropref7_MayRuns.j1 : Nat → List (S70) → Int → Bool → Option (Bool)
 | 0, _, _, _ => none
 | k + 1, x0, x3, x39 => if x39 = true then (none) else (if x3 > 0 then (none) else (deaddropref7_MayRuns.l0 k x0 (wrap64 (x3 + 1))))
end
def deaddropref7_MayRuns.f (k : Nat) (l0 : List (S70)) : Option (Bool) := deaddropref7_MayRuns.l0 k l0 0
theorem deaddropref7_MayRuns.mono_l : ∀ k, (∀ y0 y1, LeO (deaddropref7_MayRuns.l0 k y0 y1) (deaddropref7_MayRuns.l0 (k + 1) y0 y1)) ∧ (∀ y0 y1 y2, LeO (deaddropref7_MayRuns.j1 k y0 y1 y2) (deaddropref7_MayRuns.j1 (k + 1) y0 y1 y2))
 | 0 => by refine ⟨?_, ?_⟩ <;> (intros; intro r h; simp [deaddropref7_MayRuns.l0, deaddropref7_MayRuns.j1] at h)
 | k + 1 => by
  obtain ⟨ih0, ih1⟩ := deaddropref7_MayRuns.mono_l k
  refine ⟨?_, ?_⟩ <;> intros <;> (first | unfold deaddropref7_MayRuns.l0 | unfold deaddropref7_MayRuns.j1) <;>
  repeat' first
  | with_reducible (first | exact ih0 _ _ | exact ih1 _ _ _ | exact LeO.refl _ | exact LeO.none _ | refine LeO.ite ?_ ?_ | refine LeO.bind ?_ (fun _ => ?_))
  | exact ih0 _ _ | exact ih1 _ _ _ | exact LeO.none _ | refine LeO.ite ?_ ?_ | refine LeO.bind ?_ (fun _ => ?_)
theorem deaddropref7_MayRuns.mono : ∀ a0 k, LeO (deaddropref7_MayRuns.f k a0) (deaddropref7_MayRuns.f (k + 1) a0) := by
 intro a0 k
 obtain ⟨ih0, ih1⟩ := deaddropref7_MayRuns.mono_l k
 unfold deaddropref7_MayRuns.f
 repeat' first
  | with_reducible (first | exact ih0 _ _ | exact ih1 _ _ _ | exact LeO.refl _ | exact LeO.none _ | refine LeO.ite ?_ ?_ | refine LeO.bind ?_ (fun _ => ?_))
  | exact ih0 _ _ | exact ih1 _ _ _ | exact LeO.none _ | refine LeO.ite ?_ ?_ | refine LeO.bind ?_ (fun _ => ?_)
set_option maxHeartbeats 8000000 in
set_option maxRecDepth 100000 in
theorem deaddropref7_MayRuns.calls (k : Nat) (A0 : Option Addr) (c0 : Nat) (l0 : List (S70)) (r : Bool) (w : World) (hr0 : Kd.C k70 w A0 l0.length l0) (hc0 : l0.length ≤ c0) (h : deaddropref7_MayRuns.f k l0 = some r) :
 Calls Try.prog 33 #[.slice A0 l0.length c0] w fun e w' => e = .returned (.bool r) ∧ Below w.heap.size w w' := by
 have hu70 := Try.underlying70
 have HR0 := Aside0.mk hr0
 have HC0 := Aside0.mk hc0
 clear hr0 hc0
 have HB := Aside0.mk (Below.refl w.heap.size w)
 have H : (deaddropref7_MayRuns.l0 k l0 0) = some r := h
 clear h
 have H' := Aside0.mk H
 clear H
 go_enter Try.func33, Try.ntmps33
 go_wp2
 repeat (go_quiet (fail); try go_wp2)
 go_loopg [3] k (fun kq v3 w' => ∃ (x3_1 : Int), v3 = .int .i64 x3_1 ∧ Aside0 (deaddropref7_MayRuns.l0 kq l0 x3_1 = some r) ∧ Aside0 (kq ≤ k) ∧ Aside0 (Below w.heap.size w w'))
 case atStart => exact ⟨(0), ok_, H', ⟨Nat.le_refl _⟩, ⟨bw HB.out⟩⟩
 case round =>
  clear H'
  obtain ⟨x3_1, rfl, HA, HK1, HB⟩ := hrel
  cases gk with
  | zero => exact absurd HA.out (by simp [deaddropref7_MayRuns.l0])
  | succ k1 =>
   have H := HA.out
   clear HA
   simp only [deaddropref7_MayRuns.l0] at H
   by_cases c2 : x3_1 < (l0.length : Int)
   ·
    rw [if_pos c2] at H
    have c2b0 : decide (x3_1 < (l0.length : Int)) = true := decide_eq_true c2
    clear c2
    by_cases c3 : 0 ≤ x3_1
    rotate_left
    ·
     rw [if_neg c3] at H
     exact absurd H (by simp)
    rw [if_pos c3] at H
    have c3b0 : decide (0 ≤ x3_1) = true := decide_eq_true c3
    clear c3
    have HC4 := Aside0.mk H
    clear H
    have p234 : 0 ≤ (x3_1 : Int) := of_decide_eq_true as_
    have q234 : x3_1 < (l0.length : Int) := of_decide_eq_true as_
    obtain ⟨ad234, e234, hx234_0, hx234_1, hx234_2⟩ := at_T70 HR0.out x3_1 p234 q234
    cases e234
    replace hx234_0 := (HB.out.cell (World.block_lt_of_cell? w _ hx234_0)).trans hx234_0
    replace hx234_1 := (HB.out.cell (World.block_lt_of_cell? w _ hx234_1)).trans hx234_1
    replace hx234_2 := (HB.out.cell (World.block_lt_of_cell? w _ hx234_2)).trans hx234_2
    replace p234 := eq_true p234
    replace q234 := eq_true q234
    go_upto_region 5 with (first | ((with_reducible refine gate_dst (N := 4) rfl ?_); refine box_event ?hg (N := 4) ?hd (cs := #[.int .i64 0, .int .i64 0, .int .i64 0]) (t := 70) ?hr ?_; (case hd => rfl); (case hg => rfl); (case hr => first | (go_simp; done) | (go_simp; rfl)); intro gb235 hg w5 hbox hb; have BK235 := Aside0.mk (hbox); have GW235 := Aside0.mk ((by rw [hg]; exact (below_size (bw HB.out)) : w.heap.size ≤ gb235)); have GE235 := GW235; replace HB := Aside0.mk (below_step (bw HB.out) hb); clear hb hbox hg; obtain ⟨hcz6_0, hcz6_1, hcz6_2⟩ := bx3 BK235.out; obtain ⟨hfz6_0, hfz6_1, hfz6_2⟩ := bf3 BK235.out))
    repeat (go_quiet (first | ((with_reducible refine gate_dst (N := 4) rfl ?_); refine box_event ?hg (N := 4) ?hd (cs := #[.int .i64 0, .int .i64 0, .int .i64 0]) (t := 70) ?hr ?_; (case hd => rfl); (case hg => rfl); (case hr => first | (go_simp; done) | (go_simp; rfl)); intro gb235 hg w5 hbox hb; have BK235 := Aside0.mk (hbox); have GW235 := Aside0.mk ((by rw [hg]; exact (below_size (bw HB.out)) : w.heap.size ≤ gb235)); have GE235 := GW235; replace HB := Aside0.mk (below_step (bw HB.out) hb); clear hb hbox hg; obtain ⟨hcz6_0, hcz6_1, hcz6_2⟩ := bx3 BK235.out; obtain ⟨hfz6_0, hfz6_1, hfz6_2⟩ := bf3 BK235.out)); go_upto_region 5 with (first | ((with_reducible refine gate_dst (N := 4) rfl ?_); refine box_event ?hg (N := 4) ?hd (cs := #[.int .i64 0, .int .i64 0, .int .i64 0]) (t := 70) ?hr ?_; (case hd => rfl); (case hg => rfl); (case hr => first | (go_simp; done) | (go_simp; rfl)); intro gb235 hg w5 hbox hb; have BK235 := Aside0.mk (hbox); have GW235 := Aside0.mk ((by rw [hg]; exact (below_size (bw HB.out)) : w.heap.size ≤ gb235)); have GE235 := GW235; replace HB := Aside0.mk (below_step (bw HB.out) hb); clear hb hbox hg; obtain ⟨hcz6_0, hcz6_1, hcz6_2⟩ := bx3 BK235.out; obtain ⟨hfz6_0, hfz6_1, hfz6_2⟩ := bf3 BK235.out)))
    (try simp only [Act.put, List.setIfInBounds_toArray, List.set_cons_zero, List.set_cons_succ])
    go_cut [39] (fun v39 wc => ∃ (kq : Nat) (x39_3 : Bool), v39 = .bool x39_3 ∧ Aside0 (deaddropref7_MayRuns.j1 kq l0 x3_1 x39_3 = some r) ∧ Aside0 (kq ≤ k1) ∧ Aside0 (wc.heap[gb235]? = some (.cells #[.int .i64 ((rd_T70 l0 x3_1).f0), .int .i64 ((rd_T70 l0 x3_1).f1), .int .i64 ((rd_T70 l0 x3_1).f2)] 70 (0, 0))) ∧ Aside0 (Below w.heap.size w wc))
    case first =>
     have H := HC4.out
     clear HC4
     by_cases c7 : ((rd_T70 l0 x3_1).f0) < 0
     ·
      rw [if_pos c7] at H
      have c7b0 : decide (((rd_T70 l0 x3_1).f0) < 0) = true := decide_eq_true c7
      clear c7
      (first | rw [c7b0] | (simp only [i64_w, i32_w]; rw [c7b0]) | skip)
      have H' := Aside0.mk H
      clear H
      obtain ⟨hcz8_0, hcz8_1, hcz8_2⟩ := bx3 BK235.out
      obtain ⟨hfz8_0, hfz8_1, hfz8_2⟩ := bf3 BK235.out
      go_wp2
      repeat (go_quiet (fail); try go_wp2)
      go_meet
      case rel => exact ⟨_, (true), ok_, H', ⟨by have := HK1.out; first | omega | exact Nat.le_refl _⟩, ⟨by (with_reducible repeat (first | refine blk_drewN ?_ _ | refine blk_drew ?_ | refine blk_alloc ?_ _)); refine blk_put (cs := #[.int .i64 ((rd_T70 l0 x3_1).f0), .int .i64 ((rd_T70 l0 x3_1).f1), .int .i64 0]) ?_ 2 _ rfl; (with_reducible repeat (first | refine blk_drewN ?_ _ | refine blk_drew ?_ | refine blk_alloc ?_ _)); refine blk_put (cs := #[.int .i64 ((rd_T70 l0 x3_1).f0), .int .i64 0, .int .i64 0]) ?_ 1 _ rfl; (with_reducible repeat (first | refine blk_drewN ?_ _ | refine blk_drew ?_ | refine blk_alloc ?_ _)); refine blk_put (cs := #[.int .i64 0, .int .i64 0, .int .i64 0]) ?_ 0 _ rfl; (with_reducible repeat (first | refine blk_drewN ?_ _ | refine blk_drew ?_ | refine blk_alloc ?_ _)); exact BK235.out⟩, ⟨bw1 HB.out GE235.out⟩⟩
     ·
      rw [if_neg c7] at H
      have c7b0 : decide (((rd_T70 l0 x3_1).f0) < 0) = false := decide_eq_false c7
      clear c7
      (first | rw [c7b0] | (simp only [i64_w, i32_w]; rw [c7b0]) | skip)
      by_cases c9 : ((rd_T70 l0 x3_1).f0) ≥ 8
      ·
       rw [if_pos c9] at H
       have c9b0 : decide (8 ≤ ((rd_T70 l0 x3_1).f0)) = true := decide_eq_true c9
       clear c9
       have H' := Aside0.mk H
       clear H
       obtain ⟨hcz10_0, hcz10_1, hcz10_2⟩ := bx3 BK235.out
       obtain ⟨hfz10_0, hfz10_1, hfz10_2⟩ := bf3 BK235.out
       go_wp2
       repeat (go_quiet (fail); try go_wp2)
       go_meet
       case rel => exact ⟨_, (true), ok_, H', ⟨by have := HK1.out; first | omega | exact Nat.le_refl _⟩, ⟨by (with_reducible repeat (first | refine blk_drewN ?_ _ | refine blk_drew ?_ | refine blk_alloc ?_ _)); refine blk_put (cs := #[.int .i64 ((rd_T70 l0 x3_1).f0), .int .i64 ((rd_T70 l0 x3_1).f1), .int .i64 0]) ?_ 2 _ rfl; (with_reducible repeat (first | refine blk_drewN ?_ _ | refine blk_drew ?_ | refine blk_alloc ?_ _)); refine blk_put (cs := #[.int .i64 ((rd_T70 l0 x3_1).f0), .int .i64 0, .int .i64 0]) ?_ 1 _ rfl; (with_reducible repeat (first | refine blk_drewN ?_ _ | refine blk_drew ?_ | refine blk_alloc ?_ _)); refine blk_put (cs := #[.int .i64 0, .int .i64 0, .int .i64 0]) ?_ 0 _ rfl; (with_reducible repeat (first | refine blk_drewN ?_ _ | refine blk_drew ?_ | refine blk_alloc ?_ _)); exact BK235.out⟩, ⟨bw1 HB.out GE235.out⟩⟩
      ·
       rw [if_neg c9] at H
       have c9b0 : decide (8 ≤ ((rd_T70 l0 x3_1).f0)) = false := decide_eq_false c9
       clear c9
       by_cases c11 : ((rd_T70 l0 x3_1).f1) < 1
       ·
        rw [if_pos c11] at H
        have c11b0 : decide (((rd_T70 l0 x3_1).f1) < 1) = true := decide_eq_true c11
        clear c11
        have H' := Aside0.mk H
        clear H
        obtain ⟨hcz12_0, hcz12_1, hcz12_2⟩ := bx3 BK235.out
        obtain ⟨hfz12_0, hfz12_1, hfz12_2⟩ := bf3 BK235.out
        go_wp2
        repeat (go_quiet (fail); try go_wp2)
        go_meet
        case rel => exact ⟨_, (true), ok_, H', ⟨by have := HK1.out; first | omega | exact Nat.le_refl _⟩, ⟨by (with_reducible repeat (first | refine blk_drewN ?_ _ | refine blk_drew ?_ | refine blk_alloc ?_ _)); refine blk_put (cs := #[.int .i64 ((rd_T70 l0 x3_1).f0), .int .i64 ((rd_T70 l0 x3_1).f1), .int .i64 0]) ?_ 2 _ rfl; (with_reducible repeat (first | refine blk_drewN ?_ _ | refine blk_drew ?_ | refine blk_alloc ?_ _)); refine blk_put (cs := #[.int .i64 ((rd_T70 l0 x3_1).f0), .int .i64 0, .int .i64 0]) ?_ 1 _ rfl; (with_reducible repeat (first | refine blk_drewN ?_ _ | refine blk_drew ?_ | refine blk_alloc ?_ _)); refine blk_put (cs := #[.int .i64 0, .int .i64 0, .int .i64 0]) ?_ 0 _ rfl; (with_reducible repeat (first | refine blk_drewN ?_ _ | refine blk_drew ?_ | refine blk_alloc ?_ _)); exact BK235.out⟩, ⟨bw1 HB.out GE235.out⟩⟩
       ·
        rw [if_neg c11] at H
        have c11b0 : decide (((rd_T70 l0 x3_1).f1) < 1) = false := decide_eq_false c11
        clear c11
        by_cases c13 : ((rd_T70 l0 x3_1).f2) < ((rd_T70 l0 x3_1).f1)
        ·
         rw [if_pos c13] at H
         have c13b0 : decide (((rd_T70 l0 x3_1).f2) < ((rd_T70 l0 x3_1).f1)) = true := decide_eq_true c13
         clear c13
         have H' := Aside0.mk H
         clear H
         obtain ⟨hcz14_0, hcz14_1, hcz14_2⟩ := bx3 BK235.out
         obtain ⟨hfz14_0, hfz14_1, hfz14_2⟩ := bf3 BK235.out
         go_wp2
         repeat (go_quiet (fail); try go_wp2)
         go_meet
         case rel => exact ⟨_, (true), ok_, H', ⟨by have := HK1.out; first | omega | exact Nat.le_refl _⟩, ⟨by (with_reducible repeat (first | refine blk_drewN ?_ _ | refine blk_drew ?_ | refine blk_alloc ?_ _)); refine blk_put (cs := #[.int .i64 ((rd_T70 l0 x3_1).f0), .int .i64 ((rd_T70 l0 x3_1).f1), .int .i64 0]) ?_ 2 _ rfl; (with_reducible repeat (first | refine blk_drewN ?_ _ | refine blk_drew ?_ | refine blk_alloc ?_ _)); refine blk_put (cs := #[.int .i64 ((rd_T70 l0 x3_1).f0), .int .i64 0, .int .i64 0]) ?_ 1 _ rfl; (with_reducible repeat (first | refine blk_drewN ?_ _ | refine blk_drew ?_ | refine blk_alloc ?_ _)); refine blk_put (cs := #[.int .i64 0, .int .i64 0, .int .i64 0]) ?_ 0 _ rfl; (with_reducible repeat (first | refine blk_drewN ?_ _ | refine blk_drew ?_ | refine blk_alloc ?_ _)); exact BK235.out⟩, ⟨bw1 HB.out GE235.out⟩⟩
        ·
         rw [if_neg c13] at H
         have c13b0 : decide (((rd_T70 l0 x3_1).f2) < ((rd_T70 l0 x3_1).f1)) = false := decide_eq_false c13
         clear c13
         have H' := Aside0.mk H
         clear H
         obtain ⟨hcz15_0, hcz15_1, hcz15_2⟩ := bx3 BK235.out
         obtain ⟨hfz15_0, hfz15_1, hfz15_2⟩ := bf3 BK235.out
         go_wp2
         repeat (go_quiet (fail); try go_wp2)
         go_meet
         case rel => exact ⟨_, (decide (((rd_T70 l0 x3_1).f2) > 4503599627370496)), ok_, H', ⟨by have := HK1.out; first | omega | exact Nat.le_refl _⟩, ⟨by (with_reducible repeat (first | refine blk_drewN ?_ _ | refine blk_drew ?_ | refine blk_alloc ?_ _)); refine blk_put (cs := #[.int .i64 ((rd_T70 l0 x3_1).f0), .int .i64 ((rd_T70 l0 x3_1).f1), .int .i64 0]) ?_ 2 _ rfl; (with_reducible repeat (first | refine blk_drewN ?_ _ | refine blk_drew ?_ | refine blk_alloc ?_ _)); refine blk_put (cs := #[.int .i64 ((rd_T70 l0 x3_1).f0), .int .i64 0, .int .i64 0]) ?_ 1 _ rfl; (with_reducible repeat (first | refine blk_drewN ?_ _ | refine blk_drew ?_ | refine blk_alloc ?_ _)); refine blk_put (cs := #[.int .i64 0, .int .i64 0, .int .i64 0]) ?_ 0 _ rfl; (with_reducible repeat (first | refine blk_drewN ?_ _ | refine blk_drew ?_ | refine blk_alloc ?_ _)); exact BK235.out⟩, ⟨bw1 HB.out GE235.out⟩⟩
    case rest =>
     clear HC4
     try clear c2
     try clear c2b0
     try clear c3
     try clear c3b0
     try clear hcz6_0
     try clear hcz6_1
     try clear hcz6_2
     try clear hfz6_0
     try clear hfz6_1
     try clear hfz6_2
     try clear hx234_0
     try clear hx234_1
     try clear hx234_2
     try clear p234
     try clear q234
     obtain ⟨kq, x39_3, rfl, HA, HJ3, BK235, HB⟩ := hcut
     cases kq with
     | zero => exact absurd HA.out (by simp [deaddropref7_MayRuns.j1])
     | succ kj3 =>
      have H := HA.out
      clear HA
      simp only [deaddropref7_MayRuns.j1] at H
      by_cases c16 : x39_3 = true
      ·
       subst c16
       have H1 : (none) = some r := by rw [if_pos rfl] at H; exact H
       clear H
       have H := H1
       clear H1
       exact absurd H (by simp)
      replace c16 := Bool.eq_false_iff.mpr c16
      subst c16
      have H1 : (if x3_1 > 0 then (none) else (deaddropref7_MayRuns.l0 kj3 l0 (wrap64 (x3_1 + 1)))) = some r := by rw [if_neg (show ¬ (false = true) by decide)] at H; exact H
      clear H
      have H := H1
      clear H1
      by_cases c17 : x3_1 > 0
      ·
       rw [if_pos c17] at H
       exact absurd H (by simp)
      rw [if_neg c17] at H
      have c17b0 : decide (0 < x3_1) = false := decide_eq_false c17
      clear c17
      have H' := Aside0.mk H
      clear H
      go_wp2
      repeat (go_quiet (fail); try go_wp2)
      go_roundg kj3
      case measure => have := HK1.out; have := HJ3.out; omega
      case rel => exact ⟨(wrap64 (x3_1 + 1)), ok_, H', ⟨by have := HK1.out; have := HJ3.out; omega⟩, ⟨bw1 HB.out GE235.out⟩⟩
   ·
    rw [if_neg c2] at H
    have c2b0 : decide (x3_1 < (l0.length : Int)) = false := decide_eq_false c2
    clear c2
    obtain rfl := Option.some.inj H
    go_wp2
    repeat (go_quiet (fail); try go_wp2)
    go_ret
    exact ⟨by first | rfl | (simp [errW_none, errW_some] <;> rfl) | (simp [*, errW_none, errW_some] <;> rfl), bw HB.out⟩

end Go.Proofs.Ytaonemedoikieaa.M
