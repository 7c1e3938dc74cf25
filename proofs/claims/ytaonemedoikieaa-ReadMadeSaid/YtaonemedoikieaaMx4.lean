-- Written by a program of this work (wip/tools/mkprint.py) over the kit's print; Lean checks it.
import Derived.Test.YtaonemedoikieaaMx0
import Derived.Test.YtaonemedoikieaaMx1
import Derived.Test.YtaonemedoikieaaMx3
import Derived.Test.YtaonemedoikieaaHAbb2
namespace Go.Proofs.Ytaonemedoikieaa.M
open Go.RowKit Go.Proofs.YtaonemedoikieaaW.PrintWords Go.Proofs.YtaonemedoikieaaW.PrintLast Go.Proofs.YtaonemedoikieaaW.PrintMore Go.Proofs.Ytaonemedoikieaa.AB
attribute [local go_sem] max2_int min2_int max_two min_two max_three min_three max_four min_four   -- for this text's walks alone
set_option linter.unusedVariables false
set_option linter.unusedSimpArgs false

attribute [local go_sem high] eqA32
/-! ### deaddropref7_Union: function 23 -/
def deaddropref7_Union.l0 : Nat → List (S70) → List (S70) → List (S70) → Int → Option ((List (S70)))
  | 0, _, _, _, _ => none
  | k + 1, x0, x1, x5, x6 => if x6 < 8 then ((deaddropref7_mix.f k x6 x0 x1 false).bind fun t183 => (if x5.length + t183.length < 5864062014805 then (deaddropref7_Union.l0 k x0 x1 (x5 ++ t183) (wrap64 (x6 + 1))) else (none))) else (some x5)
def deaddropref7_Union.f (k : Nat) (l0 : List (S70)) (l1 : List (S70)) : Option ((List (S70))) := deaddropref7_Union.l0 k l0 l1 ([] : List (S70)) 0
theorem deaddropref7_Union.mono_l : ∀ k, (∀ y0 y1 y2 y3, LeO (deaddropref7_Union.l0 k y0 y1 y2 y3) (deaddropref7_Union.l0 (k + 1) y0 y1 y2 y3))
  | 0 => fun _ _ _ _ r h => by simp [deaddropref7_Union.l0] at h
  | k + 1 => by
    have ih0 := deaddropref7_Union.mono_l k
    · intro y0 y1 y2 y3
      unfold deaddropref7_Union.l0
      repeat' first
      | with_reducible (first | exact ih0 _ _ _ _ | exact deaddropref7_mix.mono _ _ _ _ _ | exact LeO.refl _ | exact LeO.none _ | refine LeO.ite ?_ ?_ | refine LeO.bind ?_ (fun _ => ?_))
      | exact ih0 _ _ _ _ | exact deaddropref7_mix.mono _ _ _ _ _ | exact LeO.none _ | refine LeO.ite ?_ ?_ | refine LeO.bind ?_ (fun _ => ?_)
theorem deaddropref7_Union.mono : ∀ a0 a1 k, LeO (deaddropref7_Union.f k a0 a1) (deaddropref7_Union.f (k + 1) a0 a1) := by
  intro a0 a1 k
  have ih0 := deaddropref7_Union.mono_l k
  unfold deaddropref7_Union.f
  repeat' first
      | with_reducible (first | exact ih0 _ _ _ _ | exact deaddropref7_mix.mono _ _ _ _ _ | exact LeO.refl _ | exact LeO.none _ | refine LeO.ite ?_ ?_ | refine LeO.bind ?_ (fun _ => ?_))
      | exact ih0 _ _ _ _ | exact deaddropref7_mix.mono _ _ _ _ _ | exact LeO.none _ | refine LeO.ite ?_ ?_ | refine LeO.bind ?_ (fun _ => ?_)
set_option maxHeartbeats 8000000 in
set_option maxRecDepth 100000 in
theorem deaddropref7_Union.calls (k : Nat) (A0 : Option Addr) (c0 : Nat) (l0 : List (S70)) (A1 : Option Addr) (c1 : Nat) (l1 : List (S70)) (r : List (S70)) (w : World) (hr0 : Kd.C k70 w A0 l0.length l0) (hc0 : l0.length ≤ c0) (hr1 : Kd.C k70 w A1 l1.length l1) (hc1 : l1.length ≤ c1) (h : deaddropref7_Union.f k l0 l1 = some r) :
    Calls Try.prog 23 #[.slice A0 l0.length c0, .slice A1 l1.length c1] w fun e w' => ∃ v0_ : Value, e = .returned (v0_) ∧ Kd.R k70 70 w' w.heap.size (fun _ => True) v0_ r ∧ Below w.heap.size w w' := by
  have HR0 := Aside0.mk hr0
  have HC0 := Aside0.mk hc0
  clear hr0 hc0
  have HR1 := Aside0.mk hr1
  have HC1 := Aside0.mk hc1
  clear hr1 hc1
  have HB := Aside0.mk (Below.refl w.heap.size w)
  have H : (deaddropref7_Union.l0 k l0 l1 ([] : List (S70)) 0) = some r := h
  clear h
  have H' := Aside0.mk H
  clear H
  go_enter Try.func23, Try.ntmps23
  go_wp2
  go_loopg [5, 6] k (fun kq v5 v6 w' => ∃ (x5_1 : List (S70)) (x6_1 : Int), v6 = .int .i64 x6_1 ∧ Aside0 (deaddropref7_Union.l0 kq l0 l1 x5_1 x6_1 = some r) ∧ Aside0 (kq ≤ k) ∧ Aside0 (Kd.R k70 70 w' w.heap.size (fun _ => True) v5 x5_1) ∧ Aside0 (Below w.heap.size w w'))
  case atStart => exact ⟨(([] : List (S70))), (0), ok_, H', ⟨Nat.le_refl _⟩, ⟨by first | exact Kd.R_nil _ _ _ _ _ | exact Kd.N_nil _ _ _ _ _ | exact Kd.V_nil _ _ _ _ _ | exact Kd.Q_nil _ _ _ _ _ | exact Kd.S_nil _ _ _ _ _⟩, ⟨bw HB.out⟩⟩
  case round =>
    clear H'
    try clear c1
    obtain ⟨x5_1, x6_1, rfl, HA, HK1, HO_5, HB⟩ := hrel
    cases gk with
    | zero => exact absurd HA.out (by simp [deaddropref7_Union.l0])
    | succ k1 =>
      have H := HA.out
      clear HA
      simp only [deaddropref7_Union.l0] at H
      by_cases c3 : x6_1 < 8
      · rw [if_pos c3] at H
        have c3b0 : decide (x6_1 < 8) = true := decide_eq_true c3
        clear c3
        replace H := Option.bind_eq_some_iff.mp H
        obtain ⟨t183, A40, H⟩ := H
        replace H : (if x5_1.length + t183.length < 5864062014805 then (deaddropref7_Union.l0 k1 l0 l1 (x5_1 ++ t183) (wrap64 (x6_1 + 1))) else (none)) = some r := H
        have A4 := Aside0.mk A40
        clear A40
        by_cases c5 : x5_1.length + t183.length < 5864062014805
        · rw [if_pos c5] at H
          have LMc5 := Aside0.mk c5
          clear c5
          obtain ⟨y186, hy186⟩ : ∃ y_ : List (S70), y_ = (x5_1 ++ t183) := ⟨_, rfl⟩
          replace H : (deaddropref7_Union.l0 k1 l0 l1 y186 (wrap64 (x6_1 + 1))) = some r := by first | (rw [hy186]; with_reducible exact H) | (have H2_ := (Option.bind_some _ _).symm.trans H; rw [hy186]; with_reducible exact H2_) | (have H2_ := (Option.bind_some _ _).symm.trans H; with_reducible exact H2_) | with_reducible exact H | (rw [hy186]; exact H) | exact H
          have Ny186 := Aside0.mk hy186
          clear hy186
          have H' := Aside0.mk H
          clear H
          go_wp2_with (first | ((with_reducible refine gate_callee (f := 38) rfl ?_); refine goesL_ (some 15) rfl rfl Try.func38 (by kernel_rfl) rfl #[.int .i64 x6_1, .slice A0 l0.length c0, .slice A1 l1.length c1, .bool false] rfl ar_ ?_; (with_reducible refine (deaddropref7_mix.calls k1 x6_1 _ _ l0 _ _ l1 false t183 _ ?side1 ?side2 ?side3 ?side4 A4.out).mono ?_); (case side1 => exact cr (Kd.C_below HR0.out HB.out)); (case side2 => exact HC0.out); (case side3 => exact cr (Kd.C_below HR1.out HB.out)); (case side4 => exact HC1.out); rintro e w6 ⟨v184, rfl, ho0, hb⟩; refine ⟨_, rfl, ?_⟩; have HO185 := Aside0.mk (Kd.R_lower (Kd.R_new' ho0 (Kd.R_lt (rk HO_5.out))) (below_size (bw HB.out))); replace HO_5 := Aside0.mk (Kd.R_elder' (rk HO_5.out) (Kd.R_base ho0) hb); replace HB := Aside0.mk (below_step (bw HB.out) hb); (try clear hb); (try clear hb2); (try clear hk); (try clear hi); (try clear ho0); obtain ⟨Ao8, co8, eo8⟩ := Kd.R_slice HO185.out; subst eo8) | ((with_reducible refine gate_builtin (b := .append) (xs := #[.tmp 11, .tmp 15]) rfl ?_); at_builtin; refine Kd.R_append_rows k70 (w0 := w) w.heap.size rfl (.tmp 11) (.tmp 15) 25 70 (.agg #[(.int .i64 0), (.int .i64 0), (.int .i64 0)]) 24 rfl Try.underlying25 info70 rfl (by decide) (by omega) u5 x5_1 t183 _ _ _ (fun k_ => some k_ ≠ (.slice Ao8 t183.length co8 : Value).ownBlock) (fun _ => False) rfl rfl ?aO ?aR (fun _ _ h => h) (fun _ h => h.elim) ?aF ?aB ?aS ?aL ?_; (case aR => repeat (first | exact (Kd.R_reads' HO185.out).2.2 | (with_reducible refine Kd.C_alloc ?_ _) | (with_reducible refine Kd.C_drewN ?_ _) | (with_reducible refine Kd.C_drew ?_))); (case aB => exact (bw HB.out)); (case aF => exact (fun k_ hk => Kd.fresh' (Kd.R_lt (rk HO185.out)) k_ hk)); (case aO => exact (by (with_reducible repeat (first | apply Kd.R_alloc | apply Kd.R_drewN | apply Kd.R_drew)); exact Kd.R_mono HO_5.out (fun _ hk => hk.2))); (case aS => exact (below_size (bw HB.out))); (case aL => have := LMc5.out; omega); intro v187 w7 ho hb hg hat; rw [← Ny186.out] at ho; replace HO185 := Aside0.mk (Kd.R_after (ok := (fun _ => True)) (rk HO185.out) hg hat); replace HB := Aside0.mk (hb); have HO188 := Aside0.mk (ho); clear HO_5; clear ho hb hg hat))
          go_roundg k1
          case measure => have := HK1.out; omega
          case rel => exact ⟨(y186), (wrap64 (x6_1 + 1)), ok_, H', ⟨by have := HK1.out; omega⟩, ⟨by (with_reducible repeat (first | apply Kd.R_alloc | apply Kd.R_drewN | apply Kd.R_drew)); exact Kd.R_mono HO188.out (fun _ hk => trivial)⟩, ⟨bw HB.out⟩⟩
        · rw [if_neg c5] at H
          exact absurd H (by simp)
      · rw [if_neg c3] at H
        have c3b0 : decide (x6_1 < 8) = false := decide_eq_false c3
        clear c3
        obtain rfl := Option.some.inj H
        go_wp2
        go_ret
        exact ⟨_, by first | rfl | (simp [errW_none, errW_some] <;> rfl) | (simp [*, errW_none, errW_some] <;> rfl), rk HO_5.out, bw HB.out⟩

/-! ### deaddropref7_Cmp: function 24 -/
def deaddropref7_Cmp.j0 : Nat → Bool → Int → Int → Int → Int → Option (Int)
  | 0, _, _, _, _, _ => none
  | k + 1, x5, x190000, x190001, x191000, x191001 => if x5 = true then (some (-1)) else (if (x190000 == x191000 && (x190001 == x191001)) = true then (some 0) else (some 1))
def deaddropref7_Cmp.f (k : Nat) (a0_0 : Int) (a0_1 : Int) (a1_0 : Int) (a1_1 : Int) : Option (Int) := if a0_0 < a1_0 then (deaddropref7_Cmp.j0 k true a0_0 a0_1 a1_0 a1_1) else (if a0_0 = a1_0 then (deaddropref7_Cmp.j0 k (decide (a0_1 < a1_1)) a0_0 a0_1 a1_0 a1_1) else (deaddropref7_Cmp.j0 k false a0_0 a0_1 a1_0 a1_1))
theorem deaddropref7_Cmp.mono_l : ∀ k, (∀ y0 y1 y2 y3 y4, LeO (deaddropref7_Cmp.j0 k y0 y1 y2 y3 y4) (deaddropref7_Cmp.j0 (k + 1) y0 y1 y2 y3 y4))
  | 0 => fun _ _ _ _ _ r h => by simp [deaddropref7_Cmp.j0] at h
  | k + 1 => by
    have ih0 := deaddropref7_Cmp.mono_l k
    · intro y0 y1 y2 y3 y4
      unfold deaddropref7_Cmp.j0
      repeat' first
      | with_reducible (first | exact ih0 _ _ _ _ _ | exact LeO.refl _ | exact LeO.none _ | refine LeO.ite ?_ ?_ | refine LeO.bind ?_ (fun _ => ?_))
      | exact ih0 _ _ _ _ _ | exact LeO.none _ | refine LeO.ite ?_ ?_ | refine LeO.bind ?_ (fun _ => ?_)
theorem deaddropref7_Cmp.mono : ∀ a0 a1 a2 a3 k, LeO (deaddropref7_Cmp.f k a0 a1 a2 a3) (deaddropref7_Cmp.f (k + 1) a0 a1 a2 a3) := by
  intro a0 a1 a2 a3 k
  have ih0 := deaddropref7_Cmp.mono_l k
  unfold deaddropref7_Cmp.f
  repeat' first
      | with_reducible (first | exact ih0 _ _ _ _ _ | exact LeO.refl _ | exact LeO.none _ | refine LeO.ite ?_ ?_ | refine LeO.bind ?_ (fun _ => ?_))
      | exact ih0 _ _ _ _ _ | exact LeO.none _ | refine LeO.ite ?_ ?_ | refine LeO.bind ?_ (fun _ => ?_)
set_option maxHeartbeats 8000000 in
set_option maxRecDepth 100000 in
theorem deaddropref7_Cmp.calls (k : Nat) (a0_0 : Int) (a0_1 : Int) (a1_0 : Int) (a1_1 : Int) (r : Int) (w : World) (h : deaddropref7_Cmp.f k a0_0 a0_1 a1_0 a1_1 = some r) :
    Calls Try.prog 24 #[.agg #[.int .i64 a0_0, .int .i64 a0_1], .agg #[.int .i64 a1_0, .int .i64 a1_1]] w fun e w' => e = .returned (.int .i64 r) ∧ Below w.heap.size w w' := by
  have hu32 := Try.underlying32
  have HB := Aside0.mk (Below.refl w.heap.size w)
  have H : (if a0_0 < a1_0 then (deaddropref7_Cmp.j0 k true a0_0 a0_1 a1_0 a1_1) else (if a0_0 = a1_0 then (deaddropref7_Cmp.j0 k (decide (a0_1 < a1_1)) a0_0 a0_1 a1_0 a1_1) else (deaddropref7_Cmp.j0 k false a0_0 a0_1 a1_0 a1_1))) = some r := h
  clear h
  have HC3 := Aside0.mk H
  clear H
  go_enter Try.func24, Try.ntmps24
  go_upto_region 1 with (first | ((with_reducible refine gate_dst (N := 2) rfl ?_); refine box_event ?hg (N := 2) ?hd (cs := #[.int .i64 a0_0, .int .i64 a0_1]) (t := 32) ?hr ?_; (case hd => rfl); (case hg => rfl); (case hr => first | (go_simp; done) | (go_simp; rfl)); intro gb189 hg w4 hbox hb; have BK189 := Aside0.mk (hbox); have GW189 := Aside0.mk ((by rw [hg]; exact (below_size (bw HB.out)) : w.heap.size ≤ gb189)); have GE189 := GW189; replace HB := Aside0.mk (below_step (bw HB.out) hb); clear hb hbox hg) | ((with_reducible refine gate_dst (N := 3) rfl ?_); refine box_event ?hg (N := 3) ?hd (cs := #[.int .i64 a1_0, .int .i64 a1_1]) (t := 32) ?hr ?_; (case hd => rfl); (case hg => rfl); (case hr => first | (go_simp; done) | (go_simp; rfl)); intro gb190 hg w5 hbox hb; have BK190 := Aside0.mk (hbox); have GW190 := Aside0.mk ((by rw [hg]; exact (below_size (bw1 HB.out GE189.out)) : w.heap.size ≤ gb190)); have GE190 := GW190; replace HB := Aside0.mk (below_step (bw1 HB.out GE189.out) hb); have NB189_190 := Aside0.mk (nbl BK189.out hg); have NB190_189 := Aside0.mk (nbg BK189.out hg); replace BK189 := Aside0.mk (bkb BK189.out hb); clear hb hbox hg))
  (try simp only [Act.put, List.setIfInBounds_toArray, List.set_cons_zero, List.set_cons_succ])
  go_cut [5] (fun v5 wc => ∃ (kq : Nat) (x5_2 : Bool), v5 = .bool x5_2 ∧ Aside0 (deaddropref7_Cmp.j0 kq x5_2 a0_0 a0_1 a1_0 a1_1 = some r) ∧ Aside0 (kq ≤ k) ∧ Aside0 (wc.heap[gb189]? = some (.cells #[.int .i64 a0_0, .int .i64 a0_1] 32 (0, 0))) ∧ Aside0 (wc.heap[gb190]? = some (.cells #[.int .i64 a1_0, .int .i64 a1_1] 32 (0, 0))) ∧ Aside0 (Below w.heap.size w wc))
  case first =>
    have H := HC3.out
    clear HC3
    by_cases c6 : a0_0 < a1_0
    · rw [if_pos c6] at H
      have c6b0 : decide (a0_0 < a1_0) = true := decide_eq_true c6
      clear c6
      (first | rw [c6b0] | (simp only [i64_w, i32_w]; rw [c6b0]) | skip)
      have H' := Aside0.mk H
      clear H
      have hnb7 := NB189_190.out
      have hnc7 := NB190_189.out
      obtain ⟨hcz8_0, hcz8_1⟩ := bx2 BK189.out
      obtain ⟨hfz8_0, hfz8_1⟩ := bf2 BK189.out
      obtain ⟨hcz9_0, hcz9_1⟩ := bx2 BK190.out
      obtain ⟨hfz9_0, hfz9_1⟩ := bf2 BK190.out
      go_wp2
      go_meet
      case rel => exact ⟨_, (true), ok_, H', ⟨by first | omega | exact Nat.le_refl _⟩, ⟨bk BK189.out⟩, ⟨bk BK190.out⟩, ⟨bw2 HB.out GE189.out GE190.out⟩⟩
    · rw [if_neg c6] at H
      have c6b0 : decide (a0_0 < a1_0) = false := decide_eq_false c6
      clear c6
      (first | rw [c6b0] | (simp only [i64_w, i32_w]; rw [c6b0]) | skip)
      by_cases c10 : a0_0 = a1_0
      · rw [if_pos c10] at H
        have c10b0 : (a0_0 == a1_0) = true := beq_iff_eq.mpr c10
        have c10b1 : (a0_0 != a1_0) = false := bne_eq_false_iff_eq.mpr c10
        clear c10
        have H' := Aside0.mk H
        clear H
        have hnb11 := NB189_190.out
        have hnc11 := NB190_189.out
        obtain ⟨hcz12_0, hcz12_1⟩ := bx2 BK189.out
        obtain ⟨hfz12_0, hfz12_1⟩ := bf2 BK189.out
        obtain ⟨hcz13_0, hcz13_1⟩ := bx2 BK190.out
        obtain ⟨hfz13_0, hfz13_1⟩ := bf2 BK190.out
        go_wp2
        go_meet
        case rel => exact ⟨_, (decide (a0_1 < a1_1)), ok_, H', ⟨by first | omega | exact Nat.le_refl _⟩, ⟨bk BK189.out⟩, ⟨bk BK190.out⟩, ⟨bw2 HB.out GE189.out GE190.out⟩⟩
      · rw [if_neg c10] at H
        have c10b0 : (a0_0 == a1_0) = false := beq_eq_false_iff_ne.mpr c10
        have c10b1 : (a0_0 != a1_0) = true := bne_iff_ne.mpr c10
        have H' := Aside0.mk H
        clear H
        have hnb14 := NB189_190.out
        have hnc14 := NB190_189.out
        obtain ⟨hcz15_0, hcz15_1⟩ := bx2 BK189.out
        obtain ⟨hfz15_0, hfz15_1⟩ := bf2 BK189.out
        obtain ⟨hcz16_0, hcz16_1⟩ := bx2 BK190.out
        obtain ⟨hfz16_0, hfz16_1⟩ := bf2 BK190.out
        go_wp2
        go_meet
        case rel => exact ⟨_, (false), ok_, H', ⟨by first | omega | exact Nat.le_refl _⟩, ⟨bk BK189.out⟩, ⟨bk BK190.out⟩, ⟨bw2 HB.out GE189.out GE190.out⟩⟩
  case rest =>
    clear HC3
    obtain ⟨kq, x5_2, rfl, HA, HJ2, BK189, BK190, HB⟩ := hcut
    cases kq with
    | zero => exact absurd HA.out (by simp [deaddropref7_Cmp.j0])
    | succ kj2 =>
      have H := HA.out
      clear HA
      simp only [deaddropref7_Cmp.j0] at H
      by_cases c17 : x5_2 = true
      · subst c17
        have H1 : (some (-1)) = some r := by rw [if_pos rfl] at H; exact H
        clear H
        have H := H1
        clear H1
        obtain rfl := Option.some.inj H
        go_wp2
        go_ret
        exact ⟨by first | rfl | (simp [errW_none, errW_some] <;> rfl) | (simp [*, errW_none, errW_some] <;> rfl), bw2 HB.out GE189.out GE190.out⟩
      · replace c17 := Bool.eq_false_iff.mpr c17
        subst c17
        have H1 : (if (a0_0 == a1_0 && (a0_1 == a1_1)) = true then (some 0) else (some 1)) = some r := by rw [if_neg (show ¬ (false = true) by decide)] at H; exact H
        clear H
        have H := H1
        clear H1
        by_cases c18 : (a0_0 == a1_0 && (a0_1 == a1_1)) = true
        · rw [if_pos c18] at H
          have c18b0 : (a0_0 == a1_0 && (a0_1 == a1_1)) = true := c18
          (try (have c18b1 : decide (a0_0 = a1_0 && (a0_1 == a1_1)) = true := by simpa using c18))
          (try (have c18b2 : (a0_0 == a1_0 && (a0_1 == a1_1)) = true := by simpa using c18))
          clear c18
          obtain rfl := Option.some.inj H
          have hnb19 := NB189_190.out
          have hnc19 := NB190_189.out
          obtain ⟨hcz20_0, hcz20_1⟩ := bx2 BK189.out
          obtain ⟨hfz20_0, hfz20_1⟩ := bf2 BK189.out
          obtain ⟨hcz21_0, hcz21_1⟩ := bx2 BK190.out
          obtain ⟨hfz21_0, hfz21_1⟩ := bf2 BK190.out
          go_wp2
          go_ret
          exact ⟨by first | rfl | (simp [errW_none, errW_some] <;> rfl) | (simp [*, errW_none, errW_some] <;> rfl), bw2 HB.out GE189.out GE190.out⟩
        · rw [if_neg c18] at H
          have c18b0 : (a0_0 == a1_0 && (a0_1 == a1_1)) = false := by simpa using c18
          (try (have c18b1 : decide (a0_0 = a1_0 && (a0_1 == a1_1)) = false := by simpa using c18))
          (try (have c18b2 : (a0_0 == a1_0 && (a0_1 == a1_1)) = false := by simpa using c18))
          (try (have c18b3 : ¬ (a0_0 = a1_0 && (a0_1 == a1_1)) := by simpa using c18))
          clear c18
          obtain rfl := Option.some.inj H
          have hnb22 := NB189_190.out
          have hnc22 := NB190_189.out
          obtain ⟨hcz23_0, hcz23_1⟩ := bx2 BK189.out
          obtain ⟨hfz23_0, hfz23_1⟩ := bf2 BK189.out
          obtain ⟨hcz24_0, hcz24_1⟩ := bx2 BK190.out
          obtain ⟨hfz24_0, hfz24_1⟩ := bf2 BK190.out
          go_wp2
          go_ret
          exact ⟨by first | rfl | (simp [errW_none, errW_some] <;> rfl) | (simp [*, errW_none, errW_some] <;> rfl), bw2 HB.out GE189.out GE190.out⟩

/-! ### deaddropref7_at: function 26 -/
def deaddropref7_at.l0 : Nat → Int → List (S70) → List (S34) → Int → Int → Option (Bool)
 | 0, _, _, _, _, _ => none
 | k + 1, x5, x192000, x192001, x193000, x193001 => if x5 < (x192001.length : Int) then (if 0 ≤ x5 then (if (((rd_T34 x192001 x5).f0.f0) == x193000 && (((rd_T34 x192001 x5).f0.f1) == x193001)) = true then (some true) else (deaddropref7_at.l0 k (wrap64 (x5 + 1)) x192000 x192001 x193000 x193001)) else (none)) else (some false)
def deaddropref7_at.f (k : Nat) (l0_0 : List (S70)) (l0_1 : List (S34)) (a1_0 : Int) (a1_1 : Int) : Option (Bool) := deaddropref7_at.l0 k 0 l0_0 l0_1 a1_0 a1_1
theorem deaddropref7_at.mono_l : ∀ k, (∀ y0 y1 y2 y3 y4, LeO (deaddropref7_at.l0 k y0 y1 y2 y3 y4) (deaddropref7_at.l0 (k + 1) y0 y1 y2 y3 y4))
 | 0 => fun _ _ _ _ _ r h => by simp [deaddropref7_at.l0] at h
 | k + 1 => by
  have ih0 := deaddropref7_at.mono_l k
  ·
   intro y0 y1 y2 y3 y4
   unfold deaddropref7_at.l0
   repeat' first
   | with_reducible (first | exact ih0 _ _ _ _ _ | exact LeO.refl _ | exact LeO.none _ | refine LeO.ite ?_ ?_ | refine LeO.bind ?_ (fun _ => ?_))
   | exact ih0 _ _ _ _ _ | exact LeO.none _ | refine LeO.ite ?_ ?_ | refine LeO.bind ?_ (fun _ => ?_)
theorem deaddropref7_at.mono : ∀ a0 a1 a2 a3 k, LeO (deaddropref7_at.f k a0 a1 a2 a3) (deaddropref7_at.f (k + 1) a0 a1 a2 a3) := by
 intro a0 a1 a2 a3 k
 have ih0 := deaddropref7_at.mono_l k
 unfold deaddropref7_at.f
 repeat' first
  | with_reducible (first | exact ih0 _ _ _ _ _ | exact LeO.refl _ | exact LeO.none _ | refine LeO.ite ?_ ?_ | refine LeO.bind ?_ (fun _ => ?_))
  | exact ih0 _ _ _ _ _ | exact LeO.none _ | refine LeO.ite ?_ ?_ | refine LeO.bind ?_ (fun _ => ?_)
set_option maxHeartbeats 8000000 in
set_option maxRecDepth 100000 in
theorem deaddropref7_at.calls (k : Nat) (A0_0 : Option Addr) (c0_0 : Nat) (l0_0 : List (S70)) (A0_1 : Option Addr) (c0_1 : Nat) (l0_1 : List (S34)) (a1_0 : Int) (a1_1 : Int) (r : Bool) (w : World) (hr0_0 : Kd.C k70 w A0_0 l0_0.length l0_0) (hc0_0 : l0_0.length ≤ c0_0) (hr0_1 : Kd.C k34 w A0_1 l0_1.length l0_1) (hc0_1 : l0_1.length ≤ c0_1) (h : deaddropref7_at.f k l0_0 l0_1 a1_0 a1_1 = some r) :
 Calls Try.prog 26 #[.agg #[.slice A0_0 l0_0.length c0_0, .slice A0_1 l0_1.length c0_1], .agg #[.int .i64 a1_0, .int .i64 a1_1]] w fun e w' => e = .returned (.bool r) ∧ Below w.heap.size w w' := by
 have hu28 := Try.underlying28
 have hu32 := Try.underlying32
 have HR0_0 := Aside0.mk hr0_0
 have HC0_0 := Aside0.mk hc0_0
 clear hr0_0 hc0_0
 have HR0_1 := Aside0.mk hr0_1
 have HC0_1 := Aside0.mk hc0_1
 clear hr0_1 hc0_1
 have HB := Aside0.mk (Below.refl w.heap.size w)
 have H : (deaddropref7_at.l0 k 0 l0_0 l0_1 a1_0 a1_1) = some r := h
 clear h
 have H' := Aside0.mk H
 clear H
 go_enter Try.func26, Try.ntmps26
 go_wp2_with (first | ((with_reducible refine gate_dst (N := 2) rfl ?_); refine box_event ?hg (N := 2) ?hd (cs := #[.slice A0_0 l0_0.length c0_0, .slice A0_1 l0_1.length c0_1]) (t := 28) ?hr ?_; (case hd => rfl); (case hg => rfl); (case hr => first | (go_simp; done) | (go_simp; rfl)); intro gb191 hg w3 hbox hb; have BK191 := Aside0.mk (hbox); have GW191 := Aside0.mk ((by rw [hg]; exact (below_size (bw HB.out)) : w.heap.size ≤ gb191)); have GE191 := GW191; replace HB := Aside0.mk (below_step (bw HB.out) hb); clear hb hbox hg) | ((with_reducible refine gate_dst (N := 3) rfl ?_); refine box_event ?hg (N := 3) ?hd (cs := #[.int .i64 a1_0, .int .i64 a1_1]) (t := 32) ?hr ?_; (case hd => rfl); (case hg => rfl); (case hr => first | (go_simp; done) | (go_simp; rfl)); intro gb192 hg w4 hbox hb; have BK192 := Aside0.mk (hbox); have GW192 := Aside0.mk ((by rw [hg]; exact (below_size (bw1 HB.out GE191.out)) : w.heap.size ≤ gb192)); have GE192 := GW192; replace HB := Aside0.mk (below_step (bw1 HB.out GE191.out) hb); have NB191_192 := Aside0.mk (nbl BK191.out hg); have NB192_191 := Aside0.mk (nbg BK191.out hg); replace BK191 := Aside0.mk (bkb BK191.out hb); clear hb hbox hg))
 repeat (go_quiet (first | ((with_reducible refine gate_dst (N := 2) rfl ?_); refine box_event ?hg (N := 2) ?hd (cs := #[.slice A0_0 l0_0.length c0_0, .slice A0_1 l0_1.length c0_1]) (t := 28) ?hr ?_; (case hd => rfl); (case hg => rfl); (case hr => first | (go_simp; done) | (go_simp; rfl)); intro gb191 hg w3 hbox hb; have BK191 := Aside0.mk (hbox); have GW191 := Aside0.mk ((by rw [hg]; exact (below_size (bw HB.out)) : w.heap.size ≤ gb191)); have GE191 := GW191; replace HB := Aside0.mk (below_step (bw HB.out) hb); clear hb hbox hg) | ((with_reducible refine gate_dst (N := 3) rfl ?_); refine box_event ?hg (N := 3) ?hd (cs := #[.int .i64 a1_0, .int .i64 a1_1]) (t := 32) ?hr ?_; (case hd => rfl); (case hg => rfl); (case hr => first | (go_simp; done) | (go_simp; rfl)); intro gb192 hg w4 hbox hb; have BK192 := Aside0.mk (hbox); have GW192 := Aside0.mk ((by rw [hg]; exact (below_size (bw1 HB.out GE191.out)) : w.heap.size ≤ gb192)); have GE192 := GW192; replace HB := Aside0.mk (below_step (bw1 HB.out GE191.out) hb); have NB191_192 := Aside0.mk (nbl BK191.out hg); have NB192_191 := Aside0.mk (nbg BK191.out hg); replace BK191 := Aside0.mk (bkb BK191.out hb); clear hb hbox hg)); try go_wp2_with (first | ((with_reducible refine gate_dst (N := 2) rfl ?_); refine box_event ?hg (N := 2) ?hd (cs := #[.slice A0_0 l0_0.length c0_0, .slice A0_1 l0_1.length c0_1]) (t := 28) ?hr ?_; (case hd => rfl); (case hg => rfl); (case hr => first | (go_simp; done) | (go_simp; rfl)); intro gb191 hg w3 hbox hb; have BK191 := Aside0.mk (hbox); have GW191 := Aside0.mk ((by rw [hg]; exact (below_size (bw HB.out)) : w.heap.size ≤ gb191)); have GE191 := GW191; replace HB := Aside0.mk (below_step (bw HB.out) hb); clear hb hbox hg) | ((with_reducible refine gate_dst (N := 3) rfl ?_); refine box_event ?hg (N := 3) ?hd (cs := #[.int .i64 a1_0, .int .i64 a1_1]) (t := 32) ?hr ?_; (case hd => rfl); (case hg => rfl); (case hr => first | (go_simp; done) | (go_simp; rfl)); intro gb192 hg w4 hbox hb; have BK192 := Aside0.mk (hbox); have GW192 := Aside0.mk ((by rw [hg]; exact (below_size (bw1 HB.out GE191.out)) : w.heap.size ≤ gb192)); have GE192 := GW192; replace HB := Aside0.mk (below_step (bw1 HB.out GE191.out) hb); have NB191_192 := Aside0.mk (nbl BK191.out hg); have NB192_191 := Aside0.mk (nbg BK191.out hg); replace BK191 := Aside0.mk (bkb BK191.out hb); clear hb hbox hg)))
 go_loopg [5] k (fun kq v5 w' => ∃ (x5_1 : Int), v5 = .int .i64 x5_1 ∧ Aside0 (deaddropref7_at.l0 kq x5_1 l0_0 l0_1 a1_0 a1_1 = some r) ∧ Aside0 (kq ≤ k) ∧ Aside0 (w'.heap[gb191]? = some (.cells #[(.slice A0_0 l0_0.length c0_0), (.slice A0_1 l0_1.length c0_1)] 28 (0, 0))) ∧ Aside0 (w'.heap[gb192]? = some (.cells #[.int .i64 a1_0, .int .i64 a1_1] 32 (0, 0))) ∧ Aside0 (Below w.heap.size w w'))
 case atStart => exact ⟨(0), ok_, H', ⟨Nat.le_refl _⟩, ⟨bk BK191.out⟩, ⟨bk BK192.out⟩, ⟨bw2 HB.out GE191.out GE192.out⟩⟩
 case round =>
  clear H'
  obtain ⟨x5_1, rfl, HA, HK1, BK191, BK192, HB⟩ := hrel
  cases gk with
  | zero => exact absurd HA.out (by simp [deaddropref7_at.l0])
  | succ k1 =>
   have H := HA.out
   clear HA
   simp only [deaddropref7_at.l0] at H
   by_cases c5 : x5_1 < (l0_1.length : Int)
   ·
    rw [if_pos c5] at H
    have c5b0 : decide (x5_1 < (l0_1.length : Int)) = true := decide_eq_true c5
    clear c5
    by_cases c6 : 0 ≤ x5_1
    rotate_left
    ·
     rw [if_neg c6] at H
     exact absurd H (by simp)
    rw [if_pos c6] at H
    have c6b0 : decide (0 ≤ x5_1) = true := decide_eq_true c6
    clear c6
    by_cases c7 : (((rd_T34 l0_1 x5_1).f0.f0) == a1_0 && (((rd_T34 l0_1 x5_1).f0.f1) == a1_1)) = true
    ·
     rw [if_pos c7] at H
     have c7b0 : (((rd_T34 l0_1 x5_1).f0.f0) == a1_0 && (((rd_T34 l0_1 x5_1).f0.f1) == a1_1)) = true := c7
     (try (have c7b1 : decide (((rd_T34 l0_1 x5_1).f0.f0) = a1_0 && (((rd_T34 l0_1 x5_1).f0.f1) == a1_1)) = true := by simpa using c7))
     (try (have c7b2 : (((rd_T34 l0_1 x5_1).f0.f0) == a1_0 && (((rd_T34 l0_1 x5_1).f0.f1) == a1_1)) = true := by simpa using c7))
     clear c7
     obtain rfl := Option.some.inj H
     have hnb8 := NB191_192.out
     have hnc8 := NB192_191.out
     obtain ⟨hcz9_0, hcz9_1⟩ := bx2 BK191.out
     obtain ⟨hfz9_0, hfz9_1⟩ := bf2 BK191.out
     have p193 : 0 ≤ (x5_1 : Int) := of_decide_eq_true as_
     have q193 : x5_1 < (l0_1.length : Int) := of_decide_eq_true as_
     obtain ⟨ad193, e193, hx193_0, hx193_1, hx193_2, hx193_3, hx193_4, hx193_5⟩ := at_T34 HR0_1.out x5_1 p193 q193
     cases e193
     replace hx193_0 := (HB.out.cell (World.block_lt_of_cell? w _ hx193_0)).trans hx193_0
     replace hx193_1 := (HB.out.cell (World.block_lt_of_cell? w _ hx193_1)).trans hx193_1
     replace hx193_2 := (HB.out.cell (World.block_lt_of_cell? w _ hx193_2)).trans hx193_2
     replace hx193_3 := (HB.out.cell (World.block_lt_of_cell? w _ hx193_3)).trans hx193_3
     replace hx193_4 := (HB.out.cell (World.block_lt_of_cell? w _ hx193_4)).trans hx193_4
     replace hx193_5 := (HB.out.cell (World.block_lt_of_cell? w _ hx193_5)).trans hx193_5
     replace p193 := eq_true p193
     replace q193 := eq_true q193
     obtain ⟨hcz10_0, hcz10_1⟩ := bx2 BK192.out
     obtain ⟨hfz10_0, hfz10_1⟩ := bf2 BK192.out
     go_wp2
     repeat (go_quiet (fail); try go_wp2)
     go_ret
     exact ⟨by first | rfl | (simp [errW_none, errW_some] <;> rfl) | (simp [*, errW_none, errW_some] <;> rfl), bw2 HB.out GE191.out GE192.out⟩
    ·
     rw [if_neg c7] at H
     have c7b0 : (((rd_T34 l0_1 x5_1).f0.f0) == a1_0 && (((rd_T34 l0_1 x5_1).f0.f1) == a1_1)) = false := by simpa using c7
     (try (have c7b1 : decide (((rd_T34 l0_1 x5_1).f0.f0) = a1_0 && (((rd_T34 l0_1 x5_1).f0.f1) == a1_1)) = false := by simpa using c7))
     (try (have c7b2 : (((rd_T34 l0_1 x5_1).f0.f0) == a1_0 && (((rd_T34 l0_1 x5_1).f0.f1) == a1_1)) = false := by simpa using c7))
     (try (have c7b3 : ¬ (((rd_T34 l0_1 x5_1).f0.f0) = a1_0 && (((rd_T34 l0_1 x5_1).f0.f1) == a1_1)) := by simpa using c7))
     clear c7
     have H' := Aside0.mk H
     clear H
     have hnb11 := NB191_192.out
     have hnc11 := NB192_191.out
     obtain ⟨hcz12_0, hcz12_1⟩ := bx2 BK191.out
     obtain ⟨hfz12_0, hfz12_1⟩ := bf2 BK191.out
     have p193 : 0 ≤ (x5_1 : Int) := of_decide_eq_true as_
     have q193 : x5_1 < (l0_1.length : Int) := of_decide_eq_true as_
     obtain ⟨ad193, e193, hx193_0, hx193_1, hx193_2, hx193_3, hx193_4, hx193_5⟩ := at_T34 HR0_1.out x5_1 p193 q193
     cases e193
     replace hx193_0 := (HB.out.cell (World.block_lt_of_cell? w _ hx193_0)).trans hx193_0
     replace hx193_1 := (HB.out.cell (World.block_lt_of_cell? w _ hx193_1)).trans hx193_1
     replace hx193_2 := (HB.out.cell (World.block_lt_of_cell? w _ hx193_2)).trans hx193_2
     replace hx193_3 := (HB.out.cell (World.block_lt_of_cell? w _ hx193_3)).trans hx193_3
     replace hx193_4 := (HB.out.cell (World.block_lt_of_cell? w _ hx193_4)).trans hx193_4
     replace hx193_5 := (HB.out.cell (World.block_lt_of_cell? w _ hx193_5)).trans hx193_5
     replace p193 := eq_true p193
     replace q193 := eq_true q193
     obtain ⟨hcz13_0, hcz13_1⟩ := bx2 BK192.out
     obtain ⟨hfz13_0, hfz13_1⟩ := bf2 BK192.out
     go_wp2
     repeat (go_quiet (fail); try go_wp2)
     go_roundg k1
     case measure => have := HK1.out; omega
     case rel => exact ⟨(wrap64 (x5_1 + 1)), ok_, H', ⟨by have := HK1.out; omega⟩, ⟨bk BK191.out⟩, ⟨bk BK192.out⟩, ⟨bw2 HB.out GE191.out GE192.out⟩⟩
   ·
    rw [if_neg c5] at H
    have c5b0 : decide (x5_1 < (l0_1.length : Int)) = false := decide_eq_false c5
    clear c5
    obtain rfl := Option.some.inj H
    have hnb14 := NB191_192.out
    have hnc14 := NB192_191.out
    obtain ⟨hcz15_0, hcz15_1⟩ := bx2 BK191.out
    obtain ⟨hfz15_0, hfz15_1⟩ := bf2 BK191.out
    go_wp2
    repeat (go_quiet (fail); try go_wp2)
    go_ret
    exact ⟨by first | rfl | (simp [errW_none, errW_some] <;> rfl) | (simp [*, errW_none, errW_some] <;> rfl), bw2 HB.out GE191.out GE192.out⟩

end Go.Proofs.Ytaonemedoikieaa.M
