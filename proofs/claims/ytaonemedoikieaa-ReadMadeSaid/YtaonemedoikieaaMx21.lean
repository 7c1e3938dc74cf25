-- Written by a program of this work (wip/tools/mkprint.py) over the kit's print; Lean checks it.
import Derived.Test.YtaonemedoikieaaMx0
import Derived.Test.YtaonemedoikieaaMx10
import Derived.Test.YtaonemedoikieaaMx19
import Derived.Test.YtaonemedoikieaaMx20
import Derived.Test.YtaonemedoikieaaHAbb2
namespace Go.Proofs.Ytaonemedoikieaa.M
open Go.RowKit Go.Proofs.YtaonemedoikieaaW.PrintWords Go.Proofs.YtaonemedoikieaaW.PrintLast Go.Proofs.YtaonemedoikieaaW.PrintMore Go.Proofs.Ytaonemedoikieaa.AB
attribute [local go_sem] max2_int min2_int max_two min_two max_three min_three max_four min_four   -- for this text's walks alone
set_option linter.unusedVariables false
set_option linter.unusedSimpArgs false

/-! ### deaddroplaw10_awake: function 11 -/
def deaddroplaw10_awake.f (k : Nat)  : Option (Bool) := (deaddroplaw8_Make.f k (([0, 1] : List Int))).bind fun bt480 => ((read_Texts.f k bt480.1 bt480.2 (⟨#[107]⟩ : ByteArray)).bind fun t486 => ((read_Count.f k ([] : List (S70)) ([] : List (S34)) (⟨#[107]⟩ : ByteArray)).bind fun t489 => (if t489 = 0 then (if (t486.length : Int) = 1 then (if 0 < (t486.length : Int) then (some ((rdOf ByteArray.empty t486 0).toList == ([98] : List UInt8))) else (none)) else (none)) else (none))))
theorem deaddroplaw10_awake.mono : ∀ k, LeO (deaddroplaw10_awake.f k ) (deaddroplaw10_awake.f (k + 1) ) := by
  intro  k
  unfold deaddroplaw10_awake.f
  repeat' first
      | with_reducible (first | exact deaddroplaw8_Make.mono _ _ | exact read_Count.mono _ _ _ _ | exact read_Texts.mono _ _ _ _ | exact LeO.refl _ | exact LeO.none _ | refine LeO.ite ?_ ?_ | refine LeO.bind ?_ (fun _ => ?_))
      | exact deaddroplaw8_Make.mono _ _ | exact read_Count.mono _ _ _ _ | exact read_Texts.mono _ _ _ _ | exact LeO.none _ | refine LeO.ite ?_ ?_ | refine LeO.bind ?_ (fun _ => ?_)
set_option maxHeartbeats 8000000 in
set_option maxRecDepth 100000 in
theorem deaddroplaw10_awake.calls (k : Nat)  (r : Bool) (w : World) (h : deaddroplaw10_awake.f k  = some r) :
    Calls Try.prog 11 #[] w fun e w' => e = .returned (.bool r) ∧ Below w.heap.size w w' := by
  have hu28 := Try.underlying28
  have HB := Aside0.mk (Below.refl w.heap.size w)
  have H : ((deaddroplaw8_Make.f k (([0, 1] : List Int))).bind fun bt480 => ((read_Texts.f k bt480.1 bt480.2 (⟨#[107]⟩ : ByteArray)).bind fun t486 => ((read_Count.f k ([] : List (S70)) ([] : List (S34)) (⟨#[107]⟩ : ByteArray)).bind fun t489 => (if t489 = 0 then (if (t486.length : Int) = 1 then (if 0 < (t486.length : Int) then (some ((rdOf ByteArray.empty t486 0).toList == ([98] : List UInt8))) else (none)) else (none)) else (none))))) = some r := h
  clear h
  obtain ⟨y477, hy477⟩ : ∃ y_ : List Int, y_ = (([0, 1] : List Int)) := ⟨_, rfl⟩
  replace H : ((deaddroplaw8_Make.f k y477).bind fun bt480 => ((read_Texts.f k bt480.1 bt480.2 (⟨#[107]⟩ : ByteArray)).bind fun t486 => ((read_Count.f k ([] : List (S70)) ([] : List (S34)) (⟨#[107]⟩ : ByteArray)).bind fun t489 => (if t489 = 0 then (if (t486.length : Int) = 1 then (if 0 < (t486.length : Int) then (some ((rdOf ByteArray.empty t486 0).toList == ([98] : List UInt8))) else (none)) else (none)) else (none))))) = some r := by first | (rw [hy477]; with_reducible exact H) | (have H2_ := (Option.bind_some _ _).symm.trans H; rw [hy477]; with_reducible exact H2_) | (have H2_ := (Option.bind_some _ _).symm.trans H; with_reducible exact H2_) | with_reducible exact H | (rw [hy477]; exact H) | exact H
  have Ny477 := Aside0.mk hy477
  clear hy477
  replace H := Option.bind_eq_some_iff.mp H
  obtain ⟨⟨t480, t483⟩, A10, H⟩ := H
  replace H : ((read_Texts.f k t480 t483 (⟨#[107]⟩ : ByteArray)).bind fun t486 => ((read_Count.f k ([] : List (S70)) ([] : List (S34)) (⟨#[107]⟩ : ByteArray)).bind fun t489 => (if t489 = 0 then (if (t486.length : Int) = 1 then (if 0 < (t486.length : Int) then (some ((rdOf ByteArray.empty t486 0).toList == ([98] : List UInt8))) else (none)) else (none)) else (none)))) = some r := H
  have A1 := Aside0.mk A10
  clear A10
  replace H := Option.bind_eq_some_iff.mp H
  obtain ⟨t486, A20, H⟩ := H
  replace H : ((read_Count.f k ([] : List (S70)) ([] : List (S34)) (⟨#[107]⟩ : ByteArray)).bind fun t489 => (if t489 = 0 then (if (t486.length : Int) = 1 then (if 0 < (t486.length : Int) then (some ((rdOf ByteArray.empty t486 0).toList == ([98] : List UInt8))) else (none)) else (none)) else (none))) = some r := H
  have A2 := Aside0.mk A20
  clear A20
  replace H := Option.bind_eq_some_iff.mp H
  obtain ⟨t489, A30, H⟩ := H
  replace H : (if t489 = 0 then (if (t486.length : Int) = 1 then (if 0 < (t486.length : Int) then (some ((rdOf ByteArray.empty t486 0).toList == ([98] : List UInt8))) else (none)) else (none)) else (none)) = some r := H
  have A3 := Aside0.mk A30
  clear A30
  by_cases c4 : t489 = 0
  · rw [if_pos c4] at H
    have c4b0 : (t489 == 0) = true := beq_iff_eq.mpr c4
    have c4b1 : (t489 != 0) = false := bne_eq_false_iff_eq.mpr c4
    clear c4
    by_cases c5 : (t486.length : Int) = 1
    · rw [if_pos c5] at H
      have c5b0 : ((t486.length : Int) == 1) = true := beq_iff_eq.mpr c5
      have c5b1 : ((t486.length : Int) != 1) = false := bne_eq_false_iff_eq.mpr c5
      clear c5
      by_cases c6 : 0 < (t486.length : Int)
      · rw [if_pos c6] at H
        have c6b0 : decide (0 < (t486.length : Int)) = true := decide_eq_true c6
        have c6b1 : decide (0 < t486.length) = true := decide_eq_true (by omega)
        clear c6
        obtain rfl := Option.some.inj H
        go_enter Try.func11, Try.ntmps11
        go_wp2_with (first | ((with_reducible refine gate_dst (N := 2) rfl ?_); (try (refine gate_guard (by rfl) ?_; dsimp only)); refine Kd.R_lit (Kd.int .u8) _ 5 ?hg (N := 2) ?hd (xs := ([0, 1] : List Int)) (inner := [.int .u8 0, .int .u8 1]) (ok := fun _ => True) (okp := fun _ => True) ?hr ?hp (fun _ hk => hk) trivial (Below.refl _ _) (Nat.le_refl _) (by simp) ?_; (case hd => rfl); (case hg => rfl); (case hr => first | (go_simp; done) | (go_simp; rfl)); (case hp => exact (Reps.one (show Kd.M (Kd.int .u8) _ _ _ 0 [.int .u8 0] from rfl) (Reps.one (show Kd.M (Kd.int .u8) _ _ _ 1 [.int .u8 1] from rfl) (Reps.none _ _)))); intro v478 w7 ho8 hb hg_ hnew_; clear hg_ hnew_; (first | rw [← Ny477.out] at ho8 | (simp only [Int.reduceToNat] at ho8; rw [← Ny477.out] at ho8)); have HO479 := Aside0.mk (Kd.R_lower ho8 (below_size (bw HB.out))); replace HB := Aside0.mk (below_step (bw HB.out) hb); clear hb ho8; obtain ⟨Ao9, co9, eo9⟩ := Kd.R_slice HO479.out; subst eo9) | ((with_reducible refine gate_callee (f := 28) rfl ?_); refine goesL_ (some 3) rfl rfl Try.func28 (by kernel_rfl) rfl #[.slice Ao9 y477.length co9] rfl ar_ ?_; (with_reducible refine (deaddroplaw8_Make.calls k _ _ y477 t480 t483 _ ?side1 ?side2 A1.out).mono ?_); (case side1 => exact cr (Kd.R_reads' HO479.out).2.2); (case side2 => exact (Kd.R_reads' HO479.out).2.1); rintro e w10 ⟨v481, v484, rfl, ho0, ho1, hb⟩; refine ⟨_, rfl, ?_⟩; replace HO479 := Aside0.mk (Kd.R_below (rk HO479.out) hb); have HO482 := Aside0.mk (Kd.R_lower ho0 (below_size (bw HB.out))); have HO485 := Aside0.mk (Kd.R_lower ho1 (below_size (bw HB.out))); replace HB := Aside0.mk (below_step (bw HB.out) hb); (try clear hb); (try clear hb2); (try clear hk); (try clear hi); (try clear ho0); (try clear ho1); obtain ⟨Ao11, co11, eo11⟩ := Kd.R_slice HO482.out; subst eo11; obtain ⟨Ao12, co12, eo12⟩ := Kd.R_slice HO485.out; subst eo12) | ((with_reducible refine gate_callee (f := 14) rfl ?_); refine goesL_ (some 4) rfl rfl Try.func14 (by kernel_rfl) rfl #[.agg #[.slice Ao11 t480.length co11, .slice Ao12 t483.length co12], .string (⟨#[107]⟩ : ByteArray)] rfl ar_ ?_; (with_reducible refine (read_Texts.calls k _ _ t480 _ _ t483 (⟨#[107]⟩ : ByteArray) t486 _ ?side1 ?side2 ?side3 ?side4 A2.out).mono ?_); (case side1 => exact cr (Kd.R_reads' HO482.out).2.2); (case side2 => exact (Kd.R_reads' HO482.out).2.1); (case side3 => exact cr (Kd.R_reads' HO485.out).2.2); (case side4 => exact (Kd.R_reads' HO485.out).2.1); rintro e w13 ⟨v487, rfl, ho0, hb⟩; refine ⟨_, rfl, ?_⟩; replace HO479 := Aside0.mk (Kd.R_below (rk HO479.out) hb); replace HO482 := Aside0.mk (Kd.R_below (rk HO482.out) hb); replace HO485 := Aside0.mk (Kd.R_below (rk HO485.out) hb); have HO488 := Aside0.mk (Kd.R_lower ho0 (below_size (bw HB.out))); replace HB := Aside0.mk (below_step (bw HB.out) hb); (try clear hb); (try clear hb2); (try clear hk); (try clear hi); (try clear ho0)) | ((with_reducible refine gate_callee (f := 10) rfl ?_); refine goesL_ (some 6) rfl rfl Try.func10 (by kernel_rfl) rfl #[.agg #[.slice none 0 0, .slice none 0 0], .string (⟨#[107]⟩ : ByteArray)] rfl ar_ ?_; (refine (read_Count.calls k _ _ ([] : List (S70)) _ _ ([] : List (S34)) (⟨#[107]⟩ : ByteArray) t489 _ ?side1 ?side2 ?side3 ?side4 A3.out).mono ?_); (case side1 => exact Kd.C_nil _ _); (case side2 => exact Nat.le_refl _); (case side3 => exact Kd.C_nil _ _); (case side4 => exact Nat.le_refl _); rintro e w14 ⟨rfl, hb⟩; refine ⟨_, rfl, ?_⟩; replace HO479 := Aside0.mk (Kd.R_below (rk HO479.out) hb); replace HO482 := Aside0.mk (Kd.R_below (rk HO482.out) hb); replace HO485 := Aside0.mk (Kd.R_below (rk HO485.out) hb); replace HO488 := Aside0.mk (Kd.R_below (rk HO488.out) hb); replace HB := Aside0.mk (below_step (bw HB.out) hb); (try clear hb); (try clear hb2); (try clear hk); (try clear hi); obtain ⟨Ao15, co15, eo15⟩ := Kd.R_slice HO488.out; subst eo15; have p490 : 0 ≤ (0 : Int) := (by omega); have q490 : 0 < (t486.length : Int) := of_decide_eq_true as_; obtain ⟨ad490, e490, hx490_0⟩ := Kd.at_string (Kd.R_reads' HO488.out).2.2 0 p490 q490; cases e490; have qi490 : (0 < t486.length) = True := eq_true (by omega); (try rw [show ((0 : Int)).toNat = 0 from rfl] at hx490_0); (try rw [Addr.add_zero'] at hx490_0); replace p490 := eq_true p490; replace q490 := eq_true q490))
        go_ret
        exact ⟨by first | rfl | (simp [errW_none, errW_some] <;> rfl) | (simp [*, errW_none, errW_some] <;> rfl), bw HB.out⟩
      · rw [if_neg c6] at H
        exact absurd H (by simp)
    · rw [if_neg c5] at H
      exact absurd H (by simp)
  · rw [if_neg c4] at H
    exact absurd H (by simp)

/-! ### deaddropref1_SameTexts: function 15 -/
def deaddropref1_SameTexts.l0 : Nat → List ByteArray → List ByteArray → Int → Option (Bool)
  | 0, _, _, _ => none
  | k + 1, x0, x1, x5 => if x5 < (x0.length : Int) then (if 0 ≤ x5 then (if x5 < (x1.length : Int) then (if (rdOf ByteArray.empty x0 x5).toList = (rdOf ByteArray.empty x1 x5).toList then (deaddropref1_SameTexts.l0 k x0 x1 (wrap64 (x5 + 1))) else (some false)) else (none)) else (none)) else (some true)
def deaddropref1_SameTexts.f (k : Nat) (l0 : List ByteArray) (l1 : List ByteArray) : Option (Bool) := if (l0.length : Int) = (l1.length : Int) then (deaddropref1_SameTexts.l0 k l0 l1 0) else (some false)
theorem deaddropref1_SameTexts.mono_l : ∀ k, (∀ y0 y1 y2, LeO (deaddropref1_SameTexts.l0 k y0 y1 y2) (deaddropref1_SameTexts.l0 (k + 1) y0 y1 y2))
  | 0 => fun _ _ _ r h => by simp [deaddropref1_SameTexts.l0] at h
  | k + 1 => by
    have ih0 := deaddropref1_SameTexts.mono_l k
    · intro y0 y1 y2
      unfold deaddropref1_SameTexts.l0
      repeat' first
      | with_reducible (first | exact ih0 _ _ _ | exact LeO.refl _ | exact LeO.none _ | refine LeO.ite ?_ ?_ | refine LeO.bind ?_ (fun _ => ?_))
      | exact ih0 _ _ _ | exact LeO.none _ | refine LeO.ite ?_ ?_ | refine LeO.bind ?_ (fun _ => ?_)
theorem deaddropref1_SameTexts.mono : ∀ a0 a1 k, LeO (deaddropref1_SameTexts.f k a0 a1) (deaddropref1_SameTexts.f (k + 1) a0 a1) := by
  intro a0 a1 k
  have ih0 := deaddropref1_SameTexts.mono_l k
  unfold deaddropref1_SameTexts.f
  repeat' first
      | with_reducible (first | exact ih0 _ _ _ | exact LeO.refl _ | exact LeO.none _ | refine LeO.ite ?_ ?_ | refine LeO.bind ?_ (fun _ => ?_))
      | exact ih0 _ _ _ | exact LeO.none _ | refine LeO.ite ?_ ?_ | refine LeO.bind ?_ (fun _ => ?_)
set_option maxHeartbeats 8000000 in
set_option maxRecDepth 100000 in
theorem deaddropref1_SameTexts.calls (k : Nat) (A0 : Option Addr) (c0 : Nat) (l0 : List ByteArray) (A1 : Option Addr) (c1 : Nat) (l1 : List ByteArray) (r : Bool) (w : World) (hr0 : Kd.C Kd.string w A0 l0.length l0) (hc0 : l0.length ≤ c0) (hr1 : Kd.C Kd.string w A1 l1.length l1) (hc1 : l1.length ≤ c1) (h : deaddropref1_SameTexts.f k l0 l1 = some r) :
    Calls Try.prog 15 #[.slice A0 l0.length c0, .slice A1 l1.length c1] w fun e w' => e = .returned (.bool r) ∧ Drawn0 w w' := by
  have HR0 := Aside0.mk hr0
  have HC0 := Aside0.mk hc0
  clear hr0 hc0
  have HR1 := Aside0.mk hr1
  have HC1 := Aside0.mk hc1
  clear hr1 hc1
  have H : (if (l0.length : Int) = (l1.length : Int) then (deaddropref1_SameTexts.l0 k l0 l1 0) else (some false)) = some r := h
  clear h
  by_cases c3 : (l0.length : Int) = (l1.length : Int)
  · rw [if_pos c3] at H
    have c3b0 : ((l0.length : Int) == (l1.length : Int)) = true := beq_iff_eq.mpr c3
    have c3b1 : ((l0.length : Int) != (l1.length : Int)) = false := bne_eq_false_iff_eq.mpr c3
    have c3b2 : (l0.length == l1.length) = true := by first | simpa using c3 | (simp at c3 ⊢; omega)
    clear c3
    have H' := Aside0.mk H
    clear H
    go_enter Try.func15, Try.ntmps15
    go_wp2
    repeat (go_quiet (fail); try go_wp2)
    go_loopg [5] k (fun kq v5 w' => ∃ (x5_1 : Int), v5 = .int .i64 x5_1 ∧ Aside0 (deaddropref1_SameTexts.l0 kq l0 l1 x5_1 = some r) ∧ Aside0 (kq ≤ k) ∧ Drawn0 w w')
    case atStart => exact ⟨(0), ok_, H', ⟨Nat.le_refl _⟩, by repeat (first | exact Drawn0.refl _ | apply Drawn0.step)⟩
    case round =>
      clear H'
      try clear c1
      try clear c3
      try clear c3b0
      try clear c3b1
      try clear c3b2
      obtain ⟨x5_1, rfl, HA, HK1, ⟨m1, rfl⟩⟩ := hrel
      cases gk with
      | zero => exact absurd HA.out (by simp [deaddropref1_SameTexts.l0])
      | succ k1 =>
        have H := HA.out
        clear HA
        simp only [deaddropref1_SameTexts.l0] at H
        by_cases c4 : x5_1 < (l0.length : Int)
        · rw [if_pos c4] at H
          have c4b0 : decide (x5_1 < (l0.length : Int)) = true := decide_eq_true c4
          clear c4
          by_cases c5 : 0 ≤ x5_1
          · rw [if_pos c5] at H
            have c5b0 : decide (0 ≤ x5_1) = true := decide_eq_true c5
            clear c5
            by_cases c6 : x5_1 < (l1.length : Int)
            · rw [if_pos c6] at H
              have c6b0 : decide (x5_1 < (l1.length : Int)) = true := decide_eq_true c6
              clear c6
              by_cases c7 : (rdOf ByteArray.empty l0 x5_1).toList = (rdOf ByteArray.empty l1 x5_1).toList
              · rw [if_pos c7] at H
                have c7b0 : ((rdOf ByteArray.empty l0 x5_1).toList == (rdOf ByteArray.empty l1 x5_1).toList) = true := beq_iff_eq.mpr c7
                have c7b1 : ((rdOf ByteArray.empty l0 x5_1).toList != (rdOf ByteArray.empty l1 x5_1).toList) = false := bne_eq_false_iff_eq.mpr c7
                clear c7
                have H' := Aside0.mk H
                clear H
                have p491 : 0 ≤ (x5_1 : Int) := of_decide_eq_true as_
                have q491 : x5_1 < (l0.length : Int) := of_decide_eq_true as_
                obtain ⟨ad491, e491, hx491_0⟩ := Kd.at_string HR0.out x5_1 p491 q491
                cases e491
                replace p491 := eq_true p491
                replace q491 := eq_true q491
                have p492 : 0 ≤ (x5_1 : Int) := of_decide_eq_true as_
                have q492 : x5_1 < (l1.length : Int) := of_decide_eq_true as_
                obtain ⟨ad492, e492, hx492_0⟩ := Kd.at_string HR1.out x5_1 p492 q492
                cases e492
                replace p492 := eq_true p492
                replace q492 := eq_true q492
                go_wp2
                repeat (go_quiet (fail); try go_wp2)
                go_roundg k1
                case measure => have := HK1.out; omega
                case rel => exact ⟨(wrap64 (x5_1 + 1)), ok_, H', ⟨by have := HK1.out; omega⟩, by repeat (first | exact Drawn0.refl _ | apply Drawn0.step)⟩
              · rw [if_neg c7] at H
                have c7b0 : ((rdOf ByteArray.empty l0 x5_1).toList == (rdOf ByteArray.empty l1 x5_1).toList) = false := beq_eq_false_iff_ne.mpr c7
                have c7b1 : ((rdOf ByteArray.empty l0 x5_1).toList != (rdOf ByteArray.empty l1 x5_1).toList) = true := bne_iff_ne.mpr c7
                obtain rfl := Option.some.inj H
                have p491 : 0 ≤ (x5_1 : Int) := of_decide_eq_true as_
                have q491 : x5_1 < (l0.length : Int) := of_decide_eq_true as_
                obtain ⟨ad491, e491, hx491_0⟩ := Kd.at_string HR0.out x5_1 p491 q491
                cases e491
                replace p491 := eq_true p491
                replace q491 := eq_true q491
                have p492 : 0 ≤ (x5_1 : Int) := of_decide_eq_true as_
                have q492 : x5_1 < (l1.length : Int) := of_decide_eq_true as_
                obtain ⟨ad492, e492, hx492_0⟩ := Kd.at_string HR1.out x5_1 p492 q492
                cases e492
                replace p492 := eq_true p492
                replace q492 := eq_true q492
                go_wp2
                repeat (go_quiet (fail); try go_wp2)
                go_ret
                exact ⟨by first | rfl | (simp; done) | (simp [*]; done), by repeat (first | exact Drawn0.refl _ | apply Drawn0.step)⟩
            · rw [if_neg c6] at H
              exact absurd H (by simp)
          · rw [if_neg c5] at H
            exact absurd H (by simp)
        · rw [if_neg c4] at H
          have c4b0 : decide (x5_1 < (l0.length : Int)) = false := decide_eq_false c4
          clear c4
          obtain rfl := Option.some.inj H
          go_wp2
          repeat (go_quiet (fail); try go_wp2)
          go_ret
          exact ⟨by first | rfl | (simp; done) | (simp [*]; done), by repeat (first | exact Drawn0.refl _ | apply Drawn0.step)⟩
  · rw [if_neg c3] at H
    have c3b0 : ((l0.length : Int) == (l1.length : Int)) = false := beq_eq_false_iff_ne.mpr c3
    have c3b1 : ((l0.length : Int) != (l1.length : Int)) = true := bne_iff_ne.mpr c3
    have c3b2 : (l0.length == l1.length) = false := by first | simpa using c3 | (simp at c3 ⊢; omega)
    obtain rfl := Option.some.inj H
    go_enter Try.func15, Try.ntmps15
    go_wp2
    repeat (go_quiet (fail); try go_wp2)
    go_ret
    exact ⟨by first | rfl | (simp; done) | (simp [*]; done), by repeat (first | exact Drawn0.refl _ | apply Drawn0.step)⟩

/-! ### read_Members: function 16 -/
def read_Members.f (k : Nat) (l0_0 : List (S70)) (l0_1 : List (S34)) (a1 : ByteArray) : Option (List ByteArray) := (read_items.f k l0_0 l0_1 a1 2).bind fun t494 => (some t494)
theorem read_Members.mono : ∀ a0 a1 a2 k, LeO (read_Members.f k a0 a1 a2) (read_Members.f (k + 1) a0 a1 a2) := by
  intro a0 a1 a2 k
  unfold read_Members.f
  repeat' first
      | with_reducible (first | exact read_items.mono _ _ _ _ _ | exact LeO.refl _ | exact LeO.none _ | refine LeO.ite ?_ ?_ | refine LeO.bind ?_ (fun _ => ?_))
      | exact read_items.mono _ _ _ _ _ | exact LeO.none _ | refine LeO.ite ?_ ?_ | refine LeO.bind ?_ (fun _ => ?_)
set_option maxHeartbeats 8000000 in
set_option maxRecDepth 100000 in
theorem read_Members.calls (k : Nat) (A0_0 : Option Addr) (c0_0 : Nat) (l0_0 : List (S70)) (A0_1 : Option Addr) (c0_1 : Nat) (l0_1 : List (S34)) (a1 : ByteArray) (r : List ByteArray) (w : World) (hr0_0 : Kd.C k70 w A0_0 l0_0.length l0_0) (hc0_0 : l0_0.length ≤ c0_0) (hr0_1 : Kd.C k34 w A0_1 l0_1.length l0_1) (hc0_1 : l0_1.length ≤ c0_1) (h : read_Members.f k l0_0 l0_1 a1 = some r) :
    Calls Try.prog 16 #[.agg #[.slice A0_0 l0_0.length c0_0, .slice A0_1 l0_1.length c0_1], .string a1] w fun e w' => ∃ v0_ : Value, e = .returned (v0_) ∧ Kd.R Kd.string 9 w' w.heap.size (fun _ => True) v0_ r ∧ Below w.heap.size w w' := by
  have hu28 := Try.underlying28
  have HR0_0 := Aside0.mk hr0_0
  have HC0_0 := Aside0.mk hc0_0
  clear hr0_0 hc0_0
  have HR0_1 := Aside0.mk hr0_1
  have HC0_1 := Aside0.mk hc0_1
  clear hr0_1 hc0_1
  have HB := Aside0.mk (Below.refl w.heap.size w)
  have H : ((read_items.f k l0_0 l0_1 a1 2).bind fun t494 => (some t494)) = some r := h
  clear h
  replace H := Option.bind_eq_some_iff.mp H
  obtain ⟨t494, A30, H⟩ := H
  replace H : (some t494) = some r := H
  have A3 := Aside0.mk A30
  clear A30
  obtain rfl := Option.some.inj H
  go_enter Try.func16, Try.ntmps16
  go_wp2_with (first | ((with_reducible refine gate_dst (N := 2) rfl ?_); refine box_event ?hg (N := 2) ?hd (cs := #[.slice A0_0 l0_0.length c0_0, .slice A0_1 l0_1.length c0_1]) (t := 28) ?hr ?_; (case hd => rfl); (case hg => rfl); (case hr => first | (go_simp; done) | (go_simp; rfl)); intro gb493 hg w4 hbox hb; have BK493 := Aside0.mk (hbox); have GW493 := Aside0.mk ((by rw [hg]; exact (below_size (bw HB.out)) : w.heap.size ≤ gb493)); have GE493 := GW493; replace HB := Aside0.mk (below_step (bw HB.out) hb); clear hb hbox hg; obtain ⟨hcz5_0, hcz5_1⟩ := bx2 BK493.out; obtain ⟨hfz5_0, hfz5_1⟩ := bf2 BK493.out) | ((with_reducible refine gate_callee (f := 32) rfl ?_); refine goesL_ (some 7) rfl rfl Try.func32 (by kernel_rfl) rfl #[.agg #[.slice A0_0 l0_0.length c0_0, .slice A0_1 l0_1.length c0_1], .string a1, .int .i64 2] rfl ar_ ?_; (with_reducible refine (read_items.calls k _ _ l0_0 _ _ l0_1 a1 2 t494 _ ?side1 ?side2 ?side3 ?side4 A3.out).mono ?_); (case side1 => exact cr (Kd.C_below HR0_0.out HB.out)); (case side2 => exact HC0_0.out); (case side3 => exact cr (Kd.C_below HR0_1.out HB.out)); (case side4 => exact HC0_1.out); rintro e w6 ⟨v495, rfl, ho0, hb⟩; refine ⟨_, rfl, ?_⟩; have HO496 := Aside0.mk (Kd.R_lower ho0 (below_size (bw1 HB.out GE493.out))); replace BK493 := Aside0.mk (bkb BK493.out hb); replace HB := Aside0.mk (below_step (bw1 HB.out GE493.out) hb); (try clear hb); (try clear hb2); (try clear hk); (try clear hi); (try clear ho0)))
  go_ret
  exact ⟨_, by first | rfl | (simp [errW_none, errW_some] <;> rfl) | (simp [*, errW_none, errW_some] <;> rfl), rk HO496.out, bw1 HB.out GE493.out⟩

/-! ### read_Keys: function 19 -/
def read_Keys.l0 : Nat → List ByteArray → List (S34) → Int → Int → Option (List ByteArray)
 | 0, _, _, _, _ => none
 | k + 1, x3, x7, x8, x9 => if x9 < x8 then (if 0 ≤ x9 then (if x9 < (x7.length : Int) then (if x3.length < 8796093022208 then (read_Keys.l0 k (x3 ++ [(rd_T34 x7 x9).f1]) x7 x8 (wrap64 (x9 + 1))) else (none)) else (none)) else (none)) else ((read_set.f x3).bind fun t503 => (some t503))
def read_Keys.f (k : Nat) (l0_0 : List (S70)) (l0_1 : List (S34)) : Option (List ByteArray) := read_Keys.l0 k ([] : List ByteArray) l0_1 (l0_1.length : Int) 0
theorem read_Keys.mono_l : ∀ k, (∀ y0 y1 y2 y3, LeO (read_Keys.l0 k y0 y1 y2 y3) (read_Keys.l0 (k + 1) y0 y1 y2 y3))
 | 0 => fun _ _ _ _ r h => by simp [read_Keys.l0] at h
 | k + 1 => by
  have ih0 := read_Keys.mono_l k
  ·
   intro y0 y1 y2 y3
   unfold read_Keys.l0
   repeat' first
   | with_reducible (first | exact ih0 _ _ _ _ | exact LeO.refl _ | exact LeO.none _ | refine LeO.ite ?_ ?_ | refine LeO.bind ?_ (fun _ => ?_))
   | exact ih0 _ _ _ _ | exact LeO.none _ | refine LeO.ite ?_ ?_ | refine LeO.bind ?_ (fun _ => ?_)
theorem read_Keys.mono : ∀ a0 a1 k, LeO (read_Keys.f k a0 a1) (read_Keys.f (k + 1) a0 a1) := by
 intro a0 a1 k
 have ih0 := read_Keys.mono_l k
 unfold read_Keys.f
 repeat' first
  | with_reducible (first | exact ih0 _ _ _ _ | exact LeO.refl _ | exact LeO.none _ | refine LeO.ite ?_ ?_ | refine LeO.bind ?_ (fun _ => ?_))
  | exact ih0 _ _ _ _ | exact LeO.none _ | refine LeO.ite ?_ ?_ | refine LeO.bind ?_ (fun _ => ?_)
set_option maxHeartbeats 8000000 in
set_option maxRecDepth 100000 in
theorem read_Keys.calls (k : Nat) (A0_0 : Option Addr) (c0_0 : Nat) (l0_0 : List (S70)) (A0_1 : Option Addr) (c0_1 : Nat) (l0_1 : List (S34)) (r : List ByteArray) (w : World) (hr0_0 : Kd.C k70 w A0_0 l0_0.length l0_0) (hc0_0 : l0_0.length ≤ c0_0) (hr0_1 : Kd.C k34 w A0_1 l0_1.length l0_1) (hc0_1 : l0_1.length ≤ c0_1) (h : read_Keys.f k l0_0 l0_1 = some r) :
 Calls Try.prog 19 #[.agg #[.slice A0_0 l0_0.length c0_0, .slice A0_1 l0_1.length c0_1]] w fun e w' => ∃ v0_ : Value, e = .returned (v0_) ∧ Kd.R Kd.string 9 w' w.heap.size (fun _ => True) v0_ r ∧ Below w.heap.size w w' := by
 have hu28 := Try.underlying28
 have hu34 := Try.underlying34
 have HR0_0 := Aside0.mk hr0_0
 have HC0_0 := Aside0.mk hc0_0
 clear hr0_0 hc0_0
 have HR0_1 := Aside0.mk hr0_1
 have HC0_1 := Aside0.mk hc0_1
 clear hr0_1 hc0_1
 have HB := Aside0.mk (Below.refl w.heap.size w)
 have H : (read_Keys.l0 k ([] : List ByteArray) l0_1 (l0_1.length : Int) 0) = some r := h
 clear h
 have H' := Aside0.mk H
 clear H
 go_enter Try.func19, Try.ntmps19
 go_wp2_with (first | ((with_reducible refine gate_dst (N := 1) rfl ?_); refine box_event ?hg (N := 1) ?hd (cs := #[.slice A0_0 l0_0.length c0_0, .slice A0_1 l0_1.length c0_1]) (t := 28) ?hr ?_; (case hd => rfl); (case hg => rfl); (case hr => first | (go_simp; done) | (go_simp; rfl)); intro gb497 hg w2 hbox hb; have BK497 := Aside0.mk (hbox); have GW497 := Aside0.mk ((by rw [hg]; exact (below_size (bw HB.out)) : w.heap.size ≤ gb497)); have GE497 := GW497; replace HB := Aside0.mk (below_step (bw HB.out) hb); clear hb hbox hg; obtain ⟨hcz3_0, hcz3_1⟩ := bx2 BK497.out; obtain ⟨hfz3_0, hfz3_1⟩ := bf2 BK497.out))
 go_loopg [3, 9] k (fun kq v3 v9 w' => ∃ (x3_1 : List ByteArray) (x9_1 : Int), v9 = .int .i64 x9_1 ∧ Aside0 (read_Keys.l0 kq x3_1 l0_1 (l0_1.length : Int) x9_1 = some r) ∧ Aside0 (kq ≤ k) ∧ Aside0 (Kd.R Kd.string 9 w' w.heap.size (fun _ => True) v3 x3_1) ∧ Aside0 (w'.heap[gb497]? = some (.cells #[(.slice A0_0 l0_0.length c0_0), (.slice A0_1 l0_1.length c0_1)] 28 (0, 0))) ∧ Aside0 (Below w.heap.size w w'))
 case atStart => exact ⟨(([] : List ByteArray)), (0), ok_, H', ⟨Nat.le_refl _⟩, ⟨by first | exact Kd.R_nil _ _ _ _ _ | exact Kd.N_nil _ _ _ _ _ | exact Kd.V_nil _ _ _ _ _ | exact Kd.Q_nil _ _ _ _ _ | exact Kd.S_nil _ _ _ _ _⟩, ⟨bk BK497.out⟩, ⟨bw1 HB.out GE497.out⟩⟩
 case round =>
  clear H'
  try clear hcz3_0
  try clear hcz3_1
  try clear hfz3_0
  try clear hfz3_1
  obtain ⟨x3_1, x9_1, rfl, HA, HK1, HO_3, BK497, HB⟩ := hrel
  cases gk with
  | zero => exact absurd HA.out (by simp [read_Keys.l0])
  | succ k1 =>
   have H := HA.out
   clear HA
   simp only [read_Keys.l0] at H
   by_cases c4 : x9_1 < (l0_1.length : Int)
   ·
    rw [if_pos c4] at H
    have c4b0 : decide (x9_1 < (l0_1.length : Int)) = true := decide_eq_true c4
    clear c4
    by_cases c5 : 0 ≤ x9_1
    rotate_left
    ·
     rw [if_neg c5] at H
     exact absurd H (by simp)
    rw [if_pos c5] at H
    have c5b0 : decide (0 ≤ x9_1) = true := decide_eq_true c5
    clear c5
    by_cases c6 : x9_1 < (l0_1.length : Int)
    rotate_left
    ·
     rw [if_neg c6] at H
     exact absurd H (by simp)
    rw [if_pos c6] at H
    have c6b0 : decide (x9_1 < (l0_1.length : Int)) = true := decide_eq_true c6
    clear c6
    by_cases c7 : x3_1.length < 8796093022208
    rotate_left
    ·
     rw [if_neg c7] at H
     exact absurd H (by simp)
    rw [if_pos c7] at H
    have LMc7 := Aside0.mk c7
    clear c7
    obtain ⟨y500, hy500⟩ : ∃ y_ : List ByteArray, y_ = (x3_1 ++ [(rd_T34 l0_1 x9_1).f1]) := ⟨_, rfl⟩
    replace H : (read_Keys.l0 k1 y500 l0_1 (l0_1.length : Int) (wrap64 (x9_1 + 1))) = some r := by first | (rw [hy500]; with_reducible exact H) | (have H2_ := (Option.bind_some _ _).symm.trans H; rw [hy500]; with_reducible exact H2_) | (have H2_ := (Option.bind_some _ _).symm.trans H; with_reducible exact H2_) | with_reducible exact H | (rw [hy500]; exact H) | exact H
    have Ny500 := Aside0.mk hy500
    clear hy500
    have H' := Aside0.mk H
    clear H
    have p498 : 0 ≤ (x9_1 : Int) := of_decide_eq_true as_
    have q498 : x9_1 < (l0_1.length : Int) := of_decide_eq_true as_
    obtain ⟨ad498, e498, hx498_0, hx498_1, hx498_2, hx498_3, hx498_4, hx498_5⟩ := at_T34 HR0_1.out x9_1 p498 q498
    cases e498
    replace hx498_0 := (HB.out.cell (World.block_lt_of_cell? w _ hx498_0)).trans hx498_0
    replace hx498_1 := (HB.out.cell (World.block_lt_of_cell? w _ hx498_1)).trans hx498_1
    replace hx498_2 := (HB.out.cell (World.block_lt_of_cell? w _ hx498_2)).trans hx498_2
    replace hx498_3 := (HB.out.cell (World.block_lt_of_cell? w _ hx498_3)).trans hx498_3
    replace hx498_4 := (HB.out.cell (World.block_lt_of_cell? w _ hx498_4)).trans hx498_4
    replace hx498_5 := (HB.out.cell (World.block_lt_of_cell? w _ hx498_5)).trans hx498_5
    replace p498 := eq_true p498
    replace q498 := eq_true q498
    go_wp2_with (first | ((with_reducible refine gate_dst (N := 5) rfl ?_); refine box_event ?hg (N := 5) ?hd (cs := #[.int .i64 0, .int .i64 0, .string (⟨#[]⟩ : ByteArray), .int .i64 0, .string (⟨#[]⟩ : ByteArray), .int .i64 0]) (t := 34) ?hr ?_; (case hd => rfl); (case hg => rfl); (case hr => first | (go_simp; done) | (go_simp; rfl)); intro gb499 hg w8 hbox hb; replace HO_3 := Aside0.mk (Kd.R_below (rk HO_3.out) hb); have BK499 := Aside0.mk (hbox); have GW499 := Aside0.mk ((by rw [hg]; exact (below_size (bw1 HB.out GE497.out)) : w.heap.size ≤ gb499)); have GE499 := GW499; replace HB := Aside0.mk (below_step (bw1 HB.out GE497.out) hb); have NB497_499 := Aside0.mk (nbl BK497.out hg); have NB499_497 := Aside0.mk (nbg BK497.out hg); replace BK497 := Aside0.mk (bkb BK497.out hb); clear hb hbox hg; have hnb9 := NB499_497.out; have hnc9 := NB497_499.out; obtain ⟨hcz10_0, hcz10_1, hcz10_2, hcz10_3, hcz10_4, hcz10_5⟩ := bx6 BK499.out; obtain ⟨hfz10_0, hfz10_1, hfz10_2, hfz10_3, hfz10_4, hfz10_5⟩ := bf6 BK499.out) | ((with_reducible refine gate_builtin (b := .append) (xs := #[.tmp 13, .tmp 16]) rfl ?_); at_builtin; refine Kd.R_append Kd.string (w0 := w) w.heap.size rfl (.tmp 13) (.tmp 16) 45 9 (.string ⟨#[]⟩) 16 rfl Try.underlying45 info9 rfl (by decide) (by omega) u3 x3_1 ((rd_T34 l0_1 x9_1).f1) [.string ((rd_T34 l0_1 x9_1).f1)] (fun _ => True) (fun _ => False) rfl (by first | (go_simp; done) | (go_simp; rfl)) ?aP (fun _ hk => hk.elim) ?aF ?aO ?aB ?aS ?aL ?_; (case aP => exact rfl); (case aB => exact (bw2 HB.out GE497.out GE499.out)); (case aF => exact (fun _ _ => trivial)); (case aO => exact (by (with_reducible repeat (first | apply Kd.R_alloc | apply Kd.R_drewN | apply Kd.R_drew)); exact Kd.R_mono (Kd.R_far (p := ⟨gb499, 5, none⟩) (Kd.R_far (p := ⟨gb499, 4, none⟩) (Kd.R_far (p := ⟨gb499, 3, none⟩) (Kd.R_far (p := ⟨gb499, 2, none⟩) (Kd.R_far (p := ⟨gb499, 1, none⟩) (Kd.R_far (p := ⟨gb499, 0, none⟩) (Kd.R_types HO_3.out BK499.out (by decide)) (fun _ hk => hk.2) (.int .i64 ((rd_T34 l0_1 x9_1).f0.f0))) (fun _ hk => hk.2) (.int .i64 ((rd_T34 l0_1 x9_1).f0.f1))) (fun _ hk => hk.2) (.string ((rd_T34 l0_1 x9_1).f1))) (fun _ hk => hk.2) (.int .i64 ((rd_T34 l0_1 x9_1).f2))) (fun _ hk => hk.2) (.string ((rd_T34 l0_1 x9_1).f3))) (fun _ hk => hk.2) (.int .i64 ((rd_T34 l0_1 x9_1).f4))) (fun _ hk => trivial))); (case aS => exact (below_size (bw2 HB.out GE497.out GE499.out))); (case aL => have := LMc7.out; omega); intro v501 w11 ho hb hg hat; rw [← Ny500.out] at ho; replace BK497 := Aside0.mk (blk_grown (g := gb497) (o := .cells #[.slice A0_0 l0_0.length c0_0, .slice (some ad498) l0_1.length c0_1] 28 (0, 0)) (by (with_reducible repeat (first | refine blk_drewN ?_ _ | refine blk_drew ?_ | refine blk_alloc ?_ _)); refine blk_far ?_ NB497_499.out _; (with_reducible repeat (first | refine blk_drewN ?_ _ | refine blk_drew ?_ | refine blk_alloc ?_ _)); refine blk_far ?_ NB497_499.out _; (with_reducible repeat (first | refine blk_drewN ?_ _ | refine blk_drew ?_ | refine blk_alloc ?_ _)); refine blk_far ?_ NB497_499.out _; (with_reducible repeat (first | refine blk_drewN ?_ _ | refine blk_drew ?_ | refine blk_alloc ?_ _)); refine blk_far ?_ NB497_499.out _; (with_reducible repeat (first | refine blk_drewN ?_ _ | refine blk_drew ?_ | refine blk_alloc ?_ _)); refine blk_far ?_ NB497_499.out _; (with_reducible repeat (first | refine blk_drewN ?_ _ | refine blk_drew ?_ | refine blk_alloc ?_ _)); refine blk_far ?_ NB497_499.out _; (with_reducible repeat (first | refine blk_drewN ?_ _ | refine blk_drew ?_ | refine blk_alloc ?_ _)); exact BK497.out) hg (Kd.R_ne HO_3.out BK497.out (by decide))); replace BK499 := Aside0.mk (blk_grown (g := gb499) (o := .cells #[.int .i64 ((rd_T34 l0_1 x9_1).f0.f0), .int .i64 ((rd_T34 l0_1 x9_1).f0.f1), .string ((rd_T34 l0_1 x9_1).f1), .int .i64 ((rd_T34 l0_1 x9_1).f2), .string ((rd_T34 l0_1 x9_1).f3), .int .i64 ((rd_T34 l0_1 x9_1).f4)] 34 (0, 0)) (by (with_reducible repeat (first | refine blk_drewN ?_ _ | refine blk_drew ?_ | refine blk_alloc ?_ _)); refine blk_put (cs := #[.int .i64 ((rd_T34 l0_1 x9_1).f0.f0), .int .i64 ((rd_T34 l0_1 x9_1).f0.f1), .string ((rd_T34 l0_1 x9_1).f1), .int .i64 ((rd_T34 l0_1 x9_1).f2), .string ((rd_T34 l0_1 x9_1).f3), .int .i64 0]) ?_ 5 _ rfl; (with_reducible repeat (first | refine blk_drewN ?_ _ | refine blk_drew ?_ | refine blk_alloc ?_ _)); refine blk_put (cs := #[.int .i64 ((rd_T34 l0_1 x9_1).f0.f0), .int .i64 ((rd_T34 l0_1 x9_1).f0.f1), .string ((rd_T34 l0_1 x9_1).f1), .int .i64 ((rd_T34 l0_1 x9_1).f2), .string (⟨#[]⟩ : ByteArray), .int .i64 0]) ?_ 4 _ rfl; (with_reducible repeat (first | refine blk_drewN ?_ _ | refine blk_drew ?_ | refine blk_alloc ?_ _)); refine blk_put (cs := #[.int .i64 ((rd_T34 l0_1 x9_1).f0.f0), .int .i64 ((rd_T34 l0_1 x9_1).f0.f1), .string ((rd_T34 l0_1 x9_1).f1), .int .i64 0, .string (⟨#[]⟩ : ByteArray), .int .i64 0]) ?_ 3 _ rfl; (with_reducible repeat (first | refine blk_drewN ?_ _ | refine blk_drew ?_ | refine blk_alloc ?_ _)); refine blk_put (cs := #[.int .i64 ((rd_T34 l0_1 x9_1).f0.f0), .int .i64 ((rd_T34 l0_1 x9_1).f0.f1), .string (⟨#[]⟩ : ByteArray), .int .i64 0, .string (⟨#[]⟩ : ByteArray), .int .i64 0]) ?_ 2 _ rfl; (with_reducible repeat (first | refine blk_drewN ?_ _ | refine blk_drew ?_ | refine blk_alloc ?_ _)); refine blk_put (cs := #[.int .i64 ((rd_T34 l0_1 x9_1).f0.f0), .int .i64 0, .string (⟨#[]⟩ : ByteArray), .int .i64 0, .string (⟨#[]⟩ : ByteArray), .int .i64 0]) ?_ 1 _ rfl; (with_reducible repeat (first | refine blk_drewN ?_ _ | refine blk_drew ?_ | refine blk_alloc ?_ _)); refine blk_put (cs := #[.int .i64 0, .int .i64 0, .string (⟨#[]⟩ : ByteArray), .int .i64 0, .string (⟨#[]⟩ : ByteArray), .int .i64 0]) ?_ 0 _ rfl; (with_reducible repeat (first | refine blk_drewN ?_ _ | refine blk_drew ?_ | refine blk_alloc ?_ _)); exact BK499.out) hg (Kd.R_ne HO_3.out BK499.out (by decide))); replace HB := Aside0.mk (hb); have HO502 := Aside0.mk (ho); clear HO_3; clear ho hb hg hat))
    go_roundg k1
    case measure => have := HK1.out; omega
    case rel => exact ⟨(y500), (wrap64 (x9_1 + 1)), ok_, H', ⟨by have := HK1.out; omega⟩, ⟨rk HO502.out⟩, ⟨bk BK497.out⟩, ⟨bw2 HB.out GE497.out GE499.out⟩⟩
   ·
    rw [if_neg c4] at H
    have c4b0 : decide (x9_1 < (l0_1.length : Int)) = false := decide_eq_false c4
    clear c4
    replace H := Option.bind_eq_some_iff.mp H
    obtain ⟨t503, A120, H⟩ := H
    replace H : (some t503) = some r := H
    have A12 := Aside0.mk A120
    clear A120
    obtain rfl := Option.some.inj H
    obtain ⟨Ao13, co13, eo13⟩ := Kd.R_slice HO_3.out
    subst eo13
    go_wp2_with (first | ((with_reducible refine gate_callee (f := 35) rfl ?_); refine goesL_ (some 20) rfl rfl Try.func35 (by kernel_rfl) rfl #[.slice Ao13 x3_1.length co13] rfl ar_ ?_; (with_reducible refine (read_set.calls (fun k_ => some k_ = (.slice Ao13 x3_1.length co13 : Value).ownBlock) (.slice Ao13 x3_1.length co13) x3_1 t503 w _ ?side1 ?side2 A12.out).mono ?_); (case side1 => repeat (first | (with_reducible first | exact HB.out | apply below_alloc | apply pw_below_drewN | apply below_drew1 | refine below_set ?_ GE497.out) | exact HB.out)); (case side2 => exact Kd.R_tight rfl HO_3.out); rintro e w14 ⟨v504, rfl, ho0, hb, hkp⟩; refine ⟨_, rfl, ?_⟩; replace BK497 := Aside0.mk (blk_kept (bk BK497.out) hkp (fun hs_ => (fun e_ => (Kd.R_ne HO_3.out BK497.out (by decide)) e_) hs_)); have HO505 := Aside0.mk (Kd.R_mono (ok' := fun k_ => True) ho0 (fun k_ hk_ => trivial)); replace HB := Aside0.mk (hb); clear HO_3; (try clear hb); (try clear hkp); (try clear ho0)))
    go_ret
    exact ⟨_, by first | rfl | (simp [errW_none, errW_some] <;> rfl) | (simp [*, errW_none, errW_some] <;> rfl), rk HO505.out, bw1 HB.out GE497.out⟩

/-! ### deaddropref7_Insert: function 36 -/
mutual
def deaddropref7_Insert.j1 : Nat → List ByteArray → ByteArray → Int → Option (List ByteArray)
 | 0, _, _, _ => none
 | k + 1, x0, x1, x5 => if x5 < (x0.length : Int) then (if 0 ≤ x5 then (if (rdOf ByteArray.empty x0 x5).toList = x1.toList then (some x0) else ((some (([] : List ByteArray) : List ByteArray)).bind fun y508 => (if x5 ≤ (x0.length : Int) then ((some (x0.take (x5 : Int).toNat : List ByteArray)).bind fun y511 => (if y508.length + y511.length < 8796093022208 then ((some (y508 ++ y511 : List ByteArray)).bind fun y515 => (if y515.length < 8796093022208 then ((some (y515 ++ [x1] : List ByteArray)).bind fun y518 => ((some (x0.drop (x5 : Int).toNat : List ByteArray)).bind fun y521 => (if y518.length + y521.length < 8796093022208 then (some (y518 ++ y521)) else (none)))) else (none))) else (none))) else (none)))) else (none)) else ((some (([] : List ByteArray) : List ByteArray)).bind fun y528 => (if 0 ≤ x5 then (if x5 ≤ (x0.length : Int) then ((some (x0.take (x5 : Int).toNat : List ByteArray)).bind fun y531 => (if y528.length + y531.length < 8796093022208 then ((some (y528 ++ y531 : List ByteArray)).bind fun y535 => (if y535.length < 8796093022208 then ((some (y535 ++ [x1] : List ByteArray)).bind fun y538 => ((some (x0.drop (x5 : Int).toNat : List ByteArray)).bind fun y541 => (if y538.length + y541.length < 8796093022208 then (some (y538 ++ y541)) else (none)))) else (none))) else (none))) else (none)) else (none)))
def deaddropref7_Insert.l0 : Nat → List ByteArray → ByteArray → Int → Option (List ByteArray)
 | 0, _, _, _ => none
 | k + 1, x0, x1, x5 => if x5 < (x0.length : Int) then (if 0 ≤ x5 then (if (Op.bytesLess ((rdOf ByteArray.empty x0 x5).toList) x1.toList) = true then (deaddropref7_Insert.l0 k x0 x1 (wrap64 (x5 + 1))) else (deaddropref7_Insert.j1 k x0 x1 x5)) else (none)) else (deaddropref7_Insert.j1 k x0 x1 x5)
end
def deaddropref7_Insert.f (k : Nat) (l0 : List ByteArray) (a1 : ByteArray) : Option (List ByteArray) := deaddropref7_Insert.l0 k l0 a1 0
theorem deaddropref7_Insert.mono_l : ∀ k, (∀ y0 y1 y2, LeO (deaddropref7_Insert.j1 k y0 y1 y2) (deaddropref7_Insert.j1 (k + 1) y0 y1 y2)) ∧ (∀ y0 y1 y2, LeO (deaddropref7_Insert.l0 k y0 y1 y2) (deaddropref7_Insert.l0 (k + 1) y0 y1 y2))
 | 0 => by refine ⟨?_, ?_⟩ <;> (intros; intro r h; simp [deaddropref7_Insert.j1, deaddropref7_Insert.l0] at h)
 | k + 1 => by
  obtain ⟨ih0, ih1⟩ := deaddropref7_Insert.mono_l k
  refine ⟨?_, ?_⟩ <;> intros <;> (first | unfold deaddropref7_Insert.j1 | unfold deaddropref7_Insert.l0) <;>
  repeat' first
  | with_reducible (first | exact ih0 _ _ _ | exact ih1 _ _ _ | exact LeO.refl _ | exact LeO.none _ | refine LeO.ite ?_ ?_ | refine LeO.bind ?_ (fun _ => ?_))
  | exact ih0 _ _ _ | exact ih1 _ _ _ | exact LeO.none _ | refine LeO.ite ?_ ?_ | refine LeO.bind ?_ (fun _ => ?_)
theorem deaddropref7_Insert.mono : ∀ a0 a1 k, LeO (deaddropref7_Insert.f k a0 a1) (deaddropref7_Insert.f (k + 1) a0 a1) := by
 intro a0 a1 k
 obtain ⟨ih0, ih1⟩ := deaddropref7_Insert.mono_l k
 unfold deaddropref7_Insert.f
 repeat' first
  | with_reducible (first | exact ih0 _ _ _ | exact ih1 _ _ _ | exact LeO.refl _ | exact LeO.none _ | refine LeO.ite ?_ ?_ | refine LeO.bind ?_ (fun _ => ?_))
  | exact ih0 _ _ _ | exact ih1 _ _ _ | exact LeO.none _ | refine LeO.ite ?_ ?_ | refine LeO.bind ?_ (fun _ => ?_)
set_option maxHeartbeats 8000000 in
set_option maxRecDepth 100000 in
theorem deaddropref7_Insert.calls (k : Nat) (P0_ : Nat → Prop) (u9000_ : Value) (l0 : List ByteArray) (a1 : ByteArray) (r : List ByteArray) (w0 w : World) (hB : Below w0.heap.size w0 w) (ho0 : Kd.R Kd.string 9 w w0.heap.size P0_ u9000_ l0) (h : deaddropref7_Insert.f k l0 a1 = some r) :
 Calls Try.prog 36 #[u9000_, .string a1] w fun e w' => ∃ v0_ : Value, e = .returned (v0_) ∧ Kd.R Kd.string 9 w' w0.heap.size (fun k_ => (P0_ k_ ∨ w.heap.size ≤ k_)) v0_ r ∧ Below w0.heap.size w0 w' ∧ Kept w w' (fun k_ => P0_ k_) := by
 have HO0 := Aside0.mk (show Kd.R Kd.string 9 w w0.heap.size (fun k_ => (P0_ k_ ∨ w.heap.size ≤ k_)) u9000_ l0 from Kd.R_mono ho0 (fun k_ hk => (.inl hk)))
 have HK := Aside0.mk (Kept.refl w (fun k_ => P0_ k_))
 have HW0 := Aside0.mk hB.size
 have HB := Aside0.mk hB
 clear hB
 have H : (deaddropref7_Insert.l0 k l0 a1 0) = some r := h
 clear h
 have HC3 := Aside0.mk H
 clear H
 go_enter Try.func36, Try.ntmps36
 go_upto_block 0 with (fail)
 go_cut [5] (fun v5 wc => ∃ (kq : Nat) (x5_2 : Int), v5 = .int .i64 x5_2 ∧ Aside0 (deaddropref7_Insert.j1 kq l0 a1 x5_2 = some r) ∧ Aside0 (kq ≤ k) ∧ Aside0 (Kd.R Kd.string 9 wc w0.heap.size (fun k_ => (P0_ k_ ∨ w.heap.size ≤ k_)) u9000_ l0) ∧ Aside0 (Kept w wc (fun k_ => P0_ k_)) ∧ Aside0 (Below w0.heap.size w0 wc))
 case first =>
  have H := HC3.out
  clear HC3
  have H' := Aside0.mk H
  clear H
  go_wp2
  go_loopg [5] k (fun kq v5 w' => ∃ (x5_1 : Int), v5 = .int .i64 x5_1 ∧ Aside0 (deaddropref7_Insert.l0 kq l0 a1 x5_1 = some r) ∧ Aside0 (kq ≤ k) ∧ Aside0 (Kd.R Kd.string 9 w' w0.heap.size (fun k_ => (P0_ k_ ∨ w.heap.size ≤ k_)) u9000_ l0) ∧ Aside0 (Kept w w' (fun k_ => P0_ k_)) ∧ Aside0 (Below w0.heap.size w0 w'))
  case atStart => exact ⟨(0), ok_, H', ⟨Nat.le_refl _⟩, ⟨rk HO0.out⟩, ⟨by repeat (first | (with_reducible first | exact HK.out | apply Kept.alloc | apply Kept.drewN | apply Kept.drew) | exact HK.out)⟩, ⟨bw HB.out⟩⟩
  case round =>
   clear H'
   obtain ⟨x5_1, rfl, HA, HK1, HO_0, HK, HB⟩ := hrel
   cases gk with
   | zero => exact absurd HA.out (by simp [deaddropref7_Insert.l0])
   | succ k1 =>
    have H := HA.out
    clear HA
    simp only [deaddropref7_Insert.l0] at H
    by_cases c4 : x5_1 < (l0.length : Int)
    ·
     rw [if_pos c4] at H
     have c4b0 : decide (x5_1 < (l0.length : Int)) = true := decide_eq_true c4
     clear c4
     (first | rw [c4b0] | (simp only [i64_w, i32_w]; rw [c4b0]) | skip)
     by_cases c5 : 0 ≤ x5_1
     rotate_left
     ·
      rw [if_neg c5] at H
      exact absurd H (by simp)
     rw [if_pos c5] at H
     have c5b0 : decide (0 ≤ x5_1) = true := decide_eq_true c5
     clear c5
     by_cases c6 : (Op.bytesLess ((rdOf ByteArray.empty l0 x5_1).toList) a1.toList) = true
     ·
      rw [if_pos c6] at H
      have c6b0 : (Op.bytesLess ((rdOf ByteArray.empty l0 x5_1).toList) a1.toList) = true := c6
      clear c6
      have H' := Aside0.mk H
      clear H
      obtain ⟨Ao7, co7, eo7⟩ := Kd.R_slice HO_0.out
      subst eo7
      have p506 : 0 ≤ (x5_1 : Int) := of_decide_eq_true as_
      have q506 : x5_1 < (l0.length : Int) := of_decide_eq_true as_
      obtain ⟨ad506, e506, hx506_0⟩ := Kd.at_string (Kd.R_reads' HO_0.out).2.2 x5_1 p506 q506
      cases e506
      replace p506 := eq_true p506
      replace q506 := eq_true q506
      go_wp2
      go_roundg k1
      case measure => have := HK1.out; omega
      case rel => exact ⟨(wrap64 (x5_1 + 1)), ok_, H', ⟨by have := HK1.out; omega⟩, ⟨rk HO_0.out⟩, ⟨by repeat (first | (with_reducible first | exact HK.out | apply Kept.alloc | apply Kept.drewN | apply Kept.drew) | exact HK.out)⟩, ⟨bw HB.out⟩⟩
     ·
      rw [if_neg c6] at H
      have c6b0 : (Op.bytesLess ((rdOf ByteArray.empty l0 x5_1).toList) a1.toList) = false := by simpa using c6
      clear c6
      have H' := Aside0.mk H
      clear H
      obtain ⟨Ao8, co8, eo8⟩ := Kd.R_slice HO_0.out
      subst eo8
      have p506 : 0 ≤ (x5_1 : Int) := of_decide_eq_true as_
      have q506 : x5_1 < (l0.length : Int) := of_decide_eq_true as_
      obtain ⟨ad506, e506, hx506_0⟩ := Kd.at_string (Kd.R_reads' HO_0.out).2.2 x5_1 p506 q506
      cases e506
      replace p506 := eq_true p506
      replace q506 := eq_true q506
      go_wp2
      go_meet
      case rel => exact ⟨_, (x5_1), ok_, H', ⟨by have := HK1.out; first | omega | exact Nat.le_refl _⟩, ⟨rk HO_0.out⟩, ⟨by repeat (first | (with_reducible first | exact HK.out | apply Kept.alloc | apply Kept.drewN | apply Kept.drew) | exact HK.out)⟩, ⟨bw HB.out⟩⟩
    ·
     rw [if_neg c4] at H
     have c4b0 : decide (x5_1 < (l0.length : Int)) = false := decide_eq_false c4
     clear c4
     (first | rw [c4b0] | (simp only [i64_w, i32_w]; rw [c4b0]) | skip)
     have H' := Aside0.mk H
     clear H
     obtain ⟨Ao9, co9, eo9⟩ := Kd.R_slice HO_0.out
     subst eo9
     go_wp2
     go_meet
     case rel => exact ⟨_, (x5_1), ok_, H', ⟨by have := HK1.out; first | omega | exact Nat.le_refl _⟩, ⟨rk HO_0.out⟩, ⟨by repeat (first | (with_reducible first | exact HK.out | apply Kept.alloc | apply Kept.drewN | apply Kept.drew) | exact HK.out)⟩, ⟨bw HB.out⟩⟩
 case rest =>
  clear HC3
  obtain ⟨kq, x5_2, rfl, HA, HJ2, HO_0, HK, HB⟩ := hcut
  cases kq with
  | zero => exact absurd HA.out (by simp [deaddropref7_Insert.j1])
  | succ kj2 =>
   have H := HA.out
   clear HA
   simp only [deaddropref7_Insert.j1] at H
   by_cases c10 : x5_2 < (l0.length : Int)
   ·
    rw [if_pos c10] at H
    have c10b0 : decide (x5_2 < (l0.length : Int)) = true := decide_eq_true c10
    clear c10
    by_cases c11 : 0 ≤ x5_2
    rotate_left
    ·
     rw [if_neg c11] at H
     exact absurd H (by simp)
    rw [if_pos c11] at H
    have c11b0 : decide (0 ≤ x5_2) = true := decide_eq_true c11
    clear c11
    by_cases c12 : (rdOf ByteArray.empty l0 x5_2).toList = a1.toList
    ·
     rw [if_pos c12] at H
     have c12b0 : ((rdOf ByteArray.empty l0 x5_2).toList == a1.toList) = true := beq_iff_eq.mpr c12
     have c12b1 : ((rdOf ByteArray.empty l0 x5_2).toList != a1.toList) = false := bne_eq_false_iff_eq.mpr c12
     clear c12
     obtain rfl := Option.some.inj H
     obtain ⟨Ao13, co13, eo13⟩ := Kd.R_slice HO_0.out
     subst eo13
     have p507 : 0 ≤ (x5_2 : Int) := of_decide_eq_true as_
     have q507 : x5_2 < (l0.length : Int) := of_decide_eq_true as_
     obtain ⟨ad507, e507, hx507_0⟩ := Kd.at_string (Kd.R_reads' HO_0.out).2.2 x5_2 p507 q507
     cases e507
     replace p507 := eq_true p507
     replace q507 := eq_true q507
     go_wp2
     go_ret
     exact ⟨_, by first | rfl | (simp [errW_none, errW_some] <;> rfl) | (simp [*, errW_none, errW_some] <;> rfl), rk HO_0.out, bw HB.out, by repeat (first | (with_reducible first | exact HK.out | apply Kept.alloc | apply Kept.drewN | apply Kept.drew) | exact HK.out)⟩
    ·
     rw [if_neg c12] at H
     have c12b0 : ((rdOf ByteArray.empty l0 x5_2).toList == a1.toList) = false := beq_eq_false_iff_ne.mpr c12
     have c12b1 : ((rdOf ByteArray.empty l0 x5_2).toList != a1.toList) = true := bne_iff_ne.mpr c12
     obtain ⟨y508, hy508⟩ : ∃ y_ : List ByteArray, y_ = (([] : List ByteArray)) := ⟨_, rfl⟩
     replace H : (if x5_2 ≤ (l0.length : Int) then ((some (l0.take (x5_2 : Int).toNat : List ByteArray)).bind fun y511 => (if y508.length + y511.length < 8796093022208 then ((some (y508 ++ y511 : List ByteArray)).bind fun y515 => (if y515.length < 8796093022208 then ((some (y515 ++ [a1] : List ByteArray)).bind fun y518 => ((some (l0.drop (x5_2 : Int).toNat : List ByteArray)).bind fun y521 => (if y518.length + y521.length < 8796093022208 then (some (y518 ++ y521)) else (none)))) else (none))) else (none))) else (none)) = some r := by first | (rw [hy508]; with_reducible exact H) | (have H2_ := (Option.bind_some _ _).symm.trans H; rw [hy508]; with_reducible exact H2_) | (have H2_ := (Option.bind_some _ _).symm.trans H; with_reducible exact H2_) | with_reducible exact H | (rw [hy508]; exact H) | exact H
     have Ny508 := Aside0.mk hy508
     clear hy508
     have c14b0 := eq_true (of_decide_eq_true as_ : 0 ≤ x5_2)
     by_cases c15 : x5_2 ≤ (l0.length : Int)
     rotate_left
     ·
      rw [if_neg c15] at H
      exact absurd H (by simp)
     rw [if_pos c15] at H
     have c15b0 := eq_true c15
     have c15b1 : decide (x5_2 ≤ (l0.length : Int)) = true := decide_eq_true c15
     clear c15
     obtain ⟨y511, hy511⟩ : ∃ y_ : List ByteArray, y_ = (l0.take (x5_2 : Int).toNat) := ⟨_, rfl⟩
     replace H : (if y508.length + y511.length < 8796093022208 then ((some (y508 ++ y511 : List ByteArray)).bind fun y515 => (if y515.length < 8796093022208 then ((some (y515 ++ [a1] : List ByteArray)).bind fun y518 => ((some (l0.drop (x5_2 : Int).toNat : List ByteArray)).bind fun y521 => (if y518.length + y521.length < 8796093022208 then (some (y518 ++ y521)) else (none)))) else (none))) else (none)) = some r := by first | (rw [hy511]; with_reducible exact H) | (have H2_ := (Option.bind_some _ _).symm.trans H; rw [hy511]; with_reducible exact H2_) | (have H2_ := (Option.bind_some _ _).symm.trans H; with_reducible exact H2_) | with_reducible exact H | (rw [hy511]; exact H) | exact H
     have Ny511 := Aside0.mk hy511
     clear hy511
     by_cases c16 : y508.length + y511.length < 8796093022208
     rotate_left
     ·
      rw [if_neg c16] at H
      exact absurd H (by simp)
     rw [if_pos c16] at H
     have LMc16 := Aside0.mk c16
     clear c16
     obtain ⟨y515, hy515⟩ : ∃ y_ : List ByteArray, y_ = (y508 ++ y511) := ⟨_, rfl⟩
     replace H : (if y515.length < 8796093022208 then ((some (y515 ++ [a1] : List ByteArray)).bind fun y518 => ((some (l0.drop (x5_2 : Int).toNat : List ByteArray)).bind fun y521 => (if y518.length + y521.length < 8796093022208 then (some (y518 ++ y521)) else (none)))) else (none)) = some r := by first | (rw [hy515]; with_reducible exact H) | (have H2_ := (Option.bind_some _ _).symm.trans H; rw [hy515]; with_reducible exact H2_) | (have H2_ := (Option.bind_some _ _).symm.trans H; with_reducible exact H2_) | with_reducible exact H | (rw [hy515]; exact H) | exact H
     have Ny515 := Aside0.mk hy515
     clear hy515
     by_cases c17 : y515.length < 8796093022208
     rotate_left
     ·
      rw [if_neg c17] at H
      exact absurd H (by simp)
     rw [if_pos c17] at H
     have LMc17 := Aside0.mk c17
     clear c17
     obtain ⟨y518, hy518⟩ : ∃ y_ : List ByteArray, y_ = (y515 ++ [a1]) := ⟨_, rfl⟩
     replace H : ((some (l0.drop (x5_2 : Int).toNat : List ByteArray)).bind fun y521 => (if y518.length + y521.length < 8796093022208 then (some (y518 ++ y521)) else (none))) = some r := by first | (rw [hy518]; with_reducible exact H) | (have H2_ := (Option.bind_some _ _).symm.trans H; rw [hy518]; with_reducible exact H2_) | (have H2_ := (Option.bind_some _ _).symm.trans H; with_reducible exact H2_) | with_reducible exact H | (rw [hy518]; exact H) | exact H
     have Ny518 := Aside0.mk hy518
     clear hy518
     have c18b0 := eq_true (of_decide_eq_true as_ : 0 ≤ x5_2)
     have c19b0 := eq_true (of_decide_eq_true as_ : x5_2 ≤ (l0.length : Int))
     obtain ⟨y521, hy521⟩ : ∃ y_ : List ByteArray, y_ = (l0.drop (x5_2 : Int).toNat) := ⟨_, rfl⟩
     replace H : (if y518.length + y521.length < 8796093022208 then (some (y518 ++ y521)) else (none)) = some r := by first | (rw [hy521]; with_reducible exact H) | (have H2_ := (Option.bind_some _ _).symm.trans H; rw [hy521]; with_reducible exact H2_) | (have H2_ := (Option.bind_some _ _).symm.trans H; with_reducible exact H2_) | with_reducible exact H | (rw [hy521]; exact H) | exact H
     have Ny521 := Aside0.mk hy521
     clear hy521
     by_cases c20 : y518.length + y521.length < 8796093022208
     rotate_left
     ·
      rw [if_neg c20] at H
      exact absurd H (by simp)
     rw [if_pos c20] at H
     have LMc20 := Aside0.mk c20
     clear c20
     obtain ⟨y525, hy525⟩ : ∃ y_ : List ByteArray, y_ = (y518 ++ y521) := ⟨_, rfl⟩
     replace H : (some y525) = some r := by first | (rw [hy525]; with_reducible exact H) | (have H2_ := (Option.bind_some _ _).symm.trans H; rw [hy525]; with_reducible exact H2_) | (have H2_ := (Option.bind_some _ _).symm.trans H; with_reducible exact H2_) | with_reducible exact H | (rw [hy525]; exact H) | exact H
     have Ny525 := Aside0.mk hy525
     clear hy525
     obtain rfl := Option.some.inj H
     obtain ⟨Ao21, co21, eo21⟩ := Kd.R_slice HO_0.out
     subst eo21
     have p507 : 0 ≤ (x5_2 : Int) := of_decide_eq_true as_
     have q507 : x5_2 < (l0.length : Int) := of_decide_eq_true as_
     obtain ⟨ad507, e507, hx507_0⟩ := Kd.at_string (Kd.R_reads' HO_0.out).2.2 x5_2 p507 q507
     cases e507
     replace p507 := eq_true p507
     replace q507 := eq_true q507
     go_wp2_with (first | ((with_reducible refine gate_dst (N := 34) rfl ?_); refine Kd.R_lit Kd.string _ 9 ?hg (N := 34) ?hd (xs := ([] : List ByteArray)) (inner := []) (ok := fun _ => True) (okp := fun _ => True) ?hr ?hp (fun _ hk => hk) trivial (Below.refl _ _) (Nat.le_refl _) (by simp) ?_; (case hd => rfl); (case hg => rfl); (case hr => first | (go_simp; done) | (go_simp; rfl)); (case hp => exact (Reps.none _ _)); intro v509 w22 ho23 hb hg_ hnew_; clear hg_ hnew_; (first | rw [← Ny508.out] at ho23 | (simp only [Int.reduceToNat] at ho23; rw [← Ny508.out] at ho23)); have HO510 := Aside0.mk (Kd.R_lower (Kd.R_new' (Kd.R_newM (M := fun k_ => (P0_ k_ ∨ w.heap.size ≤ k_)) ho23 (by first | exact HK.out.1 | exact (show Kept w _ (fun k_ => P0_ k_) from by repeat (first | (with_reducible first | exact HK.out | apply Kept.alloc | apply Kept.drewN | apply Kept.drew) | exact HK.out)).1) (fun k_ h_ => .inr h_)) (Kd.R_lt (rk HO_0.out))) (below_size (bw HB.out))); replace HO_0 := Aside0.mk (Kd.R_elder' (rk HO_0.out) (Kd.R_base ho23) hb); replace HK := Aside0.mk (Kept.below (S := (fun k_ => P0_ k_)) (by repeat (first | (with_reducible first | exact HK.out | apply Kept.alloc | apply Kept.drewN | apply Kept.drew) | exact HK.out)) hb); replace HB := Aside0.mk (below_step (bw HB.out) hb); clear hb ho23; have q24 : (x5_2 : Int) ≤ ((l0.length : Int) : Int) := of_decide_eq_true as_; obtain ⟨i024, hi024, _, hsz24, _⟩ := info_parts info9; have hroom24 : l0.length ≤ co21 := (Kd.R_reads' HO_0.out).2.1; have hC24 : Kd.C Kd.string _ (some ad507) l0.length l0 := (Kd.R_reads' HO_0.out).2.2; have hcut24 := cut_to (P := Try.prog) 45 9 .i64 Try.underlying45 hi024 (some ad507) l0.length co21 x5_2 (of_decide_eq_true as_) q24 hroom24; have hr24 := Kd.C_take (m := (x5_2 : Int).toNat) hC24 (by omega); have hy24 : y511.length = (x5_2 : Int).toNat := (by rw [Ny511.out, List.length_take]; omega); rw [← Ny511.out] at hr24; rw [← hy24] at hcut24; have HR514 := Aside0.mk hr24; have HC514 := Aside0.mk (show y511.length ≤ co21 from by omega); clear hr24 hC24 hroom24 hi024 hsz24; have KY24 := Aside0.mk hy24; clear hy24; have KL24 := Aside0.mk (show (x5_2 : Int).toNat ≤ l0.length from by omega); replace q24 := eq_true q24) | ((with_reducible refine gate_builtin (b := .append) (xs := #[.tmp 34, .tmp 37]) rfl ?_); at_builtin; refine Kd.R_append_rows Kd.string (w0 := w0) w0.heap.size rfl (.tmp 34) (.tmp 37) 45 9 (.string ⟨#[]⟩) 16 rfl Try.underlying45 info9 rfl (by decide) (by omega) v509 y508 y511 _ _ _ (fun k_ => (P0_ k_ ∨ w.heap.size ≤ k_) ∧ some k_ ≠ (.slice (some ad507) l0.length co21 : Value).ownBlock) (fun _ => False) rfl rfl ?aO ?aR (fun _ _ h => h) (fun _ h => h.elim) ?aF ?aB ?aS ?aL ?_; (case aR => repeat (first | exact (ck HR514.out) | (with_reducible refine Kd.C_alloc ?_ _) | (with_reducible refine Kd.C_drewN ?_ _) | (with_reducible refine Kd.C_drew ?_))); (case aB => exact (bw HB.out)); (case aF => exact (fun k_ hk => ⟨(.inr (Nat.le_trans (by first | exact HK.out.1 | exact (show Kept w _ (fun k_ => P0_ k_) from by repeat (first | (with_reducible first | exact HK.out | apply Kept.alloc | apply Kept.drewN | apply Kept.drew) | exact HK.out)).1) hk)), Kd.fresh' (Kd.R_lt (rk HO_0.out)) k_ hk⟩)); (case aO => exact (by (with_reducible repeat (first | apply Kd.R_alloc | apply Kd.R_drewN | apply Kd.R_drew)); exact Kd.R_mono HO510.out (fun _ hk => ⟨hk.1.1, hk.2⟩))); (case aS => exact (below_size (bw HB.out))); (case aL => have := LMc16.out; omega); intro v516 w25 ho hb hg hat; rw [← Ny515.out] at ho; replace HB := Aside0.mk (hb); replace HK := Aside0.mk (Kept.of_grown (S := (fun k_ => P0_ k_)) hg (by repeat (first | (with_reducible first | exact HK.out | apply Kept.alloc | apply Kept.drewN | apply Kept.drew) | exact HK.out)) (fun k_ e_ => (HO510.out.1 k_ e_).1.1)); replace HR514 := Aside0.mk ((show Kd.C Kd.string w25 (some ad507) y511.length y511 from by rw [Ny511.out]; exact Kd.C_take (m := (x5_2 : Int).toNat) ((Kd.R_reads' (Kd.R_after (ok := (fun k_ => (P0_ k_ ∨ w.heap.size ≤ k_))) (rk HO_0.out) hg hat)).2.2) KL24.out)); replace HO_0 := Aside0.mk (Kd.R_after (ok := (fun k_ => (P0_ k_ ∨ w.heap.size ≤ k_))) (rk HO_0.out) hg hat); have HO517 := Aside0.mk (ho); clear HO510; clear ho hb hg hat) | ((with_reducible refine gate_builtin (b := .append) (xs := #[.tmp 39, .tmp 41]) rfl ?_); at_builtin; refine Kd.R_append Kd.string (w0 := w0) w0.heap.size rfl (.tmp 39) (.tmp 41) 45 9 (.string ⟨#[]⟩) 16 rfl Try.underlying45 info9 rfl (by decide) (by omega) v516 y515 a1 [.string a1] (fun k_ => (P0_ k_ ∨ w.heap.size ≤ k_) ∧ some k_ ≠ (.slice (some ad507) l0.length co21 : Value).ownBlock) (fun _ => False) rfl rfl ?aP (fun _ hk => hk.elim) ?aF ?aO ?aB ?aS ?aL ?_; (case aP => exact rfl); (case aB => exact (bw HB.out)); (case aF => exact (fun k_ hk => ⟨(.inr (Nat.le_trans (by first | exact HK.out.1 | exact (show Kept w _ (fun k_ => P0_ k_) from by repeat (first | (with_reducible first | exact HK.out | apply Kept.alloc | apply Kept.drewN | apply Kept.drew) | exact HK.out)).1) hk)), Kd.fresh' (Kd.R_lt (rk HO_0.out)) k_ hk⟩)); (case aO => exact (rk HO517.out)); (case aS => exact (below_size (bw HB.out))); (case aL => have := LMc17.out; omega); intro v519 w26 ho hb hg hat; rw [← Ny518.out] at ho; replace HB := Aside0.mk (hb); replace HK := Aside0.mk (Kept.of_grown (S := (fun k_ => P0_ k_)) hg (by repeat (first | (with_reducible first | exact HK.out | apply Kept.alloc | apply Kept.drewN | apply Kept.drew) | exact HK.out)) (fun k_ e_ => (HO517.out.1 k_ e_).1)); replace HR514 := Aside0.mk ((show Kd.C Kd.string w26 (some ad507) y511.length y511 from by rw [Ny511.out]; exact Kd.C_take (m := (x5_2 : Int).toNat) ((Kd.R_reads' (Kd.R_after (ok := (fun k_ => (P0_ k_ ∨ w.heap.size ≤ k_))) (rk HO_0.out) hg hat)).2.2) KL24.out)); replace HO_0 := Aside0.mk (Kd.R_after (ok := (fun k_ => (P0_ k_ ∨ w.heap.size ≤ k_))) (rk HO_0.out) hg hat); have HO520 := Aside0.mk (ho); clear HO517; clear ho hb hg hat; have q27 : (x5_2 : Int) ≤ ((l0.length : Int) : Int) := of_decide_eq_true as_; obtain ⟨i027, hi027, _, hsz27, _⟩ := info_parts info9; have hroom27 : l0.length ≤ co21 := (Kd.R_reads' HO_0.out).2.1; have hC27 : Kd.C Kd.string _ (some ad507) l0.length l0 := (Kd.R_reads' HO_0.out).2.2; have q027 : (0 : Int) ≤ (x5_2 : Int) := of_decide_eq_true as_; have hcut27 := cut_from (P := Try.prog) 45 9 .i64 Try.underlying45 hi027 1 hsz27 (some ad507) l0.length co21 x5_2 q027 q27; have hr27 := Kd.C_drop (m := (x5_2 : Int).toNat) (c := co21) hC27 (by omega) hroom27; obtain ⟨A27, hA27⟩ : ∃ A1, A1 = (if co21 = (x5_2 : Int).toNat then (some ad507) else ((some ad507) : Option Addr).map (·.add ((x5_2 : Int).toNat * 1))) := ⟨_, rfl⟩; obtain ⟨c27, hc27⟩ : ∃ c1, c1 = co21 - (x5_2 : Int).toNat := ⟨_, rfl⟩; have hy27 : y521.length = l0.length - (x5_2 : Int).toNat := (by rw [Ny521.out, List.length_drop] <;> omega); rw [show (l0).drop (x5_2 : Int).toNat = y521 from Ny521.out.symm] at hr27; replace hr27 : Kd.C Kd.string _ A27 y521.length y521 := (by rw [hA27]; exact hr27); rw [← hy27, ← hA27, ← hc27] at hcut27; have HR524 := Aside0.mk hr27; have HC524 := Aside0.mk (show y521.length ≤ c27 from by rw [hy27, hc27]; exact Nat.sub_le_sub_right hroom27 _); clear hr27 hC27 hroom27 hi027 hsz27 hc27; have KY27 := Aside0.mk hy27; have KA27 := Aside0.mk hA27; clear hy27 hA27; have KL27 := Aside0.mk (show (x5_2 : Int).toNat ≤ l0.length from by omega); replace q27 := eq_true q27) | ((with_reducible refine gate_builtin (b := .append) (xs := #[.tmp 43, .tmp 46]) rfl ?_); at_builtin; refine Kd.R_append_rows Kd.string (w0 := w0) w0.heap.size rfl (.tmp 43) (.tmp 46) 45 9 (.string ⟨#[]⟩) 16 rfl Try.underlying45 info9 rfl (by decide) (by omega) v519 y518 y521 _ _ _ (fun k_ => (P0_ k_ ∨ w.heap.size ≤ k_) ∧ some k_ ≠ (.slice (some ad507) l0.length co21 : Value).ownBlock) (fun _ => False) rfl rfl ?aO ?aR (fun _ _ h => h) (fun _ h => h.elim) ?aF ?aB ?aS ?aL ?_; (case aR => repeat (first | exact (ck HR524.out) | (with_reducible refine Kd.C_alloc ?_ _) | (with_reducible refine Kd.C_drewN ?_ _) | (with_reducible refine Kd.C_drew ?_))); (case aB => exact (bw HB.out)); (case aF => exact (fun k_ hk => ⟨(.inr (Nat.le_trans (by first | exact HK.out.1 | exact (show Kept w _ (fun k_ => P0_ k_) from by repeat (first | (with_reducible first | exact HK.out | apply Kept.alloc | apply Kept.drewN | apply Kept.drew) | exact HK.out)).1) hk)), Kd.fresh' (Kd.R_lt (rk HO_0.out)) k_ hk⟩)); (case aO => exact (rk HO520.out)); (case aS => exact (below_size (bw HB.out))); (case aL => have := LMc20.out; omega); intro v526 w28 ho hb hg hat; rw [← Ny525.out] at ho; replace HB := Aside0.mk (hb); replace HK := Aside0.mk (Kept.of_grown (S := (fun k_ => P0_ k_)) hg (by repeat (first | (with_reducible first | exact HK.out | apply Kept.alloc | apply Kept.drewN | apply Kept.drew) | exact HK.out)) (fun k_ e_ => (HO520.out.1 k_ e_).1)); replace HR514 := Aside0.mk ((show Kd.C Kd.string w28 (some ad507) y511.length y511 from by rw [Ny511.out]; exact Kd.C_take (m := (x5_2 : Int).toNat) ((Kd.R_reads' (Kd.R_after (ok := (fun k_ => (P0_ k_ ∨ w.heap.size ≤ k_))) (rk HO_0.out) hg hat)).2.2) KL24.out)); replace HR524 := Aside0.mk ((show Kd.C Kd.string w28 A27 y521.length y521 from by rw [Ny521.out, KA27.out]; exact Kd.C_drop (m := (x5_2 : Int).toNat) (c := co21) ((Kd.R_reads' (Kd.R_after (ok := (fun k_ => (P0_ k_ ∨ w.heap.size ≤ k_))) (rk HO_0.out) hg hat)).2.2) KL27.out ((Kd.R_reads' (Kd.R_after (ok := (fun k_ => (P0_ k_ ∨ w.heap.size ≤ k_))) (rk HO_0.out) hg hat)).2.1))); replace HO_0 := Aside0.mk (Kd.R_after (ok := (fun k_ => (P0_ k_ ∨ w.heap.size ≤ k_))) (rk HO_0.out) hg hat); have HO527 := Aside0.mk (ho); clear HO520; clear ho hb hg hat))
     go_ret
     exact ⟨_, by first | rfl | (simp [errW_none, errW_some] <;> rfl) | (simp [*, errW_none, errW_some] <;> rfl), by (with_reducible repeat (first | apply Kd.R_alloc | apply Kd.R_drewN | apply Kd.R_drew)); exact Kd.R_mono HO527.out (fun _ hk => hk.1), bw HB.out, by repeat (first | (with_reducible first | exact HK.out | apply Kept.alloc | apply Kept.drewN | apply Kept.drew) | exact HK.out)⟩
   ·
    rw [if_neg c10] at H
    have c10b0 : decide (x5_2 < (l0.length : Int)) = false := decide_eq_false c10
    clear c10
    obtain ⟨y528, hy528⟩ : ∃ y_ : List ByteArray, y_ = (([] : List ByteArray)) := ⟨_, rfl⟩
    replace H : (if 0 ≤ x5_2 then (if x5_2 ≤ (l0.length : Int) then ((some (l0.take (x5_2 : Int).toNat : List ByteArray)).bind fun y531 => (if y528.length + y531.length < 8796093022208 then ((some (y528 ++ y531 : List ByteArray)).bind fun y535 => (if y535.length < 8796093022208 then ((some (y535 ++ [a1] : List ByteArray)).bind fun y538 => ((some (l0.drop (x5_2 : Int).toNat : List ByteArray)).bind fun y541 => (if y538.length + y541.length < 8796093022208 then (some (y538 ++ y541)) else (none)))) else (none))) else (none))) else (none)) else (none)) = some r := by first | (rw [hy528]; with_reducible exact H) | (have H2_ := (Option.bind_some _ _).symm.trans H; rw [hy528]; with_reducible exact H2_) | (have H2_ := (Option.bind_some _ _).symm.trans H; with_reducible exact H2_) | with_reducible exact H | (rw [hy528]; exact H) | exact H
    have Ny528 := Aside0.mk hy528
    clear hy528
    by_cases c29 : 0 ≤ x5_2
    rotate_left
    ·
     rw [if_neg c29] at H
     exact absurd H (by simp)

    rw [if_pos c29] at H
    have c29b0 := eq_true c29
    have c29b1 : decide (0 ≤ x5_2) = true := decide_eq_true c29
    clear c29
    by_cases c30 : x5_2 ≤ (l0.length : Int)
    rotate_left
    ·
     rw [if_neg c30] at H
     exact absurd H (by simp)
    rw [if_pos c30] at H
    have c30b0 := eq_true c30
    have c30b1 : decide (x5_2 ≤ (l0.length : Int)) = true := decide_eq_true c30
    clear c30
    obtain ⟨y531, hy531⟩ : ∃ y_ : List ByteArray, y_ = (l0.take (x5_2 : Int).toNat) := ⟨_, rfl⟩
    replace H : (if y528.length + y531.length < 8796093022208 then ((some (y528 ++ y531 : List ByteArray)).bind fun y535 => (if y535.length < 8796093022208 then ((some (y535 ++ [a1] : List ByteArray)).bind fun y538 => ((some (l0.drop (x5_2 : Int).toNat : List ByteArray)).bind fun y541 => (if y538.length + y541.length < 8796093022208 then (some (y538 ++ y541)) else (none)))) else (none))) else (none)) = some r := by first | (rw [hy531]; with_reducible exact H) | (have H2_ := (Option.bind_some _ _).symm.trans H; rw [hy531]; with_reducible exact H2_) | (have H2_ := (Option.bind_some _ _).symm.trans H; with_reducible exact H2_) | with_reducible exact H | (rw [hy531]; exact H) | exact H
    have Ny531 := Aside0.mk hy531
    clear hy531
    by_cases c31 : y528.length + y531.length < 8796093022208
    rotate_left
    ·
     rw [if_neg c31] at H
     exact absurd H (by simp)
    rw [if_pos c31] at H
    have LMc31 := Aside0.mk c31
    clear c31
    obtain ⟨y535, hy535⟩ : ∃ y_ : List ByteArray, y_ = (y528 ++ y531) := ⟨_, rfl⟩
    replace H : (if y535.length < 8796093022208 then ((some (y535 ++ [a1] : List ByteArray)).bind fun y538 => ((some (l0.drop (x5_2 : Int).toNat : List ByteArray)).bind fun y541 => (if y538.length + y541.length < 8796093022208 then (some (y538 ++ y541)) else (none)))) else (none)) = some r := by first | (rw [hy535]; with_reducible exact H) | (have H2_ := (Option.bind_some _ _).symm.trans H; rw [hy535]; with_reducible exact H2_) | (have H2_ := (Option.bind_some _ _).symm.trans H; with_reducible exact H2_) | with_reducible exact H | (rw [hy535]; exact H) | exact H
    have Ny535 := Aside0.mk hy535
    clear hy535
    by_cases c32 : y535.length < 8796093022208
    rotate_left
    ·
     rw [if_neg c32] at H
     exact absurd H (by simp)
    rw [if_pos c32] at H
    have LMc32 := Aside0.mk c32
    clear c32
    obtain ⟨y538, hy538⟩ : ∃ y_ : List ByteArray, y_ = (y535 ++ [a1]) := ⟨_, rfl⟩
    replace H : ((some (l0.drop (x5_2 : Int).toNat : List ByteArray)).bind fun y541 => (if y538.length + y541.length < 8796093022208 then (some (y538 ++ y541)) else (none))) = some r := by first | (rw [hy538]; with_reducible exact H) | (have H2_ := (Option.bind_some _ _).symm.trans H; rw [hy538]; with_reducible exact H2_) | (have H2_ := (Option.bind_some _ _).symm.trans H; with_reducible exact H2_) | with_reducible exact H | (rw [hy538]; exact H) | exact H
    have Ny538 := Aside0.mk hy538
    clear hy538
    have c33b0 := eq_true (of_decide_eq_true as_ : 0 ≤ x5_2)
    have c34b0 := eq_true (of_decide_eq_true as_ : x5_2 ≤ (l0.length : Int))
    obtain ⟨y541, hy541⟩ : ∃ y_ : List ByteArray, y_ = (l0.drop (x5_2 : Int).toNat) := ⟨_, rfl⟩
    replace H : (if y538.length + y541.length < 8796093022208 then (some (y538 ++ y541)) else (none)) = some r := by first | (rw [hy541]; with_reducible exact H) | (have H2_ := (Option.bind_some _ _).symm.trans H; rw [hy541]; with_reducible exact H2_) | (have H2_ := (Option.bind_some _ _).symm.trans H; with_reducible exact H2_) | with_reducible exact H | (rw [hy541]; exact H) | exact H
    have Ny541 := Aside0.mk hy541
    clear hy541
    by_cases c35 : y538.length + y541.length < 8796093022208
    rotate_left
    ·
     rw [if_neg c35] at H
     exact absurd H (by simp)
    rw [if_pos c35] at H
    have LMc35 := Aside0.mk c35
    clear c35
    obtain ⟨y545, hy545⟩ : ∃ y_ : List ByteArray, y_ = (y538 ++ y541) := ⟨_, rfl⟩
    replace H : (some y545) = some r := by first | (rw [hy545]; with_reducible exact H) | (have H2_ := (Option.bind_some _ _).symm.trans H; rw [hy545]; with_reducible exact H2_) | (have H2_ := (Option.bind_some _ _).symm.trans H; with_reducible exact H2_) | with_reducible exact H | (rw [hy545]; exact H) | exact H
    have Ny545 := Aside0.mk hy545
    clear hy545
    obtain rfl := Option.some.inj H
    obtain ⟨Ao36, co36, eo36⟩ := Kd.R_slice HO_0.out
    subst eo36
    go_wp2_with (first | ((with_reducible refine gate_dst (N := 34) rfl ?_); refine Kd.R_lit Kd.string _ 9 ?hg (N := 34) ?hd (xs := ([] : List ByteArray)) (inner := []) (ok := fun _ => True) (okp := fun _ => True) ?hr ?hp (fun _ hk => hk) trivial (Below.refl _ _) (Nat.le_refl _) (by simp) ?_; (case hd => rfl); (case hg => rfl); (case hr => first | (go_simp; done) | (go_simp; rfl)); (case hp => exact (Reps.none _ _)); intro v529 w37 ho38 hb hg_ hnew_; clear hg_ hnew_; (first | rw [← Ny528.out] at ho38 | (simp only [Int.reduceToNat] at ho38; rw [← Ny528.out] at ho38)); have HO530 := Aside0.mk (Kd.R_lower (Kd.R_new' (Kd.R_newM (M := fun k_ => (P0_ k_ ∨ w.heap.size ≤ k_)) ho38 (by first | exact HK.out.1 | exact (show Kept w _ (fun k_ => P0_ k_) from by repeat (first | (with_reducible first | exact HK.out | apply Kept.alloc | apply Kept.drewN | apply Kept.drew) | exact HK.out)).1) (fun k_ h_ => .inr h_)) (Kd.R_lt (rk HO_0.out))) (below_size (bw HB.out))); replace HO_0 := Aside0.mk (Kd.R_elder' (rk HO_0.out) (Kd.R_base ho38) hb); replace HK := Aside0.mk (Kept.below (S := (fun k_ => P0_ k_)) (by repeat (first | (with_reducible first | exact HK.out | apply Kept.alloc | apply Kept.drewN | apply Kept.drew) | exact HK.out)) hb); replace HB := Aside0.mk (below_step (bw HB.out) hb); clear hb ho38; have q39 : (x5_2 : Int) ≤ ((l0.length : Int) : Int) := of_decide_eq_true as_; obtain ⟨i039, hi039, _, hsz39, _⟩ := info_parts info9; have hroom39 : l0.length ≤ co36 := (Kd.R_reads' HO_0.out).2.1; have hC39 : Kd.C Kd.string _ Ao36 l0.length l0 := (Kd.R_reads' HO_0.out).2.2; have hcut39 := cut_to (P := Try.prog) 45 9 .i64 Try.underlying45 hi039 Ao36 l0.length co36 x5_2 (of_decide_eq_true as_) q39 hroom39; have hr39 := Kd.C_take (m := (x5_2 : Int).toNat) hC39 (by omega); have hy39 : y531.length = (x5_2 : Int).toNat := (by rw [Ny531.out, List.length_take]; omega); rw [← Ny531.out] at hr39; rw [← hy39] at hcut39; have HR534 := Aside0.mk hr39; have HC534 := Aside0.mk (show y531.length ≤ co36 from by omega); clear hr39 hC39 hroom39 hi039 hsz39; have KY39 := Aside0.mk hy39; clear hy39; have KL39 := Aside0.mk (show (x5_2 : Int).toNat ≤ l0.length from by omega); replace q39 := eq_true q39) | ((with_reducible refine gate_builtin (b := .append) (xs := #[.tmp 34, .tmp 37]) rfl ?_); at_builtin; refine Kd.R_append_rows Kd.string (w0 := w0) w0.heap.size rfl (.tmp 34) (.tmp 37) 45 9 (.string ⟨#[]⟩) 16 rfl Try.underlying45 info9 rfl (by decide) (by omega) v529 y528 y531 _ _ _ (fun k_ => (P0_ k_ ∨ w.heap.size ≤ k_) ∧ some k_ ≠ (.slice Ao36 l0.length co36 : Value).ownBlock) (fun _ => False) rfl rfl ?aO ?aR (fun _ _ h => h) (fun _ h => h.elim) ?aF ?aB ?aS ?aL ?_; (case aR => repeat (first | exact (ck HR534.out) | (with_reducible refine Kd.C_alloc ?_ _) | (with_reducible refine Kd.C_drewN ?_ _) | (with_reducible refine Kd.C_drew ?_))); (case aB => exact (bw HB.out)); (case aF => exact (fun k_ hk => ⟨(.inr (Nat.le_trans (by first | exact HK.out.1 | exact (show Kept w _ (fun k_ => P0_ k_) from by repeat (first | (with_reducible first | exact HK.out | apply Kept.alloc | apply Kept.drewN | apply Kept.drew) | exact HK.out)).1) hk)), Kd.fresh' (Kd.R_lt (rk HO_0.out)) k_ hk⟩)); (case aO => exact (by (with_reducible repeat (first | apply Kd.R_alloc | apply Kd.R_drewN | apply Kd.R_drew)); exact Kd.R_mono HO530.out (fun _ hk => ⟨hk.1.1, hk.2⟩))); (case aS => exact (below_size (bw HB.out))); (case aL => have := LMc31.out; omega); intro v536 w40 ho hb hg hat; rw [← Ny535.out] at ho; replace HB := Aside0.mk (hb); replace HK := Aside0.mk (Kept.of_grown (S := (fun k_ => P0_ k_)) hg (by repeat (first | (with_reducible first | exact HK.out | apply Kept.alloc | apply Kept.drewN | apply Kept.drew) | exact HK.out)) (fun k_ e_ => (HO530.out.1 k_ e_).1.1)); replace HR534 := Aside0.mk ((show Kd.C Kd.string w40 Ao36 y531.length y531 from by rw [Ny531.out]; exact Kd.C_take (m := (x5_2 : Int).toNat) ((Kd.R_reads' (Kd.R_after (ok := (fun k_ => (P0_ k_ ∨ w.heap.size ≤ k_))) (rk HO_0.out) hg hat)).2.2) KL39.out)); replace HO_0 := Aside0.mk (Kd.R_after (ok := (fun k_ => (P0_ k_ ∨ w.heap.size ≤ k_))) (rk HO_0.out) hg hat); have HO537 := Aside0.mk (ho); clear HO530; clear ho hb hg hat) | ((with_reducible refine gate_builtin (b := .append) (xs := #[.tmp 39, .tmp 41]) rfl ?_); at_builtin; refine Kd.R_append Kd.string (w0 := w0) w0.heap.size rfl (.tmp 39) (.tmp 41) 45 9 (.string ⟨#[]⟩) 16 rfl Try.underlying45 info9 rfl (by decide) (by omega) v536 y535 a1 [.string a1] (fun k_ => (P0_ k_ ∨ w.heap.size ≤ k_) ∧ some k_ ≠ (.slice Ao36 l0.length co36 : Value).ownBlock) (fun _ => False) rfl rfl ?aP (fun _ hk => hk.elim) ?aF ?aO ?aB ?aS ?aL ?_; (case aP => exact rfl); (case aB => exact (bw HB.out)); (case aF => exact (fun k_ hk => ⟨(.inr (Nat.le_trans (by first | exact HK.out.1 | exact (show Kept w _ (fun k_ => P0_ k_) from by repeat (first | (with_reducible first | exact HK.out | apply Kept.alloc | apply Kept.drewN | apply Kept.drew) | exact HK.out)).1) hk)), Kd.fresh' (Kd.R_lt (rk HO_0.out)) k_ hk⟩)); (case aO => exact (rk HO537.out)); (case aS => exact (below_size (bw HB.out))); (case aL => have := LMc32.out; omega); intro v539 w41 ho hb hg hat; rw [← Ny538.out] at ho; replace HB := Aside0.mk (hb); replace HK := Aside0.mk (Kept.of_grown (S := (fun k_ => P0_ k_)) hg (by repeat (first | (with_reducible first | exact HK.out | apply Kept.alloc | apply Kept.drewN | apply Kept.drew) | exact HK.out)) (fun k_ e_ => (HO537.out.1 k_ e_).1)); replace HR534 := Aside0.mk ((show Kd.C Kd.string w41 Ao36 y531.length y531 from by rw [Ny531.out]; exact Kd.C_take (m := (x5_2 : Int).toNat) ((Kd.R_reads' (Kd.R_after (ok := (fun k_ => (P0_ k_ ∨ w.heap.size ≤ k_))) (rk HO_0.out) hg hat)).2.2) KL39.out)); replace HO_0 := Aside0.mk (Kd.R_after (ok := (fun k_ => (P0_ k_ ∨ w.heap.size ≤ k_))) (rk HO_0.out) hg hat); have HO540 := Aside0.mk (ho); clear HO537; clear ho hb hg hat; have q42 : (x5_2 : Int) ≤ ((l0.length : Int) : Int) := of_decide_eq_true as_; obtain ⟨i042, hi042, _, hsz42, _⟩ := info_parts info9; have hroom42 : l0.length ≤ co36 := (Kd.R_reads' HO_0.out).2.1; have hC42 : Kd.C Kd.string _ Ao36 l0.length l0 := (Kd.R_reads' HO_0.out).2.2; have q042 : (0 : Int) ≤ (x5_2 : Int) := of_decide_eq_true as_; have hcut42 := cut_from (P := Try.prog) 45 9 .i64 Try.underlying45 hi042 1 hsz42 Ao36 l0.length co36 x5_2 q042 q42; have hr42 := Kd.C_drop (m := (x5_2 : Int).toNat) (c := co36) hC42 (by omega) hroom42; obtain ⟨A42, hA42⟩ : ∃ A1, A1 = (if co36 = (x5_2 : Int).toNat then Ao36 else (Ao36 : Option Addr).map (·.add ((x5_2 : Int).toNat * 1))) := ⟨_, rfl⟩; obtain ⟨c42, hc42⟩ : ∃ c1, c1 = co36 - (x5_2 : Int).toNat := ⟨_, rfl⟩; have hy42 : y541.length = l0.length - (x5_2 : Int).toNat := (by rw [Ny541.out, List.length_drop] <;> omega); rw [show (l0).drop (x5_2 : Int).toNat = y541 from Ny541.out.symm] at hr42; replace hr42 : Kd.C Kd.string _ A42 y541.length y541 := (by rw [hA42]; exact hr42); rw [← hy42, ← hA42, ← hc42] at hcut42; have HR544 := Aside0.mk hr42; have HC544 := Aside0.mk (show y541.length ≤ c42 from by rw [hy42, hc42]; exact Nat.sub_le_sub_right hroom42 _); clear hr42 hC42 hroom42 hi042 hsz42 hc42; have KY42 := Aside0.mk hy42; have KA42 := Aside0.mk hA42; clear hy42 hA42; have KL42 := Aside0.mk (show (x5_2 : Int).toNat ≤ l0.length from by omega); replace q42 := eq_true q42) | ((with_reducible refine gate_builtin (b := .append) (xs := #[.tmp 43, .tmp 46]) rfl ?_); at_builtin; refine Kd.R_append_rows Kd.string (w0 := w0) w0.heap.size rfl (.tmp 43) (.tmp 46) 45 9 (.string ⟨#[]⟩) 16 rfl Try.underlying45 info9 rfl (by decide) (by omega) v539 y538 y541 _ _ _ (fun k_ => (P0_ k_ ∨ w.heap.size ≤ k_) ∧ some k_ ≠ (.slice Ao36 l0.length co36 : Value).ownBlock) (fun _ => False) rfl rfl ?aO ?aR (fun _ _ h => h) (fun _ h => h.elim) ?aF ?aB ?aS ?aL ?_; (case aR => repeat (first | exact (ck HR544.out) | (with_reducible refine Kd.C_alloc ?_ _) | (with_reducible refine Kd.C_drewN ?_ _) | (with_reducible refine Kd.C_drew ?_))); (case aB => exact (bw HB.out)); (case aF => exact (fun k_ hk => ⟨(.inr (Nat.le_trans (by first | exact HK.out.1 | exact (show Kept w _ (fun k_ => P0_ k_) from by repeat (first | (with_reducible first | exact HK.out | apply Kept.alloc | apply Kept.drewN | apply Kept.drew) | exact HK.out)).1) hk)), Kd.fresh' (Kd.R_lt (rk HO_0.out)) k_ hk⟩)); (case aO => exact (rk HO540.out)); (case aS => exact (below_size (bw HB.out))); (case aL => have := LMc35.out; omega); intro v546 w43 ho hb hg hat; rw [← Ny545.out] at ho; replace HB := Aside0.mk (hb); replace HK := Aside0.mk (Kept.of_grown (S := (fun k_ => P0_ k_)) hg (by repeat (first | (with_reducible first | exact HK.out | apply Kept.alloc | apply Kept.drewN | apply Kept.drew) | exact HK.out)) (fun k_ e_ => (HO540.out.1 k_ e_).1)); replace HR534 := Aside0.mk ((show Kd.C Kd.string w43 Ao36 y531.length y531 from by rw [Ny531.out]; exact Kd.C_take (m := (x5_2 : Int).toNat) ((Kd.R_reads' (Kd.R_after (ok := (fun k_ => (P0_ k_ ∨ w.heap.size ≤ k_))) (rk HO_0.out) hg hat)).2.2) KL39.out)); replace HR544 := Aside0.mk ((show Kd.C Kd.string w43 A42 y541.length y541 from by rw [Ny541.out, KA42.out]; exact Kd.C_drop (m := (x5_2 : Int).toNat) (c := co36) ((Kd.R_reads' (Kd.R_after (ok := (fun k_ => (P0_ k_ ∨ w.heap.size ≤ k_))) (rk HO_0.out) hg hat)).2.2) KL42.out ((Kd.R_reads' (Kd.R_after (ok := (fun k_ => (P0_ k_ ∨ w.heap.size ≤ k_))) (rk HO_0.out) hg hat)).2.1))); replace HO_0 := Aside0.mk (Kd.R_after (ok := (fun k_ => (P0_ k_ ∨ w.heap.size ≤ k_))) (rk HO_0.out) hg hat); have HO547 := Aside0.mk (ho); clear HO540; clear ho hb hg hat))
    go_ret
    exact ⟨_, by first | rfl | (simp [errW_none, errW_some] <;> rfl) | (simp [*, errW_none, errW_some] <;> rfl), by (with_reducible repeat (first | apply Kd.R_alloc | apply Kd.R_drewN | apply Kd.R_drew)); exact Kd.R_mono HO547.out (fun _ hk => hk.1), bw HB.out, by repeat (first | (with_reducible first | exact HK.out | apply Kept.alloc | apply Kept.drewN | apply Kept.drew) | exact HK.out)⟩
/-! ### deaddropref7_Keys: function 20 -/
def deaddropref7_Keys.l0 : Nat → List ByteArray → Int → List (S70) → List (S34) → Option (List ByteArray)
  | 0, _, _, _, _ => none
  | k + 1, x3, x4, x549000, x549001 => if x4 < (x549001.length : Int) then (if 0 ≤ x4 then ((deaddropref7_Insert.f k x3 ((rd_T34 x549001 x4).f1)).bind fun t550 => (deaddropref7_Keys.l0 k t550 (wrap64 (x4 + 1)) x549000 x549001)) else (none)) else (some x3)
def deaddropref7_Keys.f (k : Nat) (l0_0 : List (S70)) (l0_1 : List (S34)) : Option (List ByteArray) := deaddropref7_Keys.l0 k ([] : List ByteArray) 0 l0_0 l0_1
theorem deaddropref7_Keys.mono_l : ∀ k, (∀ y0 y1 y2 y3, LeO (deaddropref7_Keys.l0 k y0 y1 y2 y3) (deaddropref7_Keys.l0 (k + 1) y0 y1 y2 y3))
  | 0 => fun _ _ _ _ r h => by simp [deaddropref7_Keys.l0] at h
  | k + 1 => by
    have ih0 := deaddropref7_Keys.mono_l k
    · intro y0 y1 y2 y3
      unfold deaddropref7_Keys.l0
      repeat' first
      | with_reducible (first | exact ih0 _ _ _ _ | exact deaddropref7_Insert.mono _ _ _ | exact LeO.refl _ | exact LeO.none _ | refine LeO.ite ?_ ?_ | refine LeO.bind ?_ (fun _ => ?_))
      | exact ih0 _ _ _ _ | exact deaddropref7_Insert.mono _ _ _ | exact LeO.none _ | refine LeO.ite ?_ ?_ | refine LeO.bind ?_ (fun _ => ?_)
theorem deaddropref7_Keys.mono : ∀ a0 a1 k, LeO (deaddropref7_Keys.f k a0 a1) (deaddropref7_Keys.f (k + 1) a0 a1) := by
  intro a0 a1 k
  have ih0 := deaddropref7_Keys.mono_l k
  unfold deaddropref7_Keys.f
  repeat' first
      | with_reducible (first | exact ih0 _ _ _ _ | exact deaddropref7_Insert.mono _ _ _ | exact LeO.refl _ | exact LeO.none _ | refine LeO.ite ?_ ?_ | refine LeO.bind ?_ (fun _ => ?_))
      | exact ih0 _ _ _ _ | exact deaddropref7_Insert.mono _ _ _ | exact LeO.none _ | refine LeO.ite ?_ ?_ | refine LeO.bind ?_ (fun _ => ?_)
set_option maxHeartbeats 8000000 in
set_option maxRecDepth 100000 in
theorem deaddropref7_Keys.calls (k : Nat) (A0_0 : Option Addr) (c0_0 : Nat) (l0_0 : List (S70)) (A0_1 : Option Addr) (c0_1 : Nat) (l0_1 : List (S34)) (r : List ByteArray) (w : World) (hr0_0 : Kd.C k70 w A0_0 l0_0.length l0_0) (hc0_0 : l0_0.length ≤ c0_0) (hr0_1 : Kd.C k34 w A0_1 l0_1.length l0_1) (hc0_1 : l0_1.length ≤ c0_1) (h : deaddropref7_Keys.f k l0_0 l0_1 = some r) :
    Calls Try.prog 20 #[.agg #[.slice A0_0 l0_0.length c0_0, .slice A0_1 l0_1.length c0_1]] w fun e w' => ∃ v0_ : Value, e = .returned (v0_) ∧ Kd.R Kd.string 9 w' w.heap.size (fun _ => True) v0_ r ∧ Below w.heap.size w w' := by
  have hu28 := Try.underlying28
  have HR0_0 := Aside0.mk hr0_0
  have HC0_0 := Aside0.mk hc0_0
  clear hr0_0 hc0_0
  have HR0_1 := Aside0.mk hr0_1
  have HC0_1 := Aside0.mk hc0_1
  clear hr0_1 hc0_1
  have HB := Aside0.mk (Below.refl w.heap.size w)
  have H : (deaddropref7_Keys.l0 k ([] : List ByteArray) 0 l0_0 l0_1) = some r := h
  clear h
  have H' := Aside0.mk H
  clear H
  go_enter Try.func20, Try.ntmps20
  go_wp2_with (first | ((with_reducible refine gate_dst (N := 1) rfl ?_); refine box_event ?hg (N := 1) ?hd (cs := #[.slice A0_0 l0_0.length c0_0, .slice A0_1 l0_1.length c0_1]) (t := 28) ?hr ?_; (case hd => rfl); (case hg => rfl); (case hr => first | (go_simp; done) | (go_simp; rfl)); intro gb548 hg w2 hbox hb; have BK548 := Aside0.mk (hbox); have GW548 := Aside0.mk ((by rw [hg]; exact (below_size (bw HB.out)) : w.heap.size ≤ gb548)); have GE548 := GW548; replace HB := Aside0.mk (below_step (bw HB.out) hb); clear hb hbox hg))
  go_loopg [3, 4] k (fun kq v3 v4 w' => ∃ (x3_1 : List ByteArray) (x4_1 : Int), v4 = .int .i64 x4_1 ∧ Aside0 (deaddropref7_Keys.l0 kq x3_1 x4_1 l0_0 l0_1 = some r) ∧ Aside0 (kq ≤ k) ∧ Aside0 (Kd.R Kd.string 9 w' w.heap.size (fun _ => True) v3 x3_1) ∧ Aside0 (w'.heap[gb548]? = some (.cells #[(.slice A0_0 l0_0.length c0_0), (.slice A0_1 l0_1.length c0_1)] 28 (0, 0))) ∧ Aside0 (Below w.heap.size w w'))
  case atStart => exact ⟨(([] : List ByteArray)), (0), ok_, H', ⟨Nat.le_refl _⟩, ⟨by first | exact Kd.R_nil _ _ _ _ _ | exact Kd.N_nil _ _ _ _ _ | exact Kd.V_nil _ _ _ _ _ | exact Kd.Q_nil _ _ _ _ _ | exact Kd.S_nil _ _ _ _ _⟩, ⟨bk BK548.out⟩, ⟨bw1 HB.out GE548.out⟩⟩
  case round =>
    clear H'
    obtain ⟨x3_1, x4_1, rfl, HA, HK1, HO_3, BK548, HB⟩ := hrel
    cases gk with
    | zero => exact absurd HA.out (by simp [deaddropref7_Keys.l0])
    | succ k1 =>
      have H := HA.out
      clear HA
      simp only [deaddropref7_Keys.l0] at H
      by_cases c3 : x4_1 < (l0_1.length : Int)
      · rw [if_pos c3] at H
        have c3b0 : decide (x4_1 < (l0_1.length : Int)) = true := decide_eq_true c3
        clear c3
        by_cases c4 : 0 ≤ x4_1
        · rw [if_pos c4] at H
          have c4b0 : decide (0 ≤ x4_1) = true := decide_eq_true c4
          clear c4
          replace H := Option.bind_eq_some_iff.mp H
          obtain ⟨t550, A50, H⟩ := H
          replace H : (deaddropref7_Keys.l0 k1 t550 (wrap64 (x4_1 + 1)) l0_0 l0_1) = some r := H
          have A5 := Aside0.mk A50
          clear A50
          have H' := Aside0.mk H
          clear H
          obtain ⟨hcz6_0, hcz6_1⟩ := bx2 BK548.out
          obtain ⟨hfz6_0, hfz6_1⟩ := bf2 BK548.out
          have p549 : 0 ≤ (x4_1 : Int) := of_decide_eq_true as_
          have q549 : x4_1 < (l0_1.length : Int) := of_decide_eq_true as_
          obtain ⟨ad549, e549, hx549_0, hx549_1, hx549_2, hx549_3, hx549_4, hx549_5⟩ := at_T34 HR0_1.out x4_1 p549 q549
          cases e549
          replace hx549_0 := (HB.out.cell (World.block_lt_of_cell? w _ hx549_0)).trans hx549_0
          replace hx549_1 := (HB.out.cell (World.block_lt_of_cell? w _ hx549_1)).trans hx549_1
          replace hx549_2 := (HB.out.cell (World.block_lt_of_cell? w _ hx549_2)).trans hx549_2
          replace hx549_3 := (HB.out.cell (World.block_lt_of_cell? w _ hx549_3)).trans hx549_3
          replace hx549_4 := (HB.out.cell (World.block_lt_of_cell? w _ hx549_4)).trans hx549_4
          replace hx549_5 := (HB.out.cell (World.block_lt_of_cell? w _ hx549_5)).trans hx549_5
          replace p549 := eq_true p549
          replace q549 := eq_true q549
          obtain ⟨Ao7, co7, eo7⟩ := Kd.R_slice HO_3.out
          subst eo7
          go_wp2_with (first | ((with_reducible refine gate_callee (f := 36) rfl ?_); refine goesL_ (some 19) rfl rfl Try.func36 (by kernel_rfl) rfl #[.slice Ao7 x3_1.length co7, .string ((rd_T34 l0_1 x4_1).f1)] rfl ar_ ?_; (with_reducible refine (deaddropref7_Insert.calls k1 (fun k_ => some k_ = (.slice Ao7 x3_1.length co7 : Value).ownBlock) (.slice Ao7 x3_1.length co7) x3_1 ((rd_T34 l0_1 x4_1).f1) t550 w _ ?side1 ?side2 A5.out).mono ?_); (case side1 => repeat (first | (with_reducible first | exact HB.out | apply below_alloc | apply pw_below_drewN | apply below_drew1 | refine below_set ?_ GE548.out) | exact HB.out)); (case side2 => exact Kd.R_tight rfl HO_3.out); rintro e w8 ⟨v551, rfl, ho0, hb, hkp⟩; refine ⟨_, rfl, ?_⟩; replace BK548 := Aside0.mk (blk_kept (bk BK548.out) hkp (fun hs_ => (fun e_ => (Kd.R_ne HO_3.out BK548.out (by decide)) e_) hs_)); have HO552 := Aside0.mk (Kd.R_mono (ok' := fun k_ => True) ho0 (fun k_ hk_ => trivial)); replace HB := Aside0.mk (hb); clear HO_3; (try clear hb); (try clear hkp); (try clear ho0)))
          go_roundg k1
          case measure => have := HK1.out; omega
          case rel => exact ⟨(t550), (wrap64 (x4_1 + 1)), ok_, H', ⟨by have := HK1.out; omega⟩, ⟨rk HO552.out⟩, ⟨bk BK548.out⟩, ⟨bw1 HB.out GE548.out⟩⟩
        · rw [if_neg c4] at H
          exact absurd H (by simp)
      · rw [if_neg c3] at H
        have c3b0 : decide (x4_1 < (l0_1.length : Int)) = false := decide_eq_false c3
        clear c3
        obtain rfl := Option.some.inj H
        obtain ⟨hcz9_0, hcz9_1⟩ := bx2 BK548.out
        obtain ⟨hfz9_0, hfz9_1⟩ := bf2 BK548.out
        go_wp2
        go_ret
        exact ⟨_, by first | rfl | (simp [errW_none, errW_some] <;> rfl) | (simp [*, errW_none, errW_some] <;> rfl), rk HO_3.out, bw1 HB.out GE548.out⟩

end Go.Proofs.Ytaonemedoikieaa.M
