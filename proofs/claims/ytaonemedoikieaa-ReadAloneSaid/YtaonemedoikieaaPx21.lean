-- Written by a program of this work (wip/tools/mkprint.py) over the kit's print; Lean checks it.
import Derived.Test.YtaonemedoikieaaPx0
import Derived.Test.YtaonemedoikieaaPx10
import Derived.Test.YtaonemedoikieaaPx19
import Derived.Test.YtaonemedoikieaaPx20
import Derived.Test.YtaonemedoikieaaHAbb
namespace Go.Proofs.Ytaonemedoikieaa.P
open Go.RowKit Go.Proofs.YtaonemedoikieaaW.PrintWords Go.Proofs.YtaonemedoikieaaW.PrintLast Go.Proofs.YtaonemedoikieaaW.PrintMore Go.Proofs.Ytaonemedoikieaa.AB
attribute [local go_sem] max2_int min2_int max_two min_two max_three min_three max_four min_four   -- for this text's walks alone
set_option linter.unusedVariables false
set_option linter.unusedSimpArgs false

/-! ### deaddroplaw10_awake: function 11 -/
def deaddroplaw10_awake.f (k : Nat)  : Option (Bool) := (deaddroplaw8_Make.f k (([0, 1] : List Int))).bind fun bt480 => ((read_Texts.f k bt480.1 bt480.2 (⟨#[107]⟩ : ByteArray)).bind fun t486 => ((read_Count.f k ([] : List (S70)) ([] : List (S34)) (⟨#[107]⟩ : ByteArray)).bind fun t489 => (if t489 = 0 then (if (t486.length : Int) = 1 then (if 0 < (t486.length : Int) then (some ((rdOf ByteArray.empty t486 0).toList == ([98] : List UInt8))) else (none)) else (none)) else (none))))
theorem deaddroplaw10_awake.mono : ∀ k, LeO (deaddroplaw10_awake.f k ) (deaddroplaw10_awake.f (k + 1) ) := by
  intro  k
  unfold deaddroplaw10_awake.f
  repeat' first
      | with_reducible (first | exact deaddroplaw8_Make.mono _ _ | exact read_Count.mono _ _ _ _ | exact read_Texts.mono _ _ _ _ | exact LeO.refl _ | exact LeO.none _ | refine LeO.ite ?_ ?_ | refine LeO.bind ?_ (fun _ => ?_))
      | exact deaddroplaw8_Make.mono _ _ | exact read_Count.mono _ _ _ _ | exact read_Texts.mono _ _ _ _ | exact LeO.none _ | refine LeO.ite ?_ ?_ | refine LeO.bind ?_ (fun _ => ?_)
set_option maxHeartbeats 8000000 in
set_option maxRecDepth 100000 in
theorem deaddroplaw10_awake.calls (k : Nat)  (r : Bool) (w : World) (h : deaddroplaw10_awake.f k  = some r) :
    Calls Try.prog 11 #[] w fun e w' => e = .returned (.bool r) ∧ Below w.heap.size w w' := by
  have hu28 := Try.underlying28
  have HB := Aside0.mk (Below.refl w.heap.size w)
  have H : ((deaddroplaw8_Make.f k (([0, 1] : List Int))).bind fun bt480 => ((read_Texts.f k bt480.1 bt480.2 (⟨#[107]⟩ : ByteArray)).bind fun t486 => ((read_Count.f k ([] : List (S70)) ([] : List (S34)) (⟨#[107]⟩ : ByteArray)).bind fun t489 => (if t489 = 0 then (if (t486.length : Int) = 1 then (if 0 < (t486.length : Int) then (some ((rdOf ByteArray.empty t486 0).toList == ([98] : List UInt8))) else (none)) else (none)) else (none))))) = some r := h
  clear h
  obtain ⟨y477, hy477⟩ : ∃ y_ : List Int, y_ = (([0, 1] : List Int)) := ⟨_, rfl⟩
  replace H : ((deaddroplaw8_Make.f k y477).bind fun bt480 => ((read_Texts.f k bt480.1 bt480.2 (⟨#[107]⟩ : ByteArray)).bind fun t486 => ((read_Count.f k ([] : List (S70)) ([] : List (S34)) (⟨#[107]⟩ : ByteArray)).bind fun t489 => (if t489 = 0 then (if (t486.length : Int) = 1 then (if 0 < (t486.length : Int) then (some ((rdOf ByteArray.empty t486 0).toList == ([98] : List UInt8))) else (none)) else (none)) else (none))))) = some r := by first | (rw [hy477]; with_reducible exact H) | (have H2_ := (Option.bind_some _ _).symm.trans H; rw [hy477]; with_reducible exact H2_) | (have H2_ := (Option.bind_some _ _).symm.trans H; with_reducible exact H2_) | with_reducible exact H | (rw [hy477]; exact H) | exact H
  have Ny477 := Aside0.mk hy477
  clear hy477
  replace H := Option.bind_eq_some_iff.mp H
  obtain ⟨⟨t480, t483⟩, A10, H⟩ := H
  replace H : ((read_Texts.f k t480 t483 (⟨#[107]⟩ : ByteArray)).bind fun t486 => ((read_Count.f k ([] : List (S70)) ([] : List (S34)) (⟨#[107]⟩ : ByteArray)).bind fun t489 => (if t489 = 0 then (if (t486.length : Int) = 1 then (if 0 < (t486.length : Int) then (some ((rdOf ByteArray.empty t486 0).toList == ([98] : List UInt8))) else (none)) else (none)) else (none)))) = some r := H
  have A1 := Aside0.mk A10
  clear A10
  replace H := Option.bind_eq_some_iff.mp H
  obtain ⟨t486, A20, H⟩ := H
  replace H : ((read_Count.f k ([] : List (S70)) ([] : List (S34)) (⟨#[107]⟩ : ByteArray)).bind fun t489 => (if t489 = 0 then (if (t486.length : Int) = 1 then (if 0 < (t486.length : Int) then (some ((rdOf ByteArray.empty t486 0).toList == ([98] : List UInt8))) else (none)) else (none)) else (none))) = some r := H
  have A2 := Aside0.mk A20
  clear A20
  replace H := Option.bind_eq_some_iff.mp H
  obtain ⟨t489, A30, H⟩ := H
  replace H : (if t489 = 0 then (if (t486.length : Int) = 1 then (if 0 < (t486.length : Int) then (some ((rdOf ByteArray.empty t486 0).toList == ([98] : List UInt8))) else (none)) else (none)) else (none)) = some r := H
  have A3 := Aside0.mk A30
  clear A30
  by_cases c4 : t489 = 0
  · rw [if_pos c4] at H
    have c4b0 : (t489 == 0) = true := beq_iff_eq.mpr c4
    have c4b1 : (t489 != 0) = false := bne_eq_false_iff_eq.mpr c4
    clear c4
    by_cases c5 : (t486.length : Int) = 1
    · rw [if_pos c5] at H
      have c5b0 : ((t486.length : Int) == 1) = true := beq_iff_eq.mpr c5
      have c5b1 : ((t486.length : Int) != 1) = false := bne_eq_false_iff_eq.mpr c5
      clear c5
      by_cases c6 : 0 < (t486.length : Int)
      · rw [if_pos c6] at H
        have c6b0 : decide (0 < (t486.length : Int)) = true := decide_eq_true c6
        have c6b1 : decide (0 < t486.length) = true := decide_eq_true (by omega)
        clear c6
        obtain rfl := Option.some.inj H
        go_enter Try.func11, Try.ntmps11
        go_wp2_with (first | ((with_reducible refine gate_dst (N := 2) rfl ?_); (try (refine gate_guard (by rfl) ?_; dsimp only)); refine Kd.R_lit (Kd.int .u8) _ 5 ?hg (N := 2) ?hd (xs := ([0, 1] : List Int)) (inner := [.int .u8 0, .int .u8 1]) (ok := fun _ => True) (okp := fun _ => True) ?hr ?hp (fun _ hk => hk) trivial (Below.refl _ _) (Nat.le_refl _) (by simp) ?_; (case hd => rfl); (case hg => rfl); (case hr => first | (go_simp; done) | (go_simp; rfl)); (case hp => exact (Reps.one (show Kd.M (Kd.int .u8) _ _ _ 0 [.int .u8 0] from rfl) (Reps.one (show Kd.M (Kd.int .u8) _ _ _ 1 [.int .u8 1] from rfl) (Reps.none _ _)))); intro v478 w7 ho8 hb hg_ hnew_; clear hg_ hnew_; (first | rw [← Ny477.out] at ho8 | (simp only [Int.reduceToNat] at ho8; rw [← Ny477.out] at ho8)); have HO479 := Aside0.mk (Kd.R_lower ho8 (below_size (bw HB.out))); replace HB := Aside0.mk (below_step (bw HB.out) hb); clear hb ho8; obtain ⟨Ao9, co9, eo9⟩ := Kd.R_slice HO479.out; subst eo9) | ((with_reducible refine gate_callee (f := 28) rfl ?_); refine goesL_ (some 3) rfl rfl Try.func28 (by kernel_rfl) rfl #[.slice Ao9 y477.length co9] rfl ar_ ?_; (with_reducible refine (deaddroplaw8_Make.calls k _ _ y477 t480 t483 _ ?side1 ?side2 A1.out).mono ?_); (case side1 => exact cr (Kd.R_reads' HO479.out).2.2); (case side2 => exact (Kd.R_reads' HO479.out).2.1); rintro e w10 ⟨v481, v484, rfl, ho0, ho1, hb⟩; refine ⟨_, rfl, ?_⟩; replace HO479 := Aside0.mk (Kd.R_below (rk HO479.out) hb); have HO482 := Aside0.mk (Kd.R_lower ho0 (below_size (bw HB.out))); have HO485 := Aside0.mk (Kd.R_lower ho1 (below_size (bw HB.out))); replace HB := Aside0.mk (below_step (bw HB.out) hb); (try clear hb); (try clear hb2); (try clear hk); (try clear hi); (try clear ho0); (try clear ho1); obtain ⟨Ao11, co11, eo11⟩ := Kd.R_slice HO482.out; subst eo11; obtain ⟨Ao12, co12, eo12⟩ := Kd.R_slice HO485.out; subst eo12) | ((with_reducible refine gate_callee (f := 14) rfl ?_); refine goesL_ (some 4) rfl rfl Try.func14 (by kernel_rfl) rfl #[.agg #[.slice Ao11 t480.length co11, .slice Ao12 t483.length co12], .string (⟨#[107]⟩ : ByteArray)] rfl ar_ ?_; (with_reducible refine (read_Texts.calls k _ _ t480 _ _ t483 (⟨#[107]⟩ : ByteArray) t486 _ ?side1 ?side2 ?side3 ?side4 A2.out).mono ?_); (case side1 => exact cr (Kd.R_reads' HO482.out).2.2); (case side2 => exact (Kd.R_reads' HO482.out).2.1); (case side3 => exact cr (Kd.R_reads' HO485.out).2.2); (case side4 => exact (Kd.R_reads' HO485.out).2.1); rintro e w13 ⟨v487, rfl, ho0, hb⟩; refine ⟨_, rfl, ?_⟩; replace HO479 := Aside0.mk (Kd.R_below (rk HO479.out) hb); replace HO482 := Aside0.mk (Kd.R_below (rk HO482.out) hb); replace HO485 := Aside0.mk (Kd.R_below (rk HO485.out) hb); have HO488 := Aside0.mk (Kd.R_lower ho0 (below_size (bw HB.out))); replace HB := Aside0.mk (below_step (bw HB.out) hb); (try clear hb); (try clear hb2); (try clear hk); (try clear hi); (try clear ho0)) | ((with_reducible refine gate_callee (f := 10) rfl ?_); refine goesL_ (some 6) rfl rfl Try.func10 (by kernel_rfl) rfl #[.agg #[.slice none 0 0, .slice none 0 0], .string (⟨#[107]⟩ : ByteArray)] rfl ar_ ?_; (refine (read_Count.calls k _ _ ([] : List (S70)) _ _ ([] : List (S34)) (⟨#[107]⟩ : ByteArray) t489 _ ?side1 ?side2 ?side3 ?side4 A3.out).mono ?_); (case side1 => exact Kd.C_nil _ _); (case side2 => exact Nat.le_refl _); (case side3 => exact Kd.C_nil _ _); (case side4 => exact Nat.le_refl _); rintro e w14 ⟨rfl, hb⟩; refine ⟨_, rfl, ?_⟩; replace HO479 := Aside0.mk (Kd.R_below (rk HO479.out) hb); replace HO482 := Aside0.mk (Kd.R_below (rk HO482.out) hb); replace HO485 := Aside0.mk (Kd.R_below (rk HO485.out) hb); replace HO488 := Aside0.mk (Kd.R_below (rk HO488.out) hb); replace HB := Aside0.mk (below_step (bw HB.out) hb); (try clear hb); (try clear hb2); (try clear hk); (try clear hi); obtain ⟨Ao15, co15, eo15⟩ := Kd.R_slice HO488.out; subst eo15; have p490 : 0 ≤ (0 : Int) := (by omega); have q490 : 0 < (t486.length : Int) := of_decide_eq_true as_; obtain ⟨ad490, e490, hx490_0⟩ := Kd.at_string (Kd.R_reads' HO488.out).2.2 0 p490 q490; cases e490; have qi490 : (0 < t486.length) = True := eq_true (by omega); (try rw [show ((0 : Int)).toNat = 0 from rfl] at hx490_0); (try rw [Addr.add_zero'] at hx490_0); replace p490 := eq_true p490; replace q490 := eq_true q490))
        go_ret
        exact ⟨by first | rfl | (simp [errW_none, errW_some] <;> rfl) | (simp [*, errW_none, errW_some] <;> rfl), by repeat (first | (with_reducible first | exact HB.out | apply below_alloc | apply pw_below_drewN | apply below_drew1) | exact HB.out)⟩
      · rw [if_neg c6] at H
        exact absurd H (by simp)
    · rw [if_neg c5] at H
      exact absurd H (by simp)
  · rw [if_neg c4] at H
    exact absurd H (by simp)

end Go.Proofs.Ytaonemedoikieaa.P
