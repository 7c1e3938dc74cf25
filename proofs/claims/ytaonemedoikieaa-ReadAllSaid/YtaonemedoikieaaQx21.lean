-- Written by a program of this work (wip/tools/mkprint.py) over the kit's print; Lean checks it.
import Derived.Test.YtaonemedoikieaaQx0
import Derived.Test.YtaonemedoikieaaQx2
import Derived.Test.YtaonemedoikieaaQx11
import Derived.Test.YtaonemedoikieaaQx20
import Derived.Test.YtaonemedoikieaaHAbb
namespace Go.Proofs.Ytaonemedoikieaa.Q
open Go.RowKit Go.Proofs.YtaonemedoikieaaW.PrintWords Go.Proofs.YtaonemedoikieaaW.PrintLast Go.Proofs.YtaonemedoikieaaW.PrintMore Go.Proofs.Ytaonemedoikieaa.AB
attribute [local go_sem] max2_int min2_int max_two min_two max_three min_three max_four min_four   -- for this text's walks alone
set_option linter.unusedVariables false
set_option linter.unusedSimpArgs false

/-! ### deaddroplaw10_awake: function 11 -/
def deaddroplaw10_awake.f (k : Nat)  : Option (Bool) := (deaddroplaw8_Make.f k (([0, 1] : List Int))).bind fun bt394 => ((read_Texts.f k bt394.1 bt394.2 (⟨#[107]⟩ : ByteArray)).bind fun t400 => ((read_Count.f k ([] : List (S70)) ([] : List (S34)) (⟨#[107]⟩ : ByteArray)).bind fun t403 => (if t403 = 0 then (if (t400.length : Int) = 1 then (if 0 < (t400.length : Int) then (some ((rdOf ByteArray.empty t400 0).toList == ([98] : List UInt8))) else (none)) else (none)) else (none))))
theorem deaddroplaw10_awake.mono : ∀ k, LeO (deaddroplaw10_awake.f k ) (deaddroplaw10_awake.f (k + 1) ) := by
  intro  k
  unfold deaddroplaw10_awake.f
  repeat' first
      | (with_reducible exact deaddroplaw8_Make.mono _ _)
      | (with_reducible exact read_Count.mono _ _ _ _)
      | (with_reducible exact read_Texts.mono _ _ _ _)
      | (with_reducible exact LeO.refl _)
      | (with_reducible exact LeO.none _)
      | (with_reducible refine LeO.ite ?_ ?_)
      | (with_reducible refine LeO.bind ?_ (fun _ => ?_))
      | exact deaddroplaw8_Make.mono _ _
      | exact read_Count.mono _ _ _ _
      | exact read_Texts.mono _ _ _ _
      | exact LeO.none _
      | refine LeO.ite ?_ ?_
      | refine LeO.bind ?_ (fun _ => ?_)
set_option maxHeartbeats 8000000 in
set_option maxRecDepth 100000 in
theorem deaddroplaw10_awake.calls (k : Nat)  (r : Bool) (w : World) (h : deaddroplaw10_awake.f k  = some r) :
    Calls Try.prog 11 #[] w fun e w' => e = .returned (.bool r) ∧ Below w.heap.size w w' := by
  have hu28 := Try.underlying28
  have HB := Aside0.mk (Below.refl w.heap.size w)
  have H : ((deaddroplaw8_Make.f k (([0, 1] : List Int))).bind fun bt394 => ((read_Texts.f k bt394.1 bt394.2 (⟨#[107]⟩ : ByteArray)).bind fun t400 => ((read_Count.f k ([] : List (S70)) ([] : List (S34)) (⟨#[107]⟩ : ByteArray)).bind fun t403 => (if t403 = 0 then (if (t400.length : Int) = 1 then (if 0 < (t400.length : Int) then (some ((rdOf ByteArray.empty t400 0).toList == ([98] : List UInt8))) else (none)) else (none)) else (none))))) = some r := h
  clear h
  obtain ⟨y391, hy391⟩ : ∃ y_ : List Int, y_ = (([0, 1] : List Int)) := ⟨_, rfl⟩
  replace H : ((deaddroplaw8_Make.f k y391).bind fun bt394 => ((read_Texts.f k bt394.1 bt394.2 (⟨#[107]⟩ : ByteArray)).bind fun t400 => ((read_Count.f k ([] : List (S70)) ([] : List (S34)) (⟨#[107]⟩ : ByteArray)).bind fun t403 => (if t403 = 0 then (if (t400.length : Int) = 1 then (if 0 < (t400.length : Int) then (some ((rdOf ByteArray.empty t400 0).toList == ([98] : List UInt8))) else (none)) else (none)) else (none))))) = some r := by first | (rw [hy391]; with_reducible exact H) | (have H2_ := (Option.bind_some _ _).symm.trans H; rw [hy391]; with_reducible exact H2_) | (have H2_ := (Option.bind_some _ _).symm.trans H; with_reducible exact H2_) | with_reducible exact H | (rw [hy391]; exact H) | exact H
  have Ny391 := Aside0.mk hy391
  clear hy391
  replace H := Option.bind_eq_some_iff.mp H
  obtain ⟨⟨t394, t397⟩, A10, H⟩ := H
  replace H : ((read_Texts.f k t394 t397 (⟨#[107]⟩ : ByteArray)).bind fun t400 => ((read_Count.f k ([] : List (S70)) ([] : List (S34)) (⟨#[107]⟩ : ByteArray)).bind fun t403 => (if t403 = 0 then (if (t400.length : Int) = 1 then (if 0 < (t400.length : Int) then (some ((rdOf ByteArray.empty t400 0).toList == ([98] : List UInt8))) else (none)) else (none)) else (none)))) = some r := H
  have A1 := Aside0.mk A10
  clear A10
  replace H := Option.bind_eq_some_iff.mp H
  obtain ⟨t400, A20, H⟩ := H
  replace H : ((read_Count.f k ([] : List (S70)) ([] : List (S34)) (⟨#[107]⟩ : ByteArray)).bind fun t403 => (if t403 = 0 then (if (t400.length : Int) = 1 then (if 0 < (t400.length : Int) then (some ((rdOf ByteArray.empty t400 0).toList == ([98] : List UInt8))) else (none)) else (none)) else (none))) = some r := H
  have A2 := Aside0.mk A20
  clear A20
  replace H := Option.bind_eq_some_iff.mp H
  obtain ⟨t403, A30, H⟩ := H
  replace H : (if t403 = 0 then (if (t400.length : Int) = 1 then (if 0 < (t400.length : Int) then (some ((rdOf ByteArray.empty t400 0).toList == ([98] : List UInt8))) else (none)) else (none)) else (none)) = some r := H
  have A3 := Aside0.mk A30
  clear A30
  by_cases c4 : t403 = 0
  · rw [if_pos c4] at H
    have c4b0 : (t403 == 0) = true := beq_iff_eq.mpr c4
    have c4b1 : (t403 != 0) = false := bne_eq_false_iff_eq.mpr c4
    clear c4
    by_cases c5 : (t400.length : Int) = 1
    · rw [if_pos c5] at H
      have c5b0 : ((t400.length : Int) == 1) = true := beq_iff_eq.mpr c5
      have c5b1 : ((t400.length : Int) != 1) = false := bne_eq_false_iff_eq.mpr c5
      clear c5
      by_cases c6 : 0 < (t400.length : Int)
      · rw [if_pos c6] at H
        have c6b0 : decide (0 < (t400.length : Int)) = true := decide_eq_true c6
        have c6b1 : decide (0 < t400.length) = true := decide_eq_true (by omega)
        clear c6
        obtain rfl := Option.some.inj H
        go_enter Try.func11, Try.ntmps11
        go_wp2_with (first | ((with_reducible refine gate_dst (N := 2) rfl ?_); (try (refine gate_guard (by rfl) ?_; dsimp only)); refine Kd.R_lit (Kd.int .u8) _ 5 ?hg (N := 2) ?hd (xs := ([0, 1] : List Int)) (inner := [.int .u8 0, .int .u8 1]) (ok := fun _ => True) (okp := fun _ => True) ?hr ?hp (fun _ hk => hk) trivial (Below.refl _ _) (Nat.le_refl _) (by simp) ?_; (case hd => rfl); (case hg => rfl); (case hr => first | (go_simp; done) | (go_simp; rfl)); (case hp => exact (Reps.one (show Kd.M (Kd.int .u8) _ _ _ 0 [.int .u8 0] from rfl) (Reps.one (show Kd.M (Kd.int .u8) _ _ _ 1 [.int .u8 1] from rfl) (Reps.none _ _)))); intro v392 w7 ho8 hb hg_ hnew_; clear hg_ hnew_; (first | rw [← Ny391.out] at ho8 | (simp only [Int.reduceToNat] at ho8; rw [← Ny391.out] at ho8)); have HO393 := Aside0.mk (Kd.R_lower ho8 (below_size (bw HB.out))); replace HB := Aside0.mk (below_step (bw HB.out) hb); clear hb ho8; obtain ⟨Ao9, co9, eo9⟩ := Kd.R_slice HO393.out; subst eo9) | ((with_reducible refine gate_callee (f := 28) rfl ?_); refine goesL_ (some 3) rfl rfl Try.func28 (by kernel_rfl) rfl #[.slice Ao9 y391.length co9] rfl ar_ ?_; (with_reducible refine (deaddroplaw8_Make.calls k _ _ y391 t394 t397 _ ?side1 ?side2 A1.out).mono ?_); (case side1 => exact cr (Kd.R_reads' HO393.out).2.2); (case side2 => exact (Kd.R_reads' HO393.out).2.1); rintro e w10 ⟨v395, v398, rfl, ho0, ho1, hb⟩; refine ⟨_, rfl, ?_⟩; replace HO393 := Aside0.mk (Kd.R_below (rk HO393.out) hb); have HO396 := Aside0.mk (Kd.R_lower ho0 (below_size (bw HB.out))); have HO399 := Aside0.mk (Kd.R_lower ho1 (below_size (bw HB.out))); replace HB := Aside0.mk (below_step (bw HB.out) hb); (try clear hb); (try clear hb2); (try clear hk); (try clear hi); (try clear ho0); (try clear ho1); obtain ⟨Ao11, co11, eo11⟩ := Kd.R_slice HO396.out; subst eo11; obtain ⟨Ao12, co12, eo12⟩ := Kd.R_slice HO399.out; subst eo12) | ((with_reducible refine gate_callee (f := 14) rfl ?_); refine goesL_ (some 4) rfl rfl Try.func14 (by kernel_rfl) rfl #[.agg #[.slice Ao11 t394.length co11, .slice Ao12 t397.length co12], .string (⟨#[107]⟩ : ByteArray)] rfl ar_ ?_; (with_reducible refine (read_Texts.calls k _ _ t394 _ _ t397 (⟨#[107]⟩ : ByteArray) t400 _ ?side1 ?side2 ?side3 ?side4 A2.out).mono ?_); (case side1 => exact cr (Kd.R_reads' HO396.out).2.2); (case side2 => exact (Kd.R_reads' HO396.out).2.1); (case side3 => exact cr (Kd.R_reads' HO399.out).2.2); (case side4 => exact (Kd.R_reads' HO399.out).2.1); rintro e w13 ⟨v401, rfl, ho0, hb⟩; refine ⟨_, rfl, ?_⟩; replace HO393 := Aside0.mk (Kd.R_below (rk HO393.out) hb); replace HO396 := Aside0.mk (Kd.R_below (rk HO396.out) hb); replace HO399 := Aside0.mk (Kd.R_below (rk HO399.out) hb); have HO402 := Aside0.mk (Kd.R_lower ho0 (below_size (bw HB.out))); replace HB := Aside0.mk (below_step (bw HB.out) hb); (try clear hb); (try clear hb2); (try clear hk); (try clear hi); (try clear ho0)) | ((with_reducible refine gate_callee (f := 10) rfl ?_); refine goesL_ (some 6) rfl rfl Try.func10 (by kernel_rfl) rfl #[.agg #[.slice none 0 0, .slice none 0 0], .string (⟨#[107]⟩ : ByteArray)] rfl ar_ ?_; (refine (read_Count.calls k _ _ ([] : List (S70)) _ _ ([] : List (S34)) (⟨#[107]⟩ : ByteArray) t403 _ ?side1 ?side2 ?side3 ?side4 A3.out).mono ?_); (case side1 => exact Kd.C_nil _ _); (case side2 => exact Nat.le_refl _); (case side3 => exact Kd.C_nil _ _); (case side4 => exact Nat.le_refl _); rintro e w14 ⟨rfl, hb⟩; refine ⟨_, rfl, ?_⟩; replace HO393 := Aside0.mk (Kd.R_below (rk HO393.out) hb); replace HO396 := Aside0.mk (Kd.R_below (rk HO396.out) hb); replace HO399 := Aside0.mk (Kd.R_below (rk HO399.out) hb); replace HO402 := Aside0.mk (Kd.R_below (rk HO402.out) hb); replace HB := Aside0.mk (below_step (bw HB.out) hb); (try clear hb); (try clear hb2); (try clear hk); (try clear hi); obtain ⟨Ao15, co15, eo15⟩ := Kd.R_slice HO402.out; subst eo15; have p404 : 0 ≤ (0 : Int) := (by omega); have q404 : 0 < (t400.length : Int) := of_decide_eq_true as_; obtain ⟨ad404, e404, hx404_0⟩ := Kd.at_string (Kd.R_reads' HO402.out).2.2 0 p404 q404; cases e404; have qi404 : (0 < t400.length) = True := eq_true (by omega); (try rw [show ((0 : Int)).toNat = 0 from rfl] at hx404_0); (try rw [Addr.add_zero'] at hx404_0); replace p404 := eq_true p404; replace q404 := eq_true q404))
        go_ret
        exact ⟨by first | rfl | (simp [errW_none, errW_some] <;> rfl) | (simp [*, errW_none, errW_some] <;> rfl), by repeat (first | (with_reducible first | exact HB.out | apply below_alloc | apply pw_below_drewN | apply below_drew1) | exact HB.out)⟩
      · rw [if_neg c6] at H
        exact absurd H (by simp)
    · rw [if_neg c5] at H
      exact absurd H (by simp)
  · rw [if_neg c4] at H
    exact absurd H (by simp)

/-! ### deaddropref1_SameTexts: function 15 -/
def deaddropref1_SameTexts.l0 : Nat → List ByteArray → List ByteArray → Int → Option (Bool)
  | 0, _, _, _ => none
  | k + 1, x0, x1, x5 => if x5 < (x0.length : Int) then (if 0 ≤ x5 then (if x5 < (x1.length : Int) then (if (rdOf ByteArray.empty x0 x5).toList = (rdOf ByteArray.empty x1 x5).toList then (deaddropref1_SameTexts.l0 k x0 x1 (wrap64 (x5 + 1))) else (some false)) else (none)) else (none)) else (some true)
def deaddropref1_SameTexts.f (k : Nat) (l0 : List ByteArray) (l1 : List ByteArray) : Option (Bool) := if (l0.length : Int) = (l1.length : Int) then (deaddropref1_SameTexts.l0 k l0 l1 0) else (some false)
theorem deaddropref1_SameTexts.mono_l : ∀ k, (∀ y0 y1 y2, LeO (deaddropref1_SameTexts.l0 k y0 y1 y2) (deaddropref1_SameTexts.l0 (k + 1) y0 y1 y2))
  | 0 => fun _ _ _ r h => by simp [deaddropref1_SameTexts.l0] at h
  | k + 1 => by
    have ih0 := deaddropref1_SameTexts.mono_l k
    · intro y0 y1 y2
      unfold deaddropref1_SameTexts.l0
      repeat' first
      | (with_reducible exact ih0 _ _ _)
      | (with_reducible exact LeO.refl _)
      | (with_reducible exact LeO.none _)
      | (with_reducible refine LeO.ite ?_ ?_)
      | (with_reducible refine LeO.bind ?_ (fun _ => ?_))
      | exact ih0 _ _ _
      | exact LeO.none _
      | refine LeO.ite ?_ ?_
      | refine LeO.bind ?_ (fun _ => ?_)
theorem deaddropref1_SameTexts.mono : ∀ a0 a1 k, LeO (deaddropref1_SameTexts.f k a0 a1) (deaddropref1_SameTexts.f (k + 1) a0 a1) := by
  intro a0 a1 k
  have ih0 := deaddropref1_SameTexts.mono_l k
  unfold deaddropref1_SameTexts.f
  repeat' first
      | (with_reducible exact ih0 _ _ _)
      | (with_reducible exact LeO.refl _)
      | (with_reducible exact LeO.none _)
      | (with_reducible refine LeO.ite ?_ ?_)
      | (with_reducible refine LeO.bind ?_ (fun _ => ?_))
      | exact ih0 _ _ _
      | exact LeO.none _
      | refine LeO.ite ?_ ?_
      | refine LeO.bind ?_ (fun _ => ?_)
set_option maxHeartbeats 8000000 in
set_option maxRecDepth 100000 in
theorem deaddropref1_SameTexts.calls (k : Nat) (A0 : Option Addr) (c0 : Nat) (l0 : List ByteArray) (A1 : Option Addr) (c1 : Nat) (l1 : List ByteArray) (r : Bool) (w : World) (hr0 : Kd.C Kd.string w A0 l0.length l0) (hc0 : l0.length ≤ c0) (hr1 : Kd.C Kd.string w A1 l1.length l1) (hc1 : l1.length ≤ c1) (h : deaddropref1_SameTexts.f k l0 l1 = some r) :
    Calls Try.prog 15 #[.slice A0 l0.length c0, .slice A1 l1.length c1] w fun e w' => e = .returned (.bool r) ∧ Drawn0 w w' := by
  have HR0 := Aside0.mk hr0
  have HC0 := Aside0.mk hc0
  clear hr0 hc0
  have HR1 := Aside0.mk hr1
  have HC1 := Aside0.mk hc1
  clear hr1 hc1
  have H : (if (l0.length : Int) = (l1.length : Int) then (deaddropref1_SameTexts.l0 k l0 l1 0) else (some false)) = some r := h
  clear h
  by_cases c3 : (l0.length : Int) = (l1.length : Int)
  · rw [if_pos c3] at H
    have c3b0 : ((l0.length : Int) == (l1.length : Int)) = true := beq_iff_eq.mpr c3
    have c3b1 : ((l0.length : Int) != (l1.length : Int)) = false := bne_eq_false_iff_eq.mpr c3
    have c3b2 : (l0.length == l1.length) = true := by first | simpa using c3 | (simp at c3 ⊢; omega)
    clear c3
    have H' := Aside0.mk H
    clear H
    go_enter Try.func15, Try.ntmps15
    go_wp2
    repeat (go_quiet (fail); try go_wp2)
    go_loopg [5] k (fun kq v5 w' => ∃ (x5_1 : Int), v5 = .int .i64 x5_1 ∧ Aside0 (deaddropref1_SameTexts.l0 kq l0 l1 x5_1 = some r) ∧ Aside0 (kq ≤ k) ∧ Drawn0 w w')
    case atStart => exact ⟨(0), ok_, H', ⟨Nat.le_refl _⟩, by repeat (first | exact Drawn0.refl _ | apply Drawn0.step)⟩
    case round =>
      clear H'
      try clear c1
      try clear p2
      try clear c3
      try clear c3b0
      try clear c3b1
      try clear c3b2
      obtain ⟨x5_1, rfl, HA, HK1, ⟨m1, rfl⟩⟩ := hrel
      cases gk with
      | zero => exact absurd HA.out (by simp [deaddropref1_SameTexts.l0])
      | succ k1 =>
        have H := HA.out
        clear HA
        simp only [deaddropref1_SameTexts.l0] at H
        by_cases c4 : x5_1 < (l0.length : Int)
        · rw [if_pos c4] at H
          have c4b0 : decide (x5_1 < (l0.length : Int)) = true := decide_eq_true c4
          clear c4
          by_cases c5 : 0 ≤ x5_1
          · rw [if_pos c5] at H
            have c5b0 : decide (0 ≤ x5_1) = true := decide_eq_true c5
            clear c5
            by_cases c6 : x5_1 < (l1.length : Int)
            · rw [if_pos c6] at H
              have c6b0 : decide (x5_1 < (l1.length : Int)) = true := decide_eq_true c6
              clear c6
              by_cases c7 : (rdOf ByteArray.empty l0 x5_1).toList = (rdOf ByteArray.empty l1 x5_1).toList
              · rw [if_pos c7] at H
                have c7b0 : ((rdOf ByteArray.empty l0 x5_1).toList == (rdOf ByteArray.empty l1 x5_1).toList) = true := beq_iff_eq.mpr c7
                have c7b1 : ((rdOf ByteArray.empty l0 x5_1).toList != (rdOf ByteArray.empty l1 x5_1).toList) = false := bne_eq_false_iff_eq.mpr c7
                clear c7
                have H' := Aside0.mk H
                clear H
                have p405 : 0 ≤ (x5_1 : Int) := of_decide_eq_true as_
                have q405 : x5_1 < (l0.length : Int) := of_decide_eq_true as_
                obtain ⟨ad405, e405, hx405_0⟩ := Kd.at_string HR0.out x5_1 p405 q405
                cases e405
                replace p405 := eq_true p405
                replace q405 := eq_true q405
                have p406 : 0 ≤ (x5_1 : Int) := of_decide_eq_true as_
                have q406 : x5_1 < (l1.length : Int) := of_decide_eq_true as_
                obtain ⟨ad406, e406, hx406_0⟩ := Kd.at_string HR1.out x5_1 p406 q406
                cases e406
                replace p406 := eq_true p406
                replace q406 := eq_true q406
                go_wp2
                repeat (go_quiet (fail); try go_wp2)
                go_roundg k1
                case measure => have := HK1.out; omega
                case rel => exact ⟨(wrap64 (x5_1 + 1)), ok_, H', ⟨by have := HK1.out; omega⟩, by repeat (first | exact Drawn0.refl _ | apply Drawn0.step)⟩
              · rw [if_neg c7] at H
                have c7b0 : ((rdOf ByteArray.empty l0 x5_1).toList == (rdOf ByteArray.empty l1 x5_1).toList) = false := beq_eq_false_iff_ne.mpr c7
                have c7b1 : ((rdOf ByteArray.empty l0 x5_1).toList != (rdOf ByteArray.empty l1 x5_1).toList) = true := bne_iff_ne.mpr c7
                obtain rfl := Option.some.inj H
                have p405 : 0 ≤ (x5_1 : Int) := of_decide_eq_true as_
                have q405 : x5_1 < (l0.length : Int) := of_decide_eq_true as_
                obtain ⟨ad405, e405, hx405_0⟩ := Kd.at_string HR0.out x5_1 p405 q405
                cases e405
                replace p405 := eq_true p405
                replace q405 := eq_true q405
                have p406 : 0 ≤ (x5_1 : Int) := of_decide_eq_true as_
                have q406 : x5_1 < (l1.length : Int) := of_decide_eq_true as_
                obtain ⟨ad406, e406, hx406_0⟩ := Kd.at_string HR1.out x5_1 p406 q406
                cases e406
                replace p406 := eq_true p406
                replace q406 := eq_true q406
                go_wp2
                repeat (go_quiet (fail); try go_wp2)
                go_ret
                exact ⟨by first | rfl | (simp; done) | (simp [*]; done), by repeat (first | exact Drawn0.refl _ | apply Drawn0.step)⟩
            · rw [if_neg c6] at H
              exact absurd H (by simp)
          · rw [if_neg c5] at H
            exact absurd H (by simp)
        · rw [if_neg c4] at H
          have c4b0 : decide (x5_1 < (l0.length : Int)) = false := decide_eq_false c4
          clear c4
          obtain rfl := Option.some.inj H
          go_wp2
          repeat (go_quiet (fail); try go_wp2)
          go_ret
          exact ⟨by first | rfl | (simp; done) | (simp [*]; done), by repeat (first | exact Drawn0.refl _ | apply Drawn0.step)⟩
  · rw [if_neg c3] at H
    have c3b0 : ((l0.length : Int) == (l1.length : Int)) = false := beq_eq_false_iff_ne.mpr c3
    have c3b1 : ((l0.length : Int) != (l1.length : Int)) = true := bne_iff_ne.mpr c3
    have c3b2 : (l0.length == l1.length) = false := by first | simpa using c3 | (simp at c3 ⊢; omega)
    obtain rfl := Option.some.inj H
    go_enter Try.func15, Try.ntmps15
    go_wp2
    repeat (go_quiet (fail); try go_wp2)
    go_ret
    exact ⟨by first | rfl | (simp; done) | (simp [*]; done), by repeat (first | exact Drawn0.refl _ | apply Drawn0.step)⟩

/-! ### read_Members: function 16 -/
def read_Members.f (k : Nat) (l0_0 : List (S70)) (l0_1 : List (S34)) (a1 : ByteArray) : Option (List ByteArray) := (read_items.f k l0_0 l0_1 a1 2).bind fun t408 => (some t408)
theorem read_Members.mono : ∀ a0 a1 a2 k, LeO (read_Members.f k a0 a1 a2) (read_Members.f (k + 1) a0 a1 a2) := by
  intro a0 a1 a2 k
  unfold read_Members.f
  repeat' first
      | (with_reducible exact read_items.mono _ _ _ _ _)
      | (with_reducible exact LeO.refl _)
      | (with_reducible exact LeO.none _)
      | (with_reducible refine LeO.ite ?_ ?_)
      | (with_reducible refine LeO.bind ?_ (fun _ => ?_))
      | exact read_items.mono _ _ _ _ _
      | exact LeO.none _
      | refine LeO.ite ?_ ?_
      | refine LeO.bind ?_ (fun _ => ?_)
set_option maxHeartbeats 8000000 in
set_option maxRecDepth 100000 in
theorem read_Members.calls (k : Nat) (A0_0 : Option Addr) (c0_0 : Nat) (l0_0 : List (S70)) (A0_1 : Option Addr) (c0_1 : Nat) (l0_1 : List (S34)) (a1 : ByteArray) (r : List ByteArray) (w : World) (hr0_0 : Kd.C k70 w A0_0 l0_0.length l0_0) (hc0_0 : l0_0.length ≤ c0_0) (hr0_1 : Kd.C k34 w A0_1 l0_1.length l0_1) (hc0_1 : l0_1.length ≤ c0_1) (h : read_Members.f k l0_0 l0_1 a1 = some r) :
    Calls Try.prog 16 #[.agg #[.slice A0_0 l0_0.length c0_0, .slice A0_1 l0_1.length c0_1], .string a1] w fun e w' => ∃ v0_ : Value, e = .returned (v0_) ∧ Kd.R Kd.string 9 w' w.heap.size (fun _ => True) v0_ r ∧ Below w.heap.size w w' := by
  have hu28 := Try.underlying28
  have HR0_0 := Aside0.mk hr0_0
  have HC0_0 := Aside0.mk hc0_0
  clear hr0_0 hc0_0
  have HR0_1 := Aside0.mk hr0_1
  have HC0_1 := Aside0.mk hc0_1
  clear hr0_1 hc0_1
  have HB := Aside0.mk (Below.refl w.heap.size w)
  have H : ((read_items.f k l0_0 l0_1 a1 2).bind fun t408 => (some t408)) = some r := h
  clear h
  replace H := Option.bind_eq_some_iff.mp H
  obtain ⟨t408, A30, H⟩ := H
  replace H : (some t408) = some r := H
  have A3 := Aside0.mk A30
  clear A30
  obtain rfl := Option.some.inj H
  go_enter Try.func16, Try.ntmps16
  go_wp2_with (first | ((with_reducible refine gate_dst (N := 2) rfl ?_); refine box_event ?hg (N := 2) ?hd (cs := #[.slice A0_0 l0_0.length c0_0, .slice A0_1 l0_1.length c0_1]) (t := 28) ?hr ?_; (case hd => rfl); (case hg => rfl); (case hr => first | (go_simp; done) | (go_simp; rfl)); intro gb407 hg w4 hbox hb; have BK407 := Aside0.mk (hbox); have GW407 := Aside0.mk ((by rw [hg]; exact (below_size (bw HB.out)) : w.heap.size ≤ gb407)); have GE407 := Aside0.mk ((by rw [hg]; exact (below_size (bw HB.out)) : w.heap.size ≤ gb407)); replace HB := Aside0.mk (below_step (bw HB.out) hb); clear hb hbox hg; have hcz5_0 : w4.cell? ⟨gb407, 0, none⟩ = some (.slice A0_0 l0_0.length c0_0) := (blk_cell BK407.out 0).trans rfl; have hcz5_1 : w4.cell? ⟨gb407, 1, none⟩ = some (.slice A0_1 l0_1.length c0_1) := (blk_cell BK407.out 1).trans rfl; have hfz5_0 := blk_frozen BK407.out 0; have hfz5_1 := blk_frozen BK407.out 1) | ((with_reducible refine gate_callee (f := 32) rfl ?_); refine goesL_ (some 7) rfl rfl Try.func32 (by kernel_rfl) rfl #[.agg #[.slice A0_0 l0_0.length c0_0, .slice A0_1 l0_1.length c0_1], .string a1, .int .i64 2] rfl ar_ ?_; (with_reducible refine (read_items.calls k _ _ l0_0 _ _ l0_1 a1 2 t408 _ ?side1 ?side2 ?side3 ?side4 A3.out).mono ?_); (case side1 => exact cr (Kd.C_below HR0_0.out HB.out)); (case side2 => exact HC0_0.out); (case side3 => exact cr (Kd.C_below HR0_1.out HB.out)); (case side4 => exact HC0_1.out); rintro e w6 ⟨v409, rfl, ho0, hb⟩; refine ⟨_, rfl, ?_⟩; have HO410 := Aside0.mk (Kd.R_lower ho0 (below_size (bw1 HB.out GE407.out))); replace BK407 := Aside0.mk (blk_below (g := gb407) (o := .cells #[.slice A0_0 l0_0.length c0_0, .slice A0_1 l0_1.length c0_1] 28 (0, 0)) (bk BK407.out) hb); replace HB := Aside0.mk (below_step (bw1 HB.out GE407.out) hb); (try clear hb); (try clear hb2); (try clear hk); (try clear hi); (try clear ho0)))
  go_ret
  exact ⟨_, by first | rfl | (simp [errW_none, errW_some] <;> rfl) | (simp [*, errW_none, errW_some] <;> rfl), by (with_reducible repeat (first | apply Kd.R_alloc | apply Kd.R_drewN | apply Kd.R_drew)); exact HO410.out, by repeat (first | (with_reducible first | exact HB.out | apply below_alloc | apply pw_below_drewN | apply below_drew1 | refine below_set ?_ GE407.out) | exact HB.out)⟩

/-! ### deaddroplaw8_Great: function 17 -/
mutual
def deaddroplaw8_Great.l0 : Nat → Int → List (S70) → List (S34) → Option (Bool)
 | 0, _, _, _ => none
 | k + 1, x3, x412000, x412001 => if x3 < (x412001.length : Int) then (deaddroplaw8_Great.j1 k x3 (decide (x3 < 100)) x412000 x412001) else (deaddroplaw8_Great.j1 k x3 false x412000 x412001)
def deaddroplaw8_Great.j1 : Nat → Int → Bool → List (S70) → List (S34) → Option (Bool)
 | 0, _, _, _, _ => none
 | k + 1, x3, x12, x412000, x412001 => if x12 = true then (if 0 ≤ x3 then (if x3 < (x412001.length : Int) then (if (((rd_T34 x412001 x3).f1).size : Int) > 100 then (some true) else (if (((rd_T34 x412001 x3).f3).size : Int) > 400 then (some true) else (deaddroplaw8_Great.l0 k (wrap64 (x3 + 1)) x412000 x412001))) else (none)) else (none)) else (if (x412000.length : Int) > 60 then (some true) else (some (decide ((x412001.length : Int) > 80))))
end
def deaddroplaw8_Great.f (k : Nat) (l0_0 : List (S70)) (l0_1 : List (S34)) : Option (Bool) := deaddroplaw8_Great.l0 k 0 l0_0 l0_1
theorem deaddroplaw8_Great.mono_l : ∀ k, (∀ y0 y1 y2, LeO (deaddroplaw8_Great.l0 k y0 y1 y2) (deaddroplaw8_Great.l0 (k + 1) y0 y1 y2)) ∧ (∀ y0 y1 y2 y3, LeO (deaddroplaw8_Great.j1 k y0 y1 y2 y3) (deaddroplaw8_Great.j1 (k + 1) y0 y1 y2 y3))
 | 0 => ⟨fun _ _ _ r h => by simp [deaddroplaw8_Great.l0] at h, fun _ _ _ _ r h => by simp [deaddroplaw8_Great.j1] at h⟩
 | k + 1 => by
  obtain ⟨ih0, ih1⟩ := deaddroplaw8_Great.mono_l k
  refine ⟨?_, ?_⟩
  ·
   intro y0 y1 y2
   unfold deaddroplaw8_Great.l0
   repeat' first
   | (with_reducible exact ih0 _ _ _)
   | (with_reducible exact ih1 _ _ _ _)
   | (with_reducible exact LeO.refl _)
   | (with_reducible exact LeO.none _)
   | (with_reducible refine LeO.ite ?_ ?_)
   | (with_reducible refine LeO.bind ?_ (fun _ => ?_))
   | exact ih0 _ _ _
   | exact ih1 _ _ _ _
   | exact LeO.none _
   | refine LeO.ite ?_ ?_
   | refine LeO.bind ?_ (fun _ => ?_)
  ·
   intro y0 y1 y2 y3
   unfold deaddroplaw8_Great.j1
   repeat' first
   | (with_reducible exact ih0 _ _ _)
   | (with_reducible exact ih1 _ _ _ _)
   | (with_reducible exact LeO.refl _)
   | (with_reducible exact LeO.none _)
   | (with_reducible refine LeO.ite ?_ ?_)
   | (with_reducible refine LeO.bind ?_ (fun _ => ?_))
   | exact ih0 _ _ _
   | exact ih1 _ _ _ _
   | exact LeO.none _
   | refine LeO.ite ?_ ?_
   | refine LeO.bind ?_ (fun _ => ?_)
theorem deaddroplaw8_Great.mono : ∀ a0 a1 k, LeO (deaddroplaw8_Great.f k a0 a1) (deaddroplaw8_Great.f (k + 1) a0 a1) := by
 intro a0 a1 k
 obtain ⟨ih0, ih1⟩ := deaddroplaw8_Great.mono_l k
 unfold deaddroplaw8_Great.f
 repeat' first
  | (with_reducible exact ih0 _ _ _)
  | (with_reducible exact ih1 _ _ _ _)
  | (with_reducible exact LeO.refl _)
  | (with_reducible exact LeO.none _)
  | (with_reducible refine LeO.ite ?_ ?_)
  | (with_reducible refine LeO.bind ?_ (fun _ => ?_))
  | exact ih0 _ _ _
  | exact ih1 _ _ _ _
  | exact LeO.none _
  | refine LeO.ite ?_ ?_
  | refine LeO.bind ?_ (fun _ => ?_)
set_option maxHeartbeats 8000000 in
set_option maxRecDepth 100000 in
theorem deaddroplaw8_Great.calls (k : Nat) (A0_0 : Option Addr) (c0_0 : Nat) (l0_0 : List (S70)) (A0_1 : Option Addr) (c0_1 : Nat) (l0_1 : List (S34)) (r : Bool) (w : World) (hr0_0 : Kd.C k70 w A0_0 l0_0.length l0_0) (hc0_0 : l0_0.length ≤ c0_0) (hr0_1 : Kd.C k34 w A0_1 l0_1.length l0_1) (hc0_1 : l0_1.length ≤ c0_1) (h : deaddroplaw8_Great.f k l0_0 l0_1 = some r) :
 Calls Try.prog 17 #[.agg #[.slice A0_0 l0_0.length c0_0, .slice A0_1 l0_1.length c0_1]] w fun e w' => e = .returned (.bool r) ∧ Below w.heap.size w w' := by
 have hu28 := Try.underlying28
 have HR0_0 := Aside0.mk hr0_0
 have HC0_0 := Aside0.mk hc0_0
 clear hr0_0 hc0_0
 have HR0_1 := Aside0.mk hr0_1
 have HC0_1 := Aside0.mk hc0_1
 clear hr0_1 hc0_1
 have HB := Aside0.mk (Below.refl w.heap.size w)
 have H : (deaddroplaw8_Great.l0 k 0 l0_0 l0_1) = some r := h
 clear h
 have H' := Aside0.mk H
 clear H
 go_enter Try.func17, Try.ntmps17
 go_wp2_with (first | ((with_reducible refine gate_dst (N := 1) rfl ?_); (try (refine gate_guard (by rfl) ?_; dsimp only)); refine box_event ?hg (N := 1) ?hd (cs := #[.slice A0_0 l0_0.length c0_0, .slice A0_1 l0_1.length c0_1]) (t := 28) ?hr ?_; (case hd => rfl); (case hg => rfl); (case hr => first | (go_simp; done) | (go_simp; rfl)); intro gb411 hg w2 hbox hb; have BK411 := Aside0.mk (hbox); have GW411 := Aside0.mk ((by rw [hg]; exact (below_size (bw HB.out)) : w.heap.size ≤ gb411)); have GE411 := Aside0.mk ((by rw [hg]; exact (below_size (bw HB.out)) : w.heap.size ≤ gb411)); replace HB := Aside0.mk (below_step (bw HB.out) hb); clear hb hbox hg))
 go_loopg [3] k (fun kq v3 w' => ∃ (x3_1 : Int), v3 = .int .i64 x3_1 ∧ Aside0 (deaddroplaw8_Great.l0 kq x3_1 l0_0 l0_1 = some r) ∧ Aside0 (kq ≤ k) ∧ Aside0 (w'.heap[gb411]? = some (.cells #[(.slice A0_0 l0_0.length c0_0), (.slice A0_1 l0_1.length c0_1)] 28 (0, 0))) ∧ Aside0 (Below w.heap.size w w'))
 case atStart => exact ⟨(0), ok_, H', ⟨Nat.le_refl _⟩, ⟨by (with_reducible repeat (first | refine blk_drewN ?_ _ | refine blk_drew ?_ | refine blk_alloc ?_ _)); exact BK411.out⟩, ⟨by repeat (first | (with_reducible first | exact HB.out | apply below_alloc | apply pw_below_drewN | apply below_drew1 | refine below_set ?_ GE411.out) | exact HB.out)⟩⟩
 case round =>
  clear H'
  try clear c1
  try clear p2
  obtain ⟨x3_1, rfl, HA, HK1, BK411, HB⟩ := hrel
  cases gk with
  | zero => exact absurd HA.out (by simp [deaddroplaw8_Great.l0])
  | succ k1 =>
   have H := HA.out
   clear HA
   simp only [deaddroplaw8_Great.l0] at H
   have HC3 := Aside0.mk H
   clear H
   go_upto_region 2 with (fail)
   go_cut [12] (fun v12 wc => ∃ (kq : Nat) (x12_2 : Bool), v12 = .bool x12_2 ∧ Aside0 (deaddroplaw8_Great.j1 kq x3_1 x12_2 l0_0 l0_1 = some r) ∧ Aside0 (kq ≤ k1) ∧ Aside0 (wc.heap[gb411]? = some (.cells #[(.slice A0_0 l0_0.length c0_0), (.slice A0_1 l0_1.length c0_1)] 28 (0, 0))) ∧ Aside0 (Below w.heap.size w wc))
   case first =>
    have H := HC3.out
    clear HC3
    by_cases c4 : x3_1 < (l0_1.length : Int)
    ·
     rw [if_pos c4] at H
     have c4b0 : decide (x3_1 < (l0_1.length : Int)) = true := decide_eq_true c4
     clear c4
     (first | rw [c4b0] | (simp only [i64_w, i32_w]; rw [c4b0]) | skip)
     have H' := Aside0.mk H
     clear H
     have hcz5_0 : wr.cell? ⟨gb411, 0, none⟩ = some (.slice A0_0 l0_0.length c0_0) := (blk_cell BK411.out 0).trans rfl
     have hcz5_1 : wr.cell? ⟨gb411, 1, none⟩ = some (.slice A0_1 l0_1.length c0_1) := (blk_cell BK411.out 1).trans rfl
     have hfz5_0 := blk_frozen BK411.out 0
     have hfz5_1 := blk_frozen BK411.out 1
     go_wp2
     go_meet
     case rel => exact ⟨_, (decide (x3_1 < 100)), ok_, H', ⟨by have := HK1.out; first | omega | exact Nat.le_refl _⟩, ⟨by (with_reducible repeat (first | refine blk_drewN ?_ _ | refine blk_drew ?_ | refine blk_alloc ?_ _)); exact BK411.out⟩, ⟨by repeat (first | (with_reducible first | exact HB.out | apply below_alloc | apply pw_below_drewN | apply below_drew1 | refine below_set ?_ GE411.out) | exact HB.out)⟩⟩
    ·
     rw [if_neg c4] at H
     have c4b0 : decide (x3_1 < (l0_1.length : Int)) = false := decide_eq_false c4
     clear c4
     (first | rw [c4b0] | (simp only [i64_w, i32_w]; rw [c4b0]) | skip)
     have H' := Aside0.mk H
     clear H
     have hcz6_0 : wr.cell? ⟨gb411, 0, none⟩ = some (.slice A0_0 l0_0.length c0_0) := (blk_cell BK411.out 0).trans rfl
     have hcz6_1 : wr.cell? ⟨gb411, 1, none⟩ = some (.slice A0_1 l0_1.length c0_1) := (blk_cell BK411.out 1).trans rfl
     have hfz6_0 := blk_frozen BK411.out 0
     have hfz6_1 := blk_frozen BK411.out 1
     go_wp2
     go_meet
     case rel => exact ⟨_, (false), ok_, H', ⟨by have := HK1.out; first | omega | exact Nat.le_refl _⟩, ⟨by (with_reducible repeat (first | refine blk_drewN ?_ _ | refine blk_drew ?_ | refine blk_alloc ?_ _)); exact BK411.out⟩, ⟨by repeat (first | (with_reducible first | exact HB.out | apply below_alloc | apply pw_below_drewN | apply below_drew1 | refine below_set ?_ GE411.out) | exact HB.out)⟩⟩
   case rest =>
    clear HC3
    try clear c1
    try clear p2
    try clear c4
    try clear c4b0
    try clear hcz5_0
    try clear hcz5_1
    try clear hcz6_0
    try clear hcz6_1
    try clear hfz5_0
    try clear hfz5_1
    try clear hfz6_0
    try clear hfz6_1
    try clear p2
    obtain ⟨kq, x12_2, rfl, HA, HJ2, BK411, HB⟩ := hcut
    cases kq with
    | zero => exact absurd HA.out (by simp [deaddroplaw8_Great.j1])
    | succ kj2 =>
     have H := HA.out
     clear HA
     simp only [deaddroplaw8_Great.j1] at H
     by_cases c7 : x12_2 = true
     ·
      subst c7
      have H1 : (if 0 ≤ x3_1 then (if x3_1 < (l0_1.length : Int) then (if (((rd_T34 l0_1 x3_1).f1).size : Int) > 100 then (some true) else (if (((rd_T34 l0_1 x3_1).f3).size : Int) > 400 then (some true) else (deaddroplaw8_Great.l0 kj2 (wrap64 (x3_1 + 1)) l0_0 l0_1))) else (none)) else (none)) = some r := by rw [if_pos rfl] at H; exact H
      clear H
      have H := H1
      clear H1
      by_cases c8 : 0 ≤ x3_1
      rotate_left
      ·
       rw [if_neg c8] at H
       exact absurd H (by simp)
      rw [if_pos c8] at H
      have c8b0 : decide (0 ≤ x3_1) = true := decide_eq_true c8
      clear c8
      by_cases c9 : x3_1 < (l0_1.length : Int)
      rotate_left
      ·
       rw [if_neg c9] at H
       exact absurd H (by simp)
      rw [if_pos c9] at H
      have c9b0 : decide (x3_1 < (l0_1.length : Int)) = true := decide_eq_true c9
      clear c9
      by_cases c10 : (((rd_T34 l0_1 x3_1).f1).size : Int) > 100
      ·
       rw [if_pos c10] at H
       have c10b0 : decide (100 < (((rd_T34 l0_1 x3_1).f1).size : Int)) = true := decide_eq_true c10
       have c10b1 : decide (100 < ((rd_T34 l0_1 x3_1).f1).size) = true := decide_eq_true (by omega)
       clear c10
       obtain rfl := Option.some.inj H
       have hcz11_0 : wc.cell? ⟨gb411, 0, none⟩ = some (.slice A0_0 l0_0.length c0_0) := (blk_cell BK411.out 0).trans rfl
       have hcz11_1 : wc.cell? ⟨gb411, 1, none⟩ = some (.slice A0_1 l0_1.length c0_1) := (blk_cell BK411.out 1).trans rfl
       have hfz11_0 := blk_frozen BK411.out 0
       have hfz11_1 := blk_frozen BK411.out 1
       have p412 : 0 ≤ (x3_1 : Int) := of_decide_eq_true as_
       have q412 : x3_1 < (l0_1.length : Int) := of_decide_eq_true as_
       obtain ⟨ad412, e412, hx412_0, hx412_1, hx412_2, hx412_3, hx412_4, hx412_5⟩ := at_T34 HR0_1.out x3_1 p412 q412
       cases e412
       replace hx412_0 := (HB.out.cell (World.block_lt_of_cell? w _ hx412_0)).trans hx412_0
       replace hx412_1 := (HB.out.cell (World.block_lt_of_cell? w _ hx412_1)).trans hx412_1
       replace hx412_2 := (HB.out.cell (World.block_lt_of_cell? w _ hx412_2)).trans hx412_2
       replace hx412_3 := (HB.out.cell (World.block_lt_of_cell? w _ hx412_3)).trans hx412_3
       replace hx412_4 := (HB.out.cell (World.block_lt_of_cell? w _ hx412_4)).trans hx412_4
       replace hx412_5 := (HB.out.cell (World.block_lt_of_cell? w _ hx412_5)).trans hx412_5
       replace p412 := eq_true p412
       replace q412 := eq_true q412
       go_wp2
       go_ret
       exact ⟨by first | rfl | (simp [errW_none, errW_some] <;> rfl) | (simp [*, errW_none, errW_some] <;> rfl), by repeat (first | (with_reducible first | exact HB.out | apply below_alloc | apply pw_below_drewN | apply below_drew1 | refine below_set ?_ GE411.out) | exact HB.out)⟩
      ·
       rw [if_neg c10] at H
       have c10b0 : decide (100 < (((rd_T34 l0_1 x3_1).f1).size : Int)) = false := decide_eq_false c10
       have c10b1 : decide (100 < ((rd_T34 l0_1 x3_1).f1).size) = false := decide_eq_false (by omega)
       clear c10
       by_cases c12 : (((rd_T34 l0_1 x3_1).f3).size : Int) > 400
       ·
        rw [if_pos c12] at H
        have c12b0 : decide (400 < (((rd_T34 l0_1 x3_1).f3).size : Int)) = true := decide_eq_true c12
        have c12b1 : decide (400 < ((rd_T34 l0_1 x3_1).f3).size) = true := decide_eq_true (by omega)
        clear c12
        obtain rfl := Option.some.inj H
        have hcz13_0 : wc.cell? ⟨gb411, 0, none⟩ = some (.slice A0_0 l0_0.length c0_0) := (blk_cell BK411.out 0).trans rfl
        have hcz13_1 : wc.cell? ⟨gb411, 1, none⟩ = some (.slice A0_1 l0_1.length c0_1) := (blk_cell BK411.out 1).trans rfl
        have hfz13_0 := blk_frozen BK411.out 0
        have hfz13_1 := blk_frozen BK411.out 1
        have p412 : 0 ≤ (x3_1 : Int) := of_decide_eq_true as_
        have q412 : x3_1 < (l0_1.length : Int) := of_decide_eq_true as_
        obtain ⟨ad412, e412, hx412_0, hx412_1, hx412_2, hx412_3, hx412_4, hx412_5⟩ := at_T34 HR0_1.out x3_1 p412 q412
        cases e412
        replace hx412_0 := (HB.out.cell (World.block_lt_of_cell? w _ hx412_0)).trans hx412_0
        replace hx412_1 := (HB.out.cell (World.block_lt_of_cell? w _ hx412_1)).trans hx412_1
        replace hx412_2 := (HB.out.cell (World.block_lt_of_cell? w _ hx412_2)).trans hx412_2
        replace hx412_3 := (HB.out.cell (World.block_lt_of_cell? w _ hx412_3)).trans hx412_3
        replace hx412_4 := (HB.out.cell (World.block_lt_of_cell? w _ hx412_4)).trans hx412_4
        replace hx412_5 := (HB.out.cell (World.block_lt_of_cell? w _ hx412_5)).trans hx412_5
        replace p412 := eq_true p412
        replace q412 := eq_true q412
        have p413 : 0 ≤ (x3_1 : Int) := of_decide_eq_true as_
        have q413 : x3_1 < (l0_1.length : Int) := of_decide_eq_true as_
        obtain ⟨ad413, e413, hx413_0, hx413_1, hx413_2, hx413_3, hx413_4, hx413_5⟩ := at_T34 HR0_1.out x3_1 p413 q413
        obtain rfl : ad412 = ad413 := (by injection e413)
        replace hx413_0 := (HB.out.cell (World.block_lt_of_cell? w _ hx413_0)).trans hx413_0
        replace hx413_1 := (HB.out.cell (World.block_lt_of_cell? w _ hx413_1)).trans hx413_1
        replace hx413_2 := (HB.out.cell (World.block_lt_of_cell? w _ hx413_2)).trans hx413_2
        replace hx413_3 := (HB.out.cell (World.block_lt_of_cell? w _ hx413_3)).trans hx413_3
        replace hx413_4 := (HB.out.cell (World.block_lt_of_cell? w _ hx413_4)).trans hx413_4
        replace hx413_5 := (HB.out.cell (World.block_lt_of_cell? w _ hx413_5)).trans hx413_5
        replace p413 := eq_true p413
        replace q413 := eq_true q413
        go_wp2
        go_ret
        exact ⟨by first | rfl | (simp [errW_none, errW_some] <;> rfl) | (simp [*, errW_none, errW_some] <;> rfl), by repeat (first | (with_reducible first | exact HB.out | apply below_alloc | apply pw_below_drewN | apply below_drew1 | refine below_set ?_ GE411.out) | exact HB.out)⟩
       ·
        rw [if_neg c12] at H
        have c12b0 : decide (400 < (((rd_T34 l0_1 x3_1).f3).size : Int)) = false := decide_eq_false c12
        have c12b1 : decide (400 < ((rd_T34 l0_1 x3_1).f3).size) = false := decide_eq_false (by omega)
        clear c12
        have H' := Aside0.mk H
        clear H
        have hcz14_0 : wc.cell? ⟨gb411, 0, none⟩ = some (.slice A0_0 l0_0.length c0_0) := (blk_cell BK411.out 0).trans rfl
        have hcz14_1 : wc.cell? ⟨gb411, 1, none⟩ = some (.slice A0_1 l0_1.length c0_1) := (blk_cell BK411.out 1).trans rfl
        have hfz14_0 := blk_frozen BK411.out 0
        have hfz14_1 := blk_frozen BK411.out 1
        have p412 : 0 ≤ (x3_1 : Int) := of_decide_eq_true as_
        have q412 : x3_1 < (l0_1.length : Int) := of_decide_eq_true as_
        obtain ⟨ad412, e412, hx412_0, hx412_1, hx412_2, hx412_3, hx412_4, hx412_5⟩ := at_T34 HR0_1.out x3_1 p412 q412
        cases e412
        replace hx412_0 := (HB.out.cell (World.block_lt_of_cell? w _ hx412_0)).trans hx412_0
        replace hx412_1 := (HB.out.cell (World.block_lt_of_cell? w _ hx412_1)).trans hx412_1
        replace hx412_2 := (HB.out.cell (World.block_lt_of_cell? w _ hx412_2)).trans hx412_2
        replace hx412_3 := (HB.out.cell (World.block_lt_of_cell? w _ hx412_3)).trans hx412_3
        replace hx412_4 := (HB.out.cell (World.block_lt_of_cell? w _ hx412_4)).trans hx412_4
        replace hx412_5 := (HB.out.cell (World.block_lt_of_cell? w _ hx412_5)).trans hx412_5
        replace p412 := eq_true p412
        replace q412 := eq_true q412
        have p413 : 0 ≤ (x3_1 : Int) := of_decide_eq_true as_
        have q413 : x3_1 < (l0_1.length : Int) := of_decide_eq_true as_
        obtain ⟨ad413, e413, hx413_0, hx413_1, hx413_2, hx413_3, hx413_4, hx413_5⟩ := at_T34 HR0_1.out x3_1 p413 q413
        obtain rfl : ad412 = ad413 := (by injection e413)
        replace hx413_0 := (HB.out.cell (World.block_lt_of_cell? w _ hx413_0)).trans hx413_0
        replace hx413_1 := (HB.out.cell (World.block_lt_of_cell? w _ hx413_1)).trans hx413_1
        replace hx413_2 := (HB.out.cell (World.block_lt_of_cell? w _ hx413_2)).trans hx413_2
        replace hx413_3 := (HB.out.cell (World.block_lt_of_cell? w _ hx413_3)).trans hx413_3
        replace hx413_4 := (HB.out.cell (World.block_lt_of_cell? w _ hx413_4)).trans hx413_4
        replace hx413_5 := (HB.out.cell (World.block_lt_of_cell? w _ hx413_5)).trans hx413_5
        replace p413 := eq_true p413
        replace q413 := eq_true q413
        go_wp2
        go_roundg kj2
        case measure => have := HK1.out; have := HJ2.out; omega
        case rel => exact ⟨(wrap64 (x3_1 + 1)), ok_, H', ⟨by have := HK1.out; have := HJ2.out; omega⟩, ⟨by (with_reducible repeat (first | refine blk_drewN ?_ _ | refine blk_drew ?_ | refine blk_alloc ?_ _)); exact BK411.out⟩, ⟨by repeat (first | (with_reducible first | exact HB.out | apply below_alloc | apply pw_below_drewN | apply below_drew1 | refine below_set ?_ GE411.out) | exact HB.out)⟩⟩
     ·
      replace c7 := Bool.eq_false_iff.mpr c7
      subst c7
      have H1 : (if (l0_0.length : Int) > 60 then (some true) else (some (decide ((l0_1.length : Int) > 80)))) = some r := by rw [if_neg (show ¬ (false = true) by decide)] at H; exact H
      clear H
      have H := H1
      clear H1
      by_cases c15 : (l0_0.length : Int) > 60
      ·
       rw [if_pos c15] at H
       have c15b0 : decide (60 < (l0_0.length : Int)) = true := decide_eq_true c15
       have c15b1 : decide (60 < l0_0.length) = true := decide_eq_true (by omega)
       clear c15
       obtain rfl := Option.some.inj H
       have hcz16_0 : wc.cell? ⟨gb411, 0, none⟩ = some (.slice A0_0 l0_0.length c0_0) := (blk_cell BK411.out 0).trans rfl
       have hcz16_1 : wc.cell? ⟨gb411, 1, none⟩ = some (.slice A0_1 l0_1.length c0_1) := (blk_cell BK411.out 1).trans rfl
       have hfz16_0 := blk_frozen BK411.out 0
       have hfz16_1 := blk_frozen BK411.out 1
       go_wp2
       go_ret
       exact ⟨by first | rfl | (simp [errW_none, errW_some] <;> rfl) | (simp [*, errW_none, errW_some] <;> rfl), by repeat (first | (with_reducible first | exact HB.out | apply below_alloc | apply pw_below_drewN | apply below_drew1 | refine below_set ?_ GE411.out) | exact HB.out)⟩
      ·
       rw [if_neg c15] at H
       have c15b0 : decide (60 < (l0_0.length : Int)) = false := decide_eq_false c15
       have c15b1 : decide (60 < l0_0.length) = false := decide_eq_false (by omega)
       clear c15
       obtain rfl := Option.some.inj H
       have hcz17_0 : wc.cell? ⟨gb411, 0, none⟩ = some (.slice A0_0 l0_0.length c0_0) := (blk_cell BK411.out 0).trans rfl
       have hcz17_1 : wc.cell? ⟨gb411, 1, none⟩ = some (.slice A0_1 l0_1.length c0_1) := (blk_cell BK411.out 1).trans rfl
       have hfz17_0 := blk_frozen BK411.out 0
       have hfz17_1 := blk_frozen BK411.out 1
       go_wp2
       go_ret
       exact ⟨by first | rfl | (simp [errW_none, errW_some] <;> rfl) | (simp [*, errW_none, errW_some] <;> rfl), by repeat (first | (with_reducible first | exact HB.out | apply below_alloc | apply pw_below_drewN | apply below_drew1 | refine below_set ?_ GE411.out) | exact HB.out)⟩

/-! ### deaddropref7_Right: function 34 -/
def deaddropref7_Right.j0 : Nat → Int → Bool → Int → Int → ByteArray → Int → ByteArray → Int → Option (Bool)
 | 0, _, _, _, _, _, _, _, _ => none
 | k + 1, x8, x9, x415000, x415001, x415002, x415003, x415004, x415005 => if x9 = true then (if (x415004.size : Int) ≤ 200 then (some (x415005 == 0)) else (some false)) else (if x8 = 3 then (if x415004.toList = ([] : List UInt8) then (if x415005 ≥ (-1099511627776) then (some (decide (x415005 ≤ 1099511627776))) else (some false)) else (some false)) else (some false))
def deaddropref7_Right.f (k : Nat) (a0_0 : Int) (a0_1 : Int) (a0_2 : ByteArray) (a0_3 : Int) (a0_4 : ByteArray) (a0_5 : Int) : Option (Bool) := if (a0_2.size : Int) > 40 then (some false) else (if a0_3 = 1 then (deaddropref7_Right.j0 k a0_3 (a0_3 == 1) a0_0 a0_1 a0_2 a0_3 a0_4 a0_5) else (deaddropref7_Right.j0 k a0_3 (a0_3 == 2) a0_0 a0_1 a0_2 a0_3 a0_4 a0_5))
theorem deaddropref7_Right.mono_l : ∀ k, (∀ y0 y1 y2 y3 y4 y5 y6 y7, LeO (deaddropref7_Right.j0 k y0 y1 y2 y3 y4 y5 y6 y7) (deaddropref7_Right.j0 (k + 1) y0 y1 y2 y3 y4 y5 y6 y7))
 | 0 => fun _ _ _ _ _ _ _ _ r h => by simp [deaddropref7_Right.j0] at h
 | k + 1 => by
  have ih0 := deaddropref7_Right.mono_l k
  ·
   intro y0 y1 y2 y3 y4 y5 y6 y7
   unfold deaddropref7_Right.j0
   repeat' first
   | (with_reducible exact ih0 _ _ _ _ _ _ _ _)
   | (with_reducible exact LeO.refl _)
   | (with_reducible exact LeO.none _)
   | (with_reducible refine LeO.ite ?_ ?_)
   | (with_reducible refine LeO.bind ?_ (fun _ => ?_))
   | exact ih0 _ _ _ _ _ _ _ _
   | exact LeO.none _
   | refine LeO.ite ?_ ?_
   | refine LeO.bind ?_ (fun _ => ?_)
theorem deaddropref7_Right.mono : ∀ a0 a1 a2 a3 a4 a5 k, LeO (deaddropref7_Right.f k a0 a1 a2 a3 a4 a5) (deaddropref7_Right.f (k + 1) a0 a1 a2 a3 a4 a5) := by
 intro a0 a1 a2 a3 a4 a5 k
 have ih0 := deaddropref7_Right.mono_l k
 unfold deaddropref7_Right.f
 repeat' first
  | (with_reducible exact ih0 _ _ _ _ _ _ _ _)
  | (with_reducible exact LeO.refl _)
  | (with_reducible exact LeO.none _)
  | (with_reducible refine LeO.ite ?_ ?_)
  | (with_reducible refine LeO.bind ?_ (fun _ => ?_))
  | exact ih0 _ _ _ _ _ _ _ _
  | exact LeO.none _
  | refine LeO.ite ?_ ?_
  | refine LeO.bind ?_ (fun _ => ?_)
set_option maxHeartbeats 8000000 in
set_option maxRecDepth 100000 in
theorem deaddropref7_Right.calls (k : Nat) (a0_0 : Int) (a0_1 : Int) (a0_2 : ByteArray) (a0_3 : Int) (a0_4 : ByteArray) (a0_5 : Int) (r : Bool) (w : World) (h : deaddropref7_Right.f k a0_0 a0_1 a0_2 a0_3 a0_4 a0_5 = some r) :
 Calls Try.prog 34 #[.agg #[.int .i64 a0_0, .int .i64 a0_1, .string a0_2, .int .i64 a0_3, .string a0_4, .int .i64 a0_5]] w fun e w' => e = .returned (.bool r) ∧ Below w.heap.size w w' := by
 have hu34 := Try.underlying34
 have HB := Aside0.mk (Below.refl w.heap.size w)
 have H : (if (a0_2.size : Int) > 40 then (some false) else (if a0_3 = 1 then (deaddropref7_Right.j0 k a0_3 (a0_3 == 1) a0_0 a0_1 a0_2 a0_3 a0_4 a0_5) else (deaddropref7_Right.j0 k a0_3 (a0_3 == 2) a0_0 a0_1 a0_2 a0_3 a0_4 a0_5))) = some r := h
 clear h
 by_cases c2 : (a0_2.size : Int) > 40
 ·
  rw [if_pos c2] at H
  have c2b0 : decide (40 < (a0_2.size : Int)) = true := decide_eq_true c2
  have c2b1 : decide (40 < a0_2.size) = true := decide_eq_true (by omega)
  clear c2
  obtain rfl := Option.some.inj H
  go_enter Try.func34, Try.ntmps34
  go_wp2_with (first | ((with_reducible refine gate_dst (N := 1) rfl ?_); refine box_event ?hg (N := 1) ?hd (cs := #[.int .i64 a0_0, .int .i64 a0_1, .string a0_2, .int .i64 a0_3, .string a0_4, .int .i64 a0_5]) (t := 34) ?hr ?_; (case hd => rfl); (case hg => rfl); (case hr => first | (go_simp; done) | (go_simp; rfl)); intro gb414 hg w3 hbox hb; have BK414 := Aside0.mk (hbox); have GW414 := Aside0.mk ((by rw [hg]; exact (below_size (bw HB.out)) : w.heap.size ≤ gb414)); have GE414 := Aside0.mk ((by rw [hg]; exact (below_size (bw HB.out)) : w.heap.size ≤ gb414)); replace HB := Aside0.mk (below_step (bw HB.out) hb); clear hb hbox hg; have hcz4_0 : w3.cell? ⟨gb414, 0, none⟩ = some (.int .i64 a0_0) := (blk_cell BK414.out 0).trans rfl; have hcz4_1 : w3.cell? ⟨gb414, 1, none⟩ = some (.int .i64 a0_1) := (blk_cell BK414.out 1).trans rfl; have hcz4_2 : w3.cell? ⟨gb414, 2, none⟩ = some (.string a0_2) := (blk_cell BK414.out 2).trans rfl; have hcz4_3 : w3.cell? ⟨gb414, 3, none⟩ = some (.int .i64 a0_3) := (blk_cell BK414.out 3).trans rfl; have hcz4_4 : w3.cell? ⟨gb414, 4, none⟩ = some (.string a0_4) := (blk_cell BK414.out 4).trans rfl; have hcz4_5 : w3.cell? ⟨gb414, 5, none⟩ = some (.int .i64 a0_5) := (blk_cell BK414.out 5).trans rfl; have hfz4_0 := blk_frozen BK414.out 0; have hfz4_1 := blk_frozen BK414.out 1; have hfz4_2 := blk_frozen BK414.out 2; have hfz4_3 := blk_frozen BK414.out 3; have hfz4_4 := blk_frozen BK414.out 4; have hfz4_5 := blk_frozen BK414.out 5))
  go_ret
  exact ⟨by first | rfl | (simp [errW_none, errW_some] <;> rfl) | (simp [*, errW_none, errW_some] <;> rfl), by repeat (first | (with_reducible first | exact HB.out | apply below_alloc | apply pw_below_drewN | apply below_drew1 | refine below_set ?_ GE414.out) | exact HB.out)⟩
 ·
  rw [if_neg c2] at H
  have c2b0 : decide (40 < (a0_2.size : Int)) = false := decide_eq_false c2
  have c2b1 : decide (40 < a0_2.size) = false := decide_eq_false (by omega)
  clear c2
  have HC5 := Aside0.mk H
  clear H
  go_enter Try.func34, Try.ntmps34
  go_upto_if 9 with (first | ((with_reducible refine gate_dst (N := 1) rfl ?_); refine box_event ?hg (N := 1) ?hd (cs := #[.int .i64 a0_0, .int .i64 a0_1, .string a0_2, .int .i64 a0_3, .string a0_4, .int .i64 a0_5]) (t := 34) ?hr ?_; (case hd => rfl); (case hg => rfl); (case hr => first | (go_simp; done) | (go_simp; rfl)); intro gb414 hg w6 hbox hb; have BK414 := Aside0.mk (hbox); have GW414 := Aside0.mk ((by rw [hg]; exact (below_size (bw HB.out)) : w.heap.size ≤ gb414)); have GE414 := Aside0.mk ((by rw [hg]; exact (below_size (bw HB.out)) : w.heap.size ≤ gb414)); replace HB := Aside0.mk (below_step (bw HB.out) hb); clear hb hbox hg; have hcz7_0 : w6.cell? ⟨gb414, 0, none⟩ = some (.int .i64 a0_0) := (blk_cell BK414.out 0).trans rfl; have hcz7_1 : w6.cell? ⟨gb414, 1, none⟩ = some (.int .i64 a0_1) := (blk_cell BK414.out 1).trans rfl; have hcz7_2 : w6.cell? ⟨gb414, 2, none⟩ = some (.string a0_2) := (blk_cell BK414.out 2).trans rfl; have hcz7_3 : w6.cell? ⟨gb414, 3, none⟩ = some (.int .i64 a0_3) := (blk_cell BK414.out 3).trans rfl; have hcz7_4 : w6.cell? ⟨gb414, 4, none⟩ = some (.string a0_4) := (blk_cell BK414.out 4).trans rfl; have hcz7_5 : w6.cell? ⟨gb414, 5, none⟩ = some (.int .i64 a0_5) := (blk_cell BK414.out 5).trans rfl; have hfz7_0 := blk_frozen BK414.out 0; have hfz7_1 := blk_frozen BK414.out 1; have hfz7_2 := blk_frozen BK414.out 2; have hfz7_3 := blk_frozen BK414.out 3; have hfz7_4 := blk_frozen BK414.out 4; have hfz7_5 := blk_frozen BK414.out 5))
  (try simp only [Act.put, List.setIfInBounds_toArray, List.set_cons_zero, List.set_cons_succ])
  go_cut [9] (fun v9 wc => ∃ (kq : Nat) (x9_4 : Bool), v9 = .bool x9_4 ∧ Aside0 (deaddropref7_Right.j0 kq a0_3 x9_4 a0_0 a0_1 a0_2 a0_3 a0_4 a0_5 = some r) ∧ Aside0 (kq ≤ k) ∧ Aside0 (wc.heap[gb414]? = some (.cells #[.int .i64 a0_0, .int .i64 a0_1, .string a0_2, .int .i64 a0_3, .string a0_4, .int .i64 a0_5] 34 (0, 0))) ∧ Aside0 (Below w.heap.size w wc))
  case first =>
   have H := HC5.out
   clear HC5
   by_cases c8 : a0_3 = 1
   ·
    rw [if_pos c8] at H
    have c8b0 : (a0_3 == 1) = true := beq_iff_eq.mpr c8
    have c8b1 : (a0_3 != 1) = false := bne_eq_false_iff_eq.mpr c8
    clear c8
    (first | rw [c8b0] | (simp only [i64_w, i32_w]; rw [c8b0]) | skip)
    have H' := Aside0.mk H
    clear H
    go_wp2
    go_meet
    case rel => exact ⟨_, ((a0_3 == 1)), ok_, H', ⟨by first | omega | exact Nat.le_refl _⟩, ⟨by (with_reducible repeat (first | refine blk_drewN ?_ _ | refine blk_drew ?_ | refine blk_alloc ?_ _)); exact BK414.out⟩, ⟨by repeat (first | (with_reducible first | exact HB.out | apply below_alloc | apply pw_below_drewN | apply below_drew1 | refine below_set ?_ GE414.out) | exact HB.out)⟩⟩
   ·
    rw [if_neg c8] at H
    have c8b0 : (a0_3 == 1) = false := beq_eq_false_iff_ne.mpr c8
    have c8b1 : (a0_3 != 1) = true := bne_iff_ne.mpr c8
    (first | rw [c8b0] | (simp only [i64_w, i32_w]; rw [c8b0]) | skip)
    have H' := Aside0.mk H
    clear H
    go_wp2
    go_meet
    case rel => exact ⟨_, ((a0_3 == 2)), ok_, H', ⟨by first | omega | exact Nat.le_refl _⟩, ⟨by (with_reducible repeat (first | refine blk_drewN ?_ _ | refine blk_drew ?_ | refine blk_alloc ?_ _)); exact BK414.out⟩, ⟨by repeat (first | (with_reducible first | exact HB.out | apply below_alloc | apply pw_below_drewN | apply below_drew1 | refine below_set ?_ GE414.out) | exact HB.out)⟩⟩
  case rest =>
   clear HC5
   try clear c2
   try clear c2b0
   try clear c2b1
   try clear p2
   try clear c3
   try clear c8
   try clear c8b0
   try clear c8b1
   try clear hcz4_0
   try clear hcz4_1
   try clear hcz4_2
   try clear hcz4_3
   try clear hcz4_4
   try clear hcz4_5
   try clear hcz7_0
   try clear hcz7_1
   try clear hcz7_2
   try clear hcz7_3
   try clear hcz7_4
   try clear hcz7_5
   try clear hfz4_0
   try clear hfz4_1
   try clear hfz4_2
   try clear hfz4_3
   try clear hfz4_4
   try clear hfz4_5
   try clear hfz7_0
   try clear hfz7_1
   try clear hfz7_2
   try clear hfz7_3
   try clear hfz7_4
   try clear hfz7_5
   obtain ⟨kq, x9_4, rfl, HA, HJ4, BK414, HB⟩ := hcut
   cases kq with
   | zero => exact absurd HA.out (by simp [deaddropref7_Right.j0])
   | succ kj4 =>
    have H := HA.out
    clear HA
    simp only [deaddropref7_Right.j0] at H
    by_cases c9 : x9_4 = true
    ·
     subst c9
     have H1 : (if (a0_4.size : Int) ≤ 200 then (some (a0_5 == 0)) else (some false)) = some r := by rw [if_pos rfl] at H; exact H
     clear H
     have H := H1
     clear H1
     by_cases c10 : (a0_4.size : Int) ≤ 200
     ·
      rw [if_pos c10] at H
      have c10b0 : decide ((a0_4.size : Int) ≤ 200) = true := decide_eq_true c10
      have c10b1 : decide (a0_4.size ≤ 200) = true := decide_eq_true (by omega)
      clear c10
      obtain rfl := Option.some.inj H
      have hcz11_0 : wc.cell? ⟨gb414, 0, none⟩ = some (.int .i64 a0_0) := (blk_cell BK414.out 0).trans rfl
      have hcz11_1 : wc.cell? ⟨gb414, 1, none⟩ = some (.int .i64 a0_1) := (blk_cell BK414.out 1).trans rfl
      have hcz11_2 : wc.cell? ⟨gb414, 2, none⟩ = some (.string a0_2) := (blk_cell BK414.out 2).trans rfl
      have hcz11_3 : wc.cell? ⟨gb414, 3, none⟩ = some (.int .i64 a0_3) := (blk_cell BK414.out 3).trans rfl
      have hcz11_4 : wc.cell? ⟨gb414, 4, none⟩ = some (.string a0_4) := (blk_cell BK414.out 4).trans rfl
      have hcz11_5 : wc.cell? ⟨gb414, 5, none⟩ = some (.int .i64 a0_5) := (blk_cell BK414.out 5).trans rfl
      have hfz11_0 := blk_frozen BK414.out 0
      have hfz11_1 := blk_frozen BK414.out 1
      have hfz11_2 := blk_frozen BK414.out 2
      have hfz11_3 := blk_frozen BK414.out 3
      have hfz11_4 := blk_frozen BK414.out 4
      have hfz11_5 := blk_frozen BK414.out 5
      go_wp2
      go_ret
      exact ⟨by first | rfl | (simp [errW_none, errW_some] <;> rfl) | (simp [*, errW_none, errW_some] <;> rfl), by repeat (first | (with_reducible first | exact HB.out | apply below_alloc | apply pw_below_drewN | apply below_drew1 | refine below_set ?_ GE414.out) | exact HB.out)⟩
     ·
      rw [if_neg c10] at H
      have c10b0 : decide ((a0_4.size : Int) ≤ 200) = false := decide_eq_false c10
      have c10b1 : decide (a0_4.size ≤ 200) = false := decide_eq_false (by omega)
      clear c10
      obtain rfl := Option.some.inj H
      have hcz12_0 : wc.cell? ⟨gb414, 0, none⟩ = some (.int .i64 a0_0) := (blk_cell BK414.out 0).trans rfl
      have hcz12_1 : wc.cell? ⟨gb414, 1, none⟩ = some (.int .i64 a0_1) := (blk_cell BK414.out 1).trans rfl
      have hcz12_2 : wc.cell? ⟨gb414, 2, none⟩ = some (.string a0_2) := (blk_cell BK414.out 2).trans rfl
      have hcz12_3 : wc.cell? ⟨gb414, 3, none⟩ = some (.int .i64 a0_3) := (blk_cell BK414.out 3).trans rfl
      have hcz12_4 : wc.cell? ⟨gb414, 4, none⟩ = some (.string a0_4) := (blk_cell BK414.out 4).trans rfl
      have hcz12_5 : wc.cell? ⟨gb414, 5, none⟩ = some (.int .i64 a0_5) := (blk_cell BK414.out 5).trans rfl
      have hfz12_0 := blk_frozen BK414.out 0
      have hfz12_1 := blk_frozen BK414.out 1
      have hfz12_2 := blk_frozen BK414.out 2
      have hfz12_3 := blk_frozen BK414.out 3
      have hfz12_4 := blk_frozen BK414.out 4
      have hfz12_5 := blk_frozen BK414.out 5
      go_wp2
      go_ret
      exact ⟨by first | rfl | (simp [errW_none, errW_some] <;> rfl) | (simp [*, errW_none, errW_some] <;> rfl), by repeat (first | (with_reducible first | exact HB.out | apply below_alloc | apply pw_below_drewN | apply below_drew1 | refine below_set ?_ GE414.out) | exact HB.out)⟩
    ·
     replace c9 := Bool.eq_false_iff.mpr c9
     subst c9
     have H1 : (if a0_3 = 3 then (if a0_4.toList = ([] : List UInt8) then (if a0_5 ≥ (-1099511627776) then (some (decide (a0_5 ≤ 1099511627776))) else (some false)) else (some false)) else (some false)) = some r := by rw [if_neg (show ¬ (false = true) by decide)] at H; exact H
     clear H
     have H := H1
     clear H1
     by_cases c13 : a0_3 = 3
     ·
      rw [if_pos c13] at H
      have c13b0 : (a0_3 == 3) = true := beq_iff_eq.mpr c13
      have c13b1 : (a0_3 != 3) = false := bne_eq_false_iff_eq.mpr c13
      clear c13
      by_cases c14 : a0_4.toList = ([] : List UInt8)
      ·
       rw [if_pos c14] at H
       have c14b0 : (a0_4.toList == ([] : List UInt8)) = true := beq_iff_eq.mpr c14
       have c14b1 : (a0_4.toList != ([] : List UInt8)) = false := bne_eq_false_iff_eq.mpr c14
       clear c14
       by_cases c15 : a0_5 ≥ (-1099511627776)
       ·
        rw [if_pos c15] at H
        have c15b0 : decide ((-1099511627776) ≤ a0_5) = true := decide_eq_true c15
        clear c15
        obtain rfl := Option.some.inj H
        have hcz16_0 : wc.cell? ⟨gb414, 0, none⟩ = some (.int .i64 a0_0) := (blk_cell BK414.out 0).trans rfl
        have hcz16_1 : wc.cell? ⟨gb414, 1, none⟩ = some (.int .i64 a0_1) := (blk_cell BK414.out 1).trans rfl
        have hcz16_2 : wc.cell? ⟨gb414, 2, none⟩ = some (.string a0_2) := (blk_cell BK414.out 2).trans rfl
        have hcz16_3 : wc.cell? ⟨gb414, 3, none⟩ = some (.int .i64 a0_3) := (blk_cell BK414.out 3).trans rfl
        have hcz16_4 : wc.cell? ⟨gb414, 4, none⟩ = some (.string a0_4) := (blk_cell BK414.out 4).trans rfl
        have hcz16_5 : wc.cell? ⟨gb414, 5, none⟩ = some (.int .i64 a0_5) := (blk_cell BK414.out 5).trans rfl
        have hfz16_0 := blk_frozen BK414.out 0
        have hfz16_1 := blk_frozen BK414.out 1
        have hfz16_2 := blk_frozen BK414.out 2
        have hfz16_3 := blk_frozen BK414.out 3
        have hfz16_4 := blk_frozen BK414.out 4
        have hfz16_5 := blk_frozen BK414.out 5
        go_wp2
        go_ret
        exact ⟨by first | rfl | (simp [errW_none, errW_some] <;> rfl) | (simp [*, errW_none, errW_some] <;> rfl), by repeat (first | (with_reducible first | exact HB.out | apply below_alloc | apply pw_below_drewN | apply below_drew1 | refine below_set ?_ GE414.out) | exact HB.out)⟩
       ·
        rw [if_neg c15] at H
        have c15b0 : decide ((-1099511627776) ≤ a0_5) = false := decide_eq_false c15
        clear c15
        obtain rfl := Option.some.inj H
        have hcz17_0 : wc.cell? ⟨gb414, 0, none⟩ = some (.int .i64 a0_0) := (blk_cell BK414.out 0).trans rfl
        have hcz17_1 : wc.cell? ⟨gb414, 1, none⟩ = some (.int .i64 a0_1) := (blk_cell BK414.out 1).trans rfl
        have hcz17_2 : wc.cell? ⟨gb414, 2, none⟩ = some (.string a0_2) := (blk_cell BK414.out 2).trans rfl
        have hcz17_3 : wc.cell? ⟨gb414, 3, none⟩ = some (.int .i64 a0_3) := (blk_cell BK414.out 3).trans rfl
        have hcz17_4 : wc.cell? ⟨gb414, 4, none⟩ = some (.string a0_4) := (blk_cell BK414.out 4).trans rfl
        have hcz17_5 : wc.cell? ⟨gb414, 5, none⟩ = some (.int .i64 a0_5) := (blk_cell BK414.out 5).trans rfl
        have hfz17_0 := blk_frozen BK414.out 0
        have hfz17_1 := blk_frozen BK414.out 1
        have hfz17_2 := blk_frozen BK414.out 2
        have hfz17_3 := blk_frozen BK414.out 3
        have hfz17_4 := blk_frozen BK414.out 4
        have hfz17_5 := blk_frozen BK414.out 5
        go_wp2
        go_ret
        exact ⟨by first | rfl | (simp [errW_none, errW_some] <;> rfl) | (simp [*, errW_none, errW_some] <;> rfl), by repeat (first | (with_reducible first | exact HB.out | apply below_alloc | apply pw_below_drewN | apply below_drew1 | refine below_set ?_ GE414.out) | exact HB.out)⟩
      ·
       rw [if_neg c14] at H
       have c14b0 : (a0_4.toList == ([] : List UInt8)) = false := beq_eq_false_iff_ne.mpr c14
       have c14b1 : (a0_4.toList != ([] : List UInt8)) = true := bne_iff_ne.mpr c14
       obtain rfl := Option.some.inj H
       have hcz18_0 : wc.cell? ⟨gb414, 0, none⟩ = some (.int .i64 a0_0) := (blk_cell BK414.out 0).trans rfl
       have hcz18_1 : wc.cell? ⟨gb414, 1, none⟩ = some (.int .i64 a0_1) := (blk_cell BK414.out 1).trans rfl
       have hcz18_2 : wc.cell? ⟨gb414, 2, none⟩ = some (.string a0_2) := (blk_cell BK414.out 2).trans rfl
       have hcz18_3 : wc.cell? ⟨gb414, 3, none⟩ = some (.int .i64 a0_3) := (blk_cell BK414.out 3).trans rfl
       have hcz18_4 : wc.cell? ⟨gb414, 4, none⟩ = some (.string a0_4) := (blk_cell BK414.out 4).trans rfl
       have hcz18_5 : wc.cell? ⟨gb414, 5, none⟩ = some (.int .i64 a0_5) := (blk_cell BK414.out 5).trans rfl
       have hfz18_0 := blk_frozen BK414.out 0
       have hfz18_1 := blk_frozen BK414.out 1
       have hfz18_2 := blk_frozen BK414.out 2
       have hfz18_3 := blk_frozen BK414.out 3
       have hfz18_4 := blk_frozen BK414.out 4
       have hfz18_5 := blk_frozen BK414.out 5
       go_wp2
       go_ret
       exact ⟨by first | rfl | (simp [errW_none, errW_some] <;> rfl) | (simp [*, errW_none, errW_some] <;> rfl), by repeat (first | (with_reducible first | exact HB.out | apply below_alloc | apply pw_below_drewN | apply below_drew1 | refine below_set ?_ GE414.out) | exact HB.out)⟩
     ·
      rw [if_neg c13] at H
      have c13b0 : (a0_3 == 3) = false := beq_eq_false_iff_ne.mpr c13
      have c13b1 : (a0_3 != 3) = true := bne_iff_ne.mpr c13
      obtain rfl := Option.some.inj H
      go_wp2
      go_ret
      exact ⟨by first | rfl | (simp [errW_none, errW_some] <;> rfl) | (simp [*, errW_none, errW_some] <;> rfl), by repeat (first | (with_reducible first | exact HB.out | apply below_alloc | apply pw_below_drewN | apply below_drew1 | refine below_set ?_ GE414.out) | exact HB.out)⟩

end Go.Proofs.Ytaonemedoikieaa.Q
