-- Written by a program of this work (wip/tools/mkprint.py) over the kit's print; Lean checks it.
import Derived.Test.YtjmehnlhfcidaaaPx0
import Derived.Test.YtjmehnlhfcidaaaPx1
import Derived.Test.YtjmehnlhfcidaaaPx8
namespace Go.Proofs.Ytjmehnlhfcidaaa.P
open Go.RowKit Go.Proofs.YtjmehnlhfcidaaaW.PrintWords Go.Proofs.YtjmehnlhfcidaaaW.PrintLast Go.Proofs.YtjmehnlhfcidaaaW.PrintMore Go.Proofs.Ytjmehnlhfcidaaa.HW
attribute [local go_sem] max2_int min2_int max_two min_two max_three min_three max_four min_four   -- for this text's walks alone
set_option linter.unusedVariables false
set_option linter.unusedSimpArgs false

/-! ### deaddroplaw15_Chain: function 12 -/
mutual
def deaddroplaw15_Chain.l0 : Nat → List Int → List (S32) → Int → Option ((List (S32)))
 | 0, _, _, _ => none
 | k + 1, x0, x3, x4 => if x4 < (x0.length : Int) then (deaddroplaw15_Chain.j1 k x0 x3 x4 (decide ((x3.length : Int) < 30))) else (deaddroplaw15_Chain.j1 k x0 x3 x4 false)
def deaddroplaw15_Chain.j1 : Nat → List Int → List (S32) → Int → Bool → Option ((List (S32)))
 | 0, _, _, _, _ => none
 | k + 1, x0, x3, x4, x16 => if x16 = true then (if 0 ≤ (wrap64 ((x3.length : Int) - 1)) then (if (wrap64 ((x3.length : Int) - 1)) < (x3.length : Int) then ((deaddropref14_Hash.f k ((rd_T32 x3 (wrap64 ((x3.length : Int) - 1))).f0) ((rd_T32 x3 (wrap64 ((x3.length : Int) - 1))).f1) ((rd_T32 x3 (wrap64 ((x3.length : Int) - 1))).f2) ((rd_T32 x3 (wrap64 ((x3.length : Int) - 1))).f3) ((rd_T32 x3 (wrap64 ((x3.length : Int) - 1))).f4) ((rd_T32 x3 (wrap64 ((x3.length : Int) - 1))).f5)).bind fun t230 => (if 0 ≤ x4 then (if x4 < (x0.length : Int) then ((deaddropref14_In.f k x3 (x3.length : Int) (wrap64 (1 + (Int.tmod (wrap64 (rd x0 x4)) 7)))).bind fun t233 => (if t233 = true then (deaddroplaw15_Chain.j2 k x0 x3 x4 (wrap64 ((x3.length : Int) + 1)) t230 2 (wrap64 (1 + (Int.tmod (wrap64 (rd x0 x4)) 7))) (⟨#[]⟩ : ByteArray)) else (deaddroplaw15_Chain.j2 k x0 x3 x4 (wrap64 ((x3.length : Int) + 1)) t230 1 (wrap64 (1 + (Int.tmod (wrap64 (rd x0 x4)) 7))) (⟨#[]⟩ : ByteArray)))) else (none)) else (none))) else (none)) else (none)) else (some x3)
def deaddroplaw15_Chain.j2 : Nat → List Int → List (S32) → Int → Int → ByteArray → Int → Int → ByteArray → Option ((List (S32)))
 | 0, _, _, _, _, _, _, _, _ => none
 | k + 1, x0, x3, x4, x233000, x233001, x233002, x233003, x233005 => if 0 ≤ x4 then (if x4 < (x0.length : Int) then (if (rd x0 x4) > 127 then (if x3.length < 1759218604441 then (deaddroplaw15_Chain.l0 k x0 (x3 ++ [(⟨x233000, x233001, x233002, x233003, ([] : List (S55)), (⟨#[48, 49, 50, 51, 52, 53, 54, 55, 56, 57, 97, 98, 99, 100, 101, 102]⟩ : ByteArray)⟩ : S32)]) (wrap64 (x4 + 1))) else (none)) else (if x3.length < 1759218604441 then (deaddroplaw15_Chain.l0 k x0 (x3 ++ [(⟨x233000, x233001, x233002, x233003, ([] : List (S55)), x233005⟩ : S32)]) (wrap64 (x4 + 1))) else (none))) else (none)) else (none)
end
def deaddroplaw15_Chain.f (k : Nat) (l0 : List Int) : Option ((List (S32))) := deaddroplaw15_Chain.l0 k l0 (([(⟨1, (⟨#[]⟩ : ByteArray), 1, 0, ([] : List (S55)), (⟨#[]⟩ : ByteArray)⟩ : S32)] : List (S32))) 0
theorem deaddroplaw15_Chain.mono_l : ∀ k, (∀ y0 y1 y2, LeO (deaddroplaw15_Chain.l0 k y0 y1 y2) (deaddroplaw15_Chain.l0 (k + 1) y0 y1 y2)) ∧ (∀ y0 y1 y2 y3, LeO (deaddroplaw15_Chain.j1 k y0 y1 y2 y3) (deaddroplaw15_Chain.j1 (k + 1) y0 y1 y2 y3)) ∧ (∀ y0 y1 y2 y3 y4 y5 y6 y7, LeO (deaddroplaw15_Chain.j2 k y0 y1 y2 y3 y4 y5 y6 y7) (deaddroplaw15_Chain.j2 (k + 1) y0 y1 y2 y3 y4 y5 y6 y7))
 | 0 => ⟨fun _ _ _ r h => by simp [deaddroplaw15_Chain.l0] at h, fun _ _ _ _ r h => by simp [deaddroplaw15_Chain.j1] at h, fun _ _ _ _ _ _ _ _ r h => by simp [deaddroplaw15_Chain.j2] at h⟩
 | k + 1 => by
  obtain ⟨ih0, ih1, ih2⟩ := deaddroplaw15_Chain.mono_l k
  refine ⟨?_, ?_, ?_⟩
  ·
   intro y0 y1 y2
   unfold deaddroplaw15_Chain.l0
   repeat' first
   | (with_reducible exact ih0 _ _ _)
   | (with_reducible exact ih1 _ _ _ _)
   | (with_reducible exact ih2 _ _ _ _ _ _ _ _)
   | (with_reducible exact deaddropref14_Hash.mono _ _ _ _ _ _ _)
   | (with_reducible exact deaddropref14_In.mono _ _ _ _)
   | (with_reducible exact LeO.refl _)
   | (with_reducible exact LeO.none _)
   | (with_reducible refine LeO.ite ?_ ?_)
   | (with_reducible refine LeO.bind ?_ (fun _ => ?_))
   | exact ih0 _ _ _
   | exact ih1 _ _ _ _
   | exact ih2 _ _ _ _ _ _ _ _
   | exact deaddropref14_Hash.mono _ _ _ _ _ _ _
   | exact deaddropref14_In.mono _ _ _ _
   | exact LeO.none _
   | refine LeO.ite ?_ ?_
   | refine LeO.bind ?_ (fun _ => ?_)
  ·
   intro y0 y1 y2 y3
   unfold deaddroplaw15_Chain.j1
   repeat' first
   | (with_reducible exact ih0 _ _ _)
   | (with_reducible exact ih1 _ _ _ _)
   | (with_reducible exact ih2 _ _ _ _ _ _ _ _)
   | (with_reducible exact deaddropref14_Hash.mono _ _ _ _ _ _ _)
   | (with_reducible exact deaddropref14_In.mono _ _ _ _)
   | (with_reducible exact LeO.refl _)
   | (with_reducible exact LeO.none _)
   | (with_reducible refine LeO.ite ?_ ?_)
   | (with_reducible refine LeO.bind ?_ (fun _ => ?_))
   | exact ih0 _ _ _
   | exact ih1 _ _ _ _
   | exact ih2 _ _ _ _ _ _ _ _
   | exact deaddropref14_Hash.mono _ _ _ _ _ _ _
   | exact deaddropref14_In.mono _ _ _ _
   | exact LeO.none _
   | refine LeO.ite ?_ ?_
   | refine LeO.bind ?_ (fun _ => ?_)
  ·
   intro y0 y1 y2 y3 y4 y5 y6 y7
   unfold deaddroplaw15_Chain.j2
   repeat' first
   | (with_reducible exact ih0 _ _ _)
   | (with_reducible exact ih1 _ _ _ _)
   | (with_reducible exact ih2 _ _ _ _ _ _ _ _)
   | (with_reducible exact deaddropref14_Hash.mono _ _ _ _ _ _ _)
   | (with_reducible exact deaddropref14_In.mono _ _ _ _)
   | (with_reducible exact LeO.refl _)
   | (with_reducible exact LeO.none _)
   | (with_reducible refine LeO.ite ?_ ?_)
   | (with_reducible refine LeO.bind ?_ (fun _ => ?_))
   | exact ih0 _ _ _
   | exact ih1 _ _ _ _
   | exact ih2 _ _ _ _ _ _ _ _
   | exact deaddropref14_Hash.mono _ _ _ _ _ _ _
   | exact deaddropref14_In.mono _ _ _ _
   | exact LeO.none _
   | refine LeO.ite ?_ ?_
   | refine LeO.bind ?_ (fun _ => ?_)
theorem deaddroplaw15_Chain.mono : ∀ a0 k, LeO (deaddroplaw15_Chain.f k a0) (deaddroplaw15_Chain.f (k + 1) a0) := by
 intro a0 k
 obtain ⟨ih0, ih1, ih2⟩ := deaddroplaw15_Chain.mono_l k
 unfold deaddroplaw15_Chain.f
 repeat' first
  | (with_reducible exact ih0 _ _ _)
  | (with_reducible exact ih1 _ _ _ _)
  | (with_reducible exact ih2 _ _ _ _ _ _ _ _)
  | (with_reducible exact deaddropref14_Hash.mono _ _ _ _ _ _ _)
  | (with_reducible exact deaddropref14_In.mono _ _ _ _)
  | (with_reducible exact LeO.refl _)
  | (with_reducible exact LeO.none _)
  | (with_reducible refine LeO.ite ?_ ?_)
  | (with_reducible refine LeO.bind ?_ (fun _ => ?_))
  | exact ih0 _ _ _
  | exact ih1 _ _ _ _
  | exact ih2 _ _ _ _ _ _ _ _
  | exact deaddropref14_Hash.mono _ _ _ _ _ _ _
  | exact deaddropref14_In.mono _ _ _ _
  | exact LeO.none _
  | refine LeO.ite ?_ ?_
  | refine LeO.bind ?_ (fun _ => ?_)
def deaddroplaw15_Chain.T5 : Bool × List (List Nat × List Nat) := (true, [([], []), ([0], [0]), ([1], [1]), ([], []), ([], []), ([4], [4]), ([5], [5]), ([3, 6], [3, 6]), ([7], [7]), ([8], [8]), ([], []), ([], []), ([10, 11], [10, 11]), ([12], [12]), ([13], [13]), ([14], [14]), ([15], [15]), ([2, 9, 16], [2, 9, 16]), ([], []), ([18, 17, 9, 0, 1, 2, 3, 4, 5, 6, 7, 8, 9, 10, 11, 12, 13, 14, 15, 16, 17, 18], [17, 18])])
def deaddroplaw15_Chain.B5 : List Nat := [0, 1, 3, 0, 0, 16, 48, 120, 248, 504, 0, 0, 3072, 7168, 15360, 31744, 64512, 131071, 0, 524287]
theorem deaddroplaw15_Chain.tab5 : rtab .any (opsOf Try.f12 5) = deaddroplaw15_Chain.T5 := by kernel_rfl
theorem deaddroplaw15_Chain.bits5 : waitsOk deaddroplaw15_Chain.T5.2 deaddroplaw15_Chain.B5 = true := by kernel_rfl
set_option maxHeartbeats 8000000 in
set_option maxRecDepth 100000 in
theorem deaddroplaw15_Chain.calls (k : Nat) (A0 : Option Addr) (c0 : Nat) (l0 : List Int) (r : List (S32)) (w : World) (hr0 : Kd.C (Kd.int .u8) w A0 l0.length l0) (hc0 : l0.length ≤ c0) (h : deaddroplaw15_Chain.f k l0 = some r) :
 Calls Try.prog 12 #[.slice A0 l0.length c0] w fun e w' => ∃ v0_ : Value, e = .returned (v0_) ∧ Kd.S k32 32 w' w.heap.size (fun _ => True) v0_ r ∧ Below w.heap.size w w' := by
 have hu32 := Try.underlying32
 have HR0 := Aside0.mk hr0
 have HC0 := Aside0.mk hc0
 clear hr0 hc0
 have HB := Aside0.mk (Below.refl w.heap.size w)
 have H : (deaddroplaw15_Chain.l0 k l0 (([(⟨1, (⟨#[]⟩ : ByteArray), 1, 0, ([] : List (S55)), (⟨#[]⟩ : ByteArray)⟩ : S32)] : List (S32))) 0) = some r := h
 clear h
 obtain ⟨y226, hy226⟩ : ∃ y_ : List (S32), y_ = (([(⟨1, (⟨#[]⟩ : ByteArray), 1, 0, ([] : List (S55)), (⟨#[]⟩ : ByteArray)⟩ : S32)] : List (S32))) := ⟨_, rfl⟩
 replace H : (deaddroplaw15_Chain.l0 k l0 y226 0) = some r := by first | (rw [hy226]; with_reducible exact H) | (have H2_ := (Option.bind_some _ _).symm.trans H; rw [hy226]; with_reducible exact H2_) | (have H2_ := (Option.bind_some _ _).symm.trans H; with_reducible exact H2_) | with_reducible exact H | (rw [hy226]; exact H) | exact H
 have Ny226 := Aside0.mk hy226
 clear hy226
 have H' := Aside0.mk H
 clear H
 go_enter Try.func12, Try.ntmps12
 go_wp2_with (first | ((with_reducible refine gate_dst (N := 7) rfl ?_); (try (refine gate_guard (by rfl) ?_; dsimp only)); refine Kd.S_lit k32 _ 32 ?hg (N := 7) ?hd (xs := ([(⟨1, (⟨#[]⟩ : ByteArray), 1, 0, ([] : List (S55)), (⟨#[]⟩ : ByteArray)⟩ : S32)] : List (S32))) (inner := [.int .i64 1, .string (⟨#[]⟩ : ByteArray), .int .i64 1, .int .i64 0, .slice none 0 0, .string (⟨#[]⟩ : ByteArray)]) (ok := fun _ => True) (okp := fun _ => True) ?hr ?hp (fun _ hk => hk) trivial (Below.refl _ _) (Nat.le_refl _) (by simp) ?_; (case hd => rfl); (case hg => rfl); (case hr => first | (go_simp; done) | (go_simp; rfl)); (case hp => exact (Reps.c6 (show Kd.M k32 _ _ _ (⟨1, (⟨#[]⟩ : ByteArray), 1, 0, ([] : List (S55)), (⟨#[]⟩ : ByteArray)⟩ : S32) [.int .i64 1, .string (⟨#[]⟩ : ByteArray), .int .i64 1, .int .i64 0, .slice none 0 0, .string (⟨#[]⟩ : ByteArray)] from (k32_mkM _ _ _ (⟨1, (⟨#[]⟩ : ByteArray), 1, 0, ([] : List (S55)), (⟨#[]⟩ : ByteArray)⟩ : S32) (Kd.R_nil _ _ _ _ _))) (Reps.none _ _))); intro v227 w2 ho3 hb hg_ hnew_; clear hg_ hnew_; (first | rw [← Ny226.out] at ho3 | (simp only [Int.reduceToNat] at ho3; rw [← Ny226.out] at ho3)); have n0_ := Aside0.mk (Kd.S_lower ho3 (below_size (by repeat (first | (with_reducible first | exact HB.out | apply below_alloc | apply pw_below_drewN | apply below_drew1) | exact HB.out)))); have n1_ := Aside0.mk (below_step (by repeat (first | (with_reducible first | exact HB.out | apply below_alloc | apply pw_below_drewN | apply below_drew1) | exact HB.out)) hb); clear HB; have HO228 := n0_; have HB := n1_; clear n0_ n1_; clear hb ho3))
 go_loopg [3, 4] k (fun kq v3 v4 w' => ∃ (x3_1 : List (S32)) (x4_1 : Int), v4 = .int .i64 x4_1 ∧ Aside0 (deaddroplaw15_Chain.l0 kq l0 x3_1 x4_1 = some r) ∧ Aside0 (kq ≤ k) ∧ Aside0 (Kd.S k32 32 w' w.heap.size (fun _ => True) v3 x3_1) ∧ Aside0 (Below w.heap.size w w'))
 case atStart => exact ⟨(y226), (0), (by first | rfl | (simp; done) | (simp [*]; done) | (simp; exact isEmpty_bne_ _)), H', ⟨Nat.le_refl _⟩, ⟨by (with_reducible repeat (first | apply Kd.S_alloc | apply Kd.S_drewN | apply Kd.S_drew)); exact HO228.out⟩, ⟨by repeat (first | (with_reducible first | exact HB.out | apply below_alloc | apply pw_below_drewN | apply below_drew1) | exact HB.out)⟩⟩
 case round =>
  clear H'
  try clear c1
  try clear p2
  obtain ⟨x3_1, x4_1, rfl, HA, HK1, HO_3, HB⟩ := hrel
  cases gk with
  | zero => exact absurd HA.out (by simp [deaddroplaw15_Chain.l0])
  | succ k1 =>
   have H := HA.out
   clear HA
   simp only [deaddroplaw15_Chain.l0] at H
   have HC4 := Aside0.mk H
   clear H
   go_upto_region 3 with (fail)
   go_cut [16] (fun v16 wc => ∃ (kq : Nat) (x16_3 : Bool), v16 = .bool x16_3 ∧ Aside0 (deaddroplaw15_Chain.j1 kq l0 x3_1 x4_1 x16_3 = some r) ∧ Aside0 (kq ≤ k1) ∧ Aside0 (Kd.S k32 32 wc w.heap.size (fun _ => True) u3 x3_1) ∧ Aside0 (Below w.heap.size w wc))
   case first =>
    have H := HC4.out
    clear HC4
    by_cases c5 : x4_1 < (l0.length : Int)
    ·
     rw [if_pos c5] at H
     have c5b0 : decide (x4_1 < (l0.length : Int)) = true := decide_eq_true c5
     clear c5
     (first | rw [c5b0] | (simp only [i64_w, i32_w]; rw [c5b0]) | skip)
     have H' := Aside0.mk H
     clear H
     obtain ⟨Ao6, co6, eo6⟩ := Kd.S_slice HO_3.out
     subst eo6
     go_wp2
     go_meet
     case rel => exact ⟨_, (decide ((x3_1.length : Int) < 30)), (by first | rfl | (simp; done) | (simp [*]; done) | (simp; exact isEmpty_bne_ _)), H', ⟨by have := HK1.out; first | omega | exact Nat.le_refl _⟩, ⟨by (with_reducible repeat (first | apply Kd.S_alloc | apply Kd.S_drewN | apply Kd.S_drew)); exact HO_3.out⟩, ⟨by repeat (first | (with_reducible first | exact HB.out | apply below_alloc | apply pw_below_drewN | apply below_drew1) | exact HB.out)⟩⟩
    ·
     rw [if_neg c5] at H
     have c5b0 : decide (x4_1 < (l0.length : Int)) = false := decide_eq_false c5
     clear c5
     (first | rw [c5b0] | (simp only [i64_w, i32_w]; rw [c5b0]) | skip)
     have H' := Aside0.mk H
     clear H
     go_wp2
     go_meet
     case rel => exact ⟨_, (false), (by first | rfl | (simp; done) | (simp [*]; done) | (simp; exact isEmpty_bne_ _)), H', ⟨by have := HK1.out; first | omega | exact Nat.le_refl _⟩, ⟨by (with_reducible repeat (first | apply Kd.S_alloc | apply Kd.S_drewN | apply Kd.S_drew)); exact HO_3.out⟩, ⟨by repeat (first | (with_reducible first | exact HB.out | apply below_alloc | apply pw_below_drewN | apply below_drew1) | exact HB.out)⟩⟩
   case rest =>
    clear HC4
    try clear c1
    try clear p2
    try clear c5
    try clear c5b0
    try clear c6
    try clear p2
    obtain ⟨kq, x16_3, rfl, HA, HJ3, HO_3, HB⟩ := hcut
    cases kq with
    | zero => exact absurd HA.out (by simp [deaddroplaw15_Chain.j1])
    | succ kj3 =>
     have H := HA.out
     clear HA
     simp only [deaddroplaw15_Chain.j1] at H
     by_cases c7 : x16_3 = true
     ·
      subst c7
      have H1 : (if 0 ≤ (wrap64 ((x3_1.length : Int) - 1)) then (if (wrap64 ((x3_1.length : Int) - 1)) < (x3_1.length : Int) then ((deaddropref14_Hash.f kj3 ((rd_T32 x3_1 (wrap64 ((x3_1.length : Int) - 1))).f0) ((rd_T32 x3_1 (wrap64 ((x3_1.length : Int) - 1))).f1) ((rd_T32 x3_1 (wrap64 ((x3_1.length : Int) - 1))).f2) ((rd_T32 x3_1 (wrap64 ((x3_1.length : Int) - 1))).f3) ((rd_T32 x3_1 (wrap64 ((x3_1.length : Int) - 1))).f4) ((rd_T32 x3_1 (wrap64 ((x3_1.length : Int) - 1))).f5)).bind fun t230 => (if 0 ≤ x4_1 then (if x4_1 < (l0.length : Int) then ((deaddropref14_In.f kj3 x3_1 (x3_1.length : Int) (wrap64 (1 + (Int.tmod (wrap64 (rd l0 x4_1)) 7)))).bind fun t233 => (if t233 = true then (deaddroplaw15_Chain.j2 kj3 l0 x3_1 x4_1 (wrap64 ((x3_1.length : Int) + 1)) t230 2 (wrap64 (1 + (Int.tmod (wrap64 (rd l0 x4_1)) 7))) (⟨#[]⟩ : ByteArray)) else (deaddroplaw15_Chain.j2 kj3 l0 x3_1 x4_1 (wrap64 ((x3_1.length : Int) + 1)) t230 1 (wrap64 (1 + (Int.tmod (wrap64 (rd l0 x4_1)) 7))) (⟨#[]⟩ : ByteArray)))) else (none)) else (none))) else (none)) else (none)) = some r := by rw [if_pos rfl] at H; exact H
      clear H
      have H := H1
      clear H1
      obtain ⟨ji8, hji8⟩ : ∃ j_ : Int, (wrap64 ((x3_1.length : Int) - 1)) = j_ := ⟨_, rfl⟩
      replace H : (if 0 ≤ (ji8) then (if (ji8) < (x3_1.length : Int) then ((deaddropref14_Hash.f kj3 ((rd_T32 x3_1 (ji8)).f0) ((rd_T32 x3_1 (ji8)).f1) ((rd_T32 x3_1 (ji8)).f2) ((rd_T32 x3_1 (ji8)).f3) ((rd_T32 x3_1 (ji8)).f4) ((rd_T32 x3_1 (ji8)).f5)).bind fun t230 => (if 0 ≤ x4_1 then (if x4_1 < (l0.length : Int) then ((deaddropref14_In.f kj3 x3_1 (x3_1.length : Int) (wrap64 (1 + (Int.tmod (wrap64 (rd l0 x4_1)) 7)))).bind fun t233 => (if t233 = true then (deaddroplaw15_Chain.j2 kj3 l0 x3_1 x4_1 (wrap64 ((x3_1.length : Int) + 1)) t230 2 (wrap64 (1 + (Int.tmod (wrap64 (rd l0 x4_1)) 7))) (⟨#[]⟩ : ByteArray)) else (deaddroplaw15_Chain.j2 kj3 l0 x3_1 x4_1 (wrap64 ((x3_1.length : Int) + 1)) t230 1 (wrap64 (1 + (Int.tmod (wrap64 (rd l0 x4_1)) 7))) (⟨#[]⟩ : ByteArray)))) else (none)) else (none))) else (none)) else (none)) = some r := by first | (rw [hji8] at H; exact H) | (simp only [hji8] at H ⊢; exact H)
      have hji8w : (IntKind.i64.wrap ((x3_1.length : Int) - 1)) = ji8 := (i64_w _).trans hji8
      by_cases c9 : 0 ≤ (ji8)
      ·
       rw [if_pos c9] at H
       have c9b0 : decide (0 ≤ (ji8)) = true := decide_eq_true c9
       clear c9
       by_cases c10 : (ji8) < (x3_1.length : Int)
       ·
        rw [if_pos c10] at H
        have c10b0 : decide ((ji8) < (x3_1.length : Int)) = true := decide_eq_true c10
        clear c10
        replace H := Option.bind_eq_some_iff.mp H
        obtain ⟨t230, A110, H⟩ := H
        replace H : (if 0 ≤ x4_1 then (if x4_1 < (l0.length : Int) then ((deaddropref14_In.f kj3 x3_1 (x3_1.length : Int) (wrap64 (1 + (Int.tmod (wrap64 (rd l0 x4_1)) 7)))).bind fun t233 => (if t233 = true then (deaddroplaw15_Chain.j2 kj3 l0 x3_1 x4_1 (wrap64 ((x3_1.length : Int) + 1)) t230 2 (wrap64 (1 + (Int.tmod (wrap64 (rd l0 x4_1)) 7))) (⟨#[]⟩ : ByteArray)) else (deaddroplaw15_Chain.j2 kj3 l0 x3_1 x4_1 (wrap64 ((x3_1.length : Int) + 1)) t230 1 (wrap64 (1 + (Int.tmod (wrap64 (rd l0 x4_1)) 7))) (⟨#[]⟩ : ByteArray)))) else (none)) else (none)) = some r := H
        have A11 := Aside0.mk A110
        clear A110
        by_cases c12 : 0 ≤ x4_1
        ·
         rw [if_pos c12] at H
         have c12b0 : decide (0 ≤ x4_1) = true := decide_eq_true c12
         clear c12
         by_cases c13 : x4_1 < (l0.length : Int)
         ·
          rw [if_pos c13] at H
          have c13b0 : decide (x4_1 < (l0.length : Int)) = true := decide_eq_true c13
          clear c13
          replace H := Option.bind_eq_some_iff.mp H
          obtain ⟨t233, A140, H⟩ := H
          replace H : (if t233 = true then (deaddroplaw15_Chain.j2 kj3 l0 x3_1 x4_1 (wrap64 ((x3_1.length : Int) + 1)) t230 2 (wrap64 (1 + (Int.tmod (wrap64 (rd l0 x4_1)) 7))) (⟨#[]⟩ : ByteArray)) else (deaddroplaw15_Chain.j2 kj3 l0 x3_1 x4_1 (wrap64 ((x3_1.length : Int) + 1)) t230 1 (wrap64 (1 + (Int.tmod (wrap64 (rd l0 x4_1)) 7))) (⟨#[]⟩ : ByteArray))) = some r := H
          have A14 := Aside0.mk A140
          clear A140
          have HC15 := Aside0.mk H
          clear H
          try go_wp2
          have n0_ := Aside0.mk (Kd.S_drew HO_3.out)
          have n1_ := Aside0.mk (below_drew1 HB.out)
          clear HO_3
          clear HB
          have HO_3 := n0_
          have HB := n1_
          clear n0_ n1_
          obtain ⟨Ao17, co17, eo17⟩ := Kd.S_slice HO_3.out
          (first | subst eo17 | (injection eo17 with f1_ f2_ f3_; have f4_ := f1_.symm; have f5_ := f3_.symm; clear f1_ f2_ f3_; subst f4_; subst f5_))
          have p229 : 0 ≤ ((ji8) : Int) := of_decide_eq_true (by first | (with_reducible assumption) | assumption)
          have q229 : (ji8) < (x3_1.length : Int) := of_decide_eq_true (by first | (with_reducible assumption) | assumption)
          obtain ⟨ad229, A229_4, c229_4, e229, hx229_0, hx229_1, hx229_2, hx229_3, hx229_4, hx229_5, hl229_4, hi229_4⟩ := at_T32 (Kd.S_reads' HO_3.out).2.2 (ji8) p229 q229
          cases e229
          obtain ⟨ce229, hce229, hMe229, hcc229⟩ := Kd.S_get HO_3.out z32 (ji8) p229 (by first | exact q229 | exact of_decide_eq_true (by first | (with_reducible assumption) | assumption) | (have e_ := (Kd.S_reads' HO_3.out).1; omega))
          obtain ⟨ve229_4, rfl, ge229_4⟩ := k32_openM hMe229
          have hv229_4 := hcc229 4 _ rfl
          rw [add_field _ _ 4 (by omega)] at hv229_4
          replace hv229_4 := Option.some.inj (hv229_4.symm.trans hx229_4)
          rw [hv229_4] at ge229_4
          have HL229_4 := Aside0.mk (show Kd.R k55 55 _ _ _ _ ((rd_T32 x3_1 (ji8)).f4) from ge229_4)
          clear hv229_4 ge229_4
          clear hcc229 hce229
          have HR229_4 := Aside0.mk hi229_4
          have HC229_4 := Aside0.mk hl229_4
          clear hi229_4 hl229_4
          replace p229 := eq_true p229
          replace q229 := eq_true q229
          have p231 : 0 ≤ (x4_1 : Int) := of_decide_eq_true (by first | (with_reducible assumption) | assumption)
          have q231 : x4_1 < (l0.length : Int) := of_decide_eq_true (by first | (with_reducible assumption) | assumption)
          obtain ⟨ad231, e231, hx231_0⟩ := Kd.at_int HR0.out x4_1 p231 q231
          have hw231_0 := hx231_0
          cases e231
          replace hx231_0 := (HB.out.cell (World.block_lt_of_cell? w _ hx231_0)).trans hx231_0
          replace p231 := eq_true p231
          replace q231 := eq_true q231
          refine start_ (n := 20) (S := fun w' => w'.cell? (ad229.add (((ji8)).toNat * 6)) = some (.int .i64 ((rd_T32 x3_1 (ji8)).f0)) ∧ w'.cell? ⟨(ad229.add (((ji8)).toNat * 6)).block, (ad229.add (((ji8)).toNat * 6)).off + 1, none⟩ = some (.string ((rd_T32 x3_1 (ji8)).f1)) ∧ w'.cell? ⟨(ad229.add (((ji8)).toNat * 6)).block, (ad229.add (((ji8)).toNat * 6)).off + 2, none⟩ = some (.int .i64 ((rd_T32 x3_1 (ji8)).f2)) ∧ w'.cell? ⟨(ad229.add (((ji8)).toNat * 6)).block, (ad229.add (((ji8)).toNat * 6)).off + 3, none⟩ = some (.int .i64 ((rd_T32 x3_1 (ji8)).f3)) ∧ w'.cell? ⟨(ad229.add (((ji8)).toNat * 6)).block, (ad229.add (((ji8)).toNat * 6)).off + 4, none⟩ = some (.slice A229_4 ((rd_T32 x3_1 (ji8)).f4).length c229_4) ∧ w'.cell? ⟨(ad229.add (((ji8)).toNat * 6)).block, (ad229.add (((ji8)).toNat * 6)).off + 5, none⟩ = some (.string ((rd_T32 x3_1 (ji8)).f5)) ∧ w'.cell? (ad231.add (x4_1).toNat) = some (.int .u8 (rd l0 x4_1))) (ds := []) #[false, false, false, false, false, false, false, false, false, false, false, false, false, false, false, false, false, false, false, false] (by kernel_rfl) rfl rfl ⟨hx229_0, hx229_1, hx229_2, hx229_3, hx229_4, hx229_5, ((HB.out.cell (World.block_lt_of_cell? w _ hw231_0)).trans hw231_0)⟩ (fun hHeld => ?_); refine with_tabW deaddroplaw15_Chain.tab5 deaddroplaw15_Chain.bits5 (fun HT_ HW_ => ?_)
          generalize wc.drew = w16 at HO_3 HB HL229_4 HR229_4 hx229_0 hx229_1 hx229_2 hx229_3 hx229_4 hx229_5 hx231_0 hHeld ⊢
          refine pure_ (i := 0) (N := some 19) (v := ?_) (a' := ?_) #[true, false, false, false, false, false, false, false, false, false, false, false, false, false, false, false, false, false, false, false] rfl rfl (any_of HT_.out (by kernel_rfl)) (fun _ _ _ h => h) (Or.inl ⟨by rfl, ?_⟩) ?_ ?_
          rotate_left
          ·
           intro w'
           go_simp
           with_reducible rfl
          rotate_left
          ·
           simp only [Act.put, List.setIfInBounds_toArray, List.set_cons_zero, List.set_cons_succ, i64_w, i32_w]
           rfl
          refine pure_ (i := 1) (N := some 20) (v := ?_) (a' := ?_) #[true, true, false, false, false, false, false, false, false, false, false, false, false, false, false, false, false, false, false, false] rfl rfl (any_of HT_.out (by kernel_rfl)) (fun _ _ _ h => h) (Or.inl ⟨by rfl, ?_⟩) ?_ ?_
          rotate_left
          ·
           intro w'
           go_simp
           with_reducible rfl
          rotate_left
          ·
           simp only [Act.put, List.setIfInBounds_toArray, List.set_cons_zero, List.set_cons_succ, i64_w, i32_w]
           rfl
          refine pure_ (i := 2) (N := some 21) (v := ?_) (a' := ?_) #[true, true, true, false, false, false, false, false, false, false, false, false, false, false, false, false, false, false, false, false] rfl rfl (any_of HT_.out (by kernel_rfl)) (fun _ _ _ h => h) (Or.inl ⟨by rfl, ?_⟩) ?_ ?_
          rotate_left
          ·
           intro w'
           go_simp
           with_reducible rfl
          rotate_left
          ·
           simp only [Act.put, List.setIfInBounds_toArray, List.set_cons_zero, List.set_cons_succ, i64_w, i32_w]
           rfl
          refine pure_ (i := 3) (N := some 22) (v := ?_) (a' := ?_) #[true, true, true, true, false, false, false, false, false, false, false, false, false, false, false, false, false, false, false, false] rfl rfl (any_of HT_.out (by kernel_rfl)) (fun _ _ _ h => h) (Or.inl ⟨by rfl, ?_⟩) ?_ ?_
          rotate_left
          ·
           intro w'
           go_simp
           with_reducible rfl
          rotate_left
          ·
           simp only [Act.put, List.setIfInBounds_toArray, List.set_cons_zero, List.set_cons_succ, i64_w, i32_w]
           rfl
          refine pure_ (i := 4) (N := some 23) (v := ?_) (a' := ?_) #[true, true, true, true, true, false, false, false, false, false, false, false, false, false, false, false, false, false, false, false] rfl rfl (any_of HT_.out (by kernel_rfl)) (fun _ _ _ h => h) (Or.inl ⟨by rfl, ?_⟩) ?_ ?_
          rotate_left
          ·
           intro w'
           go_simp
           with_reducible rfl
          rotate_left
          ·
           simp only [Act.put, List.setIfInBounds_toArray, List.set_cons_zero, List.set_cons_succ, i64_w, i32_w]
           rfl
          refine pure_ (i := 5) (N := some 24) (v := ?_) (a' := ?_) #[true, true, true, true, true, true, false, false, false, false, false, false, false, false, false, false, false, false, false, false] rfl rfl (any_of HT_.out (by kernel_rfl)) (fun _ _ _ h => h) (Or.inl ⟨by rfl, ?_⟩) ?_ ?_
          rotate_left
          ·
           intro w'
           go_simp
           with_reducible rfl
          rotate_left
          ·
           simp only [Act.put, List.setIfInBounds_toArray, List.set_cons_zero, List.set_cons_succ, i64_w, i32_w]
           rfl
          refine pure_ (i := 6) (N := some 25) (v := ?_) (a' := ?_) #[true, true, true, true, true, true, true, false, false, false, false, false, false, false, false, false, false, false, false, false] rfl rfl (any_of HT_.out (by kernel_rfl)) (fun _ _ _ h => h) (Or.inl ⟨by rfl, ?_⟩) ?_ ?_
          rotate_left
          ·
           intro w'
           go_simp
           with_reducible rfl
          rotate_left
          ·
           simp only [Act.put, List.setIfInBounds_toArray, List.set_cons_zero, List.set_cons_succ, i64_w, i32_w]
           rfl
          refine pure_ (i := 7) (N := some 26) (v := ?_) (a' := ?_) #[true, true, true, true, true, true, true, true, false, false, false, false, false, false, false, false, false, false, false, false] rfl rfl (any_of HT_.out (by kernel_rfl)) (fun _ _ _ h => h) (Or.inl ⟨by rfl, ?_⟩) ?_ ?_
          rotate_left
          ·
           intro w'
           go_simp
           with_reducible rfl
          rotate_left
          ·
           simp only [Act.put, List.setIfInBounds_toArray, List.set_cons_zero, List.set_cons_succ, i64_w, i32_w]
           rfl
          refine pure_ (i := 10) (N := some 29) (v := ?_) (a' := ?_) #[true, true, true, true, true, true, true, true, false, false, true, false, false, false, false, false, false, false, false, false] rfl rfl (any_of HT_.out (by kernel_rfl)) (fun _ _ _ h => h) (Or.inl ⟨by rfl, ?_⟩) ?_ ?_
          rotate_left
          ·
           intro w'
           go_simp
           with_reducible rfl
          rotate_left
          ·
           simp only [Act.put, List.setIfInBounds_toArray, List.set_cons_zero, List.set_cons_succ, i64_w, i32_w]
           rfl
          refine pure_ (i := 11) (N := some 30) (v := ?_) (a' := ?_) #[true, true, true, true, true, true, true, true, false, false, true, true, false, false, false, false, false, false, false, false] rfl rfl (any_of HT_.out (by kernel_rfl)) (fun _ _ _ h => h) (Or.inl ⟨by rfl, ?_⟩) ?_ ?_
          rotate_left
          ·
           intro w'
           go_simp
           with_reducible rfl
          rotate_left
          ·
           simp only [Act.put, List.setIfInBounds_toArray, List.set_cons_zero, List.set_cons_succ, i64_w, i32_w]
           rfl
          refine pure_ (i := 12) (N := some 31) (v := ?_) (a' := ?_) #[true, true, true, true, true, true, true, true, false, false, true, true, true, false, false, false, false, false, false, false] rfl rfl (any_of HT_.out (by kernel_rfl)) (fun _ _ _ h => h) (Or.inl ⟨by rfl, ?_⟩) ?_ ?_
          rotate_left
          ·
           intro w'
           go_simp
           with_reducible rfl
          rotate_left
          ·
           simp only [Act.put, List.setIfInBounds_toArray, List.set_cons_zero, List.set_cons_succ, i64_w, i32_w]
           rfl
          refine take_ (i := 8) (N := some 27) (v := ?_) (a' := ?_) #[true, true, true, true, true, true, true, true, true, false, true, true, true, false, false, false, false, false, false, false] rfl rfl (take_ofW HT_.out HW_.out (by kernel_rfl)) (fun _ _ _ h => h) (Or.inl ⟨by rfl, ?_⟩) hHeld ?_ ?_
          rotate_left
          ·
           rintro w' ⟨s0, s1, s2, s3, s4, s5, s6⟩
           go_simp
           with_reducible rfl
          rotate_left
          ·
           simp only [Act.put, List.setIfInBounds_toArray, List.set_cons_zero, List.set_cons_succ, i64_w, i32_w]
           rfl
          refine take_ (i := 13) (N := some 32) (v := ?_) (a' := ?_) #[true, true, true, true, true, true, true, true, true, false, true, true, true, true, false, false, false, false, false, false] rfl rfl (take_ofW HT_.out HW_.out (by kernel_rfl)) (fun _ _ _ h => h) (Or.inl ⟨by rfl, ?_⟩) hHeld ?_ ?_
          rotate_left
          ·
           rintro w' ⟨s0, s1, s2, s3, s4, s5, s6⟩
           go_simp
           with_reducible rfl
          rotate_left
          ·
           simp only [Act.put, List.setIfInBounds_toArray, List.set_cons_zero, List.set_cons_succ, i64_w, i32_w]
           rfl
          refine pure_ (i := 14) (N := some 33) (v := ?_) (a' := ?_) #[true, true, true, true, true, true, true, true, true, false, true, true, true, true, true, false, false, false, false, false] rfl rfl (any_of HT_.out (by kernel_rfl)) (fun _ _ _ h => h) (Or.inl ⟨by rfl, ?_⟩) ?_ ?_
          rotate_left
          ·
           intro w'
           go_simp
           with_reducible rfl
          rotate_left
          ·
           simp only [Act.put, List.setIfInBounds_toArray, List.set_cons_zero, List.set_cons_succ, i64_w, i32_w]
           rfl
          refine pure_ (i := 15) (N := some 34) (v := ?_) (a' := ?_) #[true, true, true, true, true, true, true, true, true, false, true, true, true, true, true, true, false, false, false, false] rfl rfl (any_of HT_.out (by kernel_rfl)) (fun _ _ _ h => h) (Or.inl ⟨by rfl, ?_⟩) ?_ ?_
          rotate_left
          ·
           intro w'
           go_simp
           with_reducible rfl
          rotate_left
          ·
           simp only [Act.put, List.setIfInBounds_toArray, List.set_cons_zero, List.set_cons_succ, i64_w, i32_w]
           rfl
          refine pure_ (i := 16) (N := some 35) (v := ?_) (a' := ?_) #[true, true, true, true, true, true, true, true, true, false, true, true, true, true, true, true, true, false, false, false] rfl rfl (any_of HT_.out (by kernel_rfl)) (fun _ _ _ h => h) (Or.inl ⟨by rfl, ?_⟩) ?_ ?_
          rotate_left
          ·
           intro w'
           go_simp
           with_reducible rfl
          rotate_left
          ·
           simp only [Act.put, List.setIfInBounds_toArray, List.set_cons_zero, List.set_cons_succ, i64_w, i32_w]
           rfl
          refine join_ (σ := Nat) 1 #[true, true, true, true, true, true, true, true, true, true, true, true, true, true, true, true, true, true, true, false] (fun s_ => [(28, .string t230), (5, .pointer (some ⟨s_, 0, none⟩)), (36, .agg #[.int .i64 (wrap64 ((x3_1.length : Int) + 1)), .string t230, .int .i64 1, .int .i64 (wrap64 (1 + (Int.tmod (wrap64 (rd l0 x4_1)) 7))), .slice none 0 0, .string (⟨#[]⟩ : ByteArray)])]) (fun s_ w' => (w'.cell? (ad229.add (((ji8)).toNat * 6)) = some (.int .i64 ((rd_T32 x3_1 (ji8)).f0)) ∧ w'.cell? ⟨(ad229.add (((ji8)).toNat * 6)).block, (ad229.add (((ji8)).toNat * 6)).off + 1, none⟩ = some (.string ((rd_T32 x3_1 (ji8)).f1)) ∧ w'.cell? ⟨(ad229.add (((ji8)).toNat * 6)).block, (ad229.add (((ji8)).toNat * 6)).off + 2, none⟩ = some (.int .i64 ((rd_T32 x3_1 (ji8)).f2)) ∧ w'.cell? ⟨(ad229.add (((ji8)).toNat * 6)).block, (ad229.add (((ji8)).toNat * 6)).off + 3, none⟩ = some (.int .i64 ((rd_T32 x3_1 (ji8)).f3)) ∧ w'.cell? ⟨(ad229.add (((ji8)).toNat * 6)).block, (ad229.add (((ji8)).toNat * 6)).off + 4, none⟩ = some (.slice A229_4 ((rd_T32 x3_1 (ji8)).f4).length c229_4) ∧ w'.cell? ⟨(ad229.add (((ji8)).toNat * 6)).block, (ad229.add (((ji8)).toNat * 6)).off + 5, none⟩ = some (.string ((rd_T32 x3_1 (ji8)).f5)) ∧ w'.cell? (ad231.add (x4_1).toNat) = some (.int .u8 (rd l0 x4_1))) ∧ (Kd.R k55 55 w' w.heap.size (fun k_ => some k_ ≠ (.slice (some ad229) x3_1.length co17 : Value).ownBlock) (.slice A229_4 ((rd_T32 x3_1 (ji8)).f4).length c229_4) ((rd_T32 x3_1 (ji8)).f4)) ∧ (Kd.S k32 32 w' w.heap.size (fun k_ => k_ ≠ s_) (.slice (some ad229) x3_1.length co17) x3_1) ∧ (w'.heap[s_]? = some (.cells #[.int .i64 0, .string (⟨#[]⟩ : ByteArray), .int .i64 0, .int .i64 0, .slice none 0 0, .string (⟨#[]⟩ : ByteArray)] 32 (0, 0))) ∧ (w.heap.size ≤ s_) ∧ (w.heap.size ≤ s_) ∧ (Below w.heap.size w w')) ?_ ?_
          rotate_left
          ·
           intro hCont
           refine two_ (i := 9) (j := 18) (Ni := some 28) (Nj := some 5) #[true, true, true, true, true, true, true, true, true, true, true, true, true, true, true, true, true, false, false, false] #[true, true, true, true, true, true, true, true, true, false, true, true, true, true, true, true, true, false, true, false] rfl rfl rfl rfl (two_of HT_.out (by kernel_rfl)) (by decide) (by decide) (fun K hK => ?_) (fun K hK => ?_)
           ·
            skip
            refine goes_ Try.func14 (by kernel_rfl) rfl #[.agg #[.int .i64 ((rd_T32 x3_1 (ji8)).f0), .string ((rd_T32 x3_1 (ji8)).f1), .int .i64 ((rd_T32 x3_1 (ji8)).f2), .int .i64 ((rd_T32 x3_1 (ji8)).f3), .slice A229_4 ((rd_T32 x3_1 (ji8)).f4).length c229_4, .string ((rd_T32 x3_1 (ji8)).f5)]] (by rfl) rfl rfl (by (try simp only [List.map_toArray, List.map_cons, List.map_nil]); first | done | (simp only [hji8]; rfl) | rfl | (simp only [List.length_drop, List.length_take]; rfl)) ?_
            with_reducible refine (deaddropref14_Hash.calls kj3 ((rd_T32 x3_1 (ji8)).f0) ((rd_T32 x3_1 (ji8)).f1) ((rd_T32 x3_1 (ji8)).f2) ((rd_T32 x3_1 (ji8)).f3) _ _ ((rd_T32 x3_1 (ji8)).f4) ((rd_T32 x3_1 (ji8)).f5) t230 _ ?side1 ?side2 A11.out).mono ?_
            (case side1 => repeat (first | exact (by repeat (first | (with_reducible exact HR229_4.out) | (with_reducible refine Kd.C_alloc ?_ _) | (with_reducible refine Kd.C_drewN ?_ _) | (with_reducible refine Kd.C_drew ?_) | exact HR229_4.out)) | (with_reducible refine Kd.C_alloc ?_ _) | (with_reducible refine Kd.C_drewN ?_ _) | (with_reducible refine Kd.C_drew ?_)))
            (case side2 => exact HC229_4.out)
            rintro e w18 ⟨rfl, hb⟩
            have HS0_ := (hb.cell (World.block_lt_of_cell? _ _ (hHeld.1))).trans (hHeld.1)
            have HS1_ := (hb.cell (World.block_lt_of_cell? _ _ (hHeld.2.1))).trans (hHeld.2.1)
            have HS2_ := (hb.cell (World.block_lt_of_cell? _ _ (hHeld.2.2.1))).trans (hHeld.2.2.1)
            have HS3_ := (hb.cell (World.block_lt_of_cell? _ _ (hHeld.2.2.2.1))).trans (hHeld.2.2.2.1)
            have HS4_ := (hb.cell (World.block_lt_of_cell? _ _ (hHeld.2.2.2.2.1))).trans (hHeld.2.2.2.2.1)
            have HS5_ := (hb.cell (World.block_lt_of_cell? _ _ (hHeld.2.2.2.2.2.1))).trans (hHeld.2.2.2.2.2.1)
            refine ⟨_, rfl, ?_⟩
            have n0_ := Aside0.mk (Kd.S_below (by (with_reducible repeat (first | apply Kd.S_alloc | apply Kd.S_drewN | apply Kd.S_drew)); exact HO_3.out) hb)
            have n1_ := Aside0.mk (Kd.R_below (by (with_reducible repeat (first | apply Kd.R_alloc | apply Kd.R_drewN | apply Kd.R_drew)); exact HL229_4.out) hb)
            have n2_ := Aside0.mk (Kd.C_below (by repeat (first | (with_reducible exact HR229_4.out) | (with_reducible refine Kd.C_alloc ?_ _) | (with_reducible refine Kd.C_drewN ?_ _) | (with_reducible refine Kd.C_drew ?_) | exact HR229_4.out)) hb)
            have n3_ := Aside0.mk (below_step (by repeat (first | (with_reducible first | exact HB.out | apply below_alloc | apply pw_below_drewN | apply below_drew1) | exact HB.out)) hb)
            clear HO_3
            clear HL229_4
            clear HR229_4
            clear HB
            have HO_3 := n0_
            have HL229_4 := n1_
            have HR229_4 := n2_
            have HB := n3_
            clear n0_ n1_ n2_ n3_
            (try clear hb)
            (try clear hb2)
            (try clear hk)
            (try clear hi)
            refine hK.out _ _ ⟨HS0_, HS1_, HS2_, HS3_, HS4_, HS5_, ((HB.out.cell (World.block_lt_of_cell? w _ hw231_0)).trans hw231_0)⟩ (fun hHeld => ?_)
            clear hK K
            refine norm_ (a' := ?_) ?_ ?_
            rotate_left
            ·
             show Act.put _ (some 28) _ = _
             simp only [Act.put, List.setIfInBounds_toArray, List.set_cons_zero, List.set_cons_succ, i64_w, i32_w]
             rfl
            refine pure_ (i := 17) (N := some 36) (v := ?_) (a' := ?_) #[true, true, true, true, true, true, true, true, true, true, true, true, true, true, true, true, true, true, false, false] rfl rfl (any_of HT_.out (by kernel_rfl)) (fun _ _ _ h => h) (Or.inl ⟨by rfl, ?_⟩) ?_ ?_
            rotate_left
            ·
             intro w'
             go_simp
             with_reducible rfl
            rotate_left
            ·
             simp only [Act.put, List.setIfInBounds_toArray, List.set_cons_zero, List.set_cons_succ, i64_w, i32_w]
             rfl
            refine one_ (i := 18) (N := some 5) #[true, true, true, true, true, true, true, true, true, true, true, true, true, true, true, true, true, true, true, false] rfl rfl (one_of HT_.out (by kernel_rfl)) (by decide) (fun K hK => ?_)
            refine box_step ?hg (N := 5) ?hd (cs := #[.int .i64 0, .string (⟨#[]⟩ : ByteArray), .int .i64 0, .int .i64 0, .slice none 0 0, .string (⟨#[]⟩ : ByteArray)]) (t := 32) ?hr ?_; (case hd => rfl); (case hg => rfl); (case hr => first | (go_simp; done) | (go_simp; rfl))
            intro gb232 hg w19 hbox hb
            have HS0_ := (hb.cell (World.block_lt_of_cell? _ _ (hHeld.1))).trans (hHeld.1)
            have HS1_ := (hb.cell (World.block_lt_of_cell? _ _ (hHeld.2.1))).trans (hHeld.2.1)
            have HS2_ := (hb.cell (World.block_lt_of_cell? _ _ (hHeld.2.2.1))).trans (hHeld.2.2.1)
            have HS3_ := (hb.cell (World.block_lt_of_cell? _ _ (hHeld.2.2.2.1))).trans (hHeld.2.2.2.1)
            have HS4_ := (hb.cell (World.block_lt_of_cell? _ _ (hHeld.2.2.2.2.1))).trans (hHeld.2.2.2.2.1)
            have HS5_ := (hb.cell (World.block_lt_of_cell? _ _ (hHeld.2.2.2.2.2.1))).trans (hHeld.2.2.2.2.2.1)
            have n0_ := Aside0.mk (Kd.S_below (Kd.S_elderB (by (with_reducible repeat (first | apply Kd.S_alloc | apply Kd.S_drewN | apply Kd.S_drew)); exact HO_3.out) gb232 (Nat.le_of_eq hg.symm)) hb)
            have n1_ := Aside0.mk (Kd.R_below (by (with_reducible repeat (first | apply Kd.R_alloc | apply Kd.R_drewN | apply Kd.R_drew)); exact HL229_4.out) hb)
            have n2_ := Aside0.mk (Kd.C_below (by repeat (first | (with_reducible exact HR229_4.out) | (with_reducible refine Kd.C_alloc ?_ _) | (with_reducible refine Kd.C_drewN ?_ _) | (with_reducible refine Kd.C_drew ?_) | exact HR229_4.out)) hb)
            have n3_ := Aside0.mk (below_step (by repeat (first | (with_reducible first | exact HB.out | apply below_alloc | apply pw_below_drewN | apply below_drew1) | exact HB.out)) hb)
            have n4_ := Aside0.mk (hbox)
            have n5_ := Aside0.mk ((by rw [hg]; exact (below_size (by repeat (first | (with_reducible first | exact HB.out | apply below_alloc | apply pw_below_drewN | apply below_drew1) | exact HB.out))) : w.heap.size ≤ gb232))
            have n6_ := Aside0.mk ((by rw [hg]; exact (below_size (by repeat (first | (with_reducible first | exact HB.out | apply below_alloc | apply pw_below_drewN | apply below_drew1) | exact HB.out))) : w.heap.size ≤ gb232))
            clear HO_3
            clear HL229_4
            clear HR229_4
            clear HB
            have HO_3 := n0_
            have HL229_4 := n1_
            have HR229_4 := n2_
            have HB := n3_
            have BK232 := n4_
            have GW232 := n5_
            have GE232 := n6_
            clear n0_ n1_ n2_ n3_ n4_ n5_ n6_
            clear hb hbox hg
            refine hK.out _ _ ⟨HS0_, HS1_, HS2_, HS3_, HS4_, HS5_, ((HB.out.cell (World.block_lt_of_cell? w _ hw231_0)).trans hw231_0)⟩ (fun hHeld => ?_)
            clear hK K
            refine norm_ (a' := ?_) ?_ ?_
            rotate_left
            ·
             show Act.put _ (some 5) _ = _
             simp only [Act.put, List.setIfInBounds_toArray, List.set_cons_zero, List.set_cons_succ, i64_w, i32_w]
             rfl
            exact norm_ (by simp only [putAll, Act.put, List.setIfInBounds_toArray, List.set_cons_zero, List.set_cons_succ]) (hCont (gb232) _ ⟨hHeld, (by (with_reducible repeat (first | apply Kd.R_alloc | apply Kd.R_drewN | apply Kd.R_drew)); exact Kd.R_mono HL229_4.out (fun _ hk => hk.2)), (by (with_reducible repeat (first | apply Kd.S_alloc | apply Kd.S_drewN | apply Kd.S_drew)); exact Kd.S_mono HO_3.out (fun _ hk => hk.2)), (by (with_reducible repeat (first | refine blk_drewN ?_ _ | refine blk_drew ?_ | refine blk_alloc ?_ _)); exact BK232.out), GW232.out, GE232.out, (by repeat (first | (with_reducible first | exact HB.out | apply below_alloc | apply pw_below_drewN | apply below_drew1 | refine below_set ?_ GE232.out) | exact HB.out))⟩)
           ·
            skip
            refine box_step ?hg (N := 5) ?hd (cs := #[.int .i64 0, .string (⟨#[]⟩ : ByteArray), .int .i64 0, .int .i64 0, .slice none 0 0, .string (⟨#[]⟩ : ByteArray)]) (t := 32) ?hr ?_; (case hd => rfl); (case hg => rfl); (case hr => first | (go_simp; done) | (go_simp; rfl))
            intro gb232 hg w18 hbox hb
            have HS0_ := (hb.cell (World.block_lt_of_cell? _ _ (hHeld.1))).trans (hHeld.1)
            have HS1_ := (hb.cell (World.block_lt_of_cell? _ _ (hHeld.2.1))).trans (hHeld.2.1)
            have HS2_ := (hb.cell (World.block_lt_of_cell? _ _ (hHeld.2.2.1))).trans (hHeld.2.2.1)
            have HS3_ := (hb.cell (World.block_lt_of_cell? _ _ (hHeld.2.2.2.1))).trans (hHeld.2.2.2.1)
            have HS4_ := (hb.cell (World.block_lt_of_cell? _ _ (hHeld.2.2.2.2.1))).trans (hHeld.2.2.2.2.1)
            have HS5_ := (hb.cell (World.block_lt_of_cell? _ _ (hHeld.2.2.2.2.2.1))).trans (hHeld.2.2.2.2.2.1)
            have n0_ := Aside0.mk (Kd.S_below (Kd.S_elderB (by (with_reducible repeat (first | apply Kd.S_alloc | apply Kd.S_drewN | apply Kd.S_drew)); exact HO_3.out) gb232 (Nat.le_of_eq hg.symm)) hb)
            have n1_ := Aside0.mk (Kd.R_below (by (with_reducible repeat (first | apply Kd.R_alloc | apply Kd.R_drewN | apply Kd.R_drew)); exact HL229_4.out) hb)
            have n2_ := Aside0.mk (Kd.C_below (by repeat (first | (with_reducible exact HR229_4.out) | (with_reducible refine Kd.C_alloc ?_ _) | (with_reducible refine Kd.C_drewN ?_ _) | (with_reducible refine Kd.C_drew ?_) | exact HR229_4.out)) hb)
            have n3_ := Aside0.mk (below_step (by repeat (first | (with_reducible first | exact HB.out | apply below_alloc | apply pw_below_drewN | apply below_drew1) | exact HB.out)) hb)
            have n4_ := Aside0.mk (hbox)
            have n5_ := Aside0.mk ((by rw [hg]; exact (below_size (by repeat (first | (with_reducible first | exact HB.out | apply below_alloc | apply pw_below_drewN | apply below_drew1) | exact HB.out))) : w.heap.size ≤ gb232))
            have n6_ := Aside0.mk ((by rw [hg]; exact (below_size (by repeat (first | (with_reducible first | exact HB.out | apply below_alloc | apply pw_below_drewN | apply below_drew1) | exact HB.out))) : w.heap.size ≤ gb232))
            clear HO_3
            clear HL229_4
            clear HR229_4
            clear HB
            have HO_3 := n0_
            have HL229_4 := n1_
            have HR229_4 := n2_
            have HB := n3_
            have BK232 := n4_
            have GW232 := n5_
            have GE232 := n6_
            clear n0_ n1_ n2_ n3_ n4_ n5_ n6_
            clear hb hbox hg
            refine hK.out _ _ ⟨HS0_, HS1_, HS2_, HS3_, HS4_, HS5_, ((HB.out.cell (World.block_lt_of_cell? w _ hw231_0)).trans hw231_0)⟩ (fun hHeld => ?_)
            clear hK K
            refine norm_ (a' := ?_) ?_ ?_
            rotate_left
            ·
             show Act.put _ (some 5) _ = _
             simp only [Act.put, List.setIfInBounds_toArray, List.set_cons_zero, List.set_cons_succ, i64_w, i32_w]
             rfl
            refine one_ (i := 9) (N := some 28) #[true, true, true, true, true, true, true, true, true, true, true, true, true, true, true, true, true, false, true, false] rfl rfl (one_of HT_.out (by kernel_rfl)) (by decide) (fun K hK => ?_)
            refine goes_ Try.func14 (by kernel_rfl) rfl #[.agg #[.int .i64 ((rd_T32 x3_1 (ji8)).f0), .string ((rd_T32 x3_1 (ji8)).f1), .int .i64 ((rd_T32 x3_1 (ji8)).f2), .int .i64 ((rd_T32 x3_1 (ji8)).f3), .slice A229_4 ((rd_T32 x3_1 (ji8)).f4).length c229_4, .string ((rd_T32 x3_1 (ji8)).f5)]] (by rfl) rfl rfl (by (try simp only [List.map_toArray, List.map_cons, List.map_nil]); first | done | (simp only [hji8]; rfl) | rfl | (simp only [List.length_drop, List.length_take]; rfl)) ?_
            with_reducible refine (deaddropref14_Hash.calls kj3 ((rd_T32 x3_1 (ji8)).f0) ((rd_T32 x3_1 (ji8)).f1) ((rd_T32 x3_1 (ji8)).f2) ((rd_T32 x3_1 (ji8)).f3) _ _ ((rd_T32 x3_1 (ji8)).f4) ((rd_T32 x3_1 (ji8)).f5) t230 _ ?side1 ?side2 A11.out).mono ?_
            (case side1 => repeat (first | exact (by repeat (first | (with_reducible exact HR229_4.out) | (with_reducible refine Kd.C_alloc ?_ _) | (with_reducible refine Kd.C_drewN ?_ _) | (with_reducible refine Kd.C_drew ?_) | exact HR229_4.out)) | (with_reducible refine Kd.C_alloc ?_ _) | (with_reducible refine Kd.C_drewN ?_ _) | (with_reducible refine Kd.C_drew ?_)))
            (case side2 => exact HC229_4.out)
            rintro e w19 ⟨rfl, hb⟩
            have HS0_ := (hb.cell (World.block_lt_of_cell? _ _ (hHeld.1))).trans (hHeld.1)
            have HS1_ := (hb.cell (World.block_lt_of_cell? _ _ (hHeld.2.1))).trans (hHeld.2.1)
            have HS2_ := (hb.cell (World.block_lt_of_cell? _ _ (hHeld.2.2.1))).trans (hHeld.2.2.1)
            have HS3_ := (hb.cell (World.block_lt_of_cell? _ _ (hHeld.2.2.2.1))).trans (hHeld.2.2.2.1)
            have HS4_ := (hb.cell (World.block_lt_of_cell? _ _ (hHeld.2.2.2.2.1))).trans (hHeld.2.2.2.2.1)
            have HS5_ := (hb.cell (World.block_lt_of_cell? _ _ (hHeld.2.2.2.2.2.1))).trans (hHeld.2.2.2.2.2.1)
            refine ⟨_, rfl, ?_⟩
            have n0_ := Aside0.mk (Kd.S_below (by (with_reducible repeat (first | apply Kd.S_alloc | apply Kd.S_drewN | apply Kd.S_drew)); exact HO_3.out) hb)
            have n1_ := Aside0.mk (Kd.R_below (by (with_reducible repeat (first | apply Kd.R_alloc | apply Kd.R_drewN | apply Kd.R_drew)); exact HL229_4.out) hb)
            have n2_ := Aside0.mk (Kd.C_below (by repeat (first | (with_reducible exact HR229_4.out) | (with_reducible refine Kd.C_alloc ?_ _) | (with_reducible refine Kd.C_drewN ?_ _) | (with_reducible refine Kd.C_drew ?_) | exact HR229_4.out)) hb)
            have n3_ := Aside0.mk (blk_below (g := gb232) (o := .cells #[.int .i64 0, .string (⟨#[]⟩ : ByteArray), .int .i64 0, .int .i64 0, .slice none 0 0, .string (⟨#[]⟩ : ByteArray)] 32 (0, 0)) (by (with_reducible repeat (first | refine blk_drewN ?_ _ | refine blk_drew ?_ | refine blk_alloc ?_ _)); exact BK232.out) hb)
            have n4_ := Aside0.mk (below_step (by repeat (first | (with_reducible first | exact HB.out | apply below_alloc | apply pw_below_drewN | apply below_drew1 | refine below_set ?_ GE232.out) | exact HB.out)) hb)
            clear HO_3
            clear HL229_4
            clear HR229_4
            clear BK232
            clear HB
            have HO_3 := n0_
            have HL229_4 := n1_
            have HR229_4 := n2_
            have BK232 := n3_
            have HB := n4_
            clear n0_ n1_ n2_ n3_ n4_
            (try clear hb)
            (try clear hb2)
            (try clear hk)
            (try clear hi)
            refine hK.out _ _ ⟨HS0_, HS1_, HS2_, HS3_, HS4_, HS5_, ((HB.out.cell (World.block_lt_of_cell? w _ hw231_0)).trans hw231_0)⟩ (fun hHeld => ?_)
            clear hK K
            refine norm_ (a' := ?_) ?_ ?_
            rotate_left
            ·
             show Act.put _ (some 28) _ = _
             simp only [Act.put, List.setIfInBounds_toArray, List.set_cons_zero, List.set_cons_succ, i64_w, i32_w]
             rfl
            refine pure_ (i := 17) (N := some 36) (v := ?_) (a' := ?_) #[true, true, true, true, true, true, true, true, true, true, true, true, true, true, true, true, true, true, true, false] rfl rfl (any_of HT_.out (by kernel_rfl)) (fun _ _ _ h => h) (Or.inl ⟨by rfl, ?_⟩) ?_ ?_
            rotate_left
            ·
             intro w'
             go_simp
             with_reducible rfl
            rotate_left
            ·
             simp only [Act.put, List.setIfInBounds_toArray, List.set_cons_zero, List.set_cons_succ, i64_w, i32_w]
             rfl
            exact norm_ (by simp only [putAll, Act.put, List.setIfInBounds_toArray, List.set_cons_zero, List.set_cons_succ]) (hCont (gb232) _ ⟨hHeld, (by (with_reducible repeat (first | apply Kd.R_alloc | apply Kd.R_drewN | apply Kd.R_drew)); exact Kd.R_mono HL229_4.out (fun _ hk => hk.2)), (by (with_reducible repeat (first | apply Kd.S_alloc | apply Kd.S_drewN | apply Kd.S_drew)); exact Kd.S_mono HO_3.out (fun _ hk => hk.2)), (by (with_reducible repeat (first | refine blk_drewN ?_ _ | refine blk_drew ?_ | refine blk_alloc ?_ _)); exact BK232.out), GW232.out, GE232.out, (by repeat (first | (with_reducible first | exact HB.out | apply below_alloc | apply pw_below_drewN | apply below_drew1 | refine below_set ?_ GE232.out) | exact HB.out))⟩)
          rintro gb232 w20 ⟨hS_, h0_, h1_, h2_, h3_, h4_, h5_⟩
          have n0_ : Aside0 (Kd.R k55 55 w20 w.heap.size (fun k_ => some k_ ≠ (.slice (some ad229) x3_1.length co17 : Value).ownBlock) (.slice A229_4 ((rd_T32 x3_1 (ji8)).f4).length c229_4) ((rd_T32 x3_1 (ji8)).f4)) := ⟨h0_⟩
          have n1_ : Aside0 (Kd.S k32 32 w20 w.heap.size (fun k_ => k_ ≠ gb232) (.slice (some ad229) x3_1.length co17) x3_1) := ⟨h1_⟩
          have n2_ : Aside0 (w20.heap[gb232]? = some (.cells #[.int .i64 0, .string (⟨#[]⟩ : ByteArray), .int .i64 0, .int .i64 0, .slice none 0 0, .string (⟨#[]⟩ : ByteArray)] 32 (0, 0))) := ⟨h2_⟩
          have n3_ : Aside0 (w.heap.size ≤ gb232) := ⟨h3_⟩
          have n4_ : Aside0 (w.heap.size ≤ gb232) := ⟨h4_⟩
          have n5_ : Aside0 (Below w.heap.size w w20) := ⟨h5_⟩
          clear HO_3
          clear HB
          clear h0_ h1_ h2_ h3_ h4_ h5_
          have HL229_4 := n0_
          have HO_3 := n1_
          have BK232 := n2_
          have GW232 := n3_
          have GE232 := n4_
          have HB := n5_
          clear n0_ n1_ n2_ n3_ n4_ n5_
          have hHeld : w20.cell? (ad229.add (((ji8)).toNat * 6)) = some (.int .i64 ((rd_T32 x3_1 (ji8)).f0)) ∧ w20.cell? ⟨(ad229.add (((ji8)).toNat * 6)).block, (ad229.add (((ji8)).toNat * 6)).off + 1, none⟩ = some (.string ((rd_T32 x3_1 (ji8)).f1)) ∧ w20.cell? ⟨(ad229.add (((ji8)).toNat * 6)).block, (ad229.add (((ji8)).toNat * 6)).off + 2, none⟩ = some (.int .i64 ((rd_T32 x3_1 (ji8)).f2)) ∧ w20.cell? ⟨(ad229.add (((ji8)).toNat * 6)).block, (ad229.add (((ji8)).toNat * 6)).off + 3, none⟩ = some (.int .i64 ((rd_T32 x3_1 (ji8)).f3)) ∧ w20.cell? ⟨(ad229.add (((ji8)).toNat * 6)).block, (ad229.add (((ji8)).toNat * 6)).off + 4, none⟩ = some (.slice A229_4 ((rd_T32 x3_1 (ji8)).f4).length c229_4) ∧ w20.cell? ⟨(ad229.add (((ji8)).toNat * 6)).block, (ad229.add (((ji8)).toNat * 6)).off + 5, none⟩ = some (.string ((rd_T32 x3_1 (ji8)).f5)) ∧ w20.cell? (ad231.add (x4_1).toNat) = some (.int .u8 (rd l0 x4_1)) := hS_
          refine norm_ (a' := ?_) ?_ ?_
          rotate_left
          ·
           simp only [putAll, Act.put, List.setIfInBounds_toArray, List.set_cons_zero, List.set_cons_succ]
           rfl
          refine one_ (i := 19) (N := none) #[true, true, true, true, true, true, true, true, true, true, true, true, true, true, true, true, true, true, true, true] rfl rfl (one_of HT_.out (by kernel_rfl)) (by decide) (fun K hK => ?_)
          have hs21 : w20.cell? ⟨gb232, 0, none⟩ = some (.int .i64 0) := (blk_cell BK232.out 0).trans rfl
          have hfs21 := blk_frozen BK232.out 0
          have hs22 : w20.cell? ⟨gb232, 1, none⟩ = some (.string (⟨#[]⟩ : ByteArray)) := (blk_cell BK232.out 1).trans rfl
          have hfs22 := blk_frozen BK232.out 1
          have hs23 : w20.cell? ⟨gb232, 2, none⟩ = some (.int .i64 0) := (blk_cell BK232.out 2).trans rfl
          have hfs23 := blk_frozen BK232.out 2
          have hs24 : w20.cell? ⟨gb232, 3, none⟩ = some (.int .i64 0) := (blk_cell BK232.out 3).trans rfl
          have hfs24 := blk_frozen BK232.out 3
          have hs25 : w20.cell? ⟨gb232, 4, none⟩ = some (.slice none 0 0) := (blk_cell BK232.out 4).trans rfl
          have hfs25 := blk_frozen BK232.out 4
          have hs26 : w20.cell? ⟨gb232, 5, none⟩ = some (.string (⟨#[]⟩ : ByteArray)) := (blk_cell BK232.out 5).trans rfl
          have hfs26 := blk_frozen BK232.out 5
          refine skip_ (w1 := ?_) (by rfl) rfl ?_ ?_
          rotate_left
          ·
           go_simp
           rfl
          refine hK.out _ _ ⟨((cell_far (p := ⟨gb232, _, none⟩) (by first | exact Kd.own_blk (Kd.S_away HO_3.out (fun _ hk => hk)) | (rw [add_block]; exact Kd.own_blk (Kd.S_away HO_3.out (fun _ hk => hk))) | (show (Addr.add _ _).block ≠ _; rw [add_block]; exact Kd.own_blk (Kd.S_away HO_3.out (fun _ hk => hk))) | (dsimp only; exact Kd.own_blk (Kd.S_away HO_3.out (fun _ hk => hk)))) _).trans (((cell_far (p := ⟨gb232, _, none⟩) (by first | exact Kd.own_blk (Kd.S_away HO_3.out (fun _ hk => hk)) | (rw [add_block]; exact Kd.own_blk (Kd.S_away HO_3.out (fun _ hk => hk))) | (show (Addr.add _ _).block ≠ _; rw [add_block]; exact Kd.own_blk (Kd.S_away HO_3.out (fun _ hk => hk))) | (dsimp only; exact Kd.own_blk (Kd.S_away HO_3.out (fun _ hk => hk)))) _).trans (((cell_far (p := ⟨gb232, _, none⟩) (by first | exact Kd.own_blk (Kd.S_away HO_3.out (fun _ hk => hk)) | (rw [add_block]; exact Kd.own_blk (Kd.S_away HO_3.out (fun _ hk => hk))) | (show (Addr.add _ _).block ≠ _; rw [add_block]; exact Kd.own_blk (Kd.S_away HO_3.out (fun _ hk => hk))) | (dsimp only; exact Kd.own_blk (Kd.S_away HO_3.out (fun _ hk => hk)))) _).trans (((cell_far (p := ⟨gb232, _, none⟩) (by first | exact Kd.own_blk (Kd.S_away HO_3.out (fun _ hk => hk)) | (rw [add_block]; exact Kd.own_blk (Kd.S_away HO_3.out (fun _ hk => hk))) | (show (Addr.add _ _).block ≠ _; rw [add_block]; exact Kd.own_blk (Kd.S_away HO_3.out (fun _ hk => hk))) | (dsimp only; exact Kd.own_blk (Kd.S_away HO_3.out (fun _ hk => hk)))) _).trans (((cell_far (p := ⟨gb232, _, none⟩) (by first | exact Kd.own_blk (Kd.S_away HO_3.out (fun _ hk => hk)) | (rw [add_block]; exact Kd.own_blk (Kd.S_away HO_3.out (fun _ hk => hk))) | (show (Addr.add _ _).block ≠ _; rw [add_block]; exact Kd.own_blk (Kd.S_away HO_3.out (fun _ hk => hk))) | (dsimp only; exact Kd.own_blk (Kd.S_away HO_3.out (fun _ hk => hk)))) _).trans (((cell_far (p := ⟨gb232, _, none⟩) (by first | exact Kd.own_blk (Kd.S_away HO_3.out (fun _ hk => hk)) | (rw [add_block]; exact Kd.own_blk (Kd.S_away HO_3.out (fun _ hk => hk))) | (show (Addr.add _ _).block ≠ _; rw [add_block]; exact Kd.own_blk (Kd.S_away HO_3.out (fun _ hk => hk))) | (dsimp only; exact Kd.own_blk (Kd.S_away HO_3.out (fun _ hk => hk)))) _).trans (hHeld.1)))))))))))), ((cell_far (p := ⟨gb232, _, none⟩) (by first | exact Kd.own_blk (Kd.S_away HO_3.out (fun _ hk => hk)) | (rw [add_block]; exact Kd.own_blk (Kd.S_away HO_3.out (fun _ hk => hk))) | (show (Addr.add _ _).block ≠ _; rw [add_block]; exact Kd.own_blk (Kd.S_away HO_3.out (fun _ hk => hk))) | (dsimp only; exact Kd.own_blk (Kd.S_away HO_3.out (fun _ hk => hk)))) _).trans (((cell_far (p := ⟨gb232, _, none⟩) (by first | exact Kd.own_blk (Kd.S_away HO_3.out (fun _ hk => hk)) | (rw [add_block]; exact Kd.own_blk (Kd.S_away HO_3.out (fun _ hk => hk))) | (show (Addr.add _ _).block ≠ _; rw [add_block]; exact Kd.own_blk (Kd.S_away HO_3.out (fun _ hk => hk))) | (dsimp only; exact Kd.own_blk (Kd.S_away HO_3.out (fun _ hk => hk)))) _).trans (((cell_far (p := ⟨gb232, _, none⟩) (by first | exact Kd.own_blk (Kd.S_away HO_3.out (fun _ hk => hk)) | (rw [add_block]; exact Kd.own_blk (Kd.S_away HO_3.out (fun _ hk => hk))) | (show (Addr.add _ _).block ≠ _; rw [add_block]; exact Kd.own_blk (Kd.S_away HO_3.out (fun _ hk => hk))) | (dsimp only; exact Kd.own_blk (Kd.S_away HO_3.out (fun _ hk => hk)))) _).trans (((cell_far (p := ⟨gb232, _, none⟩) (by first | exact Kd.own_blk (Kd.S_away HO_3.out (fun _ hk => hk)) | (rw [add_block]; exact Kd.own_blk (Kd.S_away HO_3.out (fun _ hk => hk))) | (show (Addr.add _ _).block ≠ _; rw [add_block]; exact Kd.own_blk (Kd.S_away HO_3.out (fun _ hk => hk))) | (dsimp only; exact Kd.own_blk (Kd.S_away HO_3.out (fun _ hk => hk)))) _).trans (((cell_far (p := ⟨gb232, _, none⟩) (by first | exact Kd.own_blk (Kd.S_away HO_3.out (fun _ hk => hk)) | (rw [add_block]; exact Kd.own_blk (Kd.S_away HO_3.out (fun _ hk => hk))) | (show (Addr.add _ _).block ≠ _; rw [add_block]; exact Kd.own_blk (Kd.S_away HO_3.out (fun _ hk => hk))) | (dsimp only; exact Kd.own_blk (Kd.S_away HO_3.out (fun _ hk => hk)))) _).trans (((cell_far (p := ⟨gb232, _, none⟩) (by first | exact Kd.own_blk (Kd.S_away HO_3.out (fun _ hk => hk)) | (rw [add_block]; exact Kd.own_blk (Kd.S_away HO_3.out (fun _ hk => hk))) | (show (Addr.add _ _).block ≠ _; rw [add_block]; exact Kd.own_blk (Kd.S_away HO_3.out (fun _ hk => hk))) | (dsimp only; exact Kd.own_blk (Kd.S_away HO_3.out (fun _ hk => hk)))) _).trans (hHeld.2.1)))))))))))), ((cell_far (p := ⟨gb232, _, none⟩) (by first | exact Kd.own_blk (Kd.S_away HO_3.out (fun _ hk => hk)) | (rw [add_block]; exact Kd.own_blk (Kd.S_away HO_3.out (fun _ hk => hk))) | (show (Addr.add _ _).block ≠ _; rw [add_block]; exact Kd.own_blk (Kd.S_away HO_3.out (fun _ hk => hk))) | (dsimp only; exact Kd.own_blk (Kd.S_away HO_3.out (fun _ hk => hk)))) _).trans (((cell_far (p := ⟨gb232, _, none⟩) (by first | exact Kd.own_blk (Kd.S_away HO_3.out (fun _ hk => hk)) | (rw [add_block]; exact Kd.own_blk (Kd.S_away HO_3.out (fun _ hk => hk))) | (show (Addr.add _ _).block ≠ _; rw [add_block]; exact Kd.own_blk (Kd.S_away HO_3.out (fun _ hk => hk))) | (dsimp only; exact Kd.own_blk (Kd.S_away HO_3.out (fun _ hk => hk)))) _).trans (((cell_far (p := ⟨gb232, _, none⟩) (by first | exact Kd.own_blk (Kd.S_away HO_3.out (fun _ hk => hk)) | (rw [add_block]; exact Kd.own_blk (Kd.S_away HO_3.out (fun _ hk => hk))) | (show (Addr.add _ _).block ≠ _; rw [add_block]; exact Kd.own_blk (Kd.S_away HO_3.out (fun _ hk => hk))) | (dsimp only; exact Kd.own_blk (Kd.S_away HO_3.out (fun _ hk => hk)))) _).trans (((cell_far (p := ⟨gb232, _, none⟩) (by first | exact Kd.own_blk (Kd.S_away HO_3.out (fun _ hk => hk)) | (rw [add_block]; exact Kd.own_blk (Kd.S_away HO_3.out (fun _ hk => hk))) | (show (Addr.add _ _).block ≠ _; rw [add_block]; exact Kd.own_blk (Kd.S_away HO_3.out (fun _ hk => hk))) | (dsimp only; exact Kd.own_blk (Kd.S_away HO_3.out (fun _ hk => hk)))) _).trans (((cell_far (p := ⟨gb232, _, none⟩) (by first | exact Kd.own_blk (Kd.S_away HO_3.out (fun _ hk => hk)) | (rw [add_block]; exact Kd.own_blk (Kd.S_away HO_3.out (fun _ hk => hk))) | (show (Addr.add _ _).block ≠ _; rw [add_block]; exact Kd.own_blk (Kd.S_away HO_3.out (fun _ hk => hk))) | (dsimp only; exact Kd.own_blk (Kd.S_away HO_3.out (fun _ hk => hk)))) _).trans (((cell_far (p := ⟨gb232, _, none⟩) (by first | exact Kd.own_blk (Kd.S_away HO_3.out (fun _ hk => hk)) | (rw [add_block]; exact Kd.own_blk (Kd.S_away HO_3.out (fun _ hk => hk))) | (show (Addr.add _ _).block ≠ _; rw [add_block]; exact Kd.own_blk (Kd.S_away HO_3.out (fun _ hk => hk))) | (dsimp only; exact Kd.own_blk (Kd.S_away HO_3.out (fun _ hk => hk)))) _).trans (hHeld.2.2.1)))))))))))), ((cell_far (p := ⟨gb232, _, none⟩) (by first | exact Kd.own_blk (Kd.S_away HO_3.out (fun _ hk => hk)) | (rw [add_block]; exact Kd.own_blk (Kd.S_away HO_3.out (fun _ hk => hk))) | (show (Addr.add _ _).block ≠ _; rw [add_block]; exact Kd.own_blk (Kd.S_away HO_3.out (fun _ hk => hk))) | (dsimp only; exact Kd.own_blk (Kd.S_away HO_3.out (fun _ hk => hk)))) _).trans (((cell_far (p := ⟨gb232, _, none⟩) (by first | exact Kd.own_blk (Kd.S_away HO_3.out (fun _ hk => hk)) | (rw [add_block]; exact Kd.own_blk (Kd.S_away HO_3.out (fun _ hk => hk))) | (show (Addr.add _ _).block ≠ _; rw [add_block]; exact Kd.own_blk (Kd.S_away HO_3.out (fun _ hk => hk))) | (dsimp only; exact Kd.own_blk (Kd.S_away HO_3.out (fun _ hk => hk)))) _).trans (((cell_far (p := ⟨gb232, _, none⟩) (by first | exact Kd.own_blk (Kd.S_away HO_3.out (fun _ hk => hk)) | (rw [add_block]; exact Kd.own_blk (Kd.S_away HO_3.out (fun _ hk => hk))) | (show (Addr.add _ _).block ≠ _; rw [add_block]; exact Kd.own_blk (Kd.S_away HO_3.out (fun _ hk => hk))) | (dsimp only; exact Kd.own_blk (Kd.S_away HO_3.out (fun _ hk => hk)))) _).trans (((cell_far (p := ⟨gb232, _, none⟩) (by first | exact Kd.own_blk (Kd.S_away HO_3.out (fun _ hk => hk)) | (rw [add_block]; exact Kd.own_blk (Kd.S_away HO_3.out (fun _ hk => hk))) | (show (Addr.add _ _).block ≠ _; rw [add_block]; exact Kd.own_blk (Kd.S_away HO_3.out (fun _ hk => hk))) | (dsimp only; exact Kd.own_blk (Kd.S_away HO_3.out (fun _ hk => hk)))) _).trans (((cell_far (p := ⟨gb232, _, none⟩) (by first | exact Kd.own_blk (Kd.S_away HO_3.out (fun _ hk => hk)) | (rw [add_block]; exact Kd.own_blk (Kd.S_away HO_3.out (fun _ hk => hk))) | (show (Addr.add _ _).block ≠ _; rw [add_block]; exact Kd.own_blk (Kd.S_away HO_3.out (fun _ hk => hk))) | (dsimp only; exact Kd.own_blk (Kd.S_away HO_3.out (fun _ hk => hk)))) _).trans (((cell_far (p := ⟨gb232, _, none⟩) (by first | exact Kd.own_blk (Kd.S_away HO_3.out (fun _ hk => hk)) | (rw [add_block]; exact Kd.own_blk (Kd.S_away HO_3.out (fun _ hk => hk))) | (show (Addr.add _ _).block ≠ _; rw [add_block]; exact Kd.own_blk (Kd.S_away HO_3.out (fun _ hk => hk))) | (dsimp only; exact Kd.own_blk (Kd.S_away HO_3.out (fun _ hk => hk)))) _).trans (hHeld.2.2.2.1)))))))))))), ((cell_far (p := ⟨gb232, _, none⟩) (by first | exact Kd.own_blk (Kd.S_away HO_3.out (fun _ hk => hk)) | (rw [add_block]; exact Kd.own_blk (Kd.S_away HO_3.out (fun _ hk => hk))) | (show (Addr.add _ _).block ≠ _; rw [add_block]; exact Kd.own_blk (Kd.S_away HO_3.out (fun _ hk => hk))) | (dsimp only; exact Kd.own_blk (Kd.S_away HO_3.out (fun _ hk => hk)))) _).trans (((cell_far (p := ⟨gb232, _, none⟩) (by first | exact Kd.own_blk (Kd.S_away HO_3.out (fun _ hk => hk)) | (rw [add_block]; exact Kd.own_blk (Kd.S_away HO_3.out (fun _ hk => hk))) | (show (Addr.add _ _).block ≠ _; rw [add_block]; exact Kd.own_blk (Kd.S_away HO_3.out (fun _ hk => hk))) | (dsimp only; exact Kd.own_blk (Kd.S_away HO_3.out (fun _ hk => hk)))) _).trans (((cell_far (p := ⟨gb232, _, none⟩) (by first | exact Kd.own_blk (Kd.S_away HO_3.out (fun _ hk => hk)) | (rw [add_block]; exact Kd.own_blk (Kd.S_away HO_3.out (fun _ hk => hk))) | (show (Addr.add _ _).block ≠ _; rw [add_block]; exact Kd.own_blk (Kd.S_away HO_3.out (fun _ hk => hk))) | (dsimp only; exact Kd.own_blk (Kd.S_away HO_3.out (fun _ hk => hk)))) _).trans (((cell_far (p := ⟨gb232, _, none⟩) (by first | exact Kd.own_blk (Kd.S_away HO_3.out (fun _ hk => hk)) | (rw [add_block]; exact Kd.own_blk (Kd.S_away HO_3.out (fun _ hk => hk))) | (show (Addr.add _ _).block ≠ _; rw [add_block]; exact Kd.own_blk (Kd.S_away HO_3.out (fun _ hk => hk))) | (dsimp only; exact Kd.own_blk (Kd.S_away HO_3.out (fun _ hk => hk)))) _).trans (((cell_far (p := ⟨gb232, _, none⟩) (by first | exact Kd.own_blk (Kd.S_away HO_3.out (fun _ hk => hk)) | (rw [add_block]; exact Kd.own_blk (Kd.S_away HO_3.out (fun _ hk => hk))) | (show (Addr.add _ _).block ≠ _; rw [add_block]; exact Kd.own_blk (Kd.S_away HO_3.out (fun _ hk => hk))) | (dsimp only; exact Kd.own_blk (Kd.S_away HO_3.out (fun _ hk => hk)))) _).trans (((cell_far (p := ⟨gb232, _, none⟩) (by first | exact Kd.own_blk (Kd.S_away HO_3.out (fun _ hk => hk)) | (rw [add_block]; exact Kd.own_blk (Kd.S_away HO_3.out (fun _ hk => hk))) | (show (Addr.add _ _).block ≠ _; rw [add_block]; exact Kd.own_blk (Kd.S_away HO_3.out (fun _ hk => hk))) | (dsimp only; exact Kd.own_blk (Kd.S_away HO_3.out (fun _ hk => hk)))) _).trans (hHeld.2.2.2.2.1)))))))))))), ((cell_far (p := ⟨gb232, _, none⟩) (by first | exact Kd.own_blk (Kd.S_away HO_3.out (fun _ hk => hk)) | (rw [add_block]; exact Kd.own_blk (Kd.S_away HO_3.out (fun _ hk => hk))) | (show (Addr.add _ _).block ≠ _; rw [add_block]; exact Kd.own_blk (Kd.S_away HO_3.out (fun _ hk => hk))) | (dsimp only; exact Kd.own_blk (Kd.S_away HO_3.out (fun _ hk => hk)))) _).trans (((cell_far (p := ⟨gb232, _, none⟩) (by first | exact Kd.own_blk (Kd.S_away HO_3.out (fun _ hk => hk)) | (rw [add_block]; exact Kd.own_blk (Kd.S_away HO_3.out (fun _ hk => hk))) | (show (Addr.add _ _).block ≠ _; rw [add_block]; exact Kd.own_blk (Kd.S_away HO_3.out (fun _ hk => hk))) | (dsimp only; exact Kd.own_blk (Kd.S_away HO_3.out (fun _ hk => hk)))) _).trans (((cell_far (p := ⟨gb232, _, none⟩) (by first | exact Kd.own_blk (Kd.S_away HO_3.out (fun _ hk => hk)) | (rw [add_block]; exact Kd.own_blk (Kd.S_away HO_3.out (fun _ hk => hk))) | (show (Addr.add _ _).block ≠ _; rw [add_block]; exact Kd.own_blk (Kd.S_away HO_3.out (fun _ hk => hk))) | (dsimp only; exact Kd.own_blk (Kd.S_away HO_3.out (fun _ hk => hk)))) _).trans (((cell_far (p := ⟨gb232, _, none⟩) (by first | exact Kd.own_blk (Kd.S_away HO_3.out (fun _ hk => hk)) | (rw [add_block]; exact Kd.own_blk (Kd.S_away HO_3.out (fun _ hk => hk))) | (show (Addr.add _ _).block ≠ _; rw [add_block]; exact Kd.own_blk (Kd.S_away HO_3.out (fun _ hk => hk))) | (dsimp only; exact Kd.own_blk (Kd.S_away HO_3.out (fun _ hk => hk)))) _).trans (((cell_far (p := ⟨gb232, _, none⟩) (by first | exact Kd.own_blk (Kd.S_away HO_3.out (fun _ hk => hk)) | (rw [add_block]; exact Kd.own_blk (Kd.S_away HO_3.out (fun _ hk => hk))) | (show (Addr.add _ _).block ≠ _; rw [add_block]; exact Kd.own_blk (Kd.S_away HO_3.out (fun _ hk => hk))) | (dsimp only; exact Kd.own_blk (Kd.S_away HO_3.out (fun _ hk => hk)))) _).trans (((cell_far (p := ⟨gb232, _, none⟩) (by first | exact Kd.own_blk (Kd.S_away HO_3.out (fun _ hk => hk)) | (rw [add_block]; exact Kd.own_blk (Kd.S_away HO_3.out (fun _ hk => hk))) | (show (Addr.add _ _).block ≠ _; rw [add_block]; exact Kd.own_blk (Kd.S_away HO_3.out (fun _ hk => hk))) | (dsimp only; exact Kd.own_blk (Kd.S_away HO_3.out (fun _ hk => hk)))) _).trans (hHeld.2.2.2.2.2.1)))))))))))), ((cell_far (p := ⟨gb232, _, none⟩) (by first | exact Nat.ne_of_lt (Nat.lt_of_lt_of_le (by have := World.block_lt_of_cell? _ _ hw231_0; first | rwa [add_block] at this | exact this) GW232.out) | (rw [add_block]; exact Nat.ne_of_lt (Nat.lt_of_lt_of_le (by have := World.block_lt_of_cell? _ _ hw231_0; first | rwa [add_block] at this | exact this) GW232.out)) | (show (Addr.add _ _).block ≠ _; rw [add_block]; exact Nat.ne_of_lt (Nat.lt_of_lt_of_le (by have := World.block_lt_of_cell? _ _ hw231_0; first | rwa [add_block] at this | exact this) GW232.out)) | (dsimp only; exact Nat.ne_of_lt (Nat.lt_of_lt_of_le (by have := World.block_lt_of_cell? _ _ hw231_0; first | rwa [add_block] at this | exact this) GW232.out))) _).trans (((cell_far (p := ⟨gb232, _, none⟩) (by first | exact Nat.ne_of_lt (Nat.lt_of_lt_of_le (by have := World.block_lt_of_cell? _ _ hw231_0; first | rwa [add_block] at this | exact this) GW232.out) | (rw [add_block]; exact Nat.ne_of_lt (Nat.lt_of_lt_of_le (by have := World.block_lt_of_cell? _ _ hw231_0; first | rwa [add_block] at this | exact this) GW232.out)) | (show (Addr.add _ _).block ≠ _; rw [add_block]; exact Nat.ne_of_lt (Nat.lt_of_lt_of_le (by have := World.block_lt_of_cell? _ _ hw231_0; first | rwa [add_block] at this | exact this) GW232.out)) | (dsimp only; exact Nat.ne_of_lt (Nat.lt_of_lt_of_le (by have := World.block_lt_of_cell? _ _ hw231_0; first | rwa [add_block] at this | exact this) GW232.out))) _).trans (((cell_far (p := ⟨gb232, _, none⟩) (by first | exact Nat.ne_of_lt (Nat.lt_of_lt_of_le (by have := World.block_lt_of_cell? _ _ hw231_0; first | rwa [add_block] at this | exact this) GW232.out) | (rw [add_block]; exact Nat.ne_of_lt (Nat.lt_of_lt_of_le (by have := World.block_lt_of_cell? _ _ hw231_0; first | rwa [add_block] at this | exact this) GW232.out)) | (show (Addr.add _ _).block ≠ _; rw [add_block]; exact Nat.ne_of_lt (Nat.lt_of_lt_of_le (by have := World.block_lt_of_cell? _ _ hw231_0; first | rwa [add_block] at this | exact this) GW232.out)) | (dsimp only; exact Nat.ne_of_lt (Nat.lt_of_lt_of_le (by have := World.block_lt_of_cell? _ _ hw231_0; first | rwa [add_block] at this | exact this) GW232.out))) _).trans (((cell_far (p := ⟨gb232, _, none⟩) (by first | exact Nat.ne_of_lt (Nat.lt_of_lt_of_le (by have := World.block_lt_of_cell? _ _ hw231_0; first | rwa [add_block] at this | exact this) GW232.out) | (rw [add_block]; exact Nat.ne_of_lt (Nat.lt_of_lt_of_le (by have := World.block_lt_of_cell? _ _ hw231_0; first | rwa [add_block] at this | exact this) GW232.out)) | (show (Addr.add _ _).block ≠ _; rw [add_block]; exact Nat.ne_of_lt (Nat.lt_of_lt_of_le (by have := World.block_lt_of_cell? _ _ hw231_0; first | rwa [add_block] at this | exact this) GW232.out)) | (dsimp only; exact Nat.ne_of_lt (Nat.lt_of_lt_of_le (by have := World.block_lt_of_cell? _ _ hw231_0; first | rwa [add_block] at this | exact this) GW232.out))) _).trans (((cell_far (p := ⟨gb232, _, none⟩) (by first | exact Nat.ne_of_lt (Nat.lt_of_lt_of_le (by have := World.block_lt_of_cell? _ _ hw231_0; first | rwa [add_block] at this | exact this) GW232.out) | (rw [add_block]; exact Nat.ne_of_lt (Nat.lt_of_lt_of_le (by have := World.block_lt_of_cell? _ _ hw231_0; first | rwa [add_block] at this | exact this) GW232.out)) | (show (Addr.add _ _).block ≠ _; rw [add_block]; exact Nat.ne_of_lt (Nat.lt_of_lt_of_le (by have := World.block_lt_of_cell? _ _ hw231_0; first | rwa [add_block] at this | exact this) GW232.out)) | (dsimp only; exact Nat.ne_of_lt (Nat.lt_of_lt_of_le (by have := World.block_lt_of_cell? _ _ hw231_0; first | rwa [add_block] at this | exact this) GW232.out))) _).trans (((cell_far (p := ⟨gb232, _, none⟩) (by first | exact Nat.ne_of_lt (Nat.lt_of_lt_of_le (by have := World.block_lt_of_cell? _ _ hw231_0; first | rwa [add_block] at this | exact this) GW232.out) | (rw [add_block]; exact Nat.ne_of_lt (Nat.lt_of_lt_of_le (by have := World.block_lt_of_cell? _ _ hw231_0; first | rwa [add_block] at this | exact this) GW232.out)) | (show (Addr.add _ _).block ≠ _; rw [add_block]; exact Nat.ne_of_lt (Nat.lt_of_lt_of_le (by have := World.block_lt_of_cell? _ _ hw231_0; first | rwa [add_block] at this | exact this) GW232.out)) | (dsimp only; exact Nat.ne_of_lt (Nat.lt_of_lt_of_le (by have := World.block_lt_of_cell? _ _ hw231_0; first | rwa [add_block] at this | exact this) GW232.out))) _).trans (hHeld.2.2.2.2.2.2))))))))))))⟩ (fun hHeld => ?_)
          clear hK K
          refine done_ (done_of HT_.out (by kernel_rfl)) ?_
          have hcz27_0 : w20.cell? ⟨gb232, 0, none⟩ = some (.int .i64 0) := (blk_cell BK232.out 0).trans rfl
          have hcz27_1 : w20.cell? ⟨gb232, 1, none⟩ = some (.string (⟨#[]⟩ : ByteArray)) := (blk_cell BK232.out 1).trans rfl
          have hcz27_2 : w20.cell? ⟨gb232, 2, none⟩ = some (.int .i64 0) := (blk_cell BK232.out 2).trans rfl
          have hcz27_3 : w20.cell? ⟨gb232, 3, none⟩ = some (.int .i64 0) := (blk_cell BK232.out 3).trans rfl
          have hcz27_4 : w20.cell? ⟨gb232, 4, none⟩ = some (.slice none 0 0) := (blk_cell BK232.out 4).trans rfl
          have hcz27_5 : w20.cell? ⟨gb232, 5, none⟩ = some (.string (⟨#[]⟩ : ByteArray)) := (blk_cell BK232.out 5).trans rfl
          have hfz27_0 := blk_frozen BK232.out 0
          have hfz27_1 := blk_frozen BK232.out 1
          have hfz27_2 := blk_frozen BK232.out 2
          have hfz27_3 := blk_frozen BK232.out 3
          have hfz27_4 := blk_frozen BK232.out 4
          have hfz27_5 := blk_frozen BK232.out 5
          go_upto_if 42 with (first | ((with_reducible refine gate_callee (f := 10) rfl ?_); refine goesL_ (some 42) rfl rfl Try.func10 (by kernel_rfl) rfl #[.slice (some ad229) x3_1.length co17, .int .i64 (x3_1.length : Int), .int .i64 (wrap64 (1 + (Int.tmod (wrap64 (rd l0 x4_1)) 7)))] rfl (by (try simp only [List.map_toArray, List.map_cons, List.map_nil]); first | done | rfl | (simp only [List.length_drop, List.length_take]; rfl)) ?_; (with_reducible refine (deaddropref14_In.calls kj3 _ _ x3_1 (x3_1.length : Int) (wrap64 (1 + (Int.tmod (wrap64 (rd l0 x4_1)) 7))) t233 _ ?side1 ?side2 A14.out).mono ?_); (case side1 => refine (Kd.S_reads' (e := 32) (base := w.heap.size) (ok := fun k_ => k_ ≠ gb232) (n := x3_1.length) (c := co17) ?_).2.2; exact (by (with_reducible repeat (first | apply Kd.S_alloc | apply Kd.S_drewN | apply Kd.S_drew)); exact (Kd.S_mono (Kd.S_far (p := ⟨gb232, 5, none⟩) (Kd.S_far (p := ⟨gb232, 4, none⟩) (Kd.S_far (p := ⟨gb232, 3, none⟩) (Kd.S_far (p := ⟨gb232, 2, none⟩) (Kd.S_far (p := ⟨gb232, 1, none⟩) (Kd.S_far (p := ⟨gb232, 0, none⟩) (Kd.S_mono HO_3.out (fun k_ hk => (⟨hk, hk⟩ : _ ∧ k_ ≠ gb232))) (fun _ hk => hk.2) (.int .i64 (wrap64 ((x3_1.length : Int) + 1)))) (fun _ hk => hk.2) (.string t230)) (fun _ hk => hk.2) (.int .i64 1)) (fun _ hk => hk.2) (.int .i64 (wrap64 (1 + (Int.tmod (wrap64 (rd l0 x4_1)) 7))))) (fun _ hk => hk.2) (.slice none 0 0)) (fun _ hk => hk.2) (.string (⟨#[]⟩ : ByteArray))) (fun _ h_ => h_.1)))); (case side2 => exact (Kd.S_reads' HO_3.out).2.1); rintro e w' ⟨rfl, ⟨nd, rfl⟩⟩; refine ⟨_, rfl, ?_⟩))
          (try simp only [Act.put, List.setIfInBounds_toArray, List.set_cons_zero, List.set_cons_succ])
          go_cut [] (fun wc => ∃ (kq : Nat) (x233002_14 : Int), Aside0 (deaddroplaw15_Chain.j2 kq l0 x3_1 x4_1 (wrap64 ((x3_1.length : Int) + 1)) t230 x233002_14 (wrap64 (1 + (Int.tmod (wrap64 (rd l0 x4_1)) 7))) (⟨#[]⟩ : ByteArray) = some r) ∧ Aside0 (kq ≤ kj3) ∧ Aside0 (Kd.S k32 32 wc w.heap.size (fun k_ => k_ ≠ gb232) (.slice (some ad229) x3_1.length co17) x3_1) ∧ Aside0 (wc.heap[gb232]? = some (.cells #[.int .i64 (wrap64 ((x3_1.length : Int) + 1)), .string t230, .int .i64 x233002_14, .int .i64 (wrap64 (1 + (Int.tmod (wrap64 (rd l0 x4_1)) 7))), (.slice none 0 0), .string (⟨#[]⟩ : ByteArray)] 32 (0, 0))) ∧ Aside0 (Below w.heap.size w wc))
          case first =>
           have H := HC15.out
           clear HC15
           by_cases c28 : t233 = true
           ·
            subst c28
            have H1 : (deaddroplaw15_Chain.j2 kj3 l0 x3_1 x4_1 (wrap64 ((x3_1.length : Int) + 1)) t230 2 (wrap64 (1 + (Int.tmod (wrap64 (rd l0 x4_1)) 7))) (⟨#[]⟩ : ByteArray)) = some r := by rw [if_pos rfl] at H; exact H
            clear H
            have H := H1
            clear H1
            have H' := Aside0.mk H
            clear H
            have hcz29_0 : w20.cell? ⟨gb232, 0, none⟩ = some (.int .i64 0) := (blk_cell BK232.out 0).trans rfl
            have hcz29_1 : w20.cell? ⟨gb232, 1, none⟩ = some (.string (⟨#[]⟩ : ByteArray)) := (blk_cell BK232.out 1).trans rfl
            have hcz29_2 : w20.cell? ⟨gb232, 2, none⟩ = some (.int .i64 0) := (blk_cell BK232.out 2).trans rfl
            have hcz29_3 : w20.cell? ⟨gb232, 3, none⟩ = some (.int .i64 0) := (blk_cell BK232.out 3).trans rfl
            have hcz29_4 : w20.cell? ⟨gb232, 4, none⟩ = some (.slice none 0 0) := (blk_cell BK232.out 4).trans rfl
            have hcz29_5 : w20.cell? ⟨gb232, 5, none⟩ = some (.string (⟨#[]⟩ : ByteArray)) := (blk_cell BK232.out 5).trans rfl
            have hfz29_0 := blk_frozen BK232.out 0
            have hfz29_1 := blk_frozen BK232.out 1
            have hfz29_2 := blk_frozen BK232.out 2
            have hfz29_3 := blk_frozen BK232.out 3
            have hfz29_4 := blk_frozen BK232.out 4
            have hfz29_5 := blk_frozen BK232.out 5
            go_wp2
            go_meet
            case rel => exact ⟨_, (2), H', ⟨by have := HK1.out; have := HJ3.out; first | omega | exact Nat.le_refl _⟩, ⟨by (with_reducible repeat (first | apply Kd.S_alloc | apply Kd.S_drewN | apply Kd.S_drew)); (repeat (first | (with_reducible exact HO_3.out) | (with_reducible apply Kd.S_drewN) | (with_reducible apply Kd.S_drew) | (with_reducible apply Kd.S_alloc) | (with_reducible refine Kd.S_far ?_ (fun _ hk => hk) _)))⟩, ⟨by (with_reducible repeat (first | refine blk_drewN ?_ _ | refine blk_drew ?_ | refine blk_alloc ?_ _)); refine blk_put (cs := #[.int .i64 (wrap64 ((x3_1.length : Int) + 1)), .string t230, .int .i64 1, .int .i64 (wrap64 (1 + (Int.tmod (wrap64 (rd l0 x4_1)) 7))), .slice none 0 0, .string (⟨#[]⟩ : ByteArray)]) ?_ 2 _ rfl; (with_reducible repeat (first | refine blk_drewN ?_ _ | refine blk_drew ?_ | refine blk_alloc ?_ _)); refine blk_put (cs := #[.int .i64 (wrap64 ((x3_1.length : Int) + 1)), .string t230, .int .i64 1, .int .i64 (wrap64 (1 + (Int.tmod (wrap64 (rd l0 x4_1)) 7))), .slice none 0 0, .string (⟨#[]⟩ : ByteArray)]) ?_ 5 _ rfl; (with_reducible repeat (first | refine blk_drewN ?_ _ | refine blk_drew ?_ | refine blk_alloc ?_ _)); refine blk_put (cs := #[.int .i64 (wrap64 ((x3_1.length : Int) + 1)), .string t230, .int .i64 1, .int .i64 (wrap64 (1 + (Int.tmod (wrap64 (rd l0 x4_1)) 7))), .slice none 0 0, .string (⟨#[]⟩ : ByteArray)]) ?_ 4 _ rfl; (with_reducible repeat (first | refine blk_drewN ?_ _ | refine blk_drew ?_ | refine blk_alloc ?_ _)); refine blk_put (cs := #[.int .i64 (wrap64 ((x3_1.length : Int) + 1)), .string t230, .int .i64 1, .int .i64 0, .slice none 0 0, .string (⟨#[]⟩ : ByteArray)]) ?_ 3 _ rfl; (with_reducible repeat (first | refine blk_drewN ?_ _ | refine blk_drew ?_ | refine blk_alloc ?_ _)); refine blk_put (cs := #[.int .i64 (wrap64 ((x3_1.length : Int) + 1)), .string t230, .int .i64 0, .int .i64 0, .slice none 0 0, .string (⟨#[]⟩ : ByteArray)]) ?_ 2 _ rfl; (with_reducible repeat (first | refine blk_drewN ?_ _ | refine blk_drew ?_ | refine blk_alloc ?_ _)); refine blk_put (cs := #[.int .i64 (wrap64 ((x3_1.length : Int) + 1)), .string (⟨#[]⟩ : ByteArray), .int .i64 0, .int .i64 0, .slice none 0 0, .string (⟨#[]⟩ : ByteArray)]) ?_ 1 _ rfl; (with_reducible repeat (first | refine blk_drewN ?_ _ | refine blk_drew ?_ | refine blk_alloc ?_ _)); refine blk_put (cs := #[.int .i64 0, .string (⟨#[]⟩ : ByteArray), .int .i64 0, .int .i64 0, .slice none 0 0, .string (⟨#[]⟩ : ByteArray)]) ?_ 0 _ rfl; (with_reducible repeat (first | refine blk_drewN ?_ _ | refine blk_drew ?_ | refine blk_alloc ?_ _)); exact BK232.out⟩, ⟨by repeat (first | (with_reducible first | exact HB.out | apply below_alloc | apply pw_below_drewN | apply below_drew1 | refine below_set ?_ GE232.out) | exact HB.out)⟩⟩
           ·
            replace c28 := Bool.eq_false_iff.mpr c28
            subst c28
            have H1 : (deaddroplaw15_Chain.j2 kj3 l0 x3_1 x4_1 (wrap64 ((x3_1.length : Int) + 1)) t230 1 (wrap64 (1 + (Int.tmod (wrap64 (rd l0 x4_1)) 7))) (⟨#[]⟩ : ByteArray)) = some r := by rw [if_neg (show ¬ (false = true) by decide)] at H; exact H
            clear H
            have H := H1
            clear H1
            have H' := Aside0.mk H
            clear H
            go_wp2
            go_meet
            case rel => exact ⟨_, (1), H', ⟨by have := HK1.out; have := HJ3.out; first | omega | exact Nat.le_refl _⟩, ⟨by (with_reducible repeat (first | apply Kd.S_alloc | apply Kd.S_drewN | apply Kd.S_drew)); (repeat (first | (with_reducible exact HO_3.out) | (with_reducible apply Kd.S_drewN) | (with_reducible apply Kd.S_drew) | (with_reducible apply Kd.S_alloc) | (with_reducible refine Kd.S_far ?_ (fun _ hk => hk) _)))⟩, ⟨by (with_reducible repeat (first | refine blk_drewN ?_ _ | refine blk_drew ?_ | refine blk_alloc ?_ _)); refine blk_put (cs := #[.int .i64 (wrap64 ((x3_1.length : Int) + 1)), .string t230, .int .i64 1, .int .i64 (wrap64 (1 + (Int.tmod (wrap64 (rd l0 x4_1)) 7))), .slice none 0 0, .string (⟨#[]⟩ : ByteArray)]) ?_ 5 _ rfl; (with_reducible repeat (first | refine blk_drewN ?_ _ | refine blk_drew ?_ | refine blk_alloc ?_ _)); refine blk_put (cs := #[.int .i64 (wrap64 ((x3_1.length : Int) + 1)), .string t230, .int .i64 1, .int .i64 (wrap64 (1 + (Int.tmod (wrap64 (rd l0 x4_1)) 7))), .slice none 0 0, .string (⟨#[]⟩ : ByteArray)]) ?_ 4 _ rfl; (with_reducible repeat (first | refine blk_drewN ?_ _ | refine blk_drew ?_ | refine blk_alloc ?_ _)); refine blk_put (cs := #[.int .i64 (wrap64 ((x3_1.length : Int) + 1)), .string t230, .int .i64 1, .int .i64 0, .slice none 0 0, .string (⟨#[]⟩ : ByteArray)]) ?_ 3 _ rfl; (with_reducible repeat (first | refine blk_drewN ?_ _ | refine blk_drew ?_ | refine blk_alloc ?_ _)); refine blk_put (cs := #[.int .i64 (wrap64 ((x3_1.length : Int) + 1)), .string t230, .int .i64 0, .int .i64 0, .slice none 0 0, .string (⟨#[]⟩ : ByteArray)]) ?_ 2 _ rfl; (with_reducible repeat (first | refine blk_drewN ?_ _ | refine blk_drew ?_ | refine blk_alloc ?_ _)); refine blk_put (cs := #[.int .i64 (wrap64 ((x3_1.length : Int) + 1)), .string (⟨#[]⟩ : ByteArray), .int .i64 0, .int .i64 0, .slice none 0 0, .string (⟨#[]⟩ : ByteArray)]) ?_ 1 _ rfl; (with_reducible repeat (first | refine blk_drewN ?_ _ | refine blk_drew ?_ | refine blk_alloc ?_ _)); refine blk_put (cs := #[.int .i64 0, .string (⟨#[]⟩ : ByteArray), .int .i64 0, .int .i64 0, .slice none 0 0, .string (⟨#[]⟩ : ByteArray)]) ?_ 0 _ rfl; (with_reducible repeat (first | refine blk_drewN ?_ _ | refine blk_drew ?_ | refine blk_alloc ?_ _)); exact BK232.out⟩, ⟨by repeat (first | (with_reducible first | exact HB.out | apply below_alloc | apply pw_below_drewN | apply below_drew1 | refine below_set ?_ GE232.out) | exact HB.out)⟩⟩
          case rest =>
           clear HC15
           try clear c1
           try clear c2
           try clear p2
           try clear q2
           try clear hx2
           try clear c5
           try clear c5b0
           try clear c6
           try clear p6
           try clear c7
           try clear c9
           try clear c9b0
           try clear c10
           try clear c10b0
           try clear c12
           try clear c12b0
           try clear c13
           try clear c13b0
           try clear c14
           try clear c22
           try clear p22
           try clear q22
           try clear hx22
           try clear p23
           try clear q23
           try clear hx23
           try clear c28
           try clear hcz27_0
           try clear hcz27_1
           try clear hcz27_2
           try clear hcz27_3
           try clear hcz27_4
           try clear hcz27_5
           try clear hcz29_0
           try clear hcz29_1
           try clear hcz29_2
           try clear hcz29_3
           try clear hcz29_4
           try clear hcz29_5
           try clear hfz27_0
           try clear hfz27_1
           try clear hfz27_2
           try clear hfz27_3
           try clear hfz27_4
           try clear hfz27_5
           try clear hfz29_0
           try clear hfz29_1
           try clear hfz29_2
           try clear hfz29_3
           try clear hfz29_4
           try clear hfz29_5
           try clear hx229_0
           try clear hx229_1
           try clear hx229_2
           try clear hx229_3
           try clear hx229_4
           try clear hx229_5
           try clear hx231_0
           try clear p2
           try clear p229
           try clear p231
           try clear q229
           try clear q231
           obtain ⟨kq, x233002_14, HA, HJ14, HO_3, BK232, HB⟩ := hcut
           cases kq with
           | zero => exact absurd HA.out (by simp [deaddroplaw15_Chain.j2])
           | succ kj14 =>
            have H := HA.out
            clear HA
            simp only [deaddroplaw15_Chain.j2] at H
            by_cases c30 : 0 ≤ x4_1
            ·
             rw [if_pos c30] at H
             have c30b0 : decide (0 ≤ x4_1) = true := decide_eq_true c30
             clear c30
             by_cases c31 : x4_1 < (l0.length : Int)
             ·
              rw [if_pos c31] at H
              have c31b0 : decide (x4_1 < (l0.length : Int)) = true := decide_eq_true c31
              clear c31
              by_cases c32 : (rd l0 x4_1) > 127
              ·
               rw [if_pos c32] at H
               have c32b0 : decide (127 < (rd l0 x4_1)) = true := decide_eq_true c32
               clear c32
               by_cases c33 : x3_1.length < 1759218604441
               ·
                rw [if_pos c33] at H
                have LMc33 := Aside0.mk c33
                clear c33
                obtain ⟨y235, hy235⟩ : ∃ y_ : List (S32), y_ = (x3_1 ++ [(⟨(wrap64 ((x3_1.length : Int) + 1)), t230, x233002_14, (wrap64 (1 + (Int.tmod (wrap64 (rd l0 x4_1)) 7))), ([] : List (S55)), (⟨#[48, 49, 50, 51, 52, 53, 54, 55, 56, 57, 97, 98, 99, 100, 101, 102]⟩ : ByteArray)⟩ : S32)]) := ⟨_, rfl⟩
                replace H : (deaddroplaw15_Chain.l0 kj14 l0 y235 (wrap64 (x4_1 + 1))) = some r := by first | (rw [hy235]; with_reducible exact H) | (have H2_ := (Option.bind_some _ _).symm.trans H; rw [hy235]; with_reducible exact H2_) | (have H2_ := (Option.bind_some _ _).symm.trans H; with_reducible exact H2_) | with_reducible exact H | (rw [hy235]; exact H) | exact H
                have Ny235 := Aside0.mk hy235
                clear hy235
                have H' := Aside0.mk H
                clear H
                have p234 : 0 ≤ (x4_1 : Int) := of_decide_eq_true (by first | (with_reducible assumption) | assumption)
                have q234 : x4_1 < (l0.length : Int) := of_decide_eq_true (by first | (with_reducible assumption) | assumption)
                obtain ⟨ad234, e234, hx234_0⟩ := Kd.at_int HR0.out x4_1 p234 q234
                obtain rfl : ad231 = ad234 := (by injection e234)
                replace hx234_0 := (HB.out.cell (World.block_lt_of_cell? w _ hx234_0)).trans hx234_0
                replace p234 := eq_true p234
                replace q234 := eq_true q234
                have hcz34_0 : wc.cell? ⟨gb232, 0, none⟩ = some (.int .i64 (wrap64 ((x3_1.length : Int) + 1))) := (blk_cell BK232.out 0).trans rfl
                have hcz34_1 : wc.cell? ⟨gb232, 1, none⟩ = some (.string t230) := (blk_cell BK232.out 1).trans rfl
                have hcz34_2 : wc.cell? ⟨gb232, 2, none⟩ = some (.int .i64 x233002_14) := (blk_cell BK232.out 2).trans rfl
                have hcz34_3 : wc.cell? ⟨gb232, 3, none⟩ = some (.int .i64 (wrap64 (1 + (Int.tmod (wrap64 (rd l0 x4_1)) 7)))) := (blk_cell BK232.out 3).trans rfl
                have hcz34_4 : wc.cell? ⟨gb232, 4, none⟩ = some (.slice none 0 0) := (blk_cell BK232.out 4).trans rfl
                have hcz34_5 : wc.cell? ⟨gb232, 5, none⟩ = some (.string (⟨#[]⟩ : ByteArray)) := (blk_cell BK232.out 5).trans rfl
                have hfz34_0 := blk_frozen BK232.out 0
                have hfz34_1 := blk_frozen BK232.out 1
                have hfz34_2 := blk_frozen BK232.out 2
                have hfz34_3 := blk_frozen BK232.out 3
                have hfz34_4 := blk_frozen BK232.out 4
                have hfz34_5 := blk_frozen BK232.out 5
                go_wp2_with (first | ((with_reducible refine gate_builtin (b := .append) (xs := #[.tmp 50, .tmp 52]) rfl ?_); (try (refine gate_guard (by rfl) ?_; dsimp only)); at_builtin; refine Kd.S_append k32 (w0 := w) w.heap.size rfl (.tmp 50) (.tmp 52) 22 32 (.agg #[(.int .i64 0), (.string ⟨#[]⟩), (.int .i64 0), (.int .i64 0), (.slice none 0 0), (.string ⟨#[]⟩)]) 80 rfl Try.underlying22 info32 rfl (by decide) (by omega) (.slice (some ad229) x3_1.length co17) x3_1 (⟨(wrap64 ((x3_1.length : Int) + 1)), t230, x233002_14, (wrap64 (1 + (Int.tmod (wrap64 (rd l0 x4_1)) 7))), ([] : List (S55)), (⟨#[48, 49, 50, 51, 52, 53, 54, 55, 56, 57, 97, 98, 99, 100, 101, 102]⟩ : ByteArray)⟩ : S32) [.int .i64 (wrap64 ((x3_1.length : Int) + 1)), .string t230, .int .i64 x233002_14, .int .i64 (wrap64 (1 + (Int.tmod (wrap64 (rd l0 x4_1)) 7))), .slice none 0 0, .string (⟨#[48, 49, 50, 51, 52, 53, 54, 55, 56, 57, 97, 98, 99, 100, 101, 102]⟩ : ByteArray)] (fun k_ => k_ ≠ gb232) (fun _ => False) rfl (by first | (go_simp; done) | (go_simp; rfl)) ?aP (fun k_ hk_ => hk_.elim) ?aF ?aO ?aB ?aS ?aL ?_; (case aP => exact k32_mkM _ _ _ (⟨(wrap64 ((x3_1.length : Int) + 1)), t230, x233002_14, (wrap64 (1 + (Int.tmod (wrap64 (rd l0 x4_1)) 7))), ([] : List (S55)), (⟨#[48, 49, 50, 51, 52, 53, 54, 55, 56, 57, 97, 98, 99, 100, 101, 102]⟩ : ByteArray)⟩ : S32) (Kd.R_nil _ _ _ _ _)); (case aB => exact (by repeat (first | (with_reducible first | exact HB.out | apply below_alloc | apply pw_below_drewN | apply below_drew1 | refine below_set ?_ GE232.out) | exact HB.out))); (case aF => exact (fun k_ hk => Kd.freshB (g := gb232) (o := .cells #[.int .i64 (wrap64 ((x3_1.length : Int) + 1)), .string t230, .int .i64 x233002_14, .int .i64 (wrap64 (1 + (Int.tmod (wrap64 (rd l0 x4_1)) 7))), .slice none 0 0, .string (⟨#[48, 49, 50, 51, 52, 53, 54, 55, 56, 57, 97, 98, 99, 100, 101, 102]⟩ : ByteArray)] 32 (0, 0)) (by (with_reducible repeat (first | refine blk_drewN ?_ _ | refine blk_drew ?_ | refine blk_alloc ?_ _)); refine blk_put (cs := #[.int .i64 (wrap64 ((x3_1.length : Int) + 1)), .string t230, .int .i64 x233002_14, .int .i64 (wrap64 (1 + (Int.tmod (wrap64 (rd l0 x4_1)) 7))), .slice none 0 0, .string (⟨#[]⟩ : ByteArray)]) ?_ 5 _ rfl; (with_reducible repeat (first | refine blk_drewN ?_ _ | refine blk_drew ?_ | refine blk_alloc ?_ _)); exact BK232.out) k_ hk)); (case aO => exact (by (with_reducible repeat (first | apply Kd.S_alloc | apply Kd.S_drewN | apply Kd.S_drew)); exact Kd.S_mono (Kd.S_far (p := ⟨gb232, 5, none⟩) (Kd.S_mono HO_3.out (fun k_ hk => (⟨hk, hk⟩ : _ ∧ k_ ≠ gb232))) (fun _ hk => hk.2) (.string (⟨#[48, 49, 50, 51, 52, 53, 54, 55, 56, 57, 97, 98, 99, 100, 101, 102]⟩ : ByteArray))) (fun k_ hk => ⟨hk.1, fun e_ => e_⟩))); (case aS => exact (below_size (by repeat (first | (with_reducible first | exact HB.out | apply below_alloc | apply pw_below_drewN | apply below_drew1 | refine below_set ?_ GE232.out) | exact HB.out)))); (case aL => have := LMc33.out; omega); intro v236 w35 ho hb hg hat; rw [← Ny235.out] at ho; have n0_ := Aside0.mk (blk_grown (g := gb232) (o := .cells #[.int .i64 (wrap64 ((x3_1.length : Int) + 1)), .string t230, .int .i64 x233002_14, .int .i64 (wrap64 (1 + (Int.tmod (wrap64 (rd l0 x4_1)) 7))), .slice none 0 0, .string (⟨#[48, 49, 50, 51, 52, 53, 54, 55, 56, 57, 97, 98, 99, 100, 101, 102]⟩ : ByteArray)] 32 (0, 0)) (by (with_reducible repeat (first | refine blk_drewN ?_ _ | refine blk_drew ?_ | refine blk_alloc ?_ _)); refine blk_put (cs := #[.int .i64 (wrap64 ((x3_1.length : Int) + 1)), .string t230, .int .i64 x233002_14, .int .i64 (wrap64 (1 + (Int.tmod (wrap64 (rd l0 x4_1)) 7))), .slice none 0 0, .string (⟨#[]⟩ : ByteArray)]) ?_ 5 _ rfl; (with_reducible repeat (first | refine blk_drewN ?_ _ | refine blk_drew ?_ | refine blk_alloc ?_ _)); exact BK232.out) hg (Kd.S_away HO_3.out (fun _ hk => hk))); have n1_ := Aside0.mk (hb); have n2_ := Aside0.mk (ho); clear BK232; clear HB; clear HO_3; have BK232 := n0_; have HB := n1_; have HO237 := n2_; clear n0_ n1_ n2_; clear ho hb hg hat))
                go_roundg kj14
                case measure => have := HK1.out; have := HJ3.out; have := HJ14.out; omega
                case rel => exact ⟨(y235), (wrap64 (x4_1 + 1)), (by first | rfl | (simp; done) | (simp [*]; done) | (simp; exact isEmpty_bne_ _)), H', ⟨by have := HK1.out; have := HJ3.out; have := HJ14.out; omega⟩, ⟨by (with_reducible repeat (first | apply Kd.S_alloc | apply Kd.S_drewN | apply Kd.S_drew)); exact Kd.S_mono HO237.out (fun _ hk => trivial)⟩, ⟨by repeat (first | (with_reducible first | exact HB.out | apply below_alloc | apply pw_below_drewN | apply below_drew1 | refine below_set ?_ GE232.out) | exact HB.out)⟩⟩
               ·
                rw [if_neg c33] at H
                exact absurd H (by simp)
              ·
               rw [if_neg c32] at H
               have c32b0 : decide (127 < (rd l0 x4_1)) = false := decide_eq_false c32
               clear c32
               by_cases c36 : x3_1.length < 1759218604441
               ·
                rw [if_pos c36] at H
                have LMc36 := Aside0.mk c36
                clear c36
                obtain ⟨y238, hy238⟩ : ∃ y_ : List (S32), y_ = (x3_1 ++ [(⟨(wrap64 ((x3_1.length : Int) + 1)), t230, x233002_14, (wrap64 (1 + (Int.tmod (wrap64 (rd l0 x4_1)) 7))), ([] : List (S55)), (⟨#[]⟩ : ByteArray)⟩ : S32)]) := ⟨_, rfl⟩
                replace H : (deaddroplaw15_Chain.l0 kj14 l0 y238 (wrap64 (x4_1 + 1))) = some r := by first | (rw [hy238]; with_reducible exact H) | (have H2_ := (Option.bind_some _ _).symm.trans H; rw [hy238]; with_reducible exact H2_) | (have H2_ := (Option.bind_some _ _).symm.trans H; with_reducible exact H2_) | with_reducible exact H | (rw [hy238]; exact H) | exact H
                have Ny238 := Aside0.mk hy238
                clear hy238
                have H' := Aside0.mk H
                clear H
                have p234 : 0 ≤ (x4_1 : Int) := of_decide_eq_true (by first | (with_reducible assumption) | assumption)
                have q234 : x4_1 < (l0.length : Int) := of_decide_eq_true (by first | (with_reducible assumption) | assumption)
                obtain ⟨ad234, e234, hx234_0⟩ := Kd.at_int HR0.out x4_1 p234 q234
                obtain rfl : ad231 = ad234 := (by injection e234)
                replace hx234_0 := (HB.out.cell (World.block_lt_of_cell? w _ hx234_0)).trans hx234_0
                replace p234 := eq_true p234
                replace q234 := eq_true q234
                have hcz37_0 : wc.cell? ⟨gb232, 0, none⟩ = some (.int .i64 (wrap64 ((x3_1.length : Int) + 1))) := (blk_cell BK232.out 0).trans rfl
                have hcz37_1 : wc.cell? ⟨gb232, 1, none⟩ = some (.string t230) := (blk_cell BK232.out 1).trans rfl
                have hcz37_2 : wc.cell? ⟨gb232, 2, none⟩ = some (.int .i64 x233002_14) := (blk_cell BK232.out 2).trans rfl
                have hcz37_3 : wc.cell? ⟨gb232, 3, none⟩ = some (.int .i64 (wrap64 (1 + (Int.tmod (wrap64 (rd l0 x4_1)) 7)))) := (blk_cell BK232.out 3).trans rfl
                have hcz37_4 : wc.cell? ⟨gb232, 4, none⟩ = some (.slice none 0 0) := (blk_cell BK232.out 4).trans rfl
                have hcz37_5 : wc.cell? ⟨gb232, 5, none⟩ = some (.string (⟨#[]⟩ : ByteArray)) := (blk_cell BK232.out 5).trans rfl
                have hfz37_0 := blk_frozen BK232.out 0
                have hfz37_1 := blk_frozen BK232.out 1
                have hfz37_2 := blk_frozen BK232.out 2
                have hfz37_3 := blk_frozen BK232.out 3
                have hfz37_4 := blk_frozen BK232.out 4
                have hfz37_5 := blk_frozen BK232.out 5
                go_wp2_with (first | ((with_reducible refine gate_builtin (b := .append) (xs := #[.tmp 50, .tmp 52]) rfl ?_); (try (refine gate_guard (by rfl) ?_; dsimp only)); at_builtin; refine Kd.S_append k32 (w0 := w) w.heap.size rfl (.tmp 50) (.tmp 52) 22 32 (.agg #[(.int .i64 0), (.string ⟨#[]⟩), (.int .i64 0), (.int .i64 0), (.slice none 0 0), (.string ⟨#[]⟩)]) 80 rfl Try.underlying22 info32 rfl (by decide) (by omega) (.slice (some ad229) x3_1.length co17) x3_1 (⟨(wrap64 ((x3_1.length : Int) + 1)), t230, x233002_14, (wrap64 (1 + (Int.tmod (wrap64 (rd l0 x4_1)) 7))), ([] : List (S55)), (⟨#[]⟩ : ByteArray)⟩ : S32) [.int .i64 (wrap64 ((x3_1.length : Int) + 1)), .string t230, .int .i64 x233002_14, .int .i64 (wrap64 (1 + (Int.tmod (wrap64 (rd l0 x4_1)) 7))), .slice none 0 0, .string (⟨#[]⟩ : ByteArray)] (fun k_ => k_ ≠ gb232) (fun _ => False) rfl rfl ?aP (fun k_ hk_ => hk_.elim) ?aF ?aO ?aB ?aS ?aL ?_; (case aP => exact k32_mkM _ _ _ (⟨(wrap64 ((x3_1.length : Int) + 1)), t230, x233002_14, (wrap64 (1 + (Int.tmod (wrap64 (rd l0 x4_1)) 7))), ([] : List (S55)), (⟨#[]⟩ : ByteArray)⟩ : S32) (Kd.R_nil _ _ _ _ _)); (case aB => exact (by repeat (first | (with_reducible first | exact HB.out | apply below_alloc | apply pw_below_drewN | apply below_drew1 | refine below_set ?_ GE232.out) | exact HB.out))); (case aF => exact (fun k_ hk => Kd.freshB (g := gb232) (o := .cells #[.int .i64 (wrap64 ((x3_1.length : Int) + 1)), .string t230, .int .i64 x233002_14, .int .i64 (wrap64 (1 + (Int.tmod (wrap64 (rd l0 x4_1)) 7))), .slice none 0 0, .string (⟨#[]⟩ : ByteArray)] 32 (0, 0)) (by (with_reducible repeat (first | refine blk_drewN ?_ _ | refine blk_drew ?_ | refine blk_alloc ?_ _)); exact BK232.out) k_ hk)); (case aO => exact (by (with_reducible repeat (first | apply Kd.S_alloc | apply Kd.S_drewN | apply Kd.S_drew)); exact Kd.S_mono HO_3.out (fun k_ hk => ⟨hk, fun e_ => e_⟩))); (case aS => exact (below_size (by repeat (first | (with_reducible first | exact HB.out | apply below_alloc | apply pw_below_drewN | apply below_drew1 | refine below_set ?_ GE232.out) | exact HB.out)))); (case aL => have := LMc36.out; omega); intro v239 w38 ho hb hg hat; rw [← Ny238.out] at ho; have n0_ := Aside0.mk (blk_grown (g := gb232) (o := .cells #[.int .i64 (wrap64 ((x3_1.length : Int) + 1)), .string t230, .int .i64 x233002_14, .int .i64 (wrap64 (1 + (Int.tmod (wrap64 (rd l0 x4_1)) 7))), .slice none 0 0, .string (⟨#[]⟩ : ByteArray)] 32 (0, 0)) (by (with_reducible repeat (first | refine blk_drewN ?_ _ | refine blk_drew ?_ | refine blk_alloc ?_ _)); exact BK232.out) hg (Kd.S_away HO_3.out (fun _ hk => hk))); have n1_ := Aside0.mk (hb); have n2_ := Aside0.mk (ho); clear BK232; clear HB; clear HO_3; have BK232 := n0_; have HB := n1_; have HO240 := n2_; clear n0_ n1_ n2_; clear ho hb hg hat))
                go_roundg kj14
                case measure => have := HK1.out; have := HJ3.out; have := HJ14.out; omega
                case rel => exact ⟨(y238), (wrap64 (x4_1 + 1)), (by first | rfl | (simp; done) | (simp [*]; done) | (simp; exact isEmpty_bne_ _)), H', ⟨by have := HK1.out; have := HJ3.out; have := HJ14.out; omega⟩, ⟨by (with_reducible repeat (first | apply Kd.S_alloc | apply Kd.S_drewN | apply Kd.S_drew)); exact Kd.S_mono HO240.out (fun _ hk => trivial)⟩, ⟨by repeat (first | (with_reducible first | exact HB.out | apply below_alloc | apply pw_below_drewN | apply below_drew1 | refine below_set ?_ GE232.out) | exact HB.out)⟩⟩
               ·
                rw [if_neg c36] at H
                exact absurd H (by simp)
             ·
              rw [if_neg c31] at H
              exact absurd H (by simp)
            ·
             rw [if_neg c30] at H
             exact absurd H (by simp)
         ·
          rw [if_neg c13] at H
          exact absurd H (by simp)
        ·
         rw [if_neg c12] at H
         exact absurd H (by simp)
       ·
        rw [if_neg c10] at H
        exact absurd H (by simp)
      ·
       rw [if_neg c9] at H
       exact absurd H (by simp)
     ·
      replace c7 := Bool.eq_false_iff.mpr c7
      subst c7
      have H1 : (some x3_1) = some r := by rw [if_neg (show ¬ (false = true) by decide)] at H; exact H
      clear H
      have H := H1
      clear H1
      obtain rfl := Option.some.inj H
      go_wp2
      go_ret
      exact ⟨_, by first | rfl | (simp [errW_none, errW_some] <;> rfl) | (simp [*, errW_none, errW_some] <;> rfl), by (with_reducible repeat (first | apply Kd.S_alloc | apply Kd.S_drewN | apply Kd.S_drew)); exact HO_3.out, by repeat (first | (with_reducible first | exact HB.out | apply below_alloc | apply pw_below_drewN | apply below_drew1) | exact HB.out)⟩

end Go.Proofs.Ytjmehnlhfcidaaa.P
