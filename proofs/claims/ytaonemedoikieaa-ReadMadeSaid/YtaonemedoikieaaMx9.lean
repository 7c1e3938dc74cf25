-- Written by a program of this work (wip/tools/mkprint.py) over the kit's print; Lean checks it.
import Derived.Test.YtaonemedoikieaaMx0
import Derived.Test.YtaonemedoikieaaMx5
import Derived.Test.YtaonemedoikieaaMx6
import Derived.Test.YtaonemedoikieaaMx8
import Derived.Test.YtaonemedoikieaaHAbb2
namespace Go.Proofs.Ytaonemedoikieaa.M
open Go.RowKit Go.Proofs.YtaonemedoikieaaW.PrintWords Go.Proofs.YtaonemedoikieaaW.PrintLast Go.Proofs.YtaonemedoikieaaW.PrintMore Go.Proofs.Ytaonemedoikieaa.AB
attribute [local go_sem] max2_int min2_int max_two min_two max_three min_three max_four min_four   -- for this text's walks alone
set_option linter.unusedVariables false
set_option linter.unusedSimpArgs false
theorem k28_mkR {W : World} {base : Nat} {ok : Nat → Prop} {x : S28} {v0 v1 : Value} (h0 : Kd.R k70 70 W base ok v0 x.f0) (h1 : Kd.R k34 34 W base ok v1 x.f1) : Kd.FK k28 W ok x [v0, v1] := by
  obtain ⟨A0, c0, e0⟩ := Kd.R_slice h0
  obtain ⟨A1, c1, e1⟩ := Kd.R_slice h1
  subst e0
  subst e1
  exact k28_mkF _ _ x (Kd.R_reads' h0).2.1 (Kd.R_F h0) (Kd.R_reads' h1).2.1 (Kd.R_F h1)

/-! ### deaddroplaw9_Apart: function 7 -/
mutual
def deaddroplaw9_Apart.l0 : Nat → List Int → List (S28) → Int → Option ((List (S28)))
 | 0, _, _, _ => none
 | k + 1, x0, x3, x4 => if (wrap64 (x4 + 2)) < (x0.length : Int) then (deaddroplaw9_Apart.j1 k x0 x3 x4 (decide (x4 < 120))) else (deaddroplaw9_Apart.j1 k x0 x3 x4 false)
def deaddroplaw9_Apart.j1 : Nat → List Int → List (S28) → Int → Bool → Option ((List (S28)))
 | 0, _, _, _, _ => none
 | k + 1, x0, x3, x4, x16 => if x16 = true then (if 0 ≤ x4 then (if x4 < (x0.length : Int) then (if (rd x0 x4) ≥ 160 then (if 0 ≤ (Int.tmod (wrap64 (rd x0 x4)) 4) then (if (Int.tmod (wrap64 (rd x0 x4)) 4) < (x3.length : Int) then (if 0 ≤ (wrap64 (x4 + 1)) then (if (wrap64 (x4 + 1)) < (x0.length : Int) then (if 0 ≤ (Int.tmod (wrap64 (rd x0 (wrap64 (x4 + 1)))) 4) then (if (Int.tmod (wrap64 (rd x0 (wrap64 (x4 + 1)))) 4) < (x3.length : Int) then ((deaddropref7_Join.f k ((rd_T28 x3 (Int.tmod (wrap64 (rd x0 x4)) 4)).f0) ((rd_T28 x3 (Int.tmod (wrap64 (rd x0 x4)) 4)).f1) ((rd_T28 x3 (Int.tmod (wrap64 (rd x0 (wrap64 (x4 + 1)))) 4)).f0) ((rd_T28 x3 (Int.tmod (wrap64 (rd x0 (wrap64 (x4 + 1)))) 4)).f1)).bind fun bt282 => (deaddroplaw9_Apart.l0 k x0 (x3.set ((Int.tmod (wrap64 (rd x0 x4)) 4) : Int).toNat (⟨bt282.1, bt282.2⟩ : S28)) (wrap64 (x4 + 3)))) else (none)) else (none)) else (none)) else (none)) else (none)) else (none)) else (if 0 ≤ (Int.tmod (wrap64 (rd x0 x4)) 4) then (if (Int.tmod (wrap64 (rd x0 x4)) 4) < (x3.length : Int) then (if 0 ≤ (wrap64 (x4 + 1)) then (if (wrap64 (x4 + 1)) < (x0.length : Int) then (if 0 ≤ (wrap64 (x4 + 2)) then (if (wrap64 (x4 + 2)) < (x0.length : Int) then ((deaddroplaw8_Op.f (rd x0 (wrap64 (x4 + 1))) (rd x0 (wrap64 (x4 + 2)))).bind fun bt292 => ((deaddropref7_Do.f k ((rd_T28 x3 (Int.tmod (wrap64 (rd x0 x4)) 4)).f0) ((rd_T28 x3 (Int.tmod (wrap64 (rd x0 x4)) 4)).f1) (Int.tmod (wrap64 (rd x0 x4)) 4) bt292.1 bt292.2.1 bt292.2.2.1 bt292.2.2.2).bind fun bt296 => (if bt296.2.2 = 0 then ((deaddropref7_Join.f k ((rd_T28 x3 (Int.tmod (wrap64 (rd x0 x4)) 4)).f0) ((rd_T28 x3 (Int.tmod (wrap64 (rd x0 x4)) 4)).f1) bt296.1 bt296.2.1).bind fun bt305 => (deaddroplaw9_Apart.l0 k x0 (x3.set ((Int.tmod (wrap64 (rd x0 x4)) 4) : Int).toNat (⟨bt305.1, bt305.2⟩ : S28)) (wrap64 (x4 + 3)))) else (deaddroplaw9_Apart.l0 k x0 x3 (wrap64 (x4 + 3)))))) else (none)) else (none)) else (none)) else (none)) else (none)) else (none))) else (none)) else (none)) else (some x3)
end
def deaddroplaw9_Apart.f (k : Nat) (l0 : List Int) : Option ((List (S28))) := if 4 ≤ 5864062014805 then (deaddroplaw9_Apart.l0 k l0 (List.replicate 4 z28) 0) else (none)
theorem deaddroplaw9_Apart.mono_l : ∀ k, (∀ y0 y1 y2, LeO (deaddroplaw9_Apart.l0 k y0 y1 y2) (deaddroplaw9_Apart.l0 (k + 1) y0 y1 y2)) ∧ (∀ y0 y1 y2 y3, LeO (deaddroplaw9_Apart.j1 k y0 y1 y2 y3) (deaddroplaw9_Apart.j1 (k + 1) y0 y1 y2 y3))
 | 0 => by refine ⟨?_, ?_⟩ <;> (intros; intro r h; simp [deaddroplaw9_Apart.l0, deaddroplaw9_Apart.j1] at h)
 | k + 1 => by
  obtain ⟨ih0, ih1⟩ := deaddroplaw9_Apart.mono_l k
  refine ⟨?_, ?_⟩ <;> intros <;> (first | unfold deaddroplaw9_Apart.l0 | unfold deaddroplaw9_Apart.j1) <;>
  repeat' first
  | with_reducible (first | exact ih0 _ _ _ | exact ih1 _ _ _ _ | exact deaddropref7_Do.mono _ _ _ _ _ _ _ _ | exact deaddropref7_Join.mono _ _ _ _ _ | exact LeO.refl _ | exact LeO.none _ | refine LeO.ite ?_ ?_ | refine LeO.bind ?_ (fun _ => ?_))
  | exact ih0 _ _ _ | exact ih1 _ _ _ _ | exact deaddropref7_Do.mono _ _ _ _ _ _ _ _ | exact deaddropref7_Join.mono _ _ _ _ _ | exact LeO.none _ | refine LeO.ite ?_ ?_ | refine LeO.bind ?_ (fun _ => ?_)
theorem deaddroplaw9_Apart.mono : ∀ a0 k, LeO (deaddroplaw9_Apart.f k a0) (deaddroplaw9_Apart.f (k + 1) a0) := by
 intro a0 k
 obtain ⟨ih0, ih1⟩ := deaddroplaw9_Apart.mono_l k
 unfold deaddroplaw9_Apart.f
 repeat' first
  | with_reducible (first | exact ih0 _ _ _ | exact ih1 _ _ _ _ | exact deaddropref7_Do.mono _ _ _ _ _ _ _ _ | exact deaddropref7_Join.mono _ _ _ _ _ | exact LeO.refl _ | exact LeO.none _ | refine LeO.ite ?_ ?_ | refine LeO.bind ?_ (fun _ => ?_))
  | exact ih0 _ _ _ | exact ih1 _ _ _ _ | exact deaddropref7_Do.mono _ _ _ _ _ _ _ _ | exact deaddropref7_Join.mono _ _ _ _ _ | exact LeO.none _ | refine LeO.ite ?_ ?_ | refine LeO.bind ?_ (fun _ => ?_)
def deaddroplaw9_Apart.T7 : Bool × List (List Nat × List Nat) := (true, [([], []), ([], []), ([], []), ([], []), ([2, 3], [2, 3]), ([4], [4]), ([], []), ([], []), ([], []), ([8], [8]), ([7, 9], [7, 9]), ([10], [10]), ([11], [11]), ([12], [12]), ([6, 13], [6, 13]), ([14], [14]), ([5, 15], [5, 15]), ([0, 1, 0, 1, 2, 3, 4, 5, 6, 7, 8, 9, 10, 11, 12, 13, 14, 15, 16], [0, 1]), ([17, 16, 16, 0, 1, 2, 3, 4, 5, 6, 7, 8, 9, 10, 11, 12, 13, 14, 15, 16], [16, 17])])
def deaddroplaw9_Apart.B7 : List Nat := [0, 0, 0, 0, 12, 28, 0, 0, 0, 256, 896, 1920, 3968, 8064, 16320, 32704, 65532, 131071, 262143]
theorem deaddroplaw9_Apart.tab7 : rtab .any (opsOf Try.f7 7) = deaddroplaw9_Apart.T7 := by kernel_rfl
theorem deaddroplaw9_Apart.bits7 : waitsOk deaddroplaw9_Apart.T7.2 deaddroplaw9_Apart.B7 = true := by kernel_rfl
def deaddroplaw9_Apart.T8 : Bool × List (List Nat × List Nat) := (true, [([], []), ([], []), ([0, 1], [0, 1]), ([2], [2]), ([], []), ([], []), ([], []), ([6], [6]), ([5, 7], [5, 7]), ([8], [8]), ([], []), ([], []), ([11], [11]), ([10, 12], [10, 12]), ([13], [13]), ([9, 14], [9, 14]), ([3, 4, 15, 15], [3, 4, 15]), ([], []), ([17, 16, 16, 0, 1, 2, 3, 4, 5, 6, 7, 8, 9, 10, 11, 12, 13, 14, 15, 16, 17], [16, 17])])
def deaddroplaw9_Apart.B8 : List Nat := [0, 0, 3, 7, 0, 0, 0, 64, 224, 480, 0, 0, 2048, 7168, 15360, 32736, 65535, 0, 262143]
theorem deaddroplaw9_Apart.tab8 : rtab .any (opsOf Try.f7 8) = deaddroplaw9_Apart.T8 := by kernel_rfl
theorem deaddroplaw9_Apart.bits8 : waitsOk deaddroplaw9_Apart.T8.2 deaddroplaw9_Apart.B8 = true := by kernel_rfl
def deaddroplaw9_Apart.T10 : Bool × List (List Nat × List Nat) := (true, [([], []), ([], []), ([], []), ([], []), ([2, 3], [2, 3]), ([4], [4]), ([], []), ([6], [6]), ([5, 7], [5, 7]), ([0, 1, 0, 1, 2, 3, 4, 5, 6, 7, 8], [0, 1]), ([9, 8, 8, 0, 1, 2, 3, 4, 5, 6, 7, 8], [8, 9])])
def deaddroplaw9_Apart.B10 : List Nat := [0, 0, 0, 0, 12, 28, 0, 64, 252, 511, 1023]
theorem deaddroplaw9_Apart.tab10 : rtab .any (opsOf Try.f7 10) = deaddroplaw9_Apart.T10 := by kernel_rfl
theorem deaddroplaw9_Apart.bits10 : waitsOk deaddroplaw9_Apart.T10.2 deaddroplaw9_Apart.B10 = true := by kernel_rfl
set_option maxHeartbeats 8000000 in
set_option maxRecDepth 100000 in
theorem deaddroplaw9_Apart.calls (k : Nat) (A0 : Option Addr) (c0 : Nat) (l0 : List Int) (r : List (S28)) (w : World) (hr0 : Kd.C (Kd.int .u8) w A0 l0.length l0) (hc0 : l0.length ≤ c0) (h : deaddroplaw9_Apart.f k l0 = some r) :
 Calls Try.prog 7 #[.slice A0 l0.length c0] w fun e w' => ∃ v0_ : Value, e = .returned (v0_) ∧ Kd.N k28 28 w' w.heap.size (fun k_ => (w.heap.size ≤ k_)) v0_ r ∧ Below w.heap.size w w' := by
 have hu28 := Try.underlying28
 have hu43 := Try.underlying43
 have HR0 := Aside0.mk hr0
 have HC0 := Aside0.mk hc0
 clear hr0 hc0
 have HB := Aside0.mk (Below.refl w.heap.size w)
 have H : (if 4 ≤ 5864062014805 then (deaddroplaw9_Apart.l0 k l0 (List.replicate 4 z28) 0) else (none)) = some r := h
 clear h
 by_cases c2 : 4 ≤ 5864062014805
 rotate_left
 ·
  rw [if_neg c2] at H
  exact absurd H (by simp)

 rw [if_pos c2] at H
 have c2b0 := eq_true c2
 have c2b1 : decide (4 ≤ 5864062014805) = true := decide_eq_true c2
 clear c2
 obtain ⟨y274, hy274⟩ : ∃ y_ : List (S28), y_ = (List.replicate 4 z28) := ⟨_, rfl⟩
 replace H : (deaddroplaw9_Apart.l0 k l0 y274 0) = some r := by first | (rw [hy274]; with_reducible exact H) | (have H2_ := (Option.bind_some _ _).symm.trans H; rw [hy274]; with_reducible exact H2_) | (have H2_ := (Option.bind_some _ _).symm.trans H; with_reducible exact H2_) | with_reducible exact H | (rw [hy274]; exact H) | exact H
 have Ny274 := Aside0.mk hy274
 clear hy274
 have H' := Aside0.mk H
 clear H
 go_enter Try.func7, Try.ntmps7
 go_wp2_with (first | ((with_reducible refine gate_dst (N := 7) rfl ?_); refine Kd.N_make k28 _ 28 rfl (N' := 7) rfl 23 _ _ rfl 4 rfl rfl Try.underlying23 (.agg #[(.slice none 0 0), (.slice none 0 0)]) 48 info28 rfl (by decide) (by omega) z28 (ok := fun k_ => w.heap.size ≤ k_) (okp := fun _ => False) (k28_mkF _ _ z28 (Nat.le_refl _) (Kd.F_nil _ _ _) (Nat.le_refl _) (Kd.F_nil _ _ _)) (fun _ hk => hk.elim) (Nat.le_refl _) (by omega) (by omega) (Below.refl _ _) (Nat.le_refl _) ?_; intro v275 w3 ho4 hb hg_ hnew_; clear hg_ hnew_; (first | rw [← Ny274.out] at ho4 | (simp only [Int.reduceToNat] at ho4; rw [← Ny274.out] at ho4)); have HO276 := Aside0.mk (Kd.N_lower (Kd.N_mono (ok' := fun k_ => (w.heap.size ≤ k_)) ho4 (fun k_ hk_ => (Nat.le_trans (below_size (bw HB.out)) hk_))) (below_size (bw HB.out))); replace HB := Aside0.mk (below_step (bw HB.out) hb); clear hb ho4))
 go_loopg [4] k (fun kq v4 w' => ∃ (x3_1 : List (S28)) (x4_1 : Int), v4 = .int .i64 x4_1 ∧ Aside0 (deaddroplaw9_Apart.l0 kq l0 x3_1 x4_1 = some r) ∧ Aside0 (kq ≤ k) ∧ Aside0 (Kd.N k28 28 w' w.heap.size (fun k_ => (w.heap.size ≤ k_)) v275 x3_1) ∧ Aside0 (Below w.heap.size w w'))
 case atStart => exact ⟨(y274), (0), ok_, H', ⟨Nat.le_refl _⟩, ⟨nk HO276.out⟩, ⟨bw HB.out⟩⟩
 case round =>
  clear H'
  try clear c2
  try clear c2b0
  try clear c2b1
  obtain ⟨x3_1, x4_1, rfl, HA, HK1, HO_3, HB⟩ := hrel
  cases gk with
  | zero => exact absurd HA.out (by simp [deaddroplaw9_Apart.l0])
  | succ k1 =>
   have H := HA.out
   clear HA
   simp only [deaddroplaw9_Apart.l0] at H
   have HC5 := Aside0.mk H
   clear H
   go_upto_region 3 with (fail)
   go_cut [16] (fun v16 wc => ∃ (kq : Nat) (x16_4 : Bool), v16 = .bool x16_4 ∧ Aside0 (deaddroplaw9_Apart.j1 kq l0 x3_1 x4_1 x16_4 = some r) ∧ Aside0 (kq ≤ k1) ∧ Aside0 (Kd.N k28 28 wc w.heap.size (fun k_ => (w.heap.size ≤ k_)) v275 x3_1) ∧ Aside0 (Below w.heap.size w wc))
   case first =>
    have H := HC5.out
    clear HC5
    by_cases c6 : (wrap64 (x4_1 + 2)) < (l0.length : Int)
    ·
     rw [if_pos c6] at H
     have c6b0 : decide ((wrap64 (x4_1 + 2)) < (l0.length : Int)) = true := decide_eq_true c6
     clear c6
     (first | rw [c6b0] | (simp only [i64_w, i32_w]; rw [c6b0]) | skip)
     have H' := Aside0.mk H
     clear H
     go_wp2
     go_meet
     case rel => exact ⟨_, (decide (x4_1 < 120)), ok_, H', ⟨by have := HK1.out; first | omega | exact Nat.le_refl _⟩, ⟨nk HO_3.out⟩, ⟨bw HB.out⟩⟩
    ·
     rw [if_neg c6] at H
     have c6b0 : decide ((wrap64 (x4_1 + 2)) < (l0.length : Int)) = false := decide_eq_false c6
     clear c6
     (first | rw [c6b0] | (simp only [i64_w, i32_w]; rw [c6b0]) | skip)
     have H' := Aside0.mk H
     clear H
     go_wp2
     go_meet
     case rel => exact ⟨_, (false), ok_, H', ⟨by have := HK1.out; first | omega | exact Nat.le_refl _⟩, ⟨nk HO_3.out⟩, ⟨bw HB.out⟩⟩
   case rest =>
    clear HC5
    try clear c2
    try clear c2b0
    try clear c2b1
    obtain ⟨kq, x16_4, rfl, HA, HJ4, HO_3, HB⟩ := hcut
    cases kq with
    | zero => exact absurd HA.out (by simp [deaddroplaw9_Apart.j1])
    | succ kj4 =>
     have H := HA.out
     clear HA
     simp only [deaddroplaw9_Apart.j1] at H
     by_cases c7 : x16_4 = true
     ·
      subst c7
      have H1 : (if 0 ≤ x4_1 then (if x4_1 < (l0.length : Int) then (if (rd l0 x4_1) ≥ 160 then (if 0 ≤ (Int.tmod (wrap64 (rd l0 x4_1)) 4) then (if (Int.tmod (wrap64 (rd l0 x4_1)) 4) < (x3_1.length : Int) then (if 0 ≤ (wrap64 (x4_1 + 1)) then (if (wrap64 (x4_1 + 1)) < (l0.length : Int) then (if 0 ≤ (Int.tmod (wrap64 (rd l0 (wrap64 (x4_1 + 1)))) 4) then (if (Int.tmod (wrap64 (rd l0 (wrap64 (x4_1 + 1)))) 4) < (x3_1.length : Int) then ((deaddropref7_Join.f kj4 ((rd_T28 x3_1 (Int.tmod (wrap64 (rd l0 x4_1)) 4)).f0) ((rd_T28 x3_1 (Int.tmod (wrap64 (rd l0 x4_1)) 4)).f1) ((rd_T28 x3_1 (Int.tmod (wrap64 (rd l0 (wrap64 (x4_1 + 1)))) 4)).f0) ((rd_T28 x3_1 (Int.tmod (wrap64 (rd l0 (wrap64 (x4_1 + 1)))) 4)).f1)).bind fun bt282 => (deaddroplaw9_Apart.l0 kj4 l0 (x3_1.set ((Int.tmod (wrap64 (rd l0 x4_1)) 4) : Int).toNat (⟨bt282.1, bt282.2⟩ : S28)) (wrap64 (x4_1 + 3)))) else (none)) else (none)) else (none)) else (none)) else (none)) else (none)) else (if 0 ≤ (Int.tmod (wrap64 (rd l0 x4_1)) 4) then (if (Int.tmod (wrap64 (rd l0 x4_1)) 4) < (x3_1.length : Int) then (if 0 ≤ (wrap64 (x4_1 + 1)) then (if (wrap64 (x4_1 + 1)) < (l0.length : Int) then (if 0 ≤ (wrap64 (x4_1 + 2)) then (if (wrap64 (x4_1 + 2)) < (l0.length : Int) then ((deaddroplaw8_Op.f (rd l0 (wrap64 (x4_1 + 1))) (rd l0 (wrap64 (x4_1 + 2)))).bind fun bt292 => ((deaddropref7_Do.f kj4 ((rd_T28 x3_1 (Int.tmod (wrap64 (rd l0 x4_1)) 4)).f0) ((rd_T28 x3_1 (Int.tmod (wrap64 (rd l0 x4_1)) 4)).f1) (Int.tmod (wrap64 (rd l0 x4_1)) 4) bt292.1 bt292.2.1 bt292.2.2.1 bt292.2.2.2).bind fun bt296 => (if bt296.2.2 = 0 then ((deaddropref7_Join.f kj4 ((rd_T28 x3_1 (Int.tmod (wrap64 (rd l0 x4_1)) 4)).f0) ((rd_T28 x3_1 (Int.tmod (wrap64 (rd l0 x4_1)) 4)).f1) bt296.1 bt296.2.1).bind fun bt305 => (deaddroplaw9_Apart.l0 kj4 l0 (x3_1.set ((Int.tmod (wrap64 (rd l0 x4_1)) 4) : Int).toNat (⟨bt305.1, bt305.2⟩ : S28)) (wrap64 (x4_1 + 3)))) else (deaddroplaw9_Apart.l0 kj4 l0 x3_1 (wrap64 (x4_1 + 3)))))) else (none)) else (none)) else (none)) else (none)) else (none)) else (none))) else (none)) else (none)) = some r := by rw [if_pos rfl] at H; exact H
      clear H
      have H := H1
      clear H1
      by_cases c8 : 0 ≤ x4_1
      rotate_left
      ·
       rw [if_neg c8] at H
       exact absurd H (by simp)
      rw [if_pos c8] at H
      have c8b0 : decide (0 ≤ x4_1) = true := decide_eq_true c8
      clear c8
      by_cases c9 : x4_1 < (l0.length : Int)
      rotate_left
      ·
       rw [if_neg c9] at H
       exact absurd H (by simp)
      rw [if_pos c9] at H
      have c9b0 : decide (x4_1 < (l0.length : Int)) = true := decide_eq_true c9
      clear c9
      by_cases c10 : (rd l0 x4_1) ≥ 160
      ·
       rw [if_pos c10] at H
       have c10b0 : decide (160 ≤ (rd l0 x4_1)) = true := decide_eq_true c10
       clear c10
       obtain ⟨ji11, hji11⟩ : ∃ j_ : Int, (Int.tmod (wrap64 (rd l0 x4_1)) 4) = j_ := ⟨_, rfl⟩
       replace H : (if 0 ≤ (ji11) then (if (ji11) < (x3_1.length : Int) then (if 0 ≤ (wrap64 (x4_1 + 1)) then (if (wrap64 (x4_1 + 1)) < (l0.length : Int) then (if 0 ≤ (Int.tmod (wrap64 (rd l0 (wrap64 (x4_1 + 1)))) 4) then (if (Int.tmod (wrap64 (rd l0 (wrap64 (x4_1 + 1)))) 4) < (x3_1.length : Int) then ((deaddropref7_Join.f kj4 ((rd_T28 x3_1 (ji11)).f0) ((rd_T28 x3_1 (ji11)).f1) ((rd_T28 x3_1 (Int.tmod (wrap64 (rd l0 (wrap64 (x4_1 + 1)))) 4)).f0) ((rd_T28 x3_1 (Int.tmod (wrap64 (rd l0 (wrap64 (x4_1 + 1)))) 4)).f1)).bind fun bt282 => (deaddroplaw9_Apart.l0 kj4 l0 (x3_1.set ((ji11) : Int).toNat (⟨bt282.1, bt282.2⟩ : S28)) (wrap64 (x4_1 + 3)))) else (none)) else (none)) else (none)) else (none)) else (none)) else (none)) = some r := by first | (rw [hji11] at H; exact H) | (simp only [hji11] at H ⊢; exact H)
       by_cases c12 : 0 ≤ (ji11)
       rotate_left
       ·
        rw [if_neg c12] at H
        exact absurd H (by simp)
       rw [if_pos c12] at H
       have c12b0 : decide (0 ≤ (ji11)) = true := decide_eq_true c12
       clear c12
       by_cases c13 : (ji11) < (x3_1.length : Int)
       rotate_left
       ·
        rw [if_neg c13] at H
        exact absurd H (by simp)
       rw [if_pos c13] at H
       have c13b0 : decide ((ji11) < (x3_1.length : Int)) = true := decide_eq_true c13
       clear c13
       obtain ⟨ji14, hji14⟩ : ∃ j_ : Int, (wrap64 (x4_1 + 1)) = j_ := ⟨_, rfl⟩
       replace H : (if 0 ≤ (ji14) then (if (ji14) < (l0.length : Int) then (if 0 ≤ (Int.tmod (wrap64 (rd l0 (ji14))) 4) then (if (Int.tmod (wrap64 (rd l0 (ji14))) 4) < (x3_1.length : Int) then ((deaddropref7_Join.f kj4 ((rd_T28 x3_1 (ji11)).f0) ((rd_T28 x3_1 (ji11)).f1) ((rd_T28 x3_1 (Int.tmod (wrap64 (rd l0 (ji14))) 4)).f0) ((rd_T28 x3_1 (Int.tmod (wrap64 (rd l0 (ji14))) 4)).f1)).bind fun bt282 => (deaddroplaw9_Apart.l0 kj4 l0 (x3_1.set ((ji11) : Int).toNat (⟨bt282.1, bt282.2⟩ : S28)) (wrap64 (x4_1 + 3)))) else (none)) else (none)) else (none)) else (none)) = some r := by first | (rw [hji14] at H; exact H) | (simp only [hji14] at H ⊢; exact H)
       have hji14w : (IntKind.i64.wrap (x4_1 + 1)) = ji14 := (i64_w _).trans hji14
       by_cases c15 : 0 ≤ (ji14)
       rotate_left
       ·
        rw [if_neg c15] at H
        exact absurd H (by simp)
       rw [if_pos c15] at H
       have c15b0 : decide (0 ≤ (ji14)) = true := decide_eq_true c15
       clear c15
       by_cases c16 : (ji14) < (l0.length : Int)
       rotate_left
       ·
        rw [if_neg c16] at H
        exact absurd H (by simp)
       rw [if_pos c16] at H
       have c16b0 : decide ((ji14) < (l0.length : Int)) = true := decide_eq_true c16
       clear c16
       obtain ⟨ji17, hji17⟩ : ∃ j_ : Int, (Int.tmod (wrap64 (rd l0 (ji14))) 4) = j_ := ⟨_, rfl⟩
       replace H : (if 0 ≤ (ji17) then (if (ji17) < (x3_1.length : Int) then ((deaddropref7_Join.f kj4 ((rd_T28 x3_1 (ji11)).f0) ((rd_T28 x3_1 (ji11)).f1) ((rd_T28 x3_1 (ji17)).f0) ((rd_T28 x3_1 (ji17)).f1)).bind fun bt282 => (deaddroplaw9_Apart.l0 kj4 l0 (x3_1.set ((ji11) : Int).toNat (⟨bt282.1, bt282.2⟩ : S28)) (wrap64 (x4_1 + 3)))) else (none)) else (none)) = some r := by first | (rw [hji17] at H; exact H) | (simp only [hji17] at H ⊢; exact H)
       by_cases c18 : 0 ≤ (ji17)
       rotate_left
       ·
        rw [if_neg c18] at H
        exact absurd H (by simp)
       rw [if_pos c18] at H
       have c18b0 : decide (0 ≤ (ji17)) = true := decide_eq_true c18
       clear c18
       by_cases c19 : (ji17) < (x3_1.length : Int)
       rotate_left
       ·
        rw [if_neg c19] at H
        exact absurd H (by simp)
       rw [if_pos c19] at H
       have c19b0 : decide ((ji17) < (x3_1.length : Int)) = true := decide_eq_true c19
       clear c19
       replace H := Option.bind_eq_some_iff.mp H
       obtain ⟨⟨t282, t285⟩, A200, H⟩ := H
       replace H : (deaddroplaw9_Apart.l0 kj4 l0 (x3_1.set ((ji11) : Int).toNat (⟨t282, t285⟩ : S28)) (wrap64 (x4_1 + 3))) = some r := H
       have A20 := Aside0.mk A200
       clear A200
       obtain ⟨y288, hy288⟩ : ∃ y_ : List (S28), y_ = (x3_1.set ((ji11) : Int).toNat (⟨t282, t285⟩ : S28)) := ⟨_, rfl⟩
       replace H : (deaddroplaw9_Apart.l0 kj4 l0 y288 (wrap64 (x4_1 + 3))) = some r := by first | (rw [hy288]; with_reducible exact H) | (have H2_ := (Option.bind_some _ _).symm.trans H; rw [hy288]; with_reducible exact H2_) | (have H2_ := (Option.bind_some _ _).symm.trans H; with_reducible exact H2_) | with_reducible exact H | (rw [hy288]; exact H) | exact H
       have Ny288 := Aside0.mk hy288
       clear hy288
       have H' := Aside0.mk H
       clear H
       have p277 : 0 ≤ (x4_1 : Int) := of_decide_eq_true as_
       have q277 : x4_1 < (l0.length : Int) := of_decide_eq_true as_
       obtain ⟨ad277, e277, hx277_0⟩ := Kd.at_int HR0.out x4_1 p277 q277
       cases e277
       replace hx277_0 := (HB.out.cell (World.block_lt_of_cell? w _ hx277_0)).trans hx277_0
       replace p277 := eq_true p277
       replace q277 := eq_true q277
       have p278 : 0 ≤ (x4_1 : Int) := of_decide_eq_true as_
       have q278 : x4_1 < (l0.length : Int) := of_decide_eq_true as_
       obtain ⟨ad278, e278, hx278_0⟩ := Kd.at_int HR0.out x4_1 p278 q278
       obtain rfl : ad277 = ad278 := (by injection e278)
       replace hx278_0 := (HB.out.cell (World.block_lt_of_cell? w _ hx278_0)).trans hx278_0
       replace p278 := eq_true p278
       replace q278 := eq_true q278
       try go_wp2
       replace HO_3 := Aside0.mk (Kd.N_drew HO_3.out)
       replace HB := Aside0.mk (below_drew1 HB.out)
       obtain ⟨Ao23, co23, eo23⟩ := Kd.N_slice HO_3.out
       (first | subst eo23 | (injection eo23 with f1_ f2_ f3_; have f4_ := f1_.symm; have f5_ := f3_.symm; clear f1_ f2_ f3_; subst f4_; subst f5_))
       have p279 : 0 ≤ ((ji11) : Int) := of_decide_eq_true as_
       have q279 : (ji11) < (x3_1.length : Int) := of_decide_eq_true as_
       obtain ⟨ad279, A279_0, c279_0, A279_1, c279_1, e279, hx279_0, hx279_1, hl279_0, hi279_0, hl279_1, hi279_1⟩ := at_T28 (Kd.N_reads' HO_3.out).2.2 (ji11) p279 q279
       cases e279
       obtain ⟨ce279, hce279, hMe279, hcc279⟩ := Kd.N_get HO_3.out z28 (ji11) p279 (by first | exact q279 | exact of_decide_eq_true as_ | (have e_ := (Kd.N_reads' HO_3.out).1; omega))
       obtain ⟨ua279_0, uc279_0, ua279_1, uc279_1, rfl, ul279_0, ge279_0, ul279_1, ge279_1⟩ := k28_openF hMe279
       have hv279_0 := hcc279 0 _ rfl
       rw [Nat.add_zero] at hv279_0
       replace hv279_0 := Option.some.inj (hv279_0.symm.trans hx279_0)
       injection hv279_0 with hva_ hvn_ hvc_
       rw [hva_] at ge279_0
       rw [hvc_] at ul279_0
       have HL279_0 := Aside0.mk (show Kd.V k70 70 _ w.heap.size _ _ ((rd_T28 x3_1 (ji11)).f0) from Kd.V_mk ul279_0 ge279_0)
       clear hva_ hvn_ hvc_ ge279_0 ul279_0
       have hv279_1 := hcc279 1 _ rfl
       rw [add_field _ _ 1 (by omega)] at hv279_1
       replace hv279_1 := Option.some.inj (hv279_1.symm.trans hx279_1)
       injection hv279_1 with hva_ hvn_ hvc_
       rw [hva_] at ge279_1
       rw [hvc_] at ul279_1
       have HL279_1 := Aside0.mk (show Kd.V k34 34 _ w.heap.size _ _ ((rd_T28 x3_1 (ji11)).f1) from Kd.V_mk ul279_1 ge279_1)
       clear hva_ hvn_ hvc_ ge279_1 ul279_1
       clear hcc279 hce279
       have HR279_0 := Aside0.mk hi279_0
       have HC279_0 := Aside0.mk hl279_0
       clear hi279_0 hl279_0
       have HR279_1 := Aside0.mk hi279_1
       have HC279_1 := Aside0.mk hl279_1
       clear hi279_1 hl279_1
       replace p279 := eq_true p279
       replace q279 := eq_true q279
       have p280 : 0 ≤ ((ji14) : Int) := of_decide_eq_true as_
       have q280 : (ji14) < (l0.length : Int) := of_decide_eq_true as_
       obtain ⟨ad280, e280, hx280_0⟩ := Kd.at_int HR0.out (ji14) p280 q280
       have hw280_0 := hx280_0
       obtain rfl : ad277 = ad280 := (by injection e280)
       replace hx280_0 := (HB.out.cell (World.block_lt_of_cell? w _ hx280_0)).trans hx280_0
       replace p280 := eq_true p280
       replace q280 := eq_true q280
       have p281 : 0 ≤ ((ji17) : Int) := of_decide_eq_true as_
       have q281 : (ji17) < (x3_1.length : Int) := of_decide_eq_true as_
       obtain ⟨ad281, A281_0, c281_0, A281_1, c281_1, e281, hx281_0, hx281_1, hl281_0, hi281_0, hl281_1, hi281_1⟩ := at_T28 (Kd.N_reads' HO_3.out).2.2 (ji17) p281 q281
       obtain rfl : ad279 = ad281 := (by injection e281)
       obtain ⟨ce281, hce281, hMe281, hcc281⟩ := Kd.N_get HO_3.out z28 (ji17) p281 (by first | exact q281 | exact of_decide_eq_true as_ | (have e_ := (Kd.N_reads' HO_3.out).1; omega))
       obtain ⟨ua281_0, uc281_0, ua281_1, uc281_1, rfl, ul281_0, ge281_0, ul281_1, ge281_1⟩ := k28_openF hMe281
       have hv281_0 := hcc281 0 _ rfl
       rw [Nat.add_zero] at hv281_0
       replace hv281_0 := Option.some.inj (hv281_0.symm.trans hx281_0)
       injection hv281_0 with hva_ hvn_ hvc_
       rw [hva_] at ge281_0
       rw [hvc_] at ul281_0
       have HL281_0 := Aside0.mk (show Kd.V k70 70 _ w.heap.size _ _ ((rd_T28 x3_1 (ji17)).f0) from Kd.V_mk ul281_0 ge281_0)
       clear hva_ hvn_ hvc_ ge281_0 ul281_0
       have hv281_1 := hcc281 1 _ rfl
       rw [add_field _ _ 1 (by omega)] at hv281_1
       replace hv281_1 := Option.some.inj (hv281_1.symm.trans hx281_1)
       injection hv281_1 with hva_ hvn_ hvc_
       rw [hva_] at ge281_1
       rw [hvc_] at ul281_1
       have HL281_1 := Aside0.mk (show Kd.V k34 34 _ w.heap.size _ _ ((rd_T28 x3_1 (ji17)).f1) from Kd.V_mk ul281_1 ge281_1)
       clear hva_ hvn_ hvc_ ge281_1 ul281_1
       clear hcc281 hce281
       have HR281_0 := Aside0.mk hi281_0
       have HC281_0 := Aside0.mk hl281_0
       clear hi281_0 hl281_0
       have HR281_1 := Aside0.mk hi281_1
       have HC281_1 := Aside0.mk hl281_1
       clear hi281_1 hl281_1
       replace p281 := eq_true p281
       replace q281 := eq_true q281
       refine start_ (n := 19) (S := fun w' => w'.cell? (ad279.add (((ji11)).toNat * 2)) = some (.slice A279_0 ((rd_T28 x3_1 (ji11)).f0).length c279_0) ∧ w'.cell? ⟨(ad279.add (((ji11)).toNat * 2)).block, (ad279.add (((ji11)).toNat * 2)).off + 1, none⟩ = some (.slice A279_1 ((rd_T28 x3_1 (ji11)).f1).length c279_1) ∧ w'.cell? (ad277.add ((ji14)).toNat) = some (.int .u8 (rd l0 (ji14))) ∧ w'.cell? (ad279.add (((ji17)).toNat * 2)) = some (.slice A281_0 ((rd_T28 x3_1 (ji17)).f0).length c281_0) ∧ w'.cell? ⟨(ad279.add (((ji17)).toNat * 2)).block, (ad279.add (((ji17)).toNat * 2)).off + 1, none⟩ = some (.slice A281_1 ((rd_T28 x3_1 (ji17)).f1).length c281_1)) (ds := [18]) (fl 0 19) (by kernel_rfl) rfl rfl ⟨hx279_0, hx279_1, (bc HB.out hw280_0), hx281_0, hx281_1⟩ (fun hHeld => ?_); refine with_tabW deaddroplaw9_Apart.tab7 deaddroplaw9_Apart.bits7 (fun HT_ HW_ => ?_)
       generalize wc.drew = w22 at HO_3 HB HL279_0 HL279_1 HL281_0 HL281_1 HR279_0 HR279_1 HR281_0 HR281_1 hx279_0 hx279_1 hx280_0 hx281_0 hx281_1 hHeld ⊢
       refine pure_ (i := 0) (N := some 30) (fl 1 19) rfl rfl (any_of HT_.out (by kernel_rfl)) (fun _ _ _ h => h) (Or.inl ⟨by rfl, py⟩) pa ?_
       refine pure_ (i := 1) (N := some 31) (fl 2 19) rfl rfl (any_of HT_.out (by kernel_rfl)) (fun _ _ _ h => h) (Or.inl ⟨by rfl, py⟩) pa ?_
       refine pure_ (i := 2) (N := some 32) (fl 3 19) rfl rfl (any_of HT_.out (by kernel_rfl)) (fun _ _ _ h => h) (Or.inl ⟨by rfl, py⟩) pa ?_
       refine pure_ (i := 3) (N := some 33) (fl 4 19) rfl rfl (any_of HT_.out (by kernel_rfl)) (fun _ _ _ h => h) (Or.inl ⟨by rfl, py⟩) pa ?_
       refine pure_ (i := 4) (N := some 34) (fl 5 19) rfl rfl (any_of HT_.out (by kernel_rfl)) (fun _ _ _ h => h) (Or.inl ⟨by rfl, py⟩) pa ?_
       refine pure_ (i := 6) (N := some 36) #[true, true, true, true, true, false, true, false, false, false, false, false, false, false, false, false, false, false, false] rfl rfl (any_of HT_.out (by kernel_rfl)) (fun _ _ _ h => h) (Or.inl ⟨by rfl, py⟩) pa ?_
       refine pure_ (i := 7) (N := some 37) #[true, true, true, true, true, false, true, true, false, false, false, false, false, false, false, false, false, false, false] rfl rfl (any_of HT_.out (by kernel_rfl)) (fun _ _ _ h => h) (Or.inl ⟨by rfl, py⟩) pa ?_
       refine pure_ (i := 8) (N := some 38) #[true, true, true, true, true, false, true, true, true, false, false, false, false, false, false, false, false, false, false] rfl rfl (any_of HT_.out (by kernel_rfl)) (fun _ _ _ h => h) (Or.inl ⟨by rfl, py⟩) pa ?_
       refine pure_ (i := 9) (N := some 39) #[true, true, true, true, true, false, true, true, true, true, false, false, false, false, false, false, false, false, false] rfl rfl (any_of HT_.out (by kernel_rfl)) (fun _ _ _ h => h) (Or.inl ⟨by rfl, py⟩) pa ?_
       refine pure_ (i := 10) (N := some 40) #[true, true, true, true, true, false, true, true, true, true, true, false, false, false, false, false, false, false, false] rfl rfl (any_of HT_.out (by kernel_rfl)) (fun _ _ _ h => h) (Or.inl ⟨by rfl, py⟩) pa ?_
       refine take_ (i := 5) (N := some 35) (fl 11 19) rfl rfl (take_ofW HT_.out HW_.out (by kernel_rfl)) (fun _ _ _ h => h) (Or.inl ⟨by rfl, tk⟩) hHeld pa ?_
       refine take_ (i := 11) (N := some 41) (fl 12 19) rfl rfl (take_ofW HT_.out HW_.out (by kernel_rfl)) (fun _ _ _ h => h) (Or.inl ⟨by rfl, tk⟩) hHeld pa ?_
       refine pure_ (i := 12) (N := some 42) (fl 13 19) rfl rfl (any_of HT_.out (by kernel_rfl)) (fun _ _ _ h => h) (Or.inl ⟨by rfl, py⟩) pa ?_
       refine pure_ (i := 13) (N := some 43) (fl 14 19) rfl rfl (any_of HT_.out (by kernel_rfl)) (fun _ _ _ h => h) (Or.inl ⟨by rfl, py⟩) pa ?_
       refine pure_ (i := 14) (N := some 44) (fl 15 19) rfl rfl (any_of HT_.out (by kernel_rfl)) (fun _ _ _ h => h) (Or.inl ⟨by rfl, py⟩) pa ?_
       refine take_ (i := 15) (N := some 45) (fl 16 19) rfl rfl (take_ofW HT_.out HW_.out (by kernel_rfl)) (fun _ _ _ h => h) (Or.inl ⟨by rfl, tk⟩) hHeld pa ?_
       refine one_ (i := 16) (N := some 46) (fl 17 19) rfl rfl (one_of HT_.out (by kernel_rfl)) (by decide) (fun K hK => ?_)
       refine goes_ Try.func8 (by kernel_rfl) rfl #[.agg #[.slice A279_0 ((rd_T28 x3_1 (ji11)).f0).length c279_0, .slice A279_1 ((rd_T28 x3_1 (ji11)).f1).length c279_1], .agg #[.slice A281_0 ((rd_T28 x3_1 (ji17)).f0).length c281_0, .slice A281_1 ((rd_T28 x3_1 (ji17)).f1).length c281_1]] (by rfl) rfl rfl (by (try simp only [List.map_toArray, List.map_cons, List.map_nil]); first | done | (simp only [hji11, hji17]; rfl) | rfl | (simp only [List.length_drop, List.length_take]; rfl)) ?_
       with_reducible refine (deaddropref7_Join.calls kj4 _ _ ((rd_T28 x3_1 (ji11)).f0) _ _ ((rd_T28 x3_1 (ji11)).f1) _ _ ((rd_T28 x3_1 (ji17)).f0) _ _ ((rd_T28 x3_1 (ji17)).f1) t282 t285 _ ?side1 ?side2 ?side3 ?side4 ?side5 ?side6 ?side7 ?side8 A20.out).mono ?_
       (case side1 => exact cr (ck HR279_0.out))
       (case side2 => exact HC279_0.out)
       (case side3 => exact cr (ck HR279_1.out))
       (case side4 => exact HC279_1.out)
       (case side5 => exact cr (ck HR281_0.out))
       (case side6 => exact HC281_0.out)
       (case side7 => exact cr (ck HR281_1.out))
       (case side8 => exact HC281_1.out)
       rintro e w24 ⟨v283, v286, rfl, ho0, ho1, hb⟩
       have HS0_ := (hb.cell (World.block_lt_of_cell? _ _ (hHeld.1))).trans (hHeld.1)
       have HS1_ := (hb.cell (World.block_lt_of_cell? _ _ (hHeld.2.1))).trans (hHeld.2.1)
       have HS3_ := (hb.cell (World.block_lt_of_cell? _ _ (hHeld.2.2.2.1))).trans (hHeld.2.2.2.1)
       have HS4_ := (hb.cell (World.block_lt_of_cell? _ _ (hHeld.2.2.2.2))).trans (hHeld.2.2.2.2)
       refine ⟨_, rfl, ?_⟩
       replace HO_3 := Aside0.mk (Kd.N_mono (Kd.N_told (Kd.N_told (Kd.N_old (nk HO_3.out) hb) (Kd.R_base ho0)) (Kd.R_base ho1)) (fun _ h_ => h_.1))
       replace HL279_0 := Aside0.mk (Kd.V_mono (Kd.V_told (Kd.V_told (Kd.V_old (vk HL279_0.out) hb) (Kd.R_base ho0)) (Kd.R_base ho1)) (fun _ h_ => h_.1))
       replace HL279_1 := Aside0.mk (Kd.V_mono (Kd.V_told (Kd.V_told (Kd.V_old (vk HL279_1.out) hb) (Kd.R_base ho0)) (Kd.R_base ho1)) (fun _ h_ => h_.1))
       replace HL281_0 := Aside0.mk (Kd.V_mono (Kd.V_told (Kd.V_told (Kd.V_old (vk HL281_0.out) hb) (Kd.R_base ho0)) (Kd.R_base ho1)) (fun _ h_ => h_.1))
       replace HL281_1 := Aside0.mk (Kd.V_mono (Kd.V_told (Kd.V_told (Kd.V_old (vk HL281_1.out) hb) (Kd.R_base ho0)) (Kd.R_base ho1)) (fun _ h_ => h_.1))
       have HO284 := Aside0.mk (Kd.R_lower (Kd.R_newM (M := fun k_ => (w.heap.size ≤ k_)) ho0 (below_size (bw HB.out)) (fun k_ h_ => h_)) (below_size (bw HB.out)))
       have HO287 := Aside0.mk (Kd.R_lower (Kd.R_newM (M := fun k_ => (w.heap.size ≤ k_)) ho1 (below_size (bw HB.out)) (fun k_ h_ => h_)) (below_size (bw HB.out)))
       replace HR279_0 := Aside0.mk (Kd.C_below (ck HR279_0.out) hb)
       replace HR279_1 := Aside0.mk (Kd.C_below (ck HR279_1.out) hb)
       replace HR281_0 := Aside0.mk (Kd.C_below (ck HR281_0.out) hb)
       replace HR281_1 := Aside0.mk (Kd.C_below (ck HR281_1.out) hb)
       replace HB := Aside0.mk (below_step (bw HB.out) hb)
       (try clear hb)
       (try clear hb2)
       (try clear hk)
       (try clear hi)
       (try clear ho0)
       (try clear ho1)
       have p21 : 0 ≤ ((ji11) : Int) := of_decide_eq_true as_
       have q21 : ((ji11) : Int) < ((x3_1.length : Int) : Int) := of_decide_eq_true as_
       obtain ⟨go21, co21, eo21, gb21, gl21, cl21, HG21⟩ := Kd.N_form HO_3.out (by omega)
       (first | cases eo21 | (injection eo21 with ea_ en_ ec_; (first | subst ea_ | (injection ea_ with ea_; subst ea_)); subst ec_; clear en_))
       have GB21 := Aside0.mk gb21
       have GG21 := Aside0.mk HG21
       clear gb21 gl21 HG21
       (first | simp only [add_plain] at hx279_0 | skip)
       (first | simp only [add_plain] at hx279_1 | skip)
       (first | simp only [add_plain] at hx281_0 | skip)
       (first | simp only [add_plain] at hx281_1 | skip)
       obtain ⟨ce21, hcl21, hM21, hcc21, hfr21⟩ := Kd.N_elem HO_3.out z28 ((ji11) : Int) p21 q21
       obtain ⟨ua21_0, uc21_0, ua21_1, uc21_1, rfl, ul21_0, ge21_0, ul21_1, ge21_1⟩ := k28_openF hM21
       have hx21_0 : World.cell? _ ⟨go21, ((ji11) : Int).toNat * 2, none⟩ = some (.slice ua21_0 ((rd_T28 x3_1 (ji11)).f0).length uc21_0) := hcc21 0 _ rfl
       have hx21_1 : World.cell? _ ⟨go21, ((ji11) : Int).toNat * 2 + 1, none⟩ = some (.slice ua21_1 ((rd_T28 x3_1 (ji11)).f1).length uc21_1) := hcc21 1 _ rfl
       have hf21_0 : World.frozen? _ ⟨go21, ((ji11) : Int).toNat * 2, none⟩ = false := hfr21 0
       have hf21_1 : World.frozen? _ ⟨go21, ((ji11) : Int).toNat * 2 + 1, none⟩ = false := hfr21 1
       clear hcl21 hcc21 hfr21 hM21
       replace p21 := eq_true p21
       replace q21 := eq_true q21
       obtain ⟨Ax283, cx283, ex283⟩ := Kd.R_slice HO284.out
       subst ex283
       obtain ⟨Ax286, cx286, ex286⟩ := Kd.R_slice HO287.out
       subst ex286
       have HX25 := Aside0.mk (show Kd.N k28 28 _ w.heap.size (fun k_ => (w.heap.size ≤ k_) ∧ some k_ ≠ (.slice Ax283 t282.length cx283 : Value).ownBlock ∧ some k_ ≠ (.slice Ax286 t285.length cx286 : Value).ownBlock) (.slice (some ⟨go21, 0, none⟩) x3_1.length co23) x3_1 from (Kd.N_mono (HO_3.out) (fun k_ hk => ⟨hk.1.1, ⟨hk.1.2, hk.2⟩⟩)))
       replace HX25 := Aside0.mk (show Kd.N k28 28 _ w.heap.size (fun k_ => (w.heap.size ≤ k_)) (.slice (some ⟨go21, 0, none⟩) x3_1.length co23) x3_1 from Kd.N_mono HX25.out (fun k_ hk => hk.1))
       obtain ⟨ce25, hcl25, hM25, hcc25, hfr25⟩ := Kd.N_elem HX25.out z28 ((ji11) : Int) (of_decide_eq_true as_) (by have h_ : ((ji11) : Int) < ((x3_1.length : Int) : Int) := of_decide_eq_true as_; first | exact h_ | (have e_ := (Kd.N_reads' HO_3.out).1; omega) | simpa using h_)
       obtain ⟨ua25_0, uc25_0, ua25_1, uc25_1, rfl, ul25_0, ge25_0, ul25_1, ge25_1⟩ := k28_openF hM25
       have r1_ := (Kd.R_apart' (HO284.out) (Kd.N_typed HO_3.out) (by decide))
       have s1_ := Kd.R_mono (ok' := (fun k_ => ((fun k_ => (w.heap.size ≤ k_))) k_ ∧ k_ ≠ go21)) r1_ (fun k_ hk => ⟨hk.1.1, fun e_ => (hk.2) (by rw [e_]; rfl)⟩)
       have r2_ := (Kd.R_apart' (HO287.out) (Kd.N_typed HO_3.out) (by decide))
       have s2_ := Kd.R_mono (ok' := (fun k_ => ((fun k_ => (w.heap.size ≤ k_))) k_ ∧ k_ ≠ go21)) r2_ (fun k_ hk => ⟨hk.1.1, fun e_ => (hk.2) (by rw [e_]; rfl)⟩)
       have HP25 := (Kd.N_seg HX25.out ((ji11) : Int) (of_decide_eq_true as_) (by have h_ : ((ji11) : Int) < ((x3_1.length : Int) : Int) := of_decide_eq_true as_; first | exact h_ | (have e_ := (Kd.N_reads' HO_3.out).1; omega) | simpa using h_) (seg := [(.slice Ax283 t282.length cx283), (.slice Ax286 t285.length cx286)]) (j := 0) hcl25 hcc25 (show 2 ≤ 2 from by decide) (x' := (⟨t282, t285⟩ : S28)) (k28_mkR (x := (⟨t282, t285⟩ : S28)) s1_ s2_) (fun _ hk => hk)).1
       clear s1_ r1_ s2_ r2_
       rw [← Ny288.out] at HP25
       have HQ25 := Aside0.mk HP25
       clear hcl25 hcc25 hfr25 hM25 HP25
       refine hK.out _ _ ⟨HS0_, HS1_, (bc HB.out hw280_0), HS3_, HS4_⟩ (fun hHeld => ?_)
       clear hK K
       refine norm_ (a' := ?_) ?_ ?_
       rotate_left
       ·
        show Act.put _ (some 46) _ = _
        simp only [Act.put, List.setIfInBounds_toArray, List.set_cons_zero, List.set_cons_succ, i64_w, i32_w]
        rfl
       refine pure_ (i := 17) (N := some 47) (fl 18 19) rfl rfl (any_of HT_.out (by kernel_rfl)) (fun _ _ _ h => h) (Or.inl ⟨by rfl, py⟩) pa ?_
       refine last_ (i := 18) (N := none) (fl 19 19) rfl rfl (one_of HT_.out (by kernel_rfl)) (by decide) (fun K hK => ?_)
       refine skip_ (w1 := ?_) (by rfl) rfl ?_ ?_
       rotate_left
       ·
        go_simp
        rfl
       refine hK.out _ _ ?_
       clear hK K
       refine done_ (done_of HT_.out (by kernel_rfl)) ?_
       try go_wp2
       go_roundg kj4
       case measure => have := HK1.out; have := HJ4.out; omega
       case rel => exact ⟨(y288), (wrap64 (x4_1 + 3)), ok_, H', ⟨by have := HK1.out; have := HJ4.out; omega⟩, ⟨nk HQ25.out⟩, ⟨bw2 HB.out GB21.out GB21.out⟩⟩
      ·
       rw [if_neg c10] at H
       have c10b0 : decide (160 ≤ (rd l0 x4_1)) = false := decide_eq_false c10
       clear c10
       obtain ⟨ji26, hji26⟩ : ∃ j_ : Int, (Int.tmod (wrap64 (rd l0 x4_1)) 4) = j_ := ⟨_, rfl⟩
       replace H : (if 0 ≤ (ji26) then (if (ji26) < (x3_1.length : Int) then (if 0 ≤ (wrap64 (x4_1 + 1)) then (if (wrap64 (x4_1 + 1)) < (l0.length : Int) then (if 0 ≤ (wrap64 (x4_1 + 2)) then (if (wrap64 (x4_1 + 2)) < (l0.length : Int) then ((deaddroplaw8_Op.f (rd l0 (wrap64 (x4_1 + 1))) (rd l0 (wrap64 (x4_1 + 2)))).bind fun bt292 => ((deaddropref7_Do.f kj4 ((rd_T28 x3_1 (ji26)).f0) ((rd_T28 x3_1 (ji26)).f1) (ji26) bt292.1 bt292.2.1 bt292.2.2.1 bt292.2.2.2).bind fun bt296 => (if bt296.2.2 = 0 then ((deaddropref7_Join.f kj4 ((rd_T28 x3_1 (ji26)).f0) ((rd_T28 x3_1 (ji26)).f1) bt296.1 bt296.2.1).bind fun bt305 => (deaddroplaw9_Apart.l0 kj4 l0 (x3_1.set ((ji26) : Int).toNat (⟨bt305.1, bt305.2⟩ : S28)) (wrap64 (x4_1 + 3)))) else (deaddroplaw9_Apart.l0 kj4 l0 x3_1 (wrap64 (x4_1 + 3)))))) else (none)) else (none)) else (none)) else (none)) else (none)) else (none)) = some r := by first | (rw [hji26] at H; exact H) | (simp only [hji26] at H ⊢; exact H)
       by_cases c27 : 0 ≤ (ji26)
       rotate_left
       ·
        rw [if_neg c27] at H
        exact absurd H (by simp)
       rw [if_pos c27] at H
       have c27b0 : decide (0 ≤ (ji26)) = true := decide_eq_true c27
       clear c27
       by_cases c28 : (ji26) < (x3_1.length : Int)
       rotate_left
       ·
        rw [if_neg c28] at H
        exact absurd H (by simp)
       rw [if_pos c28] at H
       have c28b0 : decide ((ji26) < (x3_1.length : Int)) = true := decide_eq_true c28
       clear c28
       obtain ⟨ji29, hji29⟩ : ∃ j_ : Int, (wrap64 (x4_1 + 1)) = j_ := ⟨_, rfl⟩
       replace H : (if 0 ≤ (ji29) then (if (ji29) < (l0.length : Int) then (if 0 ≤ (wrap64 (x4_1 + 2)) then (if (wrap64 (x4_1 + 2)) < (l0.length : Int) then ((deaddroplaw8_Op.f (rd l0 (ji29)) (rd l0 (wrap64 (x4_1 + 2)))).bind fun bt292 => ((deaddropref7_Do.f kj4 ((rd_T28 x3_1 (ji26)).f0) ((rd_T28 x3_1 (ji26)).f1) (ji26) bt292.1 bt292.2.1 bt292.2.2.1 bt292.2.2.2).bind fun bt296 => (if bt296.2.2 = 0 then ((deaddropref7_Join.f kj4 ((rd_T28 x3_1 (ji26)).f0) ((rd_T28 x3_1 (ji26)).f1) bt296.1 bt296.2.1).bind fun bt305 => (deaddroplaw9_Apart.l0 kj4 l0 (x3_1.set ((ji26) : Int).toNat (⟨bt305.1, bt305.2⟩ : S28)) (wrap64 (x4_1 + 3)))) else (deaddroplaw9_Apart.l0 kj4 l0 x3_1 (wrap64 (x4_1 + 3)))))) else (none)) else (none)) else (none)) else (none)) = some r := by first | (rw [hji29] at H; exact H) | (simp only [hji29] at H ⊢; exact H)
       have hji29w : (IntKind.i64.wrap (x4_1 + 1)) = ji29 := (i64_w _).trans hji29
       by_cases c30 : 0 ≤ (ji29)
       rotate_left
       ·
        rw [if_neg c30] at H
        exact absurd H (by simp)
       rw [if_pos c30] at H
       have c30b0 : decide (0 ≤ (ji29)) = true := decide_eq_true c30
       clear c30
       by_cases c31 : (ji29) < (l0.length : Int)
       rotate_left
       ·
        rw [if_neg c31] at H
        exact absurd H (by simp)
       rw [if_pos c31] at H
       have c31b0 : decide ((ji29) < (l0.length : Int)) = true := decide_eq_true c31
       clear c31
       obtain ⟨ji32, hji32⟩ : ∃ j_ : Int, (wrap64 (x4_1 + 2)) = j_ := ⟨_, rfl⟩
       replace H : (if 0 ≤ (ji32) then (if (ji32) < (l0.length : Int) then ((deaddroplaw8_Op.f (rd l0 (ji29)) (rd l0 (ji32))).bind fun bt292 => ((deaddropref7_Do.f kj4 ((rd_T28 x3_1 (ji26)).f0) ((rd_T28 x3_1 (ji26)).f1) (ji26) bt292.1 bt292.2.1 bt292.2.2.1 bt292.2.2.2).bind fun bt296 => (if bt296.2.2 = 0 then ((deaddropref7_Join.f kj4 ((rd_T28 x3_1 (ji26)).f0) ((rd_T28 x3_1 (ji26)).f1) bt296.1 bt296.2.1).bind fun bt305 => (deaddroplaw9_Apart.l0 kj4 l0 (x3_1.set ((ji26) : Int).toNat (⟨bt305.1, bt305.2⟩ : S28)) (wrap64 (x4_1 + 3)))) else (deaddroplaw9_Apart.l0 kj4 l0 x3_1 (wrap64 (x4_1 + 3)))))) else (none)) else (none)) = some r := by first | (rw [hji32] at H; exact H) | (simp only [hji32] at H ⊢; exact H)
       have hji32w : (IntKind.i64.wrap (x4_1 + 2)) = ji32 := (i64_w _).trans hji32
       by_cases c33 : 0 ≤ (ji32)
       rotate_left
       ·
        rw [if_neg c33] at H
        exact absurd H (by simp)
       rw [if_pos c33] at H
       have c33b0 : decide (0 ≤ (ji32)) = true := decide_eq_true c33
       clear c33
       by_cases c34 : (ji32) < (l0.length : Int)
       rotate_left
       ·
        rw [if_neg c34] at H
        exact absurd H (by simp)
       rw [if_pos c34] at H
       have c34b0 : decide ((ji32) < (l0.length : Int)) = true := decide_eq_true c34
       clear c34
       replace H := Option.bind_eq_some_iff.mp H
       obtain ⟨⟨t292, t293, t294, t295⟩, A350, H⟩ := H
       replace H : ((deaddropref7_Do.f kj4 ((rd_T28 x3_1 (ji26)).f0) ((rd_T28 x3_1 (ji26)).f1) (ji26) t292 t293 t294 t295).bind fun bt296 => (if bt296.2.2 = 0 then ((deaddropref7_Join.f kj4 ((rd_T28 x3_1 (ji26)).f0) ((rd_T28 x3_1 (ji26)).f1) bt296.1 bt296.2.1).bind fun bt305 => (deaddroplaw9_Apart.l0 kj4 l0 (x3_1.set ((ji26) : Int).toNat (⟨bt305.1, bt305.2⟩ : S28)) (wrap64 (x4_1 + 3)))) else (deaddroplaw9_Apart.l0 kj4 l0 x3_1 (wrap64 (x4_1 + 3))))) = some r := H
       have A35 := Aside0.mk A350
       clear A350
       replace H := Option.bind_eq_some_iff.mp H
       obtain ⟨⟨t296, t299, t302⟩, A360, H⟩ := H
       replace H : (if t302 = 0 then ((deaddropref7_Join.f kj4 ((rd_T28 x3_1 (ji26)).f0) ((rd_T28 x3_1 (ji26)).f1) t296 t299).bind fun bt305 => (deaddroplaw9_Apart.l0 kj4 l0 (x3_1.set ((ji26) : Int).toNat (⟨bt305.1, bt305.2⟩ : S28)) (wrap64 (x4_1 + 3)))) else (deaddroplaw9_Apart.l0 kj4 l0 x3_1 (wrap64 (x4_1 + 3)))) = some r := H
       have A36 := Aside0.mk A360
       clear A360
       by_cases c37 : t302 = 0
       ·
        rw [if_pos c37] at H
        have c37b0 : (t302 == 0) = true := beq_iff_eq.mpr c37
        have c37b1 : (t302 != 0) = false := bne_eq_false_iff_eq.mpr c37
        clear c37
        replace H := Option.bind_eq_some_iff.mp H
        obtain ⟨⟨t305, t308⟩, A380, H⟩ := H
        replace H : (deaddroplaw9_Apart.l0 kj4 l0 (x3_1.set ((ji26) : Int).toNat (⟨t305, t308⟩ : S28)) (wrap64 (x4_1 + 3))) = some r := H
        have A38 := Aside0.mk A380
        clear A380
        obtain ⟨y311, hy311⟩ : ∃ y_ : List (S28), y_ = (x3_1.set ((ji26) : Int).toNat (⟨t305, t308⟩ : S28)) := ⟨_, rfl⟩
        replace H : (deaddroplaw9_Apart.l0 kj4 l0 y311 (wrap64 (x4_1 + 3))) = some r := by first | (rw [hy311]; with_reducible exact H) | (have H2_ := (Option.bind_some _ _).symm.trans H; rw [hy311]; with_reducible exact H2_) | (have H2_ := (Option.bind_some _ _).symm.trans H; with_reducible exact H2_) | with_reducible exact H | (rw [hy311]; exact H) | exact H
        have Ny311 := Aside0.mk hy311
        clear hy311
        have H' := Aside0.mk H
        clear H
        have p277 : 0 ≤ (x4_1 : Int) := of_decide_eq_true as_
        have q277 : x4_1 < (l0.length : Int) := of_decide_eq_true as_
        obtain ⟨ad277, e277, hx277_0⟩ := Kd.at_int HR0.out x4_1 p277 q277
        cases e277
        replace hx277_0 := (HB.out.cell (World.block_lt_of_cell? w _ hx277_0)).trans hx277_0
        replace p277 := eq_true p277
        replace q277 := eq_true q277
        have p278 : 0 ≤ (x4_1 : Int) := of_decide_eq_true as_
        have q278 : x4_1 < (l0.length : Int) := of_decide_eq_true as_
        obtain ⟨ad278, e278, hx278_0⟩ := Kd.at_int HR0.out x4_1 p278 q278
        obtain rfl : ad277 = ad278 := (by injection e278)
        replace hx278_0 := (HB.out.cell (World.block_lt_of_cell? w _ hx278_0)).trans hx278_0
        replace p278 := eq_true p278
        replace q278 := eq_true q278
        try go_wp2
        replace HO_3 := Aside0.mk (Kd.N_drew HO_3.out)
        replace HB := Aside0.mk (below_drew1 HB.out)
        obtain ⟨Ao41, co41, eo41⟩ := Kd.N_slice HO_3.out
        (first | subst eo41 | (injection eo41 with f1_ f2_ f3_; have f4_ := f1_.symm; have f5_ := f3_.symm; clear f1_ f2_ f3_; subst f4_; subst f5_))
        have p289 : 0 ≤ ((ji26) : Int) := of_decide_eq_true as_
        have q289 : (ji26) < (x3_1.length : Int) := of_decide_eq_true as_
        obtain ⟨ad289, A289_0, c289_0, A289_1, c289_1, e289, hx289_0, hx289_1, hl289_0, hi289_0, hl289_1, hi289_1⟩ := at_T28 (Kd.N_reads' HO_3.out).2.2 (ji26) p289 q289
        cases e289
        obtain ⟨ce289, hce289, hMe289, hcc289⟩ := Kd.N_get HO_3.out z28 (ji26) p289 (by first | exact q289 | exact of_decide_eq_true as_ | (have e_ := (Kd.N_reads' HO_3.out).1; omega))
        obtain ⟨ua289_0, uc289_0, ua289_1, uc289_1, rfl, ul289_0, ge289_0, ul289_1, ge289_1⟩ := k28_openF hMe289
        have hv289_0 := hcc289 0 _ rfl
        rw [Nat.add_zero] at hv289_0
        replace hv289_0 := Option.some.inj (hv289_0.symm.trans hx289_0)
        injection hv289_0 with hva_ hvn_ hvc_
        rw [hva_] at ge289_0
        rw [hvc_] at ul289_0
        have HL289_0 := Aside0.mk (show Kd.V k70 70 _ w.heap.size _ _ ((rd_T28 x3_1 (ji26)).f0) from Kd.V_mk ul289_0 ge289_0)
        clear hva_ hvn_ hvc_ ge289_0 ul289_0
        have hv289_1 := hcc289 1 _ rfl
        rw [add_field _ _ 1 (by omega)] at hv289_1
        replace hv289_1 := Option.some.inj (hv289_1.symm.trans hx289_1)
        injection hv289_1 with hva_ hvn_ hvc_
        rw [hva_] at ge289_1
        rw [hvc_] at ul289_1
        have HL289_1 := Aside0.mk (show Kd.V k34 34 _ w.heap.size _ _ ((rd_T28 x3_1 (ji26)).f1) from Kd.V_mk ul289_1 ge289_1)
        clear hva_ hvn_ hvc_ ge289_1 ul289_1
        clear hcc289 hce289
        have HR289_0 := Aside0.mk hi289_0
        have HC289_0 := Aside0.mk hl289_0
        clear hi289_0 hl289_0
        have HR289_1 := Aside0.mk hi289_1
        have HC289_1 := Aside0.mk hl289_1
        clear hi289_1 hl289_1
        replace p289 := eq_true p289
        replace q289 := eq_true q289
        have p290 : 0 ≤ ((ji29) : Int) := of_decide_eq_true as_
        have q290 : (ji29) < (l0.length : Int) := of_decide_eq_true as_
        obtain ⟨ad290, e290, hx290_0⟩ := Kd.at_int HR0.out (ji29) p290 q290
        have hw290_0 := hx290_0
        obtain rfl : ad277 = ad290 := (by injection e290)
        replace hx290_0 := (HB.out.cell (World.block_lt_of_cell? w _ hx290_0)).trans hx290_0
        replace p290 := eq_true p290
        replace q290 := eq_true q290
        have p291 : 0 ≤ ((ji32) : Int) := of_decide_eq_true as_
        have q291 : (ji32) < (l0.length : Int) := of_decide_eq_true as_
        obtain ⟨ad291, e291, hx291_0⟩ := Kd.at_int HR0.out (ji32) p291 q291
        have hw291_0 := hx291_0
        obtain rfl : ad277 = ad291 := (by injection e291)
        replace hx291_0 := (HB.out.cell (World.block_lt_of_cell? w _ hx291_0)).trans hx291_0
        replace p291 := eq_true p291
        replace q291 := eq_true q291
        refine start_ (n := 19) (S := fun w' => w'.cell? (ad289.add (((ji26)).toNat * 2)) = some (.slice A289_0 ((rd_T28 x3_1 (ji26)).f0).length c289_0) ∧ w'.cell? ⟨(ad289.add (((ji26)).toNat * 2)).block, (ad289.add (((ji26)).toNat * 2)).off + 1, none⟩ = some (.slice A289_1 ((rd_T28 x3_1 (ji26)).f1).length c289_1) ∧ w'.cell? (ad277.add ((ji29)).toNat) = some (.int .u8 (rd l0 (ji29))) ∧ w'.cell? (ad277.add ((ji32)).toNat) = some (.int .u8 (rd l0 (ji32)))) (ds := []) (fl 0 19) (by kernel_rfl) rfl rfl ⟨hx289_0, hx289_1, (bc HB.out hw290_0), (bc HB.out hw291_0)⟩ (fun hHeld => ?_); refine with_tabW deaddroplaw9_Apart.tab8 deaddroplaw9_Apart.bits8 (fun HT_ HW_ => ?_)
        generalize wc.drew = w40 at HO_3 HB HL289_0 HL289_1 HR289_0 HR289_1 hx289_0 hx289_1 hx290_0 hx291_0 hHeld ⊢
        refine pure_ (i := 0) (N := some 48) (fl 1 19) rfl rfl (any_of HT_.out (by kernel_rfl)) (fun _ _ _ h => h) (Or.inl ⟨by rfl, py⟩) pa ?_
        refine pure_ (i := 1) (N := some 49) (fl 2 19) rfl rfl (any_of HT_.out (by kernel_rfl)) (fun _ _ _ h => h) (Or.inl ⟨by rfl, py⟩) pa ?_
        refine pure_ (i := 2) (N := some 50) (fl 3 19) rfl rfl (any_of HT_.out (by kernel_rfl)) (fun _ _ _ h => h) (Or.inl ⟨by rfl, py⟩) pa ?_
        refine pure_ (i := 4) (N := some 52) #[true, true, true, false, true, false, false, false, false, false, false, false, false, false, false, false, false, false, false] rfl rfl (any_of HT_.out (by kernel_rfl)) (fun _ _ _ h => h) (Or.inl ⟨by rfl, py⟩) pa ?_
        refine pure_ (i := 5) (N := some 53) #[true, true, true, false, true, true, false, false, false, false, false, false, false, false, false, false, false, false, false] rfl rfl (any_of HT_.out (by kernel_rfl)) (fun _ _ _ h => h) (Or.inl ⟨by rfl, py⟩) pa ?_
        refine pure_ (i := 6) (N := some 54) #[true, true, true, false, true, true, true, false, false, false, false, false, false, false, false, false, false, false, false] rfl rfl (any_of HT_.out (by kernel_rfl)) (fun _ _ _ h => h) (Or.inl ⟨by rfl, py⟩) pa ?_
        refine pure_ (i := 7) (N := some 55) #[true, true, true, false, true, true, true, true, false, false, false, false, false, false, false, false, false, false, false] rfl rfl (any_of HT_.out (by kernel_rfl)) (fun _ _ _ h => h) (Or.inl ⟨by rfl, py⟩) pa ?_
        refine pure_ (i := 8) (N := some 56) #[true, true, true, false, true, true, true, true, true, false, false, false, false, false, false, false, false, false, false] rfl rfl (any_of HT_.out (by kernel_rfl)) (fun _ _ _ h => h) (Or.inl ⟨by rfl, py⟩) pa ?_
        refine pure_ (i := 10) (N := some 58) #[true, true, true, false, true, true, true, true, true, false, true, false, false, false, false, false, false, false, false] rfl rfl (any_of HT_.out (by kernel_rfl)) (fun _ _ _ h => h) (Or.inl ⟨by rfl, py⟩) pa ?_
        refine pure_ (i := 11) (N := some 59) #[true, true, true, false, true, true, true, true, true, false, true, true, false, false, false, false, false, false, false] rfl rfl (any_of HT_.out (by kernel_rfl)) (fun _ _ _ h => h) (Or.inl ⟨by rfl, py⟩) pa ?_
        refine pure_ (i := 12) (N := some 60) #[true, true, true, false, true, true, true, true, true, false, true, true, true, false, false, false, false, false, false] rfl rfl (any_of HT_.out (by kernel_rfl)) (fun _ _ _ h => h) (Or.inl ⟨by rfl, py⟩) pa ?_
        refine pure_ (i := 13) (N := some 61) #[true, true, true, false, true, true, true, true, true, false, true, true, true, true, false, false, false, false, false] rfl rfl (any_of HT_.out (by kernel_rfl)) (fun _ _ _ h => h) (Or.inl ⟨by rfl, py⟩) pa ?_
        refine take_ (i := 3) (N := some 51) #[true, true, true, true, true, true, true, true, true, false, true, true, true, true, false, false, false, false, false] rfl rfl (take_ofW HT_.out HW_.out (by kernel_rfl)) (fun _ _ _ h => h) (Or.inl ⟨by rfl, tk⟩) hHeld pa ?_
        refine take_ (i := 9) (N := some 57) (fl 14 19) rfl rfl (take_ofW HT_.out HW_.out (by kernel_rfl)) (fun _ _ _ h => h) (Or.inl ⟨by rfl, tk⟩) hHeld pa ?_
        refine take_ (i := 14) (N := some 62) (fl 15 19) rfl rfl (take_ofW HT_.out HW_.out (by kernel_rfl)) (fun _ _ _ h => h) (Or.inl ⟨by rfl, tk⟩) hHeld pa ?_
        refine join_ (σ := Value × Value × Nat) 1 (fl 18 19) (fun s_ => [(63, .agg #[.int .i64 t292, .string t293, .string t294, .int .i64 t295]), (64, .agg #[s_.1, s_.2.1, .int .i64 t302]), (6, .pointer (some ⟨s_.2.2, 0, none⟩))]) (fun s_ w' => (w'.cell? (ad289.add (((ji26)).toNat * 2)) = some (.slice A289_0 ((rd_T28 x3_1 (ji26)).f0).length c289_0) ∧ w'.cell? ⟨(ad289.add (((ji26)).toNat * 2)).block, (ad289.add (((ji26)).toNat * 2)).off + 1, none⟩ = some (.slice A289_1 ((rd_T28 x3_1 (ji26)).f1).length c289_1) ∧ w'.cell? (ad277.add ((ji29)).toNat) = some (.int .u8 (rd l0 (ji29))) ∧ w'.cell? (ad277.add ((ji32)).toNat) = some (.int .u8 (rd l0 (ji32)))) ∧ (Kd.V k70 70 w' w.heap.size (fun k_ => (w.heap.size ≤ k_) ∧ some k_ ≠ (s_.1 : Value).ownBlock ∧ some k_ ≠ (s_.2.1 : Value).ownBlock ∧ some k_ ≠ (.slice (some ad289) x3_1.length co41 : Value).ownBlock ∧ k_ ≠ s_.2.2) (.slice A289_0 ((rd_T28 x3_1 (ji26)).f0).length c289_0) ((rd_T28 x3_1 (ji26)).f0)) ∧ (Kd.V k34 34 w' w.heap.size (fun k_ => (w.heap.size ≤ k_) ∧ some k_ ≠ (s_.1 : Value).ownBlock ∧ some k_ ≠ (s_.2.1 : Value).ownBlock ∧ some k_ ≠ (.slice (some ad289) x3_1.length co41 : Value).ownBlock ∧ k_ ≠ s_.2.2) (.slice A289_1 ((rd_T28 x3_1 (ji26)).f1).length c289_1) ((rd_T28 x3_1 (ji26)).f1)) ∧ (Kd.R k70 70 w' w.heap.size (fun k_ => (w.heap.size ≤ k_)) s_.1 t296) ∧ (Kd.R k34 34 w' w.heap.size (fun k_ => (w.heap.size ≤ k_)) s_.2.1 t299) ∧ (Kd.N k28 28 w' w.heap.size (fun k_ => (w.heap.size ≤ k_) ∧ some k_ ≠ (s_.1 : Value).ownBlock ∧ some k_ ≠ (s_.2.1 : Value).ownBlock ∧ k_ ≠ s_.2.2) (.slice (some ad289) x3_1.length co41) x3_1) ∧ (w'.heap[s_.2.2]? = some (.cells #[.slice none 0 0, .slice none 0 0, .int .i64 0] 43 (0, 0))) ∧ (w.heap.size ≤ s_.2.2) ∧ (w.heap.size ≤ s_.2.2) ∧ (Below w.heap.size w w')) ?_ ?_
        rotate_left
        ·
         intro hCont
         refine two_ (i := 15) (j := 17) (Ni := some 63) (Nj := some 6) (fl 16 19) #[true, true, true, true, true, true, true, true, true, true, true, true, true, true, true, false, false, true, false] rfl rfl rfl rfl (two_of HT_.out (by kernel_rfl)) (by decide) (by decide) (fun K hK => ?_) (fun K hK => ?_)
         ·
          skip
          refine goes_ Try.func12 (by kernel_rfl) rfl #[.int .u8 (rd l0 (ji29)), .int .u8 (rd l0 (ji32))] (by rfl) rfl rfl (by (try simp only [List.map_toArray, List.map_cons, List.map_nil]); first | done | (simp only [hji29, hji32]; rfl) | rfl | (simp only [List.length_drop, List.length_take]; rfl)) ?_
          with_reducible refine (deaddroplaw8_Op.calls (rd l0 (ji29)) (rd l0 (ji32)) t292 t293 t294 t295 _ A35.out).mono ?_
          rintro e w42 ⟨rfl, hb⟩
          have HS0_ := (hb.cell (World.block_lt_of_cell? _ _ (hHeld.1))).trans (hHeld.1)
          have HS1_ := (hb.cell (World.block_lt_of_cell? _ _ (hHeld.2.1))).trans (hHeld.2.1)
          refine ⟨_, rfl, ?_⟩
          replace HO_3 := Aside0.mk (Kd.N_below (nk HO_3.out) hb)
          replace HL289_0 := Aside0.mk (Kd.V_below (vk HL289_0.out) hb)
          replace HL289_1 := Aside0.mk (Kd.V_below (vk HL289_1.out) hb)
          replace HR289_0 := Aside0.mk (Kd.C_below (ck HR289_0.out) hb)
          replace HR289_1 := Aside0.mk (Kd.C_below (ck HR289_1.out) hb)
          replace HB := Aside0.mk (below_step (bw HB.out) hb)
          (try clear hb)
          (try clear hb2)
          (try clear hk)
          (try clear hi)
          refine hK.out _ _ ⟨HS0_, HS1_, (bc HB.out hw290_0), (bc HB.out hw291_0)⟩ (fun hHeld => ?_)
          clear hK K
          refine norm_ (a' := ?_) ?_ ?_
          rotate_left
          ·
           show Act.put _ (some 63) _ = _
           simp only [Act.put, List.setIfInBounds_toArray, List.set_cons_zero, List.set_cons_succ, i64_w, i32_w]
           rfl
          refine two_ (i := 16) (j := 17) (Ni := some 64) (Nj := some 6) (fl 17 19) #[true, true, true, true, true, true, true, true, true, true, true, true, true, true, true, true, false, true, false] rfl rfl rfl rfl (two_of HT_.out (by kernel_rfl)) (by decide) (by decide) (fun K hK => ?_) (fun K hK => ?_)
          ·
           skip
           refine goes_ Try.func13 (by kernel_rfl) rfl #[.agg #[.slice A289_0 ((rd_T28 x3_1 (ji26)).f0).length c289_0, .slice A289_1 ((rd_T28 x3_1 (ji26)).f1).length c289_1], .int .i64 ji26, .agg #[.int .i64 t292, .string t293, .string t294, .int .i64 t295]] (by rfl) rfl rfl (by (try simp only [List.map_toArray, List.map_cons, List.map_nil]); first | done | (simp only [hji26]; rfl) | rfl | (simp only [List.length_drop, List.length_take]; rfl)) ?_
           with_reducible refine (deaddropref7_Do.calls kj4 _ _ ((rd_T28 x3_1 (ji26)).f0) _ _ ((rd_T28 x3_1 (ji26)).f1) ji26 t292 t293 t294 t295 t296 t299 t302 _ ?side1 ?side2 ?side3 ?side4 A36.out).mono ?_
           (case side1 => exact cr (ck HR289_0.out))
           (case side2 => exact HC289_0.out)
           (case side3 => exact cr (ck HR289_1.out))
           (case side4 => exact HC289_1.out)
           rintro e w43 ⟨v297, v300, rfl, ho0, ho1, hb⟩
           have HS0_ := (hb.cell (World.block_lt_of_cell? _ _ (hHeld.1))).trans (hHeld.1)
           have HS1_ := (hb.cell (World.block_lt_of_cell? _ _ (hHeld.2.1))).trans (hHeld.2.1)
           refine ⟨_, rfl, ?_⟩
           replace HO_3 := Aside0.mk (Kd.N_mono (Kd.N_told (Kd.N_told (Kd.N_old (nk HO_3.out) hb) (Kd.R_base ho0)) (Kd.R_base ho1)) (fun _ h_ => h_.1))
           replace HL289_0 := Aside0.mk (Kd.V_mono (Kd.V_told (Kd.V_told (Kd.V_old (vk HL289_0.out) hb) (Kd.R_base ho0)) (Kd.R_base ho1)) (fun _ h_ => h_.1))
           replace HL289_1 := Aside0.mk (Kd.V_mono (Kd.V_told (Kd.V_told (Kd.V_old (vk HL289_1.out) hb) (Kd.R_base ho0)) (Kd.R_base ho1)) (fun _ h_ => h_.1))
           have HO298 := Aside0.mk (Kd.R_lower (Kd.R_newM (M := fun k_ => (w.heap.size ≤ k_)) ho0 (below_size (bw HB.out)) (fun k_ h_ => h_)) (below_size (bw HB.out)))
           have HO301 := Aside0.mk (Kd.R_lower (Kd.R_newM (M := fun k_ => (w.heap.size ≤ k_)) ho1 (below_size (bw HB.out)) (fun k_ h_ => h_)) (below_size (bw HB.out)))
           replace HR289_0 := Aside0.mk (Kd.C_below (ck HR289_0.out) hb)
           replace HR289_1 := Aside0.mk (Kd.C_below (ck HR289_1.out) hb)
           replace HB := Aside0.mk (below_step (bw HB.out) hb)
           (try clear hb)
           (try clear hb2)
           (try clear hk)
           (try clear hi)
           (try clear ho0)
           (try clear ho1)
           refine hK.out _ _ ⟨HS0_, HS1_, (bc HB.out hw290_0), (bc HB.out hw291_0)⟩ (fun hHeld => ?_)
           clear hK K
           refine norm_ (a' := ?_) ?_ ?_
           rotate_left
           ·
            show Act.put _ (some 64) _ = _
            simp only [Act.put, List.setIfInBounds_toArray, List.set_cons_zero, List.set_cons_succ, i64_w, i32_w]
            rfl
           refine one_ (i := 17) (N := some 6) (fl 18 19) rfl rfl (one_of HT_.out (by kernel_rfl)) (by decide) (fun K hK => ?_)
           refine box_step ?hg (N := 6) ?hd (cs := #[.slice none 0 0, .slice none 0 0, .int .i64 0]) (t := 43) ?hr ?_; (case hd => rfl); (case hg => rfl); (case hr => first | (go_simp; done) | (go_simp; rfl))
           intro gb303 hg w44 hbox hb
           have HS0_ := (hb.cell (World.block_lt_of_cell? _ _ (hHeld.1))).trans (hHeld.1)
           have HS1_ := (hb.cell (World.block_lt_of_cell? _ _ (hHeld.2.1))).trans (hHeld.2.1)
           replace HO_3 := Aside0.mk (Kd.N_below (Kd.N_elderB (nk HO_3.out) gb303 (Nat.le_of_eq hg.symm)) hb)
           replace HL289_0 := Aside0.mk (Kd.V_below (Kd.V_elderB (vk HL289_0.out) gb303 (Nat.le_of_eq hg.symm)) hb)
           replace HL289_1 := Aside0.mk (Kd.V_below (Kd.V_elderB (vk HL289_1.out) gb303 (Nat.le_of_eq hg.symm)) hb)
           replace HO298 := Aside0.mk (Kd.R_below (rk HO298.out) hb)
           replace HO301 := Aside0.mk (Kd.R_below (rk HO301.out) hb)
           replace HR289_0 := Aside0.mk (Kd.C_below (ck HR289_0.out) hb)
           replace HR289_1 := Aside0.mk (Kd.C_below (ck HR289_1.out) hb)
           have BK303 := Aside0.mk (hbox)
           have GW303 := Aside0.mk ((by rw [hg]; exact (below_size (bw HB.out)) : w.heap.size ≤ gb303))
           have GE303 := GW303
           replace HB := Aside0.mk (below_step (bw HB.out) hb)
           clear hb hbox hg
           refine hK.out _ _ ⟨HS0_, HS1_, (bc HB.out hw290_0), (bc HB.out hw291_0)⟩ (fun hHeld => ?_)
           clear hK K
           refine norm_ (a' := ?_) ?_ ?_
           rotate_left
           ·
            show Act.put _ (some 6) _ = _
            simp only [Act.put, List.setIfInBounds_toArray, List.set_cons_zero, List.set_cons_succ, i64_w, i32_w]
            rfl
           exact norm_ (by simp only [putAll, Act.put, List.setIfInBounds_toArray, List.set_cons_zero, List.set_cons_succ]) (hCont (v297, v300, gb303) _ ⟨hHeld, (by (with_reducible repeat (first | apply Kd.V_alloc | apply Kd.V_drewN | apply Kd.V_drew)); exact Kd.V_mono HL289_0.out (fun _ hk => ⟨hk.1.1.1.1, ⟨hk.1.1.2, ⟨hk.1.2, ⟨hk.1.1.1.2, hk.2⟩⟩⟩⟩)), (by (with_reducible repeat (first | apply Kd.V_alloc | apply Kd.V_drewN | apply Kd.V_drew)); exact Kd.V_mono HL289_1.out (fun _ hk => ⟨hk.1.1.1.1, ⟨hk.1.1.2, ⟨hk.1.2, ⟨hk.1.1.1.2, hk.2⟩⟩⟩⟩)), (by (with_reducible repeat (first | apply Kd.R_alloc | apply Kd.R_drewN | apply Kd.R_drew)); exact Kd.R_mono HO298.out (fun _ hk => hk.1)), (by (with_reducible repeat (first | apply Kd.R_alloc | apply Kd.R_drewN | apply Kd.R_drew)); exact Kd.R_mono HO301.out (fun _ hk => hk.1)), (by (with_reducible repeat (first | apply Kd.N_alloc | apply Kd.N_drewN | apply Kd.N_drew)); exact Kd.N_mono HO_3.out (fun _ hk => ⟨hk.1.1.1, ⟨hk.1.1.2, ⟨hk.1.2, hk.2⟩⟩⟩)), (bk BK303.out), GW303.out, GE303.out, (bw1 HB.out GE303.out)⟩)
          ·
           skip
           refine box_step ?hg (N := 6) ?hd (cs := #[.slice none 0 0, .slice none 0 0, .int .i64 0]) (t := 43) ?hr ?_; (case hd => rfl); (case hg => rfl); (case hr => first | (go_simp; done) | (go_simp; rfl))
           intro gb303 hg w43 hbox hb
           have HS0_ := (hb.cell (World.block_lt_of_cell? _ _ (hHeld.1))).trans (hHeld.1)
           have HS1_ := (hb.cell (World.block_lt_of_cell? _ _ (hHeld.2.1))).trans (hHeld.2.1)
           replace HO_3 := Aside0.mk (Kd.N_below (Kd.N_elderB (nk HO_3.out) gb303 (Nat.le_of_eq hg.symm)) hb)
           replace HL289_0 := Aside0.mk (Kd.V_below (Kd.V_elderB (vk HL289_0.out) gb303 (Nat.le_of_eq hg.symm)) hb)
           replace HL289_1 := Aside0.mk (Kd.V_below (Kd.V_elderB (vk HL289_1.out) gb303 (Nat.le_of_eq hg.symm)) hb)
           replace HR289_0 := Aside0.mk (Kd.C_below (ck HR289_0.out) hb)
           replace HR289_1 := Aside0.mk (Kd.C_below (ck HR289_1.out) hb)
           have BK303 := Aside0.mk (hbox)
           have GW303 := Aside0.mk ((by rw [hg]; exact (below_size (bw HB.out)) : w.heap.size ≤ gb303))
           have GE303 := GW303
           replace HB := Aside0.mk (below_step (bw HB.out) hb)
           clear hb hbox hg
           refine hK.out _ _ ⟨HS0_, HS1_, (bc HB.out hw290_0), (bc HB.out hw291_0)⟩ (fun hHeld => ?_)
           clear hK K
           refine norm_ (a' := ?_) ?_ ?_
           rotate_left
           ·
            show Act.put _ (some 6) _ = _
            simp only [Act.put, List.setIfInBounds_toArray, List.set_cons_zero, List.set_cons_succ, i64_w, i32_w]
            rfl
           refine one_ (i := 16) (N := some 64) (fl 18 19) rfl rfl (one_of HT_.out (by kernel_rfl)) (by decide) (fun K hK => ?_)
           refine goes_ Try.func13 (by kernel_rfl) rfl #[.agg #[.slice A289_0 ((rd_T28 x3_1 (ji26)).f0).length c289_0, .slice A289_1 ((rd_T28 x3_1 (ji26)).f1).length c289_1], .int .i64 ji26, .agg #[.int .i64 t292, .string t293, .string t294, .int .i64 t295]] (by rfl) rfl rfl (by (try simp only [List.map_toArray, List.map_cons, List.map_nil]); first | done | (simp only [hji26]; rfl) | rfl | (simp only [List.length_drop, List.length_take]; rfl)) ?_
           with_reducible refine (deaddropref7_Do.calls kj4 _ _ ((rd_T28 x3_1 (ji26)).f0) _ _ ((rd_T28 x3_1 (ji26)).f1) ji26 t292 t293 t294 t295 t296 t299 t302 _ ?side1 ?side2 ?side3 ?side4 A36.out).mono ?_
           (case side1 => exact cr (ck HR289_0.out))
           (case side2 => exact HC289_0.out)
           (case side3 => exact cr (ck HR289_1.out))
           (case side4 => exact HC289_1.out)
           rintro e w44 ⟨v297, v300, rfl, ho0, ho1, hb⟩
           have HS0_ := (hb.cell (World.block_lt_of_cell? _ _ (hHeld.1))).trans (hHeld.1)
           have HS1_ := (hb.cell (World.block_lt_of_cell? _ _ (hHeld.2.1))).trans (hHeld.2.1)
           refine ⟨_, rfl, ?_⟩
           replace HO_3 := Aside0.mk (Kd.N_mono (Kd.N_told (Kd.N_told (Kd.N_old (nk HO_3.out) hb) (Kd.R_base ho0)) (Kd.R_base ho1)) (fun _ h_ => h_.1))
           replace HL289_0 := Aside0.mk (Kd.V_mono (Kd.V_told (Kd.V_told (Kd.V_old (vk HL289_0.out) hb) (Kd.R_base ho0)) (Kd.R_base ho1)) (fun _ h_ => h_.1))
           replace HL289_1 := Aside0.mk (Kd.V_mono (Kd.V_told (Kd.V_told (Kd.V_old (vk HL289_1.out) hb) (Kd.R_base ho0)) (Kd.R_base ho1)) (fun _ h_ => h_.1))
           have HO298 := Aside0.mk (Kd.R_lower (Kd.R_newM (M := fun k_ => (w.heap.size ≤ k_)) ho0 (below_size (bw1 HB.out GE303.out)) (fun k_ h_ => h_)) (below_size (bw1 HB.out GE303.out)))
           have HO301 := Aside0.mk (Kd.R_lower (Kd.R_newM (M := fun k_ => (w.heap.size ≤ k_)) ho1 (below_size (bw1 HB.out GE303.out)) (fun k_ h_ => h_)) (below_size (bw1 HB.out GE303.out)))
           replace HR289_0 := Aside0.mk (Kd.C_below (ck HR289_0.out) hb)
           replace HR289_1 := Aside0.mk (Kd.C_below (ck HR289_1.out) hb)
           replace BK303 := Aside0.mk (bkb BK303.out hb)
           replace HB := Aside0.mk (below_step (bw1 HB.out GE303.out) hb)
           (try clear hb)
           (try clear hb2)
           (try clear hk)
           (try clear hi)
           (try clear ho0)
           (try clear ho1)
           refine hK.out _ _ ⟨HS0_, HS1_, (bc HB.out hw290_0), (bc HB.out hw291_0)⟩ (fun hHeld => ?_)
           clear hK K
           refine norm_ (a' := ?_) ?_ ?_
           rotate_left
           ·
            show Act.put _ (some 64) _ = _
            simp only [Act.put, List.setIfInBounds_toArray, List.set_cons_zero, List.set_cons_succ, i64_w, i32_w]
            rfl
           exact norm_ (by simp only [putAll, Act.put, List.setIfInBounds_toArray, List.set_cons_zero, List.set_cons_succ]) (hCont (v297, v300, gb303) _ ⟨hHeld, (by (with_reducible repeat (first | apply Kd.V_alloc | apply Kd.V_drewN | apply Kd.V_drew)); exact Kd.V_mono HL289_0.out (fun _ hk => ⟨hk.1.1.1.1, ⟨hk.1.2, ⟨hk.2, ⟨hk.1.1.1.2, hk.1.1.2⟩⟩⟩⟩)), (by (with_reducible repeat (first | apply Kd.V_alloc | apply Kd.V_drewN | apply Kd.V_drew)); exact Kd.V_mono HL289_1.out (fun _ hk => ⟨hk.1.1.1.1, ⟨hk.1.2, ⟨hk.2, ⟨hk.1.1.1.2, hk.1.1.2⟩⟩⟩⟩)), (by (with_reducible repeat (first | apply Kd.R_alloc | apply Kd.R_drewN | apply Kd.R_drew)); exact Kd.R_mono HO298.out (fun _ hk => hk.1)), (by (with_reducible repeat (first | apply Kd.R_alloc | apply Kd.R_drewN | apply Kd.R_drew)); exact Kd.R_mono HO301.out (fun _ hk => hk.1)), (by (with_reducible repeat (first | apply Kd.N_alloc | apply Kd.N_drewN | apply Kd.N_drew)); exact Kd.N_mono HO_3.out (fun _ hk => ⟨hk.1.1.1, ⟨hk.1.2, ⟨hk.2, hk.1.1.2⟩⟩⟩)), (bk BK303.out), GW303.out, GE303.out, (bw1 HB.out GE303.out)⟩)
         ·
          skip
          refine box_step ?hg (N := 6) ?hd (cs := #[.slice none 0 0, .slice none 0 0, .int .i64 0]) (t := 43) ?hr ?_; (case hd => rfl); (case hg => rfl); (case hr => first | (go_simp; done) | (go_simp; rfl))
          intro gb303 hg w42 hbox hb
          have HS0_ := (hb.cell (World.block_lt_of_cell? _ _ (hHeld.1))).trans (hHeld.1)
          have HS1_ := (hb.cell (World.block_lt_of_cell? _ _ (hHeld.2.1))).trans (hHeld.2.1)
          replace HO_3 := Aside0.mk (Kd.N_below (Kd.N_elderB (nk HO_3.out) gb303 (Nat.le_of_eq hg.symm)) hb)
          replace HL289_0 := Aside0.mk (Kd.V_below (Kd.V_elderB (vk HL289_0.out) gb303 (Nat.le_of_eq hg.symm)) hb)
          replace HL289_1 := Aside0.mk (Kd.V_below (Kd.V_elderB (vk HL289_1.out) gb303 (Nat.le_of_eq hg.symm)) hb)
          replace HR289_0 := Aside0.mk (Kd.C_below (ck HR289_0.out) hb)
          replace HR289_1 := Aside0.mk (Kd.C_below (ck HR289_1.out) hb)
          have BK303 := Aside0.mk (hbox)
          have GW303 := Aside0.mk ((by rw [hg]; exact (below_size (bw HB.out)) : w.heap.size ≤ gb303))
          have GE303 := GW303
          replace HB := Aside0.mk (below_step (bw HB.out) hb)
          clear hb hbox hg
          refine hK.out _ _ ⟨HS0_, HS1_, (bc HB.out hw290_0), (bc HB.out hw291_0)⟩ (fun hHeld => ?_)
          clear hK K
          refine norm_ (a' := ?_) ?_ ?_
          rotate_left
          ·
           show Act.put _ (some 6) _ = _
           simp only [Act.put, List.setIfInBounds_toArray, List.set_cons_zero, List.set_cons_succ, i64_w, i32_w]
           rfl
          refine one_ (i := 15) (N := some 63) #[true, true, true, true, true, true, true, true, true, true, true, true, true, true, true, true, false, true, false] rfl rfl (one_of HT_.out (by kernel_rfl)) (by decide) (fun K hK => ?_)
          refine goes_ Try.func12 (by kernel_rfl) rfl #[.int .u8 (rd l0 (ji29)), .int .u8 (rd l0 (ji32))] (by rfl) rfl rfl (by (try simp only [List.map_toArray, List.map_cons, List.map_nil]); first | done | (simp only [hji29, hji32]; rfl) | rfl | (simp only [List.length_drop, List.length_take]; rfl)) ?_
          with_reducible refine (deaddroplaw8_Op.calls (rd l0 (ji29)) (rd l0 (ji32)) t292 t293 t294 t295 _ A35.out).mono ?_
          rintro e w43 ⟨rfl, hb⟩
          have HS0_ := (hb.cell (World.block_lt_of_cell? _ _ (hHeld.1))).trans (hHeld.1)
          have HS1_ := (hb.cell (World.block_lt_of_cell? _ _ (hHeld.2.1))).trans (hHeld.2.1)
          refine ⟨_, rfl, ?_⟩
          replace HO_3 := Aside0.mk (Kd.N_below (nk HO_3.out) hb)
          replace HL289_0 := Aside0.mk (Kd.V_below (vk HL289_0.out) hb)
          replace HL289_1 := Aside0.mk (Kd.V_below (vk HL289_1.out) hb)
          replace HR289_0 := Aside0.mk (Kd.C_below (ck HR289_0.out) hb)
          replace HR289_1 := Aside0.mk (Kd.C_below (ck HR289_1.out) hb)
          replace BK303 := Aside0.mk (bkb BK303.out hb)
          replace HB := Aside0.mk (below_step (bw1 HB.out GE303.out) hb)
          (try clear hb)
          (try clear hb2)
          (try clear hk)
          (try clear hi)
          refine hK.out _ _ ⟨HS0_, HS1_, (bc HB.out hw290_0), (bc HB.out hw291_0)⟩ (fun hHeld => ?_)
          clear hK K
          refine norm_ (a' := ?_) ?_ ?_
          rotate_left
          ·
           show Act.put _ (some 63) _ = _
           simp only [Act.put, List.setIfInBounds_toArray, List.set_cons_zero, List.set_cons_succ, i64_w, i32_w]
           rfl
          refine one_ (i := 16) (N := some 64) (fl 18 19) rfl rfl (one_of HT_.out (by kernel_rfl)) (by decide) (fun K hK => ?_)
          refine goes_ Try.func13 (by kernel_rfl) rfl #[.agg #[.slice A289_0 ((rd_T28 x3_1 (ji26)).f0).length c289_0, .slice A289_1 ((rd_T28 x3_1 (ji26)).f1).length c289_1], .int .i64 ji26, .agg #[.int .i64 t292, .string t293, .string t294, .int .i64 t295]] (by rfl) rfl rfl (by (try simp only [List.map_toArray, List.map_cons, List.map_nil]); first | done | (simp only [hji26]; rfl) | rfl | (simp only [List.length_drop, List.length_take]; rfl)) ?_
          with_reducible refine (deaddropref7_Do.calls kj4 _ _ ((rd_T28 x3_1 (ji26)).f0) _ _ ((rd_T28 x3_1 (ji26)).f1) ji26 t292 t293 t294 t295 t296 t299 t302 _ ?side1 ?side2 ?side3 ?side4 A36.out).mono ?_
          (case side1 => exact cr (ck HR289_0.out))
          (case side2 => exact HC289_0.out)
          (case side3 => exact cr (ck HR289_1.out))
          (case side4 => exact HC289_1.out)
          rintro e w44 ⟨v297, v300, rfl, ho0, ho1, hb⟩
          have HS0_ := (hb.cell (World.block_lt_of_cell? _ _ (hHeld.1))).trans (hHeld.1)
          have HS1_ := (hb.cell (World.block_lt_of_cell? _ _ (hHeld.2.1))).trans (hHeld.2.1)
          refine ⟨_, rfl, ?_⟩
          replace HO_3 := Aside0.mk (Kd.N_mono (Kd.N_told (Kd.N_told (Kd.N_old (nk HO_3.out) hb) (Kd.R_base ho0)) (Kd.R_base ho1)) (fun _ h_ => h_.1))
          replace HL289_0 := Aside0.mk (Kd.V_mono (Kd.V_told (Kd.V_told (Kd.V_old (vk HL289_0.out) hb) (Kd.R_base ho0)) (Kd.R_base ho1)) (fun _ h_ => h_.1))
          replace HL289_1 := Aside0.mk (Kd.V_mono (Kd.V_told (Kd.V_told (Kd.V_old (vk HL289_1.out) hb) (Kd.R_base ho0)) (Kd.R_base ho1)) (fun _ h_ => h_.1))
          have HO298 := Aside0.mk (Kd.R_lower (Kd.R_newM (M := fun k_ => (w.heap.size ≤ k_)) ho0 (below_size (bw1 HB.out GE303.out)) (fun k_ h_ => h_)) (below_size (bw1 HB.out GE303.out)))
          have HO301 := Aside0.mk (Kd.R_lower (Kd.R_newM (M := fun k_ => (w.heap.size ≤ k_)) ho1 (below_size (bw1 HB.out GE303.out)) (fun k_ h_ => h_)) (below_size (bw1 HB.out GE303.out)))
          replace HR289_0 := Aside0.mk (Kd.C_below (ck HR289_0.out) hb)
          replace HR289_1 := Aside0.mk (Kd.C_below (ck HR289_1.out) hb)
          replace BK303 := Aside0.mk (bkb BK303.out hb)
          replace HB := Aside0.mk (below_step (bw1 HB.out GE303.out) hb)
          (try clear hb)
          (try clear hb2)
          (try clear hk)
          (try clear hi)
          (try clear ho0)
          (try clear ho1)
          refine hK.out _ _ ⟨HS0_, HS1_, (bc HB.out hw290_0), (bc HB.out hw291_0)⟩ (fun hHeld => ?_)
          clear hK K
          refine norm_ (a' := ?_) ?_ ?_
          rotate_left
          ·
           show Act.put _ (some 64) _ = _
           simp only [Act.put, List.setIfInBounds_toArray, List.set_cons_zero, List.set_cons_succ, i64_w, i32_w]
           rfl
          exact norm_ (by simp only [putAll, Act.put, List.setIfInBounds_toArray, List.set_cons_zero, List.set_cons_succ]) (hCont (v297, v300, gb303) _ ⟨hHeld, (by (with_reducible repeat (first | apply Kd.V_alloc | apply Kd.V_drewN | apply Kd.V_drew)); exact Kd.V_mono HL289_0.out (fun _ hk => ⟨hk.1.1.1.1, ⟨hk.1.2, ⟨hk.2, ⟨hk.1.1.1.2, hk.1.1.2⟩⟩⟩⟩)), (by (with_reducible repeat (first | apply Kd.V_alloc | apply Kd.V_drewN | apply Kd.V_drew)); exact Kd.V_mono HL289_1.out (fun _ hk => ⟨hk.1.1.1.1, ⟨hk.1.2, ⟨hk.2, ⟨hk.1.1.1.2, hk.1.1.2⟩⟩⟩⟩)), (by (with_reducible repeat (first | apply Kd.R_alloc | apply Kd.R_drewN | apply Kd.R_drew)); exact Kd.R_mono HO298.out (fun _ hk => hk.1)), (by (with_reducible repeat (first | apply Kd.R_alloc | apply Kd.R_drewN | apply Kd.R_drew)); exact Kd.R_mono HO301.out (fun _ hk => hk.1)), (by (with_reducible repeat (first | apply Kd.N_alloc | apply Kd.N_drewN | apply Kd.N_drew)); exact Kd.N_mono HO_3.out (fun _ hk => ⟨hk.1.1.1, ⟨hk.1.2, ⟨hk.2, hk.1.1.2⟩⟩⟩)), (bk BK303.out), GW303.out, GE303.out, (bw1 HB.out GE303.out)⟩)
        rintro ⟨v297, v300, gb303⟩ w45 ⟨hS_, h0_, h1_, h2_, h3_, h4_, h5_, h6_, h7_, h8_⟩
        have n0_ : Aside0 (Kd.V k70 70 w45 w.heap.size (fun k_ => (w.heap.size ≤ k_) ∧ some k_ ≠ (v297 : Value).ownBlock ∧ some k_ ≠ (v300 : Value).ownBlock ∧ some k_ ≠ (.slice (some ad289) x3_1.length co41 : Value).ownBlock ∧ k_ ≠ gb303) (.slice A289_0 ((rd_T28 x3_1 (ji26)).f0).length c289_0) ((rd_T28 x3_1 (ji26)).f0)) := ⟨h0_⟩
        have n1_ : Aside0 (Kd.V k34 34 w45 w.heap.size (fun k_ => (w.heap.size ≤ k_) ∧ some k_ ≠ (v297 : Value).ownBlock ∧ some k_ ≠ (v300 : Value).ownBlock ∧ some k_ ≠ (.slice (some ad289) x3_1.length co41 : Value).ownBlock ∧ k_ ≠ gb303) (.slice A289_1 ((rd_T28 x3_1 (ji26)).f1).length c289_1) ((rd_T28 x3_1 (ji26)).f1)) := ⟨h1_⟩
        have n2_ : Aside0 (Kd.R k70 70 w45 w.heap.size (fun k_ => (w.heap.size ≤ k_)) v297 t296) := ⟨h2_⟩
        have n3_ : Aside0 (Kd.R k34 34 w45 w.heap.size (fun k_ => (w.heap.size ≤ k_)) v300 t299) := ⟨h3_⟩
        have n4_ : Aside0 (Kd.N k28 28 w45 w.heap.size (fun k_ => (w.heap.size ≤ k_) ∧ some k_ ≠ (v297 : Value).ownBlock ∧ some k_ ≠ (v300 : Value).ownBlock ∧ k_ ≠ gb303) (.slice (some ad289) x3_1.length co41) x3_1) := ⟨h4_⟩
        have n5_ : Aside0 (w45.heap[gb303]? = some (.cells #[.slice none 0 0, .slice none 0 0, .int .i64 0] 43 (0, 0))) := ⟨h5_⟩
        have n6_ : Aside0 (w.heap.size ≤ gb303) := ⟨h6_⟩
        have n7_ : Aside0 (w.heap.size ≤ gb303) := ⟨h7_⟩
        have n8_ : Aside0 (Below w.heap.size w w45) := ⟨h8_⟩
        clear HO_3
        clear HB
        clear h0_ h1_ h2_ h3_ h4_ h5_ h6_ h7_ h8_
        have HL289_0 := n0_
        have HL289_1 := n1_
        have HO298 := n2_
        have HO301 := n3_
        have HO_3 := n4_
        have BK303 := n5_
        have GW303 := n6_
        have GE303 := n7_
        have HB := n8_
        clear n0_ n1_ n2_ n3_ n4_ n5_ n6_ n7_ n8_
        have hHeld : w45.cell? (ad289.add (((ji26)).toNat * 2)) = some (.slice A289_0 ((rd_T28 x3_1 (ji26)).f0).length c289_0) ∧ w45.cell? ⟨(ad289.add (((ji26)).toNat * 2)).block, (ad289.add (((ji26)).toNat * 2)).off + 1, none⟩ = some (.slice A289_1 ((rd_T28 x3_1 (ji26)).f1).length c289_1) ∧ w45.cell? (ad277.add ((ji29)).toNat) = some (.int .u8 (rd l0 (ji29))) ∧ w45.cell? (ad277.add ((ji32)).toNat) = some (.int .u8 (rd l0 (ji32))) := hS_
        obtain ⟨Ao46, co46, eo46⟩ := Kd.R_slice HO298.out
        (first | subst eo46 | (injection eo46 with f1_ f2_ f3_; have f4_ := f1_.symm; have f5_ := f3_.symm; clear f1_ f2_ f3_; subst f4_; subst f5_))
        obtain ⟨Ao48, co48, eo48⟩ := Kd.R_slice HO301.out
        (first | subst eo48 | (injection eo48 with f1_ f2_ f3_; have f4_ := f1_.symm; have f5_ := f3_.symm; clear f1_ f2_ f3_; subst f4_; subst f5_))
        refine norm_ (a' := ?_) ?_ ?_
        rotate_left
        ·
         simp only [putAll, Act.put, List.setIfInBounds_toArray, List.set_cons_zero, List.set_cons_succ]
         rfl
        refine one_ (i := 18) (N := none) (fl 19 19) rfl rfl (one_of HT_.out (by kernel_rfl)) (by decide) (fun K hK => ?_)
        have hs47 : w45.cell? ⟨gb303, 0, none⟩ = some (.slice none 0 0) := (blk_cell BK303.out 0).trans rfl
        have hfs47 := blk_frozen BK303.out 0
        have hs49 : w45.cell? ⟨gb303, 1, none⟩ = some (.slice none 0 0) := (blk_cell BK303.out 1).trans rfl
        have hfs49 := blk_frozen BK303.out 1
        have hs50 : w45.cell? ⟨gb303, 2, none⟩ = some (.int .i64 0) := (blk_cell BK303.out 2).trans rfl
        have hfs50 := blk_frozen BK303.out 2
        refine skip_ (w1 := ?_) (by rfl) rfl ?_ ?_
        rotate_left
        ·
         go_simp
         rfl
        refine hK.out _ _ ⟨((cell_far (p := ⟨gb303, _, none⟩) (by first | exact Kd.own_blk (Kd.N_away HO_3.out (fun _ hk => hk.2.2.2)) | (rw [add_block]; exact Kd.own_blk (Kd.N_away HO_3.out (fun _ hk => hk.2.2.2))) | (show (Addr.add _ _).block ≠ _; rw [add_block]; exact Kd.own_blk (Kd.N_away HO_3.out (fun _ hk => hk.2.2.2))) | (dsimp only; exact Kd.own_blk (Kd.N_away HO_3.out (fun _ hk => hk.2.2.2)))) _).trans (((cell_far (p := ⟨gb303, _, none⟩) (by first | exact Kd.own_blk (Kd.N_away HO_3.out (fun _ hk => hk.2.2.2)) | (rw [add_block]; exact Kd.own_blk (Kd.N_away HO_3.out (fun _ hk => hk.2.2.2))) | (show (Addr.add _ _).block ≠ _; rw [add_block]; exact Kd.own_blk (Kd.N_away HO_3.out (fun _ hk => hk.2.2.2))) | (dsimp only; exact Kd.own_blk (Kd.N_away HO_3.out (fun _ hk => hk.2.2.2)))) _).trans (((cell_far (p := ⟨gb303, _, none⟩) (by first | exact Kd.own_blk (Kd.N_away HO_3.out (fun _ hk => hk.2.2.2)) | (rw [add_block]; exact Kd.own_blk (Kd.N_away HO_3.out (fun _ hk => hk.2.2.2))) | (show (Addr.add _ _).block ≠ _; rw [add_block]; exact Kd.own_blk (Kd.N_away HO_3.out (fun _ hk => hk.2.2.2))) | (dsimp only; exact Kd.own_blk (Kd.N_away HO_3.out (fun _ hk => hk.2.2.2)))) _).trans (hHeld.1)))))), ((cell_far (p := ⟨gb303, _, none⟩) (by first | exact Kd.own_blk (Kd.N_away HO_3.out (fun _ hk => hk.2.2.2)) | (rw [add_block]; exact Kd.own_blk (Kd.N_away HO_3.out (fun _ hk => hk.2.2.2))) | (show (Addr.add _ _).block ≠ _; rw [add_block]; exact Kd.own_blk (Kd.N_away HO_3.out (fun _ hk => hk.2.2.2))) | (dsimp only; exact Kd.own_blk (Kd.N_away HO_3.out (fun _ hk => hk.2.2.2)))) _).trans (((cell_far (p := ⟨gb303, _, none⟩) (by first | exact Kd.own_blk (Kd.N_away HO_3.out (fun _ hk => hk.2.2.2)) | (rw [add_block]; exact Kd.own_blk (Kd.N_away HO_3.out (fun _ hk => hk.2.2.2))) | (show (Addr.add _ _).block ≠ _; rw [add_block]; exact Kd.own_blk (Kd.N_away HO_3.out (fun _ hk => hk.2.2.2))) | (dsimp only; exact Kd.own_blk (Kd.N_away HO_3.out (fun _ hk => hk.2.2.2)))) _).trans (((cell_far (p := ⟨gb303, _, none⟩) (by first | exact Kd.own_blk (Kd.N_away HO_3.out (fun _ hk => hk.2.2.2)) | (rw [add_block]; exact Kd.own_blk (Kd.N_away HO_3.out (fun _ hk => hk.2.2.2))) | (show (Addr.add _ _).block ≠ _; rw [add_block]; exact Kd.own_blk (Kd.N_away HO_3.out (fun _ hk => hk.2.2.2))) | (dsimp only; exact Kd.own_blk (Kd.N_away HO_3.out (fun _ hk => hk.2.2.2)))) _).trans (hHeld.2.1)))))), ((cell_far (p := ⟨gb303, _, none⟩) (by first | exact Nat.ne_of_lt (Nat.lt_of_lt_of_le (by have := World.block_lt_of_cell? _ _ hw290_0; first | rwa [add_block] at this | exact this) GW303.out) | (rw [add_block]; exact Nat.ne_of_lt (Nat.lt_of_lt_of_le (by have := World.block_lt_of_cell? _ _ hw290_0; first | rwa [add_block] at this | exact this) GW303.out)) | (show (Addr.add _ _).block ≠ _; rw [add_block]; exact Nat.ne_of_lt (Nat.lt_of_lt_of_le (by have := World.block_lt_of_cell? _ _ hw290_0; first | rwa [add_block] at this | exact this) GW303.out)) | (dsimp only; exact Nat.ne_of_lt (Nat.lt_of_lt_of_le (by have := World.block_lt_of_cell? _ _ hw290_0; first | rwa [add_block] at this | exact this) GW303.out))) _).trans (((cell_far (p := ⟨gb303, _, none⟩) (by first | exact Nat.ne_of_lt (Nat.lt_of_lt_of_le (by have := World.block_lt_of_cell? _ _ hw290_0; first | rwa [add_block] at this | exact this) GW303.out) | (rw [add_block]; exact Nat.ne_of_lt (Nat.lt_of_lt_of_le (by have := World.block_lt_of_cell? _ _ hw290_0; first | rwa [add_block] at this | exact this) GW303.out)) | (show (Addr.add _ _).block ≠ _; rw [add_block]; exact Nat.ne_of_lt (Nat.lt_of_lt_of_le (by have := World.block_lt_of_cell? _ _ hw290_0; first | rwa [add_block] at this | exact this) GW303.out)) | (dsimp only; exact Nat.ne_of_lt (Nat.lt_of_lt_of_le (by have := World.block_lt_of_cell? _ _ hw290_0; first | rwa [add_block] at this | exact this) GW303.out))) _).trans (((cell_far (p := ⟨gb303, _, none⟩) (by first | exact Nat.ne_of_lt (Nat.lt_of_lt_of_le (by have := World.block_lt_of_cell? _ _ hw290_0; first | rwa [add_block] at this | exact this) GW303.out) | (rw [add_block]; exact Nat.ne_of_lt (Nat.lt_of_lt_of_le (by have := World.block_lt_of_cell? _ _ hw290_0; first | rwa [add_block] at this | exact this) GW303.out)) | (show (Addr.add _ _).block ≠ _; rw [add_block]; exact Nat.ne_of_lt (Nat.lt_of_lt_of_le (by have := World.block_lt_of_cell? _ _ hw290_0; first | rwa [add_block] at this | exact this) GW303.out)) | (dsimp only; exact Nat.ne_of_lt (Nat.lt_of_lt_of_le (by have := World.block_lt_of_cell? _ _ hw290_0; first | rwa [add_block] at this | exact this) GW303.out))) _).trans (hHeld.2.2.1)))))), ((cell_far (p := ⟨gb303, _, none⟩) (by first | exact Nat.ne_of_lt (Nat.lt_of_lt_of_le (by have := World.block_lt_of_cell? _ _ hw291_0; first | rwa [add_block] at this | exact this) GW303.out) | (rw [add_block]; exact Nat.ne_of_lt (Nat.lt_of_lt_of_le (by have := World.block_lt_of_cell? _ _ hw291_0; first | rwa [add_block] at this | exact this) GW303.out)) | (show (Addr.add _ _).block ≠ _; rw [add_block]; exact Nat.ne_of_lt (Nat.lt_of_lt_of_le (by have := World.block_lt_of_cell? _ _ hw291_0; first | rwa [add_block] at this | exact this) GW303.out)) | (dsimp only; exact Nat.ne_of_lt (Nat.lt_of_lt_of_le (by have := World.block_lt_of_cell? _ _ hw291_0; first | rwa [add_block] at this | exact this) GW303.out))) _).trans (((cell_far (p := ⟨gb303, _, none⟩) (by first | exact Nat.ne_of_lt (Nat.lt_of_lt_of_le (by have := World.block_lt_of_cell? _ _ hw291_0; first | rwa [add_block] at this | exact this) GW303.out) | (rw [add_block]; exact Nat.ne_of_lt (Nat.lt_of_lt_of_le (by have := World.block_lt_of_cell? _ _ hw291_0; first | rwa [add_block] at this | exact this) GW303.out)) | (show (Addr.add _ _).block ≠ _; rw [add_block]; exact Nat.ne_of_lt (Nat.lt_of_lt_of_le (by have := World.block_lt_of_cell? _ _ hw291_0; first | rwa [add_block] at this | exact this) GW303.out)) | (dsimp only; exact Nat.ne_of_lt (Nat.lt_of_lt_of_le (by have := World.block_lt_of_cell? _ _ hw291_0; first | rwa [add_block] at this | exact this) GW303.out))) _).trans (((cell_far (p := ⟨gb303, _, none⟩) (by first | exact Nat.ne_of_lt (Nat.lt_of_lt_of_le (by have := World.block_lt_of_cell? _ _ hw291_0; first | rwa [add_block] at this | exact this) GW303.out) | (rw [add_block]; exact Nat.ne_of_lt (Nat.lt_of_lt_of_le (by have := World.block_lt_of_cell? _ _ hw291_0; first | rwa [add_block] at this | exact this) GW303.out)) | (show (Addr.add _ _).block ≠ _; rw [add_block]; exact Nat.ne_of_lt (Nat.lt_of_lt_of_le (by have := World.block_lt_of_cell? _ _ hw291_0; first | rwa [add_block] at this | exact this) GW303.out)) | (dsimp only; exact Nat.ne_of_lt (Nat.lt_of_lt_of_le (by have := World.block_lt_of_cell? _ _ hw291_0; first | rwa [add_block] at this | exact this) GW303.out))) _).trans (hHeld.2.2.2))))))⟩ (fun hHeld => ?_)
        clear hK K
        refine done_ (done_of HT_.out (by kernel_rfl)) ?_
        obtain ⟨hcz51_0, hcz51_1, hcz51_2⟩ := bx3 BK303.out
        obtain ⟨hfz51_0, hfz51_1, hfz51_2⟩ := bf3 BK303.out
        try go_wp2
        have n0_ : Aside0 (Kd.N k28 28 (((w45.setCell ⟨gb303, 0, none⟩ (.slice Ao46 t296.length co46)).setCell ⟨gb303, 1, none⟩ (.slice Ao48 t299.length co48)).setCell ⟨gb303, 2, none⟩ (.int .i64 t302)) w.heap.size (fun k_ => (w.heap.size ≤ k_) ∧ some k_ ≠ (.slice Ao46 t296.length co46 : Value).ownBlock ∧ some k_ ≠ (.slice Ao48 t299.length co48 : Value).ownBlock ∧ k_ ≠ gb303) (.slice (some ad289) x3_1.length co41) x3_1) := ⟨by (with_reducible repeat (first | apply Kd.N_alloc | apply Kd.N_drewN | apply Kd.N_drew)); exact Kd.N_mono (Kd.N_far (p := ⟨gb303, 2, none⟩) (Kd.N_far (p := ⟨gb303, 1, none⟩) (Kd.N_far (p := ⟨gb303, 0, none⟩) (Kd.N_mono HO_3.out (fun k_ hk => (⟨hk, hk.2.2.2⟩ : _ ∧ k_ ≠ gb303))) (fun _ hk => hk.2) (.slice Ao46 t296.length co46)) (fun _ hk => hk.2) (.slice Ao48 t299.length co48)) (fun _ hk => hk.2) (.int .i64 t302)) (fun _ hk => ⟨hk.1.1, ⟨hk.1.2.1, ⟨hk.1.2.2.1, hk.1.2.2.2⟩⟩⟩)⟩
        have n1_ : Aside0 (Kd.V k70 70 (((w45.setCell ⟨gb303, 0, none⟩ (.slice Ao46 t296.length co46)).setCell ⟨gb303, 1, none⟩ (.slice Ao48 t299.length co48)).setCell ⟨gb303, 2, none⟩ (.int .i64 t302)) w.heap.size (fun k_ => (w.heap.size ≤ k_) ∧ some k_ ≠ (.slice (some ad289) x3_1.length co41 : Value).ownBlock ∧ some k_ ≠ (.slice Ao46 t296.length co46 : Value).ownBlock ∧ some k_ ≠ (.slice Ao48 t299.length co48 : Value).ownBlock ∧ k_ ≠ gb303) (.slice A289_0 ((rd_T28 x3_1 (ji26)).f0).length c289_0) ((rd_T28 x3_1 (ji26)).f0)) := ⟨by (with_reducible repeat (first | apply Kd.V_alloc | apply Kd.V_drewN | apply Kd.V_drew)); exact Kd.V_mono (Kd.V_far (p := ⟨gb303, 2, none⟩) (Kd.V_far (p := ⟨gb303, 1, none⟩) (Kd.V_far (p := ⟨gb303, 0, none⟩) (Kd.V_mono HL289_0.out (fun k_ hk => (⟨hk, hk.2.2.2.2⟩ : _ ∧ k_ ≠ gb303))) (fun _ hk => hk.2) (.slice Ao46 t296.length co46)) (fun _ hk => hk.2) (.slice Ao48 t299.length co48)) (fun _ hk => hk.2) (.int .i64 t302)) (fun _ hk => ⟨hk.1.1, ⟨hk.1.2.2.2.1, ⟨hk.1.2.1, ⟨hk.1.2.2.1, hk.1.2.2.2.2⟩⟩⟩⟩)⟩
        have n2_ : Aside0 (Kd.V k34 34 (((w45.setCell ⟨gb303, 0, none⟩ (.slice Ao46 t296.length co46)).setCell ⟨gb303, 1, none⟩ (.slice Ao48 t299.length co48)).setCell ⟨gb303, 2, none⟩ (.int .i64 t302)) w.heap.size (fun k_ => (w.heap.size ≤ k_) ∧ some k_ ≠ (.slice (some ad289) x3_1.length co41 : Value).ownBlock ∧ some k_ ≠ (.slice Ao46 t296.length co46 : Value).ownBlock ∧ some k_ ≠ (.slice Ao48 t299.length co48 : Value).ownBlock ∧ k_ ≠ gb303) (.slice A289_1 ((rd_T28 x3_1 (ji26)).f1).length c289_1) ((rd_T28 x3_1 (ji26)).f1)) := ⟨by (with_reducible repeat (first | apply Kd.V_alloc | apply Kd.V_drewN | apply Kd.V_drew)); exact Kd.V_mono (Kd.V_far (p := ⟨gb303, 2, none⟩) (Kd.V_far (p := ⟨gb303, 1, none⟩) (Kd.V_far (p := ⟨gb303, 0, none⟩) (Kd.V_mono HL289_1.out (fun k_ hk => (⟨hk, hk.2.2.2.2⟩ : _ ∧ k_ ≠ gb303))) (fun _ hk => hk.2) (.slice Ao46 t296.length co46)) (fun _ hk => hk.2) (.slice Ao48 t299.length co48)) (fun _ hk => hk.2) (.int .i64 t302)) (fun _ hk => ⟨hk.1.1, ⟨hk.1.2.2.2.1, ⟨hk.1.2.1, ⟨hk.1.2.2.1, hk.1.2.2.2.2⟩⟩⟩⟩)⟩
        have n3_ : Aside0 (Kd.R k70 70 (((w45.setCell ⟨gb303, 0, none⟩ (.slice Ao46 t296.length co46)).setCell ⟨gb303, 1, none⟩ (.slice Ao48 t299.length co48)).setCell ⟨gb303, 2, none⟩ (.int .i64 t302)) w.heap.size (fun k_ => (w.heap.size ≤ k_)) (.slice Ao46 t296.length co46) t296) := ⟨by (with_reducible repeat (first | apply Kd.R_alloc | apply Kd.R_drewN | apply Kd.R_drew)); exact Kd.R_mono (Kd.R_far (p := ⟨gb303, 2, none⟩) (Kd.R_far (p := ⟨gb303, 1, none⟩) (Kd.R_far (p := ⟨gb303, 0, none⟩) (Kd.R_types HO298.out BK303.out (by decide)) (fun _ hk => hk.2) (.slice Ao46 t296.length co46)) (fun _ hk => hk.2) (.slice Ao48 t299.length co48)) (fun _ hk => hk.2) (.int .i64 t302)) (fun _ hk => hk.1)⟩
        have n4_ : Aside0 (Kd.R k34 34 (((w45.setCell ⟨gb303, 0, none⟩ (.slice Ao46 t296.length co46)).setCell ⟨gb303, 1, none⟩ (.slice Ao48 t299.length co48)).setCell ⟨gb303, 2, none⟩ (.int .i64 t302)) w.heap.size (fun k_ => (w.heap.size ≤ k_)) (.slice Ao48 t299.length co48) t299) := ⟨by (with_reducible repeat (first | apply Kd.R_alloc | apply Kd.R_drewN | apply Kd.R_drew)); exact Kd.R_mono (Kd.R_far (p := ⟨gb303, 2, none⟩) (Kd.R_far (p := ⟨gb303, 1, none⟩) (Kd.R_far (p := ⟨gb303, 0, none⟩) (Kd.R_types HO301.out BK303.out (by decide)) (fun _ hk => hk.2) (.slice Ao46 t296.length co46)) (fun _ hk => hk.2) (.slice Ao48 t299.length co48)) (fun _ hk => hk.2) (.int .i64 t302)) (fun _ hk => hk.1)⟩
        have n5_ : Aside0 ((((w45.setCell ⟨gb303, 0, none⟩ (.slice Ao46 t296.length co46)).setCell ⟨gb303, 1, none⟩ (.slice Ao48 t299.length co48)).setCell ⟨gb303, 2, none⟩ (.int .i64 t302)).heap[gb303]? = some (.cells #[.slice Ao46 t296.length co46, .slice Ao48 t299.length co48, .int .i64 t302] 43 (0, 0))) := ⟨by (with_reducible repeat (first | refine blk_drewN ?_ _ | refine blk_drew ?_ | refine blk_alloc ?_ _)); refine blk_put (cs := #[.slice Ao46 t296.length co46, .slice Ao48 t299.length co48, .int .i64 0]) ?_ 2 _ rfl; (with_reducible repeat (first | refine blk_drewN ?_ _ | refine blk_drew ?_ | refine blk_alloc ?_ _)); refine blk_put (cs := #[.slice Ao46 t296.length co46, .slice none 0 0, .int .i64 0]) ?_ 1 _ rfl; (with_reducible repeat (first | refine blk_drewN ?_ _ | refine blk_drew ?_ | refine blk_alloc ?_ _)); refine blk_put (cs := #[.slice none 0 0, .slice none 0 0, .int .i64 0]) ?_ 0 _ rfl; (with_reducible repeat (first | refine blk_drewN ?_ _ | refine blk_drew ?_ | refine blk_alloc ?_ _)); exact BK303.out⟩
        have n6_ : Aside0 (Below w.heap.size w (((w45.setCell ⟨gb303, 0, none⟩ (.slice Ao46 t296.length co46)).setCell ⟨gb303, 1, none⟩ (.slice Ao48 t299.length co48)).setCell ⟨gb303, 2, none⟩ (.int .i64 t302))) := ⟨bw1 HB.out GE303.out⟩
        (try clear HO_3)
        (try clear HL289_0)
        (try clear HL289_1)
        (try clear HO298)
        (try clear HO301)
        (try clear BK303)
        (try clear HB)
        generalize (((w45.setCell ⟨gb303, 0, none⟩ (.slice Ao46 t296.length co46)).setCell ⟨gb303, 1, none⟩ (.slice Ao48 t299.length co48)).setCell ⟨gb303, 2, none⟩ (.int .i64 t302)) = w52 at n0_ n1_ n2_ n3_ n4_ n5_ n6_ ⊢
        have HO_3 := n0_
        have HL289_0 := n1_
        have HL289_1 := n2_
        have HO298 := n3_
        have HO301 := n4_
        have BK303 := n5_
        have HB := n6_
        clear n0_ n1_ n2_ n3_ n4_ n5_ n6_
        replace HO_3 := Aside0.mk (Kd.N_drew HO_3.out)
        replace HL289_0 := Aside0.mk (Kd.V_drew HL289_0.out)
        replace HL289_1 := Aside0.mk (Kd.V_drew HL289_1.out)
        replace HO298 := Aside0.mk (Kd.R_drew HO298.out)
        replace HO301 := Aside0.mk (Kd.R_drew HO301.out)
        replace BK303 := Aside0.mk (blk_drew BK303.out)
        replace HB := Aside0.mk (below_drew1 HB.out)
        have p304 : 0 ≤ ((ji26) : Int) := of_decide_eq_true as_
        have q304 : (ji26) < (x3_1.length : Int) := of_decide_eq_true as_
        obtain ⟨ad304, A304_0, c304_0, A304_1, c304_1, e304, hx304_0, hx304_1, hl304_0, hi304_0, hl304_1, hi304_1⟩ := at_T28 (Kd.N_reads' HO_3.out).2.2 (ji26) p304 q304
        obtain rfl : ad289 = ad304 := (by injection e304)
        obtain ⟨ce304, hce304, hMe304, hcc304⟩ := Kd.N_get HO_3.out z28 (ji26) p304 (by first | exact q304 | exact of_decide_eq_true as_ | (have e_ := (Kd.N_reads' HO_3.out).1; omega))
        obtain ⟨ua304_0, uc304_0, ua304_1, uc304_1, rfl, ul304_0, ge304_0, ul304_1, ge304_1⟩ := k28_openF hMe304
        have hv304_0 := hcc304 0 _ rfl
        rw [Nat.add_zero] at hv304_0
        replace hv304_0 := Option.some.inj (hv304_0.symm.trans hx304_0)
        injection hv304_0 with hva_ hvn_ hvc_
        rw [hva_] at ge304_0
        rw [hvc_] at ul304_0
        have HL304_0 := Aside0.mk (show Kd.V k70 70 _ w.heap.size _ _ ((rd_T28 x3_1 (ji26)).f0) from Kd.V_mk ul304_0 ge304_0)
        clear hva_ hvn_ hvc_ ge304_0 ul304_0
        have hv304_1 := hcc304 1 _ rfl
        rw [add_field _ _ 1 (by omega)] at hv304_1
        replace hv304_1 := Option.some.inj (hv304_1.symm.trans hx304_1)
        injection hv304_1 with hva_ hvn_ hvc_
        rw [hva_] at ge304_1
        rw [hvc_] at ul304_1
        have HL304_1 := Aside0.mk (show Kd.V k34 34 _ w.heap.size _ _ ((rd_T28 x3_1 (ji26)).f1) from Kd.V_mk ul304_1 ge304_1)
        clear hva_ hvn_ hvc_ ge304_1 ul304_1
        clear hcc304 hce304
        have HR304_0 := Aside0.mk hi304_0
        have HC304_0 := Aside0.mk hl304_0
        clear hi304_0 hl304_0
        have HR304_1 := Aside0.mk hi304_1
        have HC304_1 := Aside0.mk hl304_1
        clear hi304_1 hl304_1
        replace p304 := eq_true p304
        replace q304 := eq_true q304
        refine start_ (n := 11) (S := fun w' => w'.cell? ⟨gb303, 0, none⟩ = some (.slice Ao46 t296.length co46) ∧ w'.cell? ⟨gb303, 1, none⟩ = some (.slice Ao48 t299.length co48) ∧ w'.cell? ⟨gb303, 2, none⟩ = some (.int .i64 t302) ∧ w'.cell? (ad289.add (((ji26)).toNat * 2)) = some (.slice A304_0 ((rd_T28 x3_1 (ji26)).f0).length c304_0) ∧ w'.cell? ⟨(ad289.add (((ji26)).toNat * 2)).block, (ad289.add (((ji26)).toNat * 2)).off + 1, none⟩ = some (.slice A304_1 ((rd_T28 x3_1 (ji26)).f1).length c304_1)) (ds := [10]) (fl 0 11) (by kernel_rfl) rfl rfl ⟨(blk_cell BK303.out 0).trans rfl, (blk_cell BK303.out 1).trans rfl, (blk_cell BK303.out 2).trans rfl, hx304_0, hx304_1⟩ (fun hHeld => ?_); refine with_tabW deaddroplaw9_Apart.tab10 deaddroplaw9_Apart.bits10 (fun HT_ HW_ => ?_)
        generalize w52.drew = w53 at HO_3 HL289_0 HL289_1 HO298 HO301 BK303 HB HL304_0 HL304_1 HR304_0 HR304_1 hx304_0 hx304_1 hHeld ⊢
        refine pure_ (i := 0) (N := some 68) (fl 1 11) rfl rfl (any_of HT_.out (by kernel_rfl)) (fun _ _ _ h => h) (Or.inl ⟨by rfl, py⟩) pa ?_
        refine pure_ (i := 1) (N := some 69) (fl 2 11) rfl rfl (any_of HT_.out (by kernel_rfl)) (fun _ _ _ h => h) (Or.inl ⟨by rfl, py⟩) pa ?_
        refine pure_ (i := 2) (N := some 70) (fl 3 11) rfl rfl (any_of HT_.out (by kernel_rfl)) (fun _ _ _ h => h) (Or.inl ⟨by rfl, py⟩) pa ?_
        refine pure_ (i := 3) (N := some 71) (fl 4 11) rfl rfl (any_of HT_.out (by kernel_rfl)) (fun _ _ _ h => h) (Or.inl ⟨by rfl, py⟩) pa ?_
        refine pure_ (i := 4) (N := some 72) (fl 5 11) rfl rfl (any_of HT_.out (by kernel_rfl)) (fun _ _ _ h => h) (Or.inl ⟨by rfl, py⟩) pa ?_
        refine pure_ (i := 6) (N := some 74) #[true, true, true, true, true, false, true, false, false, false, false] rfl rfl (any_of HT_.out (by kernel_rfl)) (fun _ _ _ h => h) (Or.inl ⟨by rfl, py⟩) pa ?_
        refine take_ (i := 5) (N := some 73) (fl 7 11) rfl rfl (take_ofW HT_.out HW_.out (by kernel_rfl)) (fun _ _ _ h => h) (Or.inl ⟨by rfl, tk⟩) hHeld pa ?_
        refine take_ (i := 7) (N := some 75) (fl 8 11) rfl rfl (take_ofW HT_.out HW_.out (by kernel_rfl)) (fun _ _ _ h => h) (Or.inl ⟨by rfl, tk⟩) hHeld pa ?_
        refine one_ (i := 8) (N := some 76) (fl 9 11) rfl rfl (one_of HT_.out (by kernel_rfl)) (by decide) (fun K hK => ?_)
        refine goes_ Try.func8 (by kernel_rfl) rfl #[.agg #[.slice A304_0 ((rd_T28 x3_1 (ji26)).f0).length c304_0, .slice A304_1 ((rd_T28 x3_1 (ji26)).f1).length c304_1], .agg #[.slice Ao46 t296.length co46, .slice Ao48 t299.length co48]] (by rfl) rfl rfl (by (try simp only [List.map_toArray, List.map_cons, List.map_nil]); first | done | (simp only [hji26]; rfl) | rfl | (simp only [List.length_drop, List.length_take]; rfl)) ?_
        with_reducible refine (deaddropref7_Join.calls kj4 _ _ ((rd_T28 x3_1 (ji26)).f0) _ _ ((rd_T28 x3_1 (ji26)).f1) _ _ t296 _ _ t299 t305 t308 _ ?side1 ?side2 ?side3 ?side4 ?side5 ?side6 ?side7 ?side8 A38.out).mono ?_
        (case side1 => exact cr (ck HR304_0.out))
        (case side2 => exact HC304_0.out)
        (case side3 => exact cr (ck HR304_1.out))
        (case side4 => exact HC304_1.out)
        (case side5 => exact cr (Kd.R_reads' HO298.out).2.2)
        (case side6 => exact (Kd.R_reads' HO298.out).2.1)
        (case side7 => exact cr (Kd.R_reads' HO301.out).2.2)
        (case side8 => exact (Kd.R_reads' HO301.out).2.1)
        rintro e w54 ⟨v306, v309, rfl, ho0, ho1, hb⟩
        have HS3_ := (hb.cell (World.block_lt_of_cell? _ _ (hHeld.2.2.2.1))).trans (hHeld.2.2.2.1)
        have HS4_ := (hb.cell (World.block_lt_of_cell? _ _ (hHeld.2.2.2.2))).trans (hHeld.2.2.2.2)
        refine ⟨_, rfl, ?_⟩
        replace HO_3 := Aside0.mk (Kd.N_mono (Kd.N_told (Kd.N_told (Kd.N_old (nk HO_3.out) hb) (Kd.R_base ho0)) (Kd.R_base ho1)) (fun _ h_ => h_.1))
        replace HL289_0 := Aside0.mk (Kd.V_mono (Kd.V_told (Kd.V_told (Kd.V_old (vk HL289_0.out) hb) (Kd.R_base ho0)) (Kd.R_base ho1)) (fun _ h_ => h_.1))
        replace HL289_1 := Aside0.mk (Kd.V_mono (Kd.V_told (Kd.V_told (Kd.V_old (vk HL289_1.out) hb) (Kd.R_base ho0)) (Kd.R_base ho1)) (fun _ h_ => h_.1))
        replace HL304_0 := Aside0.mk (Kd.V_mono (Kd.V_told (Kd.V_told (Kd.V_old (vk HL304_0.out) hb) (Kd.R_base ho0)) (Kd.R_base ho1)) (fun _ h_ => h_.1))
        replace HL304_1 := Aside0.mk (Kd.V_mono (Kd.V_told (Kd.V_told (Kd.V_old (vk HL304_1.out) hb) (Kd.R_base ho0)) (Kd.R_base ho1)) (fun _ h_ => h_.1))
        have HO307 := Aside0.mk (Kd.R_lower (Kd.R_new' (Kd.R_newM (M := fun k_ => (w.heap.size ≤ k_)) ho0 (below_size (bw1 HB.out GE303.out)) (fun k_ h_ => h_)) (Kd.R_lt (rk HO298.out))) (below_size (bw1 HB.out GE303.out)))
        replace HO298 := Aside0.mk (Kd.R_elder' (rk HO298.out) (Kd.R_base ho0) hb)
        have HO310 := Aside0.mk (Kd.R_lower (Kd.R_new' (Kd.R_newM (M := fun k_ => (w.heap.size ≤ k_)) ho1 (below_size (bw1 HB.out GE303.out)) (fun k_ h_ => h_)) (Kd.R_lt (rk HO301.out))) (below_size (bw1 HB.out GE303.out)))
        replace HO301 := Aside0.mk (Kd.R_elder' (rk HO301.out) (Kd.R_base ho1) hb)
        replace BK303 := Aside0.mk (bkb BK303.out hb)
        replace HR304_0 := Aside0.mk (Kd.C_below (ck HR304_0.out) hb)
        replace HR304_1 := Aside0.mk (Kd.C_below (ck HR304_1.out) hb)
        replace HB := Aside0.mk (below_step (bw1 HB.out GE303.out) hb)
        (try clear hb)
        (try clear hb2)
        (try clear hk)
        (try clear hi)
        (try clear ho0)
        (try clear ho1)
        have p39 : 0 ≤ ((ji26) : Int) := of_decide_eq_true as_
        have q39 : ((ji26) : Int) < ((x3_1.length : Int) : Int) := of_decide_eq_true as_
        obtain ⟨go39, co39, eo39, gb39, gl39, cl39, HG39⟩ := Kd.N_form HO_3.out (by omega)
        (first | cases eo39 | (injection eo39 with ea_ en_ ec_; (first | subst ea_ | (injection ea_ with ea_; subst ea_)); subst ec_; clear en_))
        have GB39 := Aside0.mk gb39
        have GG39 := Aside0.mk HG39
        clear gb39 gl39 HG39
        (first | simp only [add_plain] at hx289_0 | skip)
        (first | simp only [add_plain] at hx289_1 | skip)
        (first | simp only [add_plain] at hx304_0 | skip)
        (first | simp only [add_plain] at hx304_1 | skip)
        obtain ⟨ce39, hcl39, hM39, hcc39, hfr39⟩ := Kd.N_elem HO_3.out z28 ((ji26) : Int) p39 q39
        obtain ⟨ua39_0, uc39_0, ua39_1, uc39_1, rfl, ul39_0, ge39_0, ul39_1, ge39_1⟩ := k28_openF hM39
        have hx39_0 : World.cell? _ ⟨go39, ((ji26) : Int).toNat * 2, none⟩ = some (.slice ua39_0 ((rd_T28 x3_1 (ji26)).f0).length uc39_0) := hcc39 0 _ rfl
        have hx39_1 : World.cell? _ ⟨go39, ((ji26) : Int).toNat * 2 + 1, none⟩ = some (.slice ua39_1 ((rd_T28 x3_1 (ji26)).f1).length uc39_1) := hcc39 1 _ rfl
        have hf39_0 : World.frozen? _ ⟨go39, ((ji26) : Int).toNat * 2, none⟩ = false := hfr39 0
        have hf39_1 : World.frozen? _ ⟨go39, ((ji26) : Int).toNat * 2 + 1, none⟩ = false := hfr39 1
        clear hcl39 hcc39 hfr39 hM39
        replace p39 := eq_true p39
        replace q39 := eq_true q39
        obtain ⟨Ax306, cx306, ex306⟩ := Kd.R_slice HO307.out
        subst ex306
        obtain ⟨Ax309, cx309, ex309⟩ := Kd.R_slice HO310.out
        subst ex309
        have HX55 := Aside0.mk (show Kd.N k28 28 _ w.heap.size (fun k_ => (w.heap.size ≤ k_) ∧ some k_ ≠ (.slice Ao46 t296.length co46 : Value).ownBlock ∧ some k_ ≠ (.slice Ao48 t299.length co48 : Value).ownBlock ∧ some k_ ≠ (.slice Ax306 t305.length cx306 : Value).ownBlock ∧ some k_ ≠ (.slice Ax309 t308.length cx309 : Value).ownBlock ∧ k_ ≠ gb303) (.slice (some ⟨go39, 0, none⟩) x3_1.length co41) x3_1 from (Kd.N_mono (HO_3.out) (fun k_ hk => ⟨hk.1.1.1, ⟨hk.1.1.2.1, ⟨hk.1.1.2.2.1, ⟨hk.1.2, ⟨hk.2, hk.1.1.2.2.2⟩⟩⟩⟩⟩)))
        replace HX55 := Aside0.mk (show Kd.N k28 28 _ w.heap.size (fun k_ => (w.heap.size ≤ k_) ∧ some k_ ≠ (.slice Ao46 t296.length co46 : Value).ownBlock ∧ some k_ ≠ (.slice Ao48 t299.length co48 : Value).ownBlock ∧ k_ ≠ gb303) (.slice (some ⟨go39, 0, none⟩) x3_1.length co41) x3_1 from Kd.N_mono HX55.out (fun k_ hk => ⟨hk.1, ⟨hk.2.1, ⟨hk.2.2.1, hk.2.2.2.2.2⟩⟩⟩))
        obtain ⟨ce55, hcl55, hM55, hcc55, hfr55⟩ := Kd.N_elem HX55.out z28 ((ji26) : Int) (of_decide_eq_true as_) (by have h_ : ((ji26) : Int) < ((x3_1.length : Int) : Int) := of_decide_eq_true as_; first | exact h_ | (have e_ := (Kd.N_reads' HO_3.out).1; omega) | simpa using h_)
        obtain ⟨ua55_0, uc55_0, ua55_1, uc55_1, rfl, ul55_0, ge55_0, ul55_1, ge55_1⟩ := k28_openF hM55
        have r1_ := (Kd.R_types (Kd.R_apart' (Kd.R_apart' (HO307.out) (Kd.R_typed HO301.out) (by decide)) (Kd.N_typed HO_3.out) (by decide)) BK303.out (by decide))
        have s1_ := Kd.R_mono (ok' := (fun k_ => ((fun k_ => (w.heap.size ≤ k_) ∧ some k_ ≠ (.slice Ao46 t296.length co46 : Value).ownBlock ∧ some k_ ≠ (.slice Ao48 t299.length co48 : Value).ownBlock ∧ k_ ≠ gb303)) k_ ∧ k_ ≠ go39)) r1_ (fun k_ hk => ⟨⟨hk.1.1.1.1.1, ⟨hk.1.1.1.2, ⟨hk.1.1.2, hk.2⟩⟩⟩, fun e_ => (hk.1.2) (by rw [e_]; rfl)⟩)
        have r2_ := (Kd.R_types (Kd.R_apart' (Kd.R_apart' (HO310.out) (Kd.R_typed HO298.out) (by decide)) (Kd.N_typed HO_3.out) (by decide)) BK303.out (by decide))
        have s2_ := Kd.R_mono (ok' := (fun k_ => ((fun k_ => (w.heap.size ≤ k_) ∧ some k_ ≠ (.slice Ao46 t296.length co46 : Value).ownBlock ∧ some k_ ≠ (.slice Ao48 t299.length co48 : Value).ownBlock ∧ k_ ≠ gb303)) k_ ∧ k_ ≠ go39)) r2_ (fun k_ hk => ⟨⟨hk.1.1.1.1.1, ⟨hk.1.1.2, ⟨hk.1.1.1.2, hk.2⟩⟩⟩, fun e_ => (hk.1.2) (by rw [e_]; rfl)⟩)
        have HP55 := (Kd.N_seg HX55.out ((ji26) : Int) (of_decide_eq_true as_) (by have h_ : ((ji26) : Int) < ((x3_1.length : Int) : Int) := of_decide_eq_true as_; first | exact h_ | (have e_ := (Kd.N_reads' HO_3.out).1; omega) | simpa using h_) (seg := [(.slice Ax306 t305.length cx306), (.slice Ax309 t308.length cx309)]) (j := 0) hcl55 hcc55 (show 2 ≤ 2 from by decide) (x' := (⟨t305, t308⟩ : S28)) (k28_mkR (x := (⟨t305, t308⟩ : S28)) s1_ s2_) (fun _ hk => hk)).1
        clear s1_ r1_ s2_ r2_
        rw [← Ny311.out] at HP55
        have HQ55 := Aside0.mk HP55
        clear hcl55 hcc55 hfr55 hM55 HP55
        refine hK.out _ _ ⟨(blk_cell BK303.out 0).trans rfl, (blk_cell BK303.out 1).trans rfl, (blk_cell BK303.out 2).trans rfl, HS3_, HS4_⟩ (fun hHeld => ?_)
        clear hK K
        refine norm_ (a' := ?_) ?_ ?_
        rotate_left
        ·
         show Act.put _ (some 76) _ = _
         simp only [Act.put, List.setIfInBounds_toArray, List.set_cons_zero, List.set_cons_succ, i64_w, i32_w]
         rfl
        refine pure_ (i := 9) (N := some 77) (fl 10 11) rfl rfl (any_of HT_.out (by kernel_rfl)) (fun _ _ _ h => h) (Or.inl ⟨by rfl, py⟩) pa ?_
        refine last_ (i := 10) (N := none) (fl 11 11) rfl rfl (one_of HT_.out (by kernel_rfl)) (by decide) (fun K hK => ?_)
        refine skip_ (w1 := ?_) (by rfl) rfl ?_ ?_
        rotate_left
        ·
         go_simp
         rfl
        refine hK.out _ _ ?_
        clear hK K
        refine done_ (done_of HT_.out (by kernel_rfl)) ?_
        try go_wp2
        go_roundg kj4
        case measure => have := HK1.out; have := HJ4.out; omega
        case rel => exact ⟨(y311), (wrap64 (x4_1 + 3)), ok_, H', ⟨by have := HK1.out; have := HJ4.out; omega⟩, ⟨by (with_reducible repeat (first | apply Kd.N_alloc | apply Kd.N_drewN | apply Kd.N_drew)); exact Kd.N_mono HQ55.out (fun _ hk => hk.1)⟩, ⟨bw3 HB.out GB39.out GB39.out GE303.out⟩⟩
       ·
        rw [if_neg c37] at H
        have c37b0 : (t302 == 0) = false := beq_eq_false_iff_ne.mpr c37
        have c37b1 : (t302 != 0) = true := bne_iff_ne.mpr c37
        have H' := Aside0.mk H
        clear H
        have p277 : 0 ≤ (x4_1 : Int) := of_decide_eq_true as_
        have q277 : x4_1 < (l0.length : Int) := of_decide_eq_true as_
        obtain ⟨ad277, e277, hx277_0⟩ := Kd.at_int HR0.out x4_1 p277 q277
        cases e277
        replace hx277_0 := (HB.out.cell (World.block_lt_of_cell? w _ hx277_0)).trans hx277_0
        replace p277 := eq_true p277
        replace q277 := eq_true q277
        have p278 : 0 ≤ (x4_1 : Int) := of_decide_eq_true as_
        have q278 : x4_1 < (l0.length : Int) := of_decide_eq_true as_
        obtain ⟨ad278, e278, hx278_0⟩ := Kd.at_int HR0.out x4_1 p278 q278
        obtain rfl : ad277 = ad278 := (by injection e278)
        replace hx278_0 := (HB.out.cell (World.block_lt_of_cell? w _ hx278_0)).trans hx278_0
        replace p278 := eq_true p278
        replace q278 := eq_true q278
        try go_wp2
        replace HO_3 := Aside0.mk (Kd.N_drew HO_3.out)
        replace HB := Aside0.mk (below_drew1 HB.out)
        obtain ⟨Ao57, co57, eo57⟩ := Kd.N_slice HO_3.out
        (first | subst eo57 | (injection eo57 with f1_ f2_ f3_; have f4_ := f1_.symm; have f5_ := f3_.symm; clear f1_ f2_ f3_; subst f4_; subst f5_))
        have p289 : 0 ≤ ((ji26) : Int) := of_decide_eq_true as_
        have q289 : (ji26) < (x3_1.length : Int) := of_decide_eq_true as_
        obtain ⟨ad289, A289_0, c289_0, A289_1, c289_1, e289, hx289_0, hx289_1, hl289_0, hi289_0, hl289_1, hi289_1⟩ := at_T28 (Kd.N_reads' HO_3.out).2.2 (ji26) p289 q289
        cases e289
        obtain ⟨ce289, hce289, hMe289, hcc289⟩ := Kd.N_get HO_3.out z28 (ji26) p289 (by first | exact q289 | exact of_decide_eq_true as_ | (have e_ := (Kd.N_reads' HO_3.out).1; omega))
        obtain ⟨ua289_0, uc289_0, ua289_1, uc289_1, rfl, ul289_0, ge289_0, ul289_1, ge289_1⟩ := k28_openF hMe289
        have hv289_0 := hcc289 0 _ rfl
        rw [Nat.add_zero] at hv289_0
        replace hv289_0 := Option.some.inj (hv289_0.symm.trans hx289_0)
        injection hv289_0 with hva_ hvn_ hvc_
        rw [hva_] at ge289_0
        rw [hvc_] at ul289_0
        have HL289_0 := Aside0.mk (show Kd.V k70 70 _ w.heap.size _ _ ((rd_T28 x3_1 (ji26)).f0) from Kd.V_mk ul289_0 ge289_0)
        clear hva_ hvn_ hvc_ ge289_0 ul289_0
        have hv289_1 := hcc289 1 _ rfl
        rw [add_field _ _ 1 (by omega)] at hv289_1
        replace hv289_1 := Option.some.inj (hv289_1.symm.trans hx289_1)
        injection hv289_1 with hva_ hvn_ hvc_
        rw [hva_] at ge289_1
        rw [hvc_] at ul289_1
        have HL289_1 := Aside0.mk (show Kd.V k34 34 _ w.heap.size _ _ ((rd_T28 x3_1 (ji26)).f1) from Kd.V_mk ul289_1 ge289_1)
        clear hva_ hvn_ hvc_ ge289_1 ul289_1
        clear hcc289 hce289
        have HR289_0 := Aside0.mk hi289_0
        have HC289_0 := Aside0.mk hl289_0
        clear hi289_0 hl289_0
        have HR289_1 := Aside0.mk hi289_1
        have HC289_1 := Aside0.mk hl289_1
        clear hi289_1 hl289_1
        replace p289 := eq_true p289
        replace q289 := eq_true q289
        have p290 : 0 ≤ ((ji29) : Int) := of_decide_eq_true as_
        have q290 : (ji29) < (l0.length : Int) := of_decide_eq_true as_
        obtain ⟨ad290, e290, hx290_0⟩ := Kd.at_int HR0.out (ji29) p290 q290
        have hw290_0 := hx290_0
        obtain rfl : ad277 = ad290 := (by injection e290)
        replace hx290_0 := (HB.out.cell (World.block_lt_of_cell? w _ hx290_0)).trans hx290_0
        replace p290 := eq_true p290
        replace q290 := eq_true q290
        have p291 : 0 ≤ ((ji32) : Int) := of_decide_eq_true as_
        have q291 : (ji32) < (l0.length : Int) := of_decide_eq_true as_
        obtain ⟨ad291, e291, hx291_0⟩ := Kd.at_int HR0.out (ji32) p291 q291
        have hw291_0 := hx291_0
        obtain rfl : ad277 = ad291 := (by injection e291)
        replace hx291_0 := (HB.out.cell (World.block_lt_of_cell? w _ hx291_0)).trans hx291_0
        replace p291 := eq_true p291
        replace q291 := eq_true q291
        refine start_ (n := 19) (S := fun w' => w'.cell? (ad289.add (((ji26)).toNat * 2)) = some (.slice A289_0 ((rd_T28 x3_1 (ji26)).f0).length c289_0) ∧ w'.cell? ⟨(ad289.add (((ji26)).toNat * 2)).block, (ad289.add (((ji26)).toNat * 2)).off + 1, none⟩ = some (.slice A289_1 ((rd_T28 x3_1 (ji26)).f1).length c289_1) ∧ w'.cell? (ad277.add ((ji29)).toNat) = some (.int .u8 (rd l0 (ji29))) ∧ w'.cell? (ad277.add ((ji32)).toNat) = some (.int .u8 (rd l0 (ji32)))) (ds := []) (fl 0 19) (by kernel_rfl) rfl rfl ⟨hx289_0, hx289_1, (bc HB.out hw290_0), (bc HB.out hw291_0)⟩ (fun hHeld => ?_); refine with_tabW deaddroplaw9_Apart.tab8 deaddroplaw9_Apart.bits8 (fun HT_ HW_ => ?_)
        generalize wc.drew = w56 at HO_3 HB HL289_0 HL289_1 HR289_0 HR289_1 hx289_0 hx289_1 hx290_0 hx291_0 hHeld ⊢
        refine pure_ (i := 0) (N := some 48) (fl 1 19) rfl rfl (any_of HT_.out (by kernel_rfl)) (fun _ _ _ h => h) (Or.inl ⟨by rfl, py⟩) pa ?_
        refine pure_ (i := 1) (N := some 49) (fl 2 19) rfl rfl (any_of HT_.out (by kernel_rfl)) (fun _ _ _ h => h) (Or.inl ⟨by rfl, py⟩) pa ?_
        refine pure_ (i := 2) (N := some 50) (fl 3 19) rfl rfl (any_of HT_.out (by kernel_rfl)) (fun _ _ _ h => h) (Or.inl ⟨by rfl, py⟩) pa ?_
        refine pure_ (i := 4) (N := some 52) #[true, true, true, false, true, false, false, false, false, false, false, false, false, false, false, false, false, false, false] rfl rfl (any_of HT_.out (by kernel_rfl)) (fun _ _ _ h => h) (Or.inl ⟨by rfl, py⟩) pa ?_
        refine pure_ (i := 5) (N := some 53) #[true, true, true, false, true, true, false, false, false, false, false, false, false, false, false, false, false, false, false] rfl rfl (any_of HT_.out (by kernel_rfl)) (fun _ _ _ h => h) (Or.inl ⟨by rfl, py⟩) pa ?_
        refine pure_ (i := 6) (N := some 54) #[true, true, true, false, true, true, true, false, false, false, false, false, false, false, false, false, false, false, false] rfl rfl (any_of HT_.out (by kernel_rfl)) (fun _ _ _ h => h) (Or.inl ⟨by rfl, py⟩) pa ?_
        refine pure_ (i := 7) (N := some 55) #[true, true, true, false, true, true, true, true, false, false, false, false, false, false, false, false, false, false, false] rfl rfl (any_of HT_.out (by kernel_rfl)) (fun _ _ _ h => h) (Or.inl ⟨by rfl, py⟩) pa ?_
        refine pure_ (i := 8) (N := some 56) #[true, true, true, false, true, true, true, true, true, false, false, false, false, false, false, false, false, false, false] rfl rfl (any_of HT_.out (by kernel_rfl)) (fun _ _ _ h => h) (Or.inl ⟨by rfl, py⟩) pa ?_
        refine pure_ (i := 10) (N := some 58) #[true, true, true, false, true, true, true, true, true, false, true, false, false, false, false, false, false, false, false] rfl rfl (any_of HT_.out (by kernel_rfl)) (fun _ _ _ h => h) (Or.inl ⟨by rfl, py⟩) pa ?_
        refine pure_ (i := 11) (N := some 59) #[true, true, true, false, true, true, true, true, true, false, true, true, false, false, false, false, false, false, false] rfl rfl (any_of HT_.out (by kernel_rfl)) (fun _ _ _ h => h) (Or.inl ⟨by rfl, py⟩) pa ?_
        refine pure_ (i := 12) (N := some 60) #[true, true, true, false, true, true, true, true, true, false, true, true, true, false, false, false, false, false, false] rfl rfl (any_of HT_.out (by kernel_rfl)) (fun _ _ _ h => h) (Or.inl ⟨by rfl, py⟩) pa ?_
        refine pure_ (i := 13) (N := some 61) #[true, true, true, false, true, true, true, true, true, false, true, true, true, true, false, false, false, false, false] rfl rfl (any_of HT_.out (by kernel_rfl)) (fun _ _ _ h => h) (Or.inl ⟨by rfl, py⟩) pa ?_
        refine take_ (i := 3) (N := some 51) #[true, true, true, true, true, true, true, true, true, false, true, true, true, true, false, false, false, false, false] rfl rfl (take_ofW HT_.out HW_.out (by kernel_rfl)) (fun _ _ _ h => h) (Or.inl ⟨by rfl, tk⟩) hHeld pa ?_
        refine take_ (i := 9) (N := some 57) (fl 14 19) rfl rfl (take_ofW HT_.out HW_.out (by kernel_rfl)) (fun _ _ _ h => h) (Or.inl ⟨by rfl, tk⟩) hHeld pa ?_
        refine take_ (i := 14) (N := some 62) (fl 15 19) rfl rfl (take_ofW HT_.out HW_.out (by kernel_rfl)) (fun _ _ _ h => h) (Or.inl ⟨by rfl, tk⟩) hHeld pa ?_
        refine join_ (σ := Value × Value × Nat) 1 (fl 18 19) (fun s_ => [(63, .agg #[.int .i64 t292, .string t293, .string t294, .int .i64 t295]), (64, .agg #[s_.1, s_.2.1, .int .i64 t302]), (6, .pointer (some ⟨s_.2.2, 0, none⟩))]) (fun s_ w' => (w'.cell? (ad289.add (((ji26)).toNat * 2)) = some (.slice A289_0 ((rd_T28 x3_1 (ji26)).f0).length c289_0) ∧ w'.cell? ⟨(ad289.add (((ji26)).toNat * 2)).block, (ad289.add (((ji26)).toNat * 2)).off + 1, none⟩ = some (.slice A289_1 ((rd_T28 x3_1 (ji26)).f1).length c289_1) ∧ w'.cell? (ad277.add ((ji29)).toNat) = some (.int .u8 (rd l0 (ji29))) ∧ w'.cell? (ad277.add ((ji32)).toNat) = some (.int .u8 (rd l0 (ji32)))) ∧ (Kd.V k70 70 w' w.heap.size (fun k_ => (w.heap.size ≤ k_) ∧ some k_ ≠ (s_.1 : Value).ownBlock ∧ some k_ ≠ (s_.2.1 : Value).ownBlock ∧ some k_ ≠ (.slice (some ad289) x3_1.length co57 : Value).ownBlock ∧ k_ ≠ s_.2.2) (.slice A289_0 ((rd_T28 x3_1 (ji26)).f0).length c289_0) ((rd_T28 x3_1 (ji26)).f0)) ∧ (Kd.V k34 34 w' w.heap.size (fun k_ => (w.heap.size ≤ k_) ∧ some k_ ≠ (s_.1 : Value).ownBlock ∧ some k_ ≠ (s_.2.1 : Value).ownBlock ∧ some k_ ≠ (.slice (some ad289) x3_1.length co57 : Value).ownBlock ∧ k_ ≠ s_.2.2) (.slice A289_1 ((rd_T28 x3_1 (ji26)).f1).length c289_1) ((rd_T28 x3_1 (ji26)).f1)) ∧ (Kd.R k70 70 w' w.heap.size (fun k_ => (w.heap.size ≤ k_)) s_.1 t296) ∧ (Kd.R k34 34 w' w.heap.size (fun k_ => (w.heap.size ≤ k_)) s_.2.1 t299) ∧ (Kd.N k28 28 w' w.heap.size (fun k_ => (w.heap.size ≤ k_) ∧ some k_ ≠ (s_.1 : Value).ownBlock ∧ some k_ ≠ (s_.2.1 : Value).ownBlock ∧ k_ ≠ s_.2.2) (.slice (some ad289) x3_1.length co57) x3_1) ∧ (w'.heap[s_.2.2]? = some (.cells #[.slice none 0 0, .slice none 0 0, .int .i64 0] 43 (0, 0))) ∧ (w.heap.size ≤ s_.2.2) ∧ (w.heap.size ≤ s_.2.2) ∧ (Below w.heap.size w w')) ?_ ?_
        rotate_left
        ·
         intro hCont
         refine two_ (i := 15) (j := 17) (Ni := some 63) (Nj := some 6) (fl 16 19) #[true, true, true, true, true, true, true, true, true, true, true, true, true, true, true, false, false, true, false] rfl rfl rfl rfl (two_of HT_.out (by kernel_rfl)) (by decide) (by decide) (fun K hK => ?_) (fun K hK => ?_)
         ·
          skip
          refine goes_ Try.func12 (by kernel_rfl) rfl #[.int .u8 (rd l0 (ji29)), .int .u8 (rd l0 (ji32))] (by rfl) rfl rfl (by (try simp only [List.map_toArray, List.map_cons, List.map_nil]); first | done | (simp only [hji29, hji32]; rfl) | rfl | (simp only [List.length_drop, List.length_take]; rfl)) ?_
          with_reducible refine (deaddroplaw8_Op.calls (rd l0 (ji29)) (rd l0 (ji32)) t292 t293 t294 t295 _ A35.out).mono ?_
          rintro e w58 ⟨rfl, hb⟩
          have HS0_ := (hb.cell (World.block_lt_of_cell? _ _ (hHeld.1))).trans (hHeld.1)
          have HS1_ := (hb.cell (World.block_lt_of_cell? _ _ (hHeld.2.1))).trans (hHeld.2.1)
          refine ⟨_, rfl, ?_⟩
          replace HO_3 := Aside0.mk (Kd.N_below (nk HO_3.out) hb)
          replace HL289_0 := Aside0.mk (Kd.V_below (vk HL289_0.out) hb)
          replace HL289_1 := Aside0.mk (Kd.V_below (vk HL289_1.out) hb)
          replace HR289_0 := Aside0.mk (Kd.C_below (ck HR289_0.out) hb)
          replace HR289_1 := Aside0.mk (Kd.C_below (ck HR289_1.out) hb)
          replace HB := Aside0.mk (below_step (bw HB.out) hb)
          (try clear hb)
          (try clear hb2)
          (try clear hk)
          (try clear hi)
          refine hK.out _ _ ⟨HS0_, HS1_, (bc HB.out hw290_0), (bc HB.out hw291_0)⟩ (fun hHeld => ?_)
          clear hK K
          refine norm_ (a' := ?_) ?_ ?_
          rotate_left
          ·
           show Act.put _ (some 63) _ = _
           simp only [Act.put, List.setIfInBounds_toArray, List.set_cons_zero, List.set_cons_succ, i64_w, i32_w]
           rfl
          refine two_ (i := 16) (j := 17) (Ni := some 64) (Nj := some 6) (fl 17 19) #[true, true, true, true, true, true, true, true, true, true, true, true, true, true, true, true, false, true, false] rfl rfl rfl rfl (two_of HT_.out (by kernel_rfl)) (by decide) (by decide) (fun K hK => ?_) (fun K hK => ?_)
          ·
           skip
           refine goes_ Try.func13 (by kernel_rfl) rfl #[.agg #[.slice A289_0 ((rd_T28 x3_1 (ji26)).f0).length c289_0, .slice A289_1 ((rd_T28 x3_1 (ji26)).f1).length c289_1], .int .i64 ji26, .agg #[.int .i64 t292, .string t293, .string t294, .int .i64 t295]] (by rfl) rfl rfl (by (try simp only [List.map_toArray, List.map_cons, List.map_nil]); first | done | (simp only [hji26]; rfl) | rfl | (simp only [List.length_drop, List.length_take]; rfl)) ?_
           with_reducible refine (deaddropref7_Do.calls kj4 _ _ ((rd_T28 x3_1 (ji26)).f0) _ _ ((rd_T28 x3_1 (ji26)).f1) ji26 t292 t293 t294 t295 t296 t299 t302 _ ?side1 ?side2 ?side3 ?side4 A36.out).mono ?_
           (case side1 => exact cr (ck HR289_0.out))
           (case side2 => exact HC289_0.out)
           (case side3 => exact cr (ck HR289_1.out))
           (case side4 => exact HC289_1.out)
           rintro e w59 ⟨v297, v300, rfl, ho0, ho1, hb⟩
           have HS0_ := (hb.cell (World.block_lt_of_cell? _ _ (hHeld.1))).trans (hHeld.1)
           have HS1_ := (hb.cell (World.block_lt_of_cell? _ _ (hHeld.2.1))).trans (hHeld.2.1)
           refine ⟨_, rfl, ?_⟩
           replace HO_3 := Aside0.mk (Kd.N_mono (Kd.N_told (Kd.N_told (Kd.N_old (nk HO_3.out) hb) (Kd.R_base ho0)) (Kd.R_base ho1)) (fun _ h_ => h_.1))
           replace HL289_0 := Aside0.mk (Kd.V_mono (Kd.V_told (Kd.V_told (Kd.V_old (vk HL289_0.out) hb) (Kd.R_base ho0)) (Kd.R_base ho1)) (fun _ h_ => h_.1))
           replace HL289_1 := Aside0.mk (Kd.V_mono (Kd.V_told (Kd.V_told (Kd.V_old (vk HL289_1.out) hb) (Kd.R_base ho0)) (Kd.R_base ho1)) (fun _ h_ => h_.1))
           have HO298 := Aside0.mk (Kd.R_lower (Kd.R_newM (M := fun k_ => (w.heap.size ≤ k_)) ho0 (below_size (bw HB.out)) (fun k_ h_ => h_)) (below_size (bw HB.out)))
           have HO301 := Aside0.mk (Kd.R_lower (Kd.R_newM (M := fun k_ => (w.heap.size ≤ k_)) ho1 (below_size (bw HB.out)) (fun k_ h_ => h_)) (below_size (bw HB.out)))
           replace HR289_0 := Aside0.mk (Kd.C_below (ck HR289_0.out) hb)
           replace HR289_1 := Aside0.mk (Kd.C_below (ck HR289_1.out) hb)
           replace HB := Aside0.mk (below_step (bw HB.out) hb)
           (try clear hb)
           (try clear hb2)
           (try clear hk)
           (try clear hi)
           (try clear ho0)
           (try clear ho1)
           refine hK.out _ _ ⟨HS0_, HS1_, (bc HB.out hw290_0), (bc HB.out hw291_0)⟩ (fun hHeld => ?_)
           clear hK K
           refine norm_ (a' := ?_) ?_ ?_
           rotate_left
           ·
            show Act.put _ (some 64) _ = _
            simp only [Act.put, List.setIfInBounds_toArray, List.set_cons_zero, List.set_cons_succ, i64_w, i32_w]
            rfl
           refine one_ (i := 17) (N := some 6) (fl 18 19) rfl rfl (one_of HT_.out (by kernel_rfl)) (by decide) (fun K hK => ?_)
           refine box_step ?hg (N := 6) ?hd (cs := #[.slice none 0 0, .slice none 0 0, .int .i64 0]) (t := 43) ?hr ?_; (case hd => rfl); (case hg => rfl); (case hr => first | (go_simp; done) | (go_simp; rfl))
           intro gb303 hg w60 hbox hb
           have HS0_ := (hb.cell (World.block_lt_of_cell? _ _ (hHeld.1))).trans (hHeld.1)
           have HS1_ := (hb.cell (World.block_lt_of_cell? _ _ (hHeld.2.1))).trans (hHeld.2.1)
           replace HO_3 := Aside0.mk (Kd.N_below (Kd.N_elderB (nk HO_3.out) gb303 (Nat.le_of_eq hg.symm)) hb)
           replace HL289_0 := Aside0.mk (Kd.V_below (Kd.V_elderB (vk HL289_0.out) gb303 (Nat.le_of_eq hg.symm)) hb)
           replace HL289_1 := Aside0.mk (Kd.V_below (Kd.V_elderB (vk HL289_1.out) gb303 (Nat.le_of_eq hg.symm)) hb)
           replace HO298 := Aside0.mk (Kd.R_below (rk HO298.out) hb)
           replace HO301 := Aside0.mk (Kd.R_below (rk HO301.out) hb)
           replace HR289_0 := Aside0.mk (Kd.C_below (ck HR289_0.out) hb)
           replace HR289_1 := Aside0.mk (Kd.C_below (ck HR289_1.out) hb)
           have BK303 := Aside0.mk (hbox)
           have GW303 := Aside0.mk ((by rw [hg]; exact (below_size (bw HB.out)) : w.heap.size ≤ gb303))
           have GE303 := GW303
           replace HB := Aside0.mk (below_step (bw HB.out) hb)
           clear hb hbox hg
           refine hK.out _ _ ⟨HS0_, HS1_, (bc HB.out hw290_0), (bc HB.out hw291_0)⟩ (fun hHeld => ?_)
           clear hK K
           refine norm_ (a' := ?_) ?_ ?_
           rotate_left
           ·
            show Act.put _ (some 6) _ = _
            simp only [Act.put, List.setIfInBounds_toArray, List.set_cons_zero, List.set_cons_succ, i64_w, i32_w]
            rfl
           exact norm_ (by simp only [putAll, Act.put, List.setIfInBounds_toArray, List.set_cons_zero, List.set_cons_succ]) (hCont (v297, v300, gb303) _ ⟨hHeld, (by (with_reducible repeat (first | apply Kd.V_alloc | apply Kd.V_drewN | apply Kd.V_drew)); exact Kd.V_mono HL289_0.out (fun _ hk => ⟨hk.1.1.1.1, ⟨hk.1.1.2, ⟨hk.1.2, ⟨hk.1.1.1.2, hk.2⟩⟩⟩⟩)), (by (with_reducible repeat (first | apply Kd.V_alloc | apply Kd.V_drewN | apply Kd.V_drew)); exact Kd.V_mono HL289_1.out (fun _ hk => ⟨hk.1.1.1.1, ⟨hk.1.1.2, ⟨hk.1.2, ⟨hk.1.1.1.2, hk.2⟩⟩⟩⟩)), (by (with_reducible repeat (first | apply Kd.R_alloc | apply Kd.R_drewN | apply Kd.R_drew)); exact Kd.R_mono HO298.out (fun _ hk => hk.1)), (by (with_reducible repeat (first | apply Kd.R_alloc | apply Kd.R_drewN | apply Kd.R_drew)); exact Kd.R_mono HO301.out (fun _ hk => hk.1)), (by (with_reducible repeat (first | apply Kd.N_alloc | apply Kd.N_drewN | apply Kd.N_drew)); exact Kd.N_mono HO_3.out (fun _ hk => ⟨hk.1.1.1, ⟨hk.1.1.2, ⟨hk.1.2, hk.2⟩⟩⟩)), (bk BK303.out), GW303.out, GE303.out, (bw1 HB.out GE303.out)⟩)
          ·
           skip
           refine box_step ?hg (N := 6) ?hd (cs := #[.slice none 0 0, .slice none 0 0, .int .i64 0]) (t := 43) ?hr ?_; (case hd => rfl); (case hg => rfl); (case hr => first | (go_simp; done) | (go_simp; rfl))
           intro gb303 hg w59 hbox hb
           have HS0_ := (hb.cell (World.block_lt_of_cell? _ _ (hHeld.1))).trans (hHeld.1)
           have HS1_ := (hb.cell (World.block_lt_of_cell? _ _ (hHeld.2.1))).trans (hHeld.2.1)
           replace HO_3 := Aside0.mk (Kd.N_below (Kd.N_elderB (nk HO_3.out) gb303 (Nat.le_of_eq hg.symm)) hb)
           replace HL289_0 := Aside0.mk (Kd.V_below (Kd.V_elderB (vk HL289_0.out) gb303 (Nat.le_of_eq hg.symm)) hb)
           replace HL289_1 := Aside0.mk (Kd.V_below (Kd.V_elderB (vk HL289_1.out) gb303 (Nat.le_of_eq hg.symm)) hb)
           replace HR289_0 := Aside0.mk (Kd.C_below (ck HR289_0.out) hb)
           replace HR289_1 := Aside0.mk (Kd.C_below (ck HR289_1.out) hb)
           have BK303 := Aside0.mk (hbox)
           have GW303 := Aside0.mk ((by rw [hg]; exact (below_size (bw HB.out)) : w.heap.size ≤ gb303))
           have GE303 := GW303
           replace HB := Aside0.mk (below_step (bw HB.out) hb)
           clear hb hbox hg
           refine hK.out _ _ ⟨HS0_, HS1_, (bc HB.out hw290_0), (bc HB.out hw291_0)⟩ (fun hHeld => ?_)
           clear hK K
           refine norm_ (a' := ?_) ?_ ?_
           rotate_left
           ·
            show Act.put _ (some 6) _ = _
            simp only [Act.put, List.setIfInBounds_toArray, List.set_cons_zero, List.set_cons_succ, i64_w, i32_w]
            rfl
           refine one_ (i := 16) (N := some 64) (fl 18 19) rfl rfl (one_of HT_.out (by kernel_rfl)) (by decide) (fun K hK => ?_)
           refine goes_ Try.func13 (by kernel_rfl) rfl #[.agg #[.slice A289_0 ((rd_T28 x3_1 (ji26)).f0).length c289_0, .slice A289_1 ((rd_T28 x3_1 (ji26)).f1).length c289_1], .int .i64 ji26, .agg #[.int .i64 t292, .string t293, .string t294, .int .i64 t295]] (by rfl) rfl rfl (by (try simp only [List.map_toArray, List.map_cons, List.map_nil]); first | done | (simp only [hji26]; rfl) | rfl | (simp only [List.length_drop, List.length_take]; rfl)) ?_
           with_reducible refine (deaddropref7_Do.calls kj4 _ _ ((rd_T28 x3_1 (ji26)).f0) _ _ ((rd_T28 x3_1 (ji26)).f1) ji26 t292 t293 t294 t295 t296 t299 t302 _ ?side1 ?side2 ?side3 ?side4 A36.out).mono ?_
           (case side1 => exact cr (ck HR289_0.out))
           (case side2 => exact HC289_0.out)
           (case side3 => exact cr (ck HR289_1.out))
           (case side4 => exact HC289_1.out)
           rintro e w60 ⟨v297, v300, rfl, ho0, ho1, hb⟩
           have HS0_ := (hb.cell (World.block_lt_of_cell? _ _ (hHeld.1))).trans (hHeld.1)
           have HS1_ := (hb.cell (World.block_lt_of_cell? _ _ (hHeld.2.1))).trans (hHeld.2.1)
           refine ⟨_, rfl, ?_⟩
           replace HO_3 := Aside0.mk (Kd.N_mono (Kd.N_told (Kd.N_told (Kd.N_old (nk HO_3.out) hb) (Kd.R_base ho0)) (Kd.R_base ho1)) (fun _ h_ => h_.1))
           replace HL289_0 := Aside0.mk (Kd.V_mono (Kd.V_told (Kd.V_told (Kd.V_old (vk HL289_0.out) hb) (Kd.R_base ho0)) (Kd.R_base ho1)) (fun _ h_ => h_.1))
           replace HL289_1 := Aside0.mk (Kd.V_mono (Kd.V_told (Kd.V_told (Kd.V_old (vk HL289_1.out) hb) (Kd.R_base ho0)) (Kd.R_base ho1)) (fun _ h_ => h_.1))
           have HO298 := Aside0.mk (Kd.R_lower (Kd.R_newM (M := fun k_ => (w.heap.size ≤ k_)) ho0 (below_size (bw1 HB.out GE303.out)) (fun k_ h_ => h_)) (below_size (bw1 HB.out GE303.out)))
           have HO301 := Aside0.mk (Kd.R_lower (Kd.R_newM (M := fun k_ => (w.heap.size ≤ k_)) ho1 (below_size (bw1 HB.out GE303.out)) (fun k_ h_ => h_)) (below_size (bw1 HB.out GE303.out)))
           replace HR289_0 := Aside0.mk (Kd.C_below (ck HR289_0.out) hb)
           replace HR289_1 := Aside0.mk (Kd.C_below (ck HR289_1.out) hb)
           replace BK303 := Aside0.mk (bkb BK303.out hb)
           replace HB := Aside0.mk (below_step (bw1 HB.out GE303.out) hb)
           (try clear hb)
           (try clear hb2)
           (try clear hk)
           (try clear hi)
           (try clear ho0)
           (try clear ho1)
           refine hK.out _ _ ⟨HS0_, HS1_, (bc HB.out hw290_0), (bc HB.out hw291_0)⟩ (fun hHeld => ?_)
           clear hK K
           refine norm_ (a' := ?_) ?_ ?_
           rotate_left
           ·
            show Act.put _ (some 64) _ = _
            simp only [Act.put, List.setIfInBounds_toArray, List.set_cons_zero, List.set_cons_succ, i64_w, i32_w]
            rfl
           exact norm_ (by simp only [putAll, Act.put, List.setIfInBounds_toArray, List.set_cons_zero, List.set_cons_succ]) (hCont (v297, v300, gb303) _ ⟨hHeld, (by (with_reducible repeat (first | apply Kd.V_alloc | apply Kd.V_drewN | apply Kd.V_drew)); exact Kd.V_mono HL289_0.out (fun _ hk => ⟨hk.1.1.1.1, ⟨hk.1.2, ⟨hk.2, ⟨hk.1.1.1.2, hk.1.1.2⟩⟩⟩⟩)), (by (with_reducible repeat (first | apply Kd.V_alloc | apply Kd.V_drewN | apply Kd.V_drew)); exact Kd.V_mono HL289_1.out (fun _ hk => ⟨hk.1.1.1.1, ⟨hk.1.2, ⟨hk.2, ⟨hk.1.1.1.2, hk.1.1.2⟩⟩⟩⟩)), (by (with_reducible repeat (first | apply Kd.R_alloc | apply Kd.R_drewN | apply Kd.R_drew)); exact Kd.R_mono HO298.out (fun _ hk => hk.1)), (by (with_reducible repeat (first | apply Kd.R_alloc | apply Kd.R_drewN | apply Kd.R_drew)); exact Kd.R_mono HO301.out (fun _ hk => hk.1)), (by (with_reducible repeat (first | apply Kd.N_alloc | apply Kd.N_drewN | apply Kd.N_drew)); exact Kd.N_mono HO_3.out (fun _ hk => ⟨hk.1.1.1, ⟨hk.1.2, ⟨hk.2, hk.1.1.2⟩⟩⟩)), (bk BK303.out), GW303.out, GE303.out, (bw1 HB.out GE303.out)⟩)
         ·
          skip
          refine box_step ?hg (N := 6) ?hd (cs := #[.slice none 0 0, .slice none 0 0, .int .i64 0]) (t := 43) ?hr ?_; (case hd => rfl); (case hg => rfl); (case hr => first | (go_simp; done) | (go_simp; rfl))
          intro gb303 hg w58 hbox hb
          have HS0_ := (hb.cell (World.block_lt_of_cell? _ _ (hHeld.1))).trans (hHeld.1)
          have HS1_ := (hb.cell (World.block_lt_of_cell? _ _ (hHeld.2.1))).trans (hHeld.2.1)
          replace HO_3 := Aside0.mk (Kd.N_below (Kd.N_elderB (nk HO_3.out) gb303 (Nat.le_of_eq hg.symm)) hb)
          replace HL289_0 := Aside0.mk (Kd.V_below (Kd.V_elderB (vk HL289_0.out) gb303 (Nat.le_of_eq hg.symm)) hb)
          replace HL289_1 := Aside0.mk (Kd.V_below (Kd.V_elderB (vk HL289_1.out) gb303 (Nat.le_of_eq hg.symm)) hb)
          replace HR289_0 := Aside0.mk (Kd.C_below (ck HR289_0.out) hb)
          replace HR289_1 := Aside0.mk (Kd.C_below (ck HR289_1.out) hb)
          have BK303 := Aside0.mk (hbox)
          have GW303 := Aside0.mk ((by rw [hg]; exact (below_size (bw HB.out)) : w.heap.size ≤ gb303))
          have GE303 := GW303
          replace HB := Aside0.mk (below_step (bw HB.out) hb)
          clear hb hbox hg
          refine hK.out _ _ ⟨HS0_, HS1_, (bc HB.out hw290_0), (bc HB.out hw291_0)⟩ (fun hHeld => ?_)
          clear hK K
          refine norm_ (a' := ?_) ?_ ?_
          rotate_left
          ·
           show Act.put _ (some 6) _ = _
           simp only [Act.put, List.setIfInBounds_toArray, List.set_cons_zero, List.set_cons_succ, i64_w, i32_w]
           rfl
          refine one_ (i := 15) (N := some 63) #[true, true, true, true, true, true, true, true, true, true, true, true, true, true, true, true, false, true, false] rfl rfl (one_of HT_.out (by kernel_rfl)) (by decide) (fun K hK => ?_)
          refine goes_ Try.func12 (by kernel_rfl) rfl #[.int .u8 (rd l0 (ji29)), .int .u8 (rd l0 (ji32))] (by rfl) rfl rfl (by (try simp only [List.map_toArray, List.map_cons, List.map_nil]); first | done | (simp only [hji29, hji32]; rfl) | rfl | (simp only [List.length_drop, List.length_take]; rfl)) ?_
          with_reducible refine (deaddroplaw8_Op.calls (rd l0 (ji29)) (rd l0 (ji32)) t292 t293 t294 t295 _ A35.out).mono ?_
          rintro e w59 ⟨rfl, hb⟩
          have HS0_ := (hb.cell (World.block_lt_of_cell? _ _ (hHeld.1))).trans (hHeld.1)
          have HS1_ := (hb.cell (World.block_lt_of_cell? _ _ (hHeld.2.1))).trans (hHeld.2.1)
          refine ⟨_, rfl, ?_⟩
          replace HO_3 := Aside0.mk (Kd.N_below (nk HO_3.out) hb)
          replace HL289_0 := Aside0.mk (Kd.V_below (vk HL289_0.out) hb)
          replace HL289_1 := Aside0.mk (Kd.V_below (vk HL289_1.out) hb)
          replace HR289_0 := Aside0.mk (Kd.C_below (ck HR289_0.out) hb)
          replace HR289_1 := Aside0.mk (Kd.C_below (ck HR289_1.out) hb)
          replace BK303 := Aside0.mk (bkb BK303.out hb)
          replace HB := Aside0.mk (below_step (bw1 HB.out GE303.out) hb)
          (try clear hb)
          (try clear hb2)
          (try clear hk)
          (try clear hi)
          refine hK.out _ _ ⟨HS0_, HS1_, (bc HB.out hw290_0), (bc HB.out hw291_0)⟩ (fun hHeld => ?_)
          clear hK K
          refine norm_ (a' := ?_) ?_ ?_
          rotate_left
          ·
           show Act.put _ (some 63) _ = _
           simp only [Act.put, List.setIfInBounds_toArray, List.set_cons_zero, List.set_cons_succ, i64_w, i32_w]
           rfl
          refine one_ (i := 16) (N := some 64) (fl 18 19) rfl rfl (one_of HT_.out (by kernel_rfl)) (by decide) (fun K hK => ?_)
          refine goes_ Try.func13 (by kernel_rfl) rfl #[.agg #[.slice A289_0 ((rd_T28 x3_1 (ji26)).f0).length c289_0, .slice A289_1 ((rd_T28 x3_1 (ji26)).f1).length c289_1], .int .i64 ji26, .agg #[.int .i64 t292, .string t293, .string t294, .int .i64 t295]] (by rfl) rfl rfl (by (try simp only [List.map_toArray, List.map_cons, List.map_nil]); first | done | (simp only [hji26]; rfl) | rfl | (simp only [List.length_drop, List.length_take]; rfl)) ?_
          with_reducible refine (deaddropref7_Do.calls kj4 _ _ ((rd_T28 x3_1 (ji26)).f0) _ _ ((rd_T28 x3_1 (ji26)).f1) ji26 t292 t293 t294 t295 t296 t299 t302 _ ?side1 ?side2 ?side3 ?side4 A36.out).mono ?_
          (case side1 => exact cr (ck HR289_0.out))
          (case side2 => exact HC289_0.out)
          (case side3 => exact cr (ck HR289_1.out))
          (case side4 => exact HC289_1.out)
          rintro e w60 ⟨v297, v300, rfl, ho0, ho1, hb⟩
          have HS0_ := (hb.cell (World.block_lt_of_cell? _ _ (hHeld.1))).trans (hHeld.1)
          have HS1_ := (hb.cell (World.block_lt_of_cell? _ _ (hHeld.2.1))).trans (hHeld.2.1)
          refine ⟨_, rfl, ?_⟩
          replace HO_3 := Aside0.mk (Kd.N_mono (Kd.N_told (Kd.N_told (Kd.N_old (nk HO_3.out) hb) (Kd.R_base ho0)) (Kd.R_base ho1)) (fun _ h_ => h_.1))
          replace HL289_0 := Aside0.mk (Kd.V_mono (Kd.V_told (Kd.V_told (Kd.V_old (vk HL289_0.out) hb) (Kd.R_base ho0)) (Kd.R_base ho1)) (fun _ h_ => h_.1))
          replace HL289_1 := Aside0.mk (Kd.V_mono (Kd.V_told (Kd.V_told (Kd.V_old (vk HL289_1.out) hb) (Kd.R_base ho0)) (Kd.R_base ho1)) (fun _ h_ => h_.1))
          have HO298 := Aside0.mk (Kd.R_lower (Kd.R_newM (M := fun k_ => (w.heap.size ≤ k_)) ho0 (below_size (bw1 HB.out GE303.out)) (fun k_ h_ => h_)) (below_size (bw1 HB.out GE303.out)))
          have HO301 := Aside0.mk (Kd.R_lower (Kd.R_newM (M := fun k_ => (w.heap.size ≤ k_)) ho1 (below_size (bw1 HB.out GE303.out)) (fun k_ h_ => h_)) (below_size (bw1 HB.out GE303.out)))
          replace HR289_0 := Aside0.mk (Kd.C_below (ck HR289_0.out) hb)
          replace HR289_1 := Aside0.mk (Kd.C_below (ck HR289_1.out) hb)
          replace BK303 := Aside0.mk (bkb BK303.out hb)
          replace HB := Aside0.mk (below_step (bw1 HB.out GE303.out) hb)
          (try clear hb)
          (try clear hb2)
          (try clear hk)
          (try clear hi)
          (try clear ho0)
          (try clear ho1)
          refine hK.out _ _ ⟨HS0_, HS1_, (bc HB.out hw290_0), (bc HB.out hw291_0)⟩ (fun hHeld => ?_)
          clear hK K
          refine norm_ (a' := ?_) ?_ ?_
          rotate_left
          ·
           show Act.put _ (some 64) _ = _
           simp only [Act.put, List.setIfInBounds_toArray, List.set_cons_zero, List.set_cons_succ, i64_w, i32_w]
           rfl
          exact norm_ (by simp only [putAll, Act.put, List.setIfInBounds_toArray, List.set_cons_zero, List.set_cons_succ]) (hCont (v297, v300, gb303) _ ⟨hHeld, (by (with_reducible repeat (first | apply Kd.V_alloc | apply Kd.V_drewN | apply Kd.V_drew)); exact Kd.V_mono HL289_0.out (fun _ hk => ⟨hk.1.1.1.1, ⟨hk.1.2, ⟨hk.2, ⟨hk.1.1.1.2, hk.1.1.2⟩⟩⟩⟩)), (by (with_reducible repeat (first | apply Kd.V_alloc | apply Kd.V_drewN | apply Kd.V_drew)); exact Kd.V_mono HL289_1.out (fun _ hk => ⟨hk.1.1.1.1, ⟨hk.1.2, ⟨hk.2, ⟨hk.1.1.1.2, hk.1.1.2⟩⟩⟩⟩)), (by (with_reducible repeat (first | apply Kd.R_alloc | apply Kd.R_drewN | apply Kd.R_drew)); exact Kd.R_mono HO298.out (fun _ hk => hk.1)), (by (with_reducible repeat (first | apply Kd.R_alloc | apply Kd.R_drewN | apply Kd.R_drew)); exact Kd.R_mono HO301.out (fun _ hk => hk.1)), (by (with_reducible repeat (first | apply Kd.N_alloc | apply Kd.N_drewN | apply Kd.N_drew)); exact Kd.N_mono HO_3.out (fun _ hk => ⟨hk.1.1.1, ⟨hk.1.2, ⟨hk.2, hk.1.1.2⟩⟩⟩)), (bk BK303.out), GW303.out, GE303.out, (bw1 HB.out GE303.out)⟩)
        rintro ⟨v297, v300, gb303⟩ w61 ⟨hS_, h0_, h1_, h2_, h3_, h4_, h5_, h6_, h7_, h8_⟩
        have n0_ : Aside0 (Kd.V k70 70 w61 w.heap.size (fun k_ => (w.heap.size ≤ k_) ∧ some k_ ≠ (v297 : Value).ownBlock ∧ some k_ ≠ (v300 : Value).ownBlock ∧ some k_ ≠ (.slice (some ad289) x3_1.length co57 : Value).ownBlock ∧ k_ ≠ gb303) (.slice A289_0 ((rd_T28 x3_1 (ji26)).f0).length c289_0) ((rd_T28 x3_1 (ji26)).f0)) := ⟨h0_⟩
        have n1_ : Aside0 (Kd.V k34 34 w61 w.heap.size (fun k_ => (w.heap.size ≤ k_) ∧ some k_ ≠ (v297 : Value).ownBlock ∧ some k_ ≠ (v300 : Value).ownBlock ∧ some k_ ≠ (.slice (some ad289) x3_1.length co57 : Value).ownBlock ∧ k_ ≠ gb303) (.slice A289_1 ((rd_T28 x3_1 (ji26)).f1).length c289_1) ((rd_T28 x3_1 (ji26)).f1)) := ⟨h1_⟩
        have n2_ : Aside0 (Kd.R k70 70 w61 w.heap.size (fun k_ => (w.heap.size ≤ k_)) v297 t296) := ⟨h2_⟩
        have n3_ : Aside0 (Kd.R k34 34 w61 w.heap.size (fun k_ => (w.heap.size ≤ k_)) v300 t299) := ⟨h3_⟩
        have n4_ : Aside0 (Kd.N k28 28 w61 w.heap.size (fun k_ => (w.heap.size ≤ k_) ∧ some k_ ≠ (v297 : Value).ownBlock ∧ some k_ ≠ (v300 : Value).ownBlock ∧ k_ ≠ gb303) (.slice (some ad289) x3_1.length co57) x3_1) := ⟨h4_⟩
        have n5_ : Aside0 (w61.heap[gb303]? = some (.cells #[.slice none 0 0, .slice none 0 0, .int .i64 0] 43 (0, 0))) := ⟨h5_⟩
        have n6_ : Aside0 (w.heap.size ≤ gb303) := ⟨h6_⟩
        have n7_ : Aside0 (w.heap.size ≤ gb303) := ⟨h7_⟩
        have n8_ : Aside0 (Below w.heap.size w w61) := ⟨h8_⟩
        clear HO_3
        clear HB
        clear h0_ h1_ h2_ h3_ h4_ h5_ h6_ h7_ h8_
        have HL289_0 := n0_
        have HL289_1 := n1_
        have HO298 := n2_
        have HO301 := n3_
        have HO_3 := n4_
        have BK303 := n5_
        have GW303 := n6_
        have GE303 := n7_
        have HB := n8_
        clear n0_ n1_ n2_ n3_ n4_ n5_ n6_ n7_ n8_
        have hHeld : w61.cell? (ad289.add (((ji26)).toNat * 2)) = some (.slice A289_0 ((rd_T28 x3_1 (ji26)).f0).length c289_0) ∧ w61.cell? ⟨(ad289.add (((ji26)).toNat * 2)).block, (ad289.add (((ji26)).toNat * 2)).off + 1, none⟩ = some (.slice A289_1 ((rd_T28 x3_1 (ji26)).f1).length c289_1) ∧ w61.cell? (ad277.add ((ji29)).toNat) = some (.int .u8 (rd l0 (ji29))) ∧ w61.cell? (ad277.add ((ji32)).toNat) = some (.int .u8 (rd l0 (ji32))) := hS_
        obtain ⟨Ao62, co62, eo62⟩ := Kd.R_slice HO298.out
        (first | subst eo62 | (injection eo62 with f1_ f2_ f3_; have f4_ := f1_.symm; have f5_ := f3_.symm; clear f1_ f2_ f3_; subst f4_; subst f5_))
        obtain ⟨Ao64, co64, eo64⟩ := Kd.R_slice HO301.out
        (first | subst eo64 | (injection eo64 with f1_ f2_ f3_; have f4_ := f1_.symm; have f5_ := f3_.symm; clear f1_ f2_ f3_; subst f4_; subst f5_))
        refine norm_ (a' := ?_) ?_ ?_
        rotate_left
        ·
         simp only [putAll, Act.put, List.setIfInBounds_toArray, List.set_cons_zero, List.set_cons_succ]
         rfl
        refine one_ (i := 18) (N := none) (fl 19 19) rfl rfl (one_of HT_.out (by kernel_rfl)) (by decide) (fun K hK => ?_)
        have hs63 : w61.cell? ⟨gb303, 0, none⟩ = some (.slice none 0 0) := (blk_cell BK303.out 0).trans rfl
        have hfs63 := blk_frozen BK303.out 0
        have hs65 : w61.cell? ⟨gb303, 1, none⟩ = some (.slice none 0 0) := (blk_cell BK303.out 1).trans rfl
        have hfs65 := blk_frozen BK303.out 1
        have hs66 : w61.cell? ⟨gb303, 2, none⟩ = some (.int .i64 0) := (blk_cell BK303.out 2).trans rfl
        have hfs66 := blk_frozen BK303.out 2
        refine skip_ (w1 := ?_) (by rfl) rfl ?_ ?_
        rotate_left
        ·
         go_simp
         rfl
        refine hK.out _ _ ⟨((cell_far (p := ⟨gb303, _, none⟩) (by first | exact Kd.own_blk (Kd.N_away HO_3.out (fun _ hk => hk.2.2.2)) | (rw [add_block]; exact Kd.own_blk (Kd.N_away HO_3.out (fun _ hk => hk.2.2.2))) | (show (Addr.add _ _).block ≠ _; rw [add_block]; exact Kd.own_blk (Kd.N_away HO_3.out (fun _ hk => hk.2.2.2))) | (dsimp only; exact Kd.own_blk (Kd.N_away HO_3.out (fun _ hk => hk.2.2.2)))) _).trans (((cell_far (p := ⟨gb303, _, none⟩) (by first | exact Kd.own_blk (Kd.N_away HO_3.out (fun _ hk => hk.2.2.2)) | (rw [add_block]; exact Kd.own_blk (Kd.N_away HO_3.out (fun _ hk => hk.2.2.2))) | (show (Addr.add _ _).block ≠ _; rw [add_block]; exact Kd.own_blk (Kd.N_away HO_3.out (fun _ hk => hk.2.2.2))) | (dsimp only; exact Kd.own_blk (Kd.N_away HO_3.out (fun _ hk => hk.2.2.2)))) _).trans (((cell_far (p := ⟨gb303, _, none⟩) (by first | exact Kd.own_blk (Kd.N_away HO_3.out (fun _ hk => hk.2.2.2)) | (rw [add_block]; exact Kd.own_blk (Kd.N_away HO_3.out (fun _ hk => hk.2.2.2))) | (show (Addr.add _ _).block ≠ _; rw [add_block]; exact Kd.own_blk (Kd.N_away HO_3.out (fun _ hk => hk.2.2.2))) | (dsimp only; exact Kd.own_blk (Kd.N_away HO_3.out (fun _ hk => hk.2.2.2)))) _).trans (hHeld.1)))))), ((cell_far (p := ⟨gb303, _, none⟩) (by first | exact Kd.own_blk (Kd.N_away HO_3.out (fun _ hk => hk.2.2.2)) | (rw [add_block]; exact Kd.own_blk (Kd.N_away HO_3.out (fun _ hk => hk.2.2.2))) | (show (Addr.add _ _).block ≠ _; rw [add_block]; exact Kd.own_blk (Kd.N_away HO_3.out (fun _ hk => hk.2.2.2))) | (dsimp only; exact Kd.own_blk (Kd.N_away HO_3.out (fun _ hk => hk.2.2.2)))) _).trans (((cell_far (p := ⟨gb303, _, none⟩) (by first | exact Kd.own_blk (Kd.N_away HO_3.out (fun _ hk => hk.2.2.2)) | (rw [add_block]; exact Kd.own_blk (Kd.N_away HO_3.out (fun _ hk => hk.2.2.2))) | (show (Addr.add _ _).block ≠ _; rw [add_block]; exact Kd.own_blk (Kd.N_away HO_3.out (fun _ hk => hk.2.2.2))) | (dsimp only; exact Kd.own_blk (Kd.N_away HO_3.out (fun _ hk => hk.2.2.2)))) _).trans (((cell_far (p := ⟨gb303, _, none⟩) (by first | exact Kd.own_blk (Kd.N_away HO_3.out (fun _ hk => hk.2.2.2)) | (rw [add_block]; exact Kd.own_blk (Kd.N_away HO_3.out (fun _ hk => hk.2.2.2))) | (show (Addr.add _ _).block ≠ _; rw [add_block]; exact Kd.own_blk (Kd.N_away HO_3.out (fun _ hk => hk.2.2.2))) | (dsimp only; exact Kd.own_blk (Kd.N_away HO_3.out (fun _ hk => hk.2.2.2)))) _).trans (hHeld.2.1)))))), ((cell_far (p := ⟨gb303, _, none⟩) (by first | exact Nat.ne_of_lt (Nat.lt_of_lt_of_le (by have := World.block_lt_of_cell? _ _ hw290_0; first | rwa [add_block] at this | exact this) GW303.out) | (rw [add_block]; exact Nat.ne_of_lt (Nat.lt_of_lt_of_le (by have := World.block_lt_of_cell? _ _ hw290_0; first | rwa [add_block] at this | exact this) GW303.out)) | (show (Addr.add _ _).block ≠ _; rw [add_block]; exact Nat.ne_of_lt (Nat.lt_of_lt_of_le (by have := World.block_lt_of_cell? _ _ hw290_0; first | rwa [add_block] at this | exact this) GW303.out)) | (dsimp only; exact Nat.ne_of_lt (Nat.lt_of_lt_of_le (by have := World.block_lt_of_cell? _ _ hw290_0; first | rwa [add_block] at this | exact this) GW303.out))) _).trans (((cell_far (p := ⟨gb303, _, none⟩) (by first | exact Nat.ne_of_lt (Nat.lt_of_lt_of_le (by have := World.block_lt_of_cell? _ _ hw290_0; first | rwa [add_block] at this | exact this) GW303.out) | (rw [add_block]; exact Nat.ne_of_lt (Nat.lt_of_lt_of_le (by have := World.block_lt_of_cell? _ _ hw290_0; first | rwa [add_block] at this | exact this) GW303.out)) | (show (Addr.add _ _).block ≠ _; rw [add_block]; exact Nat.ne_of_lt (Nat.lt_of_lt_of_le (by have := World.block_lt_of_cell? _ _ hw290_0; first | rwa [add_block] at this | exact this) GW303.out)) | (dsimp only; exact Nat.ne_of_lt (Nat.lt_of_lt_of_le (by have := World.block_lt_of_cell? _ _ hw290_0; first | rwa [add_block] at this | exact this) GW303.out))) _).trans (((cell_far (p := ⟨gb303, _, none⟩) (by first | exact Nat.ne_of_lt (Nat.lt_of_lt_of_le (by have := World.block_lt_of_cell? _ _ hw290_0; first | rwa [add_block] at this | exact this) GW303.out) | (rw [add_block]; exact Nat.ne_of_lt (Nat.lt_of_lt_of_le (by have := World.block_lt_of_cell? _ _ hw290_0; first | rwa [add_block] at this | exact this) GW303.out)) | (show (Addr.add _ _).block ≠ _; rw [add_block]; exact Nat.ne_of_lt (Nat.lt_of_lt_of_le (by have := World.block_lt_of_cell? _ _ hw290_0; first | rwa [add_block] at this | exact this) GW303.out)) | (dsimp only; exact Nat.ne_of_lt (Nat.lt_of_lt_of_le (by have := World.block_lt_of_cell? _ _ hw290_0; first | rwa [add_block] at this | exact this) GW303.out))) _).trans (hHeld.2.2.1)))))), ((cell_far (p := ⟨gb303, _, none⟩) (by first | exact Nat.ne_of_lt (Nat.lt_of_lt_of_le (by have := World.block_lt_of_cell? _ _ hw291_0; first | rwa [add_block] at this | exact this) GW303.out) | (rw [add_block]; exact Nat.ne_of_lt (Nat.lt_of_lt_of_le (by have := World.block_lt_of_cell? _ _ hw291_0; first | rwa [add_block] at this | exact this) GW303.out)) | (show (Addr.add _ _).block ≠ _; rw [add_block]; exact Nat.ne_of_lt (Nat.lt_of_lt_of_le (by have := World.block_lt_of_cell? _ _ hw291_0; first | rwa [add_block] at this | exact this) GW303.out)) | (dsimp only; exact Nat.ne_of_lt (Nat.lt_of_lt_of_le (by have := World.block_lt_of_cell? _ _ hw291_0; first | rwa [add_block] at this | exact this) GW303.out))) _).trans (((cell_far (p := ⟨gb303, _, none⟩) (by first | exact Nat.ne_of_lt (Nat.lt_of_lt_of_le (by have := World.block_lt_of_cell? _ _ hw291_0; first | rwa [add_block] at this | exact this) GW303.out) | (rw [add_block]; exact Nat.ne_of_lt (Nat.lt_of_lt_of_le (by have := World.block_lt_of_cell? _ _ hw291_0; first | rwa [add_block] at this | exact this) GW303.out)) | (show (Addr.add _ _).block ≠ _; rw [add_block]; exact Nat.ne_of_lt (Nat.lt_of_lt_of_le (by have := World.block_lt_of_cell? _ _ hw291_0; first | rwa [add_block] at this | exact this) GW303.out)) | (dsimp only; exact Nat.ne_of_lt (Nat.lt_of_lt_of_le (by have := World.block_lt_of_cell? _ _ hw291_0; first | rwa [add_block] at this | exact this) GW303.out))) _).trans (((cell_far (p := ⟨gb303, _, none⟩) (by first | exact Nat.ne_of_lt (Nat.lt_of_lt_of_le (by have := World.block_lt_of_cell? _ _ hw291_0; first | rwa [add_block] at this | exact this) GW303.out) | (rw [add_block]; exact Nat.ne_of_lt (Nat.lt_of_lt_of_le (by have := World.block_lt_of_cell? _ _ hw291_0; first | rwa [add_block] at this | exact this) GW303.out)) | (show (Addr.add _ _).block ≠ _; rw [add_block]; exact Nat.ne_of_lt (Nat.lt_of_lt_of_le (by have := World.block_lt_of_cell? _ _ hw291_0; first | rwa [add_block] at this | exact this) GW303.out)) | (dsimp only; exact Nat.ne_of_lt (Nat.lt_of_lt_of_le (by have := World.block_lt_of_cell? _ _ hw291_0; first | rwa [add_block] at this | exact this) GW303.out))) _).trans (hHeld.2.2.2))))))⟩ (fun hHeld => ?_)
        clear hK K
        refine done_ (done_of HT_.out (by kernel_rfl)) ?_
        obtain ⟨hcz67_0, hcz67_1, hcz67_2⟩ := bx3 BK303.out
        obtain ⟨hfz67_0, hfz67_1, hfz67_2⟩ := bf3 BK303.out
        try go_wp2
        go_roundg kj4
        case measure => have := HK1.out; have := HJ4.out; omega
        case rel => exact ⟨(x3_1), (wrap64 (x4_1 + 3)), ok_, H', ⟨by have := HK1.out; have := HJ4.out; omega⟩, ⟨by (with_reducible repeat (first | apply Kd.N_alloc | apply Kd.N_drewN | apply Kd.N_drew)); exact Kd.N_mono (Kd.N_far (p := ⟨gb303, 2, none⟩) (Kd.N_far (p := ⟨gb303, 1, none⟩) (Kd.N_far (p := ⟨gb303, 0, none⟩) (Kd.N_mono HO_3.out (fun k_ hk => (⟨hk, hk.2.2.2⟩ : _ ∧ k_ ≠ gb303))) (fun _ hk => hk.2) (.slice Ao62 t296.length co62)) (fun _ hk => hk.2) (.slice Ao64 t299.length co64)) (fun _ hk => hk.2) (.int .i64 t302)) (fun _ hk => hk.1.1)⟩, ⟨bw1 HB.out GE303.out⟩⟩
     ·
      replace c7 := Bool.eq_false_iff.mpr c7
      subst c7
      have H1 : (some x3_1) = some r := by rw [if_neg (show ¬ (false = true) by decide)] at H; exact H
      clear H
      have H := H1
      clear H1
      obtain rfl := Option.some.inj H
      go_wp2
      go_ret
      exact ⟨_, by first | rfl | (simp [errW_none, errW_some] <;> rfl) | (simp [*, errW_none, errW_some] <;> rfl), nk HO_3.out, bw HB.out⟩
end Go.Proofs.Ytaonemedoikieaa.M
