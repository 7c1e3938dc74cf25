-- Written by a program of this work (wip/tools/mkprint.py) over the kit's print; Lean checks it.
import Derived.Test.YtaonemedoikieaaMx0
import Derived.Test.YtaonemedoikieaaMx10
import Derived.Test.YtaonemedoikieaaMx19
import Derived.Test.YtaonemedoikieaaMx21
import Derived.Test.YtaonemedoikieaaMx22
import Derived.Test.YtaonemedoikieaaMx9
import Derived.Test.YtaonemedoikieaaHAbb2
namespace Go.Proofs.Ytaonemedoikieaa.M
open Go.RowKit Go.Proofs.YtaonemedoikieaaW.PrintWords Go.Proofs.YtaonemedoikieaaW.PrintLast Go.Proofs.YtaonemedoikieaaW.PrintMore Go.Proofs.Ytaonemedoikieaa.AB
attribute [local go_sem] max2_int min2_int max_two min_two max_three min_three max_four min_four   -- for this text's walks alone
set_option linter.unusedVariables false
set_option linter.unusedSimpArgs false

/-! ### deaddroplaw10_ReadMade -/
def deaddroplaw10_ReadMadeBody.l0 : Nat → ByteArray → List ByteArray → Bool → Int → List (S70) → List (S34) → Option (Bool)
 | 0, _, _, _, _, _, _ => none
 | k + 1, x8, x9, x10, x11, x574000, x574001 => if x11 < (x9.length : Int) then (if x10 = true then (deaddroplaw10_ReadMadeBody.l0 k x8 x9 true (wrap64 (x11 + 1)) x574000 x574001) else (if 0 ≤ x11 then (deaddroplaw10_ReadMadeBody.l0 k x8 x9 ((rdOf ByteArray.empty x9 x11).toList == x8.toList) (wrap64 (x11 + 1)) x574000 x574001) else (none))) else ((read_Texts.f k x574000 x574001 x8).bind fun t581 => ((read_Members.f k x574000 x574001 x8).bind fun t584 => ((read_Count.f k x574000 x574001 x8).bind fun t587 => ((deaddropref7_Keys.f k x574000 x574001).bind fun t588 => ((deaddropref1_SameTexts.f k x9 t588).bind fun t591 => (if t591 = true then ((deaddropref7_Items.f k x574000 x574001 x8 1).bind fun t592 => ((deaddropref1_SameTexts.f k t581 t592).bind fun t595 => (if t595 = true then ((deaddropref7_Items.f k x574000 x574001 x8 2).bind fun t596 => ((deaddropref1_SameTexts.f k t584 t596).bind fun t599 => (if t599 = true then ((deaddropref7_Count.f k x574000 x574001 x8).bind fun t600 => (if t587 = t600 then (if x10 = true then ((deaddroplaw10_awake.f k).bind fun t601 => (some t601)) else (if (t581.length : Int) = 0 then (if (t584.length : Int) = 0 then (if t587 = 0 then ((deaddroplaw10_awake.f k).bind fun t602 => (some t602)) else (none)) else (none)) else (none))) else (none))) else (none)))) else (none)))) else (none)))))))
def deaddroplaw10_ReadMadeBody.f (k : Nat) (l0 : List Int) (a1 : Int) (a2 : Int) (l3_0 : List (S70)) (l3_1 : List (S34)) : Option (Bool) := (read_Keys.f k l3_0 l3_1).bind fun t577 => (deaddroplaw10_ReadMadeBody.l0 k (strOfNums (([(107 + (Int.tmod a2 4)) % 256] : List Int))) t577 false 0 l3_0 l3_1)
theorem deaddroplaw10_ReadMadeBody.mono_l : ∀ k, (∀ y0 y1 y2 y3 y4 y5, LeO (deaddroplaw10_ReadMadeBody.l0 k y0 y1 y2 y3 y4 y5) (deaddroplaw10_ReadMadeBody.l0 (k + 1) y0 y1 y2 y3 y4 y5))
 | 0 => fun _ _ _ _ _ _ r h => by simp [deaddroplaw10_ReadMadeBody.l0] at h
 | k + 1 => by
  have ih0 := deaddroplaw10_ReadMadeBody.mono_l k
  ·
   intro y0 y1 y2 y3 y4 y5
   unfold deaddroplaw10_ReadMadeBody.l0
   repeat' first
   | with_reducible (first | exact ih0 _ _ _ _ _ _ | exact deaddroplaw10_awake.mono _ | exact deaddropref1_SameTexts.mono _ _ _ | exact deaddropref7_Count.mono _ _ _ _ | exact deaddropref7_Items.mono _ _ _ _ _ | exact deaddropref7_Keys.mono _ _ _ | exact read_Count.mono _ _ _ _ | exact read_Keys.mono _ _ _ | exact read_Members.mono _ _ _ _ | exact read_Texts.mono _ _ _ _ | exact LeO.refl _ | exact LeO.none _ | refine LeO.ite ?_ ?_ | refine LeO.bind ?_ (fun _ => ?_))
   | exact ih0 _ _ _ _ _ _ | exact deaddroplaw10_awake.mono _ | exact deaddropref1_SameTexts.mono _ _ _ | exact deaddropref7_Count.mono _ _ _ _ | exact deaddropref7_Items.mono _ _ _ _ _ | exact deaddropref7_Keys.mono _ _ _ | exact read_Count.mono _ _ _ _ | exact read_Keys.mono _ _ _ | exact read_Members.mono _ _ _ _ | exact read_Texts.mono _ _ _ _ | exact LeO.none _ | refine LeO.ite ?_ ?_ | refine LeO.bind ?_ (fun _ => ?_)
theorem deaddroplaw10_ReadMadeBody.mono : ∀ a0 a1 a2 a3 a4 k, LeO (deaddroplaw10_ReadMadeBody.f k a0 a1 a2 a3 a4) (deaddroplaw10_ReadMadeBody.f (k + 1) a0 a1 a2 a3 a4) := by
 intro a0 a1 a2 a3 a4 k
 have ih0 := deaddroplaw10_ReadMadeBody.mono_l k
 unfold deaddroplaw10_ReadMadeBody.f
 repeat' first
  | with_reducible (first | exact ih0 _ _ _ _ _ _ | exact deaddroplaw10_awake.mono _ | exact deaddropref1_SameTexts.mono _ _ _ | exact deaddropref7_Count.mono _ _ _ _ | exact deaddropref7_Items.mono _ _ _ _ _ | exact deaddropref7_Keys.mono _ _ _ | exact read_Count.mono _ _ _ _ | exact read_Keys.mono _ _ _ | exact read_Members.mono _ _ _ _ | exact read_Texts.mono _ _ _ _ | exact LeO.refl _ | exact LeO.none _ | refine LeO.ite ?_ ?_ | refine LeO.bind ?_ (fun _ => ?_))
  | exact ih0 _ _ _ _ _ _ | exact deaddroplaw10_awake.mono _ | exact deaddropref1_SameTexts.mono _ _ _ | exact deaddropref7_Count.mono _ _ _ _ | exact deaddropref7_Items.mono _ _ _ _ _ | exact deaddropref7_Keys.mono _ _ _ | exact read_Count.mono _ _ _ _ | exact read_Keys.mono _ _ _ | exact read_Members.mono _ _ _ _ | exact read_Texts.mono _ _ _ _ | exact LeO.none _ | refine LeO.ite ?_ ?_ | refine LeO.bind ?_ (fun _ => ?_)
def deaddroplaw10_ReadMadeBody.T11 : Bool × List (List Nat × List Nat) := (true, [([], []), ([], []), ([0, 1], [0, 1]), ([], []), ([], []), ([3, 4, 2], [3, 4]), ([], []), ([], []), ([6, 7, 5], [6, 7]), ([2, 8, 0, 1, 2], [2]), ([5, 9, 0, 1, 2, 3, 4, 5, 9], [5]), ([8, 10, 0, 1, 2, 3, 4, 5, 6, 7, 8, 9, 10], [8])])
def deaddroplaw10_ReadMadeBody.B11 : List Nat := [0, 0, 3, 0, 0, 31, 0, 0, 255, 511, 1023, 2047]
theorem deaddroplaw10_ReadMadeBody.tab11 : rtab .any (opsOf Try.f6 11) = deaddroplaw10_ReadMadeBody.T11 := by kernel_rfl
theorem deaddroplaw10_ReadMadeBody.bits11 : waitsOk deaddroplaw10_ReadMadeBody.T11.2 deaddroplaw10_ReadMadeBody.B11 = true := by kernel_rfl
theorem N_base_ {α : Type} {d : Kd α} {e : Nat} {w : World} {base : Nat} {ok : Nat → Prop} {v : Value} {xs : List α} (h : Kd.N d e w base ok v xs) : ∀ k, v.ownBlock = some k → base ≤ k := by
  obtain ⟨_, rows, _, hR, _⟩ := h
  exact Kd.R_base hR
theorem V_C_ {α : Type} {d : Kd α} {e : Nat} {W : World} {base : Nat} {ok : Nat → Prop} {A : Option Addr} {c : Nat} {xs : List α} (h : Kd.V d e W base ok (.slice A xs.length c) xs) : d.C W A xs.length xs := by
  obtain ⟨A', c', he, _, hF⟩ := h
  injection he with h1 h2 h3
  subst h1
  exact hF _ (fun _ _ _ => rfl)
def deaddroplaw10_ReadMade.f (k : Nat) (l0 : List Int) (a1 : Int) (a2 : Int) : Option (Bool) := (deaddroplaw9_Apart.f k l0).bind fun t573 => ((deaddropref7_All.f k t573).bind fun bt576 => (if (Int.tmod a1 5) < 4 then ((deaddroplaw9_Apart.f k l0).bind fun t583 => (if 0 ≤ (Int.tmod a1 5) then (if (Int.tmod a1 5) < (t583.length : Int) then (deaddroplaw10_ReadMadeBody.f k l0 a1 a2 ((rd_T28 t583 (Int.tmod a1 5)).f0) ((rd_T28 t583 (Int.tmod a1 5)).f1)) else (none)) else (none))) else (deaddroplaw10_ReadMadeBody.f k l0 a1 a2 bt576.1 bt576.2)))
theorem deaddroplaw10_ReadMade.mono : ∀ a0 a1 a2 k, LeO (deaddroplaw10_ReadMade.f k a0 a1 a2) (deaddroplaw10_ReadMade.f (k + 1) a0 a1 a2) := by
 intro a0 a1 a2 k
 unfold deaddroplaw10_ReadMade.f
 repeat' first
  | with_reducible (first | exact deaddroplaw9_Apart.mono _ _ | exact deaddroplaw10_ReadMadeBody.mono _ _ _ _ _ _ | exact deaddropref7_All.mono _ _ | exact LeO.refl _ | exact LeO.none _ | refine LeO.ite ?_ ?_ | refine LeO.bind ?_ (fun _ => ?_))
  | exact deaddroplaw9_Apart.mono _ _ | exact deaddroplaw10_ReadMadeBody.mono _ _ _ _ _ _ | exact deaddropref7_All.mono _ _ | exact LeO.none _ | refine LeO.ite ?_ ?_ | refine LeO.bind ?_ (fun _ => ?_)
set_option maxHeartbeats 8000000 in
set_option maxRecDepth 100000 in
theorem deaddroplaw10_ReadMade.calls (k : Nat) (A0 : Option Addr) (c0 : Nat) (l0 : List Int) (a1 : Int) (a2 : Int) (r : Bool) (w : World) (hr0 : Kd.C (Kd.int .u8) w A0 l0.length l0) (hc0 : l0.length ≤ c0) (h : deaddroplaw10_ReadMade.f k l0 a1 a2 = some r) :
 Calls Try.prog 6 #[.slice A0 l0.length c0, .int .u8 a1, .int .u8 a2] w fun e w' => e = .returned (.bool r) ∧ Below w.heap.size w w' := by
 have hu28 := Try.underlying28
 have HR0 := Aside0.mk hr0
 have HC0 := Aside0.mk hc0
 clear hr0 hc0
 have HB := Aside0.mk (Below.refl w.heap.size w)
 have H := h
 clear h
 unfold deaddroplaw10_ReadMade.f at H
 replace H := Option.bind_eq_some_iff.mp H
 obtain ⟨t573, A40, H⟩ := H
 have A4 := Aside0.mk A40
 clear A40
 replace H := Option.bind_eq_some_iff.mp H
 obtain ⟨⟨t576, t579⟩, A50, H⟩ := H
 have A5 := Aside0.mk A50
 clear A50
 have HC6 := Aside0.mk H
 clear H
 go_enter Try.func6, Try.ntmps6
 go_upto_if 20 with (first | ((with_reducible refine gate_callee (f := 7) rfl ?_); refine goesL_ (some 16) rfl rfl Try.func7 (by kernel_rfl) rfl #[.slice A0 l0.length c0] rfl ar_ ?_; (with_reducible refine (deaddroplaw9_Apart.calls k _ _ l0 t573 _ ?side1 ?side2 A4.out).mono ?_); (case side1 => repeat (first | exact HR0.out | (with_reducible refine Kd.C_alloc ?_ _) | (with_reducible refine Kd.C_drewN ?_ _) | (with_reducible refine Kd.C_drew ?_))); (case side2 => exact HC0.out); rintro e w11 ⟨v574, rfl, ho0, hb⟩; refine ⟨_, rfl, ?_⟩; have HO575 := Aside0.mk (Kd.N_lower (Kd.N_mono (ok' := fun k_ => True) ho0 (fun k_ hk_ => trivial)) (below_size (bw HB.out))); replace HB := Aside0.mk (below_step (bw HB.out) hb); (try clear hb); (try clear hb2); (try clear hk); (try clear hi); (try clear ho0); obtain ⟨Ao12, co12, eo12⟩ := Kd.N_slice HO575.out; subst eo12) | ((with_reducible refine gate_callee (f := 9) rfl ?_); refine goesL_ (some 17) rfl rfl Try.func9 (by kernel_rfl) rfl #[.slice Ao12 t573.length co12] rfl ar_ ?_; (with_reducible refine (deaddropref7_All.calls k _ _ t573 t576 t579 _ ?side1 ?side2 A5.out).mono ?_); (case side1 => exact cr (Kd.N_reads' HO575.out).2.2); (case side2 => exact (Kd.N_reads' HO575.out).2.1); rintro e w13 ⟨v577, v580, rfl, ho0, ho1, hb⟩; refine ⟨_, rfl, ?_⟩; replace HO575 := Aside0.mk (Kd.N_mono (Kd.N_told (Kd.N_told (Kd.N_old (nk HO575.out) hb) (Kd.R_base ho0)) (Kd.R_base ho1)) (fun _ h_ => h_.1)); have HO578 := Aside0.mk (Kd.R_lower ho0 (below_size (bw HB.out))); have HO581 := Aside0.mk (Kd.R_lower ho1 (below_size (bw HB.out))); replace HB := Aside0.mk (below_step (bw HB.out) hb); (try clear hb); (try clear hb2); (try clear hk); (try clear hi); (try clear ho0); (try clear ho1)) | ((with_reducible refine gate_dst (N := 7) rfl ?_); refine box_event ?hg (N := 7) ?hd (cs := #[.slice none 0 0, .slice none 0 0]) (t := 28) ?hr ?_; (case hd => rfl); (case hg => rfl); (case hr => first | (go_simp; done) | (go_simp; rfl)); intro gb573 hg w14 hbox hb; replace HO575 := Aside0.mk (Kd.N_below (Kd.N_elderB (nk HO575.out) gb573 (Nat.le_of_eq hg.symm)) hb); replace HO578 := Aside0.mk (Kd.R_below (rk HO578.out) hb); replace HO581 := Aside0.mk (Kd.R_below (rk HO581.out) hb); have BK573 := Aside0.mk (hbox); have GW573 := Aside0.mk ((by rw [hg]; exact (below_size (bw HB.out)) : w.heap.size ≤ gb573)); have GE573 := GW573; replace HB := Aside0.mk (below_step (bw HB.out) hb); clear hb hbox hg; obtain ⟨Ao15, co15, eo15⟩ := Kd.R_slice HO578.out; subst eo15; obtain ⟨hcz16_0, hcz16_1⟩ := bx2 BK573.out; obtain ⟨hfz16_0, hfz16_1⟩ := bf2 BK573.out; obtain ⟨Ao17, co17, eo17⟩ := Kd.R_slice HO581.out; subst eo17))
 go_cut [] (fun wc => ∃ (A3_0 : Option Addr) (c3_0 : Nat) (l3_0 : List (S70)) (A3_1 : Option Addr) (c3_1 : Nat) (l3_1 : List (S34)), Aside0 (deaddroplaw10_ReadMadeBody.f k l0 a1 a2 l3_0 l3_1 = some r) ∧ Aside0 (wc.heap[gb573]? = some (.cells #[(.slice A3_0 l3_0.length c3_0), (.slice A3_1 l3_1.length c3_1)] 28 (0, 0))) ∧ Aside0 (Kd.C k70 wc A3_0 l3_0.length l3_0) ∧ Aside0 (l3_0.length ≤ c3_0) ∧ Aside0 (Kd.C k34 wc A3_1 l3_1.length l3_1) ∧ Aside0 (l3_1.length ≤ c3_1) ∧ Aside0 (Below w.heap.size w wc))
 case first =>
  have H := HC6.out
  clear HC6
  by_cases c6 : (Int.tmod a1 5) < 4
  ·
   rw [if_pos c6] at H
   have c6b0 : decide ((Int.tmod a1 5) < 4) = true := decide_eq_true c6
   clear c6
   (first | rw [c6b0] | (simp only [i64_w, i32_w]; rw [c6b0]) | skip)
   replace H := Option.bind_eq_some_iff.mp H
   obtain ⟨t583, A70, H⟩ := H
   replace H : (if 0 ≤ (Int.tmod a1 5) then (if (Int.tmod a1 5) < (t583.length : Int) then (deaddroplaw10_ReadMadeBody.f k l0 a1 a2 ((rd_T28 t583 (Int.tmod a1 5)).f0) ((rd_T28 t583 (Int.tmod a1 5)).f1)) else (none)) else (none)) = some r := H
   have A7 := Aside0.mk A70
   clear A70
   obtain ⟨ji8, hji8⟩ : ∃ j_ : Int, (Int.tmod a1 5) = j_ := ⟨_, rfl⟩
   replace H : (if 0 ≤ (ji8) then (if (ji8) < (t583.length : Int) then (deaddroplaw10_ReadMadeBody.f k l0 a1 a2 ((rd_T28 t583 (ji8)).f0) ((rd_T28 t583 (ji8)).f1)) else (none)) else (none)) = some r := by first | (rw [hji8] at H; exact H) | (simp only [hji8] at H ⊢; exact H)
   (try rw [hji8] at c6b0)
   (try rw [hji8] at A4)
   (try rw [hji8] at A5)
   (try rw [hji8] at A7)
   by_cases c9 : 0 ≤ (ji8)
   rotate_left
   ·
    rw [if_neg c9] at H
    exact absurd H (by simp)
   rw [if_pos c9] at H
   have c9b0 : decide (0 ≤ (ji8)) = true := decide_eq_true c9
   clear c9
   by_cases c10 : (ji8) < (t583.length : Int)
   rotate_left
   ·
    rw [if_neg c10] at H
    exact absurd H (by simp)
   rw [if_pos c10] at H
   have c10b0 : decide ((ji8) < (t583.length : Int)) = true := decide_eq_true c10
   clear c10
   have H' := Aside0.mk H
   clear H
   go_wp2_with (first | ((with_reducible refine gate_callee (f := 7) rfl ?_); refine goesL_ (some 22) rfl rfl Try.func7 (by kernel_rfl) rfl #[.slice A0 l0.length c0] rfl ar_ ?_; (with_reducible refine (deaddroplaw9_Apart.calls k _ _ l0 t583 _ ?side1 ?side2 A7.out).mono ?_); (case side1 => exact Kd.C_below HR0.out (bw1 HB.out GE573.out)); (case side2 => exact HC0.out); rintro e w18 ⟨v584, rfl, ho0, hb⟩; refine ⟨_, rfl, ?_⟩; have HO585 := Aside0.mk (Kd.N_lower (Kd.N_mono (ok' := fun k_ => some k_ ≠ (.slice Ao12 t573.length co12 : Value).ownBlock ∧ some k_ ≠ (.slice Ao15 t576.length co15 : Value).ownBlock ∧ some k_ ≠ (.slice Ao17 t579.length co17 : Value).ownBlock ∧ k_ ≠ gb573) ho0 (fun k_ hk_ => ⟨(Kd.fresh' (Kd.N_lt (by (with_reducible repeat (first | apply Kd.N_alloc | apply Kd.N_drewN | apply Kd.N_drew)); exact (Kd.N_mono (Kd.N_far (p := ⟨gb573, 1, none⟩) (Kd.N_far (p := ⟨gb573, 0, none⟩) (Kd.N_mono HO575.out (fun k_ hk => (⟨hk, hk.2⟩ : _ ∧ k_ ≠ gb573))) (fun _ hk => hk.2) (.slice Ao15 t576.length co15)) (fun _ hk => hk.2) (.slice Ao17 t579.length co17)) (fun _ h_ => h_.1)))) k_ hk_), (Kd.fresh' (Kd.R_lt (by (with_reducible repeat (first | apply Kd.R_alloc | apply Kd.R_drewN | apply Kd.R_drew)); exact (Kd.R_mono (Kd.R_far (p := ⟨gb573, 1, none⟩) (Kd.R_far (p := ⟨gb573, 0, none⟩) (Kd.R_types HO578.out BK573.out (by decide)) (fun _ hk => hk.2) (.slice Ao15 t576.length co15)) (fun _ hk => hk.2) (.slice Ao17 t579.length co17)) (fun _ h_ => h_.1)))) k_ hk_), (Kd.fresh' (Kd.R_lt (by (with_reducible repeat (first | apply Kd.R_alloc | apply Kd.R_drewN | apply Kd.R_drew)); exact (Kd.R_mono (Kd.R_far (p := ⟨gb573, 1, none⟩) (Kd.R_far (p := ⟨gb573, 0, none⟩) (Kd.R_types HO581.out BK573.out (by decide)) (fun _ hk => hk.2) (.slice Ao15 t576.length co15)) (fun _ hk => hk.2) (.slice Ao17 t579.length co17)) (fun _ h_ => h_.1)))) k_ hk_), (Kd.freshB (g := gb573) (o := .cells #[.slice Ao15 t576.length co15, .slice Ao17 t579.length co17] 28 (0, 0)) (by (with_reducible repeat (first | refine blk_drewN ?_ _ | refine blk_drew ?_ | refine blk_alloc ?_ _)); refine blk_put (cs := #[.slice Ao15 t576.length co15, .slice none 0 0]) ?_ 1 _ rfl; (with_reducible repeat (first | refine blk_drewN ?_ _ | refine blk_drew ?_ | refine blk_alloc ?_ _)); refine blk_put (cs := #[.slice none 0 0, .slice none 0 0]) ?_ 0 _ rfl; (with_reducible repeat (first | refine blk_drewN ?_ _ | refine blk_drew ?_ | refine blk_alloc ?_ _)); exact BK573.out) k_ hk_)⟩)) (below_size (bw1 HB.out GE573.out))); replace HO575 := Aside0.mk (Kd.N_elder' (by (with_reducible repeat (first | apply Kd.N_alloc | apply Kd.N_drewN | apply Kd.N_drew)); exact (Kd.N_mono (Kd.N_far (p := ⟨gb573, 1, none⟩) (Kd.N_far (p := ⟨gb573, 0, none⟩) (Kd.N_mono HO575.out (fun k_ hk => (⟨hk, hk.2⟩ : _ ∧ k_ ≠ gb573))) (fun _ hk => hk.2) (.slice Ao15 t576.length co15)) (fun _ hk => hk.2) (.slice Ao17 t579.length co17)) (fun _ h_ => h_.1))) (N_base_ ho0) hb); replace HO578 := Aside0.mk (Kd.R_below (by (with_reducible repeat (first | apply Kd.R_alloc | apply Kd.R_drewN | apply Kd.R_drew)); exact (Kd.R_mono (Kd.R_far (p := ⟨gb573, 1, none⟩) (Kd.R_far (p := ⟨gb573, 0, none⟩) (Kd.R_types HO578.out BK573.out (by decide)) (fun _ hk => hk.2) (.slice Ao15 t576.length co15)) (fun _ hk => hk.2) (.slice Ao17 t579.length co17)) (fun _ h_ => h_.1))) hb); replace HO581 := Aside0.mk (Kd.R_below (by (with_reducible repeat (first | apply Kd.R_alloc | apply Kd.R_drewN | apply Kd.R_drew)); exact (Kd.R_mono (Kd.R_far (p := ⟨gb573, 1, none⟩) (Kd.R_far (p := ⟨gb573, 0, none⟩) (Kd.R_types HO581.out BK573.out (by decide)) (fun _ hk => hk.2) (.slice Ao15 t576.length co15)) (fun _ hk => hk.2) (.slice Ao17 t579.length co17)) (fun _ h_ => h_.1))) hb); replace BK573 := Aside0.mk (blk_below (g := gb573) (o := .cells #[.slice Ao15 t576.length co15, .slice Ao17 t579.length co17] 28 (0, 0)) (by (with_reducible repeat (first | refine blk_drewN ?_ _ | refine blk_drew ?_ | refine blk_alloc ?_ _)); refine blk_put (cs := #[.slice Ao15 t576.length co15, .slice none 0 0]) ?_ 1 _ rfl; (with_reducible repeat (first | refine blk_drewN ?_ _ | refine blk_drew ?_ | refine blk_alloc ?_ _)); refine blk_put (cs := #[.slice none 0 0, .slice none 0 0]) ?_ 0 _ rfl; (with_reducible repeat (first | refine blk_drewN ?_ _ | refine blk_drew ?_ | refine blk_alloc ?_ _)); exact BK573.out) hb); replace HB := Aside0.mk (below_step (bw1 HB.out GE573.out) hb); (try clear hb); (try clear hb2); (try clear hk); (try clear hi); (try clear ho0); obtain ⟨Ao19, co19, eo19⟩ := Kd.N_slice HO585.out; subst eo19; have p586 : 0 ≤ ((ji8) : Int) := of_decide_eq_true as_; have q586 : (ji8) < (t583.length : Int) := of_decide_eq_true as_; obtain ⟨ad586, A586_0, c586_0, A586_1, c586_1, e586, hx586_0, hx586_1, hl586_0, hi586_0, hl586_1, hi586_1⟩ := at_T28 (Kd.N_reads' HO585.out).2.2 (ji8) p586 q586; cases e586; obtain ⟨ce586, hce586, hMe586, hcc586⟩ := Kd.N_get HO585.out z28 (ji8) p586 (by first | exact q586 | exact of_decide_eq_true as_ | (have e_ := (Kd.N_reads' HO585.out).1; omega)); obtain ⟨ua586_0, uc586_0, ua586_1, uc586_1, rfl, ul586_0, ge586_0, ul586_1, ge586_1⟩ := k28_openF hMe586; have hv586_0 := hcc586 0 _ rfl; rw [Nat.add_zero] at hv586_0; replace hv586_0 := Option.some.inj (hv586_0.symm.trans hx586_0); injection hv586_0 with hva_ hvn_ hvc_; rw [hva_] at ge586_0; rw [hvc_] at ul586_0; have HL586_0 := Aside0.mk (show Kd.V k70 70 _ w.heap.size _ _ ((rd_T28 t583 (ji8)).f0) from Kd.V_mk ul586_0 ge586_0); clear hva_ hvn_ hvc_ ge586_0 ul586_0; have hv586_1 := hcc586 1 _ rfl; rw [add_field _ _ 1 (by omega)] at hv586_1; replace hv586_1 := Option.some.inj (hv586_1.symm.trans hx586_1); injection hv586_1 with hva_ hvn_ hvc_; rw [hva_] at ge586_1; rw [hvc_] at ul586_1; have HL586_1 := Aside0.mk (show Kd.V k34 34 _ w.heap.size _ _ ((rd_T28 t583 (ji8)).f1) from Kd.V_mk ul586_1 ge586_1); clear hva_ hvn_ hvc_ ge586_1 ul586_1; clear hcc586 hce586; have HR586_0 := Aside0.mk hi586_0; have HC586_0 := Aside0.mk hl586_0; clear hi586_0 hl586_0; have HR586_1 := Aside0.mk hi586_1; have HC586_1 := Aside0.mk hl586_1; clear hi586_1 hl586_1; replace p586 := eq_true p586; replace q586 := eq_true q586; obtain ⟨hcz20_0, hcz20_1⟩ := bx2 BK573.out; obtain ⟨hfz20_0, hfz20_1⟩ := bf2 BK573.out))
   go_meet
   case rel =>
    refine ⟨A586_0, c586_0, (rd_T28 t583 ji8).f0, A586_1, c586_1, (rd_T28 t583 ji8).f1, H', ⟨?_⟩, ⟨?_⟩, HC586_0, ⟨?_⟩, HC586_1, ⟨bw1 HB.out GE573.out⟩⟩
    · (with_reducible repeat (first | refine blk_drewN ?_ _ | refine blk_drew ?_ | refine blk_alloc ?_ _))
      refine blk_put (cs := #[.slice A586_0 ((rd_T28 t583 ji8).f0).length c586_0, .slice Ao17 t579.length co17]) ?_ 1 _ rfl
      (with_reducible repeat (first | refine blk_drewN ?_ _ | refine blk_drew ?_ | refine blk_alloc ?_ _))
      refine blk_put (cs := #[.slice Ao15 t576.length co15, .slice Ao17 t579.length co17]) ?_ 0 _ rfl
      (with_reducible repeat (first | refine blk_drewN ?_ _ | refine blk_drew ?_ | refine blk_alloc ?_ _))
      exact BK573.out
    · refine (V_C_ (e := 70) (base := w.heap.size) (ok := fun k_ => (some k_ ≠ (.slice Ao12 t573.length co12 : Value).ownBlock ∧ some k_ ≠ (.slice Ao15 t576.length co15 : Value).ownBlock ∧ some k_ ≠ (.slice Ao17 t579.length co17 : Value).ownBlock ∧ k_ ≠ gb573) ∧ some k_ ≠ (.slice (some ad586) t583.length co19 : Value).ownBlock) (c := c586_0) ?_)
      (with_reducible repeat (first | apply Kd.V_alloc | apply Kd.V_drewN | apply Kd.V_drew))
      exact Kd.V_far (p := ⟨gb573, 1, none⟩) (Kd.V_far (p := ⟨gb573, 0, none⟩) HL586_0.out (fun _ hk => hk.1.2.2.2) _) (fun _ hk => hk.1.2.2.2) _
    · refine (V_C_ (e := 34) (base := w.heap.size) (ok := fun k_ => (some k_ ≠ (.slice Ao12 t573.length co12 : Value).ownBlock ∧ some k_ ≠ (.slice Ao15 t576.length co15 : Value).ownBlock ∧ some k_ ≠ (.slice Ao17 t579.length co17 : Value).ownBlock ∧ k_ ≠ gb573) ∧ some k_ ≠ (.slice (some ad586) t583.length co19 : Value).ownBlock) (c := c586_1) ?_)
      (with_reducible repeat (first | apply Kd.V_alloc | apply Kd.V_drewN | apply Kd.V_drew))
      exact Kd.V_far (p := ⟨gb573, 1, none⟩) (Kd.V_far (p := ⟨gb573, 0, none⟩) HL586_1.out (fun _ hk => hk.1.2.2.2) _) (fun _ hk => hk.1.2.2.2) _
  ·
   rw [if_neg c6] at H
   have c6b0 : decide ((Int.tmod a1 5) < 4) = false := decide_eq_false c6
   clear c6
   (first | rw [c6b0] | (simp only [i64_w, i32_w]; rw [c6b0]) | skip)
   have H' := Aside0.mk H
   clear H
   go_wp2
   go_meet
   case rel =>
    refine ⟨Ao15, co15, t576, Ao17, co17, t579, H', ⟨?_⟩, ⟨?_⟩, ⟨(Kd.R_reads' HO578.out).2.1⟩, ⟨?_⟩, ⟨(Kd.R_reads' HO581.out).2.1⟩, ⟨bw1 HB.out GE573.out⟩⟩
    · (with_reducible repeat (first | refine blk_drewN ?_ _ | refine blk_drew ?_ | refine blk_alloc ?_ _))
      refine blk_put (cs := #[.slice Ao15 t576.length co15, .slice none 0 0]) ?_ 1 _ rfl
      (with_reducible repeat (first | refine blk_drewN ?_ _ | refine blk_drew ?_ | refine blk_alloc ?_ _))
      refine blk_put (cs := #[.slice none 0 0, .slice none 0 0]) ?_ 0 _ rfl
      (with_reducible repeat (first | refine blk_drewN ?_ _ | refine blk_drew ?_ | refine blk_alloc ?_ _))
      exact BK573.out
    · refine (Kd.R_reads' (e := 70) (n := t576.length) (base := w.heap.size) (ok := fun k_ => True ∧ k_ ≠ gb573) (c := co15) ?_).2.2
      (with_reducible repeat (first | apply Kd.R_alloc | apply Kd.R_drewN | apply Kd.R_drew))
      exact Kd.R_far (p := ⟨gb573, 1, none⟩) (Kd.R_far (p := ⟨gb573, 0, none⟩) (Kd.R_types HO578.out BK573.out (by decide)) (fun _ hk => hk.2) _) (fun _ hk => hk.2) _
    · refine (Kd.R_reads' (e := 34) (n := t579.length) (base := w.heap.size) (ok := fun k_ => True ∧ k_ ≠ gb573) (c := co17) ?_).2.2
      (with_reducible repeat (first | apply Kd.R_alloc | apply Kd.R_drewN | apply Kd.R_drew))
      exact Kd.R_far (p := ⟨gb573, 1, none⟩) (Kd.R_far (p := ⟨gb573, 0, none⟩) (Kd.R_types HO581.out BK573.out (by decide)) (fun _ hk => hk.2) _) (fun _ hk => hk.2) _
 case rest =>
  clear HC6 A4 A5
  obtain ⟨A3_0, c3_0, l3_0, A3_1, c3_1, l3_1, HQ, BK573, HR3_0, HC3_0, HR3_1, HC3_1, HB0⟩ := hcut
  replace HB := Aside0.mk (Below.refl wc.heap.size wc)
  have H : ((read_Keys.f k l3_0 l3_1).bind fun t577 => (deaddroplaw10_ReadMadeBody.l0 k (strOfNums (([(107 + (Int.tmod a2 4)) % 256] : List Int))) t577 false 0 l3_0 l3_1)) = some r := HQ.out
  clear HQ
  obtain ⟨y574, hy574⟩ : ∃ y_ : List Int, y_ = (([(107 + (Int.tmod a2 4)) % 256] : List Int)) := ⟨_, rfl⟩
  replace H : ((read_Keys.f k l3_0 l3_1).bind fun t577 => (deaddroplaw10_ReadMadeBody.l0 k (strOfNums y574) t577 false 0 l3_0 l3_1)) = some r := by first | (rw [hy574]; with_reducible exact H) | (have H2_ := (Option.bind_some _ _).symm.trans H; rw [hy574]; with_reducible exact H2_) | (have H2_ := (Option.bind_some _ _).symm.trans H; with_reducible exact H2_) | with_reducible exact H | (rw [hy574]; exact H) | exact H
  have Ny574 := Aside0.mk hy574
  clear hy574
  replace H := Option.bind_eq_some_iff.mp H
  obtain ⟨t577, A50, H⟩ := H
  replace H : (deaddroplaw10_ReadMadeBody.l0 k (strOfNums y574) t577 false 0 l3_0 l3_1) = some r := H
  have A5 := Aside0.mk A50
  clear A50
  have H' := Aside0.mk H
  clear H
  obtain ⟨hcz7_0, hcz7_1⟩ := bx2 BK573.out
  obtain ⟨hfz7_0, hfz7_1⟩ := bf2 BK573.out
  go_wp2_with (first | ((with_reducible refine gate_dst (N := 30) rfl ?_); (try (refine gate_guard (by rfl) ?_; dsimp only)); refine Kd.R_lit (Kd.int .u8) _ 5 ?hg (N := 30) ?hd (xs := ([(107 + (Int.tmod a2 4)) % 256] : List Int)) (inner := [.int .u8 ((107 + (Int.tmod a2 4)) % 256)]) (ok := fun _ => True) (okp := fun _ => True) ?hr ?hp (fun _ hk => hk) trivial (Below.refl _ _) (Nat.le_refl _) (by simp) ?_; (case hd => rfl); (case hg => rfl); (case hr => first | (go_simp; done) | (go_simp; rfl)); (case hp => exact (Reps.one (show Kd.M (Kd.int .u8) _ _ _ ((107 + (Int.tmod a2 4)) % 256) [.int .u8 ((107 + (Int.tmod a2 4)) % 256)] from rfl) (Reps.none _ _))); intro v575 w8 ho9 hb hg_ hnew_; clear hg_ hnew_; (first | rw [← Ny574.out] at ho9 | (simp only [Int.reduceToNat] at ho9; rw [← Ny574.out] at ho9)); have HO576 := Aside0.mk (Kd.R_lower ho9 (below_size (bw HB.out))); replace BK573 := Aside0.mk (bkb BK573.out hb); replace HB := Aside0.mk (below_step (bw HB.out) hb); clear hb ho9; have hcv10 := own_string (P := Try.prog) Try.underlying22 Try.underlying5 Try.underlying9 (Kd.own_of_R HO576.out); obtain ⟨hcz11_0, hcz11_1⟩ := bx2 BK573.out; obtain ⟨hfz11_0, hfz11_1⟩ := bf2 BK573.out) | ((with_reducible refine gate_callee (f := 19) rfl ?_); refine goesL_ (some 33) rfl rfl Try.func19 (by kernel_rfl) rfl #[.agg #[.slice A3_0 l3_0.length c3_0, .slice A3_1 l3_1.length c3_1]] rfl ar_ ?_; (with_reducible refine (read_Keys.calls k _ _ l3_0 _ _ l3_1 t577 _ ?side1 ?side2 ?side3 ?side4 A5.out).mono ?_); (case side1 => exact cr (Kd.C_below HR3_0.out HB.out)); (case side2 => exact HC3_0.out); (case side3 => exact cr (Kd.C_below HR3_1.out HB.out)); (case side4 => exact HC3_1.out); rintro e w12 ⟨v578, rfl, ho0, hb⟩; refine ⟨_, rfl, ?_⟩; replace HO576 := Aside0.mk (Kd.R_below (rk HO576.out) hb); have HO579 := Aside0.mk (Kd.R_lower ho0 (below_size (bw HB.out))); replace BK573 := Aside0.mk (bkb BK573.out hb); replace HB := Aside0.mk (below_step (bw HB.out) hb); (try clear hb); (try clear hb2); (try clear hk); (try clear hi); (try clear ho0)))
  go_loopg [10, 11] k (fun kq v10 v11 w' => ∃ (x10_1 : Bool) (x11_1 : Int), v10 = .bool x10_1 ∧ v11 = .int .i64 x11_1 ∧ Aside0 (deaddroplaw10_ReadMadeBody.l0 kq (strOfNums y574) t577 x10_1 x11_1 l3_0 l3_1 = some r) ∧ Aside0 (kq ≤ k) ∧ Aside0 (Kd.R Kd.string 9 w' wc.heap.size (fun _ => True) v578 t577) ∧ Aside0 (w'.heap[gb573]? = some (.cells #[(.slice A3_0 l3_0.length c3_0), (.slice A3_1 l3_1.length c3_1)] 28 (0, 0))) ∧ Aside0 (Below wc.heap.size wc w'))
  case atStart => exact ⟨(false), (0), ok_, ok_, H', ⟨Nat.le_refl _⟩, ⟨rk HO579.out⟩, ⟨bk BK573.out⟩, ⟨bw HB.out⟩⟩
  case round =>
   clear H'
   try clear hcv10
   try clear hcz11_0
   try clear hcz11_1
   try clear hcz7_0
   try clear hcz7_1
   try clear hfz11_0
   try clear hfz11_1
   try clear hfz7_0
   try clear hfz7_1
   obtain ⟨x10_1, x11_1, rfl, rfl, HA, HK1, HO_9, BK573, HB⟩ := hrel
   cases gk with
   | zero => exact absurd HA.out (by simp [deaddroplaw10_ReadMadeBody.l0])
   | succ k1 =>
    have H := HA.out
    clear HA
    simp only [deaddroplaw10_ReadMadeBody.l0] at H
    by_cases c13 : x11_1 < (t577.length : Int)
    ·
     rw [if_pos c13] at H
     have c13b0 : decide (x11_1 < (t577.length : Int)) = true := decide_eq_true c13
     clear c13
     by_cases c14 : x10_1 = true
     ·
      subst c14
      have H1 : (deaddroplaw10_ReadMadeBody.l0 k1 (strOfNums y574) t577 true (wrap64 (x11_1 + 1)) l3_0 l3_1) = some r := by rw [if_pos rfl] at H; exact H
      clear H
      have H := H1
      clear H1
      have H' := Aside0.mk H
      clear H
      obtain ⟨Ao15, co15, eo15⟩ := Kd.R_slice HO_9.out
      subst eo15
      go_wp2
      go_roundg k1
      case measure => have := HK1.out; omega
      case rel => exact ⟨(true), (wrap64 (x11_1 + 1)), ok_, ok_, H', ⟨by have := HK1.out; omega⟩, ⟨rk HO_9.out⟩, ⟨bk BK573.out⟩, ⟨bw HB.out⟩⟩
     ·
      replace c14 := Bool.eq_false_iff.mpr c14
      subst c14
      have H1 : (if 0 ≤ x11_1 then (deaddroplaw10_ReadMadeBody.l0 k1 (strOfNums y574) t577 ((rdOf ByteArray.empty t577 x11_1).toList == (strOfNums y574).toList) (wrap64 (x11_1 + 1)) l3_0 l3_1) else (none)) = some r := by rw [if_neg (show ¬ (false = true) by decide)] at H; exact H
      clear H
      have H := H1
      clear H1
      by_cases c16 : 0 ≤ x11_1
      rotate_left
      ·
       rw [if_neg c16] at H
       exact absurd H (by simp)
      rw [if_pos c16] at H
      have c16b0 : decide (0 ≤ x11_1) = true := decide_eq_true c16
      clear c16
      have H' := Aside0.mk H
      clear H
      obtain ⟨Ao17, co17, eo17⟩ := Kd.R_slice HO_9.out
      subst eo17
      have p580 : 0 ≤ (x11_1 : Int) := of_decide_eq_true as_
      have q580 : x11_1 < (t577.length : Int) := of_decide_eq_true as_
      obtain ⟨ad580, e580, hx580_0⟩ := Kd.at_string (Kd.R_reads' HO_9.out).2.2 x11_1 p580 q580
      cases e580
      replace p580 := eq_true p580
      replace q580 := eq_true q580
      go_wp2
      go_roundg k1
      case measure => have := HK1.out; omega
      case rel => exact ⟨(((rdOf ByteArray.empty t577 x11_1).toList == (strOfNums y574).toList)), (wrap64 (x11_1 + 1)), ok_, ok_, H', ⟨by have := HK1.out; omega⟩, ⟨rk HO_9.out⟩, ⟨bk BK573.out⟩, ⟨bw HB.out⟩⟩
    ·
     rw [if_neg c13] at H
     have c13b0 : decide (x11_1 < (t577.length : Int)) = false := decide_eq_false c13
     clear c13
     replace H := Option.bind_eq_some_iff.mp H
     obtain ⟨t581, A180, H⟩ := H
     replace H : ((read_Members.f k1 l3_0 l3_1 (strOfNums y574)).bind fun t584 => ((read_Count.f k1 l3_0 l3_1 (strOfNums y574)).bind fun t587 => ((deaddropref7_Keys.f k1 l3_0 l3_1).bind fun t588 => ((deaddropref1_SameTexts.f k1 t577 t588).bind fun t591 => (if t591 = true then ((deaddropref7_Items.f k1 l3_0 l3_1 (strOfNums y574) 1).bind fun t592 => ((deaddropref1_SameTexts.f k1 t581 t592).bind fun t595 => (if t595 = true then ((deaddropref7_Items.f k1 l3_0 l3_1 (strOfNums y574) 2).bind fun t596 => ((deaddropref1_SameTexts.f k1 t584 t596).bind fun t599 => (if t599 = true then ((deaddropref7_Count.f k1 l3_0 l3_1 (strOfNums y574)).bind fun t600 => (if t587 = t600 then (if x10_1 = true then ((deaddroplaw10_awake.f k1).bind fun t601 => (some t601)) else (if (t581.length : Int) = 0 then (if (t584.length : Int) = 0 then (if t587 = 0 then ((deaddroplaw10_awake.f k1).bind fun t602 => (some t602)) else (none)) else (none)) else (none))) else (none))) else (none)))) else (none)))) else (none)))))) = some r := H
     have A18 := Aside0.mk A180
     clear A180
     replace H := Option.bind_eq_some_iff.mp H
     obtain ⟨t584, A190, H⟩ := H
     replace H : ((read_Count.f k1 l3_0 l3_1 (strOfNums y574)).bind fun t587 => ((deaddropref7_Keys.f k1 l3_0 l3_1).bind fun t588 => ((deaddropref1_SameTexts.f k1 t577 t588).bind fun t591 => (if t591 = true then ((deaddropref7_Items.f k1 l3_0 l3_1 (strOfNums y574) 1).bind fun t592 => ((deaddropref1_SameTexts.f k1 t581 t592).bind fun t595 => (if t595 = true then ((deaddropref7_Items.f k1 l3_0 l3_1 (strOfNums y574) 2).bind fun t596 => ((deaddropref1_SameTexts.f k1 t584 t596).bind fun t599 => (if t599 = true then ((deaddropref7_Count.f k1 l3_0 l3_1 (strOfNums y574)).bind fun t600 => (if t587 = t600 then (if x10_1 = true then ((deaddroplaw10_awake.f k1).bind fun t601 => (some t601)) else (if (t581.length : Int) = 0 then (if (t584.length : Int) = 0 then (if t587 = 0 then ((deaddroplaw10_awake.f k1).bind fun t602 => (some t602)) else (none)) else (none)) else (none))) else (none))) else (none)))) else (none)))) else (none))))) = some r := H
     have A19 := Aside0.mk A190
     clear A190
     replace H := Option.bind_eq_some_iff.mp H
     obtain ⟨t587, A200, H⟩ := H
     replace H : ((deaddropref7_Keys.f k1 l3_0 l3_1).bind fun t588 => ((deaddropref1_SameTexts.f k1 t577 t588).bind fun t591 => (if t591 = true then ((deaddropref7_Items.f k1 l3_0 l3_1 (strOfNums y574) 1).bind fun t592 => ((deaddropref1_SameTexts.f k1 t581 t592).bind fun t595 => (if t595 = true then ((deaddropref7_Items.f k1 l3_0 l3_1 (strOfNums y574) 2).bind fun t596 => ((deaddropref1_SameTexts.f k1 t584 t596).bind fun t599 => (if t599 = true then ((deaddropref7_Count.f k1 l3_0 l3_1 (strOfNums y574)).bind fun t600 => (if t587 = t600 then (if x10_1 = true then ((deaddroplaw10_awake.f k1).bind fun t601 => (some t601)) else (if (t581.length : Int) = 0 then (if (t584.length : Int) = 0 then (if t587 = 0 then ((deaddroplaw10_awake.f k1).bind fun t602 => (some t602)) else (none)) else (none)) else (none))) else (none))) else (none)))) else (none)))) else (none)))) = some r := H
     have A20 := Aside0.mk A200
     clear A200
     replace H := Option.bind_eq_some_iff.mp H
     obtain ⟨t588, A210, H⟩ := H
     replace H : ((deaddropref1_SameTexts.f k1 t577 t588).bind fun t591 => (if t591 = true then ((deaddropref7_Items.f k1 l3_0 l3_1 (strOfNums y574) 1).bind fun t592 => ((deaddropref1_SameTexts.f k1 t581 t592).bind fun t595 => (if t595 = true then ((deaddropref7_Items.f k1 l3_0 l3_1 (strOfNums y574) 2).bind fun t596 => ((deaddropref1_SameTexts.f k1 t584 t596).bind fun t599 => (if t599 = true then ((deaddropref7_Count.f k1 l3_0 l3_1 (strOfNums y574)).bind fun t600 => (if t587 = t600 then (if x10_1 = true then ((deaddroplaw10_awake.f k1).bind fun t601 => (some t601)) else (if (t581.length : Int) = 0 then (if (t584.length : Int) = 0 then (if t587 = 0 then ((deaddroplaw10_awake.f k1).bind fun t602 => (some t602)) else (none)) else (none)) else (none))) else (none))) else (none)))) else (none)))) else (none))) = some r := H
     have A21 := Aside0.mk A210
     clear A210
     replace H := Option.bind_eq_some_iff.mp H
     obtain ⟨t591, A220, H⟩ := H
     replace H : (if t591 = true then ((deaddropref7_Items.f k1 l3_0 l3_1 (strOfNums y574) 1).bind fun t592 => ((deaddropref1_SameTexts.f k1 t581 t592).bind fun t595 => (if t595 = true then ((deaddropref7_Items.f k1 l3_0 l3_1 (strOfNums y574) 2).bind fun t596 => ((deaddropref1_SameTexts.f k1 t584 t596).bind fun t599 => (if t599 = true then ((deaddropref7_Count.f k1 l3_0 l3_1 (strOfNums y574)).bind fun t600 => (if t587 = t600 then (if x10_1 = true then ((deaddroplaw10_awake.f k1).bind fun t601 => (some t601)) else (if (t581.length : Int) = 0 then (if (t584.length : Int) = 0 then (if t587 = 0 then ((deaddroplaw10_awake.f k1).bind fun t602 => (some t602)) else (none)) else (none)) else (none))) else (none))) else (none)))) else (none)))) else (none)) = some r := H
     have A22 := Aside0.mk A220
     clear A220
     by_cases c23 : t591 = true
     ·
      subst c23
      have H1 : ((deaddropref7_Items.f k1 l3_0 l3_1 (strOfNums y574) 1).bind fun t592 => ((deaddropref1_SameTexts.f k1 t581 t592).bind fun t595 => (if t595 = true then ((deaddropref7_Items.f k1 l3_0 l3_1 (strOfNums y574) 2).bind fun t596 => ((deaddropref1_SameTexts.f k1 t584 t596).bind fun t599 => (if t599 = true then ((deaddropref7_Count.f k1 l3_0 l3_1 (strOfNums y574)).bind fun t600 => (if t587 = t600 then (if x10_1 = true then ((deaddroplaw10_awake.f k1).bind fun t601 => (some t601)) else (if (t581.length : Int) = 0 then (if (t584.length : Int) = 0 then (if t587 = 0 then ((deaddroplaw10_awake.f k1).bind fun t602 => (some t602)) else (none)) else (none)) else (none))) else (none))) else (none)))) else (none)))) = some r := by rw [if_pos rfl] at H; exact H
      clear H
      have H := H1
      clear H1
      replace H := Option.bind_eq_some_iff.mp H
      obtain ⟨t592, A240, H⟩ := H
      replace H : ((deaddropref1_SameTexts.f k1 t581 t592).bind fun t595 => (if t595 = true then ((deaddropref7_Items.f k1 l3_0 l3_1 (strOfNums y574) 2).bind fun t596 => ((deaddropref1_SameTexts.f k1 t584 t596).bind fun t599 => (if t599 = true then ((deaddropref7_Count.f k1 l3_0 l3_1 (strOfNums y574)).bind fun t600 => (if t587 = t600 then (if x10_1 = true then ((deaddroplaw10_awake.f k1).bind fun t601 => (some t601)) else (if (t581.length : Int) = 0 then (if (t584.length : Int) = 0 then (if t587 = 0 then ((deaddroplaw10_awake.f k1).bind fun t602 => (some t602)) else (none)) else (none)) else (none))) else (none))) else (none)))) else (none))) = some r := H
      have A24 := Aside0.mk A240
      clear A240
      replace H := Option.bind_eq_some_iff.mp H
      obtain ⟨t595, A250, H⟩ := H
      replace H : (if t595 = true then ((deaddropref7_Items.f k1 l3_0 l3_1 (strOfNums y574) 2).bind fun t596 => ((deaddropref1_SameTexts.f k1 t584 t596).bind fun t599 => (if t599 = true then ((deaddropref7_Count.f k1 l3_0 l3_1 (strOfNums y574)).bind fun t600 => (if t587 = t600 then (if x10_1 = true then ((deaddroplaw10_awake.f k1).bind fun t601 => (some t601)) else (if (t581.length : Int) = 0 then (if (t584.length : Int) = 0 then (if t587 = 0 then ((deaddroplaw10_awake.f k1).bind fun t602 => (some t602)) else (none)) else (none)) else (none))) else (none))) else (none)))) else (none)) = some r := H
      have A25 := Aside0.mk A250
      clear A250
      by_cases c26 : t595 = true
      rotate_left
      ·
       replace c26 := Bool.eq_false_iff.mpr c26
       subst c26
       have H1 : (none) = some r := by rw [if_neg (show ¬ (false = true) by decide)] at H; exact H
       clear H
       have H := H1
       clear H1
       exact absurd H (by simp)
      subst c26
      have H1 : ((deaddropref7_Items.f k1 l3_0 l3_1 (strOfNums y574) 2).bind fun t596 => ((deaddropref1_SameTexts.f k1 t584 t596).bind fun t599 => (if t599 = true then ((deaddropref7_Count.f k1 l3_0 l3_1 (strOfNums y574)).bind fun t600 => (if t587 = t600 then (if x10_1 = true then ((deaddroplaw10_awake.f k1).bind fun t601 => (some t601)) else (if (t581.length : Int) = 0 then (if (t584.length : Int) = 0 then (if t587 = 0 then ((deaddroplaw10_awake.f k1).bind fun t602 => (some t602)) else (none)) else (none)) else (none))) else (none))) else (none)))) = some r := by rw [if_pos rfl] at H; exact H
      clear H
      have H := H1
      clear H1
      replace H := Option.bind_eq_some_iff.mp H
      obtain ⟨t596, A270, H⟩ := H
      replace H : ((deaddropref1_SameTexts.f k1 t584 t596).bind fun t599 => (if t599 = true then ((deaddropref7_Count.f k1 l3_0 l3_1 (strOfNums y574)).bind fun t600 => (if t587 = t600 then (if x10_1 = true then ((deaddroplaw10_awake.f k1).bind fun t601 => (some t601)) else (if (t581.length : Int) = 0 then (if (t584.length : Int) = 0 then (if t587 = 0 then ((deaddroplaw10_awake.f k1).bind fun t602 => (some t602)) else (none)) else (none)) else (none))) else (none))) else (none))) = some r := H
      have A27 := Aside0.mk A270
      clear A270
      replace H := Option.bind_eq_some_iff.mp H
      obtain ⟨t599, A280, H⟩ := H
      replace H : (if t599 = true then ((deaddropref7_Count.f k1 l3_0 l3_1 (strOfNums y574)).bind fun t600 => (if t587 = t600 then (if x10_1 = true then ((deaddroplaw10_awake.f k1).bind fun t601 => (some t601)) else (if (t581.length : Int) = 0 then (if (t584.length : Int) = 0 then (if t587 = 0 then ((deaddroplaw10_awake.f k1).bind fun t602 => (some t602)) else (none)) else (none)) else (none))) else (none))) else (none)) = some r := H
      have A28 := Aside0.mk A280
      clear A280
      by_cases c29 : t599 = true
      rotate_left
      ·
       replace c29 := Bool.eq_false_iff.mpr c29
       subst c29
       have H1 : (none) = some r := by rw [if_neg (show ¬ (false = true) by decide)] at H; exact H
       clear H
       have H := H1
       clear H1
       exact absurd H (by simp)
      subst c29
      have H1 : ((deaddropref7_Count.f k1 l3_0 l3_1 (strOfNums y574)).bind fun t600 => (if t587 = t600 then (if x10_1 = true then ((deaddroplaw10_awake.f k1).bind fun t601 => (some t601)) else (if (t581.length : Int) = 0 then (if (t584.length : Int) = 0 then (if t587 = 0 then ((deaddroplaw10_awake.f k1).bind fun t602 => (some t602)) else (none)) else (none)) else (none))) else (none))) = some r := by rw [if_pos rfl] at H; exact H
      clear H
      have H := H1
      clear H1
      replace H := Option.bind_eq_some_iff.mp H
      obtain ⟨t600, A300, H⟩ := H
      replace H : (if t587 = t600 then (if x10_1 = true then ((deaddroplaw10_awake.f k1).bind fun t601 => (some t601)) else (if (t581.length : Int) = 0 then (if (t584.length : Int) = 0 then (if t587 = 0 then ((deaddroplaw10_awake.f k1).bind fun t602 => (some t602)) else (none)) else (none)) else (none))) else (none)) = some r := H
      have A30 := Aside0.mk A300
      clear A300
      by_cases c31 : t587 = t600
      rotate_left
      ·
       rw [if_neg c31] at H
       exact absurd H (by simp)
      rw [if_pos c31] at H
      have c31b0 : (t587 == t600) = true := beq_iff_eq.mpr c31
      have c31b1 : (t587 != t600) = false := bne_eq_false_iff_eq.mpr c31
      clear c31
      by_cases c32 : x10_1 = true
      ·
       subst c32
       have H1 : ((deaddroplaw10_awake.f k1).bind fun t601 => (some t601)) = some r := by rw [if_pos rfl] at H; exact H
       clear H
       have H := H1
       clear H1
       replace H := Option.bind_eq_some_iff.mp H
       obtain ⟨t601, A330, H⟩ := H
       replace H : (some t601) = some r := H
       have A33 := Aside0.mk A330
       clear A330
       obtain rfl := Option.some.inj H
       obtain ⟨Ao34, co34, eo34⟩ := Kd.R_slice HO_9.out
       subst eo34
       try go_wp2
       replace HO_9 := Aside0.mk (Kd.R_drew HO_9.out)
       replace BK573 := Aside0.mk (blk_drew BK573.out)
       replace HB := Aside0.mk (below_drew1 HB.out)
       refine start_ (n := 12) (S := fun w' => w'.cell? ⟨gb573, 0, none⟩ = some (.slice A3_0 l3_0.length c3_0) ∧ w'.cell? ⟨gb573, 1, none⟩ = some (.slice A3_1 l3_1.length c3_1)) (ds := []) (fl 0 12) (by kernel_rfl) rfl rfl ⟨(blk_cell BK573.out 0).trans rfl, (blk_cell BK573.out 1).trans rfl⟩ (fun hHeld => ?_); refine with_tabW deaddroplaw10_ReadMadeBody.tab11 deaddroplaw10_ReadMadeBody.bits11 (fun HT_ HW_ => ?_)
       generalize wr.drew = w35 at HO_9 BK573 HB hHeld ⊢
       refine pure_ (i := 1) (N := some 50) #[false, true, false, false, false, false, false, false, false, false, false, false] rfl rfl (any_of HT_.out (by kernel_rfl)) (fun _ _ _ h => h) (Or.inl ⟨by rfl, py⟩) pa ?_
       refine pure_ (i := 4) (N := some 53) #[false, true, false, false, true, false, false, false, false, false, false, false] rfl rfl (any_of HT_.out (by kernel_rfl)) (fun _ _ _ h => h) (Or.inl ⟨by rfl, py⟩) pa ?_
       refine pure_ (i := 7) (N := some 56) #[false, true, false, false, true, false, false, true, false, false, false, false] rfl rfl (any_of HT_.out (by kernel_rfl)) (fun _ _ _ h => h) (Or.inl ⟨by rfl, py⟩) pa ?_
       refine take_ (i := 0) (N := some 49) #[true, true, false, false, true, false, false, true, false, false, false, false] rfl rfl (take_ofW HT_.out HW_.out (by kernel_rfl)) (fun _ _ _ h => h) (Or.inl ⟨by rfl, tk⟩) hHeld pa ?_
       refine take_ (i := 3) (N := some 52) #[true, true, false, true, true, false, false, true, false, false, false, false] rfl rfl (take_ofW HT_.out HW_.out (by kernel_rfl)) (fun _ _ _ h => h) (Or.inl ⟨by rfl, tk⟩) hHeld pa ?_
       refine take_ (i := 6) (N := some 55) #[true, true, false, true, true, false, true, true, false, false, false, false] rfl rfl (take_ofW HT_.out HW_.out (by kernel_rfl)) (fun _ _ _ h => h) (Or.inl ⟨by rfl, tk⟩) hHeld pa ?_
       refine one_ (i := 2) (N := some 51) #[true, true, true, true, true, false, true, true, false, false, false, false] rfl rfl (one_of HT_.out (by kernel_rfl)) (by decide) (fun K hK => ?_)
       refine goes_ Try.func14 (by kernel_rfl) rfl #[.agg #[.slice A3_0 l3_0.length c3_0, .slice A3_1 l3_1.length c3_1], .string (strOfNums y574)] (by rfl) rfl rfl ar_ ?_
       with_reducible refine (read_Texts.calls k1 _ _ l3_0 _ _ l3_1 (strOfNums y574) t581 _ ?side1 ?side2 ?side3 ?side4 A18.out).mono ?_
       (case side1 => exact cr (Kd.C_below HR3_0.out HB.out))
       (case side2 => exact HC3_0.out)
       (case side3 => exact cr (Kd.C_below HR3_1.out HB.out))
       (case side4 => exact HC3_1.out)
       rintro e w36 ⟨v582, rfl, ho0, hb⟩
       refine ⟨_, rfl, ?_⟩
       have HO583 := Aside0.mk (Kd.R_lower (Kd.R_new' ho0 (Kd.R_lt (rk HO_9.out))) (below_size (bw HB.out)))
       replace HO_9 := Aside0.mk (Kd.R_elder' (rk HO_9.out) (Kd.R_base ho0) hb)
       replace BK573 := Aside0.mk (bkb BK573.out hb)
       replace HB := Aside0.mk (below_step (bw HB.out) hb)
       (try clear hb)
       (try clear hb2)
       (try clear hk)
       (try clear hi)
       (try clear ho0)
       refine hK.out _ _ ⟨(blk_cell BK573.out 0).trans rfl, (blk_cell BK573.out 1).trans rfl⟩ (fun hHeld => ?_)
       clear hK K
       refine norm_ (a' := ?_) ?_ ?_
       rotate_left
       ·
        show Act.put _ (some 51) _ = _
        simp only [Act.put, List.setIfInBounds_toArray, List.set_cons_zero, List.set_cons_succ, i64_w, i32_w]
        rfl
       refine one_ (i := 5) (N := some 54) (fl 8 12) rfl rfl (one_of HT_.out (by kernel_rfl)) (by decide) (fun K hK => ?_)
       refine goes_ Try.func16 (by kernel_rfl) rfl #[.agg #[.slice A3_0 l3_0.length c3_0, .slice A3_1 l3_1.length c3_1], .string (strOfNums y574)] (by rfl) rfl rfl ar_ ?_
       with_reducible refine (read_Members.calls k1 _ _ l3_0 _ _ l3_1 (strOfNums y574) t584 _ ?side1 ?side2 ?side3 ?side4 A19.out).mono ?_
       (case side1 => exact cr (Kd.C_below HR3_0.out HB.out))
       (case side2 => exact HC3_0.out)
       (case side3 => exact cr (Kd.C_below HR3_1.out HB.out))
       (case side4 => exact HC3_1.out)
       rintro e w37 ⟨v585, rfl, ho0, hb⟩
       refine ⟨_, rfl, ?_⟩
       have HO586 := Aside0.mk (Kd.R_lower (Kd.R_new' (Kd.R_new' ho0 (Kd.R_lt (rk HO_9.out))) (Kd.R_lt (rk HO583.out))) (below_size (bw HB.out)))
       replace HO_9 := Aside0.mk (Kd.R_elder' (rk HO_9.out) (Kd.R_base ho0) hb)
       replace HO583 := Aside0.mk (Kd.R_elder' (rk HO583.out) (Kd.R_base ho0) hb)
       replace BK573 := Aside0.mk (bkb BK573.out hb)
       replace HB := Aside0.mk (below_step (bw HB.out) hb)
       (try clear hb)
       (try clear hb2)
       (try clear hk)
       (try clear hi)
       (try clear ho0)
       refine hK.out _ _ ⟨(blk_cell BK573.out 0).trans rfl, (blk_cell BK573.out 1).trans rfl⟩ (fun hHeld => ?_)
       clear hK K
       refine norm_ (a' := ?_) ?_ ?_
       rotate_left
       ·
        show Act.put _ (some 54) _ = _
        simp only [Act.put, List.setIfInBounds_toArray, List.set_cons_zero, List.set_cons_succ, i64_w, i32_w]
        rfl
       refine one_ (i := 8) (N := some 57) (fl 9 12) rfl rfl (one_of HT_.out (by kernel_rfl)) (by decide) (fun K hK => ?_)
       refine goes_ Try.func10 (by kernel_rfl) rfl #[.agg #[.slice A3_0 l3_0.length c3_0, .slice A3_1 l3_1.length c3_1], .string (strOfNums y574)] (by rfl) rfl rfl ar_ ?_
       with_reducible refine (read_Count.calls k1 _ _ l3_0 _ _ l3_1 (strOfNums y574) t587 _ ?side1 ?side2 ?side3 ?side4 A20.out).mono ?_
       (case side1 => exact cr (Kd.C_below HR3_0.out HB.out))
       (case side2 => exact HC3_0.out)
       (case side3 => exact cr (Kd.C_below HR3_1.out HB.out))
       (case side4 => exact HC3_1.out)
       rintro e w38 ⟨rfl, hb⟩
       refine ⟨_, rfl, ?_⟩
       replace HO_9 := Aside0.mk (Kd.R_below (rk HO_9.out) hb)
       replace HO583 := Aside0.mk (Kd.R_below (rk HO583.out) hb)
       replace HO586 := Aside0.mk (Kd.R_below (rk HO586.out) hb)
       replace BK573 := Aside0.mk (bkb BK573.out hb)
       replace HB := Aside0.mk (below_step (bw HB.out) hb)
       (try clear hb)
       (try clear hb2)
       (try clear hk)
       (try clear hi)
       refine hK.out _ _ ⟨(blk_cell BK573.out 0).trans rfl, (blk_cell BK573.out 1).trans rfl⟩ (fun hHeld => ?_)
       clear hK K
       refine norm_ (a' := ?_) ?_ ?_
       rotate_left
       ·
        show Act.put _ (some 57) _ = _
        simp only [Act.put, List.setIfInBounds_toArray, List.set_cons_zero, List.set_cons_succ, i64_w, i32_w]
        rfl
       refine pure_ (i := 9) (N := some 12) (fl 10 12) rfl rfl (any_of HT_.out (by kernel_rfl)) (fun _ _ _ h => h) (Or.inl ⟨by rfl, py⟩) pa ?_
       refine pure_ (i := 10) (N := some 13) (fl 11 12) rfl rfl (any_of HT_.out (by kernel_rfl)) (fun _ _ _ h => h) (Or.inl ⟨by rfl, py⟩) pa ?_
       refine pure_ (i := 11) (N := some 14) (fl 12 12) rfl rfl (any_of HT_.out (by kernel_rfl)) (fun _ _ _ h => h) (Or.inl ⟨by rfl, py⟩) pa ?_
       refine done_ (done_of HT_.out (by kernel_rfl)) ?_
       obtain ⟨hcz39_0, hcz39_1⟩ := bx2 BK573.out
       obtain ⟨hfz39_0, hfz39_1⟩ := bf2 BK573.out
       try go_wp2_with (first | ((with_reducible refine gate_callee (f := 20) rfl ?_); refine goesL_ (some 60) rfl rfl Try.func20 (by kernel_rfl) rfl #[.agg #[.slice A3_0 l3_0.length c3_0, .slice A3_1 l3_1.length c3_1]] rfl ar_ ?_; (with_reducible refine (deaddropref7_Keys.calls k1 _ _ l3_0 _ _ l3_1 t588 _ ?side1 ?side2 ?side3 ?side4 A21.out).mono ?_); (case side1 => exact cr (Kd.C_below HR3_0.out HB.out)); (case side2 => exact HC3_0.out); (case side3 => exact cr (Kd.C_below HR3_1.out HB.out)); (case side4 => exact HC3_1.out); rintro e w40 ⟨v589, rfl, ho0, hb⟩; refine ⟨_, rfl, ?_⟩; have HO590 := Aside0.mk (Kd.R_lower (Kd.R_new' (Kd.R_new' (Kd.R_new' ho0 (Kd.R_lt (rk HO_9.out))) (Kd.R_lt (rk HO583.out))) (Kd.R_lt (rk HO586.out))) (below_size (bw HB.out))); replace HO_9 := Aside0.mk (Kd.R_elder' (rk HO_9.out) (Kd.R_base ho0) hb); replace HO583 := Aside0.mk (Kd.R_elder' (rk HO583.out) (Kd.R_base ho0) hb); replace HO586 := Aside0.mk (Kd.R_elder' (rk HO586.out) (Kd.R_base ho0) hb); replace BK573 := Aside0.mk (bkb BK573.out hb); replace HB := Aside0.mk (below_step (bw HB.out) hb); (try clear hb); (try clear hb2); (try clear hk); (try clear hi); (try clear ho0); obtain ⟨Ao41, co41, eo41⟩ := Kd.R_slice HO590.out; subst eo41) | ((with_reducible refine gate_callee (f := 15) rfl ?_); refine goesL_ (some 61) rfl rfl Try.func15 (by kernel_rfl) rfl #[.slice Ao34 t577.length co34, .slice Ao41 t588.length co41] rfl ar_ ?_; (with_reducible refine (deaddropref1_SameTexts.calls k1 _ _ t577 _ _ t588 true _ ?side1 ?side2 ?side3 ?side4 A22.out).mono ?_); (case side1 => exact cr (Kd.R_reads' HO_9.out).2.2); (case side2 => exact (Kd.R_reads' HO_9.out).2.1); (case side3 => exact cr (Kd.R_reads' HO590.out).2.2); (case side4 => exact (Kd.R_reads' HO590.out).2.1); rintro e w' ⟨rfl, ⟨nd, rfl⟩⟩; refine ⟨_, rfl, ?_⟩; obtain ⟨hcz42_0, hcz42_1⟩ := bx2 BK573.out; obtain ⟨hfz42_0, hfz42_1⟩ := bf2 BK573.out) | (go_at_call 21; (with_reducible refine (deaddropref7_Items.calls k1 _ _ l3_0 _ _ l3_1 (strOfNums y574) 1 t592 _ ?side1 ?side2 ?side3 ?side4 A24.out).mono ?_); (case side1 => repeat (first | exact (Kd.C_below HR3_0.out (bw HB.out)) | (with_reducible refine Kd.C_alloc ?_ _) | (with_reducible refine Kd.C_drewN ?_ _) | (with_reducible refine Kd.C_drew ?_))); (case side2 => exact HC3_0.out); (case side3 => repeat (first | exact (Kd.C_below HR3_1.out (bw HB.out)) | (with_reducible refine Kd.C_alloc ?_ _) | (with_reducible refine Kd.C_drewN ?_ _) | (with_reducible refine Kd.C_drew ?_))); (case side4 => exact HC3_1.out); rintro e w43 ⟨v593, rfl, ho0, hb⟩; have HO594 := Aside0.mk (Kd.R_lower (Kd.R_new' (Kd.R_new' (Kd.R_new' (Kd.R_new' ho0 (Kd.R_lt (rk HO_9.out))) (Kd.R_lt (rk HO583.out))) (Kd.R_lt (rk HO586.out))) (Kd.R_lt (rk HO590.out))) (below_size (bw HB.out))); replace HO_9 := Aside0.mk (Kd.R_elder' (rk HO_9.out) (Kd.R_base ho0) hb); replace HO583 := Aside0.mk (Kd.R_elder' (rk HO583.out) (Kd.R_base ho0) hb); replace HO586 := Aside0.mk (Kd.R_elder' (rk HO586.out) (Kd.R_base ho0) hb); replace HO590 := Aside0.mk (Kd.R_elder' (rk HO590.out) (Kd.R_base ho0) hb); replace BK573 := Aside0.mk (bkb BK573.out hb); replace HB := Aside0.mk (below_step (bw HB.out) hb); (try clear hb); (try clear hb2); (try clear hk); (try clear hi); (try clear ho0); obtain ⟨Ao44, co44, eo44⟩ := Kd.R_slice HO583.out; subst eo44; obtain ⟨Ao45, co45, eo45⟩ := Kd.R_slice HO594.out; subst eo45) | (go_at_call 15; (with_reducible refine (deaddropref1_SameTexts.calls k1 _ _ t581 _ _ t592 true _ ?side1 ?side2 ?side3 ?side4 A25.out).mono ?_); (case side1 => exact cr (Kd.R_reads' HO583.out).2.2); (case side2 => exact (Kd.R_reads' HO583.out).2.1); (case side3 => exact cr (Kd.R_reads' HO594.out).2.2); (case side4 => exact (Kd.R_reads' HO594.out).2.1); rintro e w' ⟨rfl, ⟨nd, rfl⟩⟩; obtain ⟨hcz46_0, hcz46_1⟩ := bx2 BK573.out; obtain ⟨hfz46_0, hfz46_1⟩ := bf2 BK573.out) | (go_at_call 21; (with_reducible refine (deaddropref7_Items.calls k1 _ _ l3_0 _ _ l3_1 (strOfNums y574) 2 t596 _ ?side1 ?side2 ?side3 ?side4 A27.out).mono ?_); (case side1 => repeat (first | exact (Kd.C_below HR3_0.out (bw HB.out)) | (with_reducible refine Kd.C_alloc ?_ _) | (with_reducible refine Kd.C_drewN ?_ _) | (with_reducible refine Kd.C_drew ?_))); (case side2 => exact HC3_0.out); (case side3 => repeat (first | exact (Kd.C_below HR3_1.out (bw HB.out)) | (with_reducible refine Kd.C_alloc ?_ _) | (with_reducible refine Kd.C_drewN ?_ _) | (with_reducible refine Kd.C_drew ?_))); (case side4 => exact HC3_1.out); rintro e w47 ⟨v597, rfl, ho0, hb⟩; have HO598 := Aside0.mk (Kd.R_lower (Kd.R_new' (Kd.R_new' (Kd.R_new' (Kd.R_new' (Kd.R_new' ho0 (Kd.R_lt (rk HO_9.out))) (Kd.R_lt (rk HO583.out))) (Kd.R_lt (rk HO586.out))) (Kd.R_lt (rk HO590.out))) (Kd.R_lt (rk HO594.out))) (below_size (bw HB.out))); replace HO_9 := Aside0.mk (Kd.R_elder' (rk HO_9.out) (Kd.R_base ho0) hb); replace HO583 := Aside0.mk (Kd.R_elder' (rk HO583.out) (Kd.R_base ho0) hb); replace HO586 := Aside0.mk (Kd.R_elder' (rk HO586.out) (Kd.R_base ho0) hb); replace HO590 := Aside0.mk (Kd.R_elder' (rk HO590.out) (Kd.R_base ho0) hb); replace HO594 := Aside0.mk (Kd.R_elder' (rk HO594.out) (Kd.R_base ho0) hb); replace BK573 := Aside0.mk (bkb BK573.out hb); replace HB := Aside0.mk (below_step (bw HB.out) hb); (try clear hb); (try clear hb2); (try clear hk); (try clear hi); (try clear ho0); obtain ⟨Ao48, co48, eo48⟩ := Kd.R_slice HO586.out; subst eo48; obtain ⟨Ao49, co49, eo49⟩ := Kd.R_slice HO598.out; subst eo49) | (go_at_call 15; (with_reducible refine (deaddropref1_SameTexts.calls k1 _ _ t584 _ _ t596 true _ ?side1 ?side2 ?side3 ?side4 A28.out).mono ?_); (case side1 => exact cr (Kd.R_reads' HO586.out).2.2); (case side2 => exact (Kd.R_reads' HO586.out).2.1); (case side3 => exact cr (Kd.R_reads' HO598.out).2.2); (case side4 => exact (Kd.R_reads' HO598.out).2.1); rintro e w' ⟨rfl, ⟨nd, rfl⟩⟩; obtain ⟨hcz50_0, hcz50_1⟩ := bx2 BK573.out; obtain ⟨hfz50_0, hfz50_1⟩ := bf2 BK573.out) | (go_at_call 22; (with_reducible refine (deaddropref7_Count.calls k1 _ _ l3_0 _ _ l3_1 (strOfNums y574) t600 _ ?side1 ?side2 ?side3 ?side4 A30.out).mono ?_); (case side1 => repeat (first | exact (Kd.C_below HR3_0.out (bw HB.out)) | (with_reducible refine Kd.C_alloc ?_ _) | (with_reducible refine Kd.C_drewN ?_ _) | (with_reducible refine Kd.C_drew ?_))); (case side2 => exact HC3_0.out); (case side3 => repeat (first | exact (Kd.C_below HR3_1.out (bw HB.out)) | (with_reducible refine Kd.C_alloc ?_ _) | (with_reducible refine Kd.C_drewN ?_ _) | (with_reducible refine Kd.C_drew ?_))); (case side4 => exact HC3_1.out); rintro e w51 ⟨rfl, hb⟩; replace HO_9 := Aside0.mk (Kd.R_below (rk HO_9.out) hb); replace HO583 := Aside0.mk (Kd.R_below (rk HO583.out) hb); replace HO586 := Aside0.mk (Kd.R_below (rk HO586.out) hb); replace HO590 := Aside0.mk (Kd.R_below (rk HO590.out) hb); replace HO594 := Aside0.mk (Kd.R_below (rk HO594.out) hb); replace HO598 := Aside0.mk (Kd.R_below (rk HO598.out) hb); replace BK573 := Aside0.mk (bkb BK573.out hb); replace HB := Aside0.mk (below_step (bw HB.out) hb); (try clear hb); (try clear hb2); (try clear hk); (try clear hi)) | (go_at_call 11; (with_reducible refine (deaddroplaw10_awake.calls k1  t601 _ A33.out).mono ?_); rintro e w52 ⟨rfl, hb⟩; replace HO_9 := Aside0.mk (Kd.R_below (rk HO_9.out) hb); replace HO583 := Aside0.mk (Kd.R_below (rk HO583.out) hb); replace HO586 := Aside0.mk (Kd.R_below (rk HO586.out) hb); replace HO590 := Aside0.mk (Kd.R_below (rk HO590.out) hb); replace HO594 := Aside0.mk (Kd.R_below (rk HO594.out) hb); replace HO598 := Aside0.mk (Kd.R_below (rk HO598.out) hb); replace BK573 := Aside0.mk (bkb BK573.out hb); replace HB := Aside0.mk (below_step (bw HB.out) hb); (try clear hb); (try clear hb2); (try clear hk); (try clear hi)))
       go_ret
       exact ⟨by first | rfl | (simp [errW_none, errW_some] <;> rfl) | (simp [*, errW_none, errW_some] <;> rfl), below_step HB0.out (bw HB.out)⟩
      ·
       replace c32 := Bool.eq_false_iff.mpr c32
       subst c32
       have H1 : (if (t581.length : Int) = 0 then (if (t584.length : Int) = 0 then (if t587 = 0 then ((deaddroplaw10_awake.f k1).bind fun t602 => (some t602)) else (none)) else (none)) else (none)) = some r := by rw [if_neg (show ¬ (false = true) by decide)] at H; exact H
       clear H
       have H := H1
       clear H1
       by_cases c53 : (t581.length : Int) = 0
       rotate_left
       ·
        rw [if_neg c53] at H
        exact absurd H (by simp)
       rw [if_pos c53] at H
       have c53b0 : ((t581.length : Int) == 0) = true := beq_iff_eq.mpr c53
       have c53b1 : ((t581.length : Int) != 0) = false := bne_eq_false_iff_eq.mpr c53
       clear c53
       by_cases c54 : (t584.length : Int) = 0
       rotate_left
       ·
        rw [if_neg c54] at H
        exact absurd H (by simp)
       rw [if_pos c54] at H
       have c54b0 : ((t584.length : Int) == 0) = true := beq_iff_eq.mpr c54
       have c54b1 : ((t584.length : Int) != 0) = false := bne_eq_false_iff_eq.mpr c54
       clear c54
       by_cases c55 : t587 = 0
       rotate_left
       ·
        rw [if_neg c55] at H
        exact absurd H (by simp)
       rw [if_pos c55] at H
       have c55b0 : (t587 == 0) = true := beq_iff_eq.mpr c55
       have c55b1 : (t587 != 0) = false := bne_eq_false_iff_eq.mpr c55
       clear c55
       replace H := Option.bind_eq_some_iff.mp H
       obtain ⟨t602, A560, H⟩ := H
       replace H : (some t602) = some r := H
       have A56 := Aside0.mk A560
       clear A560
       obtain rfl := Option.some.inj H
       obtain ⟨Ao57, co57, eo57⟩ := Kd.R_slice HO_9.out
       subst eo57
       try go_wp2
       replace HO_9 := Aside0.mk (Kd.R_drew HO_9.out)
       replace BK573 := Aside0.mk (blk_drew BK573.out)
       replace HB := Aside0.mk (below_drew1 HB.out)
       refine start_ (n := 12) (S := fun w' => w'.cell? ⟨gb573, 0, none⟩ = some (.slice A3_0 l3_0.length c3_0) ∧ w'.cell? ⟨gb573, 1, none⟩ = some (.slice A3_1 l3_1.length c3_1)) (ds := []) (fl 0 12) (by kernel_rfl) rfl rfl ⟨(blk_cell BK573.out 0).trans rfl, (blk_cell BK573.out 1).trans rfl⟩ (fun hHeld => ?_); refine with_tabW deaddroplaw10_ReadMadeBody.tab11 deaddroplaw10_ReadMadeBody.bits11 (fun HT_ HW_ => ?_)
       generalize wr.drew = w58 at HO_9 BK573 HB hHeld ⊢
       refine pure_ (i := 1) (N := some 50) #[false, true, false, false, false, false, false, false, false, false, false, false] rfl rfl (any_of HT_.out (by kernel_rfl)) (fun _ _ _ h => h) (Or.inl ⟨by rfl, py⟩) pa ?_
       refine pure_ (i := 4) (N := some 53) #[false, true, false, false, true, false, false, false, false, false, false, false] rfl rfl (any_of HT_.out (by kernel_rfl)) (fun _ _ _ h => h) (Or.inl ⟨by rfl, py⟩) pa ?_
       refine pure_ (i := 7) (N := some 56) #[false, true, false, false, true, false, false, true, false, false, false, false] rfl rfl (any_of HT_.out (by kernel_rfl)) (fun _ _ _ h => h) (Or.inl ⟨by rfl, py⟩) pa ?_
       refine take_ (i := 0) (N := some 49) #[true, true, false, false, true, false, false, true, false, false, false, false] rfl rfl (take_ofW HT_.out HW_.out (by kernel_rfl)) (fun _ _ _ h => h) (Or.inl ⟨by rfl, tk⟩) hHeld pa ?_
       refine take_ (i := 3) (N := some 52) #[true, true, false, true, true, false, false, true, false, false, false, false] rfl rfl (take_ofW HT_.out HW_.out (by kernel_rfl)) (fun _ _ _ h => h) (Or.inl ⟨by rfl, tk⟩) hHeld pa ?_
       refine take_ (i := 6) (N := some 55) #[true, true, false, true, true, false, true, true, false, false, false, false] rfl rfl (take_ofW HT_.out HW_.out (by kernel_rfl)) (fun _ _ _ h => h) (Or.inl ⟨by rfl, tk⟩) hHeld pa ?_
       refine one_ (i := 2) (N := some 51) #[true, true, true, true, true, false, true, true, false, false, false, false] rfl rfl (one_of HT_.out (by kernel_rfl)) (by decide) (fun K hK => ?_)
       refine goes_ Try.func14 (by kernel_rfl) rfl #[.agg #[.slice A3_0 l3_0.length c3_0, .slice A3_1 l3_1.length c3_1], .string (strOfNums y574)] (by rfl) rfl rfl ar_ ?_
       with_reducible refine (read_Texts.calls k1 _ _ l3_0 _ _ l3_1 (strOfNums y574) t581 _ ?side1 ?side2 ?side3 ?side4 A18.out).mono ?_
       (case side1 => exact cr (Kd.C_below HR3_0.out HB.out))
       (case side2 => exact HC3_0.out)
       (case side3 => exact cr (Kd.C_below HR3_1.out HB.out))
       (case side4 => exact HC3_1.out)
       rintro e w59 ⟨v582, rfl, ho0, hb⟩
       refine ⟨_, rfl, ?_⟩
       have HO583 := Aside0.mk (Kd.R_lower (Kd.R_new' ho0 (Kd.R_lt (rk HO_9.out))) (below_size (bw HB.out)))
       replace HO_9 := Aside0.mk (Kd.R_elder' (rk HO_9.out) (Kd.R_base ho0) hb)
       replace BK573 := Aside0.mk (bkb BK573.out hb)
       replace HB := Aside0.mk (below_step (bw HB.out) hb)
       (try clear hb)
       (try clear hb2)
       (try clear hk)
       (try clear hi)
       (try clear ho0)
       refine hK.out _ _ ⟨(blk_cell BK573.out 0).trans rfl, (blk_cell BK573.out 1).trans rfl⟩ (fun hHeld => ?_)
       clear hK K
       refine norm_ (a' := ?_) ?_ ?_
       rotate_left
       ·
        show Act.put _ (some 51) _ = _
        simp only [Act.put, List.setIfInBounds_toArray, List.set_cons_zero, List.set_cons_succ, i64_w, i32_w]
        rfl
       refine one_ (i := 5) (N := some 54) (fl 8 12) rfl rfl (one_of HT_.out (by kernel_rfl)) (by decide) (fun K hK => ?_)
       refine goes_ Try.func16 (by kernel_rfl) rfl #[.agg #[.slice A3_0 l3_0.length c3_0, .slice A3_1 l3_1.length c3_1], .string (strOfNums y574)] (by rfl) rfl rfl ar_ ?_
       with_reducible refine (read_Members.calls k1 _ _ l3_0 _ _ l3_1 (strOfNums y574) t584 _ ?side1 ?side2 ?side3 ?side4 A19.out).mono ?_
       (case side1 => exact cr (Kd.C_below HR3_0.out HB.out))
       (case side2 => exact HC3_0.out)
       (case side3 => exact cr (Kd.C_below HR3_1.out HB.out))
       (case side4 => exact HC3_1.out)
       rintro e w60 ⟨v585, rfl, ho0, hb⟩
       refine ⟨_, rfl, ?_⟩
       have HO586 := Aside0.mk (Kd.R_lower (Kd.R_new' (Kd.R_new' ho0 (Kd.R_lt (rk HO_9.out))) (Kd.R_lt (rk HO583.out))) (below_size (bw HB.out)))
       replace HO_9 := Aside0.mk (Kd.R_elder' (rk HO_9.out) (Kd.R_base ho0) hb)
       replace HO583 := Aside0.mk (Kd.R_elder' (rk HO583.out) (Kd.R_base ho0) hb)
       replace BK573 := Aside0.mk (bkb BK573.out hb)
       replace HB := Aside0.mk (below_step (bw HB.out) hb)
       (try clear hb)
       (try clear hb2)
       (try clear hk)
       (try clear hi)
       (try clear ho0)
       refine hK.out _ _ ⟨(blk_cell BK573.out 0).trans rfl, (blk_cell BK573.out 1).trans rfl⟩ (fun hHeld => ?_)
       clear hK K
       refine norm_ (a' := ?_) ?_ ?_
       rotate_left
       ·
        show Act.put _ (some 54) _ = _
        simp only [Act.put, List.setIfInBounds_toArray, List.set_cons_zero, List.set_cons_succ, i64_w, i32_w]
        rfl
       refine one_ (i := 8) (N := some 57) (fl 9 12) rfl rfl (one_of HT_.out (by kernel_rfl)) (by decide) (fun K hK => ?_)
       refine goes_ Try.func10 (by kernel_rfl) rfl #[.agg #[.slice A3_0 l3_0.length c3_0, .slice A3_1 l3_1.length c3_1], .string (strOfNums y574)] (by rfl) rfl rfl ar_ ?_
       with_reducible refine (read_Count.calls k1 _ _ l3_0 _ _ l3_1 (strOfNums y574) t587 _ ?side1 ?side2 ?side3 ?side4 A20.out).mono ?_
       (case side1 => exact cr (Kd.C_below HR3_0.out HB.out))
       (case side2 => exact HC3_0.out)
       (case side3 => exact cr (Kd.C_below HR3_1.out HB.out))
       (case side4 => exact HC3_1.out)
       rintro e w61 ⟨rfl, hb⟩
       refine ⟨_, rfl, ?_⟩
       replace HO_9 := Aside0.mk (Kd.R_below (rk HO_9.out) hb)
       replace HO583 := Aside0.mk (Kd.R_below (rk HO583.out) hb)
       replace HO586 := Aside0.mk (Kd.R_below (rk HO586.out) hb)
       replace BK573 := Aside0.mk (bkb BK573.out hb)
       replace HB := Aside0.mk (below_step (bw HB.out) hb)
       (try clear hb)
       (try clear hb2)
       (try clear hk)
       (try clear hi)
       refine hK.out _ _ ⟨(blk_cell BK573.out 0).trans rfl, (blk_cell BK573.out 1).trans rfl⟩ (fun hHeld => ?_)
       clear hK K
       refine norm_ (a' := ?_) ?_ ?_
       rotate_left
       ·
        show Act.put _ (some 57) _ = _
        simp only [Act.put, List.setIfInBounds_toArray, List.set_cons_zero, List.set_cons_succ, i64_w, i32_w]
        rfl
       refine pure_ (i := 9) (N := some 12) (fl 10 12) rfl rfl (any_of HT_.out (by kernel_rfl)) (fun _ _ _ h => h) (Or.inl ⟨by rfl, py⟩) pa ?_
       refine pure_ (i := 10) (N := some 13) (fl 11 12) rfl rfl (any_of HT_.out (by kernel_rfl)) (fun _ _ _ h => h) (Or.inl ⟨by rfl, py⟩) pa ?_
       refine pure_ (i := 11) (N := some 14) (fl 12 12) rfl rfl (any_of HT_.out (by kernel_rfl)) (fun _ _ _ h => h) (Or.inl ⟨by rfl, py⟩) pa ?_
       refine done_ (done_of HT_.out (by kernel_rfl)) ?_
       obtain ⟨hcz62_0, hcz62_1⟩ := bx2 BK573.out
       obtain ⟨hfz62_0, hfz62_1⟩ := bf2 BK573.out
       try go_wp2_with (first | ((with_reducible refine gate_callee (f := 20) rfl ?_); refine goesL_ (some 60) rfl rfl Try.func20 (by kernel_rfl) rfl #[.agg #[.slice A3_0 l3_0.length c3_0, .slice A3_1 l3_1.length c3_1]] rfl ar_ ?_; (with_reducible refine (deaddropref7_Keys.calls k1 _ _ l3_0 _ _ l3_1 t588 _ ?side1 ?side2 ?side3 ?side4 A21.out).mono ?_); (case side1 => exact cr (Kd.C_below HR3_0.out HB.out)); (case side2 => exact HC3_0.out); (case side3 => exact cr (Kd.C_below HR3_1.out HB.out)); (case side4 => exact HC3_1.out); rintro e w63 ⟨v589, rfl, ho0, hb⟩; refine ⟨_, rfl, ?_⟩; have HO590 := Aside0.mk (Kd.R_lower (Kd.R_new' (Kd.R_new' (Kd.R_new' ho0 (Kd.R_lt (rk HO_9.out))) (Kd.R_lt (rk HO583.out))) (Kd.R_lt (rk HO586.out))) (below_size (bw HB.out))); replace HO_9 := Aside0.mk (Kd.R_elder' (rk HO_9.out) (Kd.R_base ho0) hb); replace HO583 := Aside0.mk (Kd.R_elder' (rk HO583.out) (Kd.R_base ho0) hb); replace HO586 := Aside0.mk (Kd.R_elder' (rk HO586.out) (Kd.R_base ho0) hb); replace BK573 := Aside0.mk (bkb BK573.out hb); replace HB := Aside0.mk (below_step (bw HB.out) hb); (try clear hb); (try clear hb2); (try clear hk); (try clear hi); (try clear ho0); obtain ⟨Ao64, co64, eo64⟩ := Kd.R_slice HO590.out; subst eo64) | ((with_reducible refine gate_callee (f := 15) rfl ?_); refine goesL_ (some 61) rfl rfl Try.func15 (by kernel_rfl) rfl #[.slice Ao57 t577.length co57, .slice Ao64 t588.length co64] rfl ar_ ?_; (with_reducible refine (deaddropref1_SameTexts.calls k1 _ _ t577 _ _ t588 true _ ?side1 ?side2 ?side3 ?side4 A22.out).mono ?_); (case side1 => exact cr (Kd.R_reads' HO_9.out).2.2); (case side2 => exact (Kd.R_reads' HO_9.out).2.1); (case side3 => exact cr (Kd.R_reads' HO590.out).2.2); (case side4 => exact (Kd.R_reads' HO590.out).2.1); rintro e w' ⟨rfl, ⟨nd, rfl⟩⟩; refine ⟨_, rfl, ?_⟩; obtain ⟨hcz65_0, hcz65_1⟩ := bx2 BK573.out; obtain ⟨hfz65_0, hfz65_1⟩ := bf2 BK573.out) | (go_at_call 21; (with_reducible refine (deaddropref7_Items.calls k1 _ _ l3_0 _ _ l3_1 (strOfNums y574) 1 t592 _ ?side1 ?side2 ?side3 ?side4 A24.out).mono ?_); (case side1 => repeat (first | exact (Kd.C_below HR3_0.out (bw HB.out)) | (with_reducible refine Kd.C_alloc ?_ _) | (with_reducible refine Kd.C_drewN ?_ _) | (with_reducible refine Kd.C_drew ?_))); (case side2 => exact HC3_0.out); (case side3 => repeat (first | exact (Kd.C_below HR3_1.out (bw HB.out)) | (with_reducible refine Kd.C_alloc ?_ _) | (with_reducible refine Kd.C_drewN ?_ _) | (with_reducible refine Kd.C_drew ?_))); (case side4 => exact HC3_1.out); rintro e w66 ⟨v593, rfl, ho0, hb⟩; have HO594 := Aside0.mk (Kd.R_lower (Kd.R_new' (Kd.R_new' (Kd.R_new' (Kd.R_new' ho0 (Kd.R_lt (rk HO_9.out))) (Kd.R_lt (rk HO583.out))) (Kd.R_lt (rk HO586.out))) (Kd.R_lt (rk HO590.out))) (below_size (bw HB.out))); replace HO_9 := Aside0.mk (Kd.R_elder' (rk HO_9.out) (Kd.R_base ho0) hb); replace HO583 := Aside0.mk (Kd.R_elder' (rk HO583.out) (Kd.R_base ho0) hb); replace HO586 := Aside0.mk (Kd.R_elder' (rk HO586.out) (Kd.R_base ho0) hb); replace HO590 := Aside0.mk (Kd.R_elder' (rk HO590.out) (Kd.R_base ho0) hb); replace BK573 := Aside0.mk (bkb BK573.out hb); replace HB := Aside0.mk (below_step (bw HB.out) hb); (try clear hb); (try clear hb2); (try clear hk); (try clear hi); (try clear ho0); obtain ⟨Ao67, co67, eo67⟩ := Kd.R_slice HO583.out; subst eo67; obtain ⟨Ao68, co68, eo68⟩ := Kd.R_slice HO594.out; subst eo68) | (go_at_call 15; (with_reducible refine (deaddropref1_SameTexts.calls k1 _ _ t581 _ _ t592 true _ ?side1 ?side2 ?side3 ?side4 A25.out).mono ?_); (case side1 => exact cr (Kd.R_reads' HO583.out).2.2); (case side2 => exact (Kd.R_reads' HO583.out).2.1); (case side3 => exact cr (Kd.R_reads' HO594.out).2.2); (case side4 => exact (Kd.R_reads' HO594.out).2.1); rintro e w' ⟨rfl, ⟨nd, rfl⟩⟩; obtain ⟨hcz69_0, hcz69_1⟩ := bx2 BK573.out; obtain ⟨hfz69_0, hfz69_1⟩ := bf2 BK573.out) | (go_at_call 21; (with_reducible refine (deaddropref7_Items.calls k1 _ _ l3_0 _ _ l3_1 (strOfNums y574) 2 t596 _ ?side1 ?side2 ?side3 ?side4 A27.out).mono ?_); (case side1 => repeat (first | exact (Kd.C_below HR3_0.out (bw HB.out)) | (with_reducible refine Kd.C_alloc ?_ _) | (with_reducible refine Kd.C_drewN ?_ _) | (with_reducible refine Kd.C_drew ?_))); (case side2 => exact HC3_0.out); (case side3 => repeat (first | exact (Kd.C_below HR3_1.out (bw HB.out)) | (with_reducible refine Kd.C_alloc ?_ _) | (with_reducible refine Kd.C_drewN ?_ _) | (with_reducible refine Kd.C_drew ?_))); (case side4 => exact HC3_1.out); rintro e w70 ⟨v597, rfl, ho0, hb⟩; have HO598 := Aside0.mk (Kd.R_lower (Kd.R_new' (Kd.R_new' (Kd.R_new' (Kd.R_new' (Kd.R_new' ho0 (Kd.R_lt (rk HO_9.out))) (Kd.R_lt (rk HO583.out))) (Kd.R_lt (rk HO586.out))) (Kd.R_lt (rk HO590.out))) (Kd.R_lt (rk HO594.out))) (below_size (bw HB.out))); replace HO_9 := Aside0.mk (Kd.R_elder' (rk HO_9.out) (Kd.R_base ho0) hb); replace HO583 := Aside0.mk (Kd.R_elder' (rk HO583.out) (Kd.R_base ho0) hb); replace HO586 := Aside0.mk (Kd.R_elder' (rk HO586.out) (Kd.R_base ho0) hb); replace HO590 := Aside0.mk (Kd.R_elder' (rk HO590.out) (Kd.R_base ho0) hb); replace HO594 := Aside0.mk (Kd.R_elder' (rk HO594.out) (Kd.R_base ho0) hb); replace BK573 := Aside0.mk (bkb BK573.out hb); replace HB := Aside0.mk (below_step (bw HB.out) hb); (try clear hb); (try clear hb2); (try clear hk); (try clear hi); (try clear ho0); obtain ⟨Ao71, co71, eo71⟩ := Kd.R_slice HO586.out; subst eo71; obtain ⟨Ao72, co72, eo72⟩ := Kd.R_slice HO598.out; subst eo72) | (go_at_call 15; (with_reducible refine (deaddropref1_SameTexts.calls k1 _ _ t584 _ _ t596 true _ ?side1 ?side2 ?side3 ?side4 A28.out).mono ?_); (case side1 => exact cr (Kd.R_reads' HO586.out).2.2); (case side2 => exact (Kd.R_reads' HO586.out).2.1); (case side3 => exact cr (Kd.R_reads' HO598.out).2.2); (case side4 => exact (Kd.R_reads' HO598.out).2.1); rintro e w' ⟨rfl, ⟨nd, rfl⟩⟩; obtain ⟨hcz73_0, hcz73_1⟩ := bx2 BK573.out; obtain ⟨hfz73_0, hfz73_1⟩ := bf2 BK573.out) | (go_at_call 22; (with_reducible refine (deaddropref7_Count.calls k1 _ _ l3_0 _ _ l3_1 (strOfNums y574) t600 _ ?side1 ?side2 ?side3 ?side4 A30.out).mono ?_); (case side1 => repeat (first | exact (Kd.C_below HR3_0.out (bw HB.out)) | (with_reducible refine Kd.C_alloc ?_ _) | (with_reducible refine Kd.C_drewN ?_ _) | (with_reducible refine Kd.C_drew ?_))); (case side2 => exact HC3_0.out); (case side3 => repeat (first | exact (Kd.C_below HR3_1.out (bw HB.out)) | (with_reducible refine Kd.C_alloc ?_ _) | (with_reducible refine Kd.C_drewN ?_ _) | (with_reducible refine Kd.C_drew ?_))); (case side4 => exact HC3_1.out); rintro e w74 ⟨rfl, hb⟩; replace HO_9 := Aside0.mk (Kd.R_below (rk HO_9.out) hb); replace HO583 := Aside0.mk (Kd.R_below (rk HO583.out) hb); replace HO586 := Aside0.mk (Kd.R_below (rk HO586.out) hb); replace HO590 := Aside0.mk (Kd.R_below (rk HO590.out) hb); replace HO594 := Aside0.mk (Kd.R_below (rk HO594.out) hb); replace HO598 := Aside0.mk (Kd.R_below (rk HO598.out) hb); replace BK573 := Aside0.mk (bkb BK573.out hb); replace HB := Aside0.mk (below_step (bw HB.out) hb); (try clear hb); (try clear hb2); (try clear hk); (try clear hi)) | (go_at_call 11; (with_reducible refine (deaddroplaw10_awake.calls k1  t602 _ A56.out).mono ?_); rintro e w75 ⟨rfl, hb⟩; replace HO_9 := Aside0.mk (Kd.R_below (rk HO_9.out) hb); replace HO583 := Aside0.mk (Kd.R_below (rk HO583.out) hb); replace HO586 := Aside0.mk (Kd.R_below (rk HO586.out) hb); replace HO590 := Aside0.mk (Kd.R_below (rk HO590.out) hb); replace HO594 := Aside0.mk (Kd.R_below (rk HO594.out) hb); replace HO598 := Aside0.mk (Kd.R_below (rk HO598.out) hb); replace BK573 := Aside0.mk (bkb BK573.out hb); replace HB := Aside0.mk (below_step (bw HB.out) hb); (try clear hb); (try clear hb2); (try clear hk); (try clear hi)))
       go_ret
       exact ⟨by first | rfl | (simp [errW_none, errW_some] <;> rfl) | (simp [*, errW_none, errW_some] <;> rfl), below_step HB0.out (bw HB.out)⟩
     ·
      replace c23 := Bool.eq_false_iff.mpr c23
      subst c23
      have H1 : (none) = some r := by rw [if_neg (show ¬ (false = true) by decide)] at H; exact H
      clear H
      have H := H1
      clear H1
      exact absurd H (by simp)

/-- THE ONE PURE STATEMENT of deaddroplaw10_ReadMade: yours. -/
def deaddroplaw10_ReadMade.Pure : Prop := ∀ (l0 : List Int) (a1 : Int) (a2 : Int), l0.length ≤ maxLen → l0.length * 1 ≤ 140737488351232 → (∀ x ∈ l0, (Lit.int .u8 x).wf = true) → (Lit.int .u8 a1).wf = true → (Lit.int .u8 a2).wf = true → ∃ k, deaddroplaw10_ReadMade.f k l0 a1 a2 = some true
theorem deaddroplaw10_ReadMade.walk (P : deaddroplaw10_ReadMade.Pure) (a0 : Option Addr) (len0 cap0 : Nat) (z0 : List Int) (a1 : Int) (a2 : Int) (w : World) (w0 : (a0 = none ∧ len0 = 0 ∧ cap0 = 0 ∧ z0 = []) ∨ ∃ x, a0 = some x ∧ len0 ≤ cap0 ∧ cap0 ≤ maxLen ∧ z0.length = cap0 ∧ (∀ i, i < z0.length → w.cell? (x.add i) = some (.int .u8 (z0.getD i 0))) ∧ ∀ n ∈ z0, (Lit.int .u8 n).wf = true) (y0 : len0 * 1 ≤ 140737488351232) (w1 : (Lit.int .u8 a1).wf = true) (w2 : (Lit.int .u8 a2).wf = true) :
 Calls Try.prog 6 #[.slice a0 len0 cap0, .int .u8 a1, .int .u8 a2] w fun e w' => e = .returned (.bool true) ∧ Below w.heap.size w w' := by
 obtain ⟨l0, rfl, hr0, hm0, hw0, hc0⟩ := ReadsInt.ofRowC w0
 obtain ⟨k, h⟩ := P l0 a1 a2 hm0 y0 hw0 w1 w2
 refine (deaddroplaw10_ReadMade.calls k _ _ l0 a1 a2 true w (Kd.C_of_reads (d := (0 : Int)) (h1 := fun _ => rfl) hr0) hc0 h).mono ?_
 rintro e w' ⟨rfl, hd⟩
 exact ⟨rfl, hd⟩

end Go.Proofs.Ytaonemedoikieaa.M
