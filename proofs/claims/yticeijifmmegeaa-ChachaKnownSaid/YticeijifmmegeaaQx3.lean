-- Written by a program of this work (wip/tools/mkprint.py) over the kit's print; Lean checks it.
import Derived.Test.YticeijifmmegeaaQx0
import Derived.Test.YticeijifmmegeaaQx1
namespace Go.Proofs.Yticeijifmmegeaa.Q
open Go.RowKit Go.Proofs.YticeijifmmegeaaW.PrintWords Go.Proofs.YticeijifmmegeaaW.PrintLast Go.Proofs.YticeijifmmegeaaW.PrintMore
attribute [local go_sem] max2_int min2_int max_two min_two max_three min_three max_four min_four   -- for this text's walks alone
set_option linter.unusedVariables false
set_option linter.unusedSimpArgs false

/-! ### chacha_Xor: function 13 -/
def cc_xb (key nonce : ByteArray) (ctr : Int) (l : List Int) (j : Nat) : Int := Go.bits .xor .u8 (rd l (j : Int)) (rd (cc_block key nonce (ctr + ((j / 64 : Nat) : Int))) ((j % 64 : Nat) : Int))
def cc_xo (key nonce : ByteArray) (ctr : Int) (l : List Int) (m : Nat) : List Int := (List.range m).foldl (fun o j => o.set j (cc_xb key nonce ctr l j)) (List.replicate l.length 0)
theorem cc_xo_succ (key nonce : ByteArray) (ctr : Int) (l : List Int) (m : Nat) : cc_xo key nonce ctr l (m + 1) = (cc_xo key nonce ctr l m).set m (cc_xb key nonce ctr l m) := by
  simp [cc_xo, List.range_succ]
theorem cc_xo_length (key nonce : ByteArray) (ctr : Int) (l : List Int) (m : Nat) : (cc_xo key nonce ctr l m).length = l.length := by
  induction m with
  | zero => simp [cc_xo]
  | succ m ih => rw [cc_xo_succ, List.length_set, ih]
theorem cc_xb_at (key nonce : ByteArray) (ctr : Int) (l : List Int) (n i : Nat) (hi : i < 64) : cc_xb key nonce ctr l (64 * n + i) = Go.bits .xor .u8 (rd l ((64 * n + i : Nat) : Int)) (rd (cc_block key nonce (ctr + (n : Int))) (i : Int)) := by
  have e1 : (64 * n + i) / 64 = n := by omega
  have e2 : (64 * n + i) % 64 = i := by omega
  unfold cc_xb
  rw [e1, e2]
/-- How many blocks. -/
def cc_many (l : List Int) : Int := ((l.length : Int) + 63) / 64
def chacha_Xor.f (a0 : ByteArray) (a1 : ByteArray) (a2 : Int) (l3 : List Int) : Option (List Int) :=
  if l3.length < 1000000000 then (some (if l3.length ≠ 0 ∧ (a0.size = 32 ∧ a1.size = 12 ∧ 0 ≤ a2 ∧ a2 < 4294967296) ∧ a2 + cc_many l3 ≤ 4294967296 then cc_xo a0 a1 a2 l3 l3.length else [])) else none
/-- The memory while bytes are turned. -/
structure cc_X (w W : World) (v : Value) (o : List Int) : Prop where
  out : Kd.R (Kd.int .u8) 5 W w.heap.size (fun _ => True) v o
  bel : Below w.heap.size w W
theorem cc_X.below {w W W1 : World} {v : Value} {o : List Int} (h : cc_X w W v o) (hb : Below W.heap.size W W1) : cc_X w W1 v o := ⟨Kd.R_below h.out hb, below_then h.bel h.bel.size hb⟩
theorem cc_X_row {w W : World} {v : Value} {o : List Int} {g : Nat} {old : Array Value} (h : cc_X w W v o) (hb : W.heap[g]? = some (.cells old 37 (0, 0))) (hg : w.heap.size ≤ g) (cs : Array Value) : cc_X w (W.setRow g cs) v o := by
  have hne := Kd.R_ne h.out hb (by decide)
  refine ⟨Kd.R_mono (Kd.R_move (cc_own h.out) (fun k hk => setRow_other _ _ _ _ (fun e => hne (by rw [← hk, e])))) (fun _ _ => trivial), Go.below_setRow h.bel hg _⟩
set_option maxHeartbeats 2000000 in
set_option maxRecDepth 100000 in
theorem cc_xor (a0 : ByteArray) (a1 : ByteArray) (a2 : Int) (A3 : Option Addr) (c3 : Nat) (l3 : List Int) (w : World) (hr3 : Kd.C (Kd.int .u8) w A3 l3.length l3) (_hc3 : l3.length ≤ c3) (hl : l3.length < 1000000000) (hl0 : 0 < l3.length)
    (hm : a0.size = 32 ∧ a1.size = 12 ∧ 0 ≤ a2 ∧ a2 < 4294967296) (hx : a2 + cc_many l3 ≤ 4294967296) :
    Calls Try.prog 13 #[.string a0, .string a1, .int .i64 a2, .slice A3 l3.length c3] w fun e w' => ∃ v0_ : Value, e = .returned (v0_) ∧ Kd.R (Kd.int .u8) 5 w' w.heap.size (fun _ => True) v0_ (cc_xo a0 a1 a2 l3 l3.length) ∧ Below w.heap.size w w' := by
  have hmy := cc_may_yes a0 a1 a2 hm
  have HM := Aside0.mk hm
  obtain ⟨m, hmm⟩ : ∃ m : Nat, cc_many l3 = (m : Int) := ⟨(cc_many l3).toNat, by unfold cc_many; omega⟩
  rw [hmm] at hx
  have hm1 : ((l3.length : Int) + 63) / 64 = (m : Int) := hmm
  have HMM := Aside0.mk hm1
  have hmp : 0 < m := by omega
  have a20 := hm.2.2.1
  have a21 := hm.2.2.2
  clear hm hmm
  have HR3 := Aside0.mk hr3
  clear hr3
  have q1 : Int.tdiv ((l3.length : Int) + 63) 64 = (m : Int) := by rw [Int.tdiv_eq_ediv_of_nonneg (by omega)]; exact hm1
  have q2 : Int.tdiv ((l3.length : Int) + 64 - 1) 64 = (m : Int) := by rw [show (l3.length : Int) + 64 - 1 = (l3.length : Int) + 63 by omega]; exact q1
  have q3 : ((m : Int) == 0) = false := by simp; omega
  have q4 : decide (a2 > 4294967296 - (m : Int)) = false := decide_eq_false (by omega)
  go_enter Try.func13, Try.ntmps13
  go_wp2_with (first | (go_at_call 16; (with_reducible refine (chacha_may.calls a0 a1 a2 _ _ hmy).mono ?_); rintro e w1 ⟨rfl, ⟨nd, rfl⟩⟩) | ((with_reducible refine gate_dst (N := 37) rfl ?_); refine Kd.R_make (Kd.int .u8) _ 5 rfl (N := 37) rfl 25 _ _ rfl (l3.length : Int) rfl rfl Try.underlying25 (.int .u8 0) 1 info5 rfl (by decide) (by omega) 0 (ok := fun _ => True) (okp := fun _ => True) rfl (fun _ hk => hk) trivial (by omega) (by rw [Int.toNat_natCast]; omega) (Below.refl _ _) (Nat.le_refl _) ?_; intro v5 w5 ho5 hb5 hg5 hnew5; clear hg5 hnew5; have HO5 := Aside0.mk ho5; have HB5 := Aside0.mk hb5; clear ho5 hb5))
  have hbd : Below w.heap.size w (w.drewN nd) := pw_below_drewN (Below.refl _ _) _
  have HX : Aside0 (cc_X w w5 v5 (cc_xo a0 a1 a2 l3 0)) := ⟨⟨by rw [show cc_xo a0 a1 a2 l3 0 = List.replicate ((l3.length : Int)).toNat 0 by rw [Int.toNat_natCast]; rfl]; exact HO5.out, below_then hbd (Nat.le_refl _) HB5.out⟩⟩
  obtain ⟨q, co, hv, _, _, _⟩ := Kd.R_form HX.out.out (by rw [cc_xo_length]; exact hl0)
  rw [cc_xo_length] at hv
  subst hv
  clear HO5 HB5 hbd
  go_loopw [39] (fun v wr => ∃ (i : Int) (n : Nat), v = .int .i64 i ∧ Aside0 (i = (n : Int)) ∧ Aside0 (n ≤ m) ∧ Aside0 (cc_X w wr (.slice (some ⟨q, 0, none⟩) l3.length co) (cc_xo a0 a1 a2 l3 (min (64 * n) l3.length)))) (fun v _ => m - (intOf v).toNat)
  case atStart => exact ⟨0, 0, rfl, ⟨rfl⟩, ⟨by omega⟩, HX⟩
  case round =>
    clear HX
    obtain ⟨i, n, rfl, HI, HK, HW⟩ := hrel
    by_cases hlt : n < m
    · obtain rfl := HI.out
      clear HI
      have hbm : decide ((n : Int) < (m : Int)) = true := decide_eq_true (by omega)
      have hbl := cc_block_length a0 a1 (a2 + (n : Int))
      have hbc := chacha_block.calls a0 a1 (a2 + (n : Int))
      have hxb : ∀ i : Nat, i < 64 → cc_xb a0 a1 a2 l3 (64 * n + i) = Go.bits .xor .u8 (rd l3 ((64 * n + i : Nat) : Int)) (rd (cc_block a0 a1 (a2 + (n : Int))) (i : Int)) := fun i hi => cc_xb_at a0 a1 a2 l3 n i hi
      generalize cc_block a0 a1 (a2 + (n : Int)) = bl at hbl hbc hxb
      have HXB := Aside0.mk hxb
      clear hxb
      have hall8 : (nums .u8 bl).toArray.all (·.oneCell') = true := by simp [nums, Value.oneCell']
      have hln8 : (nums .u8 bl).toArray.size = 64 := by simp [nums, hbl]
      have HA := Aside0.mk hall8
      clear hall8
      have hsm : (64 * n : Int) < l3.length := by have := HMM.out; omega
      have hmin : min (64 * n) l3.length = 64 * n := by omega
      rw [hmin] at HW
      clear hmin
      by_cases hfull : 64 * (n + 1) ≤ l3.length
      · have hf1 : (64 : Int) ≤ (l3.length : Int) - (n : Int) * 64 := by omega
        go_wp2_with (first | ((with_reducible refine gate_callee (f := 17) rfl ?_); refine goesL_ (some 47) rfl rfl Try.func17 (by kernel_rfl) rfl #[.string a0, .string a1, .int .i64 (a2 + (n : Int))] rfl (by (try simp only [List.map_toArray, List.map_cons, List.map_nil]); first | done | rfl) ?_; (with_reducible refine (hbc _ HM.out.1 HM.out.2.1 (by omega)).mono ?_); rintro e w2 ⟨rfl, hb2⟩; refine ⟨_, rfl, ?_⟩; have HW2 := Aside0.mk (HW.out.below hb2)) | ((with_reducible refine gate_dst (N := 12) rfl ?_); refine box_event ?hg (N := 12) ?hd (cs := (nums .u8 (List.replicate 64 0)).toArray) (t := 37) ?hr ?_; (case hd => rfl); (case hg => rfl); (case hr => first | (go_simp; done) | (go_simp; rfl)); intro g3 hg3 w3 hbox hb3; have HG3 := Aside0.mk hg3; have HW3 := Aside0.mk (HW2.out.below hb3); clear hg3) | (refine wpList_store_row rfl 37 (.tmp 12) (.tmp 47) rfl g3 (nums .u8 bl).toArray (by simp [Act.eval, Act.put]) (by simp [Act.eval, Act.put]) 37 _ hbox (by rw [cc_info37, hln8]) (by rw [hln8]; rfl) HA.out ?_; have h9 := setRow_heap _ _ _ (nums .u8 bl).toArray _ _ hbox; have hx9 : cc_X w (w3.setRow g3 (nums .u8 bl).toArray) (.slice (some ⟨q, 0, none⟩) l3.length co) (cc_xo a0 a1 a2 l3 (64 * n)) := cc_X_row HW3.out hbox (by rw [HG3.out]; exact HW2.out.bel.size) _; generalize w3.setRow g3 (nums .u8 bl).toArray = w4 at h9 hx9 ⊢; have HB9 := Aside0.mk h9; have HX9 := Aside0.mk hx9; clear h9 hx9 hbox hb2 hb3 HW2 HW3 HG3))
        go_loopw [55] (fun v wr => ∃ (i : Int) (k : Nat), v = .int .i64 i ∧ Aside0 (i = (k : Int)) ∧ Aside0 (k ≤ 64) ∧ Aside0 (wr.heap[g3]? = some (.cells (nums .u8 bl).toArray 37 (0, 0))) ∧ Aside0 (cc_X w wr (.slice (some ⟨q, 0, none⟩) l3.length co) (cc_xo a0 a1 a2 l3 (64 * n + k)))) (fun v _ => 64 - (intOf v).toNat)
        case atStart => exact ⟨0, 0, rfl, ⟨rfl⟩, ⟨by omega⟩, HB9, HX9⟩
        case round =>
          clear HB9 HX9
          obtain ⟨i, k, rfl, HI, HK1, HB, HW⟩ := hrel
          by_cases hlt1 : k < 64
          · obtain rfl := HI.out
            clear HI
            have hk64 : k < 64 := by omega
            have hkl : 64 * n + k < l3.length := by omega
            have hdk : decide ((k : Int) < 64) = true := decide_eq_true (by omega)
            obtain ⟨hcx, _⟩ := cc_cell8 HB.out k (by omega)
            have e1 : ((n : Int) * 64 + (k : Int)).toNat = n * 64 + k := by omega
            have b0 : (0 : Int) ≤ (n : Int) * 64 + (k : Int) := by omega
            have b1 : (n : Int) * 64 + (k : Int) < (l3.length : Int) := by omega
            obtain ⟨ad, ead, hcb⟩ := Kd.at_int (Kd.C_below HR3.out HW.out.bel) ((n : Int) * 64 + (k : Int)) b0 b1
            cases ead
            obtain ⟨hco, hfo⟩ := Kd.R_celln 0 HW.out.out ((n : Int) * 64 + (k : Int)) b0 b1
            rw [e1] at hcb hco hfo
            have E1 := Aside0.mk e1
            clear e1
            go_wp2
            go_region
            go_wp2
            have em : 64 * n + k = n * 64 + k := by omega
            have hne := Kd.R_ne HW.out.out HB.out (by decide)
            have hput := Kd.R_putn HW.out.out ((n : Int) * 64 + (k : Int)) (Go.bits .xor .u8 (rd l3 ((n : Int) * 64 + (k : Int))) (rd bl (k : Int)))
            rw [E1.out] at hput
            refine ⟨⟨(k : Int) + 1, k + 1, rfl, ⟨by omega⟩, ⟨by omega⟩, ⟨blk_drew (blk_far HB.out (fun e => hne (by show some g3 = some q; rw [e])) _)⟩, ⟨⟨?_, below_drew1 (HW.out.bel.setCell (Kd.R_base HW.out.out q rfl) _)⟩⟩⟩, by simp [intOf]; omega⟩
            rw [show 64 * n + (k + 1) = (64 * n + k) + 1 from rfl, cc_xo_succ, HXB.out k hk64, em, show ((n * 64 + k : Nat) : Int) = (n : Int) * 64 + (k : Int) by omega]
            rw [em] at hput
            exact Kd.R_drew hput
          · obtain rfl : k = 64 := by have := HK1.out; omega
            obtain rfl : i = 64 := by have := HI.out; omega
            clear HI
            clear hlt1 HK1
            go_wp2
            go_roundw
            case rel => exact ⟨(n : Int) + 1, n + 1, by first | rfl | go_num, ⟨by omega⟩, ⟨by omega⟩, ⟨by rw [show min (64 * (n + 1)) l3.length = 64 * n + 64 by omega]; exact HW.out⟩⟩
            case measure => simp [intOf]; omega
      · have hf1 : (l3.length : Int) - (n : Int) * 64 < 64 := by omega
        go_wp2_with (first | ((with_reducible refine gate_callee (f := 17) rfl ?_); refine goesL_ (some 47) rfl rfl Try.func17 (by kernel_rfl) rfl #[.string a0, .string a1, .int .i64 (a2 + (n : Int))] rfl (by (try simp only [List.map_toArray, List.map_cons, List.map_nil]); first | done | rfl) ?_; (with_reducible refine (hbc _ HM.out.1 HM.out.2.1 (by omega)).mono ?_); rintro e w2 ⟨rfl, hb2⟩; refine ⟨_, rfl, ?_⟩; have HW2 := Aside0.mk (HW.out.below hb2)) | ((with_reducible refine gate_dst (N := 12) rfl ?_); refine box_event ?hg (N := 12) ?hd (cs := (nums .u8 (List.replicate 64 0)).toArray) (t := 37) ?hr ?_; (case hd => rfl); (case hg => rfl); (case hr => first | (go_simp; done) | (go_simp; rfl)); intro g3 hg3 w3 hbox hb3; have HG3 := Aside0.mk hg3; have HW3 := Aside0.mk (HW2.out.below hb3); clear hg3) | (refine wpList_store_row rfl 37 (.tmp 12) (.tmp 47) rfl g3 (nums .u8 bl).toArray (by simp [Act.eval, Act.put]) (by simp [Act.eval, Act.put]) 37 _ hbox (by rw [cc_info37, hln8]) (by rw [hln8]; rfl) HA.out ?_; have h9 := setRow_heap _ _ _ (nums .u8 bl).toArray _ _ hbox; have hx9 : cc_X w (w3.setRow g3 (nums .u8 bl).toArray) (.slice (some ⟨q, 0, none⟩) l3.length co) (cc_xo a0 a1 a2 l3 (64 * n)) := cc_X_row HW3.out hbox (by rw [HG3.out]; exact HW2.out.bel.size) _; generalize w3.setRow g3 (nums .u8 bl).toArray = w4 at h9 hx9 ⊢; have HB9 := Aside0.mk h9; have HX9 := Aside0.mk hx9; clear h9 hx9 hbox hb2 hb3 HW2 HW3 HG3))
        go_loopw [55] (fun v wr => ∃ (i : Int) (k : Nat), v = .int .i64 i ∧ Aside0 (i = (k : Int)) ∧ Aside0 (k ≤ (l3.length - 64 * n)) ∧ Aside0 (wr.heap[g3]? = some (.cells (nums .u8 bl).toArray 37 (0, 0))) ∧ Aside0 (cc_X w wr (.slice (some ⟨q, 0, none⟩) l3.length co) (cc_xo a0 a1 a2 l3 (64 * n + k)))) (fun v _ => (l3.length - 64 * n) - (intOf v).toNat)
        case atStart => exact ⟨0, 0, rfl, ⟨rfl⟩, ⟨by omega⟩, HB9, HX9⟩
        case round =>
          clear HB9 HX9
          obtain ⟨i, k, rfl, HI, HK1, HB, HW⟩ := hrel
          by_cases hlt1 : k < (l3.length - 64 * n)
          · obtain rfl := HI.out
            clear HI
            have hk64 : k < 64 := by omega
            have hkl : 64 * n + k < l3.length := by omega
            have hdk : decide ((k : Int) < ((l3.length : Int) - (n : Int) * 64)) = true := decide_eq_true (by omega)
            obtain ⟨hcx, _⟩ := cc_cell8 HB.out k (by omega)
            have e1 : ((n : Int) * 64 + (k : Int)).toNat = n * 64 + k := by omega
            have b0 : (0 : Int) ≤ (n : Int) * 64 + (k : Int) := by omega
            have b1 : (n : Int) * 64 + (k : Int) < (l3.length : Int) := by omega
            obtain ⟨ad, ead, hcb⟩ := Kd.at_int (Kd.C_below HR3.out HW.out.bel) ((n : Int) * 64 + (k : Int)) b0 b1
            cases ead
            obtain ⟨hco, hfo⟩ := Kd.R_celln 0 HW.out.out ((n : Int) * 64 + (k : Int)) b0 b1
            rw [e1] at hcb hco hfo
            have E1 := Aside0.mk e1
            clear e1
            go_wp2
            go_region
            go_wp2
            have em : 64 * n + k = n * 64 + k := by omega
            have hne := Kd.R_ne HW.out.out HB.out (by decide)
            have hput := Kd.R_putn HW.out.out ((n : Int) * 64 + (k : Int)) (Go.bits .xor .u8 (rd l3 ((n : Int) * 64 + (k : Int))) (rd bl (k : Int)))
            rw [E1.out] at hput
            refine ⟨⟨(k : Int) + 1, k + 1, rfl, ⟨by omega⟩, ⟨by omega⟩, ⟨blk_drew (blk_far HB.out (fun e => hne (by show some g3 = some q; rw [e])) _)⟩, ⟨⟨?_, below_drew1 (HW.out.bel.setCell (Kd.R_base HW.out.out q rfl) _)⟩⟩⟩, by simp [intOf]; omega⟩
            rw [show 64 * n + (k + 1) = (64 * n + k) + 1 from rfl, cc_xo_succ, HXB.out k hk64, em, show ((n * 64 + k : Nat) : Int) = (n : Int) * 64 + (k : Int) by omega]
            rw [em] at hput
            exact Kd.R_drew hput
          · obtain rfl : k = (l3.length - 64 * n) := by have := HK1.out; omega
            obtain rfl : i = ((l3.length : Int) - (n : Int) * 64) := by have := HI.out; omega
            clear HI
            clear hlt1 HK1
            go_wp2
            go_roundw
            case rel => exact ⟨(n : Int) + 1, n + 1, by first | rfl | go_num, ⟨by omega⟩, ⟨by omega⟩, ⟨by rw [show min (64 * (n + 1)) l3.length = 64 * n + (l3.length - 64 * n) by omega]; exact HW.out⟩⟩
            case measure => simp [intOf]; omega
    · obtain rfl : n = m := by have := HK.out; omega
      obtain rfl : i = (n : Int) := HI.out
      clear HI
      clear hlt HK
      go_wp2
      go_ret
      rw [show min (64 * n) l3.length = l3.length by have := HMM.out; omega] at HW
      exact ⟨_, rfl, HW.out.out, HW.out.bel⟩
set_option maxHeartbeats 1000000 in
set_option maxRecDepth 100000 in
theorem chacha_Xor.calls (a0 : ByteArray) (a1 : ByteArray) (a2 : Int) (A3 : Option Addr) (c3 : Nat) (l3 : List Int) (r : List Int) (w : World) (hr3 : Kd.C (Kd.int .u8) w A3 l3.length l3) (hc3 : l3.length ≤ c3) (h : chacha_Xor.f a0 a1 a2 l3 = some r) :
    Calls Try.prog 13 #[.string a0, .string a1, .int .i64 a2, .slice A3 l3.length c3] w fun e w' => ∃ v0_ : Value, e = .returned (v0_) ∧ Kd.R (Kd.int .u8) 5 w' w.heap.size (fun _ => True) v0_ r ∧ Below w.heap.size w w' := by
  unfold chacha_Xor.f at h
  by_cases hl : l3.length < 1000000000
  · rw [if_pos hl] at h
    obtain rfl := Option.some.inj h
    clear h
    have hnil : ∀ W : World, Kd.R (Kd.int .u8) 5 W w.heap.size (fun _ => True) (.slice none 0 0) ([] : List Int) := fun W => Kd.R_of_own (own_nil _ _ _ _) (fun _ _ => trivial)
    have HN := Aside0.mk hnil
    clear hnil
    by_cases h0 : l3.length = 0
    · rw [if_neg (fun x => x.1 h0)]
      have q1 : Int.tdiv ((l3.length : Int) + 64 - 1) 64 = 0 := by rw [h0]; rfl
      clear hr3 hc3
      go_enter Try.func13, Try.ntmps13
      go_wp2
      go_ret
      exact ⟨_, rfl, HN.out _, Below.refl _ _⟩
    · have q1 : Int.tdiv ((l3.length : Int) + 64 - 1) 64 = cc_many l3 := by unfold cc_many; rw [Int.tdiv_eq_ediv_of_nonneg (by omega)]; congr 1; omega
      have hmp : 1 ≤ cc_many l3 ∧ cc_many l3 < 1000000000 := by unfold cc_many; omega
      by_cases hm : a0.size = 32 ∧ a1.size = 12 ∧ 0 ≤ a2 ∧ a2 < 4294967296
      · by_cases hx : a2 + cc_many l3 ≤ 4294967296
        · rw [if_pos ⟨h0, hm, hx⟩]
          exact cc_xor a0 a1 a2 A3 c3 l3 w hr3 hc3 hl (by omega) hm hx
        · rw [if_neg (fun x => hx x.2.2)]
          have hmy := cc_may_yes a0 a1 a2 hm
          generalize cc_many l3 = m at q1 hmp hx
          have q3 : (m == 0) = false := by simp; omega
          have q4 : decide (a2 > 4294967296 - m) = true := decide_eq_true (by omega)
          have a20 := hm.2.2.1
          have a21 := hm.2.2.2
          clear hr3 hc3 hm
          go_enter Try.func13, Try.ntmps13
          go_wp2_with (first | (go_at_call 16; (with_reducible refine (chacha_may.calls a0 a1 a2 _ _ hmy).mono ?_); rintro e w1 ⟨rfl, ⟨nd, rfl⟩⟩))
          go_ret
          exact ⟨_, rfl, HN.out _, pw_below_drewN (Below.refl _ _) _⟩
      · rw [if_neg (fun x => hm x.2.1)]
        have hmn := cc_may_no a0 a1 a2 hm
        generalize cc_many l3 = m at q1 hmp
        have q3 : (m == 0) = false := by simp; omega
        clear hr3 hc3 hm
        go_enter Try.func13, Try.ntmps13
        go_wp2_with (first | (go_at_call 16; (with_reducible refine (chacha_may.calls a0 a1 a2 _ _ hmn).mono ?_); rintro e w1 ⟨rfl, ⟨nd, rfl⟩⟩))
        go_ret
        exact ⟨_, rfl, HN.out _, pw_below_drewN (Below.refl _ _) _⟩
  · rw [if_neg hl] at h
    exact absurd h (by simp)

/-! ### deaddropref1_low: function 18 -/
def deaddropref1_low.f (a0 : ByteArray) (a1 : Int) : Option (Int) := if 0 ≤ a1 then (if a1 < (a0.size : Int) then (if 0 ≤ (wrap64 (a1 + 1)) then (if (wrap64 (a1 + 1)) < (a0.size : Int) then (if 0 ≤ (wrap64 (a1 + 2)) then (if (wrap64 (a1 + 2)) < (a0.size : Int) then (if 0 ≤ (wrap64 (a1 + 3)) then (if (wrap64 (a1 + 3)) < (a0.size : Int) then (some (Go.bits .or .u32 (Go.bits .or .u32 (Go.bits .or .u32 ((bt a0 a1) % 4294967296) ((((bt a0 (wrap64 (a1 + 1))) % 4294967296) * 256) % 4294967296)) ((((bt a0 (wrap64 (a1 + 2))) % 4294967296) * 65536) % 4294967296)) ((((bt a0 (wrap64 (a1 + 3))) % 4294967296) * 16777216) % 4294967296))) else (none)) else (none)) else (none)) else (none)) else (none)) else (none)) else (none)) else (none)
set_option maxHeartbeats 8000000 in
set_option maxRecDepth 100000 in
theorem deaddropref1_low.calls (a0 : ByteArray) (a1 : Int) (r : Int) (w : World) (h : deaddropref1_low.f a0 a1 = some r) :
    Calls Try.prog 18 #[.string a0, .int .i64 a1] w fun e w' => e = .returned (.int .u32 r) ∧ Drawn0 w w' := by
  have H : (if 0 ≤ a1 then (if a1 < (a0.size : Int) then (if 0 ≤ (wrap64 (a1 + 1)) then (if (wrap64 (a1 + 1)) < (a0.size : Int) then (if 0 ≤ (wrap64 (a1 + 2)) then (if (wrap64 (a1 + 2)) < (a0.size : Int) then (if 0 ≤ (wrap64 (a1 + 3)) then (if (wrap64 (a1 + 3)) < (a0.size : Int) then (some (Go.bits .or .u32 (Go.bits .or .u32 (Go.bits .or .u32 ((bt a0 a1) % 4294967296) ((((bt a0 (wrap64 (a1 + 1))) % 4294967296) * 256) % 4294967296)) ((((bt a0 (wrap64 (a1 + 2))) % 4294967296) * 65536) % 4294967296)) ((((bt a0 (wrap64 (a1 + 3))) % 4294967296) * 16777216) % 4294967296))) else (none)) else (none)) else (none)) else (none)) else (none)) else (none)) else (none)) else (none)) = some r := h
  clear h
  by_cases c3 : 0 ≤ a1
  · rw [if_pos c3] at H
    have c3b0 : decide (0 ≤ a1) = true := decide_eq_true c3
    clear c3
    by_cases c4 : a1 < (a0.size : Int)
    · rw [if_pos c4] at H
      have c4b0 : decide (a1 < (a0.size : Int)) = true := decide_eq_true c4
      clear c4
      obtain ⟨ji6, hji6⟩ : ∃ j_ : Int, (wrap64 (a1 + 1)) = j_ := ⟨_, rfl⟩
      replace H : (if 0 ≤ (ji6) then (if (ji6) < (a0.size : Int) then (if 0 ≤ (wrap64 (a1 + 2)) then (if (wrap64 (a1 + 2)) < (a0.size : Int) then (if 0 ≤ (wrap64 (a1 + 3)) then (if (wrap64 (a1 + 3)) < (a0.size : Int) then (some (Go.bits .or .u32 (Go.bits .or .u32 (Go.bits .or .u32 ((bt a0 a1) % 4294967296) ((((bt a0 (ji6)) % 4294967296) * 256) % 4294967296)) ((((bt a0 (wrap64 (a1 + 2))) % 4294967296) * 65536) % 4294967296)) ((((bt a0 (wrap64 (a1 + 3))) % 4294967296) * 16777216) % 4294967296))) else (none)) else (none)) else (none)) else (none)) else (none)) else (none)) = some r := by first | (rw [hji6] at H; exact H) | (simp only [hji6] at H ⊢; exact H)
      have hji6w : (IntKind.i64.wrap (a1 + 1)) = ji6 := (i64_w _).trans hji6
      by_cases c7 : 0 ≤ (ji6)
      · rw [if_pos c7] at H
        have c7b0 : decide (0 ≤ (ji6)) = true := decide_eq_true c7
        clear c7
        by_cases c8 : (ji6) < (a0.size : Int)
        · rw [if_pos c8] at H
          have c8b0 : decide ((ji6) < (a0.size : Int)) = true := decide_eq_true c8
          clear c8
          obtain ⟨ji10, hji10⟩ : ∃ j_ : Int, (wrap64 (a1 + 2)) = j_ := ⟨_, rfl⟩
          replace H : (if 0 ≤ (ji10) then (if (ji10) < (a0.size : Int) then (if 0 ≤ (wrap64 (a1 + 3)) then (if (wrap64 (a1 + 3)) < (a0.size : Int) then (some (Go.bits .or .u32 (Go.bits .or .u32 (Go.bits .or .u32 ((bt a0 a1) % 4294967296) ((((bt a0 (ji6)) % 4294967296) * 256) % 4294967296)) ((((bt a0 (ji10)) % 4294967296) * 65536) % 4294967296)) ((((bt a0 (wrap64 (a1 + 3))) % 4294967296) * 16777216) % 4294967296))) else (none)) else (none)) else (none)) else (none)) = some r := by first | (rw [hji10] at H; exact H) | (simp only [hji10] at H ⊢; exact H)
          have hji10w : (IntKind.i64.wrap (a1 + 2)) = ji10 := (i64_w _).trans hji10
          by_cases c11 : 0 ≤ (ji10)
          · rw [if_pos c11] at H
            have c11b0 : decide (0 ≤ (ji10)) = true := decide_eq_true c11
            clear c11
            by_cases c12 : (ji10) < (a0.size : Int)
            · rw [if_pos c12] at H
              have c12b0 : decide ((ji10) < (a0.size : Int)) = true := decide_eq_true c12
              clear c12
              obtain ⟨ji14, hji14⟩ : ∃ j_ : Int, (wrap64 (a1 + 3)) = j_ := ⟨_, rfl⟩
              replace H : (if 0 ≤ (ji14) then (if (ji14) < (a0.size : Int) then (some (Go.bits .or .u32 (Go.bits .or .u32 (Go.bits .or .u32 ((bt a0 a1) % 4294967296) ((((bt a0 (ji6)) % 4294967296) * 256) % 4294967296)) ((((bt a0 (ji10)) % 4294967296) * 65536) % 4294967296)) ((((bt a0 (ji14)) % 4294967296) * 16777216) % 4294967296))) else (none)) else (none)) = some r := by first | (rw [hji14] at H; exact H) | (simp only [hji14] at H ⊢; exact H)
              have hji14w : (IntKind.i64.wrap (a1 + 3)) = ji14 := (i64_w _).trans hji14
              by_cases c15 : 0 ≤ (ji14)
              · rw [if_pos c15] at H
                have c15b0 : decide (0 ≤ (ji14)) = true := decide_eq_true c15
                clear c15
                by_cases c16 : (ji14) < (a0.size : Int)
                · rw [if_pos c16] at H
                  have c16b0 : decide ((ji14) < (a0.size : Int)) = true := decide_eq_true c16
                  clear c16
                  obtain rfl := Option.some.inj H
                  have p5 : 0 ≤ (a1 : Int) := of_decide_eq_true (by first | (with_reducible assumption) | assumption)
                  have q5 : a1 < (a0.size : Int) := of_decide_eq_true (by first | (with_reducible assumption) | assumption)
                  have hx5 := bt_at a0 a1
                  replace p5 := eq_true p5
                  replace q5 := eq_true q5
                  have p9 : 0 ≤ ((ji6) : Int) := of_decide_eq_true (by first | (with_reducible assumption) | assumption)
                  have q9 : (ji6) < (a0.size : Int) := of_decide_eq_true (by first | (with_reducible assumption) | assumption)
                  have hx9 := bt_at a0 (ji6)
                  replace p9 := eq_true p9
                  replace q9 := eq_true q9
                  have p13 : 0 ≤ ((ji10) : Int) := of_decide_eq_true (by first | (with_reducible assumption) | assumption)
                  have q13 : (ji10) < (a0.size : Int) := of_decide_eq_true (by first | (with_reducible assumption) | assumption)
                  have hx13 := bt_at a0 (ji10)
                  replace p13 := eq_true p13
                  replace q13 := eq_true q13
                  have p17 : 0 ≤ ((ji14) : Int) := of_decide_eq_true (by first | (with_reducible assumption) | assumption)
                  have q17 : (ji14) < (a0.size : Int) := of_decide_eq_true (by first | (with_reducible assumption) | assumption)
                  have hx17 := bt_at a0 (ji14)
                  replace p17 := eq_true p17
                  replace q17 := eq_true q17
                  go_enter Try.func18, Try.ntmps18
                  go_wp2
                  repeat (go_quiet (fail); try go_wp2)
                  go_ret
                  exact ⟨by first | rfl | (simp; done) | (simp only [← hji6, ← hji10, ← hji14] <;> (first | rfl | simp)) | (simp [*]; done), by repeat (first | exact Drawn0.refl _ | apply Drawn0.step)⟩
                · rw [if_neg c16] at H
                  exact absurd H (by simp)
              · rw [if_neg c15] at H
                exact absurd H (by simp)
            · rw [if_neg c12] at H
              exact absurd H (by simp)
          · rw [if_neg c11] at H
            exact absurd H (by simp)
        · rw [if_neg c8] at H
          exact absurd H (by simp)
      · rw [if_neg c7] at H
        exact absurd H (by simp)
    · rw [if_neg c4] at H
      exact absurd H (by simp)
  · rw [if_neg c3] at H
    exact absurd H (by simp)

/-! ### deaddropref1_left: function 22 -/
def deaddropref1_left.f (a0 : Int) (a1 : Int) : Option (Int) := if 0 ≤ a1 then (if 0 ≤ (IntKind.u64.wrap (32 - a1)) then (some (Go.bits .or .u32 (shl .u32 a0 a1) (shr .u32 a0 (IntKind.u64.wrap (32 - a1))))) else (none)) else (none)
set_option maxHeartbeats 8000000 in
set_option maxRecDepth 100000 in
theorem deaddropref1_left.calls (a0 : Int) (a1 : Int) (r : Int) (w : World) (h : deaddropref1_left.f a0 a1 = some r) :
    Calls Try.prog 22 #[.int .u32 a0, .int .u64 a1] w fun e w' => e = .returned (.int .u32 r) ∧ Drawn0 w w' := by
  have H : (if 0 ≤ a1 then (if 0 ≤ (IntKind.u64.wrap (32 - a1)) then (some (Go.bits .or .u32 (shl .u32 a0 a1) (shr .u32 a0 (IntKind.u64.wrap (32 - a1))))) else (none)) else (none)) = some r := h
  clear h
  by_cases c3 : 0 ≤ a1
  · rw [if_pos c3] at H
    have c3b0 := eq_true c3
    have c3b1 : decide (0 ≤ a1) = true := decide_eq_true c3
    clear c3
    obtain ⟨ji4, hji4⟩ : ∃ j_ : Int, (shl .u32 a0 a1) = j_ := ⟨_, rfl⟩
    replace H : (if 0 ≤ (IntKind.u64.wrap (32 - a1)) then (some (Go.bits .or .u32 (ji4) (shr .u32 a0 (IntKind.u64.wrap (32 - a1))))) else (none)) = some r := by first | (rw [hji4] at H; exact H) | (simp only [hji4] at H ⊢; exact H)
    have hji4_ : (IntKind.u32.wrap (a0 * 2 ^ min a1.toNat 32)) = ji4 := hji4
    have hji4z : a1 ≤ 32 → (IntKind.u32.wrap (a0 * 2 ^ a1.toNat)) = ji4 := shl_small hji4
    obtain ⟨ji5, hji5⟩ : ∃ j_ : Int, (IntKind.u64.wrap (32 - a1)) = j_ := ⟨_, rfl⟩
    replace H : (if 0 ≤ (ji5) then (some (Go.bits .or .u32 (ji4) (shr .u32 a0 (ji5)))) else (none)) = some r := by first | (rw [hji5] at H; exact H) | (simp only [hji5] at H ⊢; exact H)
    by_cases c6 : 0 ≤ (ji5)
    · rw [if_pos c6] at H
      have c6b0 := eq_true c6
      have c6b1 : decide (0 ≤ (ji5)) = true := decide_eq_true c6
      clear c6
      obtain ⟨ji7, hji7⟩ : ∃ j_ : Int, (shr .u32 a0 (ji5)) = j_ := ⟨_, rfl⟩
      replace H : (some (Go.bits .or .u32 (ji4) (ji7))) = some r := by first | (rw [hji7] at H; exact H) | (simp only [hji7] at H ⊢; exact H)
      have hji7_ : (a0 / 2 ^ min (ji5).toNat 32) = ji7 := hji7
      have hji7z : (ji5) ≤ 32 → (a0 / 2 ^ (ji5).toNat) = ji7 := shr_small hji7
      obtain rfl := Option.some.inj H
      go_enter Try.func22, Try.ntmps22
      go_wp2
      go_ret
      exact ⟨by first | rfl | (simp; done) | (simp only [← hji4, ← hji5, ← hji7] <;> (first | rfl | simp)) | (simp [*]; done), by repeat (first | exact Drawn0.refl _ | apply Drawn0.step)⟩
    · rw [if_neg c6] at H
      exact absurd H (by simp)
  · rw [if_neg c3] at H
    exact absurd H (by simp)

end Go.Proofs.Yticeijifmmegeaa.Q
