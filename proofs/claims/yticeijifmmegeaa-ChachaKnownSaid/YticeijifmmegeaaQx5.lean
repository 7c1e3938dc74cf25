-- Written by a program of this work (wip/tools/mkprint.py) over the kit's print; Lean checks it.
import Derived.Test.YticeijifmmegeaaQx0
import Derived.Test.YticeijifmmegeaaQx1
import Derived.Test.YticeijifmmegeaaQx3
import Derived.Test.YticeijifmmegeaaQx4
namespace Go.Proofs.Yticeijifmmegeaa.Q
open Go.RowKit Go.Proofs.YticeijifmmegeaaW.PrintWords Go.Proofs.YticeijifmmegeaaW.PrintLast Go.Proofs.YticeijifmmegeaaW.PrintMore
attribute [local go_sem] max2_int min2_int max_two min_two max_three min_three max_four min_four   -- for this text's walks alone
set_option linter.unusedVariables false
set_option linter.unusedSimpArgs false

/-! ### deaddropref1_Block: function 11 -/
theorem cc_left_is (x n : Int) (h0 : 0 ≤ n) (h1 : n ≤ 32) : deaddropref1_left.f x n = some (cc_rot x n) := by
 have e : IntKind.u64.wrap (32 - n) = 32 - n := by
  have : IntKind.u64.wrap (32 - n) = (32 - n) % 18446744073709551616 := by simp [IntKind.wrap, IntKind.bits, IntKind.signed]
  rw [this]
  omega
 unfold deaddropref1_left.f
 rw [e, if_pos h0, if_pos (by omega)]
 rfl
theorem cc_low_is (s : ByteArray) (at_ : Int) : deaddropref1_low.f s at_ = chacha_word.f s at_ := rfl
theorem cc_quarter_is (l : List Int) (hl : l.length = 16) (a b c d : Int) (ha : 0 ≤ a ∧ a < 16) (hb : 0 ≤ b ∧ b < 16) (hc : 0 ≤ c ∧ c < 16) (hd : 0 ≤ d ∧ d < 16) :
 deaddropref1_quarter.f l a b c d = some (cc_quarterL l a b c d) := by
 obtain ⟨a0, a1⟩ := ha
 obtain ⟨b0, b1⟩ := hb
 obtain ⟨c0, c1⟩ := hc
 obtain ⟨d0, d1⟩ := hd
 unfold deaddropref1_quarter.f
 rw [hl]
 simp only [if_pos a0, if_pos b0, if_pos c0, if_pos d0, if_pos (show a < ((16 : Nat) : Int) from a1), if_pos (show b < ((16 : Nat) : Int) from b1), if_pos (show c < ((16 : Nat) : Int) from c1), if_pos (show d < ((16 : Nat) : Int) from d1), Option.bind_some, cc_left_is _ 16 (by decide) (by decide), cc_left_is _ 12 (by decide) (by decide), cc_left_is _ 8 (by decide) (by decide), cc_left_is _ 7 (by decide) (by decide)]
 rfl
/-- What comes out, four bytes at a time. -/
def cc_four (was now : List Int) (i : Nat) : List Int :=
 [(rd now (i : Int) + rd was (i : Int)) % 4294967296 % 256, (rd now (i : Int) + rd was (i : Int)) % 4294967296 / 256 % 256, (rd now (i : Int) + rd was (i : Int)) % 4294967296 / 65536 % 256, (rd now (i : Int) + rd was (i : Int)) % 4294967296 / 16777216 % 256]
def cc_rout (was now : List Int) (k : Nat) : List Int := (List.range k).flatMap (cc_four was now)
theorem cc_rout_succ (was now : List Int) (k : Nat) : cc_rout was now (k + 1) = cc_rout was now k ++ cc_four was now k := by
 simp [cc_rout, List.range_succ]
theorem cc_rout_length (was now : List Int) (k : Nat) : (cc_rout was now k).length = 4 * k := by
 induction k with
 | zero => rfl
 | succ k ih => rw [cc_rout_succ, List.length_append, ih]; rfl
theorem cc_fold_set (f : Nat → Int) (m : Nat) : ∀ n, n ≤ m → (List.range n).foldl (fun o j => o.set j (f j)) (List.replicate m (0 : Int)) = (List.range n).map f ++ List.replicate (m - n) 0
 | 0, _ => by simp
 | n + 1, h => by
  rw [List.range_succ, List.foldl_append, cc_fold_set f m n (by omega), List.foldl_cons, List.foldl_nil, List.map_append, show m - n = (m - (n + 1)) + 1 by omega, List.replicate_succ]
  rw [List.set_append_right _ _ (by simp)]
  simp
theorem cc_rout_map (was now : List Int) (k : Nat) : cc_rout was now k = (List.range (4 * k)).map (cc_byte was now) := by
 induction k with
 | zero => rfl
 | succ k ih =>
  have e0 := cc_byte_at was now k 0 (by decide)
  have e1 := cc_byte_at was now k 1 (by decide)
  have e2 := cc_byte_at was now k 2 (by decide)
  have e3 := cc_byte_at was now k 3 (by decide)
  rw [Nat.add_zero] at e0
  rw [cc_rout_succ, ih, show 4 * (k + 1) = 4 * k + 1 + 1 + 1 + 1 by omega, List.range_succ, List.range_succ, List.range_succ, List.range_succ]
  simp only [List.map_append, List.map_cons, List.map_nil, List.append_assoc, List.cons_append, List.nil_append]
  rw [e0, e1, show 4 * k + 1 + 1 = 4 * k + 2 from rfl, e2, show 4 * k + 2 + 1 = 4 * k + 3 from rfl, e3]
  simp only [cc_four, Int.add_comm (rd now (k : Int))]
  simp
theorem cc_rout_is (was now : List Int) : cc_rout was now 16 = cc_out was now 64 := by
 unfold cc_out
 rw [cc_rout_map, cc_fold_set _ 64 64 (Nat.le_refl _)]
 simp
/-- The memory while the document's block is made: the first words. -/
structure cc_F (w W : World) (xs : List Int) : Prop where
 arr : W.heap[w.heap.size]? = some (.cells (nums .u32 xs).toArray 39 (0, 0))
 bel : Below w.heap.size w W
 len : xs.length = 16
theorem cc_F.put {w W : World} {xs : List Int} (h : cc_F w W xs) (i : Nat) (x : Int) : cc_F w (W.setCell ⟨w.heap.size, i, none⟩ (.int .u32 x)) (xs.set i x) :=
 ⟨by rw [cc_nums_set]; exact blk_set h.arr _ _, h.bel.setCell (Nat.le_refl _) _, by rw [List.length_set]; exact h.len⟩
theorem cc_F.drewN {w W : World} {xs : List Int} (h : cc_F w W xs) (n : Nat) : cc_F w (W.drewN n) xs := ⟨h.arr, pw_below_drewN h.bel _, h.len⟩
theorem cc_cellT {W : World} {g : Nat} {t : TypeId} {xs : List Int} (h : W.heap[g]? = some (.cells (nums .u32 xs).toArray t (0, 0))) (i : Int) (h0 : 0 ≤ i) (h1 : i < xs.length) :
 W.cell? ⟨g, i.toNat, none⟩ = some (.int .u32 (rd xs i)) ∧ W.frozen? ⟨g, i.toNat, none⟩ = false := by
 refine ⟨(blk_cell h _).trans ?_, blk_frozen h _⟩
 have hi : i.toNat < xs.length := by omega
 simp [nums, rd, List.getD_eq_getElem?_getD, hi]
theorem cc_info35r : (Try.prog.info? 35).map (fun i => (i.zero, i.size, i.bytes)) = some (some (.int .u32 0), 1, 4) := by kernel_rfl
/-- .. the first words and the words that are turned. -/
structure cc_Q (w W : World) (v : Value) (st xs : List Int) : Prop where
 one : cc_F w W st
 own : Kd.R (Kd.int .u32) 35 W w.heap.size (fun k => some k = v.ownBlock) v xs
 len : xs.length = 16
theorem cc_Q.call {w W W1 : World} {v : Value} {st xs ys : List Int} {ok : Nat → Prop} (h : cc_Q w W v st xs) (hr : Kd.R (Kd.int .u32) 35 W1 w.heap.size ok v ys) (hb : Below w.heap.size w W1) (hk : Kept W W1 (fun k => some k = v.ownBlock)) (hl : ys.length = 16) : cc_Q w W1 v st ys :=
 ⟨⟨(hk.2 _ (blk_lt h.one.arr) (Kd.R_ne h.own h.one.arr (by decide))).trans h.one.arr, hb, h.one.len⟩, cc_own hr, hl⟩
/-- .. and what comes out. -/
structure cc_P (w W : World) (v u : Value) (st xs o : List Int) : Prop where
 two : cc_Q w W v st xs
 out : Kd.R (Kd.int .u8) 5 W w.heap.size (fun _ => True) u o
theorem cc_P.grown {w W W1 : World} {v u u1 : Value} {st xs o o1 : List Int} (h : cc_P w W v u st xs o) (hr : Kd.R (Kd.int .u8) 5 W1 w.heap.size (fun _ => True) u1 o1) (hb : Below w.heap.size w W1) (hg : W.grownBy W1 u.ownBlock) : cc_P w W1 v u1 st xs o1 :=
 ⟨⟨⟨blk_grown h.two.one.arr hg (Kd.R_ne h.out h.two.one.arr (by decide)), hb, h.two.one.len⟩, Kd.R_over h.two.own h.out (by simp [Kd.int, Kd.scalar]) hg, h.two.len⟩, hr⟩
theorem cc_P.below {w W W1 : World} {v u : Value} {st xs o : List Int} (h : cc_P w W v u st xs o) (hb : Below W.heap.size W W1) : cc_P w W1 v u st xs o :=
 ⟨⟨⟨blk_below h.two.one.arr hb, below_then h.two.one.bel h.two.one.bel.size hb, h.two.one.len⟩, Kd.R_below h.two.own hb, h.two.len⟩, Kd.R_below h.out hb⟩
set_option maxHeartbeats 2000000 in
set_option maxRecDepth 100000 in
theorem cc_rblock (key nonce : ByteArray) (ctr : Int) (w : World) (hk : key.size = 32) (hn : nonce.size = 12) (hc : 0 ≤ ctr ∧ ctr < 4294967296) :
 Calls Try.prog 11 #[.string key, .string nonce, .int .i64 ctr] w fun e w' => e = .returned (.string (strOfNums (cc_block key nonce ctr))) ∧ Below w.heap.size w w' := by
 obtain ⟨c0, c1⟩ := hc
 obtain ⟨text, ht⟩ : ∃ t, t = cc_head ++ key := ⟨_, rfl⟩
 have hts : text.size = 48 := by rw [ht, ByteArray.size_append, hk]; rfl
 have ht' : Aside0 ((⟨#[101, 120, 112, 97, 110, 100, 32, 51, 50, 45, 98, 121, 116, 101, 32, 107]⟩ : ByteArray) ++ key = text) := ⟨ht.symm⟩
 have HT := Aside0.mk ht
 clear ht
 have k1 : decide (ctr < 0) = false := decide_eq_false (by omega)
 have k2 : decide (ctr ≥ 4294967296) = false := decide_eq_false (by omega)
 have k3 : decide (4294967296 ≤ ctr) = false := decide_eq_false (by omega)
 go_enter Try.func11, Try.ntmps11
 go_wp2
 rw [ht'.out]
 go_loopw [9] (fun v wr => ∃ (i : Int) (k : Nat), v = .int .i64 i ∧ Aside0 (i = (k : Int)) ∧ Aside0 (k ≤ 12) ∧ Aside0 (cc_F w wr (cc_fill1 text k))) (fun v _ => 12 - (intOf v).toNat)
 case atStart => exact ⟨0, 0, rfl, ⟨rfl⟩, ⟨by omega⟩, ⟨⟨heap_alloc_new _ _, (Below.refl _ _).alloc (Nat.le_refl _) _, rfl⟩⟩⟩
 case round =>
  obtain ⟨i, k, rfl, HI, HK, HW⟩ := hrel
  by_cases hlt : k < 12
  ·
   obtain rfl := HI.out
   clear HI
   have hf := cc_le_is text (4 * (k : Int)) (by omega) (by omega) (by omega)
   rw [← cc_low_is] at hf
   obtain ⟨hcl, hfz⟩ := cc_cellT HW.out.arr (k : Int) (by omega) (by rw [HW.out.len]; omega)
   rw [Int.toNat_natCast] at hcl hfz
   go_wp2_with ((with_reducible refine gate_callee (f := 18) rfl ?_); refine goesL_ (some 44) rfl rfl Try.func18 (by kernel_rfl) rfl #[.string text, .int .i64 (4 * (k : Int))] rfl (by (try simp only [List.map_toArray, List.map_cons, List.map_nil]); first | done | rfl) ?_; (with_reducible refine (deaddropref1_low.calls text (4 * (k : Int)) _ _ hf).mono ?_); rintro e w1 ⟨rfl, ⟨nd, rfl⟩⟩; refine ⟨_, rfl, ?_⟩)
   go_roundw
   case rel => exact ⟨(k : Int) + 1, k + 1, by first | rfl | go_num, ⟨by omega⟩, ⟨by omega⟩, ⟨by rw [cc_fill1_succ]; exact (HW.out.drewN _).put _ _⟩⟩
   case measure => simp [intOf]; omega
  ·
   obtain rfl : k = 12 := by have := HK.out; omega
   obtain rfl : i = 12 := HI.out
   clear HI
   clear hlt HK
   have hcl : wr.cell? ⟨w.heap.size, 12, none⟩ = some (.int .u32 (rd (cc_fill1 text 12) 12)) := (cc_cellT HW.out.arr 12 (by omega) (by rw [HW.out.len]; omega)).1
   have hfz : wr.frozen? ⟨w.heap.size, 12, none⟩ = false := (cc_cellT HW.out.arr 12 (by omega) (by rw [HW.out.len]; omega)).2
   go_wp2
   have HW2 := Aside0.mk (HW.out.put 12 ctr)
   generalize wr.setCell ⟨w.heap.size, 12, none⟩ (.int .u32 ctr) = wx at HW2 ⊢
   clear hcl hfz HW
   obtain ⟨x2, hx2⟩ : ∃ x, x = (cc_fill1 text 12).set 12 ctr := ⟨_, rfl⟩
   rw [← hx2] at HW2
   have HX2 := Aside0.mk hx2
   clear hx2
   go_loopw [10] (fun v wr => ∃ (i : Int) (k : Nat), v = .int .i64 i ∧ Aside0 (i = (k : Int)) ∧ Aside0 (k ≤ 3) ∧ Aside0 (cc_F w wr (cc_fill2 x2 nonce k))) (fun v _ => 3 - (intOf v).toNat)
   case atStart => exact ⟨0, 0, rfl, ⟨rfl⟩, ⟨by omega⟩, HW2⟩
   case round =>
    obtain ⟨i, k, rfl, HI, HK, HW⟩ := hrel
    by_cases hlt : k < 3
    ·
     obtain rfl := HI.out
     clear HI
     have hf := cc_le_is nonce (4 * (k : Int)) (by omega) (by omega) (by omega)
     rw [← cc_low_is] at hf
     obtain ⟨hcl, hfz⟩ := cc_cellT HW.out.arr (13 + (k : Int)) (by omega) (by rw [HW.out.len]; omega)
     have e13 : Aside0 ((13 + (k : Int)).toNat = 13 + k) := ⟨by omega⟩
     rw [e13.out] at hcl hfz
     go_wp2_with ((with_reducible refine gate_callee (f := 18) rfl ?_); refine goesL_ (some 58) rfl rfl Try.func18 (by kernel_rfl) rfl #[.string nonce, .int .i64 (4 * (k : Int))] rfl (by (try simp only [List.map_toArray, List.map_cons, List.map_nil]); first | done | rfl) ?_; (with_reducible refine (deaddropref1_low.calls nonce (4 * (k : Int)) _ _ hf).mono ?_); rintro e w1 ⟨rfl, ⟨nd, rfl⟩⟩; refine ⟨_, rfl, ?_⟩)
     go_roundw
     case rel => exact ⟨(k : Int) + 1, k + 1, by first | rfl | go_num, ⟨by omega⟩, ⟨by omega⟩, ⟨by rw [cc_fill2_succ]; exact (HW.out.drewN _).put _ _⟩⟩
     case measure => simp [intOf]; omega
    ·
     obtain rfl : k = 3 := by have := HK.out; omega
     obtain rfl : i = 3 := HI.out
     clear HI
     clear hlt HK
     obtain ⟨st, hst⟩ : ∃ x, x = cc_fill2 x2 nonce 3 := ⟨_, rfl⟩
     rw [← hst] at HW
     have HST := Aside0.mk hst
     clear hst HW2
     have HRC : ∀ W1 : World, Below wr.heap.size wr W1 → Kd.C (Kd.int .u32) W1 (some ⟨w.heap.size, 0, none⟩) 16 st := fun W1 hb1 => Kd.C_of_reads (d := (0 : Int)) (h1 := fun _ => rfl) ⟨HW.out.len, by decide, fun _ => ⟨_, rfl, fun j hj => by
      rw [add_plain]
      have := (cc_cellT (blk_below HW.out.arr hb1) (j : Int) (by omega) (by rw [HW.out.len]; omega)).1
      rw [Int.toNat_natCast] at this
      exact this⟩⟩
     have HRC := Aside0.mk HRC
     go_wp2_with (first | ((with_reducible refine gate_dst (N := 60) rfl ?_); refine Kd.R_lit (Kd.int .u32) _ 35 ?hg (N := 60) ?hd (xs := ([] : List Int)) (inner := []) (ok := fun _ => True) (okp := fun _ => True) ?hr ?hp (fun _ hk => hk) trivial (Below.refl _ _) (Nat.le_refl _) (by simp) ?_; (case hd => rfl); (case hg => rfl); (case hr => first | (go_simp; done) | (go_simp; rfl)); (case hp => exact (Reps.none _ _)); intro v0 w3 ho0 hb0 hg0 hnew0; have HO0 := Aside0.mk (Kd.R_lower ho0 HW.out.bel.size); have HB0 := Aside0.mk hb0; clear ho0 hb0 hg0 hnew0) | ((with_reducible refine gate_builtin (b := .append) (xs := #[.tmp 60, .tmp 61]) rfl ?_); at_builtin; refine Kd.R_append_row (Value.int .u32) (0 : Int) (h1 := fun _ => rfl) (w0 := w) w.heap.size rfl (.tmp 60) (.tmp 61) 41 35 (.int .u32 0) 4 rfl Try.underlying41 cc_info35r rfl (by decide) v0 [] st _ 16 16 (fun _ => True) rfl rfl (fun _ _ => trivial) HO0.out (HRC.out _ HB0.out) (below_then HW.out.bel HW.out.bel.size HB0.out) (Nat.le_trans HW.out.bel.size HB0.out.size) (by decide) ?_; intro v1 w4 ho1 hb1 hg1 hat1; have HO1 := Aside0.mk ho1; have HB1 := Aside0.mk hb1; have HG1 := Aside0.mk (blk_grown (blk_below HW.out.arr HB0.out) hg1 (Kd.R_ne HO0.out (blk_below HW.out.arr HB0.out) (by decide))); clear ho1 hb1 hg1 hat1))
     clear HO0 HB0 HRC
     have HF := Aside0.mk (Kd.R_form (cc_own HO1.out) (by rw [List.nil_append, HW.out.len]; decide))
     obtain ⟨q, co, hv, hq1, hq2, hq3⟩ := HF.out
     rw [List.nil_append, HW.out.len] at hv
     subst hv
     have HQ : Aside0 (cc_Q w w4 (.slice (some ⟨q, 0, none⟩) 16 co) st st) := ⟨⟨⟨HG1.out, HB1.out, HW.out.len⟩, cc_own HO1.out, HW.out.len⟩⟩
     clear HF hq1 hq2 hq3 HO1 HB1 HG1 HW
     go_loopw [12] (fun v wr => ∃ (i : Int) (r : Nat), v = .int .i64 i ∧ Aside0 (i = (r : Int)) ∧ Aside0 (r ≤ 10) ∧ Aside0 (cc_Q w wr (.slice (some ⟨q, 0, none⟩) 16 co) st (cc_rounds st r))) (fun v _ => 10 - (intOf v).toNat)
     case atStart => exact ⟨0, 0, rfl, ⟨rfl⟩, ⟨by omega⟩, HQ⟩
     case round =>
      clear HQ
      obtain ⟨i, r, rfl, HI, HK, HW⟩ := hrel
      by_cases hlt : r < 10
      ·
       obtain rfl := HI.out
       clear HI
       have hb10 : decide ((r : Int) < 10) = true := decide_eq_true (by omega)
       obtain ⟨x3, hx3⟩ : ∃ x, x = cc_rounds st r := ⟨_, rfl⟩
       rw [← hx3] at HW
       have HX3 := Aside0.mk hx3
       clear hx3
       go_wp2
       go_loopw [13] (fun v wr => ∃ (i : Int) (k : Nat), v = .int .i64 i ∧ Aside0 (i = (k : Int)) ∧ Aside0 (k ≤ 4) ∧ Aside0 (cc_Q w wr (.slice (some ⟨q, 0, none⟩) 16 co) st (cc_col x3 k))) (fun v _ => 4 - (intOf v).toNat)
       case atStart => exact ⟨0, 0, rfl, ⟨rfl⟩, ⟨by omega⟩, HW⟩
       case round =>
        clear HW
        obtain ⟨i, k, rfl, HI, HK1, HW⟩ := hrel
        by_cases hlt1 : k < 4
        ·
         obtain rfl := HI.out
         clear HI
         have hqq := cc_quarter_is (cc_col x3 k) HW.out.len (k : Int) (4 + (k : Int)) (8 + (k : Int)) (12 + (k : Int)) (by omega) (by omega) (by omega) (by omega)
         go_wp2_with ((with_reducible refine gate_callee (f := 19) rfl ?_); refine goesL_ (some 79) rfl rfl Try.func19 (by kernel_rfl) rfl #[.slice (some ⟨q, 0, none⟩) 16 co, .int .i64 (k : Int), .int .i64 (4 + (k : Int)), .int .i64 (8 + (k : Int)), .int .i64 (12 + (k : Int))] rfl (by (try simp only [List.map_toArray, List.map_cons, List.map_nil]); first | done | rfl) ?_; (with_reducible refine (deaddropref1_quarter.calls _ _ _ (k : Int) (4 + (k : Int)) (8 + (k : Int)) (12 + (k : Int)) _ w _ HW.out.one.bel HW.out.own hqq).mono ?_); rintro e w1 ⟨rfl, h1, hb1, hk1⟩; refine ⟨_, rfl, ?_⟩)
         go_roundw
         case rel => exact ⟨(k : Int) + 1, k + 1, by first | rfl | go_num, ⟨by omega⟩, ⟨by omega⟩, ⟨by rw [cc_col_succ]; exact HW.out.call h1 hb1 hk1 (by rw [cc_quarterL_length]; exact HW.out.len)⟩⟩
         case measure => simp [intOf]; omega
        ·
         obtain rfl : k = 4 := by have := HK1.out; omega
         obtain rfl : i = 4 := HI.out
         clear HI
         clear hlt1 HK1
         obtain ⟨x4, hx4⟩ : ∃ x, x = cc_col x3 4 := ⟨_, rfl⟩
         rw [← hx4] at HW
         have HX4 := Aside0.mk hx4
         clear hx4
         go_wp2
         go_loopw [14] (fun v wr => ∃ (i : Int) (k : Nat), v = .int .i64 i ∧ Aside0 (i = (k : Int)) ∧ Aside0 (k ≤ 4) ∧ Aside0 (cc_Q w wr (.slice (some ⟨q, 0, none⟩) 16 co) st (cc_diag x4 k))) (fun v _ => 4 - (intOf v).toNat)
         case atStart => exact ⟨0, 0, rfl, ⟨rfl⟩, ⟨by omega⟩, HW⟩
         case round =>
          clear HW
          obtain ⟨i, k, rfl, HI, HK1, HW⟩ := hrel
          by_cases hlt1 : k < 4
          ·
           obtain rfl := HI.out
           clear HI
           have t1 : Int.tmod ((k : Int) + 1) 4 = ((k : Int) + 1) % 4 := Int.tmod_eq_emod_of_nonneg (by omega)
           have t2 : Int.tmod ((k : Int) + 2) 4 = ((k : Int) + 2) % 4 := Int.tmod_eq_emod_of_nonneg (by omega)
           have t3 : Int.tmod ((k : Int) + 3) 4 = ((k : Int) + 3) % 4 := Int.tmod_eq_emod_of_nonneg (by omega)
           have hqq := cc_quarter_is (cc_diag x4 k) HW.out.len (k : Int) (4 + ((k : Int) + 1) % 4) (8 + ((k : Int) + 2) % 4) (12 + ((k : Int) + 3) % 4) (by omega) (by omega) (by omega) (by omega)
           go_wp2_with ((with_reducible refine gate_callee (f := 19) rfl ?_); refine goesL_ (some 98) rfl rfl Try.func19 (by kernel_rfl) rfl #[.slice (some ⟨q, 0, none⟩) 16 co, .int .i64 (k : Int), .int .i64 (4 + ((k : Int) + 1) % 4), .int .i64 (8 + ((k : Int) + 2) % 4), .int .i64 (12 + ((k : Int) + 3) % 4)] rfl (by (try simp only [List.map_toArray, List.map_cons, List.map_nil]); first | done | rfl) ?_; (with_reducible refine (deaddropref1_quarter.calls _ _ _ (k : Int) (4 + ((k : Int) + 1) % 4) (8 + ((k : Int) + 2) % 4) (12 + ((k : Int) + 3) % 4) _ w _ HW.out.one.bel HW.out.own hqq).mono ?_); rintro e w1 ⟨rfl, h1, hb1, hk1⟩; refine ⟨_, rfl, ?_⟩)
           go_roundw
           case rel => exact ⟨(k : Int) + 1, k + 1, by first | rfl | go_num, ⟨by omega⟩, ⟨by omega⟩, ⟨by rw [cc_diag_succ]; exact HW.out.call h1 hb1 hk1 (by rw [cc_quarterL_length]; exact HW.out.len)⟩⟩
           case measure => simp [intOf]; omega
          ·
           obtain rfl : k = 4 := by have := HK1.out; omega
           obtain rfl : i = 4 := HI.out
           clear HI
           clear hlt1 HK1
           go_wp2
           go_roundw
           case rel => exact ⟨(r : Int) + 1, r + 1, by first | rfl | go_num, ⟨by omega⟩, ⟨by omega⟩, ⟨by rw [show cc_rounds st (r + 1) = cc_diag (cc_col (cc_rounds st r) 4) 4 from rfl, ← HX3.out, ← HX4.out]; exact HW.out⟩⟩
           case measure => simp [intOf]; omega
      ·
       obtain rfl : r = 10 := by have := HK.out; omega
       obtain rfl : i = 10 := HI.out
       clear HI
       clear hlt HK
       obtain ⟨now, hnow⟩ : ∃ x, x = cc_rounds st 10 := ⟨_, rfl⟩
       rw [← hnow] at HW
       have HNOW := Aside0.mk hnow
       clear hnow
       go_wp2
       go_loopw [15, 16] (fun u v wr => ∃ (i : Int) (j : Nat), v = .int .i64 i ∧ Aside0 (i = (j : Int)) ∧ Aside0 (j ≤ 16) ∧ Aside0 (cc_P w wr (.slice (some ⟨q, 0, none⟩) 16 co) u st now (cc_rout st now j))) (fun _ v _ => 16 - (intOf v).toNat)
       case atStart => exact ⟨0, 0, rfl, ⟨rfl⟩, ⟨by omega⟩, ⟨⟨HW.out, Kd.R_of_own (own_nil _ _ _ _) (fun _ _ => trivial)⟩⟩⟩
       case round =>
        clear HW
        obtain ⟨i, j, rfl, HI, HK, HW⟩ := hrel
        by_cases hlt : j < 16
        ·
         obtain rfl := HI.out
         clear HI
         have hb16 : decide ((j : Int) < 16) = true := decide_eq_true (by omega)
         obtain ⟨hcl, _⟩ := cc_cellT HW.out.two.one.arr (j : Int) (by omega) (by rw [HW.out.two.one.len]; omega)
         obtain ⟨hcq, _⟩ := Kd.R_celln 0 HW.out.two.own (j : Int) (by omega) (by omega)
         rw [Int.toNat_natCast] at hcl hcq
         have hj0 : (0 : Int) ≤ (j : Int) := by omega
         have hj1 : (j : Int) < 16 := by omega
         have hj2 : (j : Int) < ((16 : Nat) : Int) := by omega
         have hrl := cc_rout_length st now j
         go_wp2
         go_quiet (fail)
         obtain ⟨x, hx⟩ : ∃ x, x = (rd now (j : Int) + rd st (j : Int)) % 4294967296 := ⟨_, rfl⟩
         have hx' : (rdOf 0 now (j : Int) + rd st (j : Int)) % 4294967296 = x := hx.symm
         rw [hx']
         have HX := Aside0.mk hx
         clear hx hx' hcl hcq
         have HWD : Aside0 (cc_P w (wr.drewN nq) (.slice (some ⟨q, 0, none⟩) 16 co) u15 st now (cc_rout st now j)) := ⟨HW.out.below (pw_below_drewN (Below.refl _ _) _)⟩
         generalize wr.drewN nq = w5 at HWD ⊢
         clear HW
         go_wp2_with (first | ((with_reducible refine gate_dst (N := 123) rfl ?_); refine Kd.R_lit (Kd.int .u8) _ 5 ?hg (N := 123) ?hd (xs := ([x % 256, x / 256 % 256, x / 65536 % 256, x / 16777216 % 256] : List Int)) (inner := [.int .u8 (x % 256), .int .u8 (x / 256 % 256), .int .u8 (x / 65536 % 256), .int .u8 (x / 16777216 % 256)]) (ok := fun _ => True) (okp := fun _ => True) ?hr ?hp (fun _ hk => hk) trivial (Below.refl _ _) (Nat.le_refl _) (by simp) ?_; (case hd => rfl); (case hg => rfl); (case hr => first | (go_simp; done) | (go_simp; rfl)); (case hp => exact (Reps.one (show Kd.M (Kd.int .u8) _ _ _ _ [_] from rfl) (Reps.one (show Kd.M (Kd.int .u8) _ _ _ _ [_] from rfl) (Reps.one (show Kd.M (Kd.int .u8) _ _ _ _ [_] from rfl) (Reps.one (show Kd.M (Kd.int .u8) _ _ _ _ [_] from rfl) (Reps.none _ _)))))); intro v6 w6 ho6 hb6 hg6 hnew6; have HO6 := Aside0.mk ho6; have HW6 := Aside0.mk (HWD.out.below hb6); obtain ⟨A6, c6, e6⟩ := Kd.R_slice ho6; subst e6; clear ho6 hb6 hg6 hnew6) | ((with_reducible refine gate_builtin (b := .append) (xs := #[.tmp 111, .tmp 123]) rfl ?_); at_builtin; refine Kd.R_append_row (Value.int .u8) (0 : Int) (h1 := fun _ => rfl) (w0 := w) w.heap.size rfl (.tmp 111) (.tmp 123) 25 5 (.int .u8 0) 1 rfl Try.underlying25 info5 rfl (by decide) u15 (cc_rout st now j) _ A6 _ _ (fun _ => True) rfl rfl (fun _ _ => trivial) HW6.out.out (Kd.R_reads' HO6.out).2.2 HW6.out.two.one.bel HW6.out.two.one.bel.size (by rw [hrl]; simp; omega) ?_; intro v7 w7 ho7 hb7 hg7 hat7; have HW7 := Aside0.mk (HW6.out.grown ho7 hb7 hg7); clear ho7 hb7 hg7 hat7))
         go_roundw
         case rel => exact ⟨(j : Int) + 1, j + 1, by first | rfl | go_num, ⟨by omega⟩, ⟨by omega⟩, ⟨by rw [cc_rout_succ]; unfold cc_four; rw [← HX.out]; exact HW7.out⟩⟩
         case measure => simp [intOf]; omega
        ·
         obtain rfl : j = 16 := by have := HK.out; omega
         obtain rfl : i = 16 := HI.out
         clear HI
         clear hlt HK
         have hcv := own_string (P := Try.prog) Try.underlying25 Try.underlying5 Try.underlying9 (Kd.own_of_R HW.out.out)
         go_wp2
         go_ret
         refine ⟨?_, HW.out.two.one.bel⟩
         rw [cc_rout_is, HNOW.out, HST.out, HX2.out, HT.out]
         rfl
def deaddropref1_Block.f (a0 : ByteArray) (a1 : ByteArray) (a2 : Int) : Option (ByteArray) := some (if a0.size = 32 ∧ a1.size = 12 ∧ 0 ≤ a2 ∧ a2 < 4294967296 then strOfNums (cc_block a0 a1 a2) else (⟨#[]⟩ : ByteArray))
set_option maxHeartbeats 1000000 in
set_option maxRecDepth 100000 in
theorem deaddropref1_Block.calls (a0 : ByteArray) (a1 : ByteArray) (a2 : Int) (r : ByteArray) (w : World) (h : deaddropref1_Block.f a0 a1 a2 = some r) :
 Calls Try.prog 11 #[.string a0, .string a1, .int .i64 a2] w fun e w' => e = .returned (.string r) ∧ Below w.heap.size w w' := by
 obtain rfl := Option.some.inj h
 clear h
 by_cases hm : a0.size = 32 ∧ a1.size = 12 ∧ 0 ≤ a2 ∧ a2 < 4294967296
 ·
  rw [if_pos hm]
  exact cc_rblock a0 a1 a2 w hm.1 hm.2.1 hm.2.2
 ·
  rw [if_neg hm]
  by_cases h1 : a0.size = 32
  ·
   have d1 : ((a0.size : Int) != 32) = false := by simp [h1]
   by_cases h2 : a1.size = 12
   ·
    have d2 : ((a1.size : Int) != 12) = false := by simp [h2]
    by_cases h3 : a2 < 0
    ·
     have d3 : decide (a2 < 0) = true := decide_eq_true h3
     clear hm
     go_enter Try.func11, Try.ntmps11
     go_wp2
     go_ret
     exact ⟨rfl, Below.refl _ _⟩
    ·
     have d3 : decide (a2 < 0) = false := decide_eq_false h3
     have h4 : 4294967296 ≤ a2 := by
      rcases Int.lt_or_le a2 4294967296 with h | h
      ·
       exact absurd ⟨h1, h2, by omega, h⟩ hm
      ·
       exact h
     have d4 : decide (a2 ≥ 4294967296) = true := decide_eq_true h4
     clear hm
     go_enter Try.func11, Try.ntmps11
     go_wp2
     go_ret
     exact ⟨rfl, Below.refl _ _⟩
   ·
    have d2 : ((a1.size : Int) != 12) = true := by simp; omega
    clear hm
    go_enter Try.func11, Try.ntmps11
    go_wp2
    go_ret
    exact ⟨rfl, Below.refl _ _⟩
  ·
   have d1 : ((a0.size : Int) != 32) = true := by simp; omega
   clear hm
   go_enter Try.func11, Try.ntmps11
   go_wp2
   go_ret
   exact ⟨rfl, Below.refl _ _⟩

-- NOT PRINTED: function 14 (deaddropref1_Xor)

-- NOT PRINTED: function 4 (deaddroplaw1_ChachaXor)

-- NOT PRINTED: function 5 (deaddroplaw1_ChachaMade)

end Go.Proofs.Yticeijifmmegeaa.Q
