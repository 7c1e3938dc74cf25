/- The law ChachaXor's own walk (own work). -/
import Derived.Test.YticeijifmmegeaaRx2
import Derived.Test.YticeijifmmegeaaRx5
namespace Go.Proofs.Yticeijifmmegeaa.R
open Go.RowKit Go.Proofs.YticeijifmmegeaaW.PrintWords Go.Proofs.YticeijifmmegeaaW.PrintLast Go.Proofs.YticeijifmmegeaaW.PrintMore
attribute [local go_sem] max2_int min2_int max_two min_two max_three min_three max_four min_four   -- for this text's walks alone
set_option linter.unusedVariables false
set_option linter.unusedSimpArgs false
theorem cc_more {P : Program} {md : Region.Mode} {ops : Array Oper} {Q : Exit → Act → World → Prop} {S S' : World → Prop} : ∀ {n : Nat} {l : Array Bool} {a : Act} {w : World}, S' w → (∀ w, S' w → S w) → wpAnyLast P md ops Q S' [] n l a w → wpAnyLast P md ops Q S [] n l a w
  | 0, _, _, _, _, _, h => h
  | _ + 1, _, _, _, hS, hsub, h => ⟨h.1, fun i hi => wpOp_mono (fun _ _ h' => ⟨fun _ _ => hsub _ (h'.1 (by simp) hS), cc_more (h'.1 (by simp) hS) hsub h'.2⟩) (h.2 i hi)⟩
def deaddroplaw1_ChachaXor.T3 : Bool × List (List Nat × List Nat) := (true, [([], []), ([], []), ([], []), ([], []), ([0, 1, 2, 3], [0, 1, 2, 3]), ([4], [4]), ([], []), ([], []), ([], []), ([], []), ([9], [9]), ([6, 7, 8, 10, 4], [6, 7, 8, 10]), ([5, 11], [5, 11]), ([12, 11], [12]), ([13, 13], [13]), ([13, 14], [13, 14]), ([15, 14, 0, 1, 2, 3, 4, 5, 6, 7, 8, 9, 10, 11, 12, 13, 14, 15], [15])])
def deaddroplaw1_ChachaXor.B3 : List Nat := [0, 0, 0, 0, 15, 31, 0, 0, 0, 0, 512, 2015, 4095, 8191, 16383, 32767, 65535]
theorem deaddroplaw1_ChachaXor.tab3 : rtab .any (opsOf Try.f4 3) = deaddroplaw1_ChachaXor.T3 := by kernel_rfl
theorem deaddroplaw1_ChachaXor.bits3 : waitsOk deaddroplaw1_ChachaXor.T3.2 deaddroplaw1_ChachaXor.B3 = true := by kernel_rfl
set_option maxHeartbeats 1000000 in
set_option maxRecDepth 100000 in
theorem deaddroplaw1_ChachaXor.main (k : Nat) (a0 : ByteArray) (a1 : ByteArray) (a2 : Int) (A3 : Option Addr) (c3 : Nat) (l3 x : List Int) (y : ByteArray) (w : World) (hr3 : Kd.C (Kd.int .u8) w A3 l3.length l3) (hc3 : l3.length ≤ c3)
    (h1 : a0.size ≤ 100) (h2 : a1.size ≤ 100) (h3 : l3.length ≤ 400) (hx : chacha_Xor.f a0 a1 a2 l3 = some x) (hy : deaddropref1_Xor.f a0 a1 a2 (strOfNums l3) = some y) (he : strOfNums x = y) (hz : deaddroplaw1_awake.f k = some true) :
    Calls Try.prog 4 #[.string a0, .string a1, .int .i64 a2, .slice A3 l3.length c3] w fun e w' => e = .returned (.bool true) ∧ Below w.heap.size w w' := by
  subst he
  have d1 : decide ((a0.size : Int) > 100) = false := decide_eq_false (by omega)
  have d2 : decide ((a1.size : Int) > 100) = false := decide_eq_false (by omega)
  have d3 : decide ((l3.length : Int) > 400) = false := decide_eq_false (by omega)
  have HR := Aside0.mk hr3
  clear hr3
  go_enter Try.func4, Try.ntmps4
  go_wp2
  have HR1 := Aside0.mk (Kd.C_drew HR.out)
  refine start_ (n := 17) (S := fun w' => Kd.C (Kd.int .u8) w' A3 l3.length l3) (ds := []) #[false, false, false, false, false, false, false, false, false, false, false, false, false, false, false, false, false] (by kernel_rfl) rfl rfl HR1.out (fun hHeld => ?_); refine with_tabW deaddroplaw1_ChachaXor.tab3 deaddroplaw1_ChachaXor.bits3 (fun HT_ HW_ => ?_)
  refine pure_ (i := 0) (N := some 23) (v := ?_) (a' := ?_) #[true, false, false, false, false, false, false, false, false, false, false, false, false, false, false, false, false] rfl rfl (any_of HT_.out (by kernel_rfl)) (fun _ _ _ h => h) (Or.inl ⟨by rfl, ?_⟩) ?_ ?_
  rotate_left
  · intro w'
    go_simp
    with_reducible rfl
  rotate_left
  · simp only [Act.put, List.setIfInBounds_toArray, List.set_cons_zero, List.set_cons_succ]
    rfl
  refine pure_ (i := 1) (N := some 24) (v := ?_) (a' := ?_) #[true, true, false, false, false, false, false, false, false, false, false, false, false, false, false, false, false] rfl rfl (any_of HT_.out (by kernel_rfl)) (fun _ _ _ h => h) (Or.inl ⟨by rfl, ?_⟩) ?_ ?_
  rotate_left
  · intro w'
    go_simp
    with_reducible rfl
  rotate_left
  · simp only [Act.put, List.setIfInBounds_toArray, List.set_cons_zero, List.set_cons_succ]
    rfl
  refine pure_ (i := 2) (N := some 25) (v := ?_) (a' := ?_) #[true, true, true, false, false, false, false, false, false, false, false, false, false, false, false, false, false] rfl rfl (any_of HT_.out (by kernel_rfl)) (fun _ _ _ h => h) (Or.inl ⟨by rfl, ?_⟩) ?_ ?_
  rotate_left
  · intro w'
    go_simp
    with_reducible rfl
  rotate_left
  · simp only [Act.put, List.setIfInBounds_toArray, List.set_cons_zero, List.set_cons_succ]
    rfl
  refine pure_ (i := 3) (N := some 26) (v := ?_) (a' := ?_) #[true, true, true, true, false, false, false, false, false, false, false, false, false, false, false, false, false] rfl rfl (any_of HT_.out (by kernel_rfl)) (fun _ _ _ h => h) (Or.inl ⟨by rfl, ?_⟩) ?_ ?_
  rotate_left
  · intro w'
    go_simp
    with_reducible rfl
  rotate_left
  · simp only [Act.put, List.setIfInBounds_toArray, List.set_cons_zero, List.set_cons_succ]
    rfl
  refine pure_ (i := 6) (N := some 29) (v := ?_) (a' := ?_) #[true, true, true, true, false, false, true, false, false, false, false, false, false, false, false, false, false] rfl rfl (any_of HT_.out (by kernel_rfl)) (fun _ _ _ h => h) (Or.inl ⟨by rfl, ?_⟩) ?_ ?_
  rotate_left
  · intro w'
    go_simp
    with_reducible rfl
  rotate_left
  · simp only [Act.put, List.setIfInBounds_toArray, List.set_cons_zero, List.set_cons_succ]
    rfl
  refine pure_ (i := 7) (N := some 30) (v := ?_) (a' := ?_) #[true, true, true, true, false, false, true, true, false, false, false, false, false, false, false, false, false] rfl rfl (any_of HT_.out (by kernel_rfl)) (fun _ _ _ h => h) (Or.inl ⟨by rfl, ?_⟩) ?_ ?_
  rotate_left
  · intro w'
    go_simp
    with_reducible rfl
  rotate_left
  · simp only [Act.put, List.setIfInBounds_toArray, List.set_cons_zero, List.set_cons_succ]
    rfl
  refine pure_ (i := 8) (N := some 31) (v := ?_) (a' := ?_) #[true, true, true, true, false, false, true, true, true, false, false, false, false, false, false, false, false] rfl rfl (any_of HT_.out (by kernel_rfl)) (fun _ _ _ h => h) (Or.inl ⟨by rfl, ?_⟩) ?_ ?_
  rotate_left
  · intro w'
    go_simp
    with_reducible rfl
  rotate_left
  · simp only [Act.put, List.setIfInBounds_toArray, List.set_cons_zero, List.set_cons_succ]
    rfl
  refine pure_ (i := 9) (N := some 32) (v := ?_) (a' := ?_) #[true, true, true, true, false, false, true, true, true, true, false, false, false, false, false, false, false] rfl rfl (any_of HT_.out (by kernel_rfl)) (fun _ _ _ h => h) (Or.inl ⟨by rfl, ?_⟩) ?_ ?_
  rotate_left
  · intro w'
    go_simp
    with_reducible rfl
  rotate_left
  · simp only [Act.put, List.setIfInBounds_toArray, List.set_cons_zero, List.set_cons_succ]
    rfl
  refine take_ (i := 10) (N := some 33) (v := ?_) (a' := ?_) #[true, true, true, true, false, false, true, true, true, true, true, false, false, false, false, false, false] rfl rfl (take_ofW HT_.out HW_.out (by kernel_rfl)) (fun _ _ _ h => h) (Or.inl ⟨by rfl, ?_⟩) hHeld ?_ ?_
  rotate_left
  · intro w' s0
    have hq := Kd.C_string (P := Try.prog) (A := A3) (c := c3) Try.underlying25 Try.underlying5 Try.underlying9 s0
    go_simp
    with_reducible rfl
  rotate_left
  · simp only [Act.put, List.setIfInBounds_toArray, List.set_cons_zero, List.set_cons_succ]
    rfl
  refine one_ (i := 4) (N := some 27) #[true, true, true, true, true, false, true, true, true, true, true, false, false, false, false, false, false] rfl rfl (one_of HT_.out (by kernel_rfl)) (by decide) (fun K hK => ?_)
  refine goes_ Try.func13 (by kernel_rfl) rfl #[.string a0, .string a1, .int .i64 a2, .slice A3 l3.length c3] (by rfl) rfl rfl (by (try simp only [List.map_toArray, List.map_cons, List.map_nil]); first | done | rfl) ?_
  with_reducible refine (chacha_Xor.calls a0 a1 a2 A3 c3 l3 _ _ hHeld hc3 hx).mono ?_
  rintro e w2 ⟨v2, rfl, ho2, hb2⟩
  refine ⟨_, rfl, ?_⟩
  have hH2 := Kd.C_below hHeld hb2
  refine hK.out _ _ hH2 (fun hHeld => ?_)
  clear hK K
  refine norm_ (a' := ?_) ?_ ?_
  rotate_left
  · show Act.put _ (some 27) _ = _
    simp only [Act.put, List.setIfInBounds_toArray, List.set_cons_zero, List.set_cons_succ]
    rfl
  refine cc_more (S' := fun w' => Kd.C (Kd.int .u8) w' A3 l3.length l3 ∧ Kd.R (Kd.int .u8) 5 w' w.heap.size (fun _ => True) v2 x) ⟨hH2, Kd.R_lower ho2 (Nat.le_refl _)⟩ (fun _ h => h.1) ?_
  have hHeld2 : Kd.C (Kd.int .u8) w2 A3 l3.length l3 ∧ Kd.R (Kd.int .u8) 5 w2 w.heap.size (fun _ => True) v2 x := ⟨hH2, Kd.R_lower ho2 (Nat.le_refl _)⟩
  clear hHeld
  have hHeld := hHeld2
  refine take_ (i := 5) (N := some 28) (v := ?_) (a' := ?_) #[true, true, true, true, true, true, true, true, true, true, true, false, false, false, false, false, false] rfl rfl (take_ofW HT_.out HW_.out (by kernel_rfl)) (fun _ _ _ h => h) (Or.inl ⟨by rfl, ?_⟩) hHeld ?_ ?_
  rotate_left
  · rintro w' ⟨s0, s1⟩
    have hq := own_string (P := Try.prog) Try.underlying25 Try.underlying5 Try.underlying9 (Kd.own_of_R s1)
    go_simp
    with_reducible rfl
  rotate_left
  · simp only [Act.put, List.setIfInBounds_toArray, List.set_cons_zero, List.set_cons_succ]
    rfl
  refine one_ (i := 11) (N := some 34) #[true, true, true, true, true, true, true, true, true, true, true, true, false, false, false, false, false] rfl rfl (one_of HT_.out (by kernel_rfl)) (by decide) (fun K hK => ?_)
  refine goes_ Try.func14 (by kernel_rfl) rfl #[.string a0, .string a1, .int .i64 a2, .string (strOfNums l3)] (by rfl) rfl rfl (by (try simp only [List.map_toArray, List.map_cons, List.map_nil]); first | done | rfl) ?_
  with_reducible refine (deaddropref1_Xor.calls a0 a1 a2 (strOfNums l3) _ _ hy).mono ?_
  rintro e w3 ⟨rfl, hb3⟩
  refine ⟨_, rfl, ?_⟩
  have hH3 : Kd.C (Kd.int .u8) w3 A3 l3.length l3 ∧ Kd.R (Kd.int .u8) 5 w3 w.heap.size (fun _ => True) v2 x := ⟨Kd.C_below hHeld.1 hb3, Kd.R_below hHeld.2 hb3⟩
  refine hK.out _ _ hH3 (fun hHeld => ?_)
  clear hK K
  refine norm_ (a' := ?_) ?_ ?_
  rotate_left
  · show Act.put _ (some 34) _ = _
    simp only [Act.put, List.setIfInBounds_toArray, List.set_cons_zero, List.set_cons_succ]
    rfl
  refine pure_ (i := 12) (N := some 35) (v := ?_) (a' := ?_) #[true, true, true, true, true, true, true, true, true, true, true, true, true, false, false, false, false] rfl rfl (any_of HT_.out (by kernel_rfl)) (fun _ _ _ h => h) (Or.inl ⟨by rfl, ?_⟩) ?_ ?_
  rotate_left
  · intro w'
    go_simp
    with_reducible rfl
  rotate_left
  · simp only [Act.put, List.setIfInBounds_toArray, List.set_cons_zero, List.set_cons_succ]
    rfl
  refine pure_ (i := 13) (N := some 36) (v := ?_) (a' := ?_) #[true, true, true, true, true, true, true, true, true, true, true, true, true, true, false, false, false] rfl rfl (any_of HT_.out (by kernel_rfl)) (fun _ _ _ h => h) (Or.inl ⟨by rfl, ?_⟩) ?_ ?_
  rotate_left
  · intro w'
    go_simp
    with_reducible rfl
  rotate_left
  · simp only [Act.put, List.setIfInBounds_toArray, List.set_cons_zero, List.set_cons_succ]
    rfl
  refine one_ (i := 14) (N := some 37) #[true, true, true, true, true, true, true, true, true, true, true, true, true, true, true, false, false] rfl rfl (one_of HT_.out (by kernel_rfl)) (by decide) (fun K hK => ?_)
  refine goes_ Try.func12 (by kernel_rfl) rfl #[] (by rfl) rfl rfl (by (try simp only [List.map_toArray, List.map_cons, List.map_nil]); first | done | rfl) ?_
  with_reducible refine (deaddroplaw1_awake.calls k _ _ hz).mono ?_
  rintro e w4 ⟨rfl, hb4⟩
  refine ⟨_, rfl, ?_⟩
  have hH4 : Kd.C (Kd.int .u8) w4 A3 l3.length l3 ∧ Kd.R (Kd.int .u8) 5 w4 w.heap.size (fun _ => True) v2 x := ⟨Kd.C_below hHeld.1 hb4, Kd.R_below hHeld.2 hb4⟩
  refine hK.out _ _ hH4 (fun hHeld => ?_)
  clear hK K
  refine norm_ (a' := ?_) ?_ ?_
  rotate_left
  · show Act.put _ (some 37) _ = _
    simp only [Act.put, List.setIfInBounds_toArray, List.set_cons_zero, List.set_cons_succ]
    rfl
  refine pure_ (i := 15) (N := some 38) (v := ?_) (a' := ?_) #[true, true, true, true, true, true, true, true, true, true, true, true, true, true, true, true, false] rfl rfl (any_of HT_.out (by kernel_rfl)) (fun _ _ _ h => h) (Or.inl ⟨by rfl, ?_⟩) ?_ ?_
  rotate_left
  · intro w'
    go_simp
    with_reducible rfl
  rotate_left
  · simp only [Act.put, List.setIfInBounds_toArray, List.set_cons_zero, List.set_cons_succ]
    rfl
  refine pure_ (i := 16) (N := some 8) (v := ?_) (a' := ?_) #[true, true, true, true, true, true, true, true, true, true, true, true, true, true, true, true, true] rfl rfl (any_of HT_.out (by kernel_rfl)) (fun _ _ _ h => h) (Or.inl ⟨by rfl, ?_⟩) ?_ ?_
  rotate_left
  · intro w'
    go_simp
    with_reducible rfl
  rotate_left
  · simp only [Act.put, List.setIfInBounds_toArray, List.set_cons_zero, List.set_cons_succ]
    rfl
  refine done_ (done_of HT_.out (by kernel_rfl)) ?_
  go_wp2
  go_ret
  have b2 : Below w.heap.size w w2 := below_then (below_drew1 (Below.refl _ _)) (Nat.le_refl _) hb2
  have b3 := below_then b2 b2.size hb3
  exact ⟨rfl, below_then b3 b3.size hb4⟩
def deaddroplaw1_ChachaXor.f (k : Nat) (a0 : ByteArray) (a1 : ByteArray) (a2 : Int) (l3 : List Int) : Option (Bool) :=
  if (a0.size ≤ 100 ∧ a1.size ≤ 100) ∧ l3.length ≤ 400 then ((chacha_Xor.f a0 a1 a2 l3).bind fun x => (deaddropref1_Xor.f a0 a1 a2 (strOfNums l3)).bind fun y => if strOfNums x = y then deaddroplaw1_awake.f k else none) else deaddroplaw1_awake.f k
set_option maxHeartbeats 1000000 in
set_option maxRecDepth 100000 in
theorem deaddroplaw1_ChachaXor.calls (k : Nat) (a0 : ByteArray) (a1 : ByteArray) (a2 : Int) (A3 : Option Addr) (c3 : Nat) (l3 : List Int) (w : World) (hr3 : Kd.C (Kd.int .u8) w A3 l3.length l3) (hc3 : l3.length ≤ c3) (h : deaddroplaw1_ChachaXor.f k a0 a1 a2 l3 = some true) :
    Calls Try.prog 4 #[.string a0, .string a1, .int .i64 a2, .slice A3 l3.length c3] w fun e w' => e = .returned (.bool true) ∧ Below w.heap.size w w' := by
  unfold deaddroplaw1_ChachaXor.f at h
  by_cases hc : (a0.size ≤ 100 ∧ a1.size ≤ 100) ∧ l3.length ≤ 400
  · rw [if_pos hc] at h
    obtain ⟨x, hx, h⟩ := Option.bind_eq_some_iff.mp h
    obtain ⟨y, hy, h⟩ := Option.bind_eq_some_iff.mp h
    by_cases he : strOfNums x = y
    · rw [if_pos he] at h
      exact deaddroplaw1_ChachaXor.main k a0 a1 a2 A3 c3 l3 x y w hr3 hc3 hc.1.1 hc.1.2 hc.2 hx hy he h
    · rw [if_neg he] at h
      exact absurd h (by simp)
  · rw [if_neg hc] at h
    clear hr3 hc3
    by_cases h1 : a0.size ≤ 100
    · have d1 : decide ((a0.size : Int) > 100) = false := decide_eq_false (by omega)
      by_cases h2 : a1.size ≤ 100
      · have d2 : decide ((a1.size : Int) > 100) = false := decide_eq_false (by omega)
        have d3 : decide ((l3.length : Int) > 400) = true := decide_eq_true (by omega)
        clear hc
        go_enter Try.func4, Try.ntmps4
        go_wp2_with ((with_reducible refine gate_callee (f := 12) rfl ?_); refine goesL_ (some 22) rfl rfl Try.func12 (by kernel_rfl) rfl #[] rfl (by (try simp only [List.map_toArray, List.map_cons, List.map_nil]); first | done | rfl) ?_; (with_reducible refine (deaddroplaw1_awake.calls k _ _ h).mono ?_); rintro e w1 ⟨rfl, hb1⟩; refine ⟨_, rfl, ?_⟩)
        go_ret
        exact ⟨rfl, hb1⟩
      · have d2 : decide ((a1.size : Int) > 100) = true := decide_eq_true (by omega)
        clear hc
        go_enter Try.func4, Try.ntmps4
        go_wp2_with ((with_reducible refine gate_callee (f := 12) rfl ?_); refine goesL_ (some 22) rfl rfl Try.func12 (by kernel_rfl) rfl #[] rfl (by (try simp only [List.map_toArray, List.map_cons, List.map_nil]); first | done | rfl) ?_; (with_reducible refine (deaddroplaw1_awake.calls k _ _ h).mono ?_); rintro e w1 ⟨rfl, hb1⟩; refine ⟨_, rfl, ?_⟩)
        go_ret
        exact ⟨rfl, hb1⟩
    · have d1 : decide ((a0.size : Int) > 100) = true := decide_eq_true (by omega)
      clear hc
      go_enter Try.func4, Try.ntmps4
      go_wp2_with ((with_reducible refine gate_callee (f := 12) rfl ?_); refine goesL_ (some 22) rfl rfl Try.func12 (by kernel_rfl) rfl #[] rfl (by (try simp only [List.map_toArray, List.map_cons, List.map_nil]); first | done | rfl) ?_; (with_reducible refine (deaddroplaw1_awake.calls k _ _ h).mono ?_); rintro e w1 ⟨rfl, hb1⟩; refine ⟨_, rfl, ?_⟩)
      go_ret
      exact ⟨rfl, hb1⟩
end Go.Proofs.Yticeijifmmegeaa.R
