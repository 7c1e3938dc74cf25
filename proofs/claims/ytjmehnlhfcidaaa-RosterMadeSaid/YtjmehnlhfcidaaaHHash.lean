-- The reference's hash of a record ends, for every record without wraps (own work)
import Derived.Test.YtjmehnlhfcidaaaPx8
import Derived.Test.YtjmehnlhfcidaaaHTot
namespace Go.Proofs.Ytjmehnlhfcidaaa.HP
open Go.RowKit Go.Proofs.Ytjmehnlhfcidaaa.P Go.Proofs.YtjmehnlhfcidaaaW.PrintWords Go.Proofs.YtjmehnlhfcidaaaW.PrintLast Go.Proofs.Ytjmehnlhfcidaaa.HT

theorem wr {n : Int} (h : -9223372036854775808 ≤ n ∧ n ≤ 9223372036854775807) : wrap64 n = n := by unfold wrap64; omega
theorem wu (n : Int) : IntKind.u64.wrap n = n % 18446744073709551616 := by simp [IntKind.wrap, IntKind.bits, IntKind.signed]
theorem Eight_loop (x3 : Int) : ∀ (m : Nat) (x4 : List Int) (x5 : Int), 0 ≤ x5 → x5 + m = 8 → (x4.length : Int) = x5 → Tot (fun k => deaddropref1_Eight.l0 k x3 x4 x5) (fun r => r.size = 8)
  | 0, x4, x5, h0, h1, h2 => by
    refine Tot.step ?_
    simp only [deaddropref1_Eight.l0]
    refine Tot.neg (by omega) (Tot.now ?_)
    rw [strOfNums_size]
    omega
  | m + 1, x4, x5, h0, h1, h2 => by
    refine Tot.step ?_
    simp only [deaddropref1_Eight.l0]
    refine Tot.pos (by omega) (Tot.pos (by rw [wu]; omega) (Tot.pos (by omega) ?_))
    simp only [wr (n := x5 + 1) (by omega)]
    exact Eight_loop x3 m _ _ (by omega) (by omega) (by simp only [List.length_append, List.length_singleton]; omega)
theorem Eight_tot (a : Int) : Tot (fun k => deaddropref1_Eight.f k a) (fun r => r.size = 8) := by
  unfold deaddropref1_Eight.f
  exact Eight_loop _ 8 [] 0 (by omega) (by omega) rfl
theorem left_tot (a b : Int) (h0 : 0 ≤ b) (_h1 : b ≤ 32) : Tot (fun _ => deaddropref1_left.f a b) (fun _ => True) := by
  unfold deaddropref1_left.f
  exact Tot.pos h0 (Tot.pos (by rw [wu]; omega) (Tot.now trivial))
theorem turns_tot (a b c d : Int) (hb : 0 ≤ b ∧ b ≤ 32) (hc : 0 ≤ c ∧ c ≤ 32) (hd : 0 ≤ d ∧ d ≤ 32) : Tot (fun _ => deaddropref1_turns.f a b c d) (fun _ => True) := by
  have w : ∀ {x : Int}, 0 ≤ x ∧ x ≤ 32 → 0 ≤ IntKind.u64.wrap (32 - x) ∧ IntKind.u64.wrap (32 - x) ≤ 32 := by
    intro x hx
    rw [wu]
    omega
  unfold deaddropref1_turns.f
  refine Tot.bind (left_tot _ _ (w hb).1 (w hb).2) fun _ _ => ?_
  refine Tot.bind (left_tot _ _ (w hc).1 (w hc).2) fun _ _ => ?_
  exact Tot.bind (left_tot _ _ (w hd).1 (w hd).2) fun _ _ => Tot.now trivial

theorem l3_tot (x4 : List Int) (h4 : x4.length = 8) : ∀ (m : Nat) (x16 : List Int) (x17 : Int), 0 ≤ x17 → x17 + m = 8 → (x16.length : Int) = 4 * x17 → Tot (fun k => deaddropref1_SumBody.l3 k x4 x16 x17) (fun r => r.size = 32)
  | 0, x16, x17, h0, h1, h2 => by
    refine Tot.step ?_
    simp only [deaddropref1_SumBody.l3]
    refine Tot.neg (by omega) (Tot.now ?_)
    rw [strOfNums_size]
    omega
  | m + 1, x16, x17, h0, h1, h2 => by
    refine Tot.step ?_
    simp only [deaddropref1_SumBody.l3, Option.bind_some, List.length_cons, List.length_nil, wr (n := x17 + 1) (by omega)]
    refine Tot.pos (by omega) (Tot.pos (by omega) (Tot.pos (by omega) (Tot.pos (by omega) ?_)))
    exact l3_tot x4 h4 m _ _ (by omega) (by omega) (by simp only [List.length_append, List.length_cons, List.length_nil]; omega)

/-- The loop behind the rounds: the block's words are added. -/
theorem l2_tot {Q : ByteArray → Prop} (x3 x5 x6 x8 : List Int) (x7 : Int) (h8 : x8.length = 8) (h6 : x6.length = 64) (hn : ∀ y4 : List Int, y4.length = 8 → Tot (fun k => deaddropref1_SumBody.l0 k x3 y4 x5 x6 (wrap64 (x7 + 64))) Q) :
    ∀ (m : Nat) (x4 : List Int) (x15 : Int), 0 ≤ x15 → x15 + m = 8 → x4.length = 8 → Tot (fun k => deaddropref1_SumBody.l2 k x3 x4 x5 x6 x7 x8 x15) Q
  | 0, x4, x15, h0, h1, h2 => by
    refine Tot.step ?_
    simp only [deaddropref1_SumBody.l2]
    exact Tot.neg (by omega) (hn x4 h2)
  | m + 1, x4, x15, h0, h1, h2 => by
    refine Tot.step ?_
    simp only [deaddropref1_SumBody.l2, wr (n := x15 + 1) (by omega)]
    refine Tot.pos (by omega) (Tot.pos (by omega) (Tot.pos (by omega) (Tot.pos (by omega) ?_)))
    exact l2_tot x3 x5 x6 x8 x7 h8 h6 hn m _ _ (by omega) (by omega) (by simp only [List.length_set, h2])

theorem l1_tot {Q : ByteArray → Prop} (x3 x4 x5 : List Int) (x7 : Int) (h3 : x7 + 64 ≤ x3.length) (hs : (x3.length : Int) < 140737488355328) (h7 : 0 ≤ x7) (h4 : x4.length = 8) (h5 : x5.length = 64)
    (hn : ∀ y4 y6 : List Int, y4.length = 8 → y6.length = 64 → Tot (fun k => deaddropref1_SumBody.l0 k x3 y4 x5 y6 (wrap64 (x7 + 64))) Q) :
    ∀ (m : Nat) (x6 x8 : List Int) (x9 : Int), 0 ≤ x9 → x9 + m = 64 → x6.length = 64 → x8.length = 8 → Tot (fun k => deaddropref1_SumBody.l1 k x3 x4 x5 x6 x7 x8 x9) Q
  | 0, x6, x8, x9, h0, h1, h6, h8 => by
    refine Tot.step ?_
    simp only [deaddropref1_SumBody.l1]
    exact Tot.neg (by omega) (l2_tot x3 x5 x6 x8 x7 h8 h6 (fun y4 hy => hn y4 x6 hy h6) 8 x4 0 (by omega) (by omega) h4)
  | m + 1, x6, x8, x9, h0, h1, h6, h8 => by
    have j2 : ∀ y6 : List Int, y6.length = 64 → Tot (fun k => deaddropref1_SumBody.j2 k x3 x4 x5 y6 x7 x8 x9) Q := by
      intro y6 hy6
      refine Tot.step ?_
      simp only [deaddropref1_SumBody.j2, h8, h5, hy6, Option.bind_some, List.length_cons, List.length_nil, List.length_append, List.length_take, wr (n := x9 + 1) (by omega)]
      refine Tot.pos (by omega) (Tot.pos (by omega) (Tot.bind (turns_tot _ _ _ _ (by omega) (by omega) (by omega)) fun _ _ => ?_))
      refine Tot.pos (by omega) (Tot.pos (by omega) (Tot.pos (by omega) (Tot.pos (by omega) (Tot.pos (by omega) (Tot.pos (by omega) (Tot.bind (turns_tot _ _ _ _ (by omega) (by omega) (by omega)) fun _ _ => ?_))))))
      refine Tot.pos (by omega) (Tot.pos (by omega) (Tot.pos (by omega) (Tot.pos (by omega) (Tot.pos (by omega) ?_))))
      exact l1_tot x3 x4 x5 x7 h3 hs h7 h4 h5 hn m _ _ _ (by omega) (by omega) hy6 (by simp only [List.length_set, List.length_append, List.length_cons, List.length_nil, List.length_take, h8]; omega)
    refine Tot.step ?_
    have e4 : wrap64 (4 * x9) = 4 * x9 := wr (by omega)
    have ea : wrap64 (x7 + 4 * x9) = x7 + 4 * x9 := wr (by omega)
    have eb : wrap64 (x9 - 15) = x9 - 15 := wr (by omega)
    have ec : wrap64 (x9 - 2) = x9 - 2 := wr (by omega)
    have ed : wrap64 (x9 - 16) = x9 - 16 := wr (by omega)
    have ee : wrap64 (x9 - 7) = x9 - 7 := wr (by omega)
    simp only [deaddropref1_SumBody.l1, e4, ea, eb, ec, ed, ee, h6, List.length_drop]
    refine Tot.pos (by omega) (Tot.ite (fun h16 => ?_) (fun h16 => ?_))
    · refine Tot.pos (by omega) (Tot.pos (by omega) (Tot.pos (by omega) (Tot.pos (by omega) (Tot.pos (by omega) (Tot.pos (by omega) (Tot.pos (by omega) (Tot.pos (by omega) ?_)))))))
      exact j2 _ (by simp only [List.length_set, h6])
    · refine Tot.pos (by omega) (Tot.pos (by omega) (Tot.pos (by omega) (Tot.pos (by omega) (Tot.pos (by omega) (Tot.pos (by omega) (Tot.pos (by omega) (Tot.pos (by omega) ?_)))))))
      refine Tot.bind (left_tot _ _ (by omega) (by omega)) fun _ _ => ?_
      refine Tot.bind (left_tot _ _ (by omega) (by omega)) fun _ _ => ?_
      refine Tot.bind (left_tot _ _ (by omega) (by omega)) fun _ _ => ?_
      refine Tot.bind (left_tot _ _ (by omega) (by omega)) fun _ _ => ?_
      exact Tot.pos (by omega) (Tot.pos (by omega) (j2 _ (by simp only [List.length_set, h6])))

theorem l0_tot (x3 x5 : List Int) (hs : (x3.length : Int) < 140737488355328) (h5 : x5.length = 64) : ∀ (m : Nat) (x4 x6 : List Int) (x7 : Int), 0 ≤ x7 → x7 + 64 * m = x3.length → x4.length = 8 → x6.length = 64 → Tot (fun k => deaddropref1_SumBody.l0 k x3 x4 x5 x6 x7) (fun r => r.size = 32)
  | 0, x4, x6, x7, h0, h1, h4, h6 => by
    refine Tot.step ?_
    simp only [deaddropref1_SumBody.l0]
    exact Tot.neg (by omega) (l3_tot x4 h4 8 [] 0 (by omega) (by omega) (by simp))
  | m + 1, x4, x6, x7, h0, h1, h4, h6 => by
    refine Tot.step ?_
    simp only [deaddropref1_SumBody.l0, Option.bind_some, List.length_nil, List.nil_append]
    refine Tot.pos (by omega) (Tot.pos (by omega) ?_)
    refine l1_tot x3 x4 x5 x7 (by omega) hs h0 h4 h5 (fun y4 y6 hy4 hy6 => ?_) 64 x6 x4 0 (by omega) (by omega) h6 h4
    rw [wr (n := x7 + 64) (by omega)]
    exact l0_tot x3 x5 hs h5 m y4 y6 _ (by omega) (by omega) hy4 hy6

theorem SumBody_tot (a0 : ByteArray) (l1 : List Int) (h : l1.length % 64 = 0) (hs : (l1.length : Int) < 140737488355328) : Tot (fun k => deaddropref1_SumBody.f k a0 l1) (fun r => r.size = 32) := by
  simp only [deaddropref1_SumBody.f, deaddropref1_constants.f, Option.bind_some]
  exact Tot.pos (by omega) (l0_tot l1 _ hs (by rfl) (l1.length / 64) _ _ 0 (by omega) (by omega) (by rfl) (by simp))

theorem Sum_loop (a0 : ByteArray) : ∀ (m : Nat) (x3 : List Int), (x3.length + m) % 64 = 56 → x3.length + m < 140737488355000 → Tot (fun k => deaddropref1_Sum.l0 k a0 x3) (fun r => r.size = 32)
  | m, x3, h1, h2 => by
    refine Tot.step ?_
    simp only [deaddropref1_Sum.l0]
    refine Tot.ite (fun _ => Tot.bind (Eight_tot _) fun t ht => ?_) (fun hc => ?_)
    · refine Tot.pos (by omega) (SumBody_tot _ _ ?_ ?_) <;> rw [List.length_append, bytesOf_length, ht] <;> omega
    · cases m with
      | zero => omega
      | succ m =>
        refine Tot.pos (by omega) (Sum_loop a0 m _ ?_ ?_) <;> rw [List.length_append, List.length_singleton] <;> omega
  termination_by m => m
theorem Sum_tot (a0 : ByteArray) (h : a0.size < 140737488354000) : Tot (fun k => deaddropref1_Sum.f k a0) (fun r => r.size = 32) := by
  unfold deaddropref1_Sum.f
  refine Tot.pos (by rw [bytesOf_length]; omega) (Sum_loop a0 ((119 - a0.size % 64) % 64) _ ?_ ?_) <;> rw [List.length_append, List.length_singleton, bytesOf_length] <;> omega

/-! The wire's texts: lists without lists. -/
def Flat (x : S51) : Prop := x.f3 = []
theorem rd_T51_mem (l : List S51) (i : Int) (h0 : 0 ≤ i) (h1 : i < l.length) : rd_T51 l i ∈ l := by
  unfold rd_T51
  rw [List.getD_eq_getElem?_getD, List.getElem?_eq_getElem (by omega), Option.getD_some]
  exact List.getElem_mem _
theorem right_flat (x : S51) (hx : Flat x) (d : Int) : Tot (fun k => deaddropref1_right.f k x.f0 x.f1 x.f2 x.f3 d) (fun _ => True) := by
  have hj : ∀ b, Tot (fun k => deaddropref1_right.j0 k d b x.f0 x.f1 x.f2 []) (fun _ => True) := by
    intro b
    refine Tot.step ?_
    simp only [deaddropref1_right.j0]
    refine Tot.ite (fun _ => Tot.now trivial) (fun _ => Tot.step ?_)
    simp only [deaddropref1_right.l0]
    exact Tot.neg (by simp) (Tot.now trivial)
  rw [hx]
  refine Tot.step ?_
  simp only [deaddropref1_right.f]
  repeat' first
    | exact hj _
    | exact Tot.now trivial
    | refine Tot.ite (fun _ => ?_) (fun _ => ?_)
theorem right_loop (l : List S51) (hl : ∀ x ∈ l, Flat x) (hs : (l.length : Int) < 1000) (a0 a1 : Int) (a2 : ByteArray) (d : Int) : ∀ (m : Nat) (i : Int), 0 ≤ i → i + m = l.length → Tot (fun k => deaddropref1_right.l0 k d i a0 a1 a2 l) (fun _ => True)
  | 0, i, h0, h1 => by
    refine Tot.step ?_
    simp only [deaddropref1_right.l0]
    exact Tot.neg (by omega) (Tot.now trivial)
  | m + 1, i, h0, h1 => by
    refine Tot.step ?_
    simp only [deaddropref1_right.l0, wr (n := i + 1) (by omega)]
    refine Tot.pos (by omega) (Tot.pos (by omega) (Tot.bind (right_flat _ (hl _ (rd_T51_mem l i h0 (by omega))) _) fun _ _ => ?_))
    exact Tot.ite (fun _ => right_loop l hl hs a0 a1 a2 d m _ (by omega) (by omega)) (fun _ => Tot.now trivial)
theorem right_tot (l : List S51) (hl : ∀ x ∈ l, Flat x) (hs : (l.length : Int) < 1000) (a0 a1 : Int) (a2 : ByteArray) (d : Int) : Tot (fun k => deaddropref1_right.f k a0 a1 a2 l d) (fun _ => True) := by
  have hj : ∀ b, Tot (fun k => deaddropref1_right.j0 k d b a0 a1 a2 l) (fun _ => True) := by
    intro b
    refine Tot.step ?_
    simp only [deaddropref1_right.j0]
    exact Tot.ite (fun _ => Tot.now trivial) (fun _ => right_loop l hl hs a0 a1 a2 d l.length 0 (by omega) (by omega))
  refine Tot.step ?_
  simp only [deaddropref1_right.f]
  repeat' first
    | exact hj _
    | exact Tot.now trivial
    | refine Tot.ite (fun _ => ?_) (fun _ => ?_)

theorem deep_flat (x : S51) (hx : Flat x) (d : Int) : Tot (fun k => deaddropref1_deep.f k x.f0 x.f1 x.f2 x.f3 d) (fun _ => True) := by
  rw [hx]
  refine Tot.step ?_
  simp only [deaddropref1_deep.f]
  refine Tot.ite (fun _ => Tot.step ?_) (fun _ => Tot.now trivial)
  simp only [deaddropref1_deep.l0]
  exact Tot.neg (by simp) (Tot.now trivial)
theorem deep_loop (l : List S51) (hl : ∀ x ∈ l, Flat x) (hs : (l.length : Int) < 1000) (a0 a1 : Int) (a2 : ByteArray) (d : Int) : ∀ (m : Nat) (b i : Int), 0 ≤ i → i + m = l.length → Tot (fun k => deaddropref1_deep.l0 k d b i a0 a1 a2 l) (fun _ => True)
  | 0, b, i, h0, h1 => by
    refine Tot.step ?_
    simp only [deaddropref1_deep.l0]
    exact Tot.neg (by omega) (Tot.now trivial)
  | m + 1, b, i, h0, h1 => by
    refine Tot.step ?_
    simp only [deaddropref1_deep.l0, wr (n := i + 1) (by omega)]
    refine Tot.pos (by omega) (Tot.ite (fun _ => Tot.pos (by omega) (Tot.bind (deep_flat _ (hl _ (rd_T51_mem l i h0 (by omega))) _) fun _ _ => ?_)) (fun _ => Tot.now trivial))
    exact deep_loop l hl hs a0 a1 a2 d m _ _ (by omega) (by omega)
theorem deep_tot (l : List S51) (hl : ∀ x ∈ l, Flat x) (hs : (l.length : Int) < 1000) (a0 a1 : Int) (a2 : ByteArray) (d : Int) : Tot (fun k => deaddropref1_deep.f k a0 a1 a2 l d) (fun _ => True) := by
  refine Tot.step ?_
  simp only [deaddropref1_deep.f]
  exact Tot.ite (fun _ => deep_loop l hl hs a0 a1 a2 d l.length _ 0 (by omega) (by omega)) (fun _ => Tot.now trivial)
theorem MayWire_tot (l : List S51) (hl : ∀ x ∈ l, Flat x) (hs : (l.length : Int) < 1000) (a0 a1 : Int) (a2 : ByteArray) : Tot (fun k => deaddropref1_MayWire.f k a0 a1 a2 l) (fun _ => True) := by
  unfold deaddropref1_MayWire.f
  refine Tot.bind (right_tot l hl hs _ _ _ _) fun _ _ => Tot.ite (fun _ => ?_) (fun _ => Tot.now trivial)
  exact Tot.bind (deep_tot l hl hs _ _ _ _) fun _ _ => Tot.now trivial
theorem four_tot (a : Int) : Tot (fun k => deaddropref1_four.f k a) (fun r => r.size = 4) := by
  unfold deaddropref1_four.f
  refine Tot.bind (Eight_tot a) fun t ht => Tot.pos (by omega) (Tot.now ?_)
  simp only [ByteArray.size_extract]
  omega
theorem put_flat (x : S51) (hx : Flat x) (l : List Int) (hs : l.length + x.f2.size < 140737488355000) : Tot (fun k => deaddropref1_put.f k l x.f0 x.f1 x.f2 x.f3) (fun r => r.length ≤ l.length + x.f2.size + 16) := by
  rw [hx]
  refine Tot.step ?_
  simp only [deaddropref1_put.f, List.length_append, List.length_singleton, bytesOf_length]
  refine Tot.pos (by omega) (Tot.ite (fun _ => ?_) (fun _ => Tot.ite (fun _ => ?_) (fun _ => ?_)))
  · refine Tot.bind (Eight_tot _) fun t ht => Tot.pos (by omega) (Tot.now ?_)
    simp only [List.length_append, List.length_singleton, bytesOf_length]
    omega
  · refine Tot.bind (four_tot _) fun t ht => Tot.pos (by omega) (Tot.pos (by omega) (Tot.now ?_))
    simp only [List.length_append, List.length_singleton, bytesOf_length]
    omega
  · refine Tot.bind (four_tot _) fun t ht => Tot.pos (by omega) (Tot.step ?_)
    simp only [deaddropref1_put.l0]
    refine Tot.neg (by simp) (Tot.now ?_)
    simp only [List.length_append, List.length_singleton, bytesOf_length]
    omega
theorem put_loop (xs : List S51) (hl : ∀ x ∈ xs, Flat x ∧ x.f2.size ≤ 1000) (hs : (xs.length : Int) < 1000) : ∀ (m : Nat) (l : List Int) (i : Int), 0 ≤ i → i + m = xs.length → l.length + 2000 * m < 100000000 → Tot (fun k => deaddropref1_put.l0 k l xs i) (fun r => r.length ≤ l.length + 2000 * m)
  | 0, l, i, h0, h1, h2 => by
    refine Tot.step ?_
    simp only [deaddropref1_put.l0]
    exact Tot.neg (by omega) (Tot.now (by omega))
  | m + 1, l, i, h0, h1, h2 => by
    refine Tot.step ?_
    have hx := hl _ (rd_T51_mem xs i h0 (by omega))
    simp only [deaddropref1_put.l0, wr (n := i + 1) (by omega)]
    refine Tot.pos (by omega) (Tot.pos (by omega) (Tot.bind (put_flat _ hx.1 l (by omega)) fun r hr => ?_))
    exact (put_loop xs hl hs m r _ (by omega) (by omega) (by omega)).mono (fun _ h => by omega)
theorem put_tot (xs : List S51) (hl : ∀ x ∈ xs, Flat x ∧ x.f2.size ≤ 1000) (hs : (xs.length : Int) < 100) (a0 a1 : Int) (a2 : ByteArray) (h2 : a2.size ≤ 1000) : Tot (fun k => deaddropref1_put.f k [] a0 a1 a2 xs) (fun r => r.length ≤ 1000000) := by
  refine Tot.step ?_
  simp only [deaddropref1_put.f, List.length_append, List.length_singleton, bytesOf_length, List.length_nil, List.nil_append]
  refine Tot.pos (by omega) (Tot.ite (fun _ => ?_) (fun _ => Tot.ite (fun _ => ?_) (fun _ => ?_)))
  · refine Tot.bind (Eight_tot _) fun t ht => Tot.pos (by omega) (Tot.now ?_)
    simp only [List.length_append, List.length_singleton, bytesOf_length]
    omega
  · refine Tot.bind (four_tot _) fun t ht => Tot.pos (by omega) (Tot.pos (by omega) (Tot.now ?_))
    simp only [List.length_append, List.length_singleton, bytesOf_length]
    omega
  · refine Tot.bind (four_tot _) fun t ht => Tot.pos (by omega) ?_
    refine (put_loop xs hl (by omega) xs.length _ 0 (by omega) (by omega) ?_).mono (fun r h => ?_) <;> simp only [List.length_append, List.length_singleton, bytesOf_length] at * <;> omega
theorem PutWire_tot (xs : List S51) (hl : ∀ x ∈ xs, Flat x ∧ x.f2.size ≤ 1000) (hs : (xs.length : Int) < 100) (a0 a1 : Int) (a2 : ByteArray) (h2 : a2.size ≤ 1000) : Tot (fun k => deaddropref1_PutWire.f k a0 a1 a2 xs) (fun r => r.size ≤ 1000000) := by
  unfold deaddropref1_PutWire.f
  refine Tot.bind (MayWire_tot xs (fun x hx => (hl x hx).1) (by omega) _ _ _) fun b _ => Tot.ite (fun _ => ?_) (fun _ => Tot.now (by decide))
  refine Tot.bind (put_tot xs hl hs a0 a1 a2 h2) fun r hr => Tot.now ?_
  rw [strOfNums_size]
  exact hr
theorem MayRecord_tot (a0 : Int) (a1 : ByteArray) (a2 a3 : Int) (a5 : ByteArray) : Tot (fun k => deaddropref14_MayRecord.f k a0 a1 a2 a3 [] a5) (fun _ => True) := by
  have hj : ∀ b, Tot (fun k => deaddropref14_MayRecord.j0 k b a0 a1 a2 a3 [] a5) (fun _ => True) := by
    intro b
    refine Tot.step ?_
    simp only [deaddropref14_MayRecord.j0]
    refine Tot.ite (fun _ => Tot.now trivial) (fun _ => Tot.step ?_)
    simp only [deaddropref14_MayRecord.l0]
    exact Tot.neg (by simp) (Tot.now trivial)
  unfold deaddropref14_MayRecord.f
  repeat' first
    | exact hj _
    | exact Tot.now trivial
    | refine Tot.ite (fun _ => ?_) (fun _ => ?_)
theorem PutRecord_tot (a0 : Int) (a1 : ByteArray) (a2 a3 : Int) (a5 : ByteArray) (h1 : a1.size ≤ 1000) (h5 : a5.size ≤ 1000) : Tot (fun k => deaddropref14_PutRecord.f k a0 a1 a2 a3 [] a5) (fun r => r.size ≤ 1000000) := by
  unfold deaddropref14_PutRecord.f
  refine Tot.bind (MayRecord_tot _ _ _ _ _) fun _ _ => Tot.ite (fun _ => Tot.step ?_) (fun _ => Tot.now (by decide))
  simp only [deaddropref14_PutRecord.l0, deaddropref1_Num.f, deaddropref1_Text.f, deaddropref1_List.f, Option.bind_some, Option.bind_fun_some]
  refine Tot.neg (by simp) (PutWire_tot _ ?_ (by simp) _ _ _ (by decide))
  intro x hx
  simp only [List.mem_cons, List.not_mem_nil, or_false] at hx
  rcases hx with rfl | rfl | rfl | rfl | rfl | rfl
  · exact ⟨rfl, Nat.zero_le _⟩
  · exact ⟨rfl, h1⟩
  · exact ⟨rfl, Nat.zero_le _⟩
  · exact ⟨rfl, Nat.zero_le _⟩
  · exact ⟨rfl, by decide⟩
  · exact ⟨rfl, h5⟩
theorem Hash_tot (a0 : Int) (a1 : ByteArray) (a2 a3 : Int) (a5 : ByteArray) (h1 : a1.size ≤ 1000) (h5 : a5.size ≤ 1000) : Tot (fun k => deaddropref14_Hash.f k a0 a1 a2 a3 [] a5) (fun r => r.size = 32) := by
  unfold deaddropref14_Hash.f
  refine Tot.bind (PutRecord_tot a0 a1 a2 a3 a5 h1 h5) fun t ht => ?_
  exact Tot.bind (Sum_tot t (by omega)) fun r hr => Tot.now hr
end Go.Proofs.Ytjmehnlhfcidaaa.HP
