-- States joined, in plain Lean (own work): Cmp, at, Join.
import Derived.Test.YtaonemedoikieaaMx5
import Derived.Test.YtaonemedoikieaaMHRuns
namespace Go.Proofs.Ytaonemedoikieaa.HR
open Go.RowKit Go.Proofs.Ytaonemedoikieaa.M Go.Proofs.YtaonemedoikieaaW.PrintWords Go.Proofs.YtaonemedoikieaaW.PrintLast Go.Proofs.Ytaonemedoikieaa.HT

theorem eta34 (x : S34) : (⟨(⟨x.f0.f0, x.f0.f1⟩ : S32), x.f1, x.f2, x.f3, x.f4⟩ : S34) = x := rfl
theorem rd34 {l : List S34} {i : Nat} (h : i < l.length) : rd_T34 l (i : Int) = l[i] := by
  unfold rd_T34
  rw [Int.toNat_natCast, List.getD_eq_getElem?_getD, List.getElem?_eq_getElem h]; rfl
/-- One dot is ahead of another. -/
def dlt (x y : S34) : Prop := x.f0.f0 < y.f0.f0 ∨ (x.f0.f0 = y.f0.f0 ∧ x.f0.f1 < y.f0.f1)
instance (x y : S34) : Decidable (dlt x y) := by unfold dlt; infer_instance
def deq (x y : S34) : Prop := x.f0.f0 = y.f0.f0 ∧ x.f0.f1 = y.f0.f1
theorem Cmp_tot (x y : S34) : Tot (fun k => deaddropref7_Cmp.f k x.f0.f0 x.f0.f1 y.f0.f0 y.f0.f1) (fun r => r ≤ 0 ↔ ¬ dlt y x) := by
  have jt : ∀ b : Bool, (b = true ↔ dlt x y) → Tot (fun k => deaddropref7_Cmp.j0 k b x.f0.f0 x.f0.f1 y.f0.f0 y.f0.f1) (fun r => r ≤ 0 ↔ ¬ dlt y x) := by
    intro b hb
    refine Tot.step ?_
    simp only [deaddropref7_Cmp.j0]
    refine Tot.ite (fun h => Tot.now ?_) (fun h => Tot.ite (fun he => Tot.now ?_) (fun he => Tot.now ?_))
    · have := hb.1 h
      unfold dlt at this ⊢
      constructor
      · intro _; omega
      · intro _; omega
    · simp only [Bool.and_eq_true, beq_iff_eq] at he
      unfold dlt
      constructor
      · intro _; omega
      · intro _; omega
    · simp only [Bool.and_eq_true, beq_iff_eq] at he
      have hn : ¬ dlt x y := fun hx => h (hb.2 hx)
      unfold dlt at hn ⊢
      constructor
      · intro _; omega
      · intro _; omega
  unfold deaddropref7_Cmp.f
  refine Tot.ite (fun h => jt true ?_) (fun h => Tot.ite (fun h2 => jt _ ?_) (fun h2 => jt false ?_))
  · simp [dlt, h]
  · simp [dlt, h2]
  · simp only [Bool.false_eq_true, false_iff]
    unfold dlt
    omega
def atB (l : List S34) (d n : Int) : Bool := l.any fun f => decide (f.f0.f0 = d) && decide (f.f0.f1 = n)
theorem atB_iff (l : List S34) (d n : Int) : atB l d n = true ↔ ∃ f, f ∈ l ∧ f.f0.f0 = d ∧ f.f0.f1 = n := by simp [atB]
theorem at_l0 (s : List S70) (l : List S34) (d n : Int) (hl : l.length ≤ 4611686018427387904) : ∀ (m i : Nat), l.length - i = m → i ≤ l.length → Tot (fun k => deaddropref7_at.l0 k (i : Int) s l d n) (fun r => r = atB (l.drop i) d n) := by
  intro m
  induction m with
  | zero =>
    intro i hm hi
    refine Tot.step ?_
    simp only [deaddropref7_at.l0]
    refine Tot.neg (by omega) (Tot.now ?_)
    rw [List.drop_of_length_le (by omega)]; rfl
  | succ m ih =>
    intro i hm hi
    have hlt : i < l.length := by omega
    have hw : wrap64 ((i : Int) + 1) = ((i + 1 : Nat) : Int) := by rw [wr (by omega)]; omega
    have hd : atB (l.drop i) d n = ((decide (l[i].f0.f0 = d) && decide (l[i].f0.f1 = n)) || atB (l.drop (i + 1)) d n) := by
      unfold atB
      rw [List.drop_eq_getElem_cons hlt, List.any_cons]
    refine Tot.step ?_
    simp only [deaddropref7_at.l0]
    rw [rd34 hlt, hw, hd]
    refine Tot.pos (by omega) (Tot.pos (by omega) (Tot.ite (fun h => Tot.now ?_) (fun h => (ih (i + 1) (by omega) (by omega)).mono fun r hr => ?_)))
    · simp only [Bool.and_eq_true, beq_iff_eq] at h
      simp [h.1, h.2]
    · simp only [Bool.and_eq_true, beq_iff_eq] at h
      rw [hr]
      have : (decide (l[i].f0.f0 = d) && decide (l[i].f0.f1 = n)) = false := by
        rw [Bool.eq_false_iff]
        intro hc
        simp only [Bool.and_eq_true, decide_eq_true_eq] at hc
        exact h hc
      rw [this, Bool.false_or]
theorem at_tot (s : List S70) (l : List S34) (d n : Int) (hl : l.length ≤ 4611686018427387904) : Tot (fun k => deaddropref7_at.f k s l d n) (fun r => r = atB l d n) := at_l0 s l d n hl _ 0 rfl (Nat.zero_le _)

/-! Join's facts -/
def keepA (sb : List S70) (fb : List S34) (f : S34) : Bool := !has sb f.f0.f0 f.f0.f1 || atB fb f.f0.f0 f.f0.f1
def keepB (sa : List S70) (f : S34) : Bool := !has sa f.f0.f0 f.f0.f1
def mrg (kA kB : S34 → Bool) : List S34 → List S34 → List S34
  | [], b => b.filter kB
  | x :: a, [] => (x :: a).filter kA
  | x :: a, y :: b => if dlt y x then (if kB y then y :: mrg kA kB (x :: a) b else mrg kA kB (x :: a) b) else (if kA x then x :: mrg kA kB a (y :: b) else mrg kA kB a (y :: b))
termination_by a b => a.length + b.length
theorem mrg_nil (kA kB : S34 → Bool) (a : List S34) : mrg kA kB a [] = a.filter kA := by
  cases a with
  | nil => simp [mrg]
  | cons x a => simp [mrg]
theorem mrg_nil' (kA kB : S34 → Bool) (b : List S34) : mrg kA kB [] b = b.filter kB := by simp [mrg]
theorem mrg_cons (kA kB : S34 → Bool) (x y : S34) (a b : List S34) : mrg kA kB (x :: a) (y :: b) = if dlt y x then (if kB y then y :: mrg kA kB (x :: a) b else mrg kA kB (x :: a) b) else (if kA x then x :: mrg kA kB a (y :: b) else mrg kA kB a (y :: b)) := by
  rw [mrg]
theorem mrg_len (kA kB : S34 → Bool) : ∀ (w : Nat) (a b : List S34), a.length + b.length = w → (mrg kA kB a b).length ≤ a.length + b.length := by
  intro w
  induction w with
  | zero =>
    intro a b hw
    have ha : a = [] := List.length_eq_zero_iff.1 (by omega)
    have hb : b = [] := List.length_eq_zero_iff.1 (by omega)
    subst ha hb
    simp [mrg]
  | succ w ih =>
    intro a b hw
    cases a with
    | nil => rw [mrg_nil']; have := List.length_filter_le kB b; simp; exact this
    | cons x a =>
      cases b with
      | nil => rw [mrg_nil]; have := List.length_filter_le kA (x :: a); simpa using this
      | cons y b =>
        rw [mrg_cons]
        have h1 := ih (x :: a) b (by simp at hw ⊢; omega)
        have h2 := ih a (y :: b) (by simp at hw ⊢; omega)
        simp only [List.length_cons] at h1 h2 ⊢
        repeat' split
        all_goals first | (simp only [List.length_cons]; omega) | omega
theorem mem_mrg (kA kB : S34 → Bool) (f : S34) : ∀ (w : Nat) (a b : List S34), a.length + b.length = w → (f ∈ mrg kA kB a b ↔ (f ∈ a ∧ kA f = true) ∨ (f ∈ b ∧ kB f = true)) := by
  intro w
  induction w with
  | zero =>
    intro a b hw
    have ha : a = [] := List.length_eq_zero_iff.1 (by omega)
    have hb : b = [] := List.length_eq_zero_iff.1 (by omega)
    subst ha hb
    simp [mrg]
  | succ w ih =>
    intro a b hw
    cases a with
    | nil => rw [mrg_nil']; simp
    | cons x a =>
      cases b with
      | nil => rw [mrg_nil]; simp
      | cons y b =>
        rw [mrg_cons]
        have h1 := ih (x :: a) b (by simp at hw ⊢; omega)
        have h2 := ih a (y :: b) (by simp at hw ⊢; omega)
        by_cases hd : dlt y x
        · rw [if_pos hd]
          by_cases hk : kB y = true
          · rw [if_pos hk, List.mem_cons, h1]
            constructor
            · rintro (h | h | h)
              · subst h; exact .inr ⟨by simp, hk⟩
              · exact .inl h
              · exact .inr ⟨by simp [h.1], h.2⟩
            · rintro (h | ⟨h, h'⟩)
              · exact .inr (.inl h)
              · rcases List.mem_cons.1 h with h | h
                · exact .inl h
                · exact .inr (.inr ⟨h, h'⟩)
          · rw [if_neg hk, h1]
            constructor
            · rintro (h | h)
              · exact .inl h
              · exact .inr ⟨by simp [h.1], h.2⟩
            · rintro (h | ⟨h, h'⟩)
              · exact .inl h
              · rcases List.mem_cons.1 h with h | h
                · subst h; exact absurd h' hk
                · exact .inr ⟨h, h'⟩
        · rw [if_neg hd]
          by_cases hk : kA x = true
          · rw [if_pos hk, List.mem_cons, h2]
            constructor
            · rintro (h | h | h)
              · subst h; exact .inl ⟨by simp, hk⟩
              · exact .inl ⟨by simp [h.1], h.2⟩
              · exact .inr h
            · rintro (⟨h, h'⟩ | h)
              · rcases List.mem_cons.1 h with h | h
                · exact .inl h
                · exact .inr (.inl ⟨h, h'⟩)
              · exact .inr (.inr h)
          · rw [if_neg hk, h2]
            constructor
            · rintro (h | h)
              · exact .inl ⟨by simp [h.1], h.2⟩
              · exact .inr h
            · rintro (⟨h, h'⟩ | h)
              · rcases List.mem_cons.1 h with h | h
                · subst h; exact absurd h' hk
                · exact .inl ⟨h, h'⟩
              · exact .inr h
abbrev Sorted (l : List S34) : Prop := l.Pairwise dlt
theorem mrg_sorted (kA kB : S34 → Bool) : ∀ (w : Nat) (a b : List S34), a.length + b.length = w → Sorted a → Sorted b → (∀ x y, x ∈ a → y ∈ b → kB y = true → ¬ deq x y) → Sorted (mrg kA kB a b) := by
  intro w
  induction w with
  | zero =>
    intro a b hw _ _ _
    have ha : a = [] := List.length_eq_zero_iff.1 (by omega)
    have hb : b = [] := List.length_eq_zero_iff.1 (by omega)
    subst ha hb
    simp [mrg]
  | succ w ih =>
    intro a b hw ha hb hne
    cases a with
    | nil => rw [mrg_nil']; exact hb.sublist List.filter_sublist
    | cons x a =>
      cases b with
      | nil => rw [mrg_nil]; exact ha.sublist List.filter_sublist
      | cons y b =>
        rw [mrg_cons]
        have ha' := List.pairwise_cons.1 ha
        have hb' := List.pairwise_cons.1 hb
        have h1 := ih (x :: a) b (by simp at hw ⊢; omega) ha hb'.2 (fun p q hp hq hk => hne p q hp (by simp [hq]) hk)
        have h2 := ih a (y :: b) (by simp at hw ⊢; omega) ha'.2 hb (fun p q hp hq hk => hne p q (by simp [hp]) hq hk)
        have tr : ∀ {p q r : S34}, dlt p q → dlt q r → dlt p r := by intro p q r; unfold dlt; omega
        by_cases hd : dlt y x
        · rw [if_pos hd]
          by_cases hk : kB y = true
          · rw [if_pos hk]
            refine List.pairwise_cons.2 ⟨fun f hf => ?_, h1⟩
            rcases (mem_mrg kA kB f _ _ _ rfl).1 hf with ⟨h, _⟩ | ⟨h, _⟩
            · rcases List.mem_cons.1 h with h | h
              · subst h; exact hd
              · exact tr hd (ha'.1 f h)
            · exact hb'.1 f h
          · rw [if_neg hk]; exact h1
        · rw [if_neg hd]
          by_cases hk : kA x = true
          · rw [if_pos hk]
            refine List.pairwise_cons.2 ⟨fun f hf => ?_, h2⟩
            rcases (mem_mrg kA kB f _ _ _ rfl).1 hf with ⟨h, _⟩ | ⟨h, hkb⟩
            · exact ha'.1 f h
            · rcases List.mem_cons.1 h with h | h
              · subst h
                have := hne x f (by simp) (by simp) hkb
                unfold dlt deq at *
                omega
              · have hyf := hb'.1 f h
                unfold dlt at *
                omega
          · rw [if_neg hk]; exact h2
/-- With itself. -/
theorem mrg_self (kA kB : S34 → Bool) : ∀ (w : Nat) (a b : List S34), a.length + b.length = w → (∀ x, x ∈ a → kA x = true) → (∀ x, x ∈ b → kB x = false) → mrg kA kB a b = a := by
  intro w
  induction w with
  | zero =>
    intro a b hw _ _
    have ha : a = [] := List.length_eq_zero_iff.1 (by omega)
    have hb : b = [] := List.length_eq_zero_iff.1 (by omega)
    subst ha hb
    simp [mrg]
  | succ w ih =>
    intro a b hw h1 h2
    cases a with
    | nil => rw [mrg_nil']; exact List.filter_eq_nil_iff.2 fun x hx => by rw [h2 x hx]; decide
    | cons x a =>
      cases b with
      | nil => rw [mrg_nil]; exact List.filter_eq_self.2 h1
      | cons y b =>
        rw [mrg_cons, h2 y (by simp), h1 x (by simp)]
        by_cases hd : dlt y x
        · rw [if_pos hd, if_neg (by decide)]
          exact ih _ _ (by simp at hw ⊢; omega) h1 (fun z hz => h2 z (by simp [hz]))
        · rw [if_neg hd, if_pos rfl, ih _ _ (by simp at hw ⊢; omega) (fun z hz => h1 z (by simp [hz])) h2]
/-- One fact that is behind all others. -/
theorem mrg_last (kA kB : S34 → Bool) (y : S34) (hk : kB y = true) : ∀ (a : List S34), (∀ x, x ∈ a → dlt x y) → mrg kA kB a [y] = a.filter kA ++ [y]
  | [], _ => by rw [mrg_nil']; simp [hk]
  | x :: a, h => by
    have hx := h x (by simp)
    rw [mrg_cons, if_neg (by unfold dlt at *; omega), mrg_last kA kB y hk a (fun z hz => h z (by simp [hz]))]
    by_cases hq : kA x = true
    · rw [if_pos hq, List.filter_cons_of_pos hq]; rfl
    · rw [if_neg hq, List.filter_cons_of_neg hq]

set_option maxHeartbeats 400000 in
theorem Join_l0 (sa : List S70) (fa : List S34) (sb : List S70) (fb : List S34) (u : List S70) (h1 : sa.length ≤ 1000000) (h2 : sb.length ≤ 1000000) (h3 : fa.length ≤ 100000000) (h4 : fb.length ≤ 100000000) :
    ∀ (w i j : Nat) (out : List S34), (fa.length - i) + (fb.length - j) = w → i ≤ fa.length → j ≤ fb.length → out.length ≤ i + j →
    Tot (fun k => deaddropref7_Join.l0 k (i : Int) (j : Int) sa fa sb fb u out) (fun r => r = (u, out ++ mrg (keepA sb fb) (keepB sa) (fa.drop i) (fb.drop j))) := by
  intro w
  induction w with
  | zero =>
    intro i j out hw hi hj ho
    refine Tot.step ?_
    simp only [deaddropref7_Join.l0]
    refine Tot.neg (by omega) (Tot.step ?_)
    simp only [deaddropref7_Join.j1]
    refine Tot.neg (by simp; omega) (Tot.now ?_)
    rw [List.drop_of_length_le (show fa.length ≤ i by omega), List.drop_of_length_le (show fb.length ≤ j by omega), mrg_nil]
    simp
  | succ w ih =>
    intro i j out hw hi hj ho
    have wi : Aside0 (wrap64 ((i : Int) + 1) = ((i + 1 : Nat) : Int)) := ⟨by rw [wr (by omega)]; omega⟩
    have wj : Aside0 (wrap64 ((j : Int) + 1) = ((j + 1 : Nat) : Int)) := ⟨by rw [wr (by omega)]; omega⟩
    -- a's fact is next
    have takeA : ∀ (hlt : i < fa.length), (∀ hj' : j < fb.length, ¬ dlt fb[j] fa[i]) → Tot (fun k => deaddropref7_Join.j2 k (i : Int) (j : Int) true sa fa sb fb u out) (fun r => r = (u, out ++ mrg (keepA sb fb) (keepB sa) (fa.drop i) (fb.drop j))) := by
      intro hlt hcmp
      have hm : Aside0 (mrg (keepA sb fb) (keepB sa) (fa.drop i) (fb.drop j) = (if keepA sb fb fa[i] = true then fa[i] :: mrg (keepA sb fb) (keepB sa) (fa.drop (i + 1)) (fb.drop j) else mrg (keepA sb fb) (keepB sa) (fa.drop (i + 1)) (fb.drop j))) := by
        refine ⟨?_⟩
        rw [List.drop_eq_getElem_cons hlt]
        rcases Nat.lt_or_ge j fb.length with hj' | hj'
        · rw [List.drop_eq_getElem_cons hj', mrg_cons, if_neg (hcmp hj')]
        · rw [List.drop_of_length_le hj', mrg_nil, mrg_nil, List.filter_cons]
      clear hcmp
      refine Tot.step ?_
      simp only [deaddropref7_Join.j2]
      rw [rd34 hlt, wi.out, eta34]
      refine Tot.pos trivial (Tot.pos (by omega) (Tot.pos (by omega) (Tot.bind (Has_tot sb _ _ (by omega)) fun t ht => ?_)))
      subst ht
      have yes : keepA sb fb fa[i] = true → Tot (fun k => if out.length < 2199023255552 then deaddropref7_Join.l0 k ((i + 1 : Nat) : Int) (j : Int) sa fa sb fb u (out ++ [fa[i]]) else none) (fun r => r = (u, out ++ mrg (keepA sb fb) (keepB sa) (fa.drop i) (fb.drop j))) := by
        intro hk
        refine Tot.pos (by omega) ((ih (i + 1) j (out ++ [fa[i]]) (by omega) (by omega) hj (by simp; omega)).mono fun r hr => ?_)
        rw [hr, hm.out, if_pos hk, List.append_assoc]
        rfl
      have no : keepA sb fb fa[i] = false → Tot (fun k => deaddropref7_Join.l0 k ((i + 1 : Nat) : Int) (j : Int) sa fa sb fb u out) (fun r => r = (u, out ++ mrg (keepA sb fb) (keepB sa) (fa.drop i) (fb.drop j))) := by
        intro hk
        refine (ih (i + 1) j out (by omega) (by omega) hj (by omega)).mono fun r hr => ?_
        rw [hr, hm.out, hk]
        rfl
      refine Tot.ite (fun hx => Tot.bind (at_tot sb fb _ _ (by omega)) fun t ht => ?_) (fun hx => yes ?_)
      · subst ht
        refine Tot.ite (fun hy => yes ?_) (fun hy => no ?_)
        · unfold keepA; rw [hy, Bool.or_true]
        · unfold keepA; rw [hx, Bool.eq_false_iff.mpr hy]; rfl
      · unfold keepA; rw [Bool.eq_false_iff.mpr hx]; rfl
    have takeB : ∀ (hlt : j < fb.length), (∀ hi' : i < fa.length, dlt fb[j] fa[i]) → Tot (fun k => deaddropref7_Join.j2 k (i : Int) (j : Int) false sa fa sb fb u out) (fun r => r = (u, out ++ mrg (keepA sb fb) (keepB sa) (fa.drop i) (fb.drop j))) := by
      intro hlt hcmp
      have hm : Aside0 (mrg (keepA sb fb) (keepB sa) (fa.drop i) (fb.drop j) = (if keepB sa fb[j] = true then fb[j] :: mrg (keepA sb fb) (keepB sa) (fa.drop i) (fb.drop (j + 1)) else mrg (keepA sb fb) (keepB sa) (fa.drop i) (fb.drop (j + 1)))) := by
        refine ⟨?_⟩
        rw [List.drop_eq_getElem_cons hlt]
        rcases Nat.lt_or_ge i fa.length with hi' | hi'
        · rw [List.drop_eq_getElem_cons hi', mrg_cons, if_pos (hcmp hi')]
        · rw [List.drop_of_length_le hi', mrg_nil', mrg_nil', List.filter_cons]
      clear hcmp
      refine Tot.step ?_
      simp only [deaddropref7_Join.j2]
      rw [rd34 hlt, wj.out, eta34]
      refine Tot.neg (by decide) (Tot.pos (by omega) (Tot.pos (by omega) (Tot.bind (Has_tot sa _ _ (by omega)) fun t ht => ?_)))
      subst ht
      refine Tot.ite (fun hx => ?_) (fun hx => Tot.pos (by omega) ?_)
      · refine (ih i (j + 1) out (by omega) hi (by omega) (by omega)).mono fun r hr => ?_
        have hk : keepB sa fb[j] = false := by unfold keepB; rw [hx]; rfl
        rw [hr, hm.out, hk]
        rfl
      · refine (ih i (j + 1) (out ++ [fb[j]]) (by omega) hi (by omega) (by simp; omega)).mono fun r hr => ?_
        have hk : keepB sa fb[j] = true := by unfold keepB; rw [Bool.eq_false_iff.mpr hx]; rfl
        rw [hr, hm.out, if_pos hk, List.append_assoc]
        rfl
    have j1 : Tot (fun k => deaddropref7_Join.j1 k (i : Int) (j : Int) true sa fa sb fb u out) (fun r => r = (u, out ++ mrg (keepA sb fb) (keepB sa) (fa.drop i) (fb.drop j))) := by
      refine Tot.step ?_
      simp only [deaddropref7_Join.j1]
      refine Tot.pos trivial (Tot.ite (fun hx => takeA (by omega) (fun hj' => by omega)) (fun hx => Tot.ite (fun hy => ?_) (fun hy => takeB (by omega) (fun hi' => by omega))))
      have hi' : i < fa.length := by omega
      have hj' : j < fb.length := by omega
      rw [rd34 hi', rd34 hj']
      refine Tot.pos (by omega) (Tot.pos (by omega) (Tot.pos (by omega) (Tot.bind (Cmp_tot fa[i] fb[j]) fun t ht => ?_)))
      by_cases hc : t ≤ 0
      · rw [decide_eq_true hc]
        exact takeA hi' (fun _ => ht.1 hc)
      · rw [decide_eq_false hc]
        exact takeB hj' (fun _ => by
          rcases Decidable.em (dlt fb[j] fa[i]) with h | h
          · exact h
          · exact absurd (ht.2 h) hc)
    refine Tot.step ?_
    simp only [deaddropref7_Join.l0]
    refine Tot.ite (fun hx => j1) (fun hx => ?_)
    rw [decide_eq_true (show (j : Int) < fb.length by omega)]
    exact j1

/-! States -/
structure Good (B : Int) (s : List S70) (f : List S34) : Prop where
  seen : ∀ r, r ∈ s → 0 ≤ r.f0 ∧ r.f0 < 8 ∧ 1 ≤ r.f1 ∧ r.f1 ≤ r.f2 ∧ r.f2 ≤ B
  len : (s.length : Int) ≤ 8 * (B + 1)
  sort : Sorted f
  has : ∀ x, x ∈ f → has s x.f0.f0 x.f0.f1 = true
theorem Good.runs {B : Int} {s : List S70} {f : List S34} (h : Good B s f) : RunsIn B s := fun r hr => (h.seen r hr).2.2
theorem Good.dot {B : Int} {s : List S70} {f : List S34} (h : Good B s f) (x : S34) (hx : x ∈ f) : 0 ≤ x.f0.f0 ∧ x.f0.f0 < 8 ∧ 1 ≤ x.f0.f1 ∧ x.f0.f1 ≤ B := by
  obtain ⟨r, hr, hd, h1, h2⟩ := (has_iff s _ _).1 (h.has x hx)
  have := h.seen r hr
  omega
theorem Good.flen {B : Int} {s : List S70} {f : List S34} (h : Good B s f) (hB : 0 ≤ B) : (f.length : Int) ≤ 8 * (B + 1) := by
  have hr : Rising (f.map fun x => x.f0.f0 * (B + 1) + x.f0.f1) := by
    refine List.pairwise_map.2 ((List.pairwise_iff_getElem.2 fun i j hi hj hij => ?_))
    have h1 := List.pairwise_iff_getElem.1 h.sort i j hi hj hij
    have d1 := h.dot _ (List.getElem_mem hi)
    have d2 := h.dot _ (List.getElem_mem hj)
    unfold dlt at h1
    rcases h1 with h1 | ⟨h1, h2⟩
    · have : f[i].f0.f0 * (B + 1) + (B + 1) ≤ f[j].f0.f0 * (B + 1) := by
        have : (f[i].f0.f0 + 1) * (B + 1) ≤ f[j].f0.f0 * (B + 1) := Int.mul_le_mul_of_nonneg_right (by omega) (by omega)
        rw [Int.add_mul] at this
        omega
      omega
    · rw [h1]; omega
  have := rising_len hr 1 (8 * (B + 1)) (fun y hy => by
    obtain ⟨x, hx, rfl⟩ := List.mem_map.1 hy
    have d := h.dot x hx
    have h1 : 0 ≤ x.f0.f0 * (B + 1) := Int.mul_nonneg d.1 (by omega)
    have h2 : x.f0.f0 * (B + 1) ≤ 7 * (B + 1) := Int.mul_le_mul_of_nonneg_right (by omega) (by omega)
    omega) (by omega)
  rw [List.length_map] at this
  omega
theorem Good.mono {B B' : Int} {s : List S70} {f : List S34} (h : Good B s f) (hB : B ≤ B') : Good B' s f :=
  ⟨fun r hr => by have := h.seen r hr; omega, by have := h.len; omega, h.sort, h.has⟩
theorem Good.nil (B : Int) (hB : 0 ≤ B) : Good B [] [] := ⟨fun r hr => (by cases hr), by simp; omega, List.Pairwise.nil, fun x hx => (by cases hx)⟩
/-- What Join gives. -/
def JoinIs (B : Int) (sa : List S70) (fa : List S34) (sb : List S70) (fb : List S34) (r : List S70 × List S34) : Prop :=
  Good B r.1 r.2 ∧ Joined B sa sb r.1 ∧ r.2 = mrg (keepA sb fb) (keepB sa) fa fb
theorem Join_tot (B : Int) {sa : List S70} {fa : List S34} {sb : List S70} {fb : List S34} (ha : Good B sa fa) (hb : Good B sb fb) (hB0 : 0 ≤ B) (hB1 : B ≤ 10000) : Tot (fun k => deaddropref7_Join.f k sa fa sb fb) (JoinIs B sa fa sb fb) := by
  have l1 := ha.len
  have l2 := hb.len
  have l3 := ha.flen hB0
  have l4 := hb.flen hB0
  unfold deaddropref7_Join.f
  refine Tot.bind (Union_tot B sa sb (by omega) (by omega) ha.runs hb.runs hB0 (by omega)) fun u hu => ?_
  refine (Join_l0 sa fa sb fb u (by omega) (by omega) (by omega) (by omega) _ 0 0 [] rfl (Nat.zero_le _) (Nat.zero_le _) (Nat.zero_le _)).mono fun r hr => ?_
  subst hr
  simp only [List.nil_append, List.drop_zero]
  refine ⟨⟨hu.ok, hu.len, mrg_sorted _ _ _ _ _ rfl ha.sort hb.sort fun x y hx hy hk he => ?_, fun x hx => ?_⟩, hu, rfl⟩
  · have := ha.has x hx
    unfold keepB at hk
    rw [← he.1, ← he.2, this] at hk
    cases hk
  · rcases (mem_mrg _ _ x _ _ _ rfl).1 hx with ⟨h, _⟩ | ⟨h, _⟩
    · have d := ha.dot x h
      rw [hu.got _ _ d.1 d.2.1]
      unfold cov
      rw [ha.has x h, Bool.true_or]
    · have d := hb.dot x h
      rw [hu.got _ _ d.1 d.2.1]
      unfold cov
      rw [hb.has x h, Bool.or_true]
/-- A state with itself is itself. -/
theorem Join_self {B : Int} {s : List S70} {f : List S34} (h : Good B s f) : mrg (keepA s f) (keepB s) f f = f :=
  mrg_self _ _ _ _ _ rfl (fun x hx => by
    have : atB f x.f0.f0 x.f0.f1 = true := (atB_iff _ _ _).2 ⟨x, hx, rfl, rfl⟩
    unfold keepA; rw [this, Bool.or_true]) (fun x hx => by unfold keepB; rw [h.has x hx]; rfl)
end Go.Proofs.Ytaonemedoikieaa.HR
