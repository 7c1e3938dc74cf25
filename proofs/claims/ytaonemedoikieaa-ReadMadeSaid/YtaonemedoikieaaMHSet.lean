-- Texts in order, each once, in plain Lean (own work): read.set and Insert give one list.
import Derived.Test.YtaonemedoikieaaMx21
import Derived.Test.YtaonemedoikieaaMx19
import Derived.Test.YtaonemedoikieaaMHFind
import Derived.Sort.Walk0
namespace Go.Proofs.Ytaonemedoikieaa.HR
open Go.RowKit Go.Proofs.Ytaonemedoikieaa.M Go.Proofs.YtaonemedoikieaaW.PrintWords Go.Proofs.YtaonemedoikieaaW.PrintLast Go.Proofs.Ytaonemedoikieaa.HT

abbrev Str := List UInt8
theorem str_lt_of_le_of_ne {a b : Str} (h : a ≤ b) (hn : a ≠ b) : a < b := by
  rcases Decidable.em (a < b) with h1 | h1
  · exact h1
  · exact absurd (List.le_antisymm h (List.not_lt.1 h1)) hn
theorem str_lt_irrefl (a : Str) : ¬ a < a := List.lt_irrefl a
theorem str_lt_of_le_of_lt {a b c : Str} (h : a ≤ b) (k : b < c) : a < c := List.lt_of_le_of_lt h k
theorem str_le_of_lt {a b : Str} (h : a < b) : a ≤ b := List.le_of_lt h
/-- Lists that rise, with the same members, are one. -/
theorem rise_ext {l m : List Str} (h : l.Pairwise (· < ·)) (k : m.Pairwise (· < ·)) (hm : ∀ x, x ∈ l ↔ x ∈ m) : l = m := by
  have nd : ∀ {p : List Str}, p.Pairwise (· < ·) → p.Nodup := fun hp => hp.imp fun hlt he => by subst he; exact str_lt_irrefl _ hlt
  refine List.Perm.eq_of_pairwise (le := fun a b => a < b) (fun a b _ _ h1 h2 => absurd (List.lt_trans h1 h2) (str_lt_irrefl _)) h k ?_
  exact (List.perm_ext_iff_of_nodup (nd h) (nd k)).2 hm
theorem compactUpTo_succ (d : Array Str) (m : Nat) : Lib.compactUpTo d (m + 1) = Lib.compactUpTo d m ++ (if Lib.keeps d m = true then [d[m]!] else []) := by
  unfold Lib.compactUpTo
  rw [List.range_succ, List.filter_append, List.map_append]
  congr 1
  by_cases h : Lib.keeps d m = true
  · rw [List.filter_cons_of_pos h, if_pos h]; rfl
  · rw [List.filter_cons_of_neg h, if_neg h]; rfl
theorem compact_rise (zs : List Str) (h : zs.Pairwise (· ≤ ·)) : (Lib.compact zs).Pairwise (· < ·) ∧ ∀ x, x ∈ Lib.compact zs ↔ x ∈ zs := by
  have key : ∀ m, m ≤ zs.length → (Lib.compactUpTo zs.toArray m).Pairwise (· < ·) ∧ (∀ x, x ∈ Lib.compactUpTo zs.toArray m ↔ x ∈ zs.take m) := by
    intro m
    induction m with
    | zero => intro _; exact ⟨by simp [Lib.compactUpTo], fun x => by simp [Lib.compactUpTo]⟩
    | succ m ih =>
      intro hm
      obtain ⟨h1, h2⟩ := ih (by omega)
      have hlt : m < zs.length := by omega
      have hd : (zs.toArray)[m]! = zs[m] := by simp [hlt]
      rw [compactUpTo_succ, List.take_succ_eq_append_getElem hlt]
      by_cases hk : Lib.keeps zs.toArray m = true
      · rw [if_pos hk, hd]
        refine ⟨List.pairwise_append.2 ⟨h1, List.pairwise_singleton _ _, fun x hx y hy => ?_⟩, fun x => by rw [List.mem_append, List.mem_append, h2]⟩
        have hy' : y = zs[m] := by simpa using hy
        subst hy'
        obtain ⟨j, hj, rfl⟩ := List.mem_iff_getElem.1 ((h2 x).1 hx)
        rw [List.length_take] at hj
        rw [List.getElem_take]
        unfold Lib.keeps at hk
        have hk := of_decide_eq_true hk
        rcases hk with hk | hk
        · omega
        · have hp : m - 1 < zs.length := by omega
          have hd2 : (zs.toArray)[m - 1]! = zs[m - 1] := by simp [hp]
          rw [hd, hd2] at hk
          have le1 : zs[j] ≤ zs[m - 1] := by
            rcases Nat.lt_or_ge j (m - 1) with hc | hc
            · exact List.pairwise_iff_getElem.1 h j (m - 1) (by omega) hp hc
            · have : j = m - 1 := by omega
              subst this
              exact List.le_refl _
          have le2 : zs[m - 1] < zs[m] := str_lt_of_le_of_ne (List.pairwise_iff_getElem.1 h (m - 1) m hp hlt (by omega)) (fun e => hk e.symm)
          exact str_lt_of_le_of_lt le1 le2
      · rw [if_neg hk, List.append_nil]
        refine ⟨h1, fun x => ?_⟩
        rw [h2, List.mem_append]
        constructor
        · exact .inl
        · rintro (hx | hx)
          · exact hx
          · have hx' : x = zs[m] := by simpa using hx
            have hk' : ¬ (m = 0 ∨ (zs.toArray)[m]! ≠ (zs.toArray)[m - 1]!) := fun hc => hk (by unfold Lib.keeps; exact decide_eq_true hc)
            have hm0 : m ≠ 0 := fun h0 => hk' (.inl h0)
            have hp : m - 1 < zs.length := by omega
            have hd2 : (zs.toArray)[m - 1]! = zs[m - 1] := by simp [hp]
            have he : zs[m] = zs[m - 1] := by
              rcases Decidable.em (zs[m] = zs[m - 1]) with e | e
              · exact e
              · exact absurd (.inr (by rw [hd, hd2]; exact e)) hk'
            rw [hx', he, List.mem_take_iff_getElem]
            exact ⟨m - 1, by omega, rfl⟩
  have hz := key zs.length (Nat.le_refl _)
  rw [List.take_length] at hz
  exact hz
/-- What set gives: in order, each once. -/
def SetIs (l r : List ByteArray) : Prop := (r.map (·.data.toList)).Pairwise (· < ·) ∧ ∀ x, x ∈ r ↔ x ∈ l
theorem ba_eta (x : ByteArray) : (⟨(x.data.toList).toArray⟩ : ByteArray) = x := rfl
theorem set_is (l : List ByteArray) (hl : l.length < 1000000000) : ∃ r, read_set.f l = some r ∧ SetIs l r := by
  refine ⟨_, by unfold read_set.f; rw [if_pos (by omega)], ?_⟩
  have hs : ((l.map (·.data.toList)).mergeSort fun x y => decide (x ≤ y)).Pairwise (· ≤ ·) := by
    have := List.pairwise_mergeSort (le := fun (x y : Str) => decide (x ≤ y)) (fun a b c h1 h2 => by simp only [decide_eq_true_eq] at *; exact List.le_trans h1 h2) (fun a b => by simp only [Bool.or_eq_true, decide_eq_true_eq]; exact List.le_total a b) (l.map (·.data.toList))
    exact this.imp fun hx => of_decide_eq_true hx
  obtain ⟨h1, h2⟩ := compact_rise _ hs
  refine ⟨?_, fun x => ?_⟩
  · rw [List.map_map]
    have : (((fun x : ByteArray => x.data.toList) ∘ fun l : Str => (⟨l.toArray⟩ : ByteArray)) : Str → Str) = id := by funext y; simp
    rw [this, List.map_id]
    exact h1
  · rw [List.mem_map]
    constructor
    · rintro ⟨y, hy, rfl⟩
      have := (h2 y).1 hy
      rw [List.mem_mergeSort, List.mem_map] at this
      obtain ⟨z, hz, rfl⟩ := this
      exact hz
    · intro hx
      exact ⟨x.data.toList, (h2 _).2 (by rw [List.mem_mergeSort, List.mem_map]; exact ⟨x, hx, rfl⟩), rfl⟩
theorem SetIs.uniq {l m r q : List ByteArray} (h : SetIs l r) (k : SetIs m q) (hm : ∀ x, x ∈ l ↔ x ∈ m) : r = q := by
  have : r.map (·.data.toList) = q.map (·.data.toList) := by
    refine rise_ext h.1 k.1 fun y => ?_
    rw [List.mem_map, List.mem_map]
    constructor
    · rintro ⟨x, hx, rfl⟩; exact ⟨x, (k.2 x).2 ((hm x).1 ((h.2 x).1 hx)), rfl⟩
    · rintro ⟨x, hx, rfl⟩; exact ⟨x, (h.2 x).2 ((hm x).2 ((k.2 x).1 hx)), rfl⟩
  have h2 := congrArg (List.map fun y : Str => (⟨y.toArray⟩ : ByteArray)) this
  rw [List.map_map, List.map_map] at h2
  have e : ((fun y : Str => (⟨y.toArray⟩ : ByteArray)) ∘ fun x : ByteArray => x.data.toList) = id := by funext x; rfl
  rw [e, List.map_id, List.map_id] at h2
  exact h2
/-! read's items -/
theorem items_l0 (l : List S34) (hl : l.length ≤ 100000000) : ∀ (m i : Nat), l.length - i = m → i ≤ l.length → Tot (fun k => read_items.l0 k ((l.take i).map (·.f3)) l (l.length : Int) (i : Int)) (SetIs (l.map (·.f3))) := by
  intro m
  induction m with
  | zero =>
    intro i hm hi
    rw [List.take_of_length_le (by omega)]
    obtain ⟨r, hr, hs⟩ := set_is (l.map (·.f3)) (by rw [List.length_map]; omega)
    refine Tot.step ?_
    simp only [read_items.l0]
    rw [hr]
    exact Tot.neg (by omega) (Tot.now hs)
  | succ m ih =>
    intro i hm hi
    have hlt : i < l.length := by omega
    have next := ih (i + 1) (by omega) (by omega)
    rw [List.take_succ_eq_append_getElem hlt, List.map_append] at next
    refine Tot.step ?_
    simp only [read_items.l0]
    rw [rd34 hlt, wn (by omega)]
    exact Tot.pos (by omega) (Tot.pos (by omega) (Tot.pos (by omega) (Tot.pos (by rw [List.length_map, List.length_take]; omega) next)))
theorem items_tot (s : List S70) (l : List S34) (key : ByteArray) (kind : Int) (hl : l.length ≤ 100000000) : Tot (fun k => read_items.f k s l key kind) (SetIs ((l.filter (isOf key kind)).map (·.f3))) := by
  unfold read_items.f
  refine Tot.bind (Find_tot s l key kind (by omega)) fun t ht => ?_
  subst ht
  have := List.length_filter_le (isOf key kind) l
  exact items_l0 _ (by omega) _ 0 rfl (Nat.zero_le _)
theorem Texts_tot (s : List S70) (l : List S34) (key : ByteArray) (hl : l.length ≤ 100000000) : Tot (fun k => read_Texts.f k s l key) (SetIs ((l.filter (isOf key 1)).map (·.f3))) := by
  unfold read_Texts.f
  exact Tot.bind (items_tot s l key 1 hl) fun t ht => Tot.now ht
theorem Members_tot (s : List S70) (l : List S34) (key : ByteArray) (hl : l.length ≤ 100000000) : Tot (fun k => read_Members.f k s l key) (SetIs ((l.filter (isOf key 2)).map (·.f3))) := by
  unfold read_Members.f
  exact Tot.bind (items_tot s l key 2 hl) fun t ht => Tot.now ht
theorem Same_self (l : List ByteArray) (hl : l.length ≤ 1000000000) : Tot (fun k => deaddropref1_SameTexts.f k l l) (fun r => r = true) := by
  have key : ∀ (m i : Nat), l.length - i = m → i ≤ l.length → Tot (fun k => deaddropref1_SameTexts.l0 k l l (i : Int)) (fun r => r = true) := by
    intro m
    induction m with
    | zero =>
      intro i hm hi
      refine Tot.step ?_
      simp only [deaddropref1_SameTexts.l0]
      exact Tot.neg (by omega) (Tot.now rfl)
    | succ m ih =>
      intro i hm hi
      refine Tot.step ?_
      simp only [deaddropref1_SameTexts.l0]
      rw [wn (by omega)]
      exact Tot.pos (by omega) (Tot.pos (by omega) (Tot.pos (by omega) (Tot.pos trivial (ih (i + 1) (by omega) (by omega)))))
  unfold deaddropref1_SameTexts.f
  exact Tot.pos rfl (key _ 0 rfl (Nat.zero_le _))
end Go.Proofs.Ytaonemedoikieaa.HR
