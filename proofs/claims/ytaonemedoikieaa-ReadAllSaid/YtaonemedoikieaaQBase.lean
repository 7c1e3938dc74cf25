-- What ReadAll's functions give, in plain Lean (own work; wip/tools/mkq.py takes it over from the texts for the other statements).
import Derived.Test.YtaonemedoikieaaQx25
import Derived.Test.YtaonemedoikieaaHTot
import Derived.Sort.Walk0
namespace Go.Proofs.Ytaonemedoikieaa.HA
open Go.RowKit Go.Proofs.Ytaonemedoikieaa.Q Go.Proofs.YtaonemedoikieaaW.PrintWords Go.Proofs.YtaonemedoikieaaW.PrintLast Go.Proofs.Ytaonemedoikieaa.HT
theorem wr {x : Int} (h : -9223372036854775808 ≤ x ∧ x ≤ 9223372036854775807) : wrap64 x = x := by unfold wrap64; omega
theorem rd70 {l : List S70} {i : Nat} (h : i < l.length) : rd_T70 l (i : Int) = l[i] := by
  unfold rd_T70
  rw [Int.toNat_natCast, List.getD_eq_getElem?_getD, List.getElem?_eq_getElem h]; rfl
def inRun (r : S70) (d n : Int) : Bool := decide (r.f0 = d) && decide (r.f1 ≤ n) && decide (n ≤ r.f2)
def has (l : List S70) (d n : Int) : Bool := l.any fun r => inRun r d n
theorem has_nil (d n : Int) : has [] d n = false := rfl
theorem has_iff (l : List S70) (d n : Int) : has l d n = true ↔ ∃ r, r ∈ l ∧ r.f0 = d ∧ r.f1 ≤ n ∧ n ≤ r.f2 := by
  simp [has, inRun, and_assoc]
theorem has_drop {l : List S70} {i : Nat} (h : i < l.length) (d n : Int) : has (l.drop i) d n = (inRun l[i] d n || has (l.drop (i + 1)) d n) := by
  unfold has
  rw [List.drop_eq_getElem_cons h, List.any_cons]
theorem Has_l0 (l : List S70) (d n : Int) (hl : l.length ≤ 4611686018427387904) : ∀ (m i : Nat), l.length - i = m → i ≤ l.length → Tot (fun k => deaddropref7_Has.l0 k l (i : Int) d n) (fun r => r = has (l.drop i) d n) := by
  intro m
  induction m with
  | zero =>
    intro i hm hi
    refine Tot.step ?_
    simp only [deaddropref7_Has.l0]
    refine Tot.neg (by omega) (Tot.now ?_)
    rw [List.drop_of_length_le (by omega)]; rfl
  | succ m ih =>
    intro i hm hi
    have hlt : i < l.length := by omega
    have next := ih (i + 1) (by omega) (by omega)
    have hw : wrap64 ((i : Int) + 1) = ((i + 1 : Nat) : Int) := by rw [wr (by omega)]; omega
    refine Tot.step ?_
    simp only [deaddropref7_Has.l0]
    rw [rd70 hlt]
    refine Tot.pos (by omega) (Tot.pos (by omega) ?_)
    rw [has_drop hlt]
    have jt : ∀ (b : Bool), inRun l[i] d n = b → Tot (fun k => deaddropref7_Has.j1 k l (i : Int) b d n) (fun r => r = (inRun l[i] d n || has (l.drop (i + 1)) d n)) := by
      intro b hb
      refine Tot.step ?_
      simp only [deaddropref7_Has.j1]
      rw [hb]
      cases b with
      | true => exact Tot.pos rfl (Tot.now rfl)
      | false =>
        refine Tot.neg (by decide) ?_
        rw [hw]
        exact next.mono fun r hr => by simpa using hr
    refine Tot.ite (fun h1 => Tot.ite (fun h2 => jt _ ?_) (fun h2 => jt _ ?_)) (fun h1 => jt _ ?_)
    · unfold inRun; rw [decide_eq_true h1, decide_eq_true h2]; rfl
    · unfold inRun; rw [decide_eq_false h2]; simp
    · unfold inRun; rw [decide_eq_false h1]; rfl
theorem Has_tot (l : List S70) (d n : Int) (hl : l.length ≤ 4611686018427387904) : Tot (fun k => deaddropref7_Has.f k l d n) (fun r => r = has l d n) := by
  have := Has_l0 l d n hl _ 0 rfl (Nat.zero_le _)
  exact this
theorem eta34 (x : S34) : (⟨(⟨x.f0.f0, x.f0.f1⟩ : S32), x.f1, x.f2, x.f3, x.f4⟩ : S34) = x := rfl
theorem rd34 {l : List S34} {i : Nat} (h : i < l.length) : rd_T34 l (i : Int) = l[i] := by
  unfold rd_T34
  rw [Int.toNat_natCast, List.getD_eq_getElem?_getD, List.getElem?_eq_getElem h]; rfl
def dlt (x y : S34) : Prop := x.f0.f0 < y.f0.f0 ∨ (x.f0.f0 = y.f0.f0 ∧ x.f0.f1 < y.f0.f1)
instance (x y : S34) : Decidable (dlt x y) := by unfold dlt; infer_instance
def deq (x y : S34) : Prop := x.f0.f0 = y.f0.f0 ∧ x.f0.f1 = y.f0.f1
theorem Cmp_tot (x y : S34) : Tot (fun k => deaddropref7_Cmp.f k x.f0.f0 x.f0.f1 y.f0.f0 y.f0.f1) (fun r => r ≤ 0 ↔ ¬ dlt y x) := by
  have jt : ∀ b : Bool, (b = true ↔ dlt x y) → Tot (fun k => deaddropref7_Cmp.j0 k b x.f0.f0 x.f0.f1 y.f0.f0 y.f0.f1) (fun r => r ≤ 0 ↔ ¬ dlt y x) := by
    intro b hb
    refine Tot.step ?_
    simp only [deaddropref7_Cmp.j0]
    refine Tot.ite (fun h => Tot.now ?_) (fun h => Tot.ite (fun he => Tot.now ?_) (fun he => Tot.now ?_))
    · have := hb.1 h
      unfold dlt at this ⊢
      constructor
      · intro _; omega
      · intro _; omega
    · simp only [Bool.and_eq_true, beq_iff_eq] at he
      unfold dlt
      constructor
      · intro _; omega
      · intro _; omega
    · simp only [Bool.and_eq_true, beq_iff_eq] at he
      have hn : ¬ dlt x y := fun hx => h (hb.2 hx)
      unfold dlt at hn ⊢
      constructor
      · intro _; omega
      · intro _; omega
  unfold deaddropref7_Cmp.f
  refine Tot.ite (fun h => jt true ?_) (fun h => Tot.ite (fun h2 => jt _ ?_) (fun h2 => jt false ?_))
  · simp [dlt, h]
  · simp [dlt, h2]
  · simp only [Bool.false_eq_true, false_iff]
    unfold dlt
    omega
theorem wn {i : Nat} (h : i < 4611686018427387904) : wrap64 ((i : Int) + 1) = ((i + 1 : Nat) : Int) := by rw [wr (by omega)]; omega
def sumOf (n : Int) (l : List S34) : Int := l.foldl (fun a f => wrap64 (a + f.f4)) n
def isOf (key : ByteArray) (kind : Int) (f : S34) : Bool := decide (f.f1.toList = key.toList) && (decide (kind = 0) || (f.f2 == kind))
theorem Find_l0 (key : ByteArray) (kind : Int) (l : List S34) (hl : l.length ≤ 1000000000) : ∀ (m i : Nat), l.length - i = m → i ≤ l.length → Tot (fun k => facts_Find.l0 k key kind ((l.take i).filter (isOf key kind)) l (l.length : Int) (i : Int)) (fun r => r = l.filter (isOf key kind)) := by
  intro m
  induction m with
  | zero =>
    intro i hm hi
    rw [List.take_of_length_le (by omega)]
    refine Tot.step ?_
    simp only [facts_Find.l0]
    exact Tot.neg (by omega) (Tot.now rfl)
  | succ m ih =>
    intro i hm hi
    have hlt : i < l.length := by omega
    have next := ih (i + 1) (by omega) (by omega)
    rw [List.take_succ_eq_append_getElem hlt, List.filter_append] at next
    have hfi : ((l.take i).filter (isOf key kind)).length ≤ i := by
      have := List.length_filter_le (isOf key kind) (l.take i)
      rw [List.length_take] at this
      omega
    have jt : ∀ b : Bool, b = isOf key kind l[i] → Tot (fun k => facts_Find.j1 k key kind ((l.take i).filter (isOf key kind)) l (l.length : Int) (i : Int) b l[i].f0.f0 l[i].f0.f1 l[i].f1 l[i].f2 l[i].f3 l[i].f4) (fun r => r = l.filter (isOf key kind)) := by
      intro b hb
      refine Tot.step ?_
      simp only [facts_Find.j1]
      rw [eta34, wn (by omega)]
      subst hb
      refine Tot.ite (fun h => Tot.pos (by omega) ?_) (fun h => ?_)
      · rw [List.filter_cons_of_pos h] at next
        exact next
      · rw [List.filter_cons_of_neg h] at next
        simpa using next
    refine Tot.step ?_
    simp only [facts_Find.l0]
    rw [rd34 hlt]
    refine Tot.pos (by omega) (Tot.pos (by omega) (Tot.pos (by omega) (Tot.ite (fun h => Tot.ite (fun h2 => jt _ ?_) (fun h2 => jt _ ?_)) (fun h => jt _ ?_))))
    · unfold isOf; rw [decide_eq_true h, decide_eq_true h2]; rfl
    · unfold isOf; rw [decide_eq_true h, decide_eq_false h2]; rfl
    · unfold isOf; rw [decide_eq_false h]; rfl
theorem Find_tot (s : List S70) (l : List S34) (key : ByteArray) (kind : Int) (hl : l.length ≤ 1000000000) : Tot (fun k => facts_Find.f k s l key kind) (fun r => r = l.filter (isOf key kind)) :=
  Find_l0 key kind l hl _ 0 rfl (Nat.zero_le _)
theorem Count_l0 (l : List S34) (hl : l.length ≤ 1000000000) : ∀ (m i : Nat), l.length - i = m → i ≤ l.length → Tot (fun k => read_Count.l0 k (sumOf 0 (l.take i)) l (l.length : Int) (i : Int)) (fun r => r = sumOf 0 l) := by
  intro m
  induction m with
  | zero =>
    intro i hm hi
    rw [List.take_of_length_le (by omega)]
    refine Tot.step ?_
    simp only [read_Count.l0]
    exact Tot.neg (by omega) (Tot.now rfl)
  | succ m ih =>
    intro i hm hi
    have hlt : i < l.length := by omega
    have next := ih (i + 1) (by omega) (by omega)
    rw [List.take_succ_eq_append_getElem hlt] at next
    have : sumOf 0 (l.take i ++ [l[i]]) = wrap64 (sumOf 0 (l.take i) + l[i].f4) := by unfold sumOf; rw [List.foldl_append]; rfl
    rw [this] at next
    refine Tot.step ?_
    simp only [read_Count.l0]
    rw [rd34 hlt, wn (by omega)]
    exact Tot.pos (by omega) (Tot.pos (by omega) (Tot.pos (by omega) next))
theorem Count_tot (s : List S70) (l : List S34) (key : ByteArray) (hl : l.length ≤ 1000000000) : Tot (fun k => read_Count.f k s l key) (fun r => r = sumOf 0 (l.filter (isOf key 3))) := by
  unfold read_Count.f
  refine Tot.bind (Find_tot s l key 3 hl) fun t ht => ?_
  subst ht
  have := List.length_filter_le (isOf key 3) l
  exact Count_l0 _ (by omega) _ 0 rfl (Nat.zero_le _)
theorem Texts_one (s : List S70) (x : S34) (key : ByteArray) (hx : isOf key 1 x = true) : Tot (fun k => read_Texts.f k s [x] key) (fun r => r = [x.f3]) := by
  unfold read_Texts.f read_items.f
  refine Tot.bind (P := fun r => r = [x.f3]) (Tot.bind (Find_tot s [x] key 1 (by simp)) fun t ht => ?_) (fun r hr => Tot.now hr)
  have : [x].filter (isOf key 1) = [x] := by simp [hx]
  rw [this] at ht
  subst ht
  have e0 : rd_T34 [x] 0 = x := rfl
  have e1 : wrap64 (0 + 1) = 1 := wr (by decide)
  refine Tot.step ?_
  simp only [read_items.l0]
  rw [e0, e1]
  refine Tot.pos (by simp) (Tot.pos (by decide) (Tot.pos (by simp) (Tot.pos (by simp) (Tot.step ?_))))
  simp only [read_items.l0]
  refine Tot.neg (by simp) ?_
  have hc : read_set.f ([] ++ [x.f3]) = some [x.f3] := by
    unfold read_set.f
    rw [if_pos (by simp)]
    simp [Lib.compact, Lib.compactUpTo]
    exact ⟨0, by simp [Lib.keeps], rfl⟩
  rw [hc]
  exact Tot.now rfl
theorem Make_now : deaddroplaw8_Make.f 60 [0, 1] = some ([⟨0, 1, 1⟩], [⟨⟨0, 1⟩, ⟨#[107]⟩, 1, ⟨#[98]⟩, 0⟩]) := by kernel_rfl
theorem awake_tot : Tot (fun k => deaddroplaw10_awake.f k) (fun r => r = true) := by
  unfold deaddroplaw10_awake.f
  refine Tot.bind (P := fun r => r = ([⟨0, 1, 1⟩], [⟨⟨0, 1⟩, ⟨#[107]⟩, 1, ⟨#[98]⟩, 0⟩])) ⟨_, Ev.of (fun k => deaddroplaw8_Make.mono [0, 1] k) Make_now, rfl⟩ fun s hs => ?_
  subst hs
  refine Tot.bind (Texts_one _ _ _ (by decide +kernel)) fun t ht => ?_
  subst ht
  refine Tot.bind (Count_tot [] [] _ (by simp)) fun c hc => ?_
  subst hc
  exact Tot.pos rfl (Tot.pos rfl (Tot.pos (by decide) (Tot.now (by decide +kernel))))
abbrev Str := List UInt8
theorem str_lt_of_le_of_ne {a b : Str} (h : a ≤ b) (hn : a ≠ b) : a < b := by
  rcases Decidable.em (a < b) with h1 | h1
  · exact h1
  · exact absurd (List.le_antisymm h (List.not_lt.1 h1)) hn
theorem str_lt_irrefl (a : Str) : ¬ a < a := List.lt_irrefl a
theorem str_lt_of_le_of_lt {a b c : Str} (h : a ≤ b) (k : b < c) : a < c := List.lt_of_le_of_lt h k
theorem str_le_of_lt {a b : Str} (h : a < b) : a ≤ b := List.le_of_lt h
theorem rise_ext {l m : List Str} (h : l.Pairwise (· < ·)) (k : m.Pairwise (· < ·)) (hm : ∀ x, x ∈ l ↔ x ∈ m) : l = m := by
  have nd : ∀ {p : List Str}, p.Pairwise (· < ·) → p.Nodup := fun hp => hp.imp fun hlt he => by subst he; exact str_lt_irrefl _ hlt
  refine List.Perm.eq_of_pairwise (le := fun a b => a < b) (fun a b _ _ h1 h2 => absurd (List.lt_trans h1 h2) (str_lt_irrefl _)) h k ?_
  exact (List.perm_ext_iff_of_nodup (nd h) (nd k)).2 hm
theorem compactUpTo_succ (d : Array Str) (m : Nat) : Lib.compactUpTo d (m + 1) = Lib.compactUpTo d m ++ (if Lib.keeps d m = true then [d[m]!] else []) := by
  unfold Lib.compactUpTo
  rw [List.range_succ, List.filter_append, List.map_append]
  congr 1
  by_cases h : Lib.keeps d m = true
  · rw [List.filter_cons_of_pos h, if_pos h]; rfl
  · rw [List.filter_cons_of_neg h, if_neg h]; rfl
theorem compact_rise (zs : List Str) (h : zs.Pairwise (· ≤ ·)) : (Lib.compact zs).Pairwise (· < ·) ∧ ∀ x, x ∈ Lib.compact zs ↔ x ∈ zs := by
  have key : ∀ m, m ≤ zs.length → (Lib.compactUpTo zs.toArray m).Pairwise (· < ·) ∧ (∀ x, x ∈ Lib.compactUpTo zs.toArray m ↔ x ∈ zs.take m) := by
    intro m
    induction m with
    | zero => intro _; exact ⟨by simp [Lib.compactUpTo], fun x => by simp [Lib.compactUpTo]⟩
    | succ m ih =>
      intro hm
      obtain ⟨h1, h2⟩ := ih (by omega)
      have hlt : m < zs.length := by omega
      have hd : (zs.toArray)[m]! = zs[m] := by simp [hlt]
      rw [compactUpTo_succ, List.take_succ_eq_append_getElem hlt]
      by_cases hk : Lib.keeps zs.toArray m = true
      · rw [if_pos hk, hd]
        refine ⟨List.pairwise_append.2 ⟨h1, List.pairwise_singleton _ _, fun x hx y hy => ?_⟩, fun x => by rw [List.mem_append, List.mem_append, h2]⟩
        have hy' : y = zs[m] := by simpa using hy
        subst hy'
        obtain ⟨j, hj, rfl⟩ := List.mem_iff_getElem.1 ((h2 x).1 hx)
        rw [List.length_take] at hj
        rw [List.getElem_take]
        unfold Lib.keeps at hk
        have hk := of_decide_eq_true hk
        rcases hk with hk | hk
        · omega
        · have hp : m - 1 < zs.length := by omega
          have hd2 : (zs.toArray)[m - 1]! = zs[m - 1] := by simp [hp]
          rw [hd, hd2] at hk
          have le1 : zs[j] ≤ zs[m - 1] := by
            rcases Nat.lt_or_ge j (m - 1) with hc | hc
            · exact List.pairwise_iff_getElem.1 h j (m - 1) (by omega) hp hc
            · have : j = m - 1 := by omega
              subst this
              exact List.le_refl _
          have le2 : zs[m - 1] < zs[m] := str_lt_of_le_of_ne (List.pairwise_iff_getElem.1 h (m - 1) m hp hlt (by omega)) (fun e => hk e.symm)
          exact str_lt_of_le_of_lt le1 le2
      · rw [if_neg hk, List.append_nil]
        refine ⟨h1, fun x => ?_⟩
        rw [h2, List.mem_append]
        constructor
        · exact .inl
        · rintro (hx | hx)
          · exact hx
          · have hx' : x = zs[m] := by simpa using hx
            have hk' : ¬ (m = 0 ∨ (zs.toArray)[m]! ≠ (zs.toArray)[m - 1]!) := fun hc => hk (by unfold Lib.keeps; exact decide_eq_true hc)
            have hm0 : m ≠ 0 := fun h0 => hk' (.inl h0)
            have hp : m - 1 < zs.length := by omega
            have hd2 : (zs.toArray)[m - 1]! = zs[m - 1] := by simp [hp]
            have he : zs[m] = zs[m - 1] := by
              rcases Decidable.em (zs[m] = zs[m - 1]) with e | e
              · exact e
              · exact absurd (.inr (by rw [hd, hd2]; exact e)) hk'
            rw [hx', he, List.mem_take_iff_getElem]
            exact ⟨m - 1, by omega, rfl⟩
  have hz := key zs.length (Nat.le_refl _)
  rw [List.take_length] at hz
  exact hz
def SetIs (l r : List ByteArray) : Prop := (r.map (·.data.toList)).Pairwise (· < ·) ∧ ∀ x, x ∈ r ↔ x ∈ l
theorem ba_eta (x : ByteArray) : (⟨(x.data.toList).toArray⟩ : ByteArray) = x := rfl
theorem set_is (l : List ByteArray) (hl : l.length < 1000000000) : ∃ r, read_set.f l = some r ∧ SetIs l r := by
  refine ⟨_, by unfold read_set.f; rw [if_pos (by omega)], ?_⟩
  have hs : ((l.map (·.data.toList)).mergeSort fun x y => decide (x ≤ y)).Pairwise (· ≤ ·) := by
    have := List.pairwise_mergeSort (le := fun (x y : Str) => decide (x ≤ y)) (fun a b c h1 h2 => by simp only [decide_eq_true_eq] at *; exact List.le_trans h1 h2) (fun a b => by simp only [Bool.or_eq_true, decide_eq_true_eq]; exact List.le_total a b) (l.map (·.data.toList))
    exact this.imp fun hx => of_decide_eq_true hx
  obtain ⟨h1, h2⟩ := compact_rise _ hs
  refine ⟨?_, fun x => ?_⟩
  · rw [List.map_map]
    have : (((fun x : ByteArray => x.data.toList) ∘ fun l : Str => (⟨l.toArray⟩ : ByteArray)) : Str → Str) = id := by funext y; simp
    rw [this, List.map_id]
    exact h1
  · rw [List.mem_map]
    constructor
    · rintro ⟨y, hy, rfl⟩
      have := (h2 y).1 hy
      rw [List.mem_mergeSort, List.mem_map] at this
      obtain ⟨z, hz, rfl⟩ := this
      exact hz
    · intro hx
      exact ⟨x.data.toList, (h2 _).2 (by rw [List.mem_mergeSort, List.mem_map]; exact ⟨x, hx, rfl⟩), rfl⟩
theorem SetIs.uniq {l m r q : List ByteArray} (h : SetIs l r) (k : SetIs m q) (hm : ∀ x, x ∈ l ↔ x ∈ m) : r = q := by
  have : r.map (·.data.toList) = q.map (·.data.toList) := by
    refine rise_ext h.1 k.1 fun y => ?_
    rw [List.mem_map, List.mem_map]
    constructor
    · rintro ⟨x, hx, rfl⟩; exact ⟨x, (k.2 x).2 ((hm x).1 ((h.2 x).1 hx)), rfl⟩
    · rintro ⟨x, hx, rfl⟩; exact ⟨x, (h.2 x).2 ((hm x).2 ((k.2 x).1 hx)), rfl⟩
  have h2 := congrArg (List.map fun y : Str => (⟨y.toArray⟩ : ByteArray)) this
  rw [List.map_map, List.map_map] at h2
  have e : ((fun y : Str => (⟨y.toArray⟩ : ByteArray)) ∘ fun x : ByteArray => x.data.toList) = id := by funext x; rfl
  rw [e, List.map_id, List.map_id] at h2
  exact h2
theorem items_l0 (l : List S34) (hl : l.length ≤ 100000000) : ∀ (m i : Nat), l.length - i = m → i ≤ l.length → Tot (fun k => read_items.l0 k ((l.take i).map (·.f3)) l (l.length : Int) (i : Int)) (SetIs (l.map (·.f3))) := by
  intro m
  induction m with
  | zero =>
    intro i hm hi
    rw [List.take_of_length_le (by omega)]
    obtain ⟨r, hr, hs⟩ := set_is (l.map (·.f3)) (by rw [List.length_map]; omega)
    refine Tot.step ?_
    simp only [read_items.l0]
    rw [hr]
    exact Tot.neg (by omega) (Tot.now hs)
  | succ m ih =>
    intro i hm hi
    have hlt : i < l.length := by omega
    have next := ih (i + 1) (by omega) (by omega)
    rw [List.take_succ_eq_append_getElem hlt, List.map_append] at next
    refine Tot.step ?_
    simp only [read_items.l0]
    rw [rd34 hlt, wn (by omega)]
    exact Tot.pos (by omega) (Tot.pos (by omega) (Tot.pos (by omega) (Tot.pos (by rw [List.length_map, List.length_take]; omega) next)))
theorem items_tot (s : List S70) (l : List S34) (key : ByteArray) (kind : Int) (hl : l.length ≤ 100000000) : Tot (fun k => read_items.f k s l key kind) (SetIs ((l.filter (isOf key kind)).map (·.f3))) := by
  unfold read_items.f
  refine Tot.bind (Find_tot s l key kind (by omega)) fun t ht => ?_
  subst ht
  have := List.length_filter_le (isOf key kind) l
  exact items_l0 _ (by omega) _ 0 rfl (Nat.zero_le _)
theorem Texts_tot (s : List S70) (l : List S34) (key : ByteArray) (hl : l.length ≤ 100000000) : Tot (fun k => read_Texts.f k s l key) (SetIs ((l.filter (isOf key 1)).map (·.f3))) := by
  unfold read_Texts.f
  exact Tot.bind (items_tot s l key 1 hl) fun t ht => Tot.now ht
theorem Members_tot (s : List S70) (l : List S34) (key : ByteArray) (hl : l.length ≤ 100000000) : Tot (fun k => read_Members.f k s l key) (SetIs ((l.filter (isOf key 2)).map (·.f3))) := by
  unfold read_Members.f
  exact Tot.bind (items_tot s l key 2 hl) fun t ht => Tot.now ht
theorem Same_self (l : List ByteArray) (hl : l.length ≤ 1000000000) : Tot (fun k => deaddropref1_SameTexts.f k l l) (fun r => r = true) := by
  have key : ∀ (m i : Nat), l.length - i = m → i ≤ l.length → Tot (fun k => deaddropref1_SameTexts.l0 k l l (i : Int)) (fun r => r = true) := by
    intro m
    induction m with
    | zero =>
      intro i hm hi
      refine Tot.step ?_
      simp only [deaddropref1_SameTexts.l0]
      exact Tot.neg (by omega) (Tot.now rfl)
    | succ m ih =>
      intro i hm hi
      refine Tot.step ?_
      simp only [deaddropref1_SameTexts.l0]
      rw [wn (by omega)]
      exact Tot.pos (by omega) (Tot.pos (by omega) (Tot.pos (by omega) (Tot.pos trivial (ih (i + 1) (by omega) (by omega)))))
  unfold deaddropref1_SameTexts.f
  exact Tot.pos rfl (key _ 0 rfl (Nat.zero_le _))
end Go.Proofs.Ytaonemedoikieaa.HA
