-- Deeds by numbers; Find, Count, awake, in plain Lean (own work).
import Derived.Test.YtaonemedoikieaaMx21
import Derived.Test.YtaonemedoikieaaMHDo
namespace Go.Proofs.Ytaonemedoikieaa.HR
open Go.RowKit Go.Proofs.Ytaonemedoikieaa.M Go.Proofs.YtaonemedoikieaaW.PrintWords Go.Proofs.YtaonemedoikieaaW.PrintLast Go.Proofs.Ytaonemedoikieaa.HT

def ByteIn (x : Int) : Prop := 0 ≤ x ∧ x ≤ 255
theorem tmod_in {x : Int} (h : ByteIn x) (m : Int) (hm : 0 < m) : 0 ≤ Int.tmod (wrap64 x) m ∧ Int.tmod (wrap64 x) m < m := by
  have hw : wrap64 x = x := wr (by unfold ByteIn at h; omega)
  rw [hw, Int.tmod_eq_emod_of_nonneg h.1]
  exact ⟨Int.emod_nonneg _ (by omega), Int.emod_lt_of_pos _ hm⟩
theorem str_one (x : Int) : (strOfNums [x]).size = 1 := rfl
/-- What a deed by numbers is. -/
structure OpIs (r : Int × ByteArray × ByteArray × Int) : Prop where
  kind : 1 ≤ r.1 ∧ r.1 ≤ 5
  key : r.2.1.size = 1
  item : r.2.2.1.size = 1
  n : -1000 ≤ r.2.2.2 ∧ r.2.2.2 ≤ 1000
theorem Op_is {a b : Int} (ha : ByteIn a) (hb : ByteIn b) : ∃ r, deaddroplaw8_Op.f a b = some r ∧ OpIs r := by
  refine ⟨_, rfl, ⟨?_, str_one _, str_one _, ?_⟩⟩
  · have := tmod_in ha 5 (by decide)
    show 1 ≤ wrap64 (1 + _) ∧ wrap64 (1 + _) ≤ 5
    rw [wr (by omega)]
    omega
  · obtain ⟨h1, h2⟩ := hb
    show -1000 ≤ wrap64 (wrap64 b - 100) ∧ wrap64 (wrap64 b - 100) ≤ 1000
    rw [wr (x := b) (by omega), wr (by omega)]
    omega
/-! Find, Count -/
def isOf (key : ByteArray) (kind : Int) (f : S34) : Bool := decide (f.f1.toList = key.toList) && (decide (kind = 0) || (f.f2 == kind))
theorem Find_l0 (key : ByteArray) (kind : Int) (l : List S34) (hl : l.length ≤ 1000000000) : ∀ (m i : Nat), l.length - i = m → i ≤ l.length → Tot (fun k => facts_Find.l0 k key kind ((l.take i).filter (isOf key kind)) l (l.length : Int) (i : Int)) (fun r => r = l.filter (isOf key kind)) := by
  intro m
  induction m with
  | zero =>
    intro i hm hi
    rw [List.take_of_length_le (by omega)]
    refine Tot.step ?_
    simp only [facts_Find.l0]
    exact Tot.neg (by omega) (Tot.now rfl)
  | succ m ih =>
    intro i hm hi
    have hlt : i < l.length := by omega
    have next := ih (i + 1) (by omega) (by omega)
    rw [List.take_succ_eq_append_getElem hlt, List.filter_append] at next
    have hfi : ((l.take i).filter (isOf key kind)).length ≤ i := by
      have := List.length_filter_le (isOf key kind) (l.take i)
      rw [List.length_take] at this
      omega
    have jt : ∀ b : Bool, b = isOf key kind l[i] → Tot (fun k => facts_Find.j1 k key kind ((l.take i).filter (isOf key kind)) l (l.length : Int) (i : Int) b l[i].f0.f0 l[i].f0.f1 l[i].f1 l[i].f2 l[i].f3 l[i].f4) (fun r => r = l.filter (isOf key kind)) := by
      intro b hb
      refine Tot.step ?_
      simp only [facts_Find.j1]
      rw [eta34, wn (by omega)]
      subst hb
      refine Tot.ite (fun h => Tot.pos (by omega) ?_) (fun h => ?_)
      · rw [List.filter_cons_of_pos h] at next
        exact next
      · rw [List.filter_cons_of_neg h] at next
        simpa using next
    refine Tot.step ?_
    simp only [facts_Find.l0]
    rw [rd34 hlt]
    refine Tot.pos (by omega) (Tot.pos (by omega) (Tot.pos (by omega) (Tot.ite (fun h => Tot.ite (fun h2 => jt _ ?_) (fun h2 => jt _ ?_)) (fun h => jt _ ?_))))
    · unfold isOf; rw [decide_eq_true h, decide_eq_true h2]; rfl
    · unfold isOf; rw [decide_eq_true h, decide_eq_false h2]; rfl
    · unfold isOf; rw [decide_eq_false h]; rfl
theorem Find_tot (s : List S70) (l : List S34) (key : ByteArray) (kind : Int) (hl : l.length ≤ 1000000000) : Tot (fun k => facts_Find.f k s l key kind) (fun r => r = l.filter (isOf key kind)) :=
  Find_l0 key kind l hl _ 0 rfl (Nat.zero_le _)
theorem Count_l0 (l : List S34) (hl : l.length ≤ 1000000000) : ∀ (m i : Nat), l.length - i = m → i ≤ l.length → Tot (fun k => read_Count.l0 k (sumOf 0 (l.take i)) l (l.length : Int) (i : Int)) (fun r => r = sumOf 0 l) := by
  intro m
  induction m with
  | zero =>
    intro i hm hi
    rw [List.take_of_length_le (by omega)]
    refine Tot.step ?_
    simp only [read_Count.l0]
    exact Tot.neg (by omega) (Tot.now rfl)
  | succ m ih =>
    intro i hm hi
    have hlt : i < l.length := by omega
    have next := ih (i + 1) (by omega) (by omega)
    rw [List.take_succ_eq_append_getElem hlt] at next
    have : sumOf 0 (l.take i ++ [l[i]]) = wrap64 (sumOf 0 (l.take i) + l[i].f4) := by unfold sumOf; rw [List.foldl_append]; rfl
    rw [this] at next
    refine Tot.step ?_
    simp only [read_Count.l0]
    rw [rd34 hlt, wn (by omega)]
    exact Tot.pos (by omega) (Tot.pos (by omega) (Tot.pos (by omega) next))
theorem Count_tot (s : List S70) (l : List S34) (key : ByteArray) (hl : l.length ≤ 1000000000) : Tot (fun k => read_Count.f k s l key) (fun r => r = sumOf 0 (l.filter (isOf key 3))) := by
  unfold read_Count.f
  refine Tot.bind (Find_tot s l key 3 hl) fun t ht => ?_
  subst ht
  have := List.length_filter_le (isOf key 3) l
  exact Count_l0 _ (by omega) _ 0 rfl (Nat.zero_le _)

/-! awake: a closed sum -/
theorem Texts_one (s : List S70) (x : S34) (key : ByteArray) (hx : isOf key 1 x = true) : Tot (fun k => read_Texts.f k s [x] key) (fun r => r = [x.f3]) := by
  unfold read_Texts.f read_items.f
  refine Tot.bind (P := fun r => r = [x.f3]) (Tot.bind (Find_tot s [x] key 1 (by simp)) fun t ht => ?_) (fun r hr => Tot.now hr)
  have : [x].filter (isOf key 1) = [x] := by simp [hx]
  rw [this] at ht
  subst ht
  have e0 : rd_T34 [x] 0 = x := rfl
  have e1 : wrap64 (0 + 1) = 1 := wr (by decide)
  refine Tot.step ?_
  simp only [read_items.l0]
  rw [e0, e1]
  refine Tot.pos (by simp) (Tot.pos (by decide) (Tot.pos (by simp) (Tot.pos (by simp) (Tot.step ?_))))
  simp only [read_items.l0]
  refine Tot.neg (by simp) ?_
  have hc : read_set.f ([] ++ [x.f3]) = some [x.f3] := by
    unfold read_set.f
    rw [if_pos (by simp)]
    simp [Lib.compact, Lib.compactUpTo]
    exact ⟨0, by simp [Lib.keeps], rfl⟩
  rw [hc]
  exact Tot.now rfl
theorem Make_now : deaddroplaw8_Make.f 60 [0, 1] = some ([⟨0, 1, 1⟩], [⟨⟨0, 1⟩, ⟨#[107]⟩, 1, ⟨#[98]⟩, 0⟩]) := by kernel_rfl
theorem awake_tot : Tot (fun k => deaddroplaw10_awake.f k) (fun r => r = true) := by
  unfold deaddroplaw10_awake.f
  refine Tot.bind (P := fun r => r = ([⟨0, 1, 1⟩], [⟨⟨0, 1⟩, ⟨#[107]⟩, 1, ⟨#[98]⟩, 0⟩])) ⟨_, Ev.of (fun k => deaddroplaw8_Make.mono [0, 1] k) Make_now, rfl⟩ fun s hs => ?_
  subst hs
  refine Tot.bind (Texts_one _ _ _ (by decide +kernel)) fun t ht => ?_
  subst ht
  refine Tot.bind (Count_tot [] [] _ (by simp)) fun c hc => ?_
  subst hc
  exact Tot.pos rfl (Tot.pos rfl (Tot.pos (by decide) (Tot.now (by decide +kernel))))

end Go.Proofs.Ytaonemedoikieaa.HR
