-- RosterAll, in plain Lean (own work)
import Derived.Test.YtjmehnlhfcidaaaPx10
import Derived.Test.YtjmehnlhfcidaaaHMem
namespace Go.Proofs.Ytjmehnlhfcidaaa.HP
open Go.RowKit Go.Proofs.Ytjmehnlhfcidaaa.P Go.Proofs.YtjmehnlhfcidaaaW.PrintWords Go.Proofs.YtjmehnlhfcidaaaW.PrintLast Go.Proofs.Ytjmehnlhfcidaaa.HT

/-- What one record says of one device. -/
def Dev (e d : Int) (b : Bool) (r : S32) : Bool := if r.f0 ≤ e then (if r.f3 = d then (if r.f2 = 1 then true else if r.f2 = 2 then false else b) else b) else b
theorem In_val_loop (l : List S32) (hs : (l.length : Int) < 1000) (e d : Int) : ∀ (m : Nat) (b : Bool) (i : Int), 0 ≤ i → i + m = l.length → Tot (fun k => deaddropref14_In.l0 k l e d b i) (fun r => r = ((l.drop i.toNat).foldl (Dev e d) b && decide (0 ≤ d) && decide (d < 8)))
  | 0, b, i, h0, h1 => by
    refine Tot.step ?_
    simp only [deaddropref14_In.l0]
    rw [List.drop_eq_nil_of_le (by omega), List.foldl_nil]
    refine Tot.neg (by omega) (Tot.ite (fun hb => Tot.ite (fun hd => Tot.now ?_) (fun hd => Tot.now ?_)) (fun hb => Tot.now ?_))
    · rw [hb, decide_eq_true (show 0 ≤ d from hd)]
      rfl
    · rw [decide_eq_false (show ¬ 0 ≤ d from hd)]
      simp
    · cases b
      · rfl
      · exact absurd rfl hb
  | m + 1, b, i, h0, h1 => by
    have hi : i.toNat < l.length := by omega
    have hr : rd_T32 l i = l[i.toNat] := by
      unfold rd_T32
      rw [List.getD_eq_getElem?_getD, List.getElem?_eq_getElem hi, Option.getD_some]
    have hd : l.drop i.toNat = rd_T32 l i :: l.drop (i + 1).toNat := by
      rw [hr, List.drop_eq_getElem_cons hi]
      congr 2
      omega
    have nx : ∀ c, c = Dev e d b (rd_T32 l i) → Tot (fun k => deaddropref14_In.l0 k l e d c (i + 1)) (fun r => r = ((l.drop i.toNat).foldl (Dev e d) b && decide (0 ≤ d) && decide (d < 8))) := by
      intro c hc
      rw [hd, List.foldl_cons, ← hc]
      exact In_val_loop l hs e d m c _ (by omega) (by omega)
    have hf : Dev e d b (rd_T32 l i) = b → Tot (fun k => deaddropref14_In.j1 k l e d b i false) (fun r => r = ((l.drop i.toNat).foldl (Dev e d) b && decide (0 ≤ d) && decide (d < 8))) := by
      intro h
      refine Tot.step ?_
      simp only [deaddropref14_In.j1, wr (n := i + 1) (by omega)]
      exact Tot.neg (by decide) (nx _ h.symm)
    have ht : Dev e d b (rd_T32 l i) = ((rd_T32 l i).f2 == 1) → Tot (fun k => deaddropref14_In.j1 k l e d b i true) (fun r => r = ((l.drop i.toNat).foldl (Dev e d) b && decide (0 ≤ d) && decide (d < 8))) := by
      intro h
      refine Tot.step ?_
      simp only [deaddropref14_In.j1, wr (n := i + 1) (by omega)]
      exact Tot.pos trivial (Tot.pos (by omega) (Tot.pos (by omega) (nx _ h.symm)))
    refine Tot.step ?_
    simp only [deaddropref14_In.l0]
    refine Tot.pos (by omega) (Tot.pos (by omega) (Tot.ite (fun h1 => Tot.ite (fun h2 => Tot.ite (fun h3 => ht ?_) (fun h3 => ?_)) (fun h2 => hf ?_)) (fun h1 => hf ?_)))
    · unfold Dev
      rw [if_pos h1, if_pos h2, if_pos h3, h3]
      rfl
    · by_cases h4 : (rd_T32 l i).f2 = 2
      · rw [show ((rd_T32 l i).f2 == 2) = true from beq_iff_eq.mpr h4]
        refine ht ?_
        unfold Dev
        rw [if_pos h1, if_pos h2, if_neg h3, if_pos h4, h4]
        rfl
      · rw [show ((rd_T32 l i).f2 == 2) = false from beq_false_of_ne h4]
        refine hf ?_
        unfold Dev
        rw [if_pos h1, if_pos h2, if_neg h3, if_neg h4]
    · unfold Dev
      rw [if_pos h1, if_neg h2]
    · unfold Dev
      rw [if_neg h1]
theorem Step_get (e d : Int) (h0 : 0 ≤ d) (h1 : d < 8) (s : List Bool) (hs : s.length = 8) (r : S32) : (roster_Members.Step e s r).getD d.toNat false = Dev e d (s.getD d.toNat false) r := by
  unfold roster_Members.Step Dev
  by_cases c1 : e < r.f0
  · rw [if_pos c1, if_neg (show ¬ r.f0 ≤ e by omega)]
  rw [if_neg c1, if_pos (show r.f0 ≤ e by omega)]
  by_cases c2 : r.f3 < 0
  · rw [if_pos c2, if_neg (show ¬ r.f3 = d by omega)]
  rw [if_neg c2]
  by_cases c3 : 8 ≤ r.f3
  · rw [if_pos c3, if_neg (show ¬ r.f3 = d by omega)]
  rw [if_neg c3]
  by_cases c4 : r.f3 = d
  · rw [if_pos c4]
    have hn : d.toNat < s.length := by omega
    by_cases k1 : r.f2 = 1
    · rw [if_pos k1, if_pos k1, c4, List.getD_eq_getElem?_getD, List.getElem?_set_self hn]
      rfl
    · rw [if_neg k1, if_neg k1]
      by_cases k2 : r.f2 = 2
      · rw [if_pos k2, if_pos k2, c4, List.getD_eq_getElem?_getD, List.getElem?_set_self hn]
        rfl
      · rw [if_neg k2, if_neg k2]
  · rw [if_neg c4]
    have hne : r.f3.toNat ≠ d.toNat := by omega
    by_cases k1 : r.f2 = 1
    · rw [if_pos k1, List.getD_eq_getElem?_getD, List.getElem?_set_ne hne, List.getD_eq_getElem?_getD]
    · rw [if_neg k1]
      by_cases k2 : r.f2 = 2
      · rw [if_pos k2, List.getD_eq_getElem?_getD, List.getElem?_set_ne hne, List.getD_eq_getElem?_getD]
      · rw [if_neg k2]
theorem fold_get (e d : Int) (h0 : 0 ≤ d) (h1 : d < 8) : ∀ (l : List S32) (s : List Bool), s.length = 8 → (l.foldl (roster_Members.Step e) s).getD d.toNat false = l.foldl (Dev e d) (s.getD d.toNat false)
  | [], s, hs => rfl
  | r :: l, s, hs => by
    rw [List.foldl_cons, List.foldl_cons, ← Step_get e d h0 h1 s hs r]
    exact fold_get e d h0 h1 l _ (by rw [roster_Members.Step_len, hs])
theorem In_val (l : List S32) (hs : (l.length : Int) < 1000) (e d : Int) : Tot (fun k => deaddropref14_In.f k l e d) (fun r => r = decide (d ∈ Mem l e)) := by
  unfold deaddropref14_In.f
  refine (In_val_loop l hs e d l.length false 0 (by omega) (by omega)).mono (fun r hr => ?_)
  rw [hr, Int.toNat_zero, List.drop_zero]
  by_cases h0 : 0 ≤ d
  · by_cases h1 : d < 8
    · have hg := fold_get e d h0 h1 l roster_Members.Zero (by rfl)
      have hz : roster_Members.Zero.getD d.toNat false = false := by
        unfold roster_Members.Zero
        rw [List.getD_eq_getElem?_getD, List.getElem?_replicate]
        split <;> rfl
      rw [hz] at hg
      rw [← hg, decide_eq_true h0, decide_eq_true h1, Bool.and_true, Bool.and_true]
      have hm : d ∈ Mem l e ↔ (l.foldl (roster_Members.Step e) roster_Members.Zero).getD d.toNat false = true := by
        rw [mem_Mem, roster_Members.At, List.take_length]
        exact ⟨fun x => x.2.2, fun x => ⟨h0, h1, x⟩⟩
      cases hb : (l.foldl (roster_Members.Step e) roster_Members.Zero).getD d.toNat false
      · exact (decide_eq_false (fun x => by rw [hm, hb] at x; exact absurd x (by decide))).symm
      · exact (decide_eq_true (hm.mpr hb)).symm
    · rw [decide_eq_false h1, Bool.and_false]
      exact (decide_eq_false (fun x => h1 (mem_Mem.mp x).2.1)).symm
  · rw [decide_eq_false h0, Bool.and_false, Bool.false_and]
    exact (decide_eq_false (fun x => h0 (mem_Mem.mp x).1)).symm
/-- The members below `n`. -/
def Upto (l : List S32) (e : Int) (n : Nat) : List Int := roster_Members.Out (roster_Members.At l e l.length) n
theorem Upto_succ (l : List S32) (e : Int) (n : Nat) (h : n < 8) : Upto l e (n + 1) = if decide (((n : Nat) : Int) ∈ Mem l e) = true then Upto l e n ++ [(n : Int)] else Upto l e n := by
  have hm : ((n : Nat) : Int) ∈ Mem l e ↔ (roster_Members.At l e l.length).getD n false = true := by
    rw [mem_Mem]
    exact ⟨fun x => x.2.2, fun x => ⟨by omega, by omega, x⟩⟩
  unfold Upto roster_Members.Out
  rw [List.range_succ, List.filter_append, List.map_append]
  by_cases hc : (roster_Members.At l e l.length).getD n false = true
  · rw [if_pos (decide_eq_true (hm.mpr hc)), List.filter_cons_of_pos (by exact hc), List.filter_nil]
    rfl
  · rw [if_neg (by rw [decide_eq_true_eq, hm]; exact hc), List.filter_cons_of_neg (by exact hc), List.filter_nil, List.map_nil, List.append_nil]
theorem Upto_len (l : List S32) (e : Int) (n : Nat) : (Upto l e n).length ≤ n := by
  unfold Upto roster_Members.Out
  rw [List.length_map]
  exact Nat.le_trans (List.length_filter_le _ _) (by simp)
theorem MembersRef_loop (l : List S32) (hs : (l.length : Int) < 1000) (e : Int) : ∀ (m n : Nat) (i : Int) (x5 : List Int), i = (n : Int) → n + m = 8 → x5 = Upto l e n → Tot (fun k => deaddropref14_Members.l0 k l e x5 i) (fun r => r = Mem l e)
  | 0, n, i, x5, hi, h1, hx => by
    refine Tot.step ?_
    simp only [deaddropref14_Members.l0]
    refine Tot.neg (by omega) (Tot.now ?_)
    rw [hx, show n = 8 by omega]
    rfl
  | m + 1, n, i, x5, hi, h1, hx => by
    refine Tot.step ?_
    simp only [deaddropref14_Members.l0, wr (n := i + 1) (by omega)]
    refine Tot.pos (by omega) (Tot.bind (In_val l hs e i) fun b hb => ?_)
    have hl := Upto_len l e n
    have hu := Upto_succ l e n (by omega)
    rw [← hi, ← hb, ← hx] at hu
    refine Tot.ite (fun hc => Tot.pos (by rw [hx]; omega) (MembersRef_loop l hs e m (n + 1) _ _ (by omega) (by omega) ?_)) (fun hc => MembersRef_loop l hs e m (n + 1) _ _ (by omega) (by omega) ?_)
    · rw [hu, if_pos hc]
    · rw [hu, if_neg hc]
theorem MembersRef_val (l : List S32) (hs : (l.length : Int) < 1000) (e : Int) : Tot (fun k => deaddropref14_Members.f k l e) (fun r => r = Mem l e) := by
  unfold deaddropref14_Members.f
  exact MembersRef_loop l hs e 8 0 0 [] rfl (by omega) rfl
theorem RosterAll_pure (l : List S32) (e d : Int) : Tot (fun k => deaddroplaw16_RosterAll.f k l e d) (fun r => r = true) := by
  unfold deaddroplaw16_RosterAll.f
  refine Tot.ite (fun _ => Tot.now rfl) (fun h => ?_)
  simp only [Members_is, Option.bind_some]
  refine Tot.bind (MembersRef_val l (by omega) e) fun r hr => ?_
  refine Tot.bind (Ints_same hr.symm (by have := Mem_len l e; omega)) fun b hb => Tot.pos hb (Tot.bind (rIn_tot l e d) fun b hb => Tot.bind (In_val l (by omega) e d) fun c hc => ?_)
  subst hb hc
  exact Tot.pos (by simp) (Tot.bind awake_tot fun r hr => Tot.now hr)
end Go.Proofs.Ytjmehnlhfcidaaa.HP
