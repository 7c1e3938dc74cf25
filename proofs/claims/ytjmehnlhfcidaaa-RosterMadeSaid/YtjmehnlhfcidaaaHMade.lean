-- RosterMade, in plain Lean (own work)
import Derived.Test.YtjmehnlhfcidaaaPx11
import Derived.Test.YtjmehnlhfcidaaaHMem
namespace Go.Proofs.Ytjmehnlhfcidaaa.HP
open Go.RowKit Go.Proofs.Ytjmehnlhfcidaaa.P Go.Proofs.YtjmehnlhfcidaaaW.PrintWords Go.Proofs.YtjmehnlhfcidaaaW.PrintLast Go.Proofs.Ytjmehnlhfcidaaa.HT

theorem At_succ {l : List S32} (h : Good l) (e : Int) (h0 : 0 ≤ e) (h1 : e < l.length) : roster_Members.At l (e + 1) l.length = All (roster_Members.At l e l.length) (rd_T32 l e) := by
  have hg := rd_T32_get l e h0 h1
  rw [At_is h, At_is h, show (e + 1).toNat = e.toNat + 1 by omega, List.take_add_one, hg, List.foldl_append]
  rfl
theorem All_get {s : List Bool} (hs : s.length = 8) {i : Nat} {r : S32} (hr : Ok i r) (d : Int) (h0 : 0 ≤ d) (_h1 : d < 8) : (All s r).getD d.toNat false = if r.f3 = d then r.f2 == 1 else s.getD d.toNat false := by
  have hd := hr.dev
  unfold All roster_Members.Step
  rw [if_neg (Int.lt_irrefl _), if_neg (by omega), if_neg (by omega)]
  by_cases hc : r.f3 = d
  · rw [if_pos hc, ← hc]
    have hn : r.f3.toNat < s.length := by omega
    rcases hr.kind with h | h
    · rw [if_pos h, h, List.getD_eq_getElem?_getD, List.getElem?_set_self hn]
      rfl
    · rw [h, if_neg (by decide), if_pos rfl, List.getD_eq_getElem?_getD, List.getElem?_set_self hn]
      rfl
  · rw [if_neg hc]
    have hne : r.f3.toNat ≠ d.toNat := by omega
    rcases hr.kind with h | h
    · rw [if_pos h, List.getD_eq_getElem?_getD, List.getElem?_set_ne hne, List.getD_eq_getElem?_getD]
    · rw [h, if_neg (by decide), if_pos rfl, List.getD_eq_getElem?_getD, List.getElem?_set_ne hne, List.getD_eq_getElem?_getD]
theorem in_same {l : List S32} (h : Good l) (e d : Int) (h0 : 0 ≤ e) (h1 : e < l.length) (d0 : 0 ≤ d) (d1 : d < 8) (hd : (rd_T32 l e).f3 = d) : decide (d ∈ Mem l (e + 1)) = ((rd_T32 l e).f2 == 1) := by
  have hx := All_get (roster_Members.At_len l e l.length) (h _ _ (rd_T32_get l e h0 h1)) d d0 d1
  rw [if_pos hd, ← At_succ h e h0 h1] at hx
  have : d ∈ Mem l (e + 1) ↔ ((rd_T32 l e).f2 == 1) = true := by rw [mem_Mem, hx]; exact ⟨fun x => x.2.2, fun x => ⟨d0, d1, x⟩⟩
  cases hb : ((rd_T32 l e).f2 == 1) <;> simp [this, hb]
theorem in_other {l : List S32} (h : Good l) (e d : Int) (h0 : 0 ≤ e) (h1 : e < l.length) (d0 : 0 ≤ d) (d1 : d < 8) (hd : (rd_T32 l e).f3 ≠ d) : decide (d ∈ Mem l e) = decide (d ∈ Mem l (e + 1)) := by
  have hx := All_get (roster_Members.At_len l e l.length) (h _ _ (rd_T32_get l e h0 h1)) d d0 d1
  rw [if_neg hd, ← At_succ h e h0 h1] at hx
  exact decide_eq_decide.mpr (by rw [mem_Mem, mem_Mem, hx])

/-- The loop over the members: in order, and is `d` one of them. -/
theorem asc_get {l : List Int} (h : l.Pairwise (· < ·)) (i : Int) (h0 : 0 < i) (h1 : i < l.length) : rd l (i - 1) < rd l i := by
  unfold rd
  rw [List.getD_eq_getElem?_getD, List.getElem?_eq_getElem (by omega), List.getD_eq_getElem?_getD, List.getElem?_eq_getElem (by omega), Option.getD_some, Option.getD_some]
  exact List.pairwise_iff_getElem.mp h _ _ (by omega) (by omega) (by omega)
theorem Made_l1 {Q : Bool → Prop} (x5 : List S32) (x6 x7 : Int) (x9 : Bool) (x11 : List Int) (hs : (x11.length : Int) ≤ 8) (ha : x11.Pairwise (· < ·)) (h9 : x9 = decide (x7 ∈ x11)) (hn : Tot (fun k => deaddroplaw16_RosterMade.l0 k x5 x6 (wrap64 (x7 + 1))) Q) :
    ∀ (m : Nat) (x10 : Bool) (i : Int), 0 ≤ i → i + m = x11.length → x10 = decide (x7 ∈ x11.take i.toNat) → Tot (fun k => deaddroplaw16_RosterMade.l1 k x5 x6 x7 x9 x10 x11 i) Q
  | 0, x10, i, h0, h1, hx => by
    refine Tot.step ?_
    simp only [deaddroplaw16_RosterMade.l1]
    refine Tot.neg (by omega) (Tot.neg ?_ hn)
    rw [hx, h9, List.take_of_length_le (by omega)]
    simp
  | m + 1, x10, i, h0, h1, hx => by
    have hi : i.toNat < x11.length := by omega
    have hr : rd x11 i = x11[i.toNat] := by
      unfold rd
      rw [List.getD_eq_getElem?_getD, List.getElem?_eq_getElem hi, Option.getD_some]
    have ht : x11.take (i + 1).toNat = x11.take i.toNat ++ [rd x11 i] := by
      rw [show (i + 1).toNat = i.toNat + 1 by omega, List.take_add_one, List.getElem?_eq_getElem hi, hr]
      rfl
    have hlt : 0 < i → ¬ rd x11 (i - 1) ≥ rd x11 i := fun h => by have := asc_get ha i h (by omega); omega
    have nx : ∀ b, b = decide (x7 ∈ x11.take (i + 1).toNat) → Tot (fun k => deaddroplaw16_RosterMade.l1 k x5 x6 x7 x9 b x11 (i + 1)) Q := fun b hb => Made_l1 x5 x6 x7 x9 x11 hs ha h9 hn m b _ (by omega) (by omega) hb
    refine Tot.step ?_
    simp only [deaddroplaw16_RosterMade.l1, wr (n := i + 1) (by omega), wr (n := i - 1) (by omega)]
    refine Tot.pos (by omega) (Tot.ite (fun h10 => ?_) (fun h10 => ?_))
    · have hm : true = decide (x7 ∈ x11.take (i + 1).toNat) := by
        rw [h10] at hx
        have := of_decide_eq_true hx.symm
        rw [ht]
        simp [this]
      refine Tot.ite (fun hp => Tot.pos (by omega) (Tot.pos (by omega) (Tot.pos (by omega) (Tot.neg (hlt hp) (nx _ hm))))) (fun _ => nx _ hm)
    · have hm : (rd x11 i == x7) = decide (x7 ∈ x11.take (i + 1).toNat) := by
        have hf : x10 = false := by cases x10 <;> simp_all
        rw [hf] at hx
        have := of_decide_eq_false hx.symm
        rw [ht]
        by_cases hc : rd x11 i = x7
        · simp [hc]
        · rw [beq_false_of_ne hc]
          refine (decide_eq_false fun hh => ?_).symm
          rcases List.mem_append.mp hh with h1 | h1
          · exact this h1
          · exact hc (List.mem_singleton.mp h1).symm
      refine Tot.pos (by omega) (Tot.ite (fun hp => Tot.pos (by omega) (Tot.pos (by omega) (Tot.neg (hlt hp) (nx _ hm)))) (fun _ => nx _ hm))

theorem Made_l0 (l : List S32) (hg : Good l) (hl : l.length ≤ 30) (x6 : Int) (h60 : 0 ≤ x6) (h61 : x6 < l.length) : ∀ (m : Nat) (d : Int), 0 ≤ d → d + m = 8 → Tot (fun k => deaddroplaw16_RosterMade.l0 k l x6 d) (fun r => r = true)
  | 0, d, h0, h1 => by
    refine Tot.step ?_
    simp only [deaddroplaw16_RosterMade.l0, Members_is, Option.bind_some]
    have hz : Mem l 0 = [] := by rw [Mem_is hg]; rfl
    refine Tot.neg (by omega) (Tot.pos (by rw [hz]; rfl) (Tot.bind awake_tot fun r hr => Tot.now hr))
  | m + 1, d, h0, h1 => by
    have hj : Tot (fun k => deaddroplaw16_RosterMade.j1 k l x6 d (decide (d ∈ Mem l (x6 + 1))) false) (fun r => r = true) := by
      refine Tot.step ?_
      simp only [deaddroplaw16_RosterMade.j1, Members_is, Option.bind_some, wr (n := x6 + 1) (by omega)]
      refine Tot.neg (by decide) ?_
      have h8 := Mem_len l (x6 + 1)
      refine Made_l1 l x6 d _ (Mem l (x6 + 1)) (by omega) (Mem_asc _ _) rfl ?_ (Mem l (x6 + 1)).length false 0 (by omega) (by omega) (by simp)
      rw [wr (n := d + 1) (by omega)]
      exact Made_l0 l hg hl x6 h60 h61 m _ (by omega) (by omega)
    refine Tot.step ?_
    simp only [deaddroplaw16_RosterMade.l0, wr (n := x6 + 1) (by omega)]
    refine Tot.pos (by omega) (Tot.bind (rIn_tot l x6 d) fun r hr => Tot.bind (rIn_tot l (x6 + 1) d) fun r' hr' => ?_)
    subst hr hr'
    refine Tot.pos h60 (Tot.pos h61 (Tot.ite (fun hd => Tot.neg ?_ hj) (fun hd => ?_)))
    · rw [in_same hg x6 d h60 h61 h0 (by omega) hd]
      simp
    · rw [in_other hg x6 d h60 h61 h0 (by omega) hd]
      simpa using hj
theorem RosterMade_pure (l0 : List Int) (a1 : Int) (hs : l0.length * 1 ≤ 140737488351232) (hv : ∀ x ∈ l0, 0 ≤ x ∧ x ≤ 255) (ha : 0 ≤ a1 ∧ a1 ≤ 255) : Tot (fun k => deaddroplaw16_RosterMade.f k l0 a1) (fun r => r = true) := by
  unfold deaddroplaw16_RosterMade.f
  refine Tot.bind (Chain_tot l0 hv (by omega)) fun l hl => Tot.neg (by have := hl.2.1; omega) ?_
  have h1 := hl.2.1
  have hm : 0 ≤ Int.tmod (wrap64 a1) (l.length : Int) ∧ Int.tmod (wrap64 a1) (l.length : Int) < l.length := by
    rw [wr (n := a1) (by omega), Int.tmod_eq_emod_of_nonneg (by omega)]
    exact ⟨Int.emod_nonneg _ (by omega), Int.emod_lt_of_pos _ (by omega)⟩
  exact Made_l0 l hl.1 hl.2.2 _ hm.1 hm.2 8 0 (by omega) (by omega)
end Go.Proofs.Ytjmehnlhfcidaaa.HP
