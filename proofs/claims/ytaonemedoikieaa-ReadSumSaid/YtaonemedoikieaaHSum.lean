-- What a counter tells, in plain Lean (own work): ReadSum.
import Derived.Test.YtaonemedoikieaaPx22
import Derived.Test.YtaonemedoikieaaHApart
namespace Go.Proofs.Ytaonemedoikieaa.HR
open Go.RowKit Go.Proofs.Ytaonemedoikieaa.P Go.Proofs.YtaonemedoikieaaW.PrintWords Go.Proofs.YtaonemedoikieaaW.PrintLast Go.Proofs.Ytaonemedoikieaa.HT

/-! ReadSum -/
theorem sum_filter (p : S34 → Bool) (l : List S34) (a : Int) : sumOf a (l.filter p) = l.foldl (fun a f => if p f = true then wrap64 (a + f.f4) else a) a := by
  unfold sumOf
  rw [List.foldl_filter]
theorem ReadSum_l0 (key : ByteArray) (s : List S70) (l : List S34) (hG : Good 40 s l) : ∀ (m i : Nat), l.length - i = m → i ≤ l.length → Tot (fun k => deaddroplaw10_ReadSum.l0 k key (sumOf 0 ((l.take i).filter (isOf key 3))) (i : Int) s l) (fun r => r = true) := by
  have hfl := hG.flen (by decide)
  intro m
  induction m with
  | zero =>
    intro i hm hi
    rw [List.take_of_length_le (by omega)]
    refine Tot.step ?_
    simp only [deaddroplaw10_ReadSum.l0]
    refine Tot.neg (by omega) (Tot.bind (Count_tot s l key (by omega)) fun c hc => Tot.pos hc (Tot.bind (Join_tot 40 hG hG (by decide) (by decide)) fun j hj => ?_))
    have hs : j.2 = l := hj.2.2.trans (Join_self hG)
    rw [hs]
    exact Tot.bind (Count_tot j.1 l key (by omega)) fun c hc => Tot.pos hc (Tot.bind awake_tot fun r hr => Tot.now hr)
  | succ m ih =>
    intro i hm hi
    have hlt : i < l.length := by omega
    have next := ih (i + 1) (by omega) (by omega)
    rw [List.take_succ_eq_append_getElem hlt, List.filter_append] at next
    have yes : isOf key 3 l[i] = true → Tot (fun k => deaddroplaw10_ReadSum.l0 k key (wrap64 (sumOf 0 ((l.take i).filter (isOf key 3)) + l[i].f4)) ((i + 1 : Nat) : Int) s l) (fun r => r = true) := by
      intro h
      rw [List.filter_cons_of_pos h] at next
      have : sumOf 0 ((l.take i).filter (isOf key 3) ++ l[i] :: List.filter (isOf key 3) []) = wrap64 (sumOf 0 ((l.take i).filter (isOf key 3)) + l[i].f4) := by simp [sumOf]
      rw [this] at next
      exact next
    have no : isOf key 3 l[i] = false → Tot (fun k => deaddroplaw10_ReadSum.l0 k key (sumOf 0 ((l.take i).filter (isOf key 3))) ((i + 1 : Nat) : Int) s l) (fun r => r = true) := by
      intro h
      rw [List.filter_cons_of_neg (by rw [h]; decide)] at next
      simpa using next
    refine Tot.step ?_
    simp only [deaddroplaw10_ReadSum.l0]
    rw [rd34 hlt, wn (by omega)]
    refine Tot.pos (by omega) (Tot.pos (by omega) (Tot.ite (fun h => Tot.ite (fun h2 => yes ?_) (fun h2 => no ?_)) (fun h => no ?_)))
    · unfold isOf; rw [decide_eq_true h, h2]; rfl
    · unfold isOf; rw [decide_eq_true h]; simp [h2]
    · unfold isOf; rw [decide_eq_false h]; rfl
theorem ReadSum_pure (ns : List Int) (key : Int) (hns : ∀ x, x ∈ ns → ByteIn x) : Tot (fun k => deaddroplaw10_ReadSum.f k ns key) (fun r => r = true) := by
  unfold deaddroplaw10_ReadSum.f
  refine Tot.bind (Apart_tot ns hns) fun l hL => Tot.bind (All_tot hL) fun a ha => ?_
  have h4 := hL.1
  refine Tot.pos (by omega) (Tot.pos (by omega) (Tot.bind (Join_tot 40 (hL.at_ 1 (by decide) (by decide)) (hL.at_ 2 (by decide) (by decide)) (by decide) (by decide)) fun b hb => Tot.bind (Join_tot 40 ha hb.1 (by decide) (by decide)) fun c hc => ?_))
  exact ReadSum_l0 _ c.1 c.2 hc.1 _ 0 rfl (Nat.zero_le _)
end Go.Proofs.Ytaonemedoikieaa.HR
