-- Who is a member: by the records up to the epoch (own work)
import Derived.Test.YtjmehnlhfcidaaaPx1
import Derived.Test.YtjmehnlhfcidaaaHChain
namespace Go.Proofs.Ytjmehnlhfcidaaa.HP
open Go.RowKit Go.Proofs.Ytjmehnlhfcidaaa.P Go.Proofs.YtjmehnlhfcidaaaW.PrintWords Go.Proofs.YtjmehnlhfcidaaaW.PrintLast Go.Proofs.Ytjmehnlhfcidaaa.HT

/-- A record whose epoch has come. -/
def All (s : List Bool) (r : S32) : List Bool := roster_Members.Step r.f0 s r
theorem fold_take (e : Int) : ∀ (l : List S32) (n : Nat) (s : List Bool), (∀ (i : Nat) (r : S32), l[i]? = some r → r.f0 = (n : Int) + i + 1) → l.foldl (roster_Members.Step e) s = (l.take (e - n).toNat).foldl All s
  | [], n, s, h => by simp
  | r :: l, n, s, h => by
    have h0 : r.f0 = (n : Int) + 1 := by have := h 0 r rfl; omega
    have ht := fold_take e l (n + 1) (roster_Members.Step e s r) (fun i x hx => by have := h (i + 1) x (by simpa using hx); omega)
    rw [List.foldl_cons, ht]
    by_cases he : e < r.f0
    · have e1 : (e - (n : Int)).toNat = 0 := by omega
      have e2 : (e - ((n + 1 : Nat) : Int)).toNat = 0 := by omega
      rw [e1, e2]
      simp only [roster_Members.Step, if_pos he, List.take_zero, List.foldl_nil]
    · have e1 : (e - (n : Int)).toNat = (e - ((n + 1 : Nat) : Int)).toNat + 1 := by omega
      rw [e1, List.take_succ_cons, List.foldl_cons]
      congr 1
      simp only [All, roster_Members.Step, if_neg he, Int.lt_irrefl, if_false]
theorem At_is {l : List S32} (h : Good l) (e : Int) : roster_Members.At l e l.length = (l.take e.toNat).foldl All roster_Members.Zero := by
  unfold roster_Members.At
  rw [List.take_length, fold_take e l 0 _ (fun i r hr => by have := (h i r hr).seq; omega)]
  simp
theorem Mem_is {l : List S32} (h : Good l) (e : Int) : Mem l e = roster_Members.Out ((l.take e.toNat).foldl All roster_Members.Zero) 8 := by
  unfold Mem
  rw [At_is h]
theorem Ints_loop (l : List Int) (hs : (l.length : Int) < 1000) : ∀ (m : Nat) (i : Int), 0 ≤ i → i + m = l.length → Tot (fun k => deaddropref1_Ints.l0 k l l i) (fun r => r = true)
  | 0, i, h0, h1 => by
    refine Tot.step ?_
    simp only [deaddropref1_Ints.l0]
    exact Tot.neg (by omega) (Tot.now rfl)
  | m + 1, i, h0, h1 => by
    refine Tot.step ?_
    simp only [deaddropref1_Ints.l0, wr (n := i + 1) (by omega)]
    exact Tot.pos (by omega) (Tot.pos (by omega) (Tot.pos (by omega) (Tot.pos trivial (Ints_loop l hs m _ (by omega) (by omega)))))
theorem Ints_same {l l' : List Int} (h : l = l') (hs : (l.length : Int) < 1000) : Tot (fun k => deaddropref1_Ints.f k l l') (fun r => r = true) := by
  subst h
  unfold deaddropref1_Ints.f
  exact Tot.pos rfl (Ints_loop l hs l.length 0 (by omega) (by omega))
theorem Good.take {l : List S32} (h : Good l) (n : Nat) : Good (l.take n) := by
  intro i r hr
  refine h i r ?_
  rw [List.getElem?_take] at hr
  split at hr
  · exact hr
  · exact absurd hr (by simp)
end Go.Proofs.Ytjmehnlhfcidaaa.HP
