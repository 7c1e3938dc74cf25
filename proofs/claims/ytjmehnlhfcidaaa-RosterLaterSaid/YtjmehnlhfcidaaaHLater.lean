-- RosterLater, in plain Lean (own work)
import Derived.Test.YtjmehnlhfcidaaaPx12
import Derived.Test.YtjmehnlhfcidaaaHMem
namespace Go.Proofs.Ytjmehnlhfcidaaa.HP
open Go.RowKit Go.Proofs.Ytjmehnlhfcidaaa.P Go.Proofs.YtjmehnlhfcidaaaW.PrintWords Go.Proofs.YtjmehnlhfcidaaaW.PrintLast Go.Proofs.Ytjmehnlhfcidaaa.HT

theorem RosterLater_pure (l0 : List Int) (a1 a2 : Int) (hs : l0.length * 1 ≤ 140737488351232) (hv : ∀ x ∈ l0, 0 ≤ x ∧ x ≤ 255) (ha : 0 ≤ a1 ∧ a1 ≤ 255) (h2 : 0 ≤ a2 ∧ a2 ≤ 65535) : Tot (fun k => deaddroplaw16_RosterLater.f k l0 a1 a2) (fun r => r = true) := by
  unfold deaddroplaw16_RosterLater.f
  refine Tot.bind (Chain_tot l0 hv (by omega)) fun l hl => ?_
  obtain ⟨hg, hl1, hl30⟩ := hl
  have hw : wrap64 ((l.length : Int) + 1) = (l.length : Int) + 1 := wr (by omega)
  have hw2 : wrap64 ((l.length : Int) + a2) = (l.length : Int) + a2 := wr (by omega)
  have hm : 0 ≤ Int.tmod a1 ((l.length : Int) + 1) ∧ Int.tmod a1 ((l.length : Int) + 1) ≤ l.length := by
    rw [Int.tmod_eq_emod_of_nonneg (by omega)]
    have := Int.emod_lt_of_pos a1 (b := (l.length : Int) + 1) (by omega)
    exact ⟨Int.emod_nonneg _ (by omega), by omega⟩
  have h8 : ∀ (l : List S32) (e : Int), ((Mem l e).length : Int) < 1000 := fun l e => by have := Mem_len l e; omega
  simp only [wr (n := a1) (by omega), wr (n := a2) (by omega), hw, hw2, Members_is, Option.bind_some]
  generalize Int.tmod a1 ((l.length : Int) + 1) = k at hm ⊢
  refine Tot.neg (by omega) (Tot.bind (Ints_same ?_ (h8 _ _)) fun b hb => Tot.pos hb (Tot.pos hm.1 (Tot.pos hm.2 (Tot.bind (Ints_same ?_ (h8 _ _)) fun b hb => Tot.pos hb (Tot.bind (Ints_same ?_ (h8 _ _)) fun b hb => Tot.pos hb (Tot.bind awake_tot fun r hr => Tot.now hr))))))
  · rw [Mem_is hg, Mem_is hg, List.take_of_length_le (by omega), List.take_of_length_le (by omega)]
  · rw [Mem_is hg, Mem_is (hg.take _), List.take_take, Nat.min_self]
  · rw [Mem_is hg, Mem_is (hg.take _), List.take_take, Nat.min_eq_right (by omega)]
end Go.Proofs.Ytjmehnlhfcidaaa.HP
