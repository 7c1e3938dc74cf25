-- ChachaCounts, in plain Lean (own work).
import Derived.Test.YticeijifmmegeaaHQ
import Derived.Test.YticeijifmmegeaaQx9
namespace Go.Proofs.Yticeijifmmegeaa.HQ
open Go.RowKit Go.Proofs.Yticeijifmmegeaa.Q Go.Proofs.YticeijifmmegeaaW.PrintWords Go.Proofs.YticeijifmmegeaaW.PrintLast Go.Proofs.Yticeijifmmegeaa.HT
/-- Nothing turned is the blocks themselves. -/
theorem zeros_block (a b : ByteArray) (c : Int) (n i : Nat) (h : 64 * i + 64 ≤ n) : ((cc_xo a b c (List.replicate n 0) n).take (64 * i + 64)).drop (64 * i) = cc_block a b (c + (i : Int)) := by
  have hl : (List.replicate n (0 : Int)).length = n := List.length_replicate
  have hm := xo_map a b c (List.replicate n 0)
  rw [hl] at hm
  rw [hm]
  apply List.ext_getElem?
  intro j
  rw [List.getElem?_drop]
  by_cases hj : j < 64
  · rw [List.getElem?_take_of_lt (by omega), List.getElem?_map, List.getElem?_range (by omega)]
    have hb : j < (cc_block a b (c + (i : Int))).length := by rw [cc_block_length]; exact hj
    rw [List.getElem?_eq_getElem hb, Option.map_some, cc_xb_at _ _ _ _ _ _ hj]
    have hr := block_range a b (c + (i : Int)) j hj
    have h0 : rd (List.replicate n (0 : Int)) ((64 * i + j : Nat) : Int) = 0 := by
      unfold rd
      rw [Int.toNat_natCast, List.getD_eq_getElem?_getD, List.getElem?_replicate]
      split <;> rfl
    rw [h0, xor0 _ hr.1 hr.2]
    unfold rd
    rw [Int.toNat_natCast, List.getD_eq_getElem?_getD, List.getElem?_eq_getElem hb, Option.getD_some]
  · rw [List.getElem?_eq_none (by rw [List.length_take, List.length_map, List.length_range]; omega), List.getElem?_eq_none (by rw [cc_block_length]; omega)]
theorem Counts_loop (a b : ByteArray) (ha : a.size = 32) (hb : b.size = 12) (c : Int) (m : Nat) (hm : m ≤ 4) (hc : 0 ≤ c ∧ c + m ≤ 4294967296) : ∀ (d : Nat) (i : Nat) (x : Int), x = (i : Int) → i + d = m →
    Tot (fun k => deaddroplaw1_ChachaCounts.l0 k a b m c (cc_xo a b c (List.replicate (64 * m) 0) (64 * m)) x) (fun r => r = true)
  | 0, i, x, hx, h => by
    refine Tot.step ?_
    simp only [deaddroplaw1_ChachaCounts.l0]
    exact Tot.neg (by omega) (Tot.bind awake_tot fun r hr => Tot.now hr)
  | d + 1, i, x, hx, h => by
    refine Tot.step ?_
    have hl : (cc_xo a b c (List.replicate (64 * m) 0) (64 * m)).length = 64 * m := by
      have := cc_xo_length a b c (List.replicate (64 * m) 0) (64 * m)
      rw [this, List.length_replicate]
    have w1 : wrap64 (64 * x) = 64 * x := wr (by omega)
    have w2 : wrap64 (64 * x + 64) = 64 * x + 64 := wr (by omega)
    have w3 : wrap64 (c + x) = c + x := wr (by omega)
    have w4 : wrap64 (x + 1) = x + 1 := wr (by omega)
    simp only [deaddroplaw1_ChachaCounts.l0, w1, w2, w3, w4, hl, chacha_Block.f, Option.bind_some]
    have hy : ∀ hd : Decidable (a.size = 32 ∧ b.size = 12 ∧ 0 ≤ c + x ∧ c + x < 4294967296), (if a.size = 32 ∧ b.size = 12 ∧ 0 ≤ c + x ∧ c + x < 4294967296 then strOfNums (cc_block a b (c + x)) else (⟨#[]⟩ : ByteArray)) = strOfNums (cc_block a b (c + x)) := fun _ => if_pos ⟨ha, hb, by omega, by omega⟩
    have hz := zeros_block a b c (64 * m) i (by omega)
    have e1 : (64 * x).toNat = 64 * i := by omega
    have e2 : (64 * x + 64).toNat = 64 * i + 64 := by omega
    rw [e1, e2, hz, hx]
    rw [hx] at hy
    refine Tot.pos (by omega) (Tot.pos (by omega) (Tot.pos (by omega) (Tot.pos (by omega) (Tot.pos ?_ ?_))))
    · rw [hy]
    · exact Counts_loop a b ha hb c m hm hc d (i + 1) _ (by omega) (by omega)
theorem Counts_pure (l0 : List Int) (a1 a2 : Int) (hs : l0.length * 1 ≤ 140737488351232) (h1 : 0 ≤ a1 ∧ a1 ≤ 255) (h2 : 0 ≤ a2 ∧ a2 ≤ 4294967295) : Tot (fun k => deaddroplaw1_ChachaCounts.f k l0 a1 a2) (fun r => r = true) := by
  obtain ⟨m, hm⟩ : ∃ m : Nat, 1 + a1 % 4 = (m : Int) := ⟨(1 + a1 % 4).toNat, by omega⟩
  have hm4 : 1 ≤ m ∧ m ≤ 4 := by omega
  have ht : wrap64 (1 + Int.tmod (wrap64 a1) 4) = (m : Int) := by rw [wr (n := a1) (by omega), Int.tmod_eq_emod_of_nonneg (by omega), hm, wr (by omega)]
  have w1 : wrap64 (64 * (m : Int)) = 64 * (m : Int) := wr (by omega)
  have w2 : wrap64 a2 = a2 := wr (by omega)
  have w3 : wrap64 (a2 + (m : Int)) = a2 + (m : Int) := wr (by omega)
  have e1 : (64 * (m : Int)).toNat = 64 * m := by omega
  unfold deaddroplaw1_ChachaCounts.f
  simp only [ht, w1, w2, w3, e1]
  refine Tot.bind (Bytes_tot l0 32 (by decide) (by decide) (by omega)) fun t htt => Tot.bind (Bytes_tot [] 12 (by decide) (by decide) (by decide)) fun u hu => Tot.pos (by omega) (Tot.pos (by omega) ?_)
  have hl : (List.replicate (64 * m) (0 : Int)).length = 64 * m := List.length_replicate
  refine Tot.bind (Xor_tot t u a2 (List.replicate (64 * m) 0) (by rw [hl]; omega)) fun v hv => ?_
  have hfit : Fits t u a2 (List.replicate (64 * m) 0) ↔ a2 + (m : Int) ≤ 4294967296 := by
    unfold Fits cc_many
    rw [hl]
    constructor
    · intro h
      have := h.2.2
      omega
    · intro h
      exact ⟨by omega, ⟨by omega, by omega, by omega, by omega⟩, by omega⟩
  refine Tot.ite (fun hc => Tot.pos ?_ (Tot.bind awake_tot fun r hr => Tot.now hr)) (fun hc => ?_)
  · rw [hv, if_neg (fun h => by have := hfit.mp h; omega)]
    rfl
  · rw [if_pos (hfit.mpr (by omega)), hl] at hv
    rw [hv]
    refine Tot.pos ?_ (Counts_loop t u (by omega) (by omega) a2 m hm4.2 ⟨by omega, by omega⟩ m 0 0 rfl (by omega))
    rw [cc_xo_length, hl]
    omega
end Go.Proofs.Yticeijifmmegeaa.HQ
