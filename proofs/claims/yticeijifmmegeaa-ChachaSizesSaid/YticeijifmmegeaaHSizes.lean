-- ChachaSizes, in plain Lean (own work).
import Derived.Test.YticeijifmmegeaaHQ
import Derived.Test.YticeijifmmegeaaQx7
namespace Go.Proofs.Yticeijifmmegeaa.HQ
open Go.RowKit Go.Proofs.Yticeijifmmegeaa.Q Go.Proofs.YticeijifmmegeaaW.PrintWords Go.Proofs.YticeijifmmegeaaW.PrintLast Go.Proofs.Yticeijifmmegeaa.HT
theorem Sizes_j1 (x11 : Bool) (x12 : List Int) (x13 : ByteArray) (x14 : List Int) (x15 : Bool) (hn : 1 ≤ x12.length ∧ x12.length ≤ 300) (h13 : ((x13.size : Int) == 64) = x11) (h13' : x11 = false → x13 = (⟨#[]⟩ : ByteArray)) (h14 : ((x14.length : Int) == (x12.length : Int)) = x15) (h14' : x15 = false → x14 = []) :
    Tot (fun k => deaddroplaw1_ChachaSizes.j1 k x11 x12 x13 x14 x15) (fun r => r = true) := by
  refine Tot.step ?_
  simp only [deaddroplaw1_ChachaSizes.j1, h13, h14]
  refine Tot.bind (Bytes_tot [] 32 (by decide) (by decide) (by decide)) fun t ht => Tot.bind (Bytes_tot [] 12 (by decide) (by decide) (by decide)) fun u hu => Tot.bind (Xor_tot t u 4294967295 x12 (by omega)) fun v hv => ?_
  have hv' : (decide ((v.length : Int) > 0) == decide ((x12.length : Int) ≤ 64)) = true := by
    rw [hv]
    by_cases hc : x12.length ≤ 64
    · have hf : Fits t u 4294967295 x12 := ⟨by omega, ⟨by omega, by omega, by decide, by decide⟩, by unfold cc_many; omega⟩
      rw [if_pos hf, cc_xo_length]
      rw [decide_eq_true (show (x12.length : Int) > 0 by omega), decide_eq_true (show (x12.length : Int) ≤ 64 by omega)]
      rfl
    · have hf : ¬ Fits t u 4294967295 x12 := fun h => by have := h.2.2; unfold cc_many at this; omega
      rw [if_neg hf, decide_eq_false (show ¬ (x12.length : Int) ≤ 64 by omega)]
      rfl
  have fin : Tot (fun k => if (decide ((v.length : Int) > 0) == decide ((x12.length : Int) ≤ 64)) = true then ((deaddroplaw1_awake.f k).bind fun t185 => (some t185)) else (some false)) (fun r => r = true) := Tot.pos hv' (Tot.bind awake_tot fun r hr => Tot.now hr)
  have rest : Tot (fun k => if (x15 == x15) = true then (if x15 = true then (if (decide ((v.length : Int) > 0) == decide ((x12.length : Int) ≤ 64)) = true then ((deaddroplaw1_awake.f k).bind fun t185 => (some t185)) else (some false)) else (if (x14.length : Int) = 0 then (if (decide ((v.length : Int) > 0) == decide ((x12.length : Int) ≤ 64)) = true then ((deaddroplaw1_awake.f k).bind fun t185 => (some t185)) else (some false)) else (some false))) else (some false)) (fun r => r = true) := by
    refine Tot.pos (by simp) (Tot.ite (fun _ => fin) (fun hb => Tot.pos ?_ fin))
    rw [h14' (by cases x15 <;> simp_all)]
    rfl
  refine Tot.pos (by simp) (Tot.ite (fun _ => rest) (fun hb => Tot.pos ?_ rest))
  rw [h13' (by cases x11 <;> simp_all), ByteArray.toList, ByteArray.toList.loop]
  rfl
theorem Sizes_pure (a0 a1 a2 a3 : Int) (h0 : 0 ≤ a0 ∧ a0 ≤ 255) (h1 : 0 ≤ a1 ∧ a1 ≤ 255) (h2 : -9223372036854775808 ≤ a2 ∧ a2 ≤ 9223372036854775807) (h3 : 0 ≤ a3 ∧ a3 ≤ 65535) : Tot (fun k => deaddroplaw1_ChachaSizes.f k a0 a1 a2 a3) (fun r => r = true) := by
  have hk : Int.tmod (wrap64 a0) 70 = a0 % 70 := by rw [wr (n := a0) (by omega), Int.tmod_eq_emod_of_nonneg (by omega)]
  have ho : Int.tmod (wrap64 a1) 30 = a1 % 30 := by rw [wr (n := a1) (by omega), Int.tmod_eq_emod_of_nonneg (by omega)]
  have hn : wrap64 (1 + Int.tmod (wrap64 a3) 300) = 1 + a3 % 300 := by rw [wr (n := a3) (by omega), Int.tmod_eq_emod_of_nonneg (by omega), wr (by omega)]
  have j0 : ∀ b : Bool, b = decide ((a0 % 70 = 32 ∧ a1 % 30 = 12) ∧ 0 ≤ a2 ∧ a2 < 4294967296) → Tot (fun k => deaddroplaw1_ChachaSizes.j0 k a2 a3 (a0 % 70) (a1 % 30) b) (fun r => r = true) := by
    intro b hb
    refine Tot.step ?_
    simp only [deaddroplaw1_ChachaSizes.j0, hn, Option.bind_some, List.length_replicate]
    refine Tot.pos (by omega) (Tot.pos (by omega) ?_)
    refine Tot.bind (Bytes_tot [] _ (by omega) (by omega) (by decide)) fun t1 ht1 => Tot.bind (Bytes_tot [] _ (by omega) (by omega) (by decide)) fun u1 hu1 => ?_
    simp only [chacha_Block.f, Option.bind_some]
    refine Tot.bind (Bytes_tot [] _ (by omega) (by omega) (by decide)) fun t2 ht2 => Tot.bind (Bytes_tot [] _ (by omega) (by omega) (by decide)) fun u2 hu2 => ?_
    obtain ⟨n, hnn⟩ : ∃ n : Nat, 1 + a3 % 300 = (n : Int) := ⟨(1 + a3 % 300).toNat, by omega⟩
    rw [hnn, Int.toNat_natCast]
    have hn1 : 1 ≤ n ∧ n ≤ 300 := by omega
    refine Tot.bind (Xor_tot t2 u2 a2 (List.replicate n 0) (by rw [List.length_replicate]; omega)) fun v hv => ?_
    have hl : (List.replicate n (0 : Int)).length = n := List.length_replicate
    have hw1 : wrap64 ((n : Int) - 1) = (n : Int) - 1 := wr (by omega)
    have ht : Int.tdiv ((n : Int) - 1) 64 = ((n : Int) - 1) / 64 := Int.tdiv_eq_ediv_of_nonneg (by omega)
    have hw2 : wrap64 (((n : Int) - 1) / 64) = ((n : Int) - 1) / 64 := wr (by omega)
    have c13 : ∀ hc : Decidable (t1.size = 32 ∧ u1.size = 12 ∧ 0 ≤ a2 ∧ a2 < 4294967296), (t1.size = 32 ∧ u1.size = 12 ∧ 0 ≤ a2 ∧ a2 < 4294967296) ↔ b = true := by
      intro _
      rw [hb, decide_eq_true_eq]
      constructor
      · intro ⟨x1, x2, x3, x4⟩
        exact ⟨⟨by omega, by omega⟩, x3, x4⟩
      · intro ⟨⟨x1, x2⟩, x3, x4⟩
        exact ⟨by omega, by omega, x3, x4⟩
    have c13 := c13 inferInstance
    simp only [hw1, ht, hw2]
    by_cases hbt : b = true
    · rw [hbt]
      have hc := c13.mpr hbt
      have hw3 : wrap64 (a2 + ((n : Int) - 1) / 64) = a2 + ((n : Int) - 1) / 64 := wr (by omega)
      refine Tot.pos rfl (Sizes_j1 true _ _ v _ (by rw [hl]; exact hn1) ?_ (fun h => absurd h (by decide)) ?_ ?_)
      · rw [if_pos hc, strOfNums_size, cc_block_length]
        rfl
      · rw [hv, hl, hw3]
        by_cases hf : a2 + ((n : Int) - 1) / 64 < 4294967296
        · rw [if_pos (show Fits t2 u2 a2 (List.replicate n 0) from ⟨by rw [hl]; omega, ⟨by omega, by omega, hc.2.2.1, hc.2.2.2⟩, by unfold cc_many; rw [hl]; omega⟩), cc_xo_length, hl, decide_eq_true hf]
          simp
        · rw [if_neg (show ¬ Fits t2 u2 a2 (List.replicate n 0) from fun h => by have := h.2.2; unfold cc_many at this; rw [hl] at this; omega), decide_eq_false hf]
          simp
          omega
      · intro hf
        have hf := of_decide_eq_false hf
        rw [hw3] at hf
        rw [hv, if_neg (show ¬ Fits t2 u2 a2 (List.replicate n 0) from fun h => by have := h.2.2; unfold cc_many at this; rw [hl] at this; omega)]
    · have hbf : b = false := by cases b <;> simp_all
      have hc : ¬ (t1.size = 32 ∧ u1.size = 12 ∧ 0 ≤ a2 ∧ a2 < 4294967296) := fun h => hbt (c13.mp h)
      have hnf : ¬ Fits t2 u2 a2 (List.replicate n 0) := fun h => hc ⟨by have := h.2.1.1; omega, by have := h.2.1.2.1; omega, h.2.1.2.2⟩
      rw [hbf]
      refine Tot.neg (by decide) (Sizes_j1 false _ _ v _ (by rw [hl]; exact hn1) ?_ (fun _ => if_neg hc) ?_ (fun _ => by rw [hv, if_neg hnf]))
      · rw [if_neg hc]
        rfl
      · rw [hv, if_neg hnf, hl]
        simp
        omega
  unfold deaddroplaw1_ChachaSizes.f
  rw [hk, ho]
  refine Tot.ite (fun x1 => Tot.ite (fun x2 => Tot.ite (fun x3 => j0 _ ?_) (fun x3 => j0 _ ?_)) (fun x2 => j0 _ ?_)) (fun x1 => j0 _ ?_)
  · exact decide_eq_decide.mpr ⟨fun h => ⟨⟨x1, x2⟩, x3, h⟩, fun h => h.2.2⟩
  · exact (decide_eq_false (fun h => x3 h.2.1)).symm
  · exact (decide_eq_false (fun h => x2 h.1.2)).symm
  · exact (decide_eq_false (fun h => x1 h.1.1)).symm
end Go.Proofs.Yticeijifmmegeaa.HQ
