-- ChachaTwice, in plain Lean (own work).
import Derived.Test.YticeijifmmegeaaHQ
import Derived.Test.YticeijifmmegeaaQx6
namespace Go.Proofs.Yticeijifmmegeaa.HQ
open Go.RowKit Go.Proofs.Yticeijifmmegeaa.Q Go.Proofs.YticeijifmmegeaaW.PrintWords Go.Proofs.YticeijifmmegeaaW.PrintLast Go.Proofs.Yticeijifmmegeaa.HT
def XR (a b : ByteArray) (c : Int) (l : List Int) : List Int := (List.range l.length).map (cc_xb a b c l)
theorem XR_tot (a b : ByteArray) (ha : a.size = 32) (hb : b.size = 12) (c : Int) (hc : 0 ≤ c ∧ c ≤ 1000) (l : List Int) (hl : l.length ≤ 300) : Tot (fun _ => chacha_Xor.f a b c l) (fun r => r = XR a b c l) := by
  refine (Xor_tot a b c l (by omega)).mono (fun r hr => ?_)
  rw [hr]
  by_cases h0 : l.length = 0
  · rw [if_neg (fun h => h.1 h0)]
    unfold XR
    rw [h0]
    rfl
  · rw [if_pos (show Fits a b c l from ⟨h0, ⟨ha, hb, hc.1, by omega⟩, by unfold cc_many; omega⟩), xo_map]
    rfl
theorem XR_length (a b : ByteArray) (c : Int) (l : List Int) : (XR a b c l).length = l.length := by simp [XR]
theorem XR_twice (a b : ByteArray) (c : Int) (l : List Int) (hv : ∀ x ∈ l, 0 ≤ x ∧ x ≤ 255) : XR a b c (XR a b c l) = l := by
  apply List.ext_getElem?
  intro j
  by_cases hj : j < l.length
  · have hrl : rd l (j : Int) = l[j] := by
      unfold rd
      rw [Int.toNat_natCast, List.getD_eq_getElem?_getD, List.getElem?_eq_getElem hj, Option.getD_some]
    have hx := hv _ (List.getElem_mem hj)
    have hp := block_range a b (c + ((j / 64 : Nat) : Int)) (j % 64) (Nat.mod_lt _ (by decide))
    have e : XR a b c (XR a b c l) = (List.range l.length).map (cc_xb a b c (XR a b c l)) := by
      conv => lhs; unfold XR
      rw [List.length_map, List.length_range]
      rfl
    rw [e, List.getElem?_map, List.getElem?_range hj, List.getElem?_eq_getElem hj, Option.map_some]
    congr 1
    unfold cc_xb
    rw [show rd (XR a b c l) (j : Int) = cc_xb a b c l j from rd_map _ _ _ hj]
    unfold cc_xb
    rw [xor2 _ _ (by rw [hrl]; exact hx.1) (by rw [hrl]; omega) hp.1 hp.2, hrl]
  · rw [List.getElem?_eq_none (by rw [XR_length, XR_length]; omega), List.getElem?_eq_none (by omega)]
theorem XR_drop (a b : ByteArray) (c : Int) (l : List Int) (q : Nat) : (XR a b c l).drop (64 * q) = XR a b (c + (q : Int)) (l.drop (64 * q)) := by
  apply List.ext_getElem?
  intro j
  rw [List.getElem?_drop]
  by_cases hj : 64 * q + j < l.length
  · have hj' : j < (l.drop (64 * q)).length := by rw [List.length_drop]; omega
    unfold XR
    rw [List.getElem?_map, List.getElem?_map, List.getElem?_range hj, List.getElem?_range hj', Option.map_some, Option.map_some]
    congr 1
    unfold cc_xb
    have e1 : (64 * q + j) / 64 = q + j / 64 := by omega
    have e2 : (64 * q + j) % 64 = j % 64 := by omega
    have e3 : rd (l.drop (64 * q)) (j : Int) = rd l ((64 * q + j : Nat) : Int) := by
      unfold rd
      rw [Int.toNat_natCast, Int.toNat_natCast, List.getD_eq_getElem?_getD, List.getD_eq_getElem?_getD, List.getElem?_drop]
    rw [e1, e2, e3, show c + (((q + j / 64 : Nat)) : Int) = c + (q : Int) + ((j / 64 : Nat) : Int) by omega]
  · rw [List.getElem?_eq_none (by rw [XR_length]; omega), List.getElem?_eq_none (by rw [XR_length, List.length_drop]; omega)]
theorem Twice_pure (l0 l1 l2 : List Int) (a3 : Int) (h0 : l0.length * 1 ≤ 140737488351232) (h1 : l1.length * 1 ≤ 140737488351232) (hv : ∀ x ∈ l2, 0 ≤ x ∧ x ≤ 255) (h3 : 0 ≤ a3 ∧ a3 ≤ 255) : Tot (fun k => deaddroplaw1_ChachaTwice.f k l0 l1 l2 a3) (fun r => r = true) := by
  have fin : Tot (fun k => (deaddroplaw1_awake.f k).bind fun t151 => (some t151)) (fun r => r = true) := Tot.bind awake_tot fun r hr => Tot.now hr
  unfold deaddroplaw1_ChachaTwice.f
  refine Tot.ite (fun _ => fin) (fun hl => ?_)
  refine Tot.bind (Bytes_tot l0 32 (by decide) (by decide) (by omega)) fun t ht => Tot.bind (Bytes_tot l1 12 (by decide) (by decide) (by omega)) fun u hu => ?_
  have ht' : t.size = 32 := by omega
  have hu' : u.size = 12 := by omega
  refine Tot.bind (XR_tot t u ht' hu' 7 (by decide) l2 (by omega)) fun x hx => Tot.pos (by rw [hx, XR_length]) ?_
  have hb : ((strOfNums l2).toList != (strOfNums l2).toList) = false := by simp
  rw [hb]
  refine Tot.step ?_
  have j1 : ∀ (q : Nat), 64 * q ≤ l2.length → q ≤ 4 → Tot (fun k => deaddroplaw1_ChachaTwice.j1 k l2 t u (strOfNums l2) x l2 (64 * (q : Int))) (fun r => r = true) := by
    intro q hq hq4
    refine Tot.step ?_
    have w0 : Int.tdiv (64 * (q : Int)) 64 = (q : Int) := by rw [Int.tdiv_eq_ediv_of_nonneg (by omega)]; omega
    have w1 : wrap64 (q : Int) = (q : Int) := wr (by omega)
    have w2 : wrap64 (7 + (q : Int)) = 7 + (q : Int) := wr (by omega)
    have w3 : (64 * (q : Int)).toNat = 64 * q := by omega
    simp only [deaddroplaw1_ChachaTwice.j1, w0, w1, w2, w3]
    refine Tot.pos (by omega) (Tot.pos (by omega) (Tot.bind (XR_tot t u ht' hu' (7 + (q : Int)) (by omega) (l2.drop (64 * q)) (by rw [List.length_drop]; omega)) fun z hz => ?_))
    refine Tot.pos trivial (Tot.pos (by rw [hx, XR_length]; omega) (Tot.pos ?_ fin))
    rw [hz, hx, XR_drop]
  have w : wrap64 (64 * Int.tmod (wrap64 a3) 5) = 64 * (((a3 % 5).toNat : Nat) : Int) := by
    rw [wr (n := a3) (by omega), Int.tmod_eq_emod_of_nonneg (by omega), wr (by omega)]
    omega
  simp only [deaddroplaw1_ChachaTwice.j0, w]
  refine Tot.neg (by decide) (Tot.bind (XR_tot t u ht' hu' 7 (by decide) x (by rw [hx, XR_length]; omega)) fun y hy => ?_)
  have hyy : y = l2 := by rw [hy, hx, XR_twice t u 7 l2 hv]
  rw [hyy]
  refine Tot.ite (fun _ => j1 0 (by omega) (by omega)) (fun hc => j1 _ (by omega) (by omega))
end Go.Proofs.Yticeijifmmegeaa.HQ
