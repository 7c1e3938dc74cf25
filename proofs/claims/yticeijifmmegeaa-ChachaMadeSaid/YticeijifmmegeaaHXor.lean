-- ChachaXor, in plain Lean (own work).
import Derived.Test.YticeijifmmegeaaHR
import Derived.Test.YticeijifmmegeaaRXor
namespace Go.Proofs.Yticeijifmmegeaa.HR
open Go.RowKit Go.Proofs.Yticeijifmmegeaa.R Go.Proofs.YticeijifmmegeaaW.PrintWords Go.Proofs.YticeijifmmegeaaW.PrintLast Go.Proofs.Yticeijifmmegeaa.HT
theorem bytes_back (l : List Int) (hv : ∀ x ∈ l, 0 ≤ x ∧ x ≤ 255) : bytesOf (strOfNums l) = l := by
  unfold bytesOf
  rw [strOfNums_data, List.map_map]
  conv => rhs; rw [← List.map_id l]
  refine List.map_congr_left fun x hx => ?_
  have := hv x hx
  simp
  omega
theorem fold_over (f : Nat → Int) (l : List Int) : ∀ n, n ≤ l.length → (List.range n).foldl (fun o j => o.set j (f j)) l = (List.range n).map f ++ l.drop n
  | 0, _ => by simp
  | n + 1, h => by
    rw [List.range_succ, List.foldl_append, fold_over f l n (by omega), List.foldl_cons, List.foldl_nil, List.map_append, List.drop_eq_getElem_cons (show n < l.length by omega)]
    rw [List.set_append_right _ _ (by simp)]
    simp only [List.length_map, List.length_range, Nat.sub_self, List.set_cons_zero, List.map_cons, List.map_nil, List.append_assoc, List.cons_append, List.nil_append]
theorem xo2_map (a b : ByteArray) (c : Int) (l : List Int) : cc_xo2 a b c l l.length = cc_xo a b c l l.length := by
  rw [xo_map]
  unfold cc_xo2
  rw [fold_over _ _ _ (Nat.le_refl _), List.drop_length, List.append_nil]
  rfl
theorem RXor_is (a b : ByteArray) (c : Int) (l : List Int) (hl : l.length < 1000000000) (hv : ∀ x ∈ l, 0 ≤ x ∧ x ≤ 255) : deaddropref1_Xor.f a b c (strOfNums l) = some (strOfNums (if Fits a b c l then cc_xo a b c l l.length else [])) := by
  unfold deaddropref1_Xor.f
  rw [strOfNums_size, if_pos hl, bytes_back l hv, xo2_map]
  by_cases h : Fits a b c l
  · have h3 := h.2.2
    unfold cc_many at h3
    rw [if_pos h, if_pos ⟨h.1, h.2.1, by omega⟩]
  · rw [if_neg h, if_neg (fun g => h ⟨g.1, g.2.1, by unfold cc_many; have := g.2.2; have := g.1; omega⟩)]
    rfl
theorem Xor_pure (a b : ByteArray) (c : Int) (l : List Int) (hv : ∀ x ∈ l, 0 ≤ x ∧ x ≤ 255) : ∃ k, deaddroplaw1_ChachaXor.f k a b c l = some true := by
  obtain ⟨k, hk⟩ := awake_tot.rounds
  refine ⟨k, ?_⟩
  unfold deaddroplaw1_ChachaXor.f
  by_cases h : (a.size ≤ 100 ∧ b.size ≤ 100) ∧ l.length ≤ 400
  · rw [if_pos h, Xor_is a b c l (by omega), RXor_is a b c l (by omega) hv, Option.bind_some, Option.bind_some, if_pos rfl, hk]
  · rw [if_neg h, hk]
end Go.Proofs.Yticeijifmmegeaa.HR
