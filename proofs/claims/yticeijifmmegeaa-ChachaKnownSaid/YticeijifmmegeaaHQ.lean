-- What the laws of the chacha layer need in plain Lean (own work).
import Derived.Test.YticeijifmmegeaaQx2
import Derived.Test.YticeijifmmegeaaQx5
import Derived.Laws.BitsAllLaws
import Derived.Test.YticeijifmmegeaaHTot
namespace Go.Proofs.Yticeijifmmegeaa.HQ
open Go.RowKit Go.Proofs.Yticeijifmmegeaa.Q Go.Proofs.YticeijifmmegeaaW.PrintWords Go.Proofs.YticeijifmmegeaaW.PrintLast Go.Proofs.Yticeijifmmegeaa.HT
theorem wr {n : Int} (h : -9223372036854775808 ≤ n ∧ n ≤ 9223372036854775807) : wrap64 n = n := by unfold wrap64; omega
theorem Bytes_loop (l0 : List Int) (n : Int) (hn : n ≤ 1000) (hl : (l0.length : Int) < 9000000000000000000) : ∀ (m : Nat) (x5 : List Int) (i : Int), 0 ≤ i → i + m = n → (x5.length : Int) = n → Tot (fun k => deaddroplaw1_Bytes.l0 k l0 n x5 i) (fun r => (r.size : Int) = n)
  | 0, x5, i, h0, h1, h5 => by
    refine Tot.step ?_
    simp only [deaddroplaw1_Bytes.l0]
    refine Tot.neg (by omega) (Tot.now ?_)
    rw [strOfNums_size]
    exact h5
  | m + 1, x5, i, h0, h1, h5 => by
    refine Tot.step ?_
    simp only [deaddroplaw1_Bytes.l0, Option.bind_some, wr (n := i + 1) (by omega)]
    refine Tot.pos (by omega) (Tot.pos h0 (Tot.pos (by omega) (Tot.ite (fun hp => Tot.neg (by omega) (Tot.pos ?_ (Tot.pos ?_ ?_))) (fun _ => ?_))))
    · rw [Int.tmod_eq_emod_of_nonneg h0]
      exact Int.emod_nonneg _ (by omega)
    · rw [Int.tmod_eq_emod_of_nonneg h0]
      exact Int.emod_lt_of_pos _ (by omega)
    · exact Bytes_loop l0 n hn hl m _ _ (by omega) (by omega) (by rw [List.length_set, List.length_set]; exact h5)
    · exact Bytes_loop l0 n hn hl m _ _ (by omega) (by omega) (by rw [List.length_set]; exact h5)
theorem Bytes_tot (l0 : List Int) (n : Int) (h0 : 0 ≤ n) (hn : n ≤ 1000) (hl : (l0.length : Int) < 9000000000000000000) : Tot (fun k => deaddroplaw1_Bytes.f k l0 n) (fun r => (r.size : Int) = n) := by
  unfold deaddroplaw1_Bytes.f
  exact Tot.pos h0 (Tot.pos (by omega) (Bytes_loop l0 n hn hl n.toNat _ 0 (by omega) (by omega) (by simp; omega)))

def key0 : ByteArray := strOfNums ((List.range 32).map (fun (i : Nat) => (i : Int)))
theorem Bytes_nil : deaddroplaw1_Bytes.f 40 [] 32 = some key0 := by decide +kernel
theorem extract_eq (x y : ByteArray) (h : x = y) : (x.toList == y.toList) = true := by rw [h]; exact beq_self_eq_true _
theorem awake_at : deaddroplaw1_awake.f 40 = some true := by
  have hs : (strOfNums (cc_block key0 (⟨#[0, 0, 0, 9, 0, 0, 0, 74, 0, 0, 0, 0]⟩ : ByteArray) 1)).size = 64 := by rw [strOfNums_size, cc_block_length]
  have he : (strOfNums (cc_block key0 (⟨#[0, 0, 0, 9, 0, 0, 0, 74, 0, 0, 0, 0]⟩ : ByteArray) 1)).extract 0 4 = strOfNums [16, 241, 231, 228] := by decide +kernel
  unfold deaddroplaw1_awake.f
  rw [Bytes_nil]
  simp only [Option.bind_some, chacha_Block.f]
  rw [if_pos (c := key0.size = 32 ∧ _) (by decide +kernel), if_pos (by omega), if_pos (by decide), if_pos (by omega), extract_eq _ _ he]
theorem awake_tot : Tot (fun k => deaddroplaw1_awake.f k) (fun r => r = true) := ⟨true, Ev.of (fun k => deaddroplaw1_awake.mono k) awake_at, rfl⟩

/-! What turning bytes answers. -/
def Fits (a b : ByteArray) (c : Int) (l : List Int) : Prop := l.length ≠ 0 ∧ (a.size = 32 ∧ b.size = 12 ∧ 0 ≤ c ∧ c < 4294967296) ∧ c + cc_many l ≤ 4294967296
instance (a b : ByteArray) (c : Int) (l : List Int) : Decidable (Fits a b c l) := by unfold Fits; infer_instance
theorem Xor_is (a b : ByteArray) (c : Int) (l : List Int) (h : l.length < 1000000000) : chacha_Xor.f a b c l = some (if Fits a b c l then cc_xo a b c l l.length else []) := by
  unfold chacha_Xor.f
  rw [if_pos h]
  rfl
theorem Xor_tot (a b : ByteArray) (c : Int) (l : List Int) (h : l.length < 1000000000) : Tot (fun _ => chacha_Xor.f a b c l) (fun r => r = (if Fits a b c l then cc_xo a b c l l.length else [])) := by
  rw [Xor_is a b c l h]
  exact Tot.now rfl
theorem xo_map (a b : ByteArray) (c : Int) (l : List Int) : cc_xo a b c l l.length = (List.range l.length).map (cc_xb a b c l) := by
  unfold cc_xo
  rw [cc_fold_set _ _ _ (Nat.le_refl _)]
  simp
theorem out_map (st now : List Int) : cc_out st now 64 = (List.range 64).map (cc_byte st now) := by
  unfold cc_out
  rw [cc_fold_set _ _ _ (Nat.le_refl _)]
  simp
theorem rd_map (f : Nat → Int) (n j : Nat) (h : j < n) : rd ((List.range n).map f) (j : Int) = f j := by
  unfold rd
  rw [Int.toNat_natCast, List.getD_eq_getElem?_getD, List.getElem?_map, List.getElem?_range h]
  rfl
theorem byte_range (st now : List Int) (j : Nat) : 0 ≤ cc_byte st now j ∧ cc_byte st now j < 256 := by
  unfold cc_byte
  exact ⟨Int.emod_nonneg _ (by decide), Int.emod_lt_of_pos _ (by decide)⟩
theorem block_range (a b : ByteArray) (c : Int) (j : Nat) (h : j < 64) : 0 ≤ rd (cc_block a b c) (j : Int) ∧ rd (cc_block a b c) (j : Int) < 256 := by
  unfold cc_block
  rw [out_map, rd_map _ _ _ h]
  exact byte_range _ _ _
theorem xor0 (x : Int) (h0 : 0 ≤ x) (h1 : x < 256) : Go.bits .xor .u8 0 x = x := by
  rw [u8_xor 0 x (by decide) (by decide) h0 h1]
  simp
  omega
theorem xor2 (x y : Int) (h0 : 0 ≤ x) (h1 : x < 256) (g0 : 0 ≤ y) (g1 : y < 256) : Go.bits .xor .u8 (Go.bits .xor .u8 x y) y = x := by
  have hx : x.toNat ^^^ y.toNat < 2 ^ 8 := Nat.xor_lt_two_pow (by omega) (by omega)
  rw [u8_xor x y h0 h1 g0 g1, u8_xor _ y (by omega) (by omega) g0 g1, Int.toNat_natCast, Nat.xor_assoc, Nat.xor_self, Nat.xor_zero]
  omega
end Go.Proofs.Yticeijifmmegeaa.HQ
