-- ChachaKnown, in plain Lean (own work).
import Derived.Test.YticeijifmmegeaaHCounts
import Derived.Test.YticeijifmmegeaaQx8
namespace Go.Proofs.Yticeijifmmegeaa.HQ
open Go.RowKit Go.Proofs.Yticeijifmmegeaa.Q Go.Proofs.YticeijifmmegeaaW.PrintWords Go.Proofs.YticeijifmmegeaaW.PrintLast Go.Proofs.Yticeijifmmegeaa.HT
def zero32 : ByteArray := strOfNums (List.replicate 32 0)
def zero12 : ByteArray := (strOfNums (List.replicate 32 0)).extract 0 12
def ladies : List Int := [76, 97, 100, 105, 101, 115, 32, 97, 110, 100, 32, 71, 101, 110, 116, 108, 101, 109, 101, 110, 32, 111, 102, 32, 116, 104, 101, 32, 99, 108, 97, 115, 115, 32, 111, 102, 32, 39, 57, 57, 58, 32, 73, 102, 32, 73, 32, 99, 111, 117, 108, 100, 32, 111, 102, 102, 101, 114, 32, 121, 111, 117, 32, 111, 110, 108, 121, 32, 111, 110, 101, 32, 116, 105, 112, 32, 102, 111, 114, 32, 116, 104, 101, 32, 102, 117, 116, 117, 114, 101, 44, 32, 115, 117, 110, 115, 99, 114, 101, 101, 110, 32, 119, 111, 117, 108, 100, 32, 98, 101, 32, 105, 116, 46]
theorem kn_b0 : (strOfNums (cc_block zero32 zero12 0)).extract 0 8 = ⟨#[118, 184, 224, 173, 160, 241, 61, 144]⟩ := by decide +kernel
theorem kn_b1 : (strOfNums (cc_block zero32 zero12 1)).extract 0 4 = ⟨#[159, 7, 231, 190]⟩ := by decide +kernel
theorem kn_x : strOfNums ((cc_xo key0 (⟨#[0, 0, 0, 0, 0, 0, 0, 74, 0, 0, 0, 0]⟩ : ByteArray) 1 ladies 114).take 8) = ⟨#[110, 46, 53, 154, 37, 104, 249, 128]⟩ := by decide +kernel
theorem kn_s32 : zero32.size = 32 := by decide +kernel
theorem kn_s12 : zero12.size = 12 := by decide +kernel
theorem toL (x : ByteArray) (l : List UInt8) (h : x = ⟨l.toArray⟩) : x.toList = l := by rw [h, ByteArray.toList_eq]
theorem key_tot : Tot (fun k => deaddroplaw1_Bytes.f k [] 32) (fun r => r = key0) := ⟨key0, Ev.of (fun k => deaddroplaw1_Bytes.mono [] 32 k) Bytes_nil, rfl⟩
theorem kn_fit (c : Int) (h : 0 ≤ c ∧ c ≤ 255) : zero32.size = 32 ∧ zero12.size = 12 ∧ 0 ≤ c ∧ c < 4294967296 := ⟨kn_s32, kn_s12, h.1, by omega⟩
theorem Known_pure (a0 : Int) (a1 : Bool) (h0 : 0 ≤ a0 ∧ a0 ≤ 255) : Tot (fun k => deaddroplaw1_ChachaKnown.f k a0 a1) (fun r => r = true) := by
  have fin : Tot (fun k => (deaddroplaw1_awake.f k).bind fun t213 => (some t213)) (fun r => r = true) := Tot.bind awake_tot fun r hr => Tot.now hr
  have s0 : ∀ c, (strOfNums (cc_block zero32 zero12 c)).size = 64 := fun c => by rw [strOfNums_size, cc_block_length]
  have b0 := toL _ _ kn_b0
  have b1 := toL _ _ kn_b1
  unfold deaddroplaw1_ChachaKnown.f
  refine Tot.pos (by decide) ?_
  simp only [Option.bind_some, chacha_Block.f]
  refine Tot.pos (by decide) (Tot.pos (by decide +kernel) ?_)
  have e0 : (if zero32.size = 32 ∧ zero12.size = 12 ∧ (0 : Int) ≤ 0 ∧ (0 : Int) < 4294967296 then strOfNums (cc_block zero32 zero12 0) else (⟨#[]⟩ : ByteArray)) = strOfNums (cc_block zero32 zero12 0) := if_pos (kn_fit 0 (by decide))
  have e1 : (if zero32.size = 32 ∧ zero12.size = 12 ∧ (0 : Int) ≤ 1 ∧ (1 : Int) < 4294967296 then strOfNums (cc_block zero32 zero12 1) else (⟨#[]⟩ : ByteArray)) = strOfNums (cc_block zero32 zero12 1) := if_pos (kn_fit 1 (by decide))
  change Tot (fun k => if ((if zero32.size = 32 ∧ zero12.size = 12 ∧ (0 : Int) ≤ 0 ∧ (0 : Int) < 4294967296 then strOfNums (cc_block zero32 zero12 0) else (⟨#[]⟩ : ByteArray)).size : Int) = 64 then (deaddroplaw1_ChachaKnown.j0 k a0 a1 zero32 (if zero32.size = 32 ∧ zero12.size = 12 ∧ (0 : Int) ≤ 0 ∧ (0 : Int) < 4294967296 then strOfNums (cc_block zero32 zero12 0) else (⟨#[]⟩ : ByteArray)) (if zero32.size = 32 ∧ zero12.size = 12 ∧ (0 : Int) ≤ 1 ∧ (1 : Int) < 4294967296 then strOfNums (cc_block zero32 zero12 1) else (⟨#[]⟩ : ByteArray)) (((if zero32.size = 32 ∧ zero12.size = 12 ∧ (0 : Int) ≤ 1 ∧ (1 : Int) < 4294967296 then strOfNums (cc_block zero32 zero12 1) else (⟨#[]⟩ : ByteArray)).size : Int) != 64)) else _) _
  rw [e0, e1]
  refine Tot.pos (by rw [s0]; rfl) ?_
  have hne : (((strOfNums (cc_block zero32 zero12 1)).size : Int) != 64) = false := by rw [s0]; rfl
  rw [hne]
  refine Tot.step ?_
  simp only [deaddroplaw1_ChachaKnown.j0]
  refine Tot.neg (by decide) (Tot.bind key_tot fun t ht => ?_)
  subst ht
  refine Tot.bind (Xor_tot key0 (⟨#[0, 0, 0, 0, 0, 0, 0, 74, 0, 0, 0, 0]⟩ : ByteArray) 1 ladies (by decide)) fun v hv => ?_
  rw [if_pos (show Fits key0 (⟨#[0, 0, 0, 0, 0, 0, 0, 74, 0, 0, 0, 0]⟩ : ByteArray) 1 ladies by decide +kernel)] at hv
  have hvl : v.length = 114 := by rw [hv, cc_xo_length]; rfl
  have hv8 : (strOfNums (v.take 8)).toList = [110, 46, 53, 154, 37, 104, 249, 128] := toL _ _ (by rw [hv]; exact kn_x)
  refine Tot.pos (by decide) (Tot.pos (by rw [s0]; decide) (Tot.pos b0 (Tot.pos (by decide) (Tot.pos (by rw [s0]; decide) (Tot.pos b1 (Tot.pos (by rw [hvl]; rfl) (Tot.pos (by rw [hvl]; decide) (Tot.pos hv8 (Tot.ite (fun _ => ?_) (fun _ => fin))))))))))
  have w0 : wrap64 a0 = a0 := wr (by omega)
  rw [w0]
  refine Tot.pos (by decide) (Tot.pos (by rw [kn_s32]; decide) (Tot.pos (by decide) ?_))
  have hl : (List.replicate 64 (0 : Int)).length = 64 := List.length_replicate
  have hz := zeros_block zero32 zero12 a0 64 0 (by decide)
  refine Tot.bind (Xor_tot zero32 zero12 a0 (List.replicate 64 0) (by rw [hl]; decide)) fun z hzz => ?_
  rw [if_pos (show Fits zero32 zero12 a0 (List.replicate 64 0) from ⟨by rw [hl]; decide, kn_fit a0 h0, by unfold cc_many; rw [hl]; omega⟩), hl] at hzz
  have hz2 : z = cc_block zero32 zero12 a0 := by
    have hzl : z.length = 64 := by rw [hzz, cc_xo_length, hl]
    rw [← hzz] at hz
    simpa [List.take_of_length_le (show z.length ≤ 64 by omega)] using hz
  simp only [deaddropref1_Block.f, Option.bind_some]
  refine Tot.pos ?_ fin
  have e2 : (if zero32.size = 32 ∧ zero12.size = 12 ∧ 0 ≤ a0 ∧ a0 < 4294967296 then strOfNums (cc_block zero32 zero12 a0) else (⟨#[]⟩ : ByteArray)) = strOfNums (cc_block zero32 zero12 a0) := if_pos (kn_fit a0 h0)
  rw [hz2]
  exact congrArg ByteArray.toList e2.symm
end Go.Proofs.Yticeijifmmegeaa.HQ
