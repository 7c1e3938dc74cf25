import Derived.Test.YticeijifmmegeaaQx7
import Derived.Test.YticeijifmmegeaaHSizes
namespace Go.Proofs.Yticeijifmmegeaa.Pure
open Go.RowKit Go.Proofs.Yticeijifmmegeaa.Q Go.Proofs.YticeijifmmegeaaW.PrintWords Go.Proofs.YticeijifmmegeaaW.PrintLast Go.Proofs.Yticeijifmmegeaa.HT
theorem wf8Sizes {x : Int} (h : (Lit.int .u8 x).wf = true) : 0 ≤ x ∧ x ≤ 255 := by
  simp [Lit.wf, IntKind.min, IntKind.max, IntKind.bits, IntKind.signed] at h
  omega
theorem wf16Sizes {x : Int} (h : (Lit.int .u16 x).wf = true) : 0 ≤ x ∧ x ≤ 65535 := by
  simp [Lit.wf, IntKind.min, IntKind.max, IntKind.bits, IntKind.signed] at h
  omega
theorem wf32Sizes {x : Int} (h : (Lit.int .u32 x).wf = true) : 0 ≤ x ∧ x ≤ 4294967295 := by
  simp [Lit.wf, IntKind.min, IntKind.max, IntKind.bits, IntKind.signed] at h
  omega
theorem wf64Sizes {x : Int} (h : (Lit.int .i64 x).wf = true) : -9223372036854775808 ≤ x ∧ x ≤ 9223372036854775807 := by
  simp [Lit.wf, IntKind.min, IntKind.max, IntKind.bits, IntKind.signed] at h
  omega
theorem ChachaSizes : deaddroplaw1_ChachaSizes.Pure := fun a0 a1 a2 a3 h0 h1 h2 h3 => (HQ.Sizes_pure a0 a1 a2 a3 (wf8Sizes h0) (wf8Sizes h1) (wf64Sizes h2) (wf16Sizes h3)).rounds

end Go.Proofs.Yticeijifmmegeaa.Pure
