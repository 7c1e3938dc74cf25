import Derived.Test.YticeijifmmegeaaQx8
import Derived.Test.YticeijifmmegeaaHKnown
namespace Go.Proofs.Yticeijifmmegeaa.Pure
open Go.RowKit Go.Proofs.Yticeijifmmegeaa.Q Go.Proofs.YticeijifmmegeaaW.PrintWords Go.Proofs.YticeijifmmegeaaW.PrintLast Go.Proofs.Yticeijifmmegeaa.HT
theorem wf8Known {x : Int} (h : (Lit.int .u8 x).wf = true) : 0 ≤ x ∧ x ≤ 255 := by
  simp [Lit.wf, IntKind.min, IntKind.max, IntKind.bits, IntKind.signed] at h
  omega
theorem wf16Known {x : Int} (h : (Lit.int .u16 x).wf = true) : 0 ≤ x ∧ x ≤ 65535 := by
  simp [Lit.wf, IntKind.min, IntKind.max, IntKind.bits, IntKind.signed] at h
  omega
theorem wf32Known {x : Int} (h : (Lit.int .u32 x).wf = true) : 0 ≤ x ∧ x ≤ 4294967295 := by
  simp [Lit.wf, IntKind.min, IntKind.max, IntKind.bits, IntKind.signed] at h
  omega
theorem wf64Known {x : Int} (h : (Lit.int .i64 x).wf = true) : -9223372036854775808 ≤ x ∧ x ≤ 9223372036854775807 := by
  simp [Lit.wf, IntKind.min, IntKind.max, IntKind.bits, IntKind.signed] at h
  omega
theorem ChachaKnown : deaddroplaw1_ChachaKnown.Pure := fun a0 a1 h0 => (HQ.Known_pure a0 a1 (wf8Known h0)).rounds

end Go.Proofs.Yticeijifmmegeaa.Pure
