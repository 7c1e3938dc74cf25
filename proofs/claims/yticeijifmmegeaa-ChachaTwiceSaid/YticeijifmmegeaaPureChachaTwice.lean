import Derived.Test.YticeijifmmegeaaQx6
import Derived.Test.YticeijifmmegeaaHTwice
namespace Go.Proofs.Yticeijifmmegeaa.Pure
open Go.RowKit Go.Proofs.Yticeijifmmegeaa.Q Go.Proofs.YticeijifmmegeaaW.PrintWords Go.Proofs.YticeijifmmegeaaW.PrintLast Go.Proofs.Yticeijifmmegeaa.HT
theorem wf8Twice {x : Int} (h : (Lit.int .u8 x).wf = true) : 0 ≤ x ∧ x ≤ 255 := by
  simp [Lit.wf, IntKind.min, IntKind.max, IntKind.bits, IntKind.signed] at h
  omega
theorem wf16Twice {x : Int} (h : (Lit.int .u16 x).wf = true) : 0 ≤ x ∧ x ≤ 65535 := by
  simp [Lit.wf, IntKind.min, IntKind.max, IntKind.bits, IntKind.signed] at h
  omega
theorem wf32Twice {x : Int} (h : (Lit.int .u32 x).wf = true) : 0 ≤ x ∧ x ≤ 4294967295 := by
  simp [Lit.wf, IntKind.min, IntKind.max, IntKind.bits, IntKind.signed] at h
  omega
theorem wf64Twice {x : Int} (h : (Lit.int .i64 x).wf = true) : -9223372036854775808 ≤ x ∧ x ≤ 9223372036854775807 := by
  simp [Lit.wf, IntKind.min, IntKind.max, IntKind.bits, IntKind.signed] at h
  omega
theorem ChachaTwice : deaddroplaw1_ChachaTwice.Pure := fun l0 l1 l2 a3 _ h0 _ _ h1 _ _ _ hv h3 => (HQ.Twice_pure l0 l1 l2 a3 h0 h1 (fun x hx => wf8Twice (hv x hx)) (wf8Twice h3)).rounds

end Go.Proofs.Yticeijifmmegeaa.Pure
