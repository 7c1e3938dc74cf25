import Derived.Test.YtaonemedoikieaaHSum
namespace Go.Proofs.Ytaonemedoikieaa.Pure
open Go.RowKit Go.Proofs.Ytaonemedoikieaa.P Go.Proofs.YtaonemedoikieaaW.PrintWords Go.Proofs.YtaonemedoikieaaW.PrintLast
theorem wf8ReadSum {x : Int} (h : (Lit.int .u8 x).wf = true) : 0 ≤ x ∧ x ≤ 255 := by
  simp [Lit.wf, IntKind.min, IntKind.max, IntKind.bits, IntKind.signed] at h
  omega
theorem ReadSum : deaddroplaw10_ReadSum.Pure := fun l0 a1 _ _ h _ => (HR.ReadSum_pure l0 a1 (fun x hx => wf8ReadSum (h x hx))).rounds
end Go.Proofs.Ytaonemedoikieaa.Pure
