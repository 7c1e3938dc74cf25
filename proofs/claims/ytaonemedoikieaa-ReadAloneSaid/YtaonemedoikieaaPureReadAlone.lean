import Derived.Test.YtaonemedoikieaaHAlone
namespace Go.Proofs.Ytaonemedoikieaa.Pure
open Go.RowKit Go.Proofs.Ytaonemedoikieaa.P Go.Proofs.YtaonemedoikieaaW.PrintWords Go.Proofs.YtaonemedoikieaaW.PrintLast
theorem wf8ReadAlone {x : Int} (h : (Lit.int .u8 x).wf = true) : 0 ≤ x ∧ x ≤ 255 := by
  simp [Lit.wf, IntKind.min, IntKind.max, IntKind.bits, IntKind.signed] at h
  omega
theorem ReadAlone : deaddroplaw10_ReadAlone.Pure := fun l0 _ _ h => (HR.ReadAlone_pure l0 (fun x hx => wf8ReadAlone (h x hx))).rounds
end Go.Proofs.Ytaonemedoikieaa.Pure
