-- The pure side of ReadMade (own work; the file's head is the kit's print's).
import Derived.Test.YtaonemedoikieaaMHMade
namespace Go.Proofs.Ytaonemedoikieaa.Pure
open Go.RowKit Go.Proofs.Ytaonemedoikieaa.M Go.Proofs.YtaonemedoikieaaW.PrintWords Go.Proofs.YtaonemedoikieaaW.PrintLast
theorem wf8ReadMade {x : Int} (h : (Lit.int .u8 x).wf = true) : 0 ≤ x ∧ x ≤ 255 := by
  simp [Lit.wf, IntKind.min, IntKind.max, IntKind.bits, IntKind.signed] at h
  omega
theorem ReadMade : deaddroplaw10_ReadMade.Pure := fun l0 a1 a2 _ _ h h1 _ => (HR.ReadMade_pure l0 a1 a2 (fun x hx => wf8ReadMade (h x hx)) (wf8ReadMade h1)).rounds
end Go.Proofs.Ytaonemedoikieaa.Pure
