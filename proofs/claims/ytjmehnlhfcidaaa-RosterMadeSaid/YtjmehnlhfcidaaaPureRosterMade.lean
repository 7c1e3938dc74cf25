import Derived.Test.YtjmehnlhfcidaaaPx11
import Derived.Test.YtjmehnlhfcidaaaHMade
namespace Go.Proofs.Ytjmehnlhfcidaaa.Pure
open Go.RowKit Go.Proofs.Ytjmehnlhfcidaaa.P Go.Proofs.YtjmehnlhfcidaaaW.PrintWords Go.Proofs.YtjmehnlhfcidaaaW.PrintLast

theorem wf8 {x : Int} (h : (Lit.int .u8 x).wf = true) : 0 ≤ x ∧ x ≤ 255 := by
  simp [Lit.wf, IntKind.min, IntKind.max, IntKind.bits, IntKind.signed] at h
  omega
theorem RosterMade : deaddroplaw16_RosterMade.Pure := fun l0 a1 _ hs hv ha => (HP.RosterMade_pure l0 a1 hs (fun x hx => wf8 (hv x hx)) (wf8 ha)).rounds

end Go.Proofs.Ytjmehnlhfcidaaa.Pure
