import Derived.Test.YtjmehnlhfcidaaaPx12
import Derived.Test.YtjmehnlhfcidaaaHLater
namespace Go.Proofs.Ytjmehnlhfcidaaa.Pure
open Go.RowKit Go.Proofs.Ytjmehnlhfcidaaa.P Go.Proofs.YtjmehnlhfcidaaaW.PrintWords Go.Proofs.YtjmehnlhfcidaaaW.PrintLast

theorem wfb {x : Int} (h : (Lit.int .u8 x).wf = true) : 0 ≤ x ∧ x ≤ 255 := by
  simp [Lit.wf, IntKind.min, IntKind.max, IntKind.bits, IntKind.signed] at h
  omega
theorem wfs {x : Int} (h : (Lit.int .u16 x).wf = true) : 0 ≤ x ∧ x ≤ 65535 := by
  simp [Lit.wf, IntKind.min, IntKind.max, IntKind.bits, IntKind.signed] at h
  omega
theorem RosterLater : deaddroplaw16_RosterLater.Pure := fun l0 a1 a2 _ hs hv ha h2 => (HP.RosterLater_pure l0 a1 a2 hs (fun x hx => wfb (hv x hx)) (wfb ha) (wfs h2)).rounds

end Go.Proofs.Ytjmehnlhfcidaaa.Pure
