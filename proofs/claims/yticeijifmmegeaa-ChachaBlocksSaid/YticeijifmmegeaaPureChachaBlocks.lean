import Derived.Test.YticeijifmmegeaaPx5
import Derived.Test.YticeijifmmegeaaHCc
namespace Go.Proofs.Yticeijifmmegeaa.Pure
open Go.RowKit Go.Proofs.Yticeijifmmegeaa.P Go.Proofs.YticeijifmmegeaaW.PrintWords Go.Proofs.YticeijifmmegeaaW.PrintLast Go.Proofs.Yticeijifmmegeaa.HT

theorem ChachaBlocks : deaddroplaw1_ChachaBlocks.Pure := by
  intro a0 a1 a2 _ _ _
  refine Tot.rounds ?_
  unfold deaddroplaw1_ChachaBlocks.f
  refine Tot.ite (fun _ => Tot.now rfl) (fun _ => Tot.ite (fun _ => Tot.now rfl) (fun _ => ?_))
  simp only [chacha_Block.f, deaddropref1_Block.f, Option.bind_some]
  exact Tot.pos trivial (Tot.bind HP.awake_tot fun r hr => Tot.now hr)

end Go.Proofs.Yticeijifmmegeaa.Pure
