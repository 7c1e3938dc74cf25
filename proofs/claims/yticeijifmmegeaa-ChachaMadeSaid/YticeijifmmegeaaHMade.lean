-- ChachaMade, in plain Lean (own work).
import Derived.Test.YticeijifmmegeaaHXor
import Derived.Test.YticeijifmmegeaaRMade
namespace Go.Proofs.Yticeijifmmegeaa.HR
open Go.RowKit Go.Proofs.Yticeijifmmegeaa.R Go.Proofs.YticeijifmmegeaaW.PrintWords Go.Proofs.YticeijifmmegeaaW.PrintLast Go.Proofs.Yticeijifmmegeaa.HT
theorem Made_calls (A0 : Option Addr) (c0 : Nat) (l0 : List Int) (A1 : Option Addr) (c1 : Nat) (l1 : List Int) (A2 : Option Addr) (c2 : Nat) (l2 : List Int) (a3 : Int) (a4 : Bool) (w : World)
    (hr0 : Kd.C (Kd.int .u8) w A0 l0.length l0) (hc0 : l0.length ≤ c0) (hr1 : Kd.C (Kd.int .u8) w A1 l1.length l1) (hc1 : l1.length ≤ c1) (hr2 : Kd.C (Kd.int .u8) w A2 l2.length l2) (hc2 : l2.length ≤ c2)
    (g0 : l0.length * 1 ≤ 140737488351232) (g1 : l1.length * 1 ≤ 140737488351232) (hv : ∀ x ∈ l2, 0 ≤ x ∧ x ≤ 255) (h3 : 0 ≤ a3 ∧ a3 ≤ 255) :
    Calls Try.prog 5 #[.slice A0 l0.length c0, .slice A1 l1.length c1, .slice A2 l2.length c2, .int .u8 a3, .bool a4] w fun e w' => e = .returned (.bool true) ∧ Below w.heap.size w w' := by
  obtain ⟨t, ⟨K1, e1⟩, ht⟩ := Bytes_tot l0 32 (by decide) (by decide) (by omega)
  obtain ⟨u, ⟨K2, e2⟩, hu⟩ := Bytes_tot l1 12 (by decide) (by decide) (by omega)
  obtain ⟨r, ⟨K3, e3⟩, rfl⟩ := awake_tot
  by_cases hl : l2.length ≤ 300
  · exact deaddroplaw1_ChachaMade.main (K1 + K2 + K3) A0 c0 l0 A1 c1 l1 A2 c2 l2 a3 a4 t u _ _ w hr0 hc0 hr1 hc1 hr2 hc2 hl h3 (e1 _ (by omega)) (e2 _ (by omega)) (Xor_is t u _ l2 (by omega)) (RXor_is t u _ l2 (by omega) hv) rfl rfl (e3 _ (by omega))
  · exact deaddroplaw1_ChachaMade.far_ (K1 + K2 + K3) A0 c0 _ A1 c1 _ A2 c2 _ a3 a4 w (by omega) (e3 _ (by omega))
end Go.Proofs.Yticeijifmmegeaa.HR
