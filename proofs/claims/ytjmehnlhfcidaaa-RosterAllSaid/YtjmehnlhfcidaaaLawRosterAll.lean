/- For every log, every epoch and every device the law RosterAll returns true, and the log reads behind the call as it read before. No condition. -/
import Derived.Test.YtjmehnlhfcidaaaRows
import Derived.Test.YtjmehnlhfcidaaaPx10
import Derived.Test.YtjmehnlhfcidaaaHAll
import Derived.Test.YtjmehnlhfcidaaaHRead
import Derived.WalkKit
import Derived.ProofKit
import Derived.OpenShut
import Derived.ShutString
import Derived.ChangeOld
import Derived.Below
import Derived.SizedLaws
import Derived.Test.YtjmehnlhfcidaaaWSized
namespace Go.Proofs.Ytjmehnlhfcidaaa.rosterAll
open Go.ChangeShapes Go.WideShapes Go.ChangeAt Go.RowKit Go.Proofs.YtjmehnlhfcidaaaW.PrintWords Go.Proofs.Ytjmehnlhfcidaaa.HD
open Go.ChangeMaps (open_string shut_string)
theorem own : ownKnob Try.prog.godebug = none := by kernel_rfl
theorem laidOut : laidOutB Try.prog = true := by kernel_rfl
section
variable {H : Type} {enc : TypeId × Value → H} {w : World} {base : Nat} {spare : Nat → Bool} {held : Bool}
theorem opens55 : Opens enc Try.prog w base spare held P.k55 55 :=
  Opens.struct (inv := fun x => (⟨x.1, x.2⟩ : P.S55)) (fun _ => rfl) Try.underlying55 (by kernel_rfl) rfl
    (Fields.cons (Opens.int Try.underlying3) (by kernel_rfl) rfl (by simp) (Fields.last (Opens.string Try.underlying9) (by kernel_rfl)))
theorem opens32 : Opens enc Try.prog w base spare held P.k32 32 :=
  Opens.struct (inv := fun x => (⟨x.1, x.2.1, x.2.2.1, x.2.2.2.1, x.2.2.2.2.1, x.2.2.2.2.2⟩ : P.S32)) (fun _ => rfl) Try.underlying32 (by kernel_rfl) rfl
    (Fields.cons (Opens.int Try.underlying3) (by kernel_rfl) rfl (by simp) (Fields.cons (Opens.string Try.underlying9) (by kernel_rfl) rfl (by simp) (Fields.cons (Opens.int Try.underlying3) (by kernel_rfl) rfl (by simp)
      (Fields.cons (Opens.int Try.underlying3) (by kernel_rfl) rfl (by simp) (Fields.cons (Opens.slice Try.underlying30 opens55 (by kernel_rfl) P.z55) (by kernel_rfl) rfl (by simp) (Fields.last (Opens.string Try.underlying9) (by kernel_rfl)))))))
end
set_option maxRecDepth 100000 in
theorem lifted (os : Os) (started : os.Started) (H : Type) (enc : TypeId × Value → H) :
    ReturnsInHanded {} Try.checked os 3 .any (Rows.rosterAllSpec.pre6 enc Try.prog Try.f3 Rows.rosterAllRow.domain false) (Rows.rosterAllSpec.post enc Try.prog Try.f3 false true false false) := by
  refine returnsInHanded_of_change_sized (C := Try.checked) own started (by kernel_rfl) Try.func3
    (ChangeSpec.witness6 (enc := enc) (C := Try.checked) false ⟨#[], #[.slice none 0 0, .int .i64 0, .int .i64 0], []⟩ 8 (by kernel_rfl) (by kernel_rfl) (by kernel_rfl) (by kernel_rfl)) ?_
  intro W base args ds gs before hval0 hW hcnd hsz0 _
  have hval : ∀ (j : Nat) t v, Try.f3.params[j]? = some t → args[j]? = some v → Value.okWide Try.prog W .any base t v := hval0
  have hW' := hW
  obtain ⟨p, q, hA0, hV, rfl, hfz, hnd⟩ := hW
  have hA : DataW.TrodAll enc Try.prog W 0 (fun _ => true) true Try.f3.params.toList args.toList ds p := hA0
  rw [Try.params3] at hA hval
  obtain ⟨v0, vs0, d0, ds0, p0, q0, hargs, rfl, rfl, h0, r0⟩ := trodAll_cons hA
  obtain ⟨v1, vs1, d1, ds1, p1, q1, rfl, rfl, rfl, h1, r1⟩ := trodAll_cons r0
  obtain ⟨v2, vs2, d2, ds2, p2, q2, rfl, rfl, rfl, h2, r2⟩ := trodAll_cons r1
  obtain ⟨rfl, rfl, rfl⟩ := trodAll_nil r2
  obtain rfl : args = #[v0, v1, v2] := by cases args; simp_all
  obtain ⟨rfl, rfl⟩ := trodVars_none hV
  obtain ⟨a0, len0, cap0, rfl⟩ := okWide_slice Try.underlying22 (hval 0 22 v0 rfl rfl)
  have k0 := h0
  have lt0 : ∀ x ∈ p0, x.block < W.heap.size := by obtain ⟨m, hm⟩ := k0; exact DataW.trod_lt m _ _ _ hm
  obtain ⟨xs, rfl, hl, hC⟩ : ∃ xs : List P.S32, len0 = xs.length ∧ xs.length ≤ cap0 ∧ Kd.C P.k32 W a0 xs.length xs := by
    obtain ⟨fuel, hf⟩ := h0
    obtain ⟨A, c, xs, hcs, hl, hC⟩ := Opens.row Try.underlying22 opens32 (by kernel_rfl) P.z32 hf
    simp [Value.cells] at hcs
    obtain ⟨rfl, rfl, rfl⟩ := hcs
    exact ⟨xs, rfl, hl, hC⟩
  obtain ⟨a1, rfl, rfl, rfl, w1⟩ := open_int Try.underlying3 (hval 1 3 v1 rfl rfl) h1
  obtain ⟨a2, rfl, rfl, rfl, w2⟩ := open_int Try.underlying3 (hval 2 3 v2 rfl rfl) h2
  clear hA0 hval0 hsz0
  obtain ⟨k, hk⟩ := (HP.RosterAll_pure xs a1 a2).rounds
  refine (P.deaddroplaw16_RosterAll.calls k a0 cap0 xs a1 a2 true W hC hl hk).mono fun e W' ⟨he, bel⟩ => ?_
  subst he
  exact ⟨_, rfl, _, _, _, [], _, [], hW', trodAll_mk1 (shut_bool Try.underlying4 _), (trodAll_cons_mk (Below.trod laidOut (by kernel_rfl) (of_decide_eq_true (by kernel_rfl)) k0 bel lt0) (trodAll_cons_mk (shut_int Try.underlying3 w1) (trodAll_cons_mk (shut_int Try.underlying3 w2) trodAll_mk0))), rfl, bel.frame _, fun h => by cases h⟩
theorem over : Rows.rosterAllRow.holds Try.pinned (OpenSpec.ofChange Rows.rosterAllSpec) :=
  OpenClaim.holds_of_wide 3 Try.f3 rfl rfl rfl rfl rfl rfl rfl ⟨rfl, rfl, rfl, rfl, rfl⟩ rfl rfl rfl rfl rfl (by kernel_rfl) Try.func3 (by kernel_rfl)
    (of_decide_eq_true (by kernel_rfl)) (by unfold Func.isWrapper; first | (rw [if_pos (by decide +kernel)]; kernel_rfl) | (rw [if_neg (by decide +kernel)]; exact ⟨rfl, rfl⟩))
    (fun os started H enc _ => lifted os started H enc)
theorem proved : Rows.RosterAllSaid := over
end Go.Proofs.Ytjmehnlhfcidaaa.rosterAll
namespace Go.Proofs.Ytjmehnlhfcidaaa
/-- The row, under a short name, for the claim. -/
theorem rosterAll_holds : Rows.RosterAllSaid := rosterAll.proved
end Go.Proofs.Ytjmehnlhfcidaaa
