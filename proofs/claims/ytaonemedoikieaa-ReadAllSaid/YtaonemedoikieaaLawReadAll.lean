/- For every state and every key the law ReadAll returns true, and its arguments read behind the call as they read before. No condition. -/
import Derived.Test.YtaonemedoikieaaRows
import Derived.Test.YtaonemedoikieaaQx25
import Derived.Test.YtaonemedoikieaaQAll
import Derived.Test.YtaonemedoikieaaHRead
import Derived.WalkKit
import Derived.ProofKit
import Derived.OpenShut
import Derived.ShutString
import Derived.ChangeOld
import Derived.Below
import Derived.SizedLaws
namespace Go.Proofs.Ytaonemedoikieaa.readAll
open Go.ChangeShapes Go.WideShapes Go.ChangeAt Go.RowKit Go.Proofs.YtaonemedoikieaaW.PrintWords Go.Proofs.Ytaonemedoikieaa.HD
open Go.ChangeMaps (open_string shut_string)
theorem own : ownKnob Try.prog.godebug = none := by kernel_rfl
theorem laidOut : laidOutB Try.prog = true := by kernel_rfl
section
variable {H : Type} {enc : TypeId × Value → H} {w : World} {base : Nat} {spare : Nat → Bool} {held : Bool}
theorem opens70 : Opens enc Try.prog w base spare held Q.k70 70 :=
  Opens.struct (inv := fun x => (⟨x.1, x.2.1, x.2.2⟩ : Q.S70)) (fun _ => rfl) Try.underlying70 (by kernel_rfl) rfl
    (Fields.cons (Opens.int Try.underlying3) (by kernel_rfl) rfl (by simp) (Fields.cons (Opens.int Try.underlying3) (by kernel_rfl) rfl (by simp) (Fields.last (Opens.int Try.underlying3) (by kernel_rfl))))
theorem opens32 : Opens enc Try.prog w base spare held Q.k32 32 :=
  Opens.struct (inv := fun x => (⟨x.1, x.2⟩ : Q.S32)) (fun _ => rfl) Try.underlying32 (by kernel_rfl) rfl
    (Fields.cons (Opens.int Try.underlying3) (by kernel_rfl) rfl (by simp) (Fields.last (Opens.int Try.underlying3) (by kernel_rfl)))
theorem opens34 : Opens enc Try.prog w base spare held Q.k34 34 :=
  Opens.struct (inv := fun x => (⟨x.1, x.2.1, x.2.2.1, x.2.2.2.1, x.2.2.2.2⟩ : Q.S34)) (fun _ => rfl) Try.underlying34 (by kernel_rfl) rfl
    (Fields.cons opens32 (by kernel_rfl) rfl (by simp) (Fields.cons (Opens.string Try.underlying9) (by kernel_rfl) rfl (by simp) (Fields.cons (Opens.int Try.underlying3) (by kernel_rfl) rfl (by simp)
      (Fields.cons (Opens.string Try.underlying9) (by kernel_rfl) rfl (by simp) (Fields.last (Opens.int Try.underlying3) (by kernel_rfl))))))
theorem opens28 : Opens enc Try.prog w base spare held (Kd.iso (Kd.pair (Kd.slice 70 Q.k70) (Kd.slice 34 Q.k34)) (fun x : List Q.S70 × List Q.S34 => x)) 28 :=
  Opens.struct (inv := fun x => x) (fun _ => rfl) Try.underlying28 (by kernel_rfl) rfl
    (Fields.cons (Opens.slice Try.underlying25 opens70 (by kernel_rfl) Q.z70) (by kernel_rfl) rfl (by simp) (Fields.last (Opens.slice Try.underlying26 opens34 (by kernel_rfl) Q.z34) (by kernel_rfl)))
end
set_option maxRecDepth 100000 in
theorem lifted (os : Os) (started : os.Started) (H : Type) (enc : TypeId × Value → H) :
    ReturnsInHanded {} Try.checked os 5 .any (Rows.readAllSpec.pre6 enc Try.prog Try.f5 Rows.readAllRow.domain false) (Rows.readAllSpec.post enc Try.prog Try.f5 false true false false) := by
  refine returnsInHanded_of_change_sized (C := Try.checked) own started (by kernel_rfl) Try.func5
    (ChangeSpec.witness6 (enc := enc) (C := Try.checked) false ⟨#[], #[.agg #[.slice none 0 0, .slice none 0 0], .string ⟨#[]⟩], []⟩ 8 (by kernel_rfl) (by kernel_rfl) (by kernel_rfl) (by kernel_rfl)) ?_
  intro W base args ds gs before hval0 hW hcnd hsz0 _
  have hval : ∀ (j : Nat) t v, Try.f5.params[j]? = some t → args[j]? = some v → Value.okWide Try.prog W .any base t v := hval0
  have hW' := hW
  obtain ⟨p, q, hA0, hV, rfl, hfz, hnd⟩ := hW
  have hA : DataW.TrodAll enc Try.prog W 0 (fun _ => true) true Try.f5.params.toList args.toList ds p := hA0
  rw [Try.params5] at hA hval
  obtain ⟨v0, vs0, d0, ds0, p0, q0, hargs, rfl, rfl, h0, r0⟩ := trodAll_cons hA
  obtain ⟨v1, vs1, d1, ds1, p1, q1, rfl, rfl, rfl, h1, r1⟩ := trodAll_cons r0
  obtain ⟨rfl, rfl, rfl⟩ := trodAll_nil r1
  obtain rfl : args = #[v0, v1] := by cases args; simp_all
  obtain ⟨rfl, rfl⟩ := trodVars_none hV
  obtain ⟨cs, rfl, _⟩ := okWide_struct Try.underlying28 (hval 0 28 v0 rfl rfl)
  have k0 := h0
  have lt0 : ∀ x ∈ p0, x.block < W.heap.size := by obtain ⟨m, hm⟩ := k0; exact DataW.trod_lt m _ _ _ hm
  obtain ⟨xs, ys, A0, c0, A1, c1, rfl, l0, l1, C0, C1⟩ : ∃ (xs : List Q.S70) (ys : List Q.S34) (A0 : Option Addr) (c0 : Nat) (A1 : Option Addr) (c1 : Nat), cs = #[.slice A0 xs.length c0, .slice A1 ys.length c1] ∧ xs.length ≤ c0 ∧ ys.length ≤ c1 ∧ Kd.C Q.k70 W A0 xs.length xs ∧ Kd.C Q.k34 W A1 ys.length ys := by
    obtain ⟨fuel, hf⟩ := h0
    obtain ⟨v, hK⟩ := opens28 _ _ _ hf
    obtain ⟨b0, b1, hcs, ⟨A0, c0, rfl, hl0, hC0⟩, ⟨A1, c1, rfl, hl1, hC1⟩⟩ := hK
    refine ⟨_, _, A0, c0, A1, c1, ?_, hl0, hl1, hC0, hC1⟩
    apply Array.ext'
    simpa [Value.cells] using hcs
  obtain ⟨a1, rfl, rfl, rfl, w1⟩ := open_string Try.underlying9 (hval 1 9 v1 rfl rfl) h1
  clear hA0 hval0 hsz0
  obtain ⟨k, hk⟩ := (HA.ReadAll_pure xs ys a1).rounds
  refine (Q.deaddroplaw10_ReadAll.calls k A0 c0 xs A1 c1 ys a1 true W C0 l0 C1 l1 hk).mono fun e W' ⟨he, bel⟩ => ?_
  subst he
  exact ⟨_, rfl, _, _, _, [], _, [], hW', trodAll_mk1 (shut_bool Try.underlying4 _), (trodAll_cons_mk (Below.trod laidOut (by kernel_rfl) (of_decide_eq_true (by kernel_rfl)) k0 bel lt0) (trodAll_cons_mk (shut_string Try.underlying9 w1) trodAll_mk0)), rfl, bel.frame _, fun h => by cases h⟩
theorem over : Rows.readAllRow.holds Try.pinned (OpenSpec.ofChange Rows.readAllSpec) :=
  OpenClaim.holds_of_wide 5 Try.f5 rfl rfl rfl rfl rfl rfl rfl ⟨rfl, rfl, rfl, rfl, rfl⟩ rfl rfl rfl rfl rfl (by kernel_rfl) Try.func5 (by kernel_rfl)
    (of_decide_eq_true (by kernel_rfl)) (by unfold Func.isWrapper; first | (rw [if_pos (by decide +kernel)]; kernel_rfl) | (rw [if_neg (by decide +kernel)]; exact ⟨rfl, rfl⟩))
    (fun os started H enc _ => lifted os started H enc)
theorem proved : Rows.ReadAllSaid := over
end Go.Proofs.Ytaonemedoikieaa.readAll
namespace Go.Proofs.Ytaonemedoikieaa
/-- The row, under a short name, for the claim. -/
theorem readAll_holds : Rows.ReadAllSaid := readAll.proved
end Go.Proofs.Ytaonemedoikieaa
