-- Words to show that what the program computes ends, with what is known of the answer (own work).
import Derived.Test.YtaonemedoikieaaWWords
namespace Go.Proofs.Ytaonemedoikieaa.HT
open Go.RowKit Go.Proofs.YtaonemedoikieaaW.PrintWords

/-- From some round on there is an answer, and it is as told. -/
def Tot {α : Type} (g : Nat → Option α) (Q : α → Prop) : Prop := ∃ r, Ev g r ∧ Q r
theorem Tot.now {α : Type} {r : α} {Q : α → Prop} (h : Q r) : Tot (fun _ => some r) Q := ⟨r, Ev.now r, h⟩
theorem Tot.mono {α : Type} {g : Nat → Option α} {P Q : α → Prop} (h : Tot g P) (k : ∀ r, P r → Q r) : Tot g Q :=
  have ⟨r, e, p⟩ := h
  ⟨r, e, k r p⟩
theorem Tot.bind {α β : Type} {g : Nat → Option α} {f : Nat → α → Option β} {P : α → Prop} {Q : β → Prop} (h : Tot g P) (k : ∀ a, P a → Tot (fun n => f n a) Q) : Tot (fun n => (g n).bind (f n)) Q :=
  have ⟨a, e, p⟩ := h
  have ⟨r, e', q⟩ := k a p
  ⟨r, Ev.bind e e', q⟩
theorem Tot.step {α : Type} {g : Nat → Option α} {Q : α → Prop} (k : Tot (fun n => g (n + 1)) Q) : Tot g Q :=
  have ⟨r, e, q⟩ := k
  ⟨r, Ev.step (fun _ => rfl) e, q⟩
theorem Tot.congr {α : Type} {g f : Nat → Option α} {Q : α → Prop} (h : ∀ k, g k = f k) (k : Tot f Q) : Tot g Q :=
  have ⟨r, e, q⟩ := k
  ⟨r, Ev.congr h e, q⟩
theorem Tot.pos {α : Type} {f g : Nat → Option α} {c : Prop} [Decidable c] {Q : α → Prop} (hc : c) (h : Tot f Q) : Tot (fun n => if c then f n else g n) Q := by
  simpa only [if_pos hc] using h
theorem Tot.neg {α : Type} {f g : Nat → Option α} {c : Prop} [Decidable c] {Q : α → Prop} (hc : ¬ c) (h : Tot g Q) : Tot (fun n => if c then f n else g n) Q := by
  simpa only [if_neg hc] using h
theorem Tot.ite {α : Type} {f g : Nat → Option α} {c : Prop} [Decidable c] {Q : α → Prop} (h : c → Tot f Q) (k : ¬ c → Tot g Q) : Tot (fun n => if c then f n else g n) Q := by
  by_cases hc : c
  · exact Tot.pos hc (h hc)
  · exact Tot.neg hc (k hc)
theorem Tot.rounds {g : Nat → Option Bool} (h : Tot g (fun r => r = true)) : ∃ k, g k = some true := by
  obtain ⟨r, e, rfl⟩ := h
  exact e.rounds
/-- A loop: what is left to do gets less. -/
theorem Tot.and {α : Type} {g : Nat → Option α} {P Q : α → Prop} (h : Tot g P) (k : Tot g Q) : Tot g (fun r => P r ∧ Q r) := by
  obtain ⟨r, ⟨K, e⟩, p⟩ := h
  obtain ⟨r', ⟨K', e'⟩, q⟩ := k
  have h1 := e (K + K') (by omega)
  have h2 := e' (K + K') (by omega)
  rw [h1] at h2
  exact ⟨r, ⟨K, e⟩, p, by rw [Option.some.inj h2]; exact q⟩
end Go.Proofs.Ytaonemedoikieaa.HT
