-- An argument that reads as a slice of structs: the row that it is (own work).
import Derived.Test.YtaonemedoikieaaWWords
import Derived.Deep.Slices
import Derived.ChangeArms
import Derived.DataReads
namespace Go.Proofs.Ytaonemedoikieaa.HD
open Go.RowKit Go.Deep Go.Proofs.YtaonemedoikieaaW.PrintWords
section
variable {H : Type} {enc : TypeId × Value → H} {P : Program} {w : World} {base : Nat} {spare : Nat → Bool} {held : Bool}

/-- What reads at the type `t` is of the kind `k`. -/
def Opens (enc : TypeId × Value → H) (P : Program) (w : World) (base : Nat) (spare : Nat → Bool) (held : Bool) {α : Type} (k : Kd α) (t : TypeId) : Prop :=
  ∀ fuel cs x, DataW.trod enc P w base spare held fuel t cs = some x → ∃ v, k.K w v cs
theorem Opens.int {k : IntKind} {t : TypeId} (ht : P.underlying t = some (.int k)) : Opens enc P w base spare held (Kd.int k) t := by
  intro fuel cs x h
  obtain ⟨n, rfl, _, _⟩ := DataW.trod_int ht h
  exact ⟨n, rfl⟩
theorem Opens.string {t : TypeId} (ht : P.underlying t = some .string) : Opens enc P w base spare held Kd.string t := by
  intro fuel cs x h
  obtain ⟨s, rfl, _, _⟩ := DataW.trod_string ht h
  exact ⟨s, rfl⟩
theorem Opens.row {α : Type} {k : Kd α} {t e : TypeId} (ht : P.underlying t = some (.slice e)) (hk : Opens enc P w base spare held k e) (hsz : P.cellsOf e = k.sz) (z : α) {fuel : Nat} {cs : List Value} {x : DataW H × List MemPlace}
    (h : DataW.trod enc P w base spare held fuel t cs = some x) : ∃ A c xs, cs = [.slice A xs.length c] ∧ xs.length ≤ c ∧ k.C w A xs.length xs := by
  rcases open_slice ht h with ⟨rfl, _⟩ | ⟨a, len, cap, m, n, D, Pl, rfl, hb, hl, hm, hmm, _, hx⟩
  · exact ⟨none, 0, [], rfl, Nat.le_refl _, rfl, Nat.zero_le _, fun h => absurd h (Nat.lt_irrefl 0)⟩
  · have hle : len ≤ m := by rw [hmm]; split <;> omega
    haveI : Inhabited α := ⟨z⟩
    obtain ⟨V, hV⟩ := choose_lt (α := α) (p := fun i v => ∃ c, c.length = k.sz ∧ k.K w v c ∧ ∀ j u, c[j]? = some u → w.cell? (a.add (i * k.sz + j)) = some u) (n := m) (fun i hi => by
      obtain ⟨cs', h1, h2⟩ := hx i hi
      obtain ⟨v, hv⟩ := hk _ _ _ h2
      obtain ⟨_, hlen, hcell⟩ := World.cells?_some h1
      rw [hsz] at hlen hcell
      refine ⟨v, cs', hlen, hv, fun j u hj => ?_⟩
      have hjl : j < cs'.length := by
        rcases Nat.lt_or_ge j cs'.length with h | h
        · exact h
        · rw [List.getElem?_eq_none h] at hj; cases hj
      have := hcell j (by omega)
      rw [hj] at this
      rw [← this]
      congr 1
      simp only [Addr.add, Nat.add_eq_zero_iff]
      by_cases c1 : i * k.sz = 0 <;> by_cases c2 : j = 0 <;> simp [c1, c2, Nat.add_assoc])
    have hlen : ((List.range len).map V).length = len := by simp
    refine ⟨some a, cap, (List.range len).map V, by rw [hlen], by omega, hlen.trans hlen.symm |>.trans rfl, ?_, fun _ => ⟨a, rfl, fun j p hj => ?_⟩⟩
    · rw [hlen]
      have : maxLen ≤ 9223372036854775807 := by decide
      omega
    · rw [List.getElem?_map] at hj
      obtain ⟨i, hi, rfl⟩ := Option.map_eq_some_iff.mp hj
      have hjl : j < len := by
        rcases Nat.lt_or_ge j len with h | h
        · exact h
        · rw [List.getElem?_eq_none (by simpa using h)] at hi; cases hi
      rw [List.getElem?_range hjl] at hi
      obtain rfl := Option.some.inj hi
      exact hV j (by omega)
theorem Opens.slice {α : Type} {k : Kd α} {t e : TypeId} (ht : P.underlying t = some (.slice e)) (hk : Opens enc P w base spare held k e) (hsz : P.cellsOf e = k.sz) (z : α) : Opens enc P w base spare held (Kd.slice e k) t := by
  intro fuel cs x h
  obtain ⟨A, c, xs, rfl, hl, hc⟩ := Opens.row ht hk hsz z h
  exact ⟨xs, A, c, rfl, hl, hc⟩
/-- A struct's fields from `o` on are of the kinds told. -/
def Fields (enc : TypeId × Value → H) (P : Program) (w : World) (base : Nat) (spare : Nat → Bool) (held : Bool) {α : Type} (k : Kd α) (fs : List Field) : Prop :=
  ∀ cs : List Value, cs.length = k.sz → (∀ f ∈ fs, ∃ n x, DataW.trod enc P w base spare held n f.type ((cs.drop (f.offset - (fs.head?.map (·.offset)).getD 0)).take (P.cellsOf f.type)) = some x) → ∃ v, k.K w v cs
theorem Fields.last {α : Type} {k : Kd α} {f : Field} (hk : Opens enc P w base spare held k f.type) (hsz : P.cellsOf f.type = k.sz) : Fields enc P w base spare held k [f] := by
  intro cs hl hf
  obtain ⟨n, x, h⟩ := hf f (List.mem_singleton_self _)
  simp only [List.head?_cons, Option.map_some, Option.getD_some, Nat.sub_self, List.drop_zero] at h
  rw [List.take_of_length_le (by omega)] at h
  exact hk _ _ _ h
theorem Fields.cons {α β : Type} {k : Kd α} {l : Kd β} {f g : Field} {fs : List Field} (hk : Opens enc P w base spare held k f.type) (hsz : P.cellsOf f.type = k.sz) (ho : g.offset = f.offset + k.sz) (hs : ∀ h ∈ g :: fs, g.offset ≤ h.offset)
    (hr : Fields enc P w base spare held l (g :: fs)) : Fields enc P w base spare held (Kd.pair k l) (f :: g :: fs) := by
  intro cs hl hf
  have hl' : cs.length = k.sz + l.sz := hl
  obtain ⟨n, x, h⟩ := hf f (List.mem_cons_self ..)
  simp only [List.head?_cons, Option.map_some, Option.getD_some, Nat.sub_self, List.drop_zero] at h
  obtain ⟨v, hv⟩ := hk _ _ _ h
  obtain ⟨u, hu⟩ := hr (cs.drop k.sz) (by rw [List.length_drop]; omega) (fun y hy => by
    obtain ⟨n, x, h⟩ := hf y (List.mem_cons_of_mem _ hy)
    refine ⟨n, x, ?_⟩
    have hy' := hs y hy
    simp only [List.head?_cons, Option.map_some, Option.getD_some] at h ⊢
    rw [List.drop_drop, show k.sz + (y.offset - g.offset) = y.offset - f.offset by omega]
    exact h)
  rw [hsz] at hv
  exact ⟨(v, u), cs.take k.sz, cs.drop k.sz, (List.take_append_drop _ _).symm, hv, hu⟩
theorem Opens.struct {α β : Type} {k : Kd α} {f : β → α} {inv : α → β} (hi : ∀ x, f (inv x) = x) {t : TypeId} {fs : Array Field} (ht : P.underlying t = some (.struct fs)) (hsz : P.cellsOf t = k.sz) (h0 : (fs.toList.head?.map (·.offset)).getD 0 = 0)
    (hf : Fields enc P w base spare held k fs.toList) : Opens enc P w base spare held (Kd.iso k f) t := by
  intro fuel cs x h
  obtain ⟨xs, n, _, _, hl, hxl, hx⟩ := DataW.trod_struct ht h
  obtain ⟨v, hv⟩ := hf cs (by omega) (fun y hy => by
    obtain ⟨i, hi, rfl⟩ := List.mem_iff_getElem.mp hy
    have hi' : i < fs.size := by simpa using hi
    have := hx i fs.toList[i] (by simp [hi'])
    rw [List.getElem?_eq_getElem (by omega)] at this
    rw [h0, Nat.sub_zero]
    exact ⟨n, _, this⟩)
  refine ⟨inv v, ?_⟩
  show k.K w (f (inv v)) cs
  rw [hi]
  exact hv
end
end Go.Proofs.Ytaonemedoikieaa.HD
