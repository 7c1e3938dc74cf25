-- Runs, in plain Lean (own work): what Has, mark, mix, Union give.
import Derived.Test.YtaonemedoikieaaMx4
import Derived.Test.YtaonemedoikieaaHTot
namespace Go.Proofs.Ytaonemedoikieaa.HR
open Go.RowKit Go.Proofs.Ytaonemedoikieaa.M Go.Proofs.YtaonemedoikieaaW.PrintWords Go.Proofs.YtaonemedoikieaaW.PrintLast Go.Proofs.Ytaonemedoikieaa.HT

theorem wr {x : Int} (h : -9223372036854775808 ≤ x ∧ x ≤ 9223372036854775807) : wrap64 x = x := by unfold wrap64; omega
theorem rd70 {l : List S70} {i : Nat} (h : i < l.length) : rd_T70 l (i : Int) = l[i] := by
  unfold rd_T70
  rw [Int.toNat_natCast, List.getD_eq_getElem?_getD, List.getElem?_eq_getElem h]; rfl
theorem rdI {l : List Int} {i : Nat} (h : i < l.length) : rd l (i : Int) = l[i] := by
  unfold rd
  rw [Int.toNat_natCast, List.getD_eq_getElem?_getD, List.getElem?_eq_getElem h]; rfl

def inRun (r : S70) (d n : Int) : Bool := decide (r.f0 = d) && decide (r.f1 ≤ n) && decide (n ≤ r.f2)
def has (l : List S70) (d n : Int) : Bool := l.any fun r => inRun r d n
theorem has_nil (d n : Int) : has [] d n = false := rfl
theorem has_append (a b : List S70) (d n : Int) : has (a ++ b) d n = (has a d n || has b d n) := by simp [has]
theorem has_iff (l : List S70) (d n : Int) : has l d n = true ↔ ∃ r, r ∈ l ∧ r.f0 = d ∧ r.f1 ≤ n ∧ n ≤ r.f2 := by
  simp [has, inRun, and_assoc]
theorem has_drop {l : List S70} {i : Nat} (h : i < l.length) (d n : Int) : has (l.drop i) d n = (inRun l[i] d n || has (l.drop (i + 1)) d n) := by
  unfold has
  rw [List.drop_eq_getElem_cons h, List.any_cons]

theorem Has_l0 (l : List S70) (d n : Int) (hl : l.length ≤ 4611686018427387904) : ∀ (m i : Nat), l.length - i = m → i ≤ l.length → Tot (fun k => deaddropref7_Has.l0 k l (i : Int) d n) (fun r => r = has (l.drop i) d n) := by
  intro m
  induction m with
  | zero =>
    intro i hm hi
    refine Tot.step ?_
    simp only [deaddropref7_Has.l0]
    refine Tot.neg (by omega) (Tot.now ?_)
    rw [List.drop_of_length_le (by omega)]; rfl
  | succ m ih =>
    intro i hm hi
    have hlt : i < l.length := by omega
    have next := ih (i + 1) (by omega) (by omega)
    have hw : wrap64 ((i : Int) + 1) = ((i + 1 : Nat) : Int) := by rw [wr (by omega)]; omega
    refine Tot.step ?_
    simp only [deaddropref7_Has.l0]
    rw [rd70 hlt]
    refine Tot.pos (by omega) (Tot.pos (by omega) ?_)
    rw [has_drop hlt]
    have jt : ∀ (b : Bool), inRun l[i] d n = b → Tot (fun k => deaddropref7_Has.j1 k l (i : Int) b d n) (fun r => r = (inRun l[i] d n || has (l.drop (i + 1)) d n)) := by
      intro b hb
      refine Tot.step ?_
      simp only [deaddropref7_Has.j1]
      rw [hb]
      cases b with
      | true => exact Tot.pos rfl (Tot.now rfl)
      | false =>
        refine Tot.neg (by decide) ?_
        rw [hw]
        exact next.mono fun r hr => by simpa using hr
    refine Tot.ite (fun h1 => Tot.ite (fun h2 => jt _ ?_) (fun h2 => jt _ ?_)) (fun h1 => jt _ ?_)
    · unfold inRun; rw [decide_eq_true h1, decide_eq_true h2]; rfl
    · unfold inRun; rw [decide_eq_false h2]; simp
    · unfold inRun; rw [decide_eq_false h1]; rfl
theorem Has_tot (l : List S70) (d n : Int) (hl : l.length ≤ 4611686018427387904) : Tot (fun k => deaddropref7_Has.f k l d n) (fun r => r = has l d n) := by
  have := Has_l0 l d n hl _ 0 rfl (Nat.zero_le _)
  exact this

/-! mark -/
abbrev Rising (m : List Int) : Prop := m.Pairwise (· < ·)
theorem rising_lt {m : List Int} (h : Rising m) {i j : Nat} (hij : i < j) (hj : j < m.length) : m[i] < m[j] := List.pairwise_iff_getElem.1 h i j (by omega) hj hij
theorem rising_len {m : List Int} (h : Rising m) (lo hi : Int) (hm : ∀ x, x ∈ m → lo ≤ x ∧ x ≤ hi) (hlh : lo ≤ hi + 1) : (m.length : Int) ≤ hi - lo + 1 := by
  induction m generalizing lo with
  | nil => simp; omega
  | cons a t ih =>
    have ha := hm a (by simp)
    have ht := List.pairwise_cons.1 h
    have := ih ht.2 (a + 1) (fun x hx => ⟨by have := ht.1 x hx; omega, (hm x (by simp [hx])).2⟩) (by omega)
    simp only [List.length_cons]
    omega
theorem rising_put {l : List Int} (h : Rising l) (n : Int) (i : Nat) (hi : i ≤ l.length) (h1 : ∀ j (hj : j < l.length), j < i → l[j] < n) (h2 : ∀ j (hj : j < l.length), i ≤ j → n < l[j]) : Rising (l.take i ++ [n] ++ l.drop i) := by
  refine List.pairwise_append.2 ⟨List.pairwise_append.2 ⟨h.sublist (List.take_sublist _ _), List.pairwise_singleton _ _, fun x hx y hy => ?_⟩, h.sublist (List.drop_sublist _ _), fun x hx y hy => ?_⟩
  · obtain ⟨j, hj, rfl⟩ := List.mem_iff_getElem.1 hx
    have hy' : y = n := by simpa using hy
    rw [hy', List.getElem_take]
    simp at hj
    exact h1 j (by omega) (by omega)
  · obtain ⟨j, hj, rfl⟩ := List.mem_iff_getElem.1 hy
    rw [List.getElem_drop]
    simp at hj
    have hn := h2 (i + j) (by omega) (by omega)
    rcases List.mem_append.1 hx with hx | hx
    · obtain ⟨q, hq, rfl⟩ := List.mem_iff_getElem.1 hx
      rw [List.getElem_take]
      simp at hq
      have := h1 q (by omega) (by omega)
      omega
    · have hx' : x = n := by simpa using hx
      omega
/-- What mark gives: the list with n in it. -/
def Marked (l : List Int) (n : Int) (r : List Int) : Prop := Rising r ∧ ∀ x, x ∈ r ↔ x = n ∨ x ∈ l
theorem mark_j1 (l : List Int) (n : Int) (hr : Rising l) (hl : l.length < 1000000000) (i : Nat) (hi : i ≤ l.length) (h1 : ∀ j (hj : j < l.length), j < i → l[j] < n) (h2 : ∀ j (hj : j < l.length), i ≤ j → n ≤ l[j]) :
    Tot (fun k => deaddropref7_mark.j1 k l n (i : Int)) (Marked l n) := by
  have putl : (l.take i).length = i := by rw [List.length_take]; omega
  have putr : (l.drop i).length = l.length - i := List.length_drop
  have mem : ∀ x, x ∈ l.take i ++ [n] ++ l.drop i ↔ x = n ∨ x ∈ l := by
    intro x
    have : x ∈ l ↔ x ∈ l.take i ∨ x ∈ l.drop i := by
      conv => lhs; rw [← List.take_append_drop i l]
      exact List.mem_append
    rw [this]
    simp only [List.mem_append, List.mem_singleton]
    constructor
    · rintro ((h | h) | h)
      · exact .inr (.inl h)
      · exact .inl h
      · exact .inr (.inr h)
    · rintro (h | h | h)
      · exact .inl (.inr h)
      · exact .inl (.inl h)
      · exact .inr h
  refine Tot.step ?_
  simp only [deaddropref7_mark.j1]
  have fin : ∀ (h3 : ∀ j (hj : j < l.length), i ≤ j → n < l[j]), Marked l n ([] ++ l.take i ++ [n] ++ l.drop i) := fun h3 => ⟨by rw [List.nil_append]; exact rising_put hr n i hi h1 h3, by rw [List.nil_append]; exact mem⟩
  simp only [Option.bind_some, Int.toNat_natCast]
  refine Tot.ite (fun hlt => Tot.pos (by omega) ?_) (fun hlt => Tot.pos (by omega) (Tot.pos (by omega) (Tot.pos (by simp; omega) (Tot.pos (by simp; omega) (Tot.pos (by simp; omega) (Tot.now (fin fun j hj hij => by omega)))))))
  have hlt' : i < l.length := by omega
  rw [rdI hlt']
  refine Tot.ite (fun he => Tot.now ⟨hr, fun x => ⟨.inr, fun h => ?_⟩⟩) (fun he => Tot.pos (by omega) (Tot.pos (by simp; omega) (Tot.pos (by simp; omega) (Tot.pos (by simp; omega) (Tot.now (fin fun j hj hij => ?_))))))
  · rcases h with h | h
    · rw [h, ← he]; exact List.getElem_mem hlt'
    · exact h
  · rcases Nat.lt_or_ge i j with hc | hc
    · have := rising_lt hr hc hj
      have := h2 i hlt' (Nat.le_refl _)
      omega
    · have : i = j := by omega
      subst this
      have := h2 i hlt' (Nat.le_refl _)
      omega
theorem mark_l0 (l : List Int) (n : Int) (hr : Rising l) (hl : l.length < 1000000000) : ∀ (i : Nat), i ≤ l.length → (∀ j (hj : j < l.length), i ≤ j → n ≤ l[j]) → Tot (fun k => deaddropref7_mark.l0 k l n (i : Int)) (Marked l n) := by
  intro i
  induction i with
  | zero =>
    intro hi h2
    refine Tot.step ?_
    simp only [deaddropref7_mark.l0]
    exact Tot.neg (by decide) (mark_j1 l n hr hl 0 hi (fun j hj h => by omega) h2)
  | succ i ih =>
    intro hi h2
    have hlt : i < l.length := by omega
    have hw : wrap64 (((i + 1 : Nat) : Int) - 1) = (i : Int) := by rw [wr (by omega)]; omega
    refine Tot.step ?_
    simp only [deaddropref7_mark.l0]
    rw [hw, rdI hlt]
    refine Tot.pos (by omega) (Tot.pos (by omega) (Tot.pos (by omega) (Tot.ite (fun hge => ?_) (fun hge => ?_))))
    · refine ih (by omega) fun j hj hij => ?_
      rcases Nat.lt_or_ge i j with hc | hc
      · exact h2 j hj hc
      · have : i = j := by omega
        subst this
        exact hge
    · refine mark_j1 l n hr hl (i + 1) hi (fun j hj hji => ?_) h2
      rcases Nat.lt_or_ge j i with hc | hc
      · have := rising_lt hr hc hlt
        omega
      · have : i = j := by omega
        subst this
        omega
theorem mark_tot (l : List Int) (n : Int) (hr : Rising l) (hl : l.length < 1000000000) : Tot (fun k => deaddropref7_mark.f k l n) (Marked l n) :=
  mark_l0 l n hr hl l.length (Nat.le_refl _) (fun j hj h => by omega)

/-! mix -/
def Bnd (l : List S70) (d x : Int) : Prop := ∃ r, r ∈ l ∧ r.f0 = d ∧ (x = r.f1 ∨ x = r.f2 + 1)
def RunsIn (B : Int) (l : List S70) : Prop := ∀ r, r ∈ l → 1 ≤ r.f1 ∧ r.f1 ≤ r.f2 ∧ r.f2 ≤ B
def cov (a b : List S70) (d n : Int) : Bool := has a d n || has b d n
/-- The boundaries of both, of a device. -/
def Marks (a b : List S70) (d : Int) (m : List Int) : Prop := Rising m ∧ ∀ x, x ∈ m ↔ Bnd a d x ∨ Bnd b d x
theorem Bnd_in {B : Int} {l : List S70} (h : RunsIn B l) {d x : Int} (hb : Bnd l d x) : 1 ≤ x ∧ x ≤ B + 1 := by
  obtain ⟨r, hr, _, hx⟩ := hb
  have := h r hr
  omega
/-- Between two boundaries that stand side by side nothing changes. -/
theorem has_const {l : List S70} {d p q : Int} (h : ∀ x, Bnd l d x → x ≤ p ∨ q ≤ x) {n : Int} (h1 : p ≤ n) (h2 : n < q) : has l d n = has l d p := by
  rw [Bool.eq_iff_iff, has_iff, has_iff]
  constructor
  · rintro ⟨r, hr, hd, a1, a2⟩
    refine ⟨r, hr, hd, ?_, by omega⟩
    rcases h r.f1 ⟨r, hr, hd, .inl rfl⟩ with h | h <;> omega
  · rintro ⟨r, hr, hd, a1, a2⟩
    refine ⟨r, hr, hd, by omega, ?_⟩
    rcases h (r.f2 + 1) ⟨r, hr, hd, .inr rfl⟩ with h | h <;> omega
theorem marks_side {m : List Int} (hr : Rising m) {i : Nat} (hi : i + 1 < m.length) (x : Int) (hx : x ∈ m) : x ≤ m[i] ∨ m[i + 1] ≤ x := by
  obtain ⟨j, hj, rfl⟩ := List.mem_iff_getElem.1 hx
  rcases Nat.lt_or_ge i j with h | h
  · right
    rcases Nat.lt_or_ge (i + 1) j with h2 | h2
    · exact Int.le_of_lt (rising_lt hr h2 hj)
    · have : j = i + 1 := by omega
      subst this
      exact Int.le_refl _
  · left
    rcases Nat.lt_or_ge j i with h2 | h2
    · exact Int.le_of_lt (rising_lt hr h2 (by omega))
    · have : j = i := by omega
      subst this
      exact Int.le_refl _
theorem cov_const {a b : List S70} {d : Int} {m : List Int} (hm : Marks a b d m) {i : Nat} (hi : i + 1 < m.length) {n : Int} (h1 : m[i] ≤ n) (h2 : n < m[i + 1]) : cov a b d n = cov a b d m[i] := by
  unfold cov
  rw [has_const (fun x hx => marks_side hm.1 hi x ((hm.2 x).2 (.inl hx))) h1 h2, has_const (fun x hx => marks_side hm.1 hi x ((hm.2 x).2 (.inr hx))) h1 h2]
theorem cov_bound {a b : List S70} {d : Int} {m : List Int} (hm : Marks a b d m) {n : Int} (h : cov a b d n = true) : ∃ lo hi, lo ∈ m ∧ hi ∈ m ∧ lo ≤ n ∧ n < hi := by
  unfold cov at h
  rw [Bool.or_eq_true, has_iff, has_iff] at h
  rcases h with ⟨r, hr, hd, h1, h2⟩ | ⟨r, hr, hd, h1, h2⟩
  · exact ⟨r.f1, r.f2 + 1, (hm.2 _).2 (.inl ⟨r, hr, hd, .inl rfl⟩), (hm.2 _).2 (.inl ⟨r, hr, hd, .inr rfl⟩), h1, by omega⟩
  · exact ⟨r.f1, r.f2 + 1, (hm.2 _).2 (.inr ⟨r, hr, hd, .inl rfl⟩), (hm.2 _).2 (.inr ⟨r, hr, hd, .inr rfl⟩), h1, by omega⟩
def OutOk (B d : Int) (out : List S70) : Prop := ∀ r, r ∈ out → r.f0 = d ∧ 1 ≤ r.f1 ∧ r.f1 ≤ r.f2 ∧ r.f2 ≤ B
structure Inv2 (B d : Int) (a b : List S70) (m : List Int) (i : Nat) (out : List S70) : Prop where
  ok : OutOk B d out
  len : out.length ≤ i
  got : ∀ n, has out d n = true ↔ cov a b d n = true ∧ ∃ x, m[i]? = some x ∧ n < x
/-- What mix gives. -/
def Mixed (B d : Int) (a b : List S70) (out : List S70) : Prop := OutOk B d out ∧ (out.length : Int) ≤ B + 1 ∧ ∀ n, has out d n = cov a b d n

theorem inv_more {B d : Int} {a b : List S70} {m : List Int} (hm : Marks a b d m) {i : Nat} (hi : i + 1 < m.length) {out out' : List S70} (h : Inv2 B d a b m i out) (hc : cov a b d m[i] = true)
    (hok : OutOk B d out') (hlen : out'.length ≤ i + 1) (hg : ∀ n, has out' d n = true ↔ has out d n = true ∨ (m[i] ≤ n ∧ n < m[i + 1])) : Inv2 B d a b m (i + 1) out' := by
  refine ⟨hok, hlen, fun n => ?_⟩
  have hlt := rising_lt hm.1 (show i < i + 1 by omega) hi
  have e1 : m[i]? = some m[i] := List.getElem?_eq_getElem (by omega)
  have e2 : m[i + 1]? = some m[i + 1] := List.getElem?_eq_getElem hi
  rw [hg, h.got, e1, e2]
  constructor
  · rintro (⟨h1, x, hx, h2⟩ | ⟨h1, h2⟩)
    · exact ⟨h1, _, rfl, by have := Option.some.inj hx; omega⟩
    · exact ⟨(cov_const hm hi h1 h2).trans hc, _, rfl, h2⟩
  · rintro ⟨h1, x, hx, h2⟩
    have := Option.some.inj hx
    subst this
    rcases Int.lt_or_le n m[i] with h3 | h3
    · exact .inl ⟨h1, _, rfl, h3⟩
    · exact .inr ⟨h3, h2⟩
theorem inv_skip {B d : Int} {a b : List S70} {m : List Int} (hm : Marks a b d m) {i : Nat} (hi : i + 1 < m.length) {out : List S70} (h : Inv2 B d a b m i out) (hc : cov a b d m[i] = false) : Inv2 B d a b m (i + 1) out := by
  refine ⟨h.ok, by have := h.len; omega, fun n => ?_⟩
  have hlt := rising_lt hm.1 (show i < i + 1 by omega) hi
  have e1 : m[i]? = some m[i] := List.getElem?_eq_getElem (by omega)
  have e2 : m[i + 1]? = some m[i + 1] := List.getElem?_eq_getElem hi
  rw [h.got, e1, e2]
  constructor
  · rintro ⟨h1, x, hx, h2⟩
    exact ⟨h1, _, rfl, by have := Option.some.inj hx; omega⟩
  · rintro ⟨h1, x, hx, h2⟩
    have := Option.some.inj hx
    subst this
    rcases Int.lt_or_le n m[i] with h3 | h3
    · exact ⟨h1, _, rfl, h3⟩
    · rw [cov_const hm hi h3 h2, hc] at h1
      cases h1
theorem inv_end {B d : Int} {a b : List S70} {m : List Int} (hm : Marks a b d m) (hB : ∀ x, x ∈ m → 1 ≤ x ∧ x ≤ B + 1) (hB0 : 0 ≤ B) {i : Nat} (hi : i ≤ m.length - 1) (hi2 : ¬ i + 1 < m.length) {out : List S70} (h : Inv2 B d a b m i out) : Mixed B d a b out := by
  refine ⟨h.ok, ?_, fun n => ?_⟩
  · have := rising_len hm.1 1 (B + 1) hB (by omega)
    have := h.len
    omega
  · rw [Bool.eq_iff_iff, h.got]
    refine ⟨fun x => x.1, fun hc => ⟨hc, ?_⟩⟩
    obtain ⟨_, x, _, hx, _, hn⟩ := cov_bound hm hc
    obtain ⟨j, hj, rfl⟩ := List.mem_iff_getElem.1 hx
    have : i < m.length := by omega
    refine ⟨m[i], List.getElem?_eq_getElem this, ?_⟩
    rcases Nat.lt_or_ge j i with h2 | h2
    · have := rising_lt hm.1 h2 this
      omega
    · have : j = i := by omega
      subst this
      exact hn
theorem set_last (init : List S70) (x v : S70) : (init ++ [x]).set init.length v = init ++ [v] := by
  rw [List.set_append_right _ _ (Nat.le_refl _)]
  simp
theorem mix_l2 (B d : Int) (a b : List S70) (ha : a.length ≤ 1000000) (hb : b.length ≤ 1000000) (m : List Int) (hm : Marks a b d m) (hB : ∀ x, x ∈ m → 1 ≤ x ∧ x ≤ B + 1) (hB0 : 0 ≤ B) (hB1 : B ≤ 1000000) :
    ∀ (w i : Nat) (out : List S70), m.length - i = w → i ≤ m.length - 1 → Inv2 B d a b m i out → Tot (fun k => deaddropref7_mix.l2 k d a b false m out (i : Int)) (Mixed B d a b) := by
  have hml := rising_len hm.1 1 (B + 1) hB (by omega)
  intro w
  induction w with
  | zero =>
    intro i out hw hi h
    have hw1 : wrap64 ((i : Int) + 1) = ((i + 1 : Nat) : Int) := by rw [wr (by omega)]; omega
    refine Tot.step ?_
    simp only [deaddropref7_mix.l2]
    rw [hw1]
    exact Tot.neg (by omega) (Tot.now (inv_end hm hB hB0 hi (by omega) h))
  | succ w ih =>
    intro i out hw hi h
    have hw1 : wrap64 ((i : Int) + 1) = ((i + 1 : Nat) : Int) := by rw [wr (by omega)]; omega
    refine Tot.step ?_
    simp only [deaddropref7_mix.l2]
    rw [hw1]
    refine Tot.ite (fun hlt => ?_) (fun hlt => Tot.now (inv_end hm hB hB0 hi (by omega) h))
    have hi1 : i + 1 < m.length := by omega
    have hi0 : i < m.length := by omega
    have hp := hB _ (List.getElem_mem hi0)
    have hq := hB _ (List.getElem_mem hi1)
    have hpq := rising_lt hm.1 (show i < i + 1 by omega) hi1
    have hw2 : wrap64 (m[i] - 1) = m[i] - 1 := wr (by omega)
    have hw3 : wrap64 (m[i + 1] - 1) = m[i + 1] - 1 := wr (by omega)
    rw [rdI hi0]
    refine Tot.pos (by omega) (Tot.pos (by omega) (Tot.bind (Has_tot a d m[i] (by omega)) fun x hx => Tot.bind (Has_tot b d m[i] (by omega)) fun y hy => Tot.neg (by decide) ?_))
    subst hx hy
    have hlen := h.len
    have skip : cov a b d m[i] = false → Tot (fun k => deaddropref7_mix.j3 k d a b false m out (i : Int) true) (Mixed B d a b) := by
      intro hc
      refine Tot.step ?_
      simp only [deaddropref7_mix.j3]
      refine Tot.pos trivial ?_
      rw [hw1]
      exact ih (i + 1) out (by omega) (by omega) (inv_skip hm hi1 h hc)
    have more : cov a b d m[i] = true → Tot (fun k => deaddropref7_mix.j3 k d a b false m out (i : Int) false) (Mixed B d a b) := by
      intro hc
      have app : Inv2 B d a b m (i + 1) (out ++ [⟨d, m[i], m[i + 1] - 1⟩]) := by
        refine inv_more hm hi1 h hc ?_ (by simp; omega) fun n => ?_
        · intro r hr
          rcases List.mem_append.1 hr with hr | hr
          · exact h.ok r hr
          · have : r = ⟨d, m[i], m[i + 1] - 1⟩ := by simpa using hr
            subst this
            exact ⟨rfl, by show 1 ≤ m[i]; omega, by show m[i] ≤ m[i + 1] - 1; omega, by show m[i + 1] - 1 ≤ B; omega⟩
        · rw [has_append, Bool.or_eq_true]
          have : has [(⟨d, m[i], m[i + 1] - 1⟩ : S70)] d n = true ↔ (m[i] ≤ n ∧ n < m[i + 1]) := by
            rw [has_iff]
            constructor
            · rintro ⟨r, hr, _, h1, h2⟩
              have : r = ⟨d, m[i], m[i + 1] - 1⟩ := by simpa using hr
              subst this
              exact ⟨h1, by change n ≤ m[i + 1] - 1 at h2; omega⟩
            · rintro ⟨h1, h2⟩
              exact ⟨_, List.mem_singleton.2 rfl, rfl, h1, by show n ≤ m[i + 1] - 1; omega⟩
          rw [this]
      refine Tot.step ?_
      simp only [deaddropref7_mix.j3]
      rw [hw1, rdI hi0, rdI hi1, hw2, hw3]
      refine Tot.neg (by decide) (Tot.ite (fun hpos => ?_) (fun hpos => Tot.pos (by omega) (Tot.pos (by omega) (Tot.pos (by omega) (Tot.pos (by omega) (Tot.pos (by omega) (ih (i + 1) _ (by omega) (by omega) app)))))))
      obtain ⟨init, last, rfl⟩ : ∃ init last, out = init ++ [last] := by
        rcases List.eq_nil_or_concat out with h0 | ⟨x, y, h0⟩
        · rw [h0] at hpos; simp at hpos
        · exact ⟨x, y, by rw [h0, List.concat_eq_append]⟩
      have hll : (init ++ [last]).length = init.length + 1 := by simp
      rw [hll]
      rw [hll] at hlen
      have hw4 : wrap64 (((init.length + 1 : Nat) : Int) - 1) = (init.length : Int) := by rw [wr (by omega)]; omega
      rw [hw4]
      have hrd : rd_T70 (init ++ [last]) (init.length : Int) = last := by rw [rd70 (by simp)]; simp
      rw [hrd, Int.toNat_natCast, set_last]
      refine Tot.pos (by omega) (Tot.pos (by omega) (Tot.pos (by omega) (Tot.pos (by omega) (Tot.ite (fun he => ?_) (fun he => Tot.pos (by omega) (Tot.pos (by omega) (Tot.pos (by omega) (ih (i + 1) _ (by omega) (by omega) app))))))))
      refine Tot.pos (by omega) (Tot.pos (by omega) (ih (i + 1) _ (by omega) (by omega) ?_))
      have hlast := h.ok last (by simp)
      refine inv_more hm hi1 h hc ?_ (by simp; omega) fun n => ?_
      · intro r hr
        rcases List.mem_append.1 hr with hr | hr
        · exact h.ok r (by simp [hr])
        · have : r = ⟨last.f0, last.f1, m[i + 1] - 1⟩ := by simpa using hr
          subst this
          exact ⟨hlast.1, hlast.2.1, by show last.f1 ≤ m[i + 1] - 1; omega, by show m[i + 1] - 1 ≤ B; omega⟩
      · rw [has_append, has_append, Bool.or_eq_true, Bool.or_eq_true]
        have e : ∀ v : S70, has [v] d n = true ↔ v.f0 = d ∧ v.f1 ≤ n ∧ n ≤ v.f2 := by
          intro v
          rw [has_iff]
          constructor
          · rintro ⟨r, hr, h1⟩
            have : r = v := by simpa using hr
            subst this
            exact h1
          · exact fun h1 => ⟨v, List.mem_singleton.2 rfl, h1⟩
        rw [e, e]
        show (_ ∨ last.f0 = d ∧ last.f1 ≤ n ∧ n ≤ m[i + 1] - 1) ↔ _
        constructor
        · rintro (h1 | ⟨h1, h2, h3⟩)
          · exact .inl (.inl h1)
          · rcases Int.lt_or_le n m[i] with h4 | h4
            · exact .inl (.inr ⟨h1, h2, by omega⟩)
            · exact .inr ⟨h4, by omega⟩
        · rintro ((h1 | ⟨h1, h2, h3⟩) | ⟨h1, h2⟩)
          · exact .inl h1
          · exact .inr ⟨h1, h2, by omega⟩
          · exact .inr ⟨hlast.1, by omega, by omega⟩
    refine Tot.ite (fun hx => more (by unfold cov; rw [hx]; rfl)) (fun hx => ?_)
    have hx' : has a d m[i] = false := Bool.eq_false_iff.mpr hx
    cases hy : has b d m[i] with
    | true => exact more (by unfold cov; rw [hx', hy]; rfl)
    | false => exact skip (by unfold cov; rw [hx', hy]; rfl)

theorem Bnd_take {l : List S70} {i : Nat} (hi : i < l.length) (d x : Int) : Bnd (l.take (i + 1)) d x ↔ Bnd (l.take i) d x ∨ (l[i].f0 = d ∧ (x = l[i].f1 ∨ x = l[i].f2 + 1)) := by
  unfold Bnd
  rw [List.take_succ_eq_append_getElem hi]
  constructor
  · rintro ⟨r, hr, h⟩
    rcases List.mem_append.1 hr with hr | hr
    · exact .inl ⟨r, hr, h⟩
    · have : r = l[i] := by simpa using hr
      subst this
      exact .inr h
  · rintro (⟨r, hr, h⟩ | h)
    · exact ⟨r, List.mem_append.2 (.inl hr), h⟩
    · exact ⟨_, List.mem_append.2 (.inr (List.mem_singleton.2 rfl)), h⟩
theorem Marks_in {B : Int} {a b : List S70} (ha : RunsIn B a) (hb : RunsIn B b) {d : Int} {m : List Int} (hm : Marks a b d m) : ∀ x, x ∈ m → 1 ≤ x ∧ x ≤ B + 1 := by
  intro x hx
  rcases (hm.2 x).1 hx with h | h
  · exact Bnd_in ha h
  · exact Bnd_in hb h
theorem RunsIn_take {B : Int} {l : List S70} (h : RunsIn B l) (i : Nat) : RunsIn B (l.take i) := fun r hr => h r (List.mem_of_mem_take hr)
theorem mix_l1 (B d : Int) (a b : List S70) (ha : a.length ≤ 1000000) (hb : b.length ≤ 1000000) (hA : RunsIn B a) (hBb : RunsIn B b) (hB0 : 0 ≤ B) (hB1 : B ≤ 1000000) :
    ∀ (w i : Nat) (m : List Int), b.length - i = w → i ≤ b.length → Marks a (b.take i) d m → Tot (fun k => deaddropref7_mix.l1 k d a b false m (i : Int)) (Mixed B d a b) := by
  intro w
  induction w with
  | zero =>
    intro i m hw hi hm
    have : b.take i = b := List.take_of_length_le (by omega)
    rw [this] at hm
    refine Tot.step ?_
    simp only [deaddropref7_mix.l1]
    exact Tot.neg (by omega) (mix_l2 B d a b ha hb m hm (Marks_in hA hBb hm) hB0 hB1 _ 0 [] rfl (Nat.zero_le _) ⟨fun r hr => (by cases hr), Nat.le_refl _, fun n => ⟨fun h => (by cases h), fun ⟨hc, x, hx, hn⟩ => by
      obtain ⟨lo, _, hlo, _, h1, _⟩ := cov_bound hm hc
      obtain ⟨j, hj, rfl⟩ := List.mem_iff_getElem.1 hlo
      have h0 : m[0]? = some m[0] := List.getElem?_eq_getElem (by omega)
      rw [h0] at hx
      have := Option.some.inj hx
      rcases Nat.eq_zero_or_pos j with h2 | h2
      · subst h2; omega
      · have := rising_lt hm.1 h2 hj
        omega⟩⟩)
  | succ w ih =>
    intro i m hw hi hm
    have hlt : i < b.length := by omega
    have hw1 : wrap64 ((i : Int) + 1) = ((i + 1 : Nat) : Int) := by rw [wr (by omega)]; omega
    have hri := hBb _ (List.getElem_mem hlt)
    have hw2 : wrap64 (b[i].f2 + 1) = b[i].f2 + 1 := wr (by omega)
    have hml := rising_len hm.1 1 (B + 1) (Marks_in hA (RunsIn_take hBb i) hm) (by omega)
    refine Tot.step ?_
    simp only [deaddropref7_mix.l1]
    rw [hw1, rd70 hlt, hw2]
    refine Tot.pos (by omega) (Tot.pos (by omega) (Tot.ite (fun he => Tot.bind (mark_tot m b[i].f1 hm.1 (by omega)) fun m1 h1 => ?_) (fun he => ih (i + 1) m (by omega) (by omega) ⟨hm.1, fun x => ?_⟩)))
    · have hm1 : ∀ x, x ∈ m1 → 1 ≤ x ∧ x ≤ B + 1 := fun x hx => by
        rcases (h1.2 x).1 hx with h | h
        · omega
        · exact Marks_in hA (RunsIn_take hBb i) hm x h
      have hml1 := rising_len h1.1 1 (B + 1) hm1 (by omega)
      refine Tot.bind (mark_tot m1 (b[i].f2 + 1) h1.1 (by omega)) fun m2 h2 => ih (i + 1) m2 (by omega) (by omega) ⟨h2.1, fun x => ?_⟩
      rw [h2.2, h1.2, hm.2, Bnd_take hlt]
      constructor
      · rintro (h | h | h | h)
        · exact .inr (.inr ⟨he, .inr h⟩)
        · exact .inr (.inr ⟨he, .inl h⟩)
        · exact .inl h
        · exact .inr (.inl h)
      · rintro (h | h | ⟨_, h | h⟩)
        · exact .inr (.inr (.inl h))
        · exact .inr (.inr (.inr h))
        · exact .inr (.inl h)
        · exact .inl h
    · rw [hm.2, Bnd_take hlt]
      constructor
      · rintro (h | h)
        · exact .inl h
        · exact .inr (.inl h)
      · rintro (h | h | ⟨h, _⟩)
        · exact .inl h
        · exact .inr h
        · exact absurd h he
theorem mix_l0 (B d : Int) (a b : List S70) (ha : a.length ≤ 1000000) (hb : b.length ≤ 1000000) (hA : RunsIn B a) (hBb : RunsIn B b) (hB0 : 0 ≤ B) (hB1 : B ≤ 1000000) :
    ∀ (w i : Nat) (m : List Int), a.length - i = w → i ≤ a.length → Marks (a.take i) [] d m → Tot (fun k => deaddropref7_mix.l0 k d a b false m (i : Int)) (Mixed B d a b) := by
  have nil : RunsIn B [] := fun r hr => by cases hr
  have bnil : ∀ x, ¬ Bnd [] d x := fun x h => by obtain ⟨r, hr, _⟩ := h; cases hr
  intro w
  induction w with
  | zero =>
    intro i m hw hi hm
    have : a.take i = a := List.take_of_length_le (by omega)
    rw [this] at hm
    refine Tot.step ?_
    simp only [deaddropref7_mix.l0]
    exact Tot.neg (by omega) (mix_l1 B d a b ha hb hA hBb hB0 hB1 _ 0 m rfl (Nat.zero_le _) hm)
  | succ w ih =>
    intro i m hw hi hm
    have hlt : i < a.length := by omega
    have hw1 : wrap64 ((i : Int) + 1) = ((i + 1 : Nat) : Int) := by rw [wr (by omega)]; omega
    have hri := hA _ (List.getElem_mem hlt)
    have hw2 : wrap64 (a[i].f2 + 1) = a[i].f2 + 1 := wr (by omega)
    have hml := rising_len hm.1 1 (B + 1) (Marks_in (RunsIn_take hA i) nil hm) (by omega)
    refine Tot.step ?_
    simp only [deaddropref7_mix.l0]
    rw [hw1, rd70 hlt, hw2]
    refine Tot.pos (by omega) (Tot.pos (by omega) (Tot.ite (fun he => Tot.bind (mark_tot m a[i].f1 hm.1 (by omega)) fun m1 h1 => ?_) (fun he => ih (i + 1) m (by omega) (by omega) ⟨hm.1, fun x => ?_⟩)))
    · have hm1 : ∀ x, x ∈ m1 → 1 ≤ x ∧ x ≤ B + 1 := fun x hx => by
        rcases (h1.2 x).1 hx with h | h
        · omega
        · exact Marks_in (RunsIn_take hA i) nil hm x h
      have hml1 := rising_len h1.1 1 (B + 1) hm1 (by omega)
      refine Tot.bind (mark_tot m1 (a[i].f2 + 1) h1.1 (by omega)) fun m2 h2 => ih (i + 1) m2 (by omega) (by omega) ⟨h2.1, fun x => ?_⟩
      rw [h2.2, h1.2, hm.2, Bnd_take hlt]
      constructor
      · rintro (h | h | h | h)
        · exact .inl (.inr ⟨he, .inr h⟩)
        · exact .inl (.inr ⟨he, .inl h⟩)
        · exact .inl (.inl h)
        · exact absurd h (bnil x)
      · rintro ((h | ⟨_, h | h⟩) | h)
        · exact .inr (.inr (.inl h))
        · exact .inr (.inl h)
        · exact .inl h
        · exact absurd h (bnil x)
    · rw [hm.2, Bnd_take hlt]
      constructor
      · rintro (h | h)
        · exact .inl (.inl h)
        · exact absurd h (bnil x)
      · rintro ((h | ⟨h, _⟩) | h)
        · exact .inl h
        · exact absurd h he
        · exact absurd h (bnil x)
theorem mix_tot (B d : Int) (a b : List S70) (ha : a.length ≤ 1000000) (hb : b.length ≤ 1000000) (hA : RunsIn B a) (hBb : RunsIn B b) (hB0 : 0 ≤ B) (hB1 : B ≤ 1000000) : Tot (fun k => deaddropref7_mix.f k d a b false) (Mixed B d a b) :=
  mix_l0 B d a b ha hb hA hBb hB0 hB1 _ 0 [] rfl (Nat.zero_le _) ⟨List.Pairwise.nil, fun x => ⟨fun h => (by cases h), fun h => by rcases h with ⟨r, hr, _⟩ | ⟨r, hr, _⟩ <;> simp at hr⟩⟩

/-! Union -/
/-- What Union gives. -/
structure Joined (B : Int) (a b out : List S70) : Prop where
  ok : ∀ r, r ∈ out → 0 ≤ r.f0 ∧ r.f0 < 8 ∧ 1 ≤ r.f1 ∧ r.f1 ≤ r.f2 ∧ r.f2 ≤ B
  len : (out.length : Int) ≤ 8 * (B + 1)
  got : ∀ d n : Int, 0 ≤ d → d < 8 → has out d n = cov a b d n
theorem has_other {l : List S70} {d e n : Int} (h : ∀ r, r ∈ l → r.f0 = e) (hne : e ≠ d) : has l d n = false := by
  rw [Bool.eq_false_iff]
  intro hc
  obtain ⟨r, hr, hd, _⟩ := (has_iff l d n).1 hc
  exact hne ((h r hr).symm.trans hd)
theorem Union_l0 (B : Int) (a b : List S70) (ha : a.length ≤ 1000000) (hb : b.length ≤ 1000000) (hA : RunsIn B a) (hBb : RunsIn B b) (hB0 : 0 ≤ B) (hB1 : B ≤ 1000000) :
    ∀ (w i : Nat) (out : List S70), 8 - i = w → i ≤ 8 → (∀ r, r ∈ out → 0 ≤ r.f0 ∧ r.f0 < 8 ∧ 1 ≤ r.f1 ∧ r.f1 ≤ r.f2 ∧ r.f2 ≤ B) → (out.length : Int) ≤ i * (B + 1) → (∀ d n : Int, 0 ≤ d → d < (i : Int) → has out d n = cov a b d n) → (∀ r, r ∈ out → r.f0 < (i : Int)) →
    Tot (fun k => deaddropref7_Union.l0 k a b out (i : Int)) (Joined B a b) := by
  intro w
  induction w with
  | zero =>
    intro i out hw hi h1 h2 h3 _
    have : i = 8 := by omega
    subst this
    refine Tot.step ?_
    simp only [deaddropref7_Union.l0]
    exact Tot.neg (by omega) (Tot.now ⟨h1, by omega, fun d n hd hd8 => h3 d n hd (by omega)⟩)
  | succ w ih =>
    intro i out hw hi h1 h2 h3 h4
    have hw1 : wrap64 ((i : Int) + 1) = ((i + 1 : Nat) : Int) := by rw [wr (by omega)]; omega
    have hm : ((i : Int) * (B + 1)) ≤ 8 * (B + 1) := Int.mul_le_mul_of_nonneg_right (by omega) (by omega)
    have hm2 : (((i + 1 : Nat) : Int) * (B + 1)) = (i : Int) * (B + 1) + (B + 1) := by rw [Int.natCast_add, Int.add_mul]; simp
    refine Tot.step ?_
    simp only [deaddropref7_Union.l0]
    rw [hw1]
    refine Tot.pos (by omega) (Tot.bind (mix_tot B i a b ha hb hA hBb hB0 hB1) fun t ht => Tot.pos (by have := ht.2.1; omega) (ih (i + 1) (out ++ t) (by omega) (by omega) ?_ ?_ ?_ ?_))
    · intro r hr
      rcases List.mem_append.1 hr with hr | hr
      · exact h1 r hr
      · have := ht.1 r hr
        omega
    · rw [hm2, List.length_append]
      have := ht.2.1
      omega
    · intro d n hd hdi
      rw [has_append]
      rcases Int.lt_or_le d i with hc | hc
      · rw [h3 d n hd hc, has_other (fun r hr => (ht.1 r hr).1) (by omega), Bool.or_false]
      · have : d = i := by omega
        subst this
        have hf : has out i n = false := Bool.eq_false_iff.mpr fun hx => by
          obtain ⟨r, hr, hd, _⟩ := (has_iff out _ n).1 hx
          have := h4 r hr
          omega
        rw [ht.2.2 n, hf, Bool.false_or]
    · intro r hr
      rcases List.mem_append.1 hr with hr | hr
      · have := h4 r hr; omega
      · have := (ht.1 r hr).1; omega
theorem Union_tot (B : Int) (a b : List S70) (ha : a.length ≤ 1000000) (hb : b.length ≤ 1000000) (hA : RunsIn B a) (hBb : RunsIn B b) (hB0 : 0 ≤ B) (hB1 : B ≤ 1000000) : Tot (fun k => deaddropref7_Union.f k a b) (Joined B a b) :=
  Union_l0 B a b ha hb hA hBb hB0 hB1 _ 0 [] rfl (by omega) (fun r hr => (by cases hr)) (by simp) (fun d n hd h => by omega) (fun r hr => (by cases hr))
end Go.Proofs.Ytaonemedoikieaa.HR
