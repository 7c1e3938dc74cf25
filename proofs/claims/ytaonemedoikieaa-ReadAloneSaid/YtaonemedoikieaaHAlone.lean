-- What one device does alone, in plain Lean (own work).
import Derived.Test.YtaonemedoikieaaPx24
import Derived.Test.YtaonemedoikieaaHSet
namespace Go.Proofs.Ytaonemedoikieaa.HR
open Go.RowKit Go.Proofs.Ytaonemedoikieaa.P Go.Proofs.YtaonemedoikieaaW.PrintWords Go.Proofs.YtaonemedoikieaaW.PrintLast Go.Proofs.Ytaonemedoikieaa.HT

set_option linter.unusedSimpArgs false
def K : ByteArray := strOfNums [107]
def it (c : Nat) : ByteArray := strOfNums [97 + (c : Int)]
theorem K_is : K = ⟨#[107]⟩ := by decide +kernel
theorem it_inj' : ∀ c d : Fin 5, (it c.val).toList = (it d.val).toList → c = d := by decide +kernel
theorem it_inj {c d : Nat} (hc : c < 5) (hd : d < 5) (h : (it c).toList = (it d).toList) : c = d := by
  have := it_inj' ⟨c, hc⟩ ⟨d, hd⟩ h
  simpa using this
theorem it_ne' : ∀ c : Fin 5, (it c.val).toList ≠ [] := by decide +kernel
theorem it_bt' : ∀ c : Fin 5, ((bt (it c.val) 0) - 97) % 256 = (c.val : Int) := by decide +kernel
theorem it_lt' : ∀ c d : Fin 5, c.val < d.val → (it c.val).data.toList < (it d.val).data.toList := by decide +kernel
/-- A deed by numbers, of one device alone. -/
theorem Op_alone {a b : Int} (ha : ByteIn a) (hb : ByteIn b) : ∃ kind n : Int, ∃ c : Nat, c < 5 ∧ 1 ≤ kind ∧ kind ≤ 5 ∧ -1000 ≤ n ∧ n ≤ 1000 ∧ deaddroplaw8_Op.f (Int.tmod a 5) b = some (kind, K, it c, n) := by
  obtain ⟨a0, a1⟩ := ha
  obtain ⟨b0, b1⟩ := hb
  have ea : Int.tmod a 5 = a % 5 := Int.tmod_eq_emod_of_nonneg a0
  have eb : Int.tmod b 5 = b % 5 := Int.tmod_eq_emod_of_nonneg b0
  have e0 : Int.tdiv (a % 5) 5 = 0 := Int.tdiv_eq_zero_of_lt (by omega) (by omega)
  have e1 : Int.tmod (a % 5) 5 = a % 5 := by rw [Int.tmod_eq_emod_of_nonneg (by omega)]; omega
  refine ⟨1 + a % 5, b - 100, (b % 5).toNat, by omega, by omega, by omega, by omega, by omega, ?_⟩
  unfold deaddroplaw8_Op.f
  rw [ea, eb, e0, wr (x := a % 5) (by omega), e1, wr (x := 1 + a % 5) (by omega), wr (x := b) (by omega), wr (x := b - 100) (by omega)]
  have h1 : (97 + b % 5) % 256 = 97 + (((b % 5).toNat : Nat) : Int) := by omega
  have h2 : 107 + ((0 : Int) % 256 % 3) = 107 := by decide
  rw [h1, h2]
  rfl
structure Alone (t : Int) (s : List S70) (f : List S34) (text : ByteArray) (sum : Int) (inn : List Bool) : Prop where
  good : Good t s f
  dev : ∀ x, x ∈ f → x.f0.f0 = 2
  key : ∀ x, x ∈ f → x.f1.toList = K.toList
  reg : (f.filter fun x => x.f2 == 1).map (·.f3) = if text.toList = [] then [] else [text]
  len : inn.length = 5
  mem : ∀ x, x ∈ f → x.f2 = 2 → ∃ c, c < 5 ∧ x.f3 = it c
  inn : ∀ c, c < 5 → (inn.getD c false = true ↔ ∃ x, x ∈ f ∧ x.f2 = 2 ∧ x.f3 = it c)
  cnt : ((f.filter fun x => x.f2 == 3).map (·.f4) = [sum]) ∨ ((f.filter fun x => x.f2 == 3) = [] ∧ sum = 0)
  bound : -1000 * t ≤ sum ∧ sum ≤ 1000 * t
theorem sorted_inj {f : List S34} (h : Sorted f) {x y : S34} (hx : x ∈ f) (hy : y ∈ f) (he : deq x y) : x = y := by
  obtain ⟨i, hi, rfl⟩ := List.mem_iff_getElem.1 hx
  obtain ⟨j, hj, rfl⟩ := List.mem_iff_getElem.1 hy
  rcases Nat.lt_trichotomy i j with h1 | h1 | h1
  · have := List.pairwise_iff_getElem.1 h i j hi hj h1
    unfold dlt deq at *
    omega
  · subst h1; rfl
  · have := List.pairwise_iff_getElem.1 h j i hj hi h1
    unfold dlt deq at *
    omega
/-- What is left behind a deed. -/
theorem alone_join {B : Int} {s : List S70} {f : List S34} (hG : Good B s f) (hdev : ∀ x, x ∈ f → x.f0.f0 = 2) {kind : Int} {key item : ByteArray} {n L : Int} (hL : LastIs B s 2 L) {D : List S70 × List S34 × Int}
    (hD : ((kind = 3 ∨ kind = 5) ∧ D.2.1 = [] ∧ (∀ d m : Int, 0 ≤ d → d < 8 → HR.has D.1 d m = dotAt ((f.filter (goesB 2 kind key item)).map (·.f0)) d m) ∨
        (¬ (kind = 3 ∨ kind = 5)) ∧ D.2.1 = [newFact 2 kind key item (sumOf n (f.filter (goesB 2 kind key item))) L] ∧ (∀ d m : Int, 0 ≤ d → d < 8 → HR.has D.1 d m = dotAt ((f.filter (goesB 2 kind key item)).map (·.f0) ++ [⟨2, L + 1⟩]) d m))) :
    mrg (keepA D.1 D.2.1) (keepB s) f D.2.1 = f.filter (fun x => !goesB 2 kind key item x) ++ (if kind = 3 ∨ kind = 5 then [] else [newFact 2 kind key item (sumOf n (f.filter (goesB 2 kind key item))) L]) := by
  have hlast : ∀ x, x ∈ f → x.f0.f1 ≤ L := fun x hx => by
    obtain ⟨r, hr, hd, h1, h2⟩ := (has_iff s _ _).1 (hG.has x hx)
    have := hL.2.2 r hr (hd.trans (hdev x hx))
    omega
  have goes : ∀ x, x ∈ f → (dotAt ((f.filter (goesB 2 kind key item)).map (·.f0)) x.f0.f0 x.f0.f1 = goesB 2 kind key item x) := fun x hx => by
    rw [Bool.eq_iff_iff, dotAt_iff]
    constructor
    · rintro ⟨y, hy, h1, h2⟩
      obtain ⟨z, hz, rfl⟩ := List.mem_map.1 hy
      have hz' := List.mem_filter.1 hz
      have := sorted_inj hG.sort hz'.1 hx ⟨h1, h2⟩
      subst this
      exact hz'.2
    · intro h
      exact ⟨x.f0, List.mem_map.2 ⟨x, List.mem_filter.2 ⟨hx, h⟩, rfl⟩, rfl, rfl⟩
  rcases hD with ⟨hk, hf, hh⟩ | ⟨hk, hf, hh⟩
  · rw [hf, mrg_nil, if_pos hk, List.append_nil]
    refine List.filter_congr fun x hx => ?_
    unfold keepA
    have d := hG.dot x hx
    rw [hh _ _ d.1 d.2.1, goes x hx]
    simp [atB]
  · rw [hf, if_neg hk]
    have hnew : keepB s (newFact 2 kind key item (sumOf n (f.filter (goesB 2 kind key item))) L) = true := by
      unfold keepB
      have : HR.has s 2 (L + 1) = false := Bool.eq_false_iff.mpr fun h => by
        obtain ⟨r, hr, hd, h1, h2⟩ := (has_iff s _ _).1 h
        have := hL.2.2 r hr hd
        omega
      show (!HR.has s 2 (L + 1)) = true
      rw [this]; rfl
    rw [mrg_last _ _ _ hnew f (fun x hx => by
      have h1 := hdev x hx
      have h2 := hlast x hx
      show x.f0.f0 < 2 ∨ (x.f0.f0 = 2 ∧ x.f0.f1 < L + 1)
      omega)]
    congr 1
    refine List.filter_congr fun x hx => ?_
    unfold keepA
    have d := hG.dot x hx
    have h2 := hlast x hx
    have e : dotAt ((f.filter (goesB 2 kind key item)).map (·.f0) ++ [⟨2, L + 1⟩]) x.f0.f0 x.f0.f1 = dotAt ((f.filter (goesB 2 kind key item)).map (·.f0)) x.f0.f0 x.f0.f1 := by
      unfold dotAt
      rw [List.any_append]
      have : ([(⟨2, L + 1⟩ : S32)].any fun y => decide (y.f0 = x.f0.f0) && decide (y.f1 = x.f0.f1)) = false := by
        simp only [List.any_cons, List.any_nil, Bool.or_false]
        rw [decide_eq_false (show ¬ L + 1 = x.f0.f1 by omega), Bool.and_false]
      rw [this, Bool.or_false]
    have e2 : atB [newFact 2 kind key item (sumOf n (f.filter (goesB 2 kind key item))) L] x.f0.f0 x.f0.f1 = false := by
      unfold atB
      simp only [List.any_cons, List.any_nil, Bool.or_false]
      have : (newFact 2 kind key item (sumOf n (f.filter (goesB 2 kind key item))) L).f0.f1 = L + 1 := rfl
      rw [this, decide_eq_false (show ¬ L + 1 = x.f0.f1 by omega), Bool.and_false]
    rw [hh _ _ d.1 d.2.1, e, goes x hx, e2, Bool.or_false]
theorem filter_two (p q : S34 → Bool) (f : List S34) : (f.filter p).filter q = f.filter fun x => p x && q x := by
  rw [List.filter_filter]
  congr 1
  funext x
  exact Bool.and_comm _ _
/-- The deeds' effects on what is told. -/
theorem alone_step {t : Int} {s s' : List S70} {f : List S34} {text : ByteArray} {sum : Int} {inn : List Bool} (h : Alone t s f text sum inn) (ht : 0 ≤ t ∧ t ≤ 40) {kind n L : Int} {c : Nat} (hc : c < 5) (hk : 1 ≤ kind ∧ kind ≤ 5) (hn : -1000 ≤ n ∧ n ≤ 1000)
    (hg : Good (t + 1) s' (f.filter (fun x => !goesB 2 kind K (it c) x) ++ (if kind = 3 ∨ kind = 5 then [] else [newFact 2 kind K (it c) (sumOf n (f.filter (goesB 2 kind K (it c)))) L]))) :
    Alone (t + 1) s' (f.filter (fun x => !goesB 2 kind K (it c) x) ++ (if kind = 3 ∨ kind = 5 then [] else [newFact 2 kind K (it c) (sumOf n (f.filter (goesB 2 kind K (it c)))) L]))
      (if kind = 1 then it c else if kind = 5 then ⟨#[]⟩ else text) (if kind = 4 then wrap64 (sum + n) else if kind = 5 then 0 else sum) (if kind = 2 ∨ kind = 3 then inn.set c (kind == 2) else if kind = 5 then List.replicate 5 false else inn) := by
  obtain ⟨t0, t1⟩ := ht
  have hitl := it_ne' ⟨c, hc⟩
  have goesIs : ∀ x, x ∈ f → goesB 2 kind K (it c) x = (if kind = 1 then x.f2 == 1 else if kind = 2 ∨ kind = 3 then (x.f2 == 2 && x.f3.toList == (it c).toList) else if kind = 4 then x.f2 == 3 else true) := fun x hx => by
    unfold goesB
    rw [decide_eq_true (h.key x hx), Bool.true_and]
    have : (x.f0.f0 == 2) = true := beq_iff_eq.mpr (h.dev x hx)
    rw [this, Bool.and_true]
  have memf : ∀ x, x ∈ f.filter (fun x => !goesB 2 kind K (it c) x) → x ∈ f := fun x hx => (List.mem_filter.1 hx).1
  have b := h.bound
  rcases (show kind = 1 ∨ kind = 2 ∨ kind = 3 ∨ kind = 4 ∨ kind = 5 by omega) with hk1 | hk1 | hk1 | hk1 | hk1
  · subst hk1
    have goesIs : ∀ x, x ∈ f → goesB 2 1 K (it c) x = (x.f2 == 1) := fun x hx => by rw [goesIs x hx]; rfl
    have fl : f.filter (fun x => !goesB 2 1 K (it c) x) = f.filter (fun x => !(x.f2 == 1)) := List.filter_congr fun x hx => by rw [goesIs x hx]
    rw [fl] at hg memf ⊢
    simp only [if_neg (show ¬ ((1 : Int) = 3 ∨ (1 : Int) = 5) by decide), if_pos, if_neg (show ¬ ((1 : Int) = 4) by decide), if_neg (show ¬ ((1 : Int) = 5) by decide), if_neg (show ¬ ((1 : Int) = 2 ∨ (1 : Int) = 3) by decide)] at hg ⊢
    generalize hN : newFact 2 1 K (it c) (sumOf n (f.filter (goesB 2 1 K (it c)))) L = N at *
    have n0 : N.f0.f0 = 2 := by rw [← hN]; rfl
    have n1 : N.f1 = K := by rw [← hN]; rfl
    have n2 : N.f2 = 1 := by rw [← hN]; rfl
    have n3 : N.f3 = it c := by rw [← hN]; rfl
    refine ⟨hg, ?_, ?_, ?_, h.len, ?_, ?_, ?_, by omega⟩
    · intro x hx
      rcases List.mem_append.1 hx with hx | hx
      · exact h.dev x (memf x hx)
      · rw [List.mem_singleton.1 hx, n0]
    · intro x hx
      rcases List.mem_append.1 hx with hx | hx
      · exact h.key x (memf x hx)
      · rw [List.mem_singleton.1 hx, n1]
    · rw [List.filter_append, filter_two, if_neg hitl]
      have : (f.filter fun x => !(x.f2 == 1) && (x.f2 == 1)) = [] := List.filter_eq_nil_iff.2 fun x _ => by simp
      rw [this, List.nil_append, List.filter_cons_of_pos (by rw [n2]; rfl)]
      simp [n3]
    · intro x hx h2
      rcases List.mem_append.1 hx with hx | hx
      · exact h.mem x (memf x hx) h2
      · rw [List.mem_singleton.1 hx, n2] at h2; cases h2
    · intro d hd
      rw [h.inn d hd]
      constructor
      · rintro ⟨x, hx, h2, h3⟩
        exact ⟨x, List.mem_append.2 (.inl (List.mem_filter.2 ⟨hx, by rw [h2]; rfl⟩)), h2, h3⟩
      · rintro ⟨x, hx, h2, h3⟩
        rcases List.mem_append.1 hx with hx | hx
        · exact ⟨x, memf x hx, h2, h3⟩
        · rw [List.mem_singleton.1 hx, n2] at h2; cases h2
    · rw [List.filter_append, filter_two]
      have e1 : (f.filter fun x => !(x.f2 == 1) && (x.f2 == 3)) = f.filter fun x => x.f2 == 3 := List.filter_congr fun x _ => by
        by_cases hx : x.f2 = 3
        · rw [hx]; rfl
        · rw [show (x.f2 == 3) = false from beq_eq_false_iff_ne.mpr hx, Bool.and_false]
      rw [e1, List.filter_cons_of_neg (by rw [n2]; decide), List.filter_nil, List.append_nil]
      exact h.cnt
  · subst hk1
    have goesIs : ∀ x, x ∈ f → goesB 2 2 K (it c) x = (x.f2 == 2 && x.f3.toList == (it c).toList) := fun x hx => by rw [goesIs x hx]; rfl
    simp only [if_neg (show ¬ ((2 : Int) = 3 ∨ (2 : Int) = 5) by decide), if_neg (show ¬ ((2 : Int) = 1) by decide), if_neg (show ¬ ((2 : Int) = 4) by decide), if_neg (show ¬ ((2 : Int) = 5) by decide), true_or, if_true] at hg ⊢
    generalize hN : newFact 2 2 K (it c) (sumOf n (f.filter (goesB 2 2 K (it c)))) L = N at *
    have n0 : N.f0.f0 = 2 := by rw [← hN]; rfl
    have n1 : N.f1 = K := by rw [← hN]; rfl
    have n2 : N.f2 = 2 := by rw [← hN]; rfl
    have n3 : N.f3 = it c := by rw [← hN]; rfl
    have other : ∀ v : Int, v ≠ 2 → ((f.filter (fun x => !goesB 2 2 K (it c) x) ++ [N]).filter fun x => x.f2 == v) = f.filter fun x => x.f2 == v := fun v hv => by
      rw [List.filter_append, filter_two, List.filter_cons_of_neg (by rw [n2]; simp; omega), List.filter_nil, List.append_nil]
      refine List.filter_congr fun x hx => ?_
      rw [goesIs x hx]
      by_cases h2 : x.f2 = v
      · rw [show (x.f2 == 2) = false from beq_eq_false_iff_ne.mpr (by omega)]; simp
      · rw [show (x.f2 == v) = false from beq_eq_false_iff_ne.mpr h2, Bool.and_false]
    refine ⟨hg, ?_, ?_, by rw [other 1 (by decide)]; exact h.reg, by rw [List.length_set]; exact h.len, ?_, ?_, by rw [other 3 (by decide)]; exact h.cnt, by omega⟩
    · intro x hx
      rcases List.mem_append.1 hx with hx | hx
      · exact h.dev x (memf x hx)
      · rw [List.mem_singleton.1 hx, n0]
    · intro x hx
      rcases List.mem_append.1 hx with hx | hx
      · exact h.key x (memf x hx)
      · rw [List.mem_singleton.1 hx, n1]
    · intro x hx h2
      rcases List.mem_append.1 hx with hx | hx
      · exact h.mem x (memf x hx) h2
      · rw [List.mem_singleton.1 hx, n3]; exact ⟨c, hc, rfl⟩
    · intro d hd
      rcases Decidable.em (d = c) with hdc | hdc
      · subst hdc
        have : (inn.set d ((2 : Int) == 2)).getD d false = true := by rw [List.getD_eq_getElem?_getD, List.getElem?_set_self (by rw [h.len]; exact hd)]; rfl
        rw [this]
        exact ⟨fun _ => ⟨N, by simp, n2, n3⟩, fun _ => rfl⟩
      · have : (inn.set c ((2 : Int) == 2)).getD d false = inn.getD d false := by rw [List.getD_eq_getElem?_getD, List.getElem?_set_ne (fun e => hdc e.symm), List.getD_eq_getElem?_getD]
        rw [this, h.inn d hd]
        constructor
        · rintro ⟨x, hx, h2, h3⟩
          refine ⟨x, List.mem_append.2 (.inl (List.mem_filter.2 ⟨hx, ?_⟩)), h2, h3⟩
          rw [goesIs x hx, h3]
          have : ((it d).toList == (it c).toList) = false := beq_eq_false_iff_ne.mpr fun e => hdc (it_inj hd hc e)
          rw [this, Bool.and_false]; rfl
        · rintro ⟨x, hx, h2, h3⟩
          rcases List.mem_append.1 hx with hx | hx
          · exact ⟨x, memf x hx, h2, h3⟩
          · have hx := List.mem_singleton.1 hx
            rw [hx, n3] at h3
            exact absurd (it_inj hc hd (congrArg ByteArray.toList h3)).symm hdc
  · subst hk1
    have goesIs : ∀ x, x ∈ f → goesB 2 3 K (it c) x = (x.f2 == 2 && x.f3.toList == (it c).toList) := fun x hx => by rw [goesIs x hx]; rfl
    simp only [true_or, or_true, if_true, if_neg (show ¬ ((3 : Int) = 1) by decide), if_neg (show ¬ ((3 : Int) = 4) by decide), if_neg (show ¬ ((3 : Int) = 5) by decide), List.append_nil] at hg ⊢
    have other : ∀ v : Int, v ≠ 2 → ((f.filter (fun x => !goesB 2 3 K (it c) x)).filter fun x => x.f2 == v) = f.filter fun x => x.f2 == v := fun v hv => by
      rw [filter_two]
      refine List.filter_congr fun x hx => ?_
      rw [goesIs x hx]
      by_cases h2 : x.f2 = v
      · rw [show (x.f2 == 2) = false from beq_eq_false_iff_ne.mpr (by omega)]; simp
      · rw [show (x.f2 == v) = false from beq_eq_false_iff_ne.mpr h2, Bool.and_false]
    refine ⟨hg, fun x hx => h.dev x (memf x hx), fun x hx => h.key x (memf x hx), by rw [other 1 (by decide)]; exact h.reg, by rw [List.length_set]; exact h.len, fun x hx h2 => h.mem x (memf x hx) h2, ?_, by rw [other 3 (by decide)]; exact h.cnt, by omega⟩
    intro d hd
    rcases Decidable.em (d = c) with hdc | hdc
    · subst hdc
      have : (inn.set d ((3 : Int) == 2)).getD d false = false := by rw [List.getD_eq_getElem?_getD, List.getElem?_set_self (by rw [h.len]; exact hd)]; rfl
      rw [this]
      refine ⟨fun hx => (by cases hx), ?_⟩
      rintro ⟨x, hx, h2, h3⟩
      have hx' := (List.mem_filter.1 hx).2
      rw [goesIs x (memf x hx), h2, h3] at hx'
      simp at hx'
    · have : (inn.set c ((3 : Int) == 2)).getD d false = inn.getD d false := by rw [List.getD_eq_getElem?_getD, List.getElem?_set_ne (fun e => hdc e.symm), List.getD_eq_getElem?_getD]
      rw [this, h.inn d hd]
      constructor
      · rintro ⟨x, hx, h2, h3⟩
        refine ⟨x, List.mem_filter.2 ⟨hx, ?_⟩, h2, h3⟩
        rw [goesIs x hx, h3]
        have : ((it d).toList == (it c).toList) = false := beq_eq_false_iff_ne.mpr fun e => hdc (it_inj hd hc e)
        rw [this, Bool.and_false]; rfl
      · rintro ⟨x, hx, h2, h3⟩
        exact ⟨x, memf x hx, h2, h3⟩
  · subst hk1
    have goesIs : ∀ x, x ∈ f → goesB 2 4 K (it c) x = (x.f2 == 3) := fun x hx => by rw [goesIs x hx]; rfl
    have fl : f.filter (fun x => !goesB 2 4 K (it c) x) = f.filter (fun x => !(x.f2 == 3)) := List.filter_congr fun x hx => by rw [goesIs x hx]
    have fg : f.filter (goesB 2 4 K (it c)) = f.filter (fun x => x.f2 == 3) := List.filter_congr fun x hx => by rw [goesIs x hx]
    have hsum : sumOf n (f.filter (goesB 2 4 K (it c))) = wrap64 (sum + n) := by
      rw [fg]
      rcases h.cnt with hc1 | ⟨hc1, hc2⟩
      · obtain ⟨x, hx, hx4⟩ := List.map_eq_singleton_iff.1 hc1
        rw [hx]
        show wrap64 (n + x.f4) = _
        rw [hx4, Int.add_comm]
      · rw [hc1, hc2]
        show n = _
        rw [Int.zero_add, wr (by omega)]
    rw [fl] at hg memf ⊢
    rw [hsum] at hg ⊢
    have hw : wrap64 (sum + n) = sum + n := wr (by omega)
    rw [hw] at hg ⊢
    simp only [if_neg (show ¬ ((4 : Int) = 3 ∨ (4 : Int) = 5) by decide), if_neg (show ¬ ((4 : Int) = 1) by decide), if_pos, if_neg (show ¬ ((4 : Int) = 5) by decide), if_neg (show ¬ ((4 : Int) = 2 ∨ (4 : Int) = 3) by decide)] at hg ⊢
    generalize hN : newFact 2 4 K (it c) (sum + n) L = N at *
    have n0 : N.f0.f0 = 2 := by rw [← hN]; rfl
    have n1 : N.f1 = K := by rw [← hN]; rfl
    have n2 : N.f2 = 3 := by rw [← hN]; rfl
    have n4 : N.f4 = sum + n := by rw [← hN]; rfl
    refine ⟨hg, ?_, ?_, ?_, h.len, ?_, ?_, ?_, by omega⟩
    · intro x hx
      rcases List.mem_append.1 hx with hx | hx
      · exact h.dev x (memf x hx)
      · rw [List.mem_singleton.1 hx, n0]
    · intro x hx
      rcases List.mem_append.1 hx with hx | hx
      · exact h.key x (memf x hx)
      · rw [List.mem_singleton.1 hx, n1]
    · rw [List.filter_append, filter_two]
      have e1 : (f.filter fun x => !(x.f2 == 3) && (x.f2 == 1)) = f.filter fun x => x.f2 == 1 := List.filter_congr fun x _ => by
        by_cases hx : x.f2 = 1
        · rw [hx]; rfl
        · rw [show (x.f2 == 1) = false from beq_eq_false_iff_ne.mpr hx, Bool.and_false]
      rw [e1, List.filter_cons_of_neg (by rw [n2]; decide), List.filter_nil, List.append_nil]
      exact h.reg
    · intro x hx h2
      rcases List.mem_append.1 hx with hx | hx
      · exact h.mem x (memf x hx) h2
      · rw [List.mem_singleton.1 hx, n2] at h2; cases h2
    · intro d hd
      rw [h.inn d hd]
      constructor
      · rintro ⟨x, hx, h2, h3⟩
        exact ⟨x, List.mem_append.2 (.inl (List.mem_filter.2 ⟨hx, by rw [h2]; rfl⟩)), h2, h3⟩
      · rintro ⟨x, hx, h2, h3⟩
        rcases List.mem_append.1 hx with hx | hx
        · exact ⟨x, memf x hx, h2, h3⟩
        · rw [List.mem_singleton.1 hx, n2] at h2; cases h2
    · left
      rw [List.filter_append, filter_two]
      have : (f.filter fun x => !(x.f2 == 3) && (x.f2 == 3)) = [] := List.filter_eq_nil_iff.2 fun x _ => by simp
      rw [this, List.nil_append, List.filter_cons_of_pos (by rw [n2]; rfl)]
      simp [n4]
  · subst hk1
    have goesIs : ∀ x, x ∈ f → goesB 2 5 K (it c) x = true := fun x hx => by rw [goesIs x hx]; rfl
    have fl : f.filter (fun x => !goesB 2 5 K (it c) x) = [] := List.filter_eq_nil_iff.2 fun x hx => by rw [goesIs x hx]; decide
    rw [fl] at hg ⊢
    simp only [true_or, or_true, if_true, if_neg (show ¬ ((5 : Int) = 1) by decide), if_neg (show ¬ ((5 : Int) = 4) by decide), if_pos, if_neg (show ¬ ((5 : Int) = 2 ∨ (5 : Int) = 3) by decide), List.append_nil] at hg ⊢
    refine ⟨hg, fun x hx => (by cases hx), fun x hx => (by cases hx), by simp, by simp, fun x hx => (by cases hx), fun d hd => ⟨fun hx => ?_, fun ⟨x, hx, _⟩ => (by cases hx)⟩, .inr ⟨rfl, rfl⟩, by omega⟩
    rw [List.getD_eq_getElem?_getD, List.getElem?_replicate, if_pos hd] at hx
    cases hx

theorem Alone.mono {t t' : Int} {s : List S70} {f : List S34} {text : ByteArray} {sum : Int} {inn : List Bool} (h : Alone t s f text sum inn) (hB : t ≤ t') : Alone t' s f text sum inn :=
  ⟨h.good.mono hB, h.dev, h.key, h.reg, h.len, h.mem, h.inn, h.cnt, by have := h.bound; omega⟩
theorem Alone.nil : Alone 0 [] [] ⟨#[]⟩ 0 (List.replicate 5 false) :=
  ⟨Good.nil 0 (Int.le_refl _), fun x hx => (by cases hx), fun x hx => (by cases hx), by simp, by simp, fun x hx => (by cases hx), fun d hd => ⟨fun hx => by
    (rw [List.getD_eq_getElem?_getD, List.getElem?_replicate, if_pos hd] at hx; exact absurd hx (by decide)), fun ⟨x, hx, _⟩ => (by cases hx)⟩, .inr ⟨rfl, rfl⟩, by omega⟩
/-- Those that are in, in order. -/
def wants (inn : List Bool) (k : Nat) : List ByteArray := ((List.range k).filter fun c => inn.getD c false).map it
theorem wants_succ (inn : List Bool) (k : Nat) : wants inn (k + 1) = wants inn k ++ (if inn.getD k false = true then [it k] else []) := by
  unfold wants
  rw [List.range_succ, List.filter_append, List.map_append]
  congr 1
  by_cases h : inn.getD k false = true
  · rw [if_pos h, List.filter_cons_of_pos (p := fun c => inn.getD c false) h]; rfl
  · rw [if_neg h, List.filter_cons_of_neg (p := fun c => inn.getD c false) h]; rfl
theorem wants_set (inn : List Bool) (l : List ByteArray) (h : ∀ x, x ∈ l ↔ ∃ c, c < 5 ∧ inn.getD c false = true ∧ x = it c) : SetIs l (wants inn 5) := by
  refine ⟨?_, fun x => ?_⟩
  · unfold wants
    rw [List.map_map]
    refine List.pairwise_map.2 (List.Pairwise.filter _ ?_)
    refine (List.pairwise_lt_range (n := 5)).imp_of_mem fun {a b} ha hb hab => ?_
    exact it_lt' ⟨a, List.mem_range.1 ha⟩ ⟨b, List.mem_range.1 hb⟩ hab
  · rw [h]
    unfold wants
    rw [List.mem_map]
    constructor
    · rintro ⟨c, hc, rfl⟩
      have := List.mem_filter.1 hc
      exact ⟨c, List.mem_range.1 this.1, this.2, rfl⟩
    · rintro ⟨c, hc, hi, rfl⟩
      exact ⟨c, List.mem_filter.2 ⟨List.mem_range.2 hc, hi⟩, rfl⟩
theorem set_one (x : ByteArray) : SetIs [x] [x] := ⟨List.pairwise_singleton _ _, fun _ => Iff.rfl⟩
theorem set_nil : SetIs [] [] := ⟨List.Pairwise.nil, fun _ => Iff.rfl⟩
theorem isOf_kind {t : Int} {s : List S70} {f : List S34} {text : ByteArray} {sum : Int} {inn : List Bool} (h : Alone t s f text sum inn) (v : Int) (hv : v ≠ 0) : f.filter (isOf K v) = f.filter fun x => x.f2 == v := by
  refine List.filter_congr fun x hx => ?_
  unfold isOf
  rw [decide_eq_true (h.key x hx), decide_eq_false hv, Bool.true_and, Bool.false_or]
theorem Alone_end {t : Int} {s : List S70} {f : List S34} {text : ByteArray} {sum : Int} {inn : List Bool} (h : Alone t s f text sum inn) (ht : 0 ≤ t ∧ t ≤ 40) :
    Tot (fun k => deaddroplaw10_ReadAlone.l1 k text sum inn (wants inn 5) 5 s f) (fun r => r = true) := by
  have hfl := h.good.flen ht.1
  have b := h.bound
  have j3 : ∀ b : Bool, b = true → Tot (fun k => deaddroplaw10_ReadAlone.j3 k sum (wants inn 5) b s f) (fun r => r = true) := by
    intro b hb
    subst hb
    refine Tot.step ?_
    simp only [deaddroplaw10_ReadAlone.j3]
    rw [← K_is]
    refine Tot.pos trivial (Tot.bind (Members_tot s f K (by omega)) fun m hm => ?_)
    rw [isOf_kind h 2 (by decide)] at hm
    have hw : SetIs ((f.filter fun x => x.f2 == 2).map (·.f3)) (wants inn 5) := by
      refine wants_set inn _ fun x => ?_
      rw [List.mem_map]
      constructor
      · rintro ⟨y, hy, rfl⟩
        have hy := List.mem_filter.1 hy
        have h2 : y.f2 = 2 := beq_iff_eq.1 hy.2
        obtain ⟨c, hc, h3⟩ := h.mem y hy.1 h2
        exact ⟨c, hc, (h.inn c hc).2 ⟨y, hy.1, h2, h3⟩, h3⟩
      · rintro ⟨c, hc, hi, rfl⟩
        obtain ⟨y, hy, h2, h3⟩ := (h.inn c hc).1 hi
        exact ⟨y, List.mem_filter.2 ⟨hy, by rw [h2]; rfl⟩, h3⟩
    have hm := hm.uniq hw (fun _ => Iff.rfl)
    subst hm
    refine Tot.bind (Same_self _ ?_) fun r hr => Tot.pos hr (Tot.bind (Count_tot s f K (by omega)) fun c hc => Tot.pos ?_ (Tot.bind awake_tot fun r hr => Tot.now hr))
    · unfold wants
      rw [List.length_map]
      have := List.length_filter_le (fun c => inn.getD c false) (List.range 5)
      rw [List.length_range] at this
      omega
    · rw [hc, isOf_kind h 3 (by decide)]
      rcases h.cnt with hx | ⟨hx, hs⟩
      · obtain ⟨x, hx, hx4⟩ := List.map_eq_singleton_iff.1 hx
        rw [hx]
        show wrap64 (0 + x.f4) = sum
        rw [hx4, Int.zero_add, wr (by omega)]
      · rw [hx, hs]; rfl
  refine Tot.step ?_
  simp only [deaddroplaw10_ReadAlone.l1]
  rw [← K_is]
  refine Tot.neg (by decide) (Tot.bind (Texts_tot s f K (by omega)) fun l hl => ?_)
  rw [isOf_kind h 1 (by decide), h.reg] at hl
  refine Tot.ite (fun he => ?_) (fun he => ?_)
  · rw [if_pos he] at hl
    have := hl.uniq set_nil (fun _ => Iff.rfl)
    subst this
    exact Tot.pos rfl (j3 _ rfl)
  · rw [if_neg he] at hl
    have := hl.uniq (set_one text) (fun _ => Iff.rfl)
    subst this
    have e0 : rdOf ByteArray.empty [text] 0 = text := rfl
    rw [e0]
    exact Tot.pos rfl (Tot.pos (by simp) (j3 _ (beq_self_eq_true _)))
theorem Alone_l1 {t : Int} {s : List S70} {f : List S34} {text : ByteArray} {sum : Int} {inn : List Bool} (h : Alone t s f text sum inn) (ht : 0 ≤ t ∧ t ≤ 40) :
    ∀ (m c : Nat), 5 - c = m → c ≤ 5 → Tot (fun k => deaddroplaw10_ReadAlone.l1 k text sum inn (wants inn c) (c : Int) s f) (fun r => r = true) := by
  intro m
  induction m with
  | zero =>
    intro c hm hc
    have : c = 5 := by omega
    subst this
    exact Alone_end h ht
  | succ m ih =>
    intro c hm hc
    have next := ih (c + 1) (by omega) (by omega)
    rw [wants_succ] at next
    have hl := h.len
    have hwl : (wants inn c).length ≤ c := by
      unfold wants
      rw [List.length_map]
      have := List.length_filter_le (fun c => inn.getD c false) (List.range c)
      rw [List.length_range] at this
      exact this
    have hrd : rdOf false inn (c : Int) = inn.getD c false := by unfold rdOf; rw [Int.toNat_natCast]
    have hit : strOfNums [(wrap64 (97 + (c : Int))) % 256] = it c := by
      unfold it
      rw [wr (by omega)]
      have : (97 + (c : Int)) % 256 = 97 + (c : Int) := by omega
      rw [this]
    refine Tot.step ?_
    simp only [deaddroplaw10_ReadAlone.l1]
    rw [wn (by omega), hrd, hit]
    refine Tot.pos (by omega) (Tot.pos (by omega) (Tot.pos (by omega) (Tot.ite (fun hi => Tot.pos (by omega) ?_) (fun hi => ?_))))
    · rw [if_pos hi] at next
      exact next
    · rw [if_neg hi, List.append_nil] at next
      exact next
theorem Alone_l0 (ns : List Int) (hns : ∀ x, x ∈ ns → ByteIn x) (hl : ns.length ≤ 80) :
    ∀ (m t : Nat) (s : List S70) (f : List S34) (text : ByteArray) (sum : Int) (inn : List Bool), 40 - t = m → t ≤ 40 → Alone (t : Int) s f text sum inn → Tot (fun k => deaddroplaw10_ReadAlone.l0 k ns text sum inn ((2 * t : Nat) : Int) s f) (fun r => r = true) := by
  intro m
  induction m with
  | zero =>
    intro t s f text sum inn hm ht h
    have w1 : Aside0 (wrap64 (((2 * t : Nat) : Int) + 1) = ((2 * t + 1 : Nat) : Int)) := ⟨by rw [wr (by omega)]; omega⟩
    refine Tot.step ?_
    simp only [deaddroplaw10_ReadAlone.l0]
    rw [w1.out]
    exact Tot.neg (by omega) (Alone_l1 h (by omega) _ 0 rfl (by decide))
  | succ m ih =>
    intro t s f text sum inn hm ht h
    have w1 : Aside0 (wrap64 (((2 * t : Nat) : Int) + 1) = ((2 * t + 1 : Nat) : Int)) := ⟨by rw [wr (by omega)]; omega⟩
    have w2 : Aside0 (wrap64 (((2 * t : Nat) : Int) + 2) = ((2 * (t + 1) : Nat) : Int)) := ⟨by rw [wr (by omega)]; omega⟩
    refine Tot.step ?_
    simp only [deaddroplaw10_ReadAlone.l0]
    rw [w1.out, w2.out]
    refine Tot.ite (fun hlt => ?_) (fun _ => Alone_l1 h (by omega) _ 0 rfl (by decide))
    have l0 : 2 * t < ns.length := by omega
    have l1 : 2 * t + 1 < ns.length := by omega
    rw [rdI l0, rdI l1]
    have hh := Aside0.mk h
    have hlen := h.len
    have hbound := h.bound
    have hgood := h.good
    clear h
    obtain ⟨kind, n, c, hc, k1, k2, n1, n2, hop⟩ := Op_alone (hns _ (List.getElem_mem l0)) (hns _ (List.getElem_mem l1))
    rw [hop]
    clear hop
    simp only [Option.bind_some]
    have hks : K.size ≤ 40 := by decide
    have his : (it c).size ≤ 200 := by rw [show (it c).size = 1 from rfl]; decide
    have f1 : Aside0 (Good (t : Int) s f) := ⟨hgood⟩
    refine Tot.pos (by omega) (Tot.pos (by omega) (Tot.pos (by omega) (Tot.bind (Do_tot (t : Int) f1.out (by omega) (by omega) 2 kind K (it c) n (by decide) ⟨k1, k2⟩ hks his (by omega)) fun D hD => ?_)))
    clear hgood
    have go : ∀ {text' : ByteArray} {sum' : Int} {inn' : List Bool} {j : List S70 × List S34}, Alone ((t : Int) + 1) j.1 j.2 text' sum' inn' → Tot (fun k => deaddroplaw10_ReadAlone.l0 k ns text' sum' inn' ((2 * (t + 1) : Nat) : Int) j.1 j.2) (fun r => r = true) := fun hA => ih (t + 1) _ _ _ _ _ (by omega) (by omega) (hA.mono (by omega))
    refine Tot.ite (fun hE => ?_) (fun hE => go (j := (s, f)) (hh.out.mono (by omega)))
    obtain ⟨L, hL, hr | hr | hr⟩ := hD
    · rw [hr.1] at hE; cases hE
    · rw [hr.1] at hE; cases hE
    refine Tot.bind (Join_tot ((t : Int) + 1) (f1.out.mono (by omega)) hr.2.1 (by omega) (by omega)) fun j hj => ?_
    have hj2 := hj.2.2.trans (alone_join f1.out hh.out.dev hL hr.2.2)
    have hg := hj.1
    rw [hj2] at hg ⊢
    have hst := alone_step hh.out (by omega) hc ⟨k1, k2⟩ ⟨n1, n2⟩ hg
    clear hg hj2 hj hr hL hE f1
    generalize hf' : (f.filter (fun x => !goesB 2 kind K (it c) x) ++ (if kind = 3 ∨ kind = 5 then [] else [newFact 2 kind K (it c) (sumOf n (f.filter (goesB 2 kind K (it c)))) L])) = f' at *
    clear hf'
    have j1 : ∀ b : Bool, (b = true ↔ kind = 2 ∨ kind = 3) → kind ≠ 1 → Tot (fun k => deaddroplaw10_ReadAlone.j1 k ns text sum inn ((2 * t : Nat) : Int) kind b j.1 f' kind K (it c) n) (fun r => r = true) := by
      intro b hb h1
      refine Tot.step ?_
      simp only [deaddroplaw10_ReadAlone.j1]
      rw [w2.out]
      rw [if_neg h1] at hst
      have hbt := it_bt' ⟨c, hc⟩
      have hbt : ((bt (it c) 0) - 97) % 256 = (c : Int) := hbt
      rw [hbt]
      refine Tot.ite (fun h2 => ?_) (fun h2 => ?_)
      · have hk := hb.1 h2
        rw [if_pos hk, if_neg (show ¬ kind = 5 by omega), if_neg (show ¬ kind = 4 by omega), if_neg (show ¬ kind = 5 by omega)] at hst
        refine Tot.pos (by rw [show (it c).size = 1 from rfl]; decide) (Tot.pos (by omega) (Tot.pos (by omega) ?_))
        rw [Int.toNat_natCast]
        exact go (j := (j.1, f')) hst
      · have hk : ¬ (kind = 2 ∨ kind = 3) := fun hx => h2 (hb.2 hx)
        rw [if_neg hk] at hst
        refine Tot.ite (fun h4 => ?_) (fun h4 => ?_)
        · rw [if_neg (show ¬ kind = 5 by omega), if_pos h4, if_neg (show ¬ kind = 5 by omega)] at hst
          exact go (j := (j.1, f')) hst
        · have h5 : kind = 5 := by omega
          rw [if_pos h5, if_neg h4, if_pos h5, if_pos h5] at hst
          exact Tot.pos (by decide) (go (j := (j.1, f')) hst)
    refine Tot.ite (fun h1 => ?_) (fun h1 => Tot.ite (fun h2 => j1 _ (by simp [h2]) h1) (fun h2 => j1 _ (by simp [h2]) h1))
    rw [if_pos h1, if_neg (show ¬ (kind = 2 ∨ kind = 3) by omega), if_neg (show ¬ kind = 5 by omega), if_neg (show ¬ kind = 4 by omega), if_neg (show ¬ kind = 5 by omega)] at hst
    exact go (j := (j.1, f')) hst
theorem ReadAlone_pure (ns : List Int) (hns : ∀ x, x ∈ ns → ByteIn x) : Tot (fun k => deaddroplaw10_ReadAlone.f k ns) (fun r => r = true) := by
  unfold deaddroplaw10_ReadAlone.f
  refine Tot.ite (fun h => Tot.bind awake_tot fun r hr => Tot.now hr) (fun h => Tot.pos (by decide) ?_)
  exact Alone_l0 ns hns (by omega) _ 0 _ _ _ _ _ rfl (Nat.zero_le _) Alone.nil
end Go.Proofs.Ytaonemedoikieaa.HR
