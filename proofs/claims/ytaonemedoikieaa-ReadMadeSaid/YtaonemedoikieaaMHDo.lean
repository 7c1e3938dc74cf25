-- Deeds, in plain Lean (own work): Last, Of, goes, Do.
import Derived.Test.YtaonemedoikieaaMx8
import Derived.Test.YtaonemedoikieaaMHJoin
namespace Go.Proofs.Ytaonemedoikieaa.HR
open Go.RowKit Go.Proofs.Ytaonemedoikieaa.M Go.Proofs.YtaonemedoikieaaW.PrintWords Go.Proofs.YtaonemedoikieaaW.PrintLast Go.Proofs.Ytaonemedoikieaa.HT

theorem rd32 {l : List S32} {i : Nat} (h : i < l.length) : rd_T32 l (i : Int) = l[i] := by
  unfold rd_T32
  rw [Int.toNat_natCast, List.getD_eq_getElem?_getD, List.getElem?_eq_getElem h]; rfl
theorem wn {i : Nat} (h : i < 4611686018427387904) : wrap64 ((i : Int) + 1) = ((i + 1 : Nat) : Int) := by rw [wr (by omega)]; omega
/-- The last number that was seen of a device. -/
def LastIs (B : Int) (l : List S70) (d r : Int) : Prop := 0 ≤ r ∧ r ≤ B ∧ ∀ x, x ∈ l → x.f0 = d → x.f2 ≤ r
theorem Last_l0 (B : Int) (l : List S70) (d : Int) (hR : RunsIn B l) (hl : l.length ≤ 1000000) : ∀ (m i : Nat) (a : Int), l.length - i = m → i ≤ l.length → LastIs B (l.take i) d a → Tot (fun k => deaddropref7_Last.l0 k l d a (i : Int)) (LastIs B l d) := by
  intro m
  induction m with
  | zero =>
    intro i a hm hi h
    rw [List.take_of_length_le (by omega)] at h
    refine Tot.step ?_
    simp only [deaddropref7_Last.l0]
    exact Tot.neg (by omega) (Tot.now h)
  | succ m ih =>
    intro i a hm hi h
    have hlt : i < l.length := by omega
    have hri := hR _ (List.getElem_mem hlt)
    refine Tot.step ?_
    simp only [deaddropref7_Last.l0]
    rw [rd70 hlt, wn (by omega)]
    refine Tot.pos (by omega) (Tot.pos (by omega) (Tot.ite (fun he => ih (i + 1) _ (by omega) (by omega) ?_) (fun he => ih (i + 1) _ (by omega) (by omega) ?_)))
    · refine ⟨by have := h.1; unfold mx; omega, by have := h.2.1; unfold mx; omega, fun x hx hd => ?_⟩
      rw [List.take_succ_eq_append_getElem hlt] at hx
      rcases List.mem_append.1 hx with hx | hx
      · have := h.2.2 x hx hd
        unfold mx; omega
      · have : x = l[i] := by simpa using hx
        subst this
        unfold mx; omega
    · refine ⟨h.1, h.2.1, fun x hx hd => ?_⟩
      rw [List.take_succ_eq_append_getElem hlt] at hx
      rcases List.mem_append.1 hx with hx | hx
      · exact h.2.2 x hx hd
      · have : x = l[i] := by simpa using hx
        subst this
        exact absurd hd he
theorem Last_tot (B : Int) (l : List S70) (d : Int) (hR : RunsIn B l) (hB : 0 ≤ B) (hl : l.length ≤ 1000000) : Tot (fun k => deaddropref7_Last.f k l d) (LastIs B l d) :=
  Last_l0 B l d hR hl _ 0 0 rfl (Nat.zero_le _) ⟨Int.le_refl _, hB, fun x hx => by simp at hx⟩

/-! Of -/
def DotIn (B : Int) (x : S32) : Prop := 0 ≤ x.f0 ∧ x.f0 < 8 ∧ 1 ≤ x.f1 ∧ x.f1 ≤ B
theorem May_one (B : Int) (x : S32) (h : DotIn B x) (hB : B ≤ 1000000) : Tot (fun k => deaddropref7_MayRuns.f k [(⟨x.f0, x.f1, x.f1⟩ : S70)]) (fun r => r = true) := by
  obtain ⟨h1, h2, h3, h4⟩ := h
  have hr : rd_T70 [(⟨x.f0, x.f1, x.f1⟩ : S70)] 0 = ⟨x.f0, x.f1, x.f1⟩ := rfl
  refine Tot.step ?_
  simp only [deaddropref7_MayRuns.f]
  refine Tot.step ?_
  simp only [deaddropref7_MayRuns.l0]
  rw [hr]
  refine Tot.pos (by simp) (Tot.pos (by decide) (Tot.neg (by show ¬ x.f0 < 0; omega) (Tot.neg (by show ¬ x.f0 ≥ 8; omega) (Tot.neg (by show ¬ x.f1 < 1; omega) (Tot.neg (by show ¬ x.f1 < x.f1; omega) (Tot.step ?_))))))
  simp only [deaddropref7_MayRuns.j1]
  refine Tot.neg (by simp; omega) (Tot.neg (by decide) (Tot.step ?_))
  simp only [deaddropref7_MayRuns.l0]
  exact Tot.neg (by rw [wr (by decide)]; simp) (Tot.now rfl)
def dotAt (l : List S32) (d n : Int) : Bool := l.any fun x => decide (x.f0 = d) && decide (x.f1 = n)
theorem dotAt_iff (l : List S32) (d n : Int) : dotAt l d n = true ↔ ∃ x, x ∈ l ∧ x.f0 = d ∧ x.f1 = n := by simp [dotAt]
/-- What Of gives. -/
structure OfIs (B : Int) (l : List S32) (out : List S70) : Prop where
  ok : ∀ r, r ∈ out → 0 ≤ r.f0 ∧ r.f0 < 8 ∧ 1 ≤ r.f1 ∧ r.f1 ≤ r.f2 ∧ r.f2 ≤ B
  len : (out.length : Int) ≤ 8 * (B + 1)
  got : ∀ d n : Int, 0 ≤ d → d < 8 → has out d n = dotAt l d n
theorem Of_l0 (B : Int) (l : List S32) (hB0 : 0 ≤ B) (hB1 : B ≤ 10000) (hd : ∀ x, x ∈ l → DotIn B x) (hl : l.length ≤ 1000000) : ∀ (m i : Nat) (out : List S70), l.length - i = m → i ≤ l.length → OfIs B (l.take i) out → Tot (fun k => deaddropref7_Of.l0 k l out (i : Int)) (OfIs B l) := by
  intro m
  induction m with
  | zero =>
    intro i out hm hi h
    rw [List.take_of_length_le (by omega)] at h
    refine Tot.step ?_
    simp only [deaddropref7_Of.l0]
    exact Tot.neg (by omega) (Tot.now h)
  | succ m ih =>
    intro i out hm hi h
    have hlt : i < l.length := by omega
    have hx := hd _ (List.getElem_mem hlt)
    have hlen := h.len
    refine Tot.step ?_
    simp only [deaddropref7_Of.l0]
    rw [rd32 hlt, wn (by omega)]
    simp only [Option.bind_some]
    refine Tot.pos (by omega) (Tot.pos (by omega) (Tot.bind (May_one B l[i] hx (by omega)) fun t ht => Tot.pos ht (Tot.bind (Union_tot B out [(⟨l[i].f0, l[i].f1, l[i].f1⟩ : S70)] (by omega) (by simp) (fun r hr => (h.ok r hr).2.2) (fun r hr => ?_) hB0 (by omega)) fun u hu => ih (i + 1) u (by omega) (by omega) ⟨hu.ok, hu.len, fun d n h1 h2 => ?_⟩)))
    · have : r = ⟨l[i].f0, l[i].f1, l[i].f1⟩ := by simpa using hr
      subst this
      obtain ⟨_, _, h3, h4⟩ := hx
      exact ⟨h3, Int.le_refl _, h4⟩
    · rw [hu.got d n h1 h2]
      unfold cov
      rw [h.got d n h1 h2, List.take_succ_eq_append_getElem hlt]
      unfold dotAt has
      rw [List.any_append]
      congr 1
      simp only [List.any_cons, List.any_nil, Bool.or_false, inRun]
      rw [Bool.eq_iff_iff]
      simp only [Bool.and_eq_true, decide_eq_true_eq]
      constructor
      · rintro ⟨⟨a, b⟩, c⟩
        exact ⟨a, by omega⟩
      · rintro ⟨a, b⟩
        exact ⟨⟨a, by omega⟩, by omega⟩
theorem Of_tot (B : Int) (l : List S32) (hB0 : 0 ≤ B) (hB1 : B ≤ 10000) (hd : ∀ x, x ∈ l → DotIn B x) (hl : l.length ≤ 1000000) : Tot (fun k => deaddropref7_Of.f k l) (OfIs B l) :=
  Of_l0 B l hB0 hB1 hd hl _ 0 [] rfl (Nat.zero_le _) ⟨fun r hr => (by cases hr), by simp; omega, fun d n _ _ => rfl⟩

/-! goes, Do -/
def goesB (dev kind : Int) (key item : ByteArray) (f : S34) : Bool :=
  decide (f.f1.toList = key.toList) && (if kind = 1 then f.f2 == 1 else if kind = 2 ∨ kind = 3 then (f.f2 == 2 && f.f3.toList == item.toList) else if kind = 4 then (f.f2 == 3 && f.f0.f0 == dev) else true)
theorem goes_tot (dev kind : Int) (key item : ByteArray) (n : Int) (f : S34) : Tot (fun k => deaddropref7_goes.f k f.f0.f0 f.f0.f1 f.f1 f.f2 f.f3 f.f4 dev kind key item n) (fun r => r = goesB dev kind key item f) := by
  unfold deaddropref7_goes.f
  refine Tot.ite (fun h => ?_) (fun h => Tot.now (by unfold goesB; rw [decide_eq_false h]; rfl))
  have e : goesB dev kind key item f = (if kind = 1 then f.f2 == 1 else if kind = 2 ∨ kind = 3 then (f.f2 == 2 && f.f3.toList == item.toList) else if kind = 4 then (f.f2 == 3 && f.f0.f0 == dev) else true) := by
    unfold goesB; rw [decide_eq_true h, Bool.true_and]
  rw [e]
  refine Tot.ite (fun h1 => Tot.now (by rw [if_pos h1])) (fun h1 => ?_)
  rw [if_neg h1]
  have jt : ∀ b : Bool, (b = true ↔ kind = 2 ∨ kind = 3) → Tot (fun k => deaddropref7_goes.j0 k dev kind b f.f0.f0 f.f0.f1 f.f1 f.f2 f.f3 f.f4 kind key item n) (fun r => r = (if kind = 2 ∨ kind = 3 then (f.f2 == 2 && f.f3.toList == item.toList) else if kind = 4 then (f.f2 == 3 && f.f0.f0 == dev) else true)) := by
    intro b hb
    refine Tot.step ?_
    simp only [deaddropref7_goes.j0]
    refine Tot.ite (fun h2 => ?_) (fun h2 => ?_)
    · rw [if_pos (hb.1 h2)]
      exact Tot.ite (fun h3 => Tot.now (by simp [h3])) (fun h3 => Tot.now (by simp [h3]))
    · rw [if_neg (fun hx => h2 (hb.2 hx))]
      refine Tot.ite (fun h3 => ?_) (fun h3 => Tot.now (by rw [if_neg h3]))
      rw [if_pos h3]
      exact Tot.ite (fun h4 => Tot.now (by simp [h4])) (fun h4 => Tot.now (by simp [h4]))
  refine Tot.ite (fun h2 => jt _ ?_) (fun h2 => jt _ ?_)
  · simp [h2]
  · simp [h2]
/-- The new fact of a deed, and what it sums up. -/
def sumOf (n : Int) (l : List S34) : Int := l.foldl (fun a f => wrap64 (a + f.f4)) n
def newFact (dev kind : Int) (key item : ByteArray) (sum L : Int) : S34 := ⟨⟨dev, L + 1⟩, key, if kind = 4 then 3 else kind, if kind = 4 then ⟨#[]⟩ else item, if kind = 4 then sum else 0⟩
/-- What a deed gives. -/
structure DoIs (B : Int) (s : List S70) (f : List S34) (dev kind : Int) (key item : ByteArray) (n : Int) (r : List S70 × List S34 × Int) : Prop where
  last : ∃ L, LastIs B s dev L ∧
    ((r = ([], [], 2) ∧ f.filter (goesB dev kind key item) = [] ∧ (kind = 3 ∨ kind = 5)) ∨
     (r = ([], [], 4) ∧ kind = 4 ∧ (sumOf n (f.filter (goesB dev kind key item)) < -1099511627776 ∨ 1099511627776 < sumOf n (f.filter (goesB dev kind key item)))) ∨
     (r.2.2 = 0 ∧ Good (B + 1) r.1 r.2.1 ∧
       ((kind = 3 ∨ kind = 5) ∧ r.2.1 = [] ∧ (∀ d m : Int, 0 ≤ d → d < 8 → HR.has r.1 d m = dotAt ((f.filter (goesB dev kind key item)).map (·.f0)) d m) ∨
        (¬ (kind = 3 ∨ kind = 5)) ∧ r.2.1 = [newFact dev kind key item (sumOf n (f.filter (goesB dev kind key item))) L] ∧ (∀ d m : Int, 0 ≤ d → d < 8 → HR.has r.1 d m = dotAt ((f.filter (goesB dev kind key item)).map (·.f0) ++ [⟨dev, L + 1⟩]) d m))))
theorem dotAt_mem {l : List S32} {x : S32} (h : x ∈ l) : dotAt l x.f0 x.f1 = true := (dotAt_iff _ _ _).2 ⟨x, h, rfl, rfl⟩
theorem Do_j7 (B : Int) {s : List S70} {f : List S34} (hG : Good (B + 1) s f) (hB0 : 0 ≤ B) (hB1 : B ≤ 45) (dots : List S32) (facts : List S34) (hd : ∀ x, x ∈ dots → DotIn (B + 1) x) (hl : dots.length ≤ 100000) (hs : Sorted facts) (hf : ∀ x, x ∈ facts → x.f0 ∈ dots) :
    Tot (fun k => deaddropref7_Do.j6 k dots s f facts) (fun r => r.2.2 = 0 ∧ r.2.1 = facts ∧ Good (B + 1) r.1 facts ∧ ∀ d m : Int, 0 ≤ d → d < 8 → HR.has r.1 d m = dotAt dots d m) := by
  refine Tot.step ?_
  simp only [deaddropref7_Do.j6]
  refine Tot.bind (Of_tot (B + 1) dots (by omega) (by omega) hd (by omega)) fun u hu => ?_
  have hg : Good (B + 1) u facts := ⟨hu.ok, hu.len, hs, fun x hx => by
    have := hd _ (hf x hx)
    rw [hu.got _ _ this.1 this.2.1]
    exact dotAt_mem (hf x hx)⟩
  refine Tot.bind (Join_tot (B + 1) hG hg (by omega) (by omega)) fun j hj => Tot.neg ?_ (Tot.now ⟨rfl, rfl, hg, hu.got⟩)
  have := hj.1.flen (by omega)
  omega
theorem Do_tail (B : Int) {s : List S70} {f : List S34} (hG : Good B s f) (hB0 : 0 ≤ B) (hB1 : B ≤ 45) (dev kind : Int) (key item : ByteArray) (n : Int) (hdev : 0 ≤ dev ∧ dev < 8) :
    ∀ b : Bool, (b = true ↔ f.filter (goesB dev kind key item) = [] ∧ (kind = 3 ∨ kind = 5)) →
    Tot (fun k => deaddropref7_Do.j3 k dev ((f.filter (goesB dev kind key item)).map (·.f0)) (sumOf n (f.filter (goesB dev kind key item))) b s f kind key item n) (DoIs B s f dev kind key item n) := by
  intro b hb
  generalize hgl : f.filter (goesB dev kind key item) = gl at *
  have hgm : ∀ x, x ∈ gl → x ∈ f := fun x hx => by rw [← hgl] at hx; exact (List.mem_filter.1 hx).1
  have hglen : gl.length ≤ f.length := by rw [← hgl]; exact List.length_filter_le _ _
  have hfl := hG.flen hB0
  have hsl := hG.len
  generalize hsum : sumOf n gl = sum at *
  have hG1 : Good (B + 1) s f := hG.mono (by omega)
  have hdots : ∀ x, x ∈ gl.map (·.f0) → DotIn (B + 1) x := by
    intro x hx
    obtain ⟨y, hy, rfl⟩ := List.mem_map.1 hx
    have := hG1.dot y (hgm y hy)
    exact ⟨this.1, this.2.1, this.2.2.1, this.2.2.2⟩
  have h2g : ∃ L, LastIs B s dev L := (Last_tot B s dev hG.runs hB0 (by omega)).imp fun r h => h.2
  obtain ⟨L0, hL0⟩ := h2g
  refine Tot.step ?_
  simp only [deaddropref7_Do.j3]
  refine Tot.ite (fun h => Tot.now ⟨L0, hL0, .inl ⟨rfl, ?_⟩⟩) (fun h => ?_)
  · rw [hgl]; exact hb.1 h
  have hnb : ¬ (gl = [] ∧ (kind = 3 ∨ kind = 5)) := fun hx => h (hb.2 hx)
  have j4 : ∀ c : Bool, (c = true ↔ ¬ (kind = 3 ∨ kind = 5)) → Tot (fun k => deaddropref7_Do.j4 k dev (gl.map (·.f0)) sum c s f kind key item n) (DoIs B s f dev kind key item n) := by
    intro c hc
    refine Tot.step ?_
    simp only [deaddropref7_Do.j4]
    refine Tot.ite (fun h4 => Tot.bind (Last_tot B s dev hG.runs hB0 (by omega)) fun L hL => ?_) (fun h4 => ?_)
    · have hwL : wrap64 (L + 1) = L + 1 := wr (by have := hL.1; have := hL.2.1; omega)
      rw [hwL]
      have hk := hc.1 h4
      have j5 : ∀ (x : S34), x = newFact dev kind key item sum L → (x.f4 = sum ∧ kind = 4 ∨ x.f4 = 0) → Tot (fun k => deaddropref7_Do.j5 k (gl.map (·.f0)) s f x.f0.f0 x.f0.f1 x.f1 x.f2 x.f3 x.f4) (DoIs B s f dev kind key item n) := by
        intro x hx hx4
        have e0 : x.f0 = ⟨dev, L + 1⟩ := by rw [hx]; rfl
        have e1 : x.f0.f1 = L + 1 := by rw [e0]
        have e2 : x.f0.f0 = dev := by rw [e0]
        refine Tot.step ?_
        simp only [deaddropref7_Do.j5]
        have big : (x.f4 < -1099511627776 ∨ 1099511627776 < x.f4) → DoIs B s f dev kind key item n ([], [], 4) := by
          intro hbig
          refine ⟨L, hL, .inr (.inl ⟨rfl, ?_⟩)⟩
          rw [hgl, hsum]
          rcases hx4 with ⟨hx4, hk4⟩ | hx4
          · rw [hx4] at hbig; exact ⟨hk4, hbig⟩
          · omega
        refine Tot.neg (by have := hL.2.1; omega) (Tot.ite (fun hn1 => Tot.now (big (.inl hn1))) (fun hn1 => Tot.ite (fun hn2 => Tot.now (big (.inr hn2))) (fun hn2 => Tot.pos (by simp; omega) ?_)))
        rw [eta34, e1, e2]
        refine Tot.mono (Do_j7 B hG1 hB0 hB1 (gl.map (·.f0) ++ [(⟨dev, L + 1⟩ : S32)]) [x] ?_ (by simp; omega) (List.pairwise_singleton _ _) ?_) fun r hr => DoIs.mk ⟨L, hL, .inr (.inr ⟨hr.1, ?_, .inr ⟨hk, ?_, ?_⟩⟩)⟩
        · intro y hy
          rcases List.mem_append.1 hy with hy | hy
          · exact hdots y hy
          · have : y = ⟨dev, L + 1⟩ := by simpa using hy
            subst this
            exact ⟨hdev.1, hdev.2, by have := hL.1; show 1 ≤ L + 1; omega, by have := hL.2.1; show L + 1 ≤ B + 1; omega⟩
        · intro y hy
          have : y = x := by simpa using hy
          subst this
          rw [e0]
          simp
        · rw [hr.2.1]; exact hr.2.2.1
        · rw [hr.2.1, hgl, hsum, hx]
        · rw [hgl]; exact hr.2.2.2
      refine Tot.ite (fun h5 => ?_) (fun h5 => ?_)
      · exact j5 ⟨⟨dev, L + 1⟩, key, 3, ⟨#[]⟩, sum⟩ (by unfold newFact; rw [if_pos h5, if_pos h5, if_pos h5]) (.inl ⟨rfl, h5⟩)
      · exact j5 ⟨⟨dev, L + 1⟩, key, kind, item, 0⟩ (by unfold newFact; rw [if_neg h5, if_neg h5, if_neg h5]) (.inr rfl)
    · have hk : kind = 3 ∨ kind = 5 := by
        rcases Decidable.em (kind = 3 ∨ kind = 5) with hx | hx
        · exact hx
        · exact absurd (hc.2 hx) h4
      refine Tot.mono (Do_j7 B hG1 hB0 hB1 (gl.map (·.f0)) [] hdots (by simp; omega) List.Pairwise.nil (fun x hx => by cases hx)) fun r hr => DoIs.mk ⟨L0, hL0, .inr (.inr ⟨hr.1, ?_, .inl ⟨hk, hr.2.1, ?_⟩⟩)⟩
      · rw [hr.2.1]; exact hr.2.2.1
      · rw [hgl]; exact hr.2.2.2
  refine Tot.ite (fun h3 => j4 false ?_) (fun h3 => j4 _ ?_)
  · simp [h3]
  · simp [h3]
theorem Do_l0 (B : Int) {s : List S70} {f : List S34} (hG : Good B s f) (hB0 : 0 ≤ B) (hB1 : B ≤ 45) (dev kind : Int) (key item : ByteArray) (n : Int) (hdev : 0 ≤ dev ∧ dev < 8) :
    ∀ (m i : Nat), f.length - i = m → i ≤ f.length → Tot (fun k => deaddropref7_Do.l0 k dev (((f.take i).filter (goesB dev kind key item)).map (·.f0)) (sumOf n ((f.take i).filter (goesB dev kind key item))) (i : Int) s f kind key item n) (DoIs B s f dev kind key item n) := by
  have hfl := hG.flen hB0
  intro m
  induction m with
  | zero =>
    intro i hm hi
    rw [List.take_of_length_le (by omega)]
    refine Tot.step ?_
    simp only [deaddropref7_Do.l0]
    refine Tot.neg (by omega) (Tot.ite (fun h => ?_) (fun h => Do_tail B hG hB0 hB1 dev kind key item n hdev false ?_))
    · have he : f.filter (goesB dev kind key item) = [] := by
        rw [List.length_map] at h
        exact List.length_eq_zero_iff.1 (by omega)
      exact Tot.ite (fun h3 => Do_tail B hG hB0 hB1 dev kind key item n hdev true ⟨fun _ => ⟨he, .inl h3⟩, fun _ => rfl⟩) (fun h3 => Do_tail B hG hB0 hB1 dev kind key item n hdev _ ⟨fun hx => ⟨he, .inr (by simpa using hx)⟩, fun hx => by rcases hx.2 with hx | hx; exact absurd hx h3; simpa using hx⟩)
    · simp only [Bool.false_eq_true, false_iff]
      rintro ⟨hx, _⟩
      rw [hx] at h
      exact h rfl
  | succ m ih =>
    intro i hm hi
    have hlt : i < f.length := by omega
    have next := ih (i + 1) (by omega) (by omega)
    have hfi : ((f.take i).filter (goesB dev kind key item)).length ≤ i := by
      have := List.length_filter_le (goesB dev kind key item) (f.take i)
      rw [List.length_take] at this
      omega
    refine Tot.step ?_
    simp only [deaddropref7_Do.l0]
    rw [rd34 hlt, wn (by omega)]
    refine Tot.pos (by omega) (Tot.pos (by omega) (Tot.bind (goes_tot dev kind key item n f[i]) fun t ht => ?_))
    subst ht
    rw [List.take_succ_eq_append_getElem hlt, List.filter_append] at next
    refine Tot.ite (fun hg => Tot.pos (by rw [List.length_map]; omega) ?_) (fun hg => ?_)
    · rw [List.filter_cons_of_pos hg] at next
      simp only [List.filter_nil, List.map_append, List.map_cons, List.map_nil] at next
      have : sumOf n ((f.take i).filter (goesB dev kind key item) ++ [f[i]]) = wrap64 (sumOf n ((f.take i).filter (goesB dev kind key item)) + f[i].f4) := by simp [sumOf]
      rw [this] at next
      exact next
    · rw [List.filter_cons_of_neg hg] at next
      simp only [List.filter_nil, List.append_nil] at next
      exact next
theorem Do_tot (B : Int) {s : List S70} {f : List S34} (hG : Good B s f) (hB0 : 0 ≤ B) (hB1 : B ≤ 45) (dev kind : Int) (key item : ByteArray) (n : Int) (hdev : 0 ≤ dev ∧ dev < 8) (hk : 1 ≤ kind ∧ kind ≤ 5) (hkey : key.size ≤ 40) (hitem : item.size ≤ 200) (hn : -1000000 ≤ n ∧ n ≤ 1000000) :
    Tot (fun k => deaddropref7_Do.f k s f dev kind key item n) (DoIs B s f dev kind key item n) := by
  have j1 : ∀ b : Bool, b = false → Tot (fun k => deaddropref7_Do.j1 k dev b s f kind key item n) (DoIs B s f dev kind key item n) := by
    intro b hb
    refine Tot.step ?_
    simp only [deaddropref7_Do.j1]
    subst hb
    exact Tot.neg (by decide) (Do_l0 B hG hB0 hB1 dev kind key item n hdev _ 0 rfl (Nat.zero_le _))
  have j0 : ∀ b : Bool, Tot (fun k => deaddropref7_Do.j0 k dev b s f kind key item n) (DoIs B s f dev kind key item n) := by
    intro b
    refine Tot.step ?_
    simp only [deaddropref7_Do.j0]
    have hN : Tot (fun k => if kind = 4 then (if n < (-1099511627776) then none else deaddropref7_Do.j1 k dev (decide (n > 1099511627776)) s f kind key item n) else deaddropref7_Do.j1 k dev false s f kind key item n) (DoIs B s f dev kind key item n) :=
      Tot.ite (fun h => Tot.neg (by omega) (j1 _ (by simp; omega))) (fun h => j1 _ rfl)
    exact Tot.neg (by omega) (Tot.neg (by omega) (Tot.neg (by omega) (Tot.neg (by omega) (Tot.neg (by omega) (Tot.ite (fun h => Tot.neg (by omega) hN) (fun h => hN))))))
  unfold deaddropref7_Do.f
  exact Tot.ite (fun h => j0 _) (fun h => Tot.ite (fun h => j0 _) (fun h => j0 _))
end Go.Proofs.Ytaonemedoikieaa.HR
