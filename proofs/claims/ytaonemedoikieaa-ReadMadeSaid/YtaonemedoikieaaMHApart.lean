-- States to which devices come apart, in plain Lean (own work): Apart, All.
import Derived.Test.YtaonemedoikieaaMx9
import Derived.Test.YtaonemedoikieaaMx10
import Derived.Test.YtaonemedoikieaaMHFind
namespace Go.Proofs.Ytaonemedoikieaa.HR
open Go.RowKit Go.Proofs.Ytaonemedoikieaa.M Go.Proofs.YtaonemedoikieaaW.PrintWords Go.Proofs.YtaonemedoikieaaW.PrintLast Go.Proofs.Ytaonemedoikieaa.HT

theorem rd28 {l : List S28} {i : Nat} (h : i < l.length) : rd_T28 l (i : Int) = l[i] := by
  unfold rd_T28
  rw [Int.toNat_natCast, List.getD_eq_getElem?_getD, List.getElem?_eq_getElem h]; rfl
def GoodL (B : Int) (l : List S28) : Prop := l.length = 4 ∧ ∀ x, x ∈ l → Good B x.f0 x.f1
theorem GoodL.mono {B B' : Int} {l : List S28} (h : GoodL B l) (hB : B ≤ B') : GoodL B' l := ⟨h.1, fun x hx => (h.2 x hx).mono hB⟩
theorem GoodL.at_ {B : Int} {l : List S28} (h : GoodL B l) (i : Int) (h0 : 0 ≤ i) (h1 : i < 4) : Good B (rd_T28 l i).f0 (rd_T28 l i).f1 := by
  have hl := h.1
  obtain ⟨n, rfl⟩ : ∃ n : Nat, i = n := ⟨i.toNat, by omega⟩
  rw [rd28 (by omega)]
  exact h.2 _ (List.getElem_mem _)
theorem GoodL.put {B : Int} {l : List S28} (h : GoodL B l) (i : Nat) {x : S28} (hx : Good B x.f0 x.f1) : GoodL B (l.set i x) :=
  ⟨by rw [List.length_set]; exact h.1, fun y hy => by
    rcases List.mem_or_eq_of_mem_set hy with hy | hy
    · exact h.2 y hy
    · subst hy; exact hx⟩
theorem Apart_l0 (ns : List Int) (hns : ∀ x, x ∈ ns → ByteIn x) : ∀ (m t : Nat) (l : List S28), 40 - t = m → t ≤ 40 → GoodL (t : Int) l → Tot (fun k => deaddroplaw9_Apart.l0 k ns l ((3 * t : Nat) : Int)) (GoodL 40) := by
  intro m
  induction m with
  | zero =>
    intro t l hm ht h
    have w2 : Aside0 (wrap64 (((3 * t : Nat) : Int) + 2) = ((3 * t + 2 : Nat) : Int)) := ⟨by rw [wr (by omega)]; omega⟩
    have stop : ∀ b : Bool, b = false → Tot (fun k => deaddroplaw9_Apart.j1 k ns l ((3 * t : Nat) : Int) b) (GoodL 40) := by
      intro b hb
      subst hb
      refine Tot.step ?_
      simp only [deaddroplaw9_Apart.j1]
      exact Tot.neg (by decide) (Tot.now (h.mono (by omega)))
    refine Tot.step ?_
    simp only [deaddroplaw9_Apart.l0]
    exact Tot.ite (fun _ => stop _ (by simp; omega)) (fun _ => stop _ rfl)
  | succ m ih =>
    intro t l hm ht h
    have h3 : Aside0 (wrap64 (((3 * t : Nat) : Int) + 3) = ((3 * (t + 1) : Nat) : Int)) := ⟨by rw [wr (by omega)]; omega⟩
    have h2 : Aside0 (wrap64 (((3 * t : Nat) : Int) + 2) = ((3 * t + 2 : Nat) : Int)) := ⟨by rw [wr (by omega)]; omega⟩
    have h1 : Aside0 (wrap64 (((3 * t : Nat) : Int) + 1) = ((3 * t + 1 : Nat) : Int)) := ⟨by rw [wr (by omega)]; omega⟩
    have stop : Tot (fun k => deaddroplaw9_Apart.j1 k ns l ((3 * t : Nat) : Int) false) (GoodL 40) := by
      refine Tot.step ?_
      simp only [deaddroplaw9_Apart.j1]
      exact Tot.neg (by decide) (Tot.now (h.mono (by omega)))
    refine Tot.step ?_
    simp only [deaddroplaw9_Apart.l0]
    rw [h2.out]
    refine Tot.ite (fun hlt => ?_) (fun _ => stop)
    rw [decide_eq_true (show ((3 * t : Nat) : Int) < 120 by omega)]
    refine Tot.step ?_
    simp only [deaddroplaw9_Apart.j1]
    rw [h1.out, h2.out, h3.out]
    have l0 : 3 * t < ns.length := by omega
    have l1 : 3 * t + 1 < ns.length := by omega
    have l2 : 3 * t + 2 < ns.length := by omega
    rw [rdI l0, rdI l1, rdI l2]
    have b0 := hns _ (List.getElem_mem l0)
    have b1 := hns _ (List.getElem_mem l1)
    have b2 := hns _ (List.getElem_mem l2)
    have m0 := tmod_in b0 4 (by decide)
    have m1 := tmod_in b1 4 (by decide)
    have hm0 := h.at_ _ m0.1 m0.2
    have hm1 := h.at_ _ m1.1 m1.2
    have hlen := h.1
    have hh := Aside0.mk h
    generalize hd : Int.tmod (wrap64 ns[3 * t]) 4 = d at *
    generalize he : Int.tmod (wrap64 ns[3 * t + 1]) 4 = e at *
    clear hd he
    obtain ⟨op, hop, hopis⟩ := Op_is b1 b2
    rw [hop]
    clear hop
    refine Tot.pos trivial (Tot.pos (by omega) (Tot.pos (by omega) (Tot.ite (fun hge => ?_) (fun hge => ?_))))
    · refine Tot.pos m0.1 (Tot.pos (by omega) (Tot.pos (by omega) (Tot.pos (by omega) (Tot.pos m1.1 (Tot.pos (by omega) (Tot.bind (Join_tot (t : Int) hm0 hm1 (by omega) (by omega)) fun j hj => ?_))))))
      exact ih (t + 1) _ (by omega) (by omega) ((hh.out.put _ (x := ⟨j.1, j.2⟩) hj.1).mono (by omega))
    · simp only [Option.bind_some]
      refine Tot.pos m0.1 (Tot.pos (by omega) (Tot.pos (by omega) (Tot.pos (by omega) (Tot.pos (by omega) (Tot.pos (by omega) (Tot.bind (Do_tot (t : Int) hm0 (by omega) (by omega) d op.1 op.2.1 op.2.2.1 op.2.2.2 ⟨m0.1, by omega⟩ hopis.kind (by rw [hopis.key]; decide) (by rw [hopis.item]; decide) (by have := hopis.n; omega)) fun D hD => ?_))))))
      refine Tot.ite (fun hE => ?_) (fun hE => ih (t + 1) _ (by omega) (by omega) (hh.out.mono (by omega)))
      obtain ⟨L, hL, hr | hr | hr⟩ := hD
      · rw [hr.1] at hE; cases hE
      · rw [hr.1] at hE; cases hE
      · refine Tot.bind (Join_tot ((t : Int) + 1) (hm0.mono (by omega)) hr.2.1 (by omega) (by omega)) fun j hj => ?_
        exact ih (t + 1) _ (by omega) (by omega) (((hh.out.mono (show (t : Int) ≤ (t : Int) + 1 by omega)).put _ (x := ⟨j.1, j.2⟩) hj.1).mono (by omega))
theorem Apart_tot (ns : List Int) (hns : ∀ x, x ∈ ns → ByteIn x) : Tot (fun k => deaddroplaw9_Apart.f k ns) (GoodL 40) := by
  unfold deaddroplaw9_Apart.f
  refine Tot.pos (by decide) (Apart_l0 ns hns _ 0 _ rfl (Nat.zero_le _) ⟨by simp, fun x hx => ?_⟩)
  have := List.eq_of_mem_replicate hx
  subst this
  exact Good.nil 0 (Int.le_refl _)
theorem All_l0 (B : Int) (hB0 : 0 ≤ B) (hB1 : B ≤ 10000) (l : List S28) (hg : ∀ x, x ∈ l → Good B x.f0 x.f1) (hl : l.length ≤ 1000000) : ∀ (m i : Nat) (s : List S70) (f : List S34), l.length - i = m → i ≤ l.length → Good B s f → Tot (fun k => deaddropref7_All.l0 k l (i : Int) s f) (fun r => Good B r.1 r.2) := by
  intro m
  induction m with
  | zero =>
    intro i s f hm hi h
    refine Tot.step ?_
    simp only [deaddropref7_All.l0]
    exact Tot.neg (by omega) (Tot.now h)
  | succ m ih =>
    intro i s f hm hi h
    have hlt : i < l.length := by omega
    refine Tot.step ?_
    simp only [deaddropref7_All.l0]
    rw [rd28 hlt, wn (by omega)]
    exact Tot.pos (by omega) (Tot.pos (by omega) (Tot.bind (Join_tot B h (hg _ (List.getElem_mem hlt)) hB0 hB1) fun j hj => ih (i + 1) j.1 j.2 (by omega) (by omega) hj.1))
theorem All_tot {l : List S28} (h : GoodL 40 l) : Tot (fun k => deaddropref7_All.f k l) (fun r => Good 40 r.1 r.2) :=
  All_l0 40 (by decide) (by decide) l h.2 (by rw [h.1]; decide) _ 0 [] [] rfl (Nat.zero_le _) (Good.nil 40 (by decide))

end Go.Proofs.Ytaonemedoikieaa.HR
