-- A made chain of records, and who is a member behind it (own work)
import Derived.Test.YtjmehnlhfcidaaaPx10
import Derived.Test.YtjmehnlhfcidaaaHHash
namespace Go.Proofs.Ytjmehnlhfcidaaa.HP
open Go.RowKit Go.Proofs.Ytjmehnlhfcidaaa.P Go.Proofs.YtjmehnlhfcidaaaW.PrintWords Go.Proofs.YtjmehnlhfcidaaaW.PrintLast Go.Proofs.Ytjmehnlhfcidaaa.HT

theorem In_loop (x0 : List S32) (hs : (x0.length : Int) < 1000) (x1 x2 : Int) : ∀ (m : Nat) (b : Bool) (i : Int), 0 ≤ i → i + m = x0.length → Tot (fun k => deaddropref14_In.l0 k x0 x1 x2 b i) (fun _ => True)
  | 0, b, i, h0, h1 => by
    refine Tot.step ?_
    simp only [deaddropref14_In.l0]
    refine Tot.neg (by omega) ?_
    repeat' first
      | exact Tot.now trivial
      | refine Tot.ite (fun _ => ?_) (fun _ => ?_)
  | m + 1, b, i, h0, h1 => by
    have hj : ∀ c, Tot (fun k => deaddropref14_In.j1 k x0 x1 x2 b i c) (fun _ => True) := by
      intro c
      refine Tot.step ?_
      simp only [deaddropref14_In.j1, wr (n := i + 1) (by omega)]
      exact Tot.ite (fun _ => Tot.pos (by omega) (Tot.pos (by omega) (In_loop x0 hs x1 x2 m _ _ (by omega) (by omega)))) (fun _ => In_loop x0 hs x1 x2 m _ _ (by omega) (by omega))
    refine Tot.step ?_
    simp only [deaddropref14_In.l0]
    refine Tot.pos (by omega) (Tot.pos (by omega) ?_)
    repeat' first
      | exact hj _
      | refine Tot.ite (fun _ => ?_) (fun _ => ?_)
theorem In_tot (x0 : List S32) (hs : (x0.length : Int) < 1000) (x1 x2 : Int) : Tot (fun k => deaddropref14_In.f k x0 x1 x2) (fun _ => True) := by
  unfold deaddropref14_In.f
  exact In_loop x0 hs x1 x2 x0.length _ 0 (by omega) (by omega)

/-- One record of a chain, at its place. -/
structure Ok (i : Nat) (r : S32) : Prop where
  seq : r.f0 = (i : Int) + 1
  dev : 0 ≤ r.f3 ∧ r.f3 < 8
  prev : r.f1.size ≤ 1000
  wraps : r.f4 = []
  tag : r.f5.size ≤ 1000
  kind : r.f2 = 1 ∨ r.f2 = 2
theorem Ok.of {i : Nat} {s kd dv : Int} {t tag : ByteArray} (h : s = (i : Int) + 1) (hd : 1 ≤ dv ∧ dv ≤ 7) (ht : t.size ≤ 1000) (hg : tag.size ≤ 1000) (hk : kd = 1 ∨ kd = 2) : Ok i (⟨s, t, kd, dv, [], tag⟩ : S32) := ⟨h, ⟨by show (0 : Int) ≤ dv; omega, by show dv < (8 : Int); omega⟩, ht, rfl, hg, hk⟩
def Good (l : List S32) : Prop := ∀ i r, l[i]? = some r → Ok i r
theorem Good.put {l : List S32} {r : S32} (h : Good l) (hr : Ok l.length r) : Good (l ++ [r]) := by
  intro i x hx
  rcases Nat.lt_trichotomy i l.length with hi | hi | hi
  · rw [List.getElem?_append_left hi] at hx
    exact h i x hx
  · subst hi
    simp at hx
    exact hx ▸ hr
  · rw [List.getElem?_append_right (by omega), List.getElem?_eq_none (by simp; omega)] at hx
    exact absurd hx (by simp)
theorem rd_T32_get (l : List S32) (i : Int) (h0 : 0 ≤ i) (h1 : i < l.length) : l[i.toNat]? = some (rd_T32 l i) := by
  unfold rd_T32
  rw [List.getD_eq_getElem?_getD, List.getElem?_eq_getElem (by omega), Option.getD_some]

theorem rd_range {x0 : List Int} (hv : ∀ x ∈ x0, 0 ≤ x ∧ x ≤ 255) (i : Int) : 0 ≤ rd x0 i ∧ rd x0 i ≤ 255 := by
  unfold rd
  by_cases h : i.toNat < x0.length
  · rw [List.getD_eq_getElem?_getD, List.getElem?_eq_getElem h, Option.getD_some]
    exact hv _ (List.getElem_mem _)
  · rw [List.getD_eq_getElem?_getD, List.getElem?_eq_none (by omega), Option.getD_none]
    omega
theorem Chain_loop (x0 : List Int) (hv : ∀ x ∈ x0, 0 ≤ x ∧ x ≤ 255) (hs : (x0.length : Int) < 9000000000000000000) : ∀ (m : Nat) (x3 : List S32) (i : Int), 0 ≤ i → i + m = x0.length → Good x3 → 1 ≤ x3.length ∧ x3.length ≤ 30 → Tot (fun k => deaddroplaw15_Chain.l0 k x0 x3 i) (fun l => Good l ∧ 1 ≤ l.length ∧ l.length ≤ 30)
  | m, x3, i, h0, h1, hg, hl => by
    have hend : Tot (fun k => deaddroplaw15_Chain.j1 k x0 x3 i false) (fun l => Good l ∧ 1 ≤ l.length ∧ l.length ≤ 30) := by
      refine Tot.step ?_
      simp only [deaddroplaw15_Chain.j1]
      exact Tot.neg (by decide) (Tot.now ⟨hg, hl⟩)
    refine Tot.step ?_
    simp only [deaddroplaw15_Chain.l0]
    refine Tot.ite (fun hc => ?_) (fun _ => hend)
    cases m with
    | zero => omega
    | succ m =>
    by_cases h30 : (x3.length : Int) < 30
    · rw [decide_eq_true h30]
      have hw : wrap64 ((x3.length : Int) - 1) = (x3.length : Int) - 1 := wr (by omega)
      have hx := hg _ _ (rd_T32_get x3 ((x3.length : Int) - 1) (by omega) (by omega))
      refine Tot.step ?_
      simp only [deaddroplaw15_Chain.j1, hw, hx.wraps]
      refine Tot.pos trivial (Tot.pos (by omega) (Tot.pos (by omega) (Tot.bind (Hash_tot _ _ _ _ _ hx.prev hx.tag) fun t ht => Tot.pos h0 (Tot.pos hc (Tot.bind (In_tot x3 (by omega) _ _) fun b _ => ?_)))))
      have hr := rd_range hv i
      have hd : 1 ≤ wrap64 (1 + Int.tmod (wrap64 (rd x0 i)) 7) ∧ wrap64 (1 + Int.tmod (wrap64 (rd x0 i)) 7) ≤ 7 := by
        rw [wr (n := rd x0 i) (by omega), Int.tmod_eq_emod_of_nonneg (by omega), wr (by omega)]
        omega
      have hj : ∀ kind : Int, kind = 1 ∨ kind = 2 → Tot (fun k => deaddroplaw15_Chain.j2 k x0 x3 i (wrap64 ((x3.length : Int) + 1)) t kind (wrap64 (1 + Int.tmod (wrap64 (rd x0 i)) 7)) (⟨#[]⟩ : ByteArray)) (fun l => Good l ∧ 1 ≤ l.length ∧ l.length ≤ 30) := by
        intro kind hk
        refine Tot.step ?_
        simp only [deaddroplaw15_Chain.j2, wr (n := i + 1) (by omega), wr (n := (x3.length : Int) + 1) (by omega)]
        refine Tot.pos h0 (Tot.pos hc (Tot.ite (fun _ => Tot.pos (by omega) ?_) (fun _ => Tot.pos (by omega) ?_)))
        · exact Chain_loop x0 hv hs m _ _ (by omega) (by omega) (hg.put (Ok.of rfl hd (by omega) (by decide) hk)) (by simp only [List.length_append, List.length_singleton]; omega)
        · exact Chain_loop x0 hv hs m _ _ (by omega) (by omega) (hg.put (Ok.of rfl hd (by omega) (by decide) hk)) (by simp only [List.length_append, List.length_singleton]; omega)
      exact Tot.ite (fun _ => hj _ (.inr rfl)) (fun _ => hj _ (.inl rfl))
    · rw [decide_eq_false h30]
      exact hend

theorem Chain_tot (x0 : List Int) (hv : ∀ x ∈ x0, 0 ≤ x ∧ x ≤ 255) (hs : (x0.length : Int) < 9000000000000000000) : Tot (fun k => deaddroplaw15_Chain.f k x0) (fun l => Good l ∧ 1 ≤ l.length ∧ l.length ≤ 30) := by
  unfold deaddroplaw15_Chain.f
  refine Chain_loop x0 hv hs x0.length _ 0 (by omega) (by omega) ?_ (by decide)
  intro i r h
  cases i with
  | zero => simp at h; subst h; exact ⟨rfl, by decide, by decide, rfl, by decide, .inl rfl⟩
  | succ i => simp at h
theorem Chain_nil : Tot (fun k => deaddroplaw15_Chain.f k []) (fun l => l = [(⟨1, (⟨#[]⟩ : ByteArray), 1, 0, ([] : List (S55)), (⟨#[]⟩ : ByteArray)⟩ : S32)]) := by
  unfold deaddroplaw15_Chain.f
  refine Tot.step ?_
  simp only [deaddroplaw15_Chain.l0]
  refine Tot.neg (by simp) (Tot.step ?_)
  simp only [deaddroplaw15_Chain.j1]
  exact Tot.neg (by decide) (Tot.now rfl)

/-! Who is in. -/
theorem Index_loop (x0 : List Int) (hs : (x0.length : Int) < 1000) (d : Int) : ∀ (m : Nat) (i : Int), 0 ≤ i → i + m = x0.length → Tot (fun k => slices_Index_int_int.l0 k x0 d x0.length i) (fun r => 0 ≤ r ↔ d ∈ x0.drop i.toNat)
  | 0, i, h0, h1 => by
    refine Tot.step ?_
    simp only [slices_Index_int_int.l0]
    refine Tot.neg (by omega) (Tot.now ?_)
    rw [List.drop_eq_nil_of_le (by omega)]
    simp
  | m + 1, i, h0, h1 => by
    refine Tot.step ?_
    simp only [slices_Index_int_int.l0, wr (n := i + 1) (by omega)]
    have hi : i.toNat < x0.length := by omega
    have hr : rd x0 i = x0[i.toNat] := by
      unfold rd
      rw [List.getD_eq_getElem?_getD, List.getElem?_eq_getElem hi, Option.getD_some]
    have hd : x0.drop i.toNat = rd x0 i :: x0.drop (i + 1).toNat := by
      rw [hr, List.drop_eq_getElem_cons hi]
      congr 2
      omega
    refine Tot.pos (by omega) (Tot.pos (by omega) (Tot.pos (by omega) (Tot.ite (fun h => Tot.now ?_) (fun h => ?_))))
    · rw [hd]
      exact ⟨fun _ => List.mem_cons.mpr (.inl h), fun _ => h0⟩
    · refine (Index_loop x0 hs d m _ (by omega) (by omega)).mono (fun r hr' => ?_)
      rw [hr', hd, List.mem_cons]
      exact ⟨.inr, fun hh => hh.elim (fun e => absurd e h) id⟩
theorem Contains_tot (x0 : List Int) (hs : (x0.length : Int) < 1000) (d : Int) : Tot (fun k => slices_Contains_int_int.f k x0 d) (fun r => r = decide (d ∈ x0)) := by
  unfold slices_Contains_int_int.f slices_Index_int_int.f
  refine Tot.bind (Index_loop x0 hs d x0.length 0 (by omega) (by omega)) fun r hr => Tot.now ?_
  simp only [Int.toNat_zero, List.drop_zero] at hr
  exact decide_eq_decide.mpr hr

/-- Who is in behind the records `l` up to the epoch. -/
def Mem (l : List S32) (e : Int) : List Int := roster_Members.Out (roster_Members.At l e l.length) 8
theorem Members_is (l : List S32) (e : Int) : roster_Members.f l e = some (Mem l e) := rfl
theorem mem_Mem {l : List S32} {e d : Int} : d ∈ Mem l e ↔ 0 ≤ d ∧ d < 8 ∧ (roster_Members.At l e l.length).getD d.toNat false = true := by
  unfold Mem roster_Members.Out
  simp only [List.mem_map, List.mem_filter, List.mem_range]
  constructor
  · rintro ⟨i, ⟨h1, h2⟩, rfl⟩
    exact ⟨by omega, by omega, by simpa using h2⟩
  · rintro ⟨h0, h1, h2⟩
    exact ⟨d.toNat, ⟨by omega, h2⟩, by omega⟩
theorem Mem_len (l : List S32) (e : Int) : (Mem l e).length ≤ 8 := by
  unfold Mem roster_Members.Out
  rw [List.length_map]
  exact Nat.le_trans (List.length_filter_le _ _) (by simp)
theorem Mem_asc (l : List S32) (e : Int) : (Mem l e).Pairwise (· < ·) := by
  unfold Mem roster_Members.Out
  rw [List.pairwise_map]
  refine List.Pairwise.imp ?_ ((List.pairwise_lt_range (n := 8)).filter _)
  intro a b h
  omega
theorem rIn_tot (l : List S32) (e d : Int) : Tot (fun k => roster_In.f k l e d) (fun r => r = decide (d ∈ Mem l e)) := by
  unfold roster_In.f
  simp only [Members_is, Option.bind_some]
  exact Tot.bind (Contains_tot _ (by have := Mem_len l e; omega) d) fun r hr => Tot.now hr
theorem awake_tot : Tot (fun k => deaddroplaw16_awake.f k) (fun r => r = true) := by
  unfold deaddroplaw16_awake.f
  simp only [Members_is, Option.bind_some]
  refine Tot.pos (by decide) (Tot.bind Chain_nil fun l hl => ?_)
  subst hl
  refine Tot.bind (rIn_tot _ 1 0) fun r hr => ?_
  subst hr
  refine Tot.pos (by decide) (Tot.bind Chain_nil fun l hl => ?_)
  subst hl
  refine Tot.bind (rIn_tot _ 0 0) fun r hr => Tot.now ?_
  subst hr
  decide
end Go.Proofs.Ytjmehnlhfcidaaa.HP
