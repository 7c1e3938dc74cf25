-- Written by a program of this work (wip/tools/mkprint.py) over the kit's print; Lean checks it.
import Derived.Test.YtaonemedoikieaaMx0
import Derived.Test.YtaonemedoikieaaMx10
import Derived.Test.YtaonemedoikieaaHAbb2
namespace Go.Proofs.Ytaonemedoikieaa.M
open Go.RowKit Go.Proofs.YtaonemedoikieaaW.PrintWords Go.Proofs.YtaonemedoikieaaW.PrintLast Go.Proofs.YtaonemedoikieaaW.PrintMore Go.Proofs.Ytaonemedoikieaa.AB
attribute [local go_sem] max2_int min2_int max_two min_two max_three min_three max_four min_four   -- for this text's walks alone
set_option linter.unusedVariables false
set_option linter.unusedSimpArgs false

-- NOT PRINTED: function 43 (slices_pdqsortOrdered_string)

-- NOT PRINTED: function 39 (slices_Sort_string_string)

-- NOT PRINTED: function 40 (slices_Clone_string_string)

-- NOT PRINTED: function 41 (slices_Compact_string_string)

/-! ### read_set: function 35 -/
def read_set.f (l0 : List ByteArray) : Option (List ByteArray) := if l0.length < 8796093022208 then some ((Lib.compact ((l0.map (·.data.toList)).mergeSort fun x y => decide (x ≤ y))).map fun l => (⟨l.toArray⟩ : ByteArray)) else none
theorem rs_grow_nil (w : World) : Go.Sort.grow w #[] = w := by simp [Go.Sort.grow]
theorem rs_encs (l : List ByteArray) : (l.map (·.data.toList)).map Go.Proofs.encStr = l.map Value.string := by simp [Go.Proofs.encStr]
theorem rs_encs2 (l : List (List UInt8)) : l.map Go.Proofs.encStr = (l.map fun x => (⟨x.toArray⟩ : ByteArray)).map Value.string := by simp [Go.Proofs.encStr]
section
open Go.Shelf Go.Sort Go.Proofs
theorem rs_sort {w w2 : World} {base g cap nn : Nat} {os : Array Obj} {ss ts : List (List UInt8)} (hw2 : w2 = grow (putRow encStr (Sort.ahead w nn) g 0 ts.toArray) os) (hl : ts.length = ss.length) (hown : w.ownsRow base 9 1 (.slice (some ⟨g, 0, none⟩) ss.length cap) ss.length (ss.map encStr)) (hH : Holds encStr w g 0 ss.toArray) (hg : g < w.heap.size) :
    w.grownBy w2 (some g) ∧ Holds encStr w2 g 0 ts.toArray ∧ w2.ownsRow base 9 1 (.slice (some ⟨g, 0, none⟩) ts.length cap) ts.length (ts.map encStr) := by
  subst hw2
  refine ⟨grownBy_sorted _, holds_grow encStr _ os g 0 _ (by simpa [putRow, mapBlock, Sort.ahead] using hg) (holds_putRow encStr _ g 0 _ _ (holds_ahead encStr w nn g 0 _ hH) (by simp [hl])), ?_⟩
  rcases hown.2 with ⟨h0, _⟩ | ⟨g', cap', cur, hv, hbase, hb, h1, h2, h3, h4⟩
  · cases h0
  cases hv
  rw [hl]
  exact ownsRow_sorted (n := nn) (os := os) (ts := ts) hl hbase hb h1 h2 h3
theorem rs_comp {w w2 : World} {base g cap q : Nat} {ts cs : List (List UInt8)} (hw2 : w2 = putRow encStr (Sort.ahead w q) g 0 (cs ++ List.replicate (ts.length - cs.length) []).toArray) (hc : cs.length ≤ ts.length) (hown : w.ownsRow base 9 1 (.slice (some ⟨g, 0, none⟩) ts.length cap) ts.length (ts.map encStr)) :
    w.grownBy w2 (some g) ∧ w2.ownsRow base 9 1 (.slice (some ⟨g, 0, none⟩) cs.length cap) cs.length (cs.map encStr) := by
  subst hw2
  have h := Lib.ownsRow_putRow (q := q) (k := cs.length) (ys := cs ++ List.replicate (ts.length - cs.length) []) hown (by simp; omega) hc
  rw [List.take_left] at h
  refine ⟨?_, h⟩
  have := grownBy_sorted (w := w) (g := g) (n := q) (os := #[]) (cs ++ List.replicate (ts.length - cs.length) []).toArray
  rw [rs_grow_nil] at this
  exact this
theorem rs_cells {w : World} {base g cap : Nat} {cs : List (List UInt8)} (hown : w.ownsRow base 9 1 (.slice (some ⟨g, 0, none⟩) cs.length cap) cs.length (cs.map encStr)) (j : Nat) (hj : j < (cs.map fun l => (⟨l.toArray⟩ : ByteArray)).length) :
    w.cell? ⟨g, 0 + j, none⟩ = some (.string ((cs.map fun l => (⟨l.toArray⟩ : ByteArray)).getD j ByteArray.empty)) := by
  obtain ⟨g', cap', he, _, _, _, _, _, hH⟩ := Lib.holds_of_ownsRow hown (by intro h; injection h with h1; cases h1)
  cases he
  have hj' : j < cs.length := by simpa using hj
  rw [(hH j (by simpa using hj')).1]
  simp [hj', encStr]
end
/-- The end: what the clone owns. -/
theorem rs_end {w0 w w1 w2 w3 : World} {P0 : Nat → Prop} {g k : Nat} {v : Value} {r : List ByteArray} (hB : Below w0.heap.size w0 w) (hg : P0 g) (hb : w0.heap.size ≤ g) (g1 : w.grownBy w1 (some g)) (g2 : w1.grownBy w2 (some g)) (ho : w3.ownsRow w2.heap.size 9 1 v k ((r.take k).map Value.string)) (hk : r.length = k) (hb3 : Below w2.heap.size w2 w3) :
    Kd.R Kd.string 9 w3 w0.heap.size (fun k_ => (P0 k_ ∨ w.heap.size ≤ k_)) v r ∧ Below w0.heap.size w0 w3 ∧ Kept w w3 (fun k_ => P0 k_) := by
  have s1 := g1.size
  have s2 := g2.size
  have B1 : Below w0.heap.size w0 w1 := hB.grown g1 hB.size (fun j hj => by cases hj; exact hb)
  have B2 : Below w0.heap.size w0 w2 := B1.grown g2 B1.size (fun j hj => by cases hj; exact hb)
  have K1 : Kept w w1 P0 := Kept.of_grown g1 (Kept.refl w P0) (fun k hk => by cases hk; exact .inl hg)
  have K2 : Kept w w2 P0 := Kept.of_grown g2 K1 (fun k hk => by cases hk; exact .inl hg)
  subst hk
  rw [List.take_length] at ho
  refine ⟨Kd.R_of_own (own_weaken ho B2.size) (fun q hq => .inr ?_), below_step B2 hb3, K2.below hb3⟩
  have := own_base ho q hq
  omega
set_option maxHeartbeats 4000000 in
set_option maxRecDepth 100000 in
theorem read_set.calls (P0_ : Nat → Prop) (u9000_ : Value) (l0 : List ByteArray) (r : List ByteArray) (w0 w : World) (hB : Below w0.heap.size w0 w) (ho0 : Kd.R Kd.string 9 w w0.heap.size P0_ u9000_ l0) (h : read_set.f l0 = some r) :
    Calls Try.prog 35 #[u9000_] w fun e w' => ∃ v0_ : Value, e = .returned (v0_) ∧ Kd.R Kd.string 9 w' w0.heap.size (fun k_ => (P0_ k_ ∨ w.heap.size ≤ k_)) v0_ r ∧ Below w0.heap.size w0 w' ∧ Kept w w' (fun k_ => P0_ k_) := by
  by_cases hlim : l0.length < 8796093022208
  · replace h : (if l0.length < 8796093022208 then some ((Lib.compact ((l0.map (·.data.toList)).mergeSort fun x y => decide (x ≤ y))).map fun l => (⟨l.toArray⟩ : ByteArray)) else none) = some r := h
    rw [if_pos hlim] at h
    obtain rfl := Option.some.inj h
    clear h
    by_cases hv : u9000_ = .slice none 0 0
    · subst hv
      have hl : l0 = [] := by
        obtain ⟨A, c, he, _, _⟩ := Kd.R_reads ho0
        injection he with _ h2
        exact List.length_eq_zero_iff.1 h2.symm
      subst hl
      have hc : Lib.compact ((([] : List ByteArray).map (·.data.toList)).mergeSort fun x y => decide (x ≤ y)) = [] := by simp [Lib.compact, Lib.compactUpTo]
      rw [hc]
      have XB := Aside0.mk hB
      clear ho0 hB hc hlim
      go_enter Try.func35, Try.ntmps35
      go_wp2_with (first
        | (go_at_call 39; refine (Any.slices_Sort_string_none Try.laysSort none 0 _).mono ?_; rintro e w2 ⟨rfl, rfl⟩)
        | (go_at_call 41; refine (Any.slices_Compact_string_empty Try.laysCompact none 0 _).mono ?_; rintro e w2 ⟨rfl, rfl⟩)
        | (go_at_call 40; refine (Any.slices_Clone_string_nil Try.laysClone 0 0 _).mono ?_; rintro e w2 ⟨rfl, rfl⟩))
      go_ret
      exact ⟨_, rfl, Kd.R_nil _ _ _ _ _, XB.out, Kept.refl _ _⟩
    · have hown := Kd.own_of_R ho0
      rw [show encs Value.string l0 = (l0.map (·.data.toList)).map Go.Proofs.encStr from (rs_encs l0).symm] at hown
      obtain ⟨g, cap, rfl, hbg, hgl, hncap, hcm, hlen, hH⟩ := Lib.holds_of_ownsRow hown hv
      have hP : P0_ g := ho0.1 g rfl
      clear ho0 hv
      generalize hss : l0.map (·.data.toList) = ss at *
      rw [← hlen] at hown hncap hlim ⊢
      clear hlen hss
      have hsort := Any.slices_Sort_string Try.laysSort g 0 cap ss w hH hgl (by omega)
      have hlt : (ss.mergeSort fun x y => decide (x ≤ y)).length = ss.length := List.length_mergeSort ss
      have hle := Lib.compact_length_le (ss.mergeSort fun x y => decide (x ≤ y))
      generalize hts : (ss.mergeSort fun x y => decide (x ≤ y)) = ts at *
      clear hts
      have X := Aside0.mk hown
      have XP := Aside0.mk hP
      have XB := Aside0.mk hB
      have Xb := Aside0.mk hbg
      have XH := Aside0.mk hH
      have Xn : Aside0 (ss.length ≤ cap ∧ cap ≤ maxLen ∧ g < w.heap.size ∧ ss.length < 8796093022208) := ⟨hncap, hcm, hgl, hlim⟩
      have XL : Aside0 (ts.length = ss.length ∧ (Lib.compact ts).length ≤ ts.length) := ⟨hlt, hle⟩
      clear hown hP hB hbg hH hncap hcm hgl hlim hlt hle
      go_enter Try.func35, Try.ntmps35
      go_wp2_with (first
        | (go_at_call 39; refine hsort.mono ?_; rintro e w2 ⟨rfl, nn, os, hw2⟩
           have S1 := rs_sort hw2 XL.out.1 X.out XH.out Xn.out.2.2.1
           have hcomp := Any.slices_Compact_string Try.laysCompact g 0 cap ts w2 S1.2.1 (by have := Xn.out.2.2.2; have := XL.out.1; omega) (by have := Xn.out.1; have := XL.out.1; omega)
           have G1 := Aside0.mk S1.1
           have O1 := Aside0.mk S1.2.2
           rw [XL.out.1] at hcomp
           clear S1 hw2 hsort
           dsimp only)
        | (go_at_call 41; refine hcomp.mono ?_; rintro e w3 ⟨rfl, q, hw3⟩
           have S2 := rs_comp (w2 := w3) (q := q) (cs := Lib.compact ts) (by rw [XL.out.1]; exact hw3) XL.out.2 O1.out
           have G2 := Aside0.mk S2.1
           have hclone := Any.slices_Clone_string Try.laysClone g 0 (Lib.compact ts).length cap ((Lib.compact ts).map fun l => (⟨l.toArray⟩ : ByteArray)) w3 (by simp) (by have := Xn.out.2.2.2; have := XL.out; omega) (rs_cells S2.2)
           clear S2 hw3 hcomp
           dsimp only)
        | (go_at_call 40; refine hclone.mono ?_; rintro e w4 ⟨v, rfl, ho, hn, hb⟩
           have E := Aside0.mk (rs_end XB.out XP.out Xb.out G1.out G2.out ho (by simp) hb)
           clear ho hn hb hclone
           dsimp only))
      go_ret
      exact ⟨_, rfl, E.out.1, E.out.2.1, E.out.2.2⟩
  · exact absurd h (by unfold read_set.f; rw [if_neg hlim]; simp)

/-! ### read_items: function 32 -/
def read_items.l0 : Nat → List ByteArray → List (S34) → Int → Int → Option (List ByteArray)
 | 0, _, _, _, _ => none
 | k + 1, x7, x13, x14, x15 => if x15 < x14 then (if 0 ≤ x15 then (if x15 < (x13.length : Int) then (if x7.length < 8796093022208 then (read_items.l0 k (x7 ++ [(rd_T34 x13 x15).f3]) x13 x14 (wrap64 (x15 + 1))) else (none)) else (none)) else (none)) else ((read_set.f x7).bind fun t447 => (some t447))
def read_items.f (k : Nat) (l0_0 : List (S70)) (l0_1 : List (S34)) (a1 : ByteArray) (a2 : Int) : Option (List ByteArray) := (facts_Find.f k l0_0 l0_1 a1 a2).bind fun t439 => (read_items.l0 k ([] : List ByteArray) t439 (t439.length : Int) 0)
theorem read_items.mono_l : ∀ k, (∀ y0 y1 y2 y3, LeO (read_items.l0 k y0 y1 y2 y3) (read_items.l0 (k + 1) y0 y1 y2 y3))
 | 0 => fun _ _ _ _ r h => by simp [read_items.l0] at h
 | k + 1 => by
  have ih0 := read_items.mono_l k
  ·
   intro y0 y1 y2 y3
   unfold read_items.l0
   repeat' first
   | with_reducible (first | exact ih0 _ _ _ _ | exact facts_Find.mono _ _ _ _ _ | exact LeO.refl _ | exact LeO.none _ | refine LeO.ite ?_ ?_ | refine LeO.bind ?_ (fun _ => ?_))
   | exact ih0 _ _ _ _ | exact facts_Find.mono _ _ _ _ _ | exact LeO.none _ | refine LeO.ite ?_ ?_ | refine LeO.bind ?_ (fun _ => ?_)
theorem read_items.mono : ∀ a0 a1 a2 a3 k, LeO (read_items.f k a0 a1 a2 a3) (read_items.f (k + 1) a0 a1 a2 a3) := by
 intro a0 a1 a2 a3 k
 have ih0 := read_items.mono_l k
 unfold read_items.f
 repeat' first
  | with_reducible (first | exact ih0 _ _ _ _ | exact facts_Find.mono _ _ _ _ _ | exact LeO.refl _ | exact LeO.none _ | refine LeO.ite ?_ ?_ | refine LeO.bind ?_ (fun _ => ?_))
  | exact ih0 _ _ _ _ | exact facts_Find.mono _ _ _ _ _ | exact LeO.none _ | refine LeO.ite ?_ ?_ | refine LeO.bind ?_ (fun _ => ?_)
set_option maxHeartbeats 8000000 in
set_option maxRecDepth 100000 in
theorem read_items.calls (k : Nat) (A0_0 : Option Addr) (c0_0 : Nat) (l0_0 : List (S70)) (A0_1 : Option Addr) (c0_1 : Nat) (l0_1 : List (S34)) (a1 : ByteArray) (a2 : Int) (r : List ByteArray) (w : World) (hr0_0 : Kd.C k70 w A0_0 l0_0.length l0_0) (hc0_0 : l0_0.length ≤ c0_0) (hr0_1 : Kd.C k34 w A0_1 l0_1.length l0_1) (hc0_1 : l0_1.length ≤ c0_1) (h : read_items.f k l0_0 l0_1 a1 a2 = some r) :
 Calls Try.prog 32 #[.agg #[.slice A0_0 l0_0.length c0_0, .slice A0_1 l0_1.length c0_1], .string a1, .int .i64 a2] w fun e w' => ∃ v0_ : Value, e = .returned (v0_) ∧ Kd.R Kd.string 9 w' w.heap.size (fun _ => True) v0_ r ∧ Below w.heap.size w w' := by
 have hu28 := Try.underlying28
 have hu34 := Try.underlying34
 have HR0_0 := Aside0.mk hr0_0
 have HC0_0 := Aside0.mk hc0_0
 clear hr0_0 hc0_0
 have HR0_1 := Aside0.mk hr0_1
 have HC0_1 := Aside0.mk hc0_1
 clear hr0_1 hc0_1
 have HB := Aside0.mk (Below.refl w.heap.size w)
 have H : ((facts_Find.f k l0_0 l0_1 a1 a2).bind fun t439 => (read_items.l0 k ([] : List ByteArray) t439 (t439.length : Int) 0)) = some r := h
 clear h
 replace H := Option.bind_eq_some_iff.mp H
 obtain ⟨t439, A40, H⟩ := H
 replace H : (read_items.l0 k ([] : List ByteArray) t439 (t439.length : Int) 0) = some r := H
 have A4 := Aside0.mk A40
 clear A40
 have H' := Aside0.mk H
 clear H
 go_enter Try.func32, Try.ntmps32
 go_wp2_with (first | ((with_reducible refine gate_dst (N := 3) rfl ?_); refine box_event ?hg (N := 3) ?hd (cs := #[.slice A0_0 l0_0.length c0_0, .slice A0_1 l0_1.length c0_1]) (t := 28) ?hr ?_; (case hd => rfl); (case hg => rfl); (case hr => first | (go_simp; done) | (go_simp; rfl)); intro gb438 hg w5 hbox hb; have BK438 := Aside0.mk (hbox); have GW438 := Aside0.mk ((by rw [hg]; exact (below_size (bw HB.out)) : w.heap.size ≤ gb438)); have GE438 := GW438; replace HB := Aside0.mk (below_step (bw HB.out) hb); clear hb hbox hg; obtain ⟨hcz6_0, hcz6_1⟩ := bx2 BK438.out; obtain ⟨hfz6_0, hfz6_1⟩ := bf2 BK438.out) | ((with_reducible refine gate_callee (f := 27) rfl ?_); refine goesL_ (some 13) rfl rfl Try.func27 (by kernel_rfl) rfl #[.agg #[.slice A0_0 l0_0.length c0_0, .slice A0_1 l0_1.length c0_1], .string a1, .int .i64 a2] rfl ar_ ?_; (with_reducible refine (facts_Find.calls k _ _ l0_0 _ _ l0_1 a1 a2 t439 _ ?side1 ?side2 ?side3 ?side4 A4.out).mono ?_); (case side1 => exact cr (Kd.C_below HR0_0.out HB.out)); (case side2 => exact HC0_0.out); (case side3 => exact cr (Kd.C_below HR0_1.out HB.out)); (case side4 => exact HC0_1.out); rintro e w7 ⟨v440, rfl, ho0, hb⟩; refine ⟨_, rfl, ?_⟩; have HO441 := Aside0.mk (Kd.R_lower ho0 (below_size (bw1 HB.out GE438.out))); replace BK438 := Aside0.mk (bkb BK438.out hb); replace HB := Aside0.mk (below_step (bw1 HB.out GE438.out) hb); (try clear hb); (try clear hb2); (try clear hk); (try clear hi); (try clear ho0); obtain ⟨Ao8, co8, eo8⟩ := Kd.R_slice HO441.out; subst eo8))
 go_loopg [7, 15] k (fun kq v7 v15 w' => ∃ (x7_1 : List ByteArray) (x15_1 : Int), v15 = .int .i64 x15_1 ∧ Aside0 (read_items.l0 kq x7_1 t439 (t439.length : Int) x15_1 = some r) ∧ Aside0 (kq ≤ k) ∧ Aside0 (Kd.R Kd.string 9 w' w.heap.size (fun _ => True) v7 x7_1) ∧ Aside0 (Kd.R k34 34 w' w.heap.size (fun _ => True) (.slice Ao8 t439.length co8) t439) ∧ Aside0 (w'.heap[gb438]? = some (.cells #[(.slice A0_0 l0_0.length c0_0), (.slice A0_1 l0_1.length c0_1)] 28 (0, 0))) ∧ Aside0 (Below w.heap.size w w'))
 case atStart => exact ⟨(([] : List ByteArray)), (0), ok_, H', ⟨Nat.le_refl _⟩, ⟨by first | exact Kd.R_nil _ _ _ _ _ | exact Kd.N_nil _ _ _ _ _ | exact Kd.V_nil _ _ _ _ _ | exact Kd.Q_nil _ _ _ _ _ | exact Kd.S_nil _ _ _ _ _⟩, ⟨rk HO441.out⟩, ⟨bk BK438.out⟩, ⟨bw1 HB.out GE438.out⟩⟩
 case round =>
  clear H'
  try clear hcz6_0
  try clear hcz6_1
  try clear hfz6_0
  try clear hfz6_1
  obtain ⟨x7_1, x15_1, rfl, HA, HK1, HO_7, HO_13, BK438, HB⟩ := hrel
  cases gk with
  | zero => exact absurd HA.out (by simp [read_items.l0])
  | succ k1 =>
   have H := HA.out
   clear HA
   simp only [read_items.l0] at H
   by_cases c9 : x15_1 < (t439.length : Int)
   ·
    rw [if_pos c9] at H
    have c9b0 : decide (x15_1 < (t439.length : Int)) = true := decide_eq_true c9
    clear c9
    by_cases c10 : 0 ≤ x15_1
    rotate_left
    ·
     rw [if_neg c10] at H
     exact absurd H (by simp)
    rw [if_pos c10] at H
    have c10b0 : decide (0 ≤ x15_1) = true := decide_eq_true c10
    clear c10
    by_cases c11 : x15_1 < (t439.length : Int)
    rotate_left
    ·
     rw [if_neg c11] at H
     exact absurd H (by simp)
    rw [if_pos c11] at H
    have c11b0 : decide (x15_1 < (t439.length : Int)) = true := decide_eq_true c11
    clear c11
    by_cases c12 : x7_1.length < 8796093022208
    rotate_left
    ·
     rw [if_neg c12] at H
     exact absurd H (by simp)
    rw [if_pos c12] at H
    have LMc12 := Aside0.mk c12
    clear c12
    obtain ⟨y444, hy444⟩ : ∃ y_ : List ByteArray, y_ = (x7_1 ++ [(rd_T34 t439 x15_1).f3]) := ⟨_, rfl⟩
    replace H : (read_items.l0 k1 y444 t439 (t439.length : Int) (wrap64 (x15_1 + 1))) = some r := by first | (rw [hy444]; with_reducible exact H) | (have H2_ := (Option.bind_some _ _).symm.trans H; rw [hy444]; with_reducible exact H2_) | (have H2_ := (Option.bind_some _ _).symm.trans H; with_reducible exact H2_) | with_reducible exact H | (rw [hy444]; exact H) | exact H
    have Ny444 := Aside0.mk hy444
    clear hy444
    have H' := Aside0.mk H
    clear H
    have p442 : 0 ≤ (x15_1 : Int) := of_decide_eq_true as_
    have q442 : x15_1 < (t439.length : Int) := of_decide_eq_true as_
    obtain ⟨ad442, e442, hx442_0, hx442_1, hx442_2, hx442_3, hx442_4, hx442_5⟩ := at_T34 (Kd.R_reads' HO_13.out).2.2 x15_1 p442 q442
    cases e442
    replace p442 := eq_true p442
    replace q442 := eq_true q442
    go_wp2_with (first | ((with_reducible refine gate_dst (N := 9) rfl ?_); refine box_event ?hg (N := 9) ?hd (cs := #[.int .i64 0, .int .i64 0, .string (⟨#[]⟩ : ByteArray), .int .i64 0, .string (⟨#[]⟩ : ByteArray), .int .i64 0]) (t := 34) ?hr ?_; (case hd => rfl); (case hg => rfl); (case hr => first | (go_simp; done) | (go_simp; rfl)); intro gb443 hg w13 hbox hb; replace HO_7 := Aside0.mk (Kd.R_below (rk HO_7.out) hb); replace HO_13 := Aside0.mk (Kd.R_below (Kd.R_elderB (rk HO_13.out) gb443 (Nat.le_of_eq hg.symm)) hb); have BK443 := Aside0.mk (hbox); have GW443 := Aside0.mk ((by rw [hg]; exact (below_size (bw1 HB.out GE438.out)) : w.heap.size ≤ gb443)); have GE443 := GW443; replace HB := Aside0.mk (below_step (bw1 HB.out GE438.out) hb); have NB438_443 := Aside0.mk (nbl BK438.out hg); have NB443_438 := Aside0.mk (nbg BK438.out hg); replace BK438 := Aside0.mk (bkb BK438.out hb); clear hb hbox hg; have hnb14 := NB443_438.out; have hnc14 := NB438_443.out; obtain ⟨hcz15_0, hcz15_1, hcz15_2, hcz15_3, hcz15_4, hcz15_5⟩ := bx6 BK443.out; obtain ⟨hfz15_0, hfz15_1, hfz15_2, hfz15_3, hfz15_4, hfz15_5⟩ := bf6 BK443.out) | ((with_reducible refine gate_builtin (b := .append) (xs := #[.tmp 19, .tmp 22]) rfl ?_); at_builtin; refine Kd.R_append Kd.string (w0 := w) w.heap.size rfl (.tmp 19) (.tmp 22) 45 9 (.string ⟨#[]⟩) 16 rfl Try.underlying45 info9 rfl (by decide) (by omega) u7 x7_1 ((rd_T34 t439 x15_1).f3) [.string ((rd_T34 t439 x15_1).f3)] (fun _ => True) (fun _ => False) rfl (by first | (go_simp; done) | (go_simp; rfl)) ?aP (fun _ hk => hk.elim) ?aF ?aO ?aB ?aS ?aL ?_; (case aP => exact rfl); (case aB => exact (bw2 HB.out GE438.out GE443.out)); (case aF => exact (fun _ _ => trivial)); (case aO => exact (by (with_reducible repeat (first | apply Kd.R_alloc | apply Kd.R_drewN | apply Kd.R_drew)); exact Kd.R_mono (Kd.R_far (p := ⟨gb443, 5, none⟩) (Kd.R_far (p := ⟨gb443, 4, none⟩) (Kd.R_far (p := ⟨gb443, 3, none⟩) (Kd.R_far (p := ⟨gb443, 2, none⟩) (Kd.R_far (p := ⟨gb443, 1, none⟩) (Kd.R_far (p := ⟨gb443, 0, none⟩) (Kd.R_types HO_7.out BK443.out (by decide)) (fun _ hk => hk.2) (.int .i64 ((rd_T34 t439 x15_1).f0.f0))) (fun _ hk => hk.2) (.int .i64 ((rd_T34 t439 x15_1).f0.f1))) (fun _ hk => hk.2) (.string ((rd_T34 t439 x15_1).f1))) (fun _ hk => hk.2) (.int .i64 ((rd_T34 t439 x15_1).f2))) (fun _ hk => hk.2) (.string ((rd_T34 t439 x15_1).f3))) (fun _ hk => hk.2) (.int .i64 ((rd_T34 t439 x15_1).f4))) (fun _ hk => trivial))); (case aS => exact (below_size (bw2 HB.out GE438.out GE443.out))); (case aL => have := LMc12.out; omega); intro v445 w16 ho hb hg hat; rw [← Ny444.out] at ho; replace HO_13 := Aside0.mk (Kd.R_over' (by (with_reducible repeat (first | apply Kd.R_alloc | apply Kd.R_drewN | apply Kd.R_drew)); exact (Kd.R_mono (Kd.R_far (p := ⟨gb443, 5, none⟩) (Kd.R_far (p := ⟨gb443, 4, none⟩) (Kd.R_far (p := ⟨gb443, 3, none⟩) (Kd.R_far (p := ⟨gb443, 2, none⟩) (Kd.R_far (p := ⟨gb443, 1, none⟩) (Kd.R_far (p := ⟨gb443, 0, none⟩) (Kd.R_mono HO_13.out (fun k_ hk => (⟨hk, hk.2⟩ : _ ∧ k_ ≠ gb443))) (fun _ hk => hk.2) (.int .i64 ((rd_T34 t439 x15_1).f0.f0))) (fun _ hk => hk.2) (.int .i64 ((rd_T34 t439 x15_1).f0.f1))) (fun _ hk => hk.2) (.string ((rd_T34 t439 x15_1).f1))) (fun _ hk => hk.2) (.int .i64 ((rd_T34 t439 x15_1).f2))) (fun _ hk => hk.2) (.string ((rd_T34 t439 x15_1).f3))) (fun _ hk => hk.2) (.int .i64 ((rd_T34 t439 x15_1).f4))) (fun _ h_ => h_.1))) (Kd.R_typed (by (with_reducible repeat (first | apply Kd.R_alloc | apply Kd.R_drewN | apply Kd.R_drew)); exact (Kd.R_mono (Kd.R_far (p := ⟨gb443, 5, none⟩) (Kd.R_far (p := ⟨gb443, 4, none⟩) (Kd.R_far (p := ⟨gb443, 3, none⟩) (Kd.R_far (p := ⟨gb443, 2, none⟩) (Kd.R_far (p := ⟨gb443, 1, none⟩) (Kd.R_far (p := ⟨gb443, 0, none⟩) (Kd.R_types HO_7.out BK443.out (by decide)) (fun _ hk => hk.2) (.int .i64 ((rd_T34 t439 x15_1).f0.f0))) (fun _ hk => hk.2) (.int .i64 ((rd_T34 t439 x15_1).f0.f1))) (fun _ hk => hk.2) (.string ((rd_T34 t439 x15_1).f1))) (fun _ hk => hk.2) (.int .i64 ((rd_T34 t439 x15_1).f2))) (fun _ hk => hk.2) (.string ((rd_T34 t439 x15_1).f3))) (fun _ hk => hk.2) (.int .i64 ((rd_T34 t439 x15_1).f4))) (fun _ h_ => h_.1)))) (by decide) hg); replace BK438 := Aside0.mk (blk_grown (g := gb438) (o := .cells #[.slice A0_0 l0_0.length c0_0, .slice A0_1 l0_1.length c0_1] 28 (0, 0)) (by (with_reducible repeat (first | refine blk_drewN ?_ _ | refine blk_drew ?_ | refine blk_alloc ?_ _)); refine blk_far ?_ NB438_443.out _; (with_reducible repeat (first | refine blk_drewN ?_ _ | refine blk_drew ?_ | refine blk_alloc ?_ _)); refine blk_far ?_ NB438_443.out _; (with_reducible repeat (first | refine blk_drewN ?_ _ | refine blk_drew ?_ | refine blk_alloc ?_ _)); refine blk_far ?_ NB438_443.out _; (with_reducible repeat (first | refine blk_drewN ?_ _ | refine blk_drew ?_ | refine blk_alloc ?_ _)); refine blk_far ?_ NB438_443.out _; (with_reducible repeat (first | refine blk_drewN ?_ _ | refine blk_drew ?_ | refine blk_alloc ?_ _)); refine blk_far ?_ NB438_443.out _; (with_reducible repeat (first | refine blk_drewN ?_ _ | refine blk_drew ?_ | refine blk_alloc ?_ _)); refine blk_far ?_ NB438_443.out _; (with_reducible repeat (first | refine blk_drewN ?_ _ | refine blk_drew ?_ | refine blk_alloc ?_ _)); exact BK438.out) hg (Kd.R_ne HO_7.out BK438.out (by decide))); replace BK443 := Aside0.mk (blk_grown (g := gb443) (o := .cells #[.int .i64 ((rd_T34 t439 x15_1).f0.f0), .int .i64 ((rd_T34 t439 x15_1).f0.f1), .string ((rd_T34 t439 x15_1).f1), .int .i64 ((rd_T34 t439 x15_1).f2), .string ((rd_T34 t439 x15_1).f3), .int .i64 ((rd_T34 t439 x15_1).f4)] 34 (0, 0)) (by (with_reducible repeat (first | refine blk_drewN ?_ _ | refine blk_drew ?_ | refine blk_alloc ?_ _)); refine blk_put (cs := #[.int .i64 ((rd_T34 t439 x15_1).f0.f0), .int .i64 ((rd_T34 t439 x15_1).f0.f1), .string ((rd_T34 t439 x15_1).f1), .int .i64 ((rd_T34 t439 x15_1).f2), .string ((rd_T34 t439 x15_1).f3), .int .i64 0]) ?_ 5 _ rfl; (with_reducible repeat (first | refine blk_drewN ?_ _ | refine blk_drew ?_ | refine blk_alloc ?_ _)); refine blk_put (cs := #[.int .i64 ((rd_T34 t439 x15_1).f0.f0), .int .i64 ((rd_T34 t439 x15_1).f0.f1), .string ((rd_T34 t439 x15_1).f1), .int .i64 ((rd_T34 t439 x15_1).f2), .string (⟨#[]⟩ : ByteArray), .int .i64 0]) ?_ 4 _ rfl; (with_reducible repeat (first | refine blk_drewN ?_ _ | refine blk_drew ?_ | refine blk_alloc ?_ _)); refine blk_put (cs := #[.int .i64 ((rd_T34 t439 x15_1).f0.f0), .int .i64 ((rd_T34 t439 x15_1).f0.f1), .string ((rd_T34 t439 x15_1).f1), .int .i64 0, .string (⟨#[]⟩ : ByteArray), .int .i64 0]) ?_ 3 _ rfl; (with_reducible repeat (first | refine blk_drewN ?_ _ | refine blk_drew ?_ | refine blk_alloc ?_ _)); refine blk_put (cs := #[.int .i64 ((rd_T34 t439 x15_1).f0.f0), .int .i64 ((rd_T34 t439 x15_1).f0.f1), .string (⟨#[]⟩ : ByteArray), .int .i64 0, .string (⟨#[]⟩ : ByteArray), .int .i64 0]) ?_ 2 _ rfl; (with_reducible repeat (first | refine blk_drewN ?_ _ | refine blk_drew ?_ | refine blk_alloc ?_ _)); refine blk_put (cs := #[.int .i64 ((rd_T34 t439 x15_1).f0.f0), .int .i64 0, .string (⟨#[]⟩ : ByteArray), .int .i64 0, .string (⟨#[]⟩ : ByteArray), .int .i64 0]) ?_ 1 _ rfl; (with_reducible repeat (first | refine blk_drewN ?_ _ | refine blk_drew ?_ | refine blk_alloc ?_ _)); refine blk_put (cs := #[.int .i64 0, .int .i64 0, .string (⟨#[]⟩ : ByteArray), .int .i64 0, .string (⟨#[]⟩ : ByteArray), .int .i64 0]) ?_ 0 _ rfl; (with_reducible repeat (first | refine blk_drewN ?_ _ | refine blk_drew ?_ | refine blk_alloc ?_ _)); exact BK443.out) hg (Kd.R_ne HO_7.out BK443.out (by decide))); replace HB := Aside0.mk (hb); have HO446 := Aside0.mk (ho); clear HO_7; clear ho hb hg hat))
    go_roundg k1
    case measure => have := HK1.out; omega
    case rel => exact ⟨(y444), (wrap64 (x15_1 + 1)), ok_, H', ⟨by have := HK1.out; omega⟩, ⟨rk HO446.out⟩, ⟨by (with_reducible repeat (first | apply Kd.R_alloc | apply Kd.R_drewN | apply Kd.R_drew)); exact Kd.R_mono HO_13.out (fun _ hk => trivial)⟩, ⟨bk BK438.out⟩, ⟨bw2 HB.out GE438.out GE443.out⟩⟩
   ·
    rw [if_neg c9] at H
    have c9b0 : decide (x15_1 < (t439.length : Int)) = false := decide_eq_false c9
    clear c9
    replace H := Option.bind_eq_some_iff.mp H
    obtain ⟨t447, A170, H⟩ := H
    replace H : (some t447) = some r := H
    have A17 := Aside0.mk A170
    clear A170
    obtain rfl := Option.some.inj H
    obtain ⟨Ao18, co18, eo18⟩ := Kd.R_slice HO_7.out
    subst eo18
    go_wp2_with (first | ((with_reducible refine gate_callee (f := 35) rfl ?_); refine goesL_ (some 26) rfl rfl Try.func35 (by kernel_rfl) rfl #[.slice Ao18 x7_1.length co18] rfl ar_ ?_; (with_reducible refine (read_set.calls (fun k_ => some k_ = (.slice Ao18 x7_1.length co18 : Value).ownBlock) (.slice Ao18 x7_1.length co18) x7_1 t447 w _ ?side1 ?side2 A17.out).mono ?_); (case side1 => repeat (first | (with_reducible first | exact HB.out | apply below_alloc | apply pw_below_drewN | apply below_drew1 | refine below_set ?_ GE438.out) | exact HB.out)); (case side2 => exact Kd.R_tight rfl HO_7.out); rintro e w19 ⟨v448, rfl, ho0, hb, hkp⟩; refine ⟨_, rfl, ?_⟩; replace HO_13 := Aside0.mk (Kd.R_mono (ok' := fun k_ => True) (Kd.R_keptB ((Kd.R_apart' HO_13.out (Kd.R_typed HO_7.out) (by decide))) hkp (fun k_ hk_ hs_ => (hk_.2) hs_)) (fun k_ hk_ => trivial)); replace BK438 := Aside0.mk (blk_kept (bk BK438.out) hkp (fun hs_ => (fun e_ => (Kd.R_ne HO_7.out BK438.out (by decide)) e_) hs_)); have HO449 := Aside0.mk (Kd.R_mono (ok' := fun k_ => True) ho0 (fun k_ hk_ => trivial)); replace HB := Aside0.mk (hb); clear HO_7; (try clear hb); (try clear hkp); (try clear ho0)))
    go_ret
    exact ⟨_, by first | rfl | (simp [errW_none, errW_some] <;> rfl) | (simp [*, errW_none, errW_some] <;> rfl), rk HO449.out, bw1 HB.out GE438.out⟩

/-! ### read_Texts: function 14 -/
def read_Texts.f (k : Nat) (l0_0 : List (S70)) (l0_1 : List (S34)) (a1 : ByteArray) : Option (List ByteArray) := (read_items.f k l0_0 l0_1 a1 1).bind fun t451 => (some t451)
theorem read_Texts.mono : ∀ a0 a1 a2 k, LeO (read_Texts.f k a0 a1 a2) (read_Texts.f (k + 1) a0 a1 a2) := by
  intro a0 a1 a2 k
  unfold read_Texts.f
  repeat' first
      | with_reducible (first | exact read_items.mono _ _ _ _ _ | exact LeO.refl _ | exact LeO.none _ | refine LeO.ite ?_ ?_ | refine LeO.bind ?_ (fun _ => ?_))
      | exact read_items.mono _ _ _ _ _ | exact LeO.none _ | refine LeO.ite ?_ ?_ | refine LeO.bind ?_ (fun _ => ?_)
set_option maxHeartbeats 8000000 in
set_option maxRecDepth 100000 in
theorem read_Texts.calls (k : Nat) (A0_0 : Option Addr) (c0_0 : Nat) (l0_0 : List (S70)) (A0_1 : Option Addr) (c0_1 : Nat) (l0_1 : List (S34)) (a1 : ByteArray) (r : List ByteArray) (w : World) (hr0_0 : Kd.C k70 w A0_0 l0_0.length l0_0) (hc0_0 : l0_0.length ≤ c0_0) (hr0_1 : Kd.C k34 w A0_1 l0_1.length l0_1) (hc0_1 : l0_1.length ≤ c0_1) (h : read_Texts.f k l0_0 l0_1 a1 = some r) :
    Calls Try.prog 14 #[.agg #[.slice A0_0 l0_0.length c0_0, .slice A0_1 l0_1.length c0_1], .string a1] w fun e w' => ∃ v0_ : Value, e = .returned (v0_) ∧ Kd.R Kd.string 9 w' w.heap.size (fun _ => True) v0_ r ∧ Below w.heap.size w w' := by
  have hu28 := Try.underlying28
  have HR0_0 := Aside0.mk hr0_0
  have HC0_0 := Aside0.mk hc0_0
  clear hr0_0 hc0_0
  have HR0_1 := Aside0.mk hr0_1
  have HC0_1 := Aside0.mk hc0_1
  clear hr0_1 hc0_1
  have HB := Aside0.mk (Below.refl w.heap.size w)
  have H : ((read_items.f k l0_0 l0_1 a1 1).bind fun t451 => (some t451)) = some r := h
  clear h
  replace H := Option.bind_eq_some_iff.mp H
  obtain ⟨t451, A30, H⟩ := H
  replace H : (some t451) = some r := H
  have A3 := Aside0.mk A30
  clear A30
  obtain rfl := Option.some.inj H
  go_enter Try.func14, Try.ntmps14
  go_wp2_with (first | ((with_reducible refine gate_dst (N := 2) rfl ?_); refine box_event ?hg (N := 2) ?hd (cs := #[.slice A0_0 l0_0.length c0_0, .slice A0_1 l0_1.length c0_1]) (t := 28) ?hr ?_; (case hd => rfl); (case hg => rfl); (case hr => first | (go_simp; done) | (go_simp; rfl)); intro gb450 hg w4 hbox hb; have BK450 := Aside0.mk (hbox); have GW450 := Aside0.mk ((by rw [hg]; exact (below_size (bw HB.out)) : w.heap.size ≤ gb450)); have GE450 := GW450; replace HB := Aside0.mk (below_step (bw HB.out) hb); clear hb hbox hg; obtain ⟨hcz5_0, hcz5_1⟩ := bx2 BK450.out; obtain ⟨hfz5_0, hfz5_1⟩ := bf2 BK450.out) | ((with_reducible refine gate_callee (f := 32) rfl ?_); refine goesL_ (some 7) rfl rfl Try.func32 (by kernel_rfl) rfl #[.agg #[.slice A0_0 l0_0.length c0_0, .slice A0_1 l0_1.length c0_1], .string a1, .int .i64 1] rfl ar_ ?_; (with_reducible refine (read_items.calls k _ _ l0_0 _ _ l0_1 a1 1 t451 _ ?side1 ?side2 ?side3 ?side4 A3.out).mono ?_); (case side1 => exact cr (Kd.C_below HR0_0.out HB.out)); (case side2 => exact HC0_0.out); (case side3 => exact cr (Kd.C_below HR0_1.out HB.out)); (case side4 => exact HC0_1.out); rintro e w6 ⟨v452, rfl, ho0, hb⟩; refine ⟨_, rfl, ?_⟩; have HO453 := Aside0.mk (Kd.R_lower ho0 (below_size (bw1 HB.out GE450.out))); replace BK450 := Aside0.mk (bkb BK450.out hb); replace HB := Aside0.mk (below_step (bw1 HB.out GE450.out) hb); (try clear hb); (try clear hb2); (try clear hk); (try clear hi); (try clear ho0)))
  go_ret
  exact ⟨_, by first | rfl | (simp [errW_none, errW_some] <;> rfl) | (simp [*, errW_none, errW_some] <;> rfl), rk HO453.out, bw1 HB.out GE450.out⟩

end Go.Proofs.Ytaonemedoikieaa.M
