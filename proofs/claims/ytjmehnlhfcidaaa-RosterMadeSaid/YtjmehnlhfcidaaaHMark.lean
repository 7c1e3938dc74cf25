/- Words of this work: a row of bytes that '[]byte(s)' laid (its block bears a mark behind its end), appended to; a string appended, with the word on where the row lies. No program in sight. -/
import Derived.Test.YtjmehnlhfcidaaaWMore
import Derived.Lib.AppendStr
import Derived.Lib.ConvBytes
import Derived.Lib.FrozenHead2
namespace Go.Proofs.Ytjmehnlhfcidaaa.HW
open Go.RowKit Go.Proofs.YtjmehnlhfcidaaaW.PrintWords Go.Proofs.YtjmehnlhfcidaaaW.PrintLast Go.Proofs.YtjmehnlhfcidaaaW.PrintMore

theorem isEmpty_bne_ (l : List UInt8) : l.isEmpty = !(l != []) := by cases l <;> rfl

theorem run_storeCells_mark (P : Program) (g o : Nat) (t : TypeId) (fz : Nat × Nat) : ∀ (vs : List Value) (i : Nat) (cur : Array Value) (w : World), w.heap[g]? = some (.cells cur t fz) → (cur.size ≤ fz.1 ∨ fz.2 = 0) → o + i + vs.length ≤ cur.size → (∀ v ∈ vs, v.oneCell' = true) →
    (storeCells ⟨g, o, none⟩ vs i).run P w = .ok () (w.setRow g (cur.toList.take (o + i) ++ vs ++ cur.toList.drop (o + i + vs.length)).toArray)
  | [], i, cur, w, hg, _, _, _ => by
    simp only [storeCells, List.append_nil, List.length_nil, Nat.add_zero, List.take_append_drop, Array.toArray_toList]
    rw [setRow_self w g cur t fz hg]
    rfl
  | v :: rest, i, cur, w, hg, hfz, hl, h1 => by
    have hi : o + i < cur.size := by simp at hl; omega
    have hadd : (⟨g, o, none⟩ : Addr).add i = ⟨g, o + i, none⟩ := by unfold Addr.add; split <;> simp_all
    have hcell : w.cell? ⟨g, o + i, none⟩ = some cur[o + i] := by simp [World.cell?, hg, hi]
    have hfro : w.frozen? ⟨g, o + i, none⟩ = false := by
      obtain ⟨lo, hi'⟩ := fz
      simp only [World.frozen?, hg, Bool.and_eq_false_iff, decide_eq_false_iff_not]
      simp only at hfz
      omega
    have hst : (store ((⟨g, o, none⟩ : Addr).add i) v).run P w = .ok () (w.setRow g (cur.setIfInBounds (o + i) v)) := by
      rw [hadd, run_store P w _ v _ (h1 v (by simp)), hcell]
      simp [hfro, setCell_eq_setRow w g (o + i) cur t fz v hg]
    have ih := run_storeCells_mark P g o t fz rest (i + 1) (cur.setIfInBounds (o + i) v) (w.setRow g (cur.setIfInBounds (o + i) v)) (setRow_heap w g cur _ t _ hg) (by simpa using hfz) (by simp at hl ⊢; omega) (fun x hx => h1 x (by simp [hx]))
    simp only [storeCells, Sem.run_bind, hst, Result.andThen_ok, ih, setRow_setRow]
    congr 3
    have e := list_seg_step cur.toList (o + i) v rest (by simp at hl ⊢; omega)
    simpa [Array.toList_setIfInBounds, Nat.add_assoc] using e

/-- A row of bytes of the call's own; its block may bear a mark that no cell of it bears. -/
def MRow (w : World) (base : Nat) (e : TypeId) (v : Value) (xs : List Int) : Prop :=
  ∃ g cap cur fz, v = .slice (some ⟨g, 0, none⟩) xs.length cap ∧ base ≤ g ∧ w.heap[g]? = some (.cells cur e fz) ∧ (cur.size ≤ fz.1 ∨ fz.2 = 0) ∧ xs.length ≤ cap ∧ cap ≤ maxLen ∧ cur.size = cap ∧ cur.toList.take xs.length = nums .u8 xs

section
variable {w w1 W : World} {base : Nat} {e : TypeId} {v : Value} {xs : List Int}
theorem MRow.below (h : MRow w base e v xs) (hb : Below w.heap.size w w1) : MRow w1 base e v xs := by
  obtain ⟨g, cap, cur, fz, hv, hbg, hg, r⟩ := h
  exact ⟨g, cap, cur, fz, hv, hbg, (hb.block g (blk_lt hg)).trans hg, r⟩
theorem MRow.alloc (h : MRow w base e v xs) (o : Obj) : MRow (w.alloc o) base e v xs := h.below (below_alloc (Below.refl _ _) o)
theorem MRow.drewN (h : MRow w base e v xs) (m : Nat) : MRow (w.drewN m) base e v xs := h
theorem MRow.drew (h : MRow w base e v xs) : MRow w.drew base e v xs := h
theorem MRow.slice (h : MRow w base e v xs) : ∃ A c, v = .slice A xs.length c ∧ xs.length ≤ c := by
  obtain ⟨g, cap, cur, fz, hv, _, _, _, hc, _⟩ := h
  exact ⟨_, cap, hv, hc⟩
theorem MRow.cells (h : MRow w base e v xs) {g : Nat} (hg : v.ownBlock = some g) : ∀ j u, (nums .u8 xs)[j]? = some u → w.cell? ((⟨g, 0, none⟩ : Addr).add j) = some u := by
  obtain ⟨g', cap, cur, fz, rfl, _, hh, _, hc, _, hs, ht⟩ := h
  obtain rfl : g' = g := by simpa [Value.ownBlock] using hg
  intro j u hu
  have hj : j < (nums .u8 xs).length := (List.getElem?_eq_some_iff.1 hu).1
  rw [nums_length] at hj
  rw [add_plain]
  rw [← ht, List.getElem?_take, if_pos hj] at hu
  simp only [World.cell?, hh]
  simpa using hu
theorem MRow.reads (h : MRow w base e v xs) : ∃ A c, v = .slice A xs.length c ∧ xs.length ≤ c ∧ ReadsInt w .u8 A xs.length xs := by
  have hc := h
  obtain ⟨g, cap, cur, fz, rfl, _, hh, _, hcl, hm, hs, ht⟩ := h
  refine ⟨_, cap, rfl, hcl, rfl, by unfold maxLen at hm; omega, fun _ => ⟨_, rfl, fun j hj => ?_⟩⟩
  exact hc.cells (g := g) rfl j _ (by simp [nums, List.getElem?_eq_getElem hj, List.getD_eq_getElem?_getD])
end

section
variable {P : Program} (w : World)
theorem MRow_conv {base : Nat} (e : TypeId) (s : ByteArray) (hs : s.size ≤ maxLen) (hb : base ≤ w.heap.size) : MRow (Lib.bytesWorld w e s) base e (.slice (some ⟨w.heap.size, 0, none⟩) s.size (grownCap w s.size 0 e)) (bytesOf s) := by
  have hge := grownCap_ge w s.size 0 e
  have hcm : grownCap w s.size 0 e ≤ maxLen := grownCap_le_maxLen w s.size 0 e hs
  have hsz : (Lib.bytesCells w e s).size = grownCap w s.size 0 e := by
    have : (s.data.map fun b => Value.int .u8 b.toNat).size = s.size := by rw [Array.size_map]; rfl
    simp only [Lib.bytesCells, Array.size_append, this, Array.size_replicate]
    omega
  refine ⟨w.heap.size, _, _, _, by rw [bytesOf_length], hb, Lib.bytesWorld_at_new w e s, .inl (Nat.le_refl _), by rw [bytesOf_length]; exact hge, hcm, hsz, ?_⟩
  have hl : (s.data.map fun b => Value.int .u8 b.toNat).toList = nums .u8 (bytesOf s) := by
    simp [nums, bytesOf]
  rw [Lib.bytesCells, Array.toList_append, hl]
  have : (bytesOf s).length = (nums .u8 (bytesOf s)).length := by rw [nums_length]
  rw [this, List.take_left]

/-- The two arms at once: cells are appended whose first cells are known. -/
theorem mark_room (t ty e : TypeId) (i : TypeInfo) (ht : P.underlying t = some (.slice e)) (hi : P.info? e = some i) (hs1 : i.size = 1)
    (g sLen sCap : Nat) (cur : Array Value) (fz : Nat × Nat) (hg : w.heap[g]? = some (.cells cur e fz)) (hfz : cur.size ≤ fz.1 ∨ fz.2 = 0)
    (a : Addr) (m c : Nat) (news : List Value) (hl : news.length = m) (hnews : ∀ j u, news[j]? = some u → w.cell? (a.add j) = some u) (h1 : ∀ u ∈ news, u.oneCell' = true)
    (hroom : sLen + m ≤ sCap) (hfit : sLen + m ≤ cur.size) :
    (Builtin.append_ #[t, t] ty #[.slice (some ⟨g, 0, none⟩) sLen sCap, .slice (some a) m c]).run P w =
      .ok (.slice (some ⟨g, 0, none⟩) (sLen + m) sCap) (w.setRow g (cur.toList.take sLen ++ news ++ cur.toList.drop (sLen + m)).toArray) := by
  subst hl
  have hf := run_firstCells_some (P := P) w i.size news.length a news.length c news (by rw [hs1, Nat.mul_one]) hnews
  have hst := run_storeCells_mark P g sLen e fz news 0 cur w hg hfz (by simpa using hfit) h1
  simp only [Nat.add_zero] at hst
  rw [hs1] at hf
  simp [Builtin.append_, run_underlying ht, sizeOf, typeInfo, hi, hs1, Builtin.lenOf, hroom, hf, Addr.add_lit, hst]

theorem mark_room_string (t u ty e : TypeId) (i : TypeInfo) (ht : P.underlying t = some (.slice e)) (hu : P.underlying u = some .string) (hi : P.info? e = some i) (hs1 : i.size = 1)
    (g sLen sCap : Nat) (cur : Array Value) (fz : Nat × Nat) (hg : w.heap[g]? = some (.cells cur e fz)) (hfz : cur.size ≤ fz.1 ∨ fz.2 = 0) (s : ByteArray)
    (hroom : sLen + s.size ≤ sCap) (hfit : sLen + s.size ≤ cur.size) :
    (Builtin.append_ #[t, u] ty #[.slice (some ⟨g, 0, none⟩) sLen sCap, .string s]).run P w =
      .ok (.slice (some ⟨g, 0, none⟩) (sLen + s.size) sCap) (w.setRow g (cur.toList.take sLen ++ Lib.strCells s ++ cur.toList.drop (sLen + s.size)).toArray) := by
  have hf := Lib.run_firstCells_string (P := P) w 1 s
  have hst := run_storeCells_mark P g sLen e fz (Lib.strCells s) 0 cur w hg hfz (by simpa [Lib.strCells_length] using hfit) (Lib.strCells_oneCell s)
  simp only [Nat.add_zero, Lib.strCells_length] at hst
  simp [Builtin.append_, run_underlying ht, run_underlying hu, sizeOf, typeInfo, hi, hs1, Builtin.lenOf, hroom, hf, Addr.add_lit, hst]

theorem mark_in_place {base g cap : Nat} {e : TypeId} {cur : Array Value} {fz : Nat × Nat} {xs : List Int} (ys : List Int) (hbg : base ≤ g) (hg : w.heap[g]? = some (.cells cur e fz)) (hfz : cur.size ≤ fz.1 ∨ fz.2 = 0)
    (hcm : cap ≤ maxLen) (hcs : cur.size = cap) (ht : cur.toList.take xs.length = nums .u8 xs) (hroom : xs.length + ys.length ≤ cap) :
    MRow (w.setRow g (cur.toList.take xs.length ++ nums .u8 ys ++ cur.toList.drop (xs.length + ys.length)).toArray) base e (.slice (some ⟨g, 0, none⟩) (xs ++ ys).length cap) (xs ++ ys) := by
  have hsz : (cur.toList.take xs.length ++ nums .u8 ys ++ cur.toList.drop (xs.length + ys.length)).toArray.size = cap := by
    simp only [List.size_toArray, List.length_append, List.length_take, List.length_drop, Array.length_toList, nums_length]
    omega
  refine ⟨g, cap, _, fz, rfl, hbg, setRow_heap w g cur _ e _ hg, by rw [hsz, ← hcs]; exact hfz, by rw [List.length_append]; exact hroom, hcm, hsz, ?_⟩
  rw [ht, ← nums_append]
  have : (xs ++ ys).length = (nums .u8 (xs ++ ys)).length := by rw [nums_length]
  simp only
  rw [this, List.take_left]

theorem mark_grown {base old : Nat} {e : TypeId} {xs : List Int} (ys : List Int) (hb : base ≤ w.heap.size) (h63 : xs.length + ys.length ≤ maxLen) :
    MRow (w.drew.alloc (.cells ((nums .u8 xs).toArray ++ (nums .u8 ys).toArray ++ Builtin.zeroCells (Value.int .u8 0).cells (grownCap w (xs.length + ys.length) old e - (xs.length + ys.length))) e)) base e
      (.slice (some ⟨w.heap.size, 0, none⟩) (xs ++ ys).length (grownCap w (xs.length + ys.length) old e)) (xs ++ ys) := by
  have hge := grownCap_ge w (xs.length + ys.length) old e
  have hcm : grownCap w (xs.length + ys.length) old e ≤ maxLen := grownCap_le_maxLen w _ old e h63
  have hz1 : (Value.int IntKind.u8 0).cells.size = 1 := rfl
  refine ⟨w.heap.size, _, _, (0, 0), rfl, hb, heap_alloc_new w.drew _, .inr rfl, by rw [List.length_append]; exact hge, hcm, ?_, ?_⟩
  · simp only [Array.size_append, List.size_toArray, size_zeroCells, hz1, nums_length]
    omega
  · simp only [Array.toList_append, ← nums_append]
    have : (xs ++ ys).length = (nums .u8 (xs ++ ys)).length := by rw [nums_length]
    rw [this, List.take_left]

theorem grown_setRow {g : Nat} (cur : Array Value) : w.grownBy (w.setRow g cur) (some g) := ⟨rfl, rfl, rfl, by simp, fun k _ hk => setRow_other w g k _ (fun e => hk (by simp [e]))⟩
theorem grown_new (o : Obj) (row : Option Nat) : w.grownBy (w.drew.alloc o) row := ⟨rfl, rfl, rfl, by simp, fun k hk _ => heap_alloc_old w.drew _ hk⟩

/-- append(v, cells) onto such a row. -/
theorem run_mark_append (base : Nat) (t ty e : TypeId) (i : TypeInfo) (ht : P.underlying t = some (.slice e)) (hi : P.info? e = some i) (hz : i.zero = some (.int .u8 0)) (hsize : i.size = 1) (hby : i.bytes = 1)
    (v : Value) (xs ys : List Int) (hown : MRow w base e v xs) (a : Addr) (c : Nat) (hnews : ∀ j u, (nums .u8 ys)[j]? = some u → w.cell? (a.add j) = some u)
    (hbytes : xs.length + ys.length ≤ 140737488355328) (hbase : base ≤ w.heap.size) :
    ∃ v' w', (Builtin.append_ #[t, t] ty #[v, .slice (some a) ys.length c]).run P w = .ok v' w' ∧ MRow w' base e v' (xs ++ ys) ∧ w.grownBy w' v.ownBlock ∧ (v'.ownBlock = v.ownBlock ∨ v'.ownBlock = some w.heap.size) := by
  have hown' := hown
  obtain ⟨g, cap, cur, fz, rfl, hbg, hg, hfz, hnc, hcm, hcs, htake⟩ := hown
  have h63 : xs.length + ys.length ≤ maxLen := by unfold maxLen; omega
  have h1 : ∀ u ∈ nums .u8 ys, u.oneCell' = true := by
    intro u hu
    simp only [nums, List.mem_map] at hu
    obtain ⟨_, _, rfl⟩ := hu
    rfl
  by_cases hroom : xs.length + ys.length ≤ cap
  · have hr := mark_room (P := P) w t ty e i ht hi hsize g xs.length cap cur fz hg hfz a ys.length c (nums .u8 ys) (nums_length _ _) hnews h1 hroom (by omega)
    refine ⟨_, _, hr, ?_, grown_setRow w _, .inl rfl⟩
    have := mark_in_place w ys hbg hg hfz hcm hcs htake hroom
    rwa [List.length_append] at this
  · have holds := hown'.cells (g := g) rfl
    have hr := run_append_grow (P := P) w t ty e i (.int .u8 0) ht hi hz ⟨g, 0, none⟩ xs.length cap (nums .u8 xs) (by rw [hsize, nums_length]; omega) holds a ys.length c (nums .u8 ys) (by rw [hsize, nums_length]; omega) hnews (by omega) (by omega) (by rw [hby]; exact growslice_fits (by omega) (by omega))
    refine ⟨_, _, hr, ?_, grown_new w _ _, .inr rfl⟩
    have := mark_grown w (old := cap) (e := e) (xs := xs) ys hbase h63
    rwa [List.length_append] at this

/-- append(v, s...) onto such a row. -/
theorem run_mark_append_string (base : Nat) (t u ty e : TypeId) (i : TypeInfo) (ht : P.underlying t = some (.slice e)) (hu : P.underlying u = some .string) (hi : P.info? e = some i) (hz : i.zero = some (.int .u8 0)) (hsize : i.size = 1) (hby : i.bytes = 1)
    (v : Value) (xs : List Int) (s : ByteArray) (hown : MRow w base e v xs)
    (hbytes : xs.length + s.size ≤ 140737488355328) (hbase : base ≤ w.heap.size) :
    ∃ v' w', (Builtin.append_ #[t, u] ty #[v, .string s]).run P w = .ok v' w' ∧ MRow w' base e v' (xs ++ bytesOf s) ∧ w.grownBy w' v.ownBlock ∧ (v'.ownBlock = v.ownBlock ∨ v'.ownBlock = some w.heap.size) := by
  have hown' := hown
  obtain ⟨g, cap, cur, fz, rfl, hbg, hg, hfz, hnc, hcm, hcs, htake⟩ := hown
  have h63 : xs.length + s.size ≤ maxLen := by unfold maxLen; omega
  have hsc : Lib.strCells s = nums .u8 (bytesOf s) := by simp [nums, bytesOf, Lib.strCells]
  have hbl := bytesOf_length s
  by_cases hroom : xs.length + s.size ≤ cap
  · have hr := mark_room_string (P := P) w t u ty e i ht hu hi hsize g xs.length cap cur fz hg hfz s hroom (by omega)
    refine ⟨_, _, hr, ?_, grown_setRow w _, .inl rfl⟩
    have := mark_in_place w (bytesOf s) hbg hg hfz hcm hcs htake (by omega)
    rw [List.length_append, hbl] at this
    rwa [hsc]
  · have holds := hown'.cells (g := g) rfl
    have hr := Lib.run_append_grow_string (P := P) w t u ty e i (.int .u8 0) ht hu hi hz ⟨g, 0, none⟩ xs.length cap (nums .u8 xs) (by rw [hsize, nums_length]; omega) holds s (by omega) (by omega) (by rw [hby]; exact growslice_fits (by omega) (by omega))
    refine ⟨_, _, hr, ?_, grown_new w _ _, .inr rfl⟩
    have := mark_grown w (old := cap) (e := e) (xs := xs) (bytesOf s) hbase (by omega)
    rw [List.length_append, hbl] at this
    rwa [hsc]

/-- 'append(v, s...)', v nil or the call's own: as the kit's law, with the word on where the row lies. -/
theorem run_own_append_string_at (base : Nat) (t u ty e : TypeId) (i : TypeInfo) (ht : P.underlying t = some (.slice e)) (hu : P.underlying u = some .string) (hi : P.info? e = some i) (hz : i.zero = some (.int .u8 0)) (hsize : i.size = 1) (hby : i.bytes = 1)
    (v : Value) (n : Nat) (xs : List Value) (hown : w.ownsRow base e 1 v n xs) (s : ByteArray)
    (hbytes : n + s.size ≤ 140737488355328) (hbase : base ≤ w.heap.size) :
    ∃ v' w', (Builtin.append_ #[t, u] ty #[v, .string s]).run P w = .ok v' w' ∧ w'.ownsRow base e 1 v' (n + s.size) (xs ++ Lib.strCells s) ∧ w.grownBy w' v.ownBlock ∧ (v'.ownBlock = v.ownBlock ∨ v'.ownBlock = some w.heap.size) := by
  obtain ⟨v', w', hr, h2, h3, h4⟩ := Lib.run_append_own_string (P := P) w base t u ty e i ht hu hi hz hsize hby v n xs hown s (by unfold maxLen; omega) hbytes hbase
  refine ⟨v', w', hr, h2, h3, ?_⟩
  have hxl : xs.length = n := by simpa using hown.1
  rcases hown.2 with ⟨rfl, rfl⟩ | ⟨g, cap, cur, rfl, hbg, hg, hnc, hcm, hcs, htake⟩
  · by_cases hm : s.size = 0
    · left; rw [h4.2 ⟨rfl, hm⟩]
    · right
      have hr' := run_append_nil_string (P := P) w t u ty e i (.int .u8 0) ht hu hi hz s (by omega) (by omega) (by rw [hby]; omega)
      rw [hr'] at hr
      injection hr with e1 _
      rw [← e1]
      rfl
  · have hcs' : cur.size = cap := by simpa using hcs
    by_cases hroom : n + s.size ≤ cap
    · left
      have hr' := Lib.run_append_room_string (P := P) w t u ty e i ht hu hi hsize g n cap cur hg s hroom (by omega)
      rw [hr'] at hr
      injection hr with e1 _
      rw [← e1]
      rfl
    · right
      have holds : ∀ j u, xs[j]? = some u → w.cell? ((⟨g, 0, none⟩ : Addr).add j) = some u := World.ownsRow.cells (base := base) (e := e) (size := 1) (v := .slice (some ⟨g, 0, none⟩) n cap) (n := n) ⟨hown.1, .inr ⟨g, cap, cur, rfl, hbg, hg, hnc, hcm, hcs, htake⟩⟩ (g := g) rfl
      have hr' := Lib.run_append_grow_string (P := P) w t u ty e i (.int .u8 0) ht hu hi hz ⟨g, 0, none⟩ n cap xs (by rw [hsize]; simpa using hxl) holds s (by omega) (by omega) (by rw [hby]; exact growslice_fits (by omega) (by omega))
      rw [hr'] at hr
      injection hr with e1 _
      rw [← e1]
      rfl
end

section
variable {P : Program} {ops : Array Oper} {rest : List Oper} {o : Oper} {a : Act} {Q : Exit → Act → World → Prop}
/-- At the operation: 'append(v, x)', v such a row; the goal's world is 'W.alloc' of the variadic's box. -/
theorem MRow_append {w0 W : World} (base : Nat) (hgd : o.guard = none) (s x : Operand) (t e : TypeId)
    (ho : o.op = .call { callee := .builtin .append, args := #[s, x], argTypes := #[t, t] })
    (ht : P.underlying t = some (.slice e)) (hinfo : (P.info? e).map (fun i => (i.zero, i.size, i.bytes)) = some (some (.int .u8 0), 1, 1))
    (v : Value) (xs : List Int) (y : Int) (hs : a.eval s = v) (hx : a.eval x = .slice (some ⟨W.heap.size, 0, none⟩) 1 1)
    (HO : MRow W base e v xs) (HB : Below base w0 W) (hbase : base ≤ W.heap.size) (hl : xs.length + 1 ≤ 140737488355328)
    (h : ∀ v1 w1, MRow w1 base e v1 (xs ++ [y]) → Below base w0 w1 → wpList P ops Q rest (a.put o.dst v1) w1) :
    wpList P ops Q (o :: rest) a (W.alloc (.cells #[.int .u8 y] e)) := by
  obtain ⟨i0, hi, hzz⟩ := Option.map_eq_some_iff.1 hinfo
  simp only [Prod.mk.injEq] at hzz
  obtain ⟨hz0, hz1, hz2⟩ := hzz
  have hb0 : ∀ g, v.ownBlock = some g → base ≤ g := by
    intro g hg
    obtain ⟨g', cap, cur, fz, rfl, hbg, _⟩ := HO
    simp only [Value.ownBlock, Option.some.injEq] at hg
    omega
  obtain ⟨v1, w1, hr, hown, hg, _⟩ := run_mark_append (P := P) (W.alloc (.cells #[.int .u8 y] e)) base t o.type e i0 ht hi hz0 hz1 hz2 v xs [y] (HO.alloc _) ⟨W.heap.size, 0, none⟩ 1
    (cell_one_new W (.int .u8 y) e) hl (by simp; omega)
  refine wpList_plain hgd fun K hK => ?_
  unfold Oper.wp execOp
  simp only [ho, resolve, invoke, builtin, Sem.run_bind, Sem.run_pure, Result.andThen_ok, List.map_toArray, List.map_cons, List.map_nil, hs, hx]
  rw [show ([y] : List Int).length = 1 from rfl] at hr
  simp only [hr, Result.andThen_ok]
  exact hK _ _ (h v1 w1 hown ((HB.alloc hbase _).grown hg (by simp; omega) hb0))
theorem MRow_append_str {w0 W : World} (base : Nat) (hgd : o.guard = none) (s x : Operand) (t u e : TypeId)
    (ho : o.op = .call { callee := .builtin .append, args := #[s, x], argTypes := #[t, u] })
    (ht : P.underlying t = some (.slice e)) (hu : P.underlying u = some .string) (hinfo : (P.info? e).map (fun i => (i.zero, i.size, i.bytes)) = some (some (.int .u8 0), 1, 1))
    (v : Value) (xs : List Int) (y : ByteArray) (hs : a.eval s = v) (hx : a.eval x = .string y)
    (HO : MRow W base e v xs) (HB : Below base w0 W) (hbase : base ≤ W.heap.size) (hl : xs.length + y.size ≤ 140737488355328)
    (h : ∀ v1 w1, MRow w1 base e v1 (xs ++ bytesOf y) → Below base w0 w1 → wpList P ops Q rest (a.put o.dst v1) w1) :
    wpList P ops Q (o :: rest) a W := by
  obtain ⟨i0, hi, hzz⟩ := Option.map_eq_some_iff.1 hinfo
  simp only [Prod.mk.injEq] at hzz
  obtain ⟨hz0, hz1, hz2⟩ := hzz
  have hb0 : ∀ g, v.ownBlock = some g → base ≤ g := by
    intro g hg
    obtain ⟨g', cap, cur, fz, rfl, hbg, _⟩ := HO
    simp only [Value.ownBlock, Option.some.injEq] at hg
    omega
  obtain ⟨v1, w1, hr, hown, hg, _⟩ := run_mark_append_string (P := P) W base t u o.type e i0 ht hu hi hz0 hz1 hz2 v xs y HO hl hbase
  refine wpList_plain hgd fun K hK => ?_
  unfold Oper.wp execOp
  simp only [ho, resolve, invoke, builtin, Sem.run_bind, Sem.run_pure, Result.andThen_ok, List.map_toArray, List.map_cons, List.map_nil, hs, hx, hr]
  exact hK _ _ (h v1 w1 hown (HB.grown hg hbase hb0))
/-- 'append(v, s...)' onto a row of one's own: where it lies. -/
theorem R_append_str_at {w0 W : World} (base : Nat) (hgd : o.guard = none) (s x : Operand) (t u e : TypeId)
    (ho : o.op = .call { callee := .builtin .append, args := #[s, x], argTypes := #[t, u] })
    (ht : P.underlying t = some (.slice e)) (hu : P.underlying u = some .string) (hinfo : (P.info? e).map (fun i => (i.zero, i.size, i.bytes)) = some (some (.int .u8 0), 1, 1))
    (v : Value) (xs : List Int) (y : ByteArray) (ok : Nat → Prop) (hfresh : ∀ k, W.heap.size ≤ k → ok k) (hs : a.eval s = v) (hx : a.eval x = .string y)
    (HO : Kd.R (Kd.int .u8) e W base ok v xs) (HB : Below base w0 W) (hbase : base ≤ W.heap.size) (hl : xs.length + y.size ≤ 140737488355328)
    (h : ∀ v1 w1, Kd.R (Kd.int .u8) e w1 base ok v1 (xs ++ bytesOf y) → Below base w0 w1 → W.grownBy w1 v.ownBlock → (v1.ownBlock = v.ownBlock ∨ ∃ b, v1.ownBlock = some b ∧ W.heap.size ≤ b) → wpList P ops Q rest (a.put o.dst v1) w1) :
    wpList P ops Q (o :: rest) a W := by
  obtain ⟨i0, hi, hzz⟩ := Option.map_eq_some_iff.1 hinfo
  simp only [Prod.mk.injEq] at hzz
  obtain ⟨hz0, hz1, hz2⟩ := hzz
  have HO' := Kd.own_of_R HO
  obtain ⟨v1, w1, hr, hown, hg, hat⟩ := run_own_append_string_at (P := P) W base t u o.type e i0 ht hu hi hz0 hz1 hz2 v xs.length _ HO' y hl hbase
  have hl2 : (xs ++ bytesOf y).length = xs.length + y.size := by rw [List.length_append, bytesOf_length]
  have hc : nums .u8 (xs ++ bytesOf y) = nums .u8 xs ++ Lib.strCells y := by
    rw [nums_append]
    congr 1
    simp [nums, bytesOf, Lib.strCells]
  have hown2 : w1.ownsRow base e 1 v1 (xs ++ bytesOf y).length (nums .u8 (xs ++ bytesOf y)) := by rw [hl2, hc]; exact hown
  have hat2 : v1.ownBlock = v.ownBlock ∨ ∃ b, v1.ownBlock = some b ∧ W.heap.size ≤ b := hat.imp id (fun h => ⟨_, h, Nat.le_refl _⟩)
  refine wpList_plain hgd fun K hK => ?_
  unfold Oper.wp execOp
  simp only [ho, resolve, invoke, builtin, Sem.run_bind, Sem.run_pure, Result.andThen_ok, List.map_toArray, List.map_cons, List.map_nil, hs, hx, hr]
  refine hK _ _ (h v1 w1 (Kd.R_of_own hown2 (fun k hk => ?_)) (HB.grown hg hbase (own_base HO')) hg hat2)
  rcases hat2 with e1 | ⟨b, e1, hbb⟩
  · exact HO.1 k (by rw [← e1]; exact hk)
  · rw [e1] at hk
    injection hk with hk
    subst hk
    exact hfresh _ hbb
end
end Go.Proofs.Ytjmehnlhfcidaaa.HW
