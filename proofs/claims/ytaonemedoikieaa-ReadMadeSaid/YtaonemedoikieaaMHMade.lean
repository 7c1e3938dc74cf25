-- ReadMade, in plain Lean (own work; wip/tools/mkmadepure.py takes the keys', items' and counts' lemmas over from QAll).
import Derived.Test.YtaonemedoikieaaMx23
import Derived.Test.YtaonemedoikieaaMHApart
import Derived.Test.YtaonemedoikieaaMHSet
namespace Go.Proofs.Ytaonemedoikieaa.HR
open Go.RowKit Go.Proofs.Ytaonemedoikieaa.M Go.Proofs.YtaonemedoikieaaW.PrintWords Go.Proofs.YtaonemedoikieaaW.PrintLast Go.Proofs.Ytaonemedoikieaa.HT
theorem rdB {l : List ByteArray} {i : Nat} (h : i < l.length) : rdOf ByteArray.empty l (i : Int) = l[i] := by
  unfold rdOf
  rw [Int.toNat_natCast, List.getD_eq_getElem?_getD, List.getElem?_eq_getElem h]; rfl
/-! Insert -/
theorem toL (x : ByteArray) : x.toList = x.data.toList := ByteArray.toList_eq x
structure InsIs (l : List ByteArray) (s : ByteArray) (r : List ByteArray) : Prop where
  rise : (r.map (·.data.toList)).Pairwise (· < ·)
  mem : ∀ x, x ∈ r ↔ x = s ∨ x ∈ l
  len : r.length ≤ l.length + 1
theorem ba_ext {x y : ByteArray} (h : x.data.toList = y.data.toList) : x = y := by
  exact (ba_eta x).symm.trans ((congrArg (fun l : Str => (⟨l.toArray⟩ : ByteArray)) h).trans (ba_eta y))
theorem ins_rise {l : List ByteArray} (h : (l.map (·.data.toList)).Pairwise (· < ·)) (s : ByteArray) (i : Nat) (hi : i ≤ l.length) (h1 : ∀ j (hj : j < l.length), j < i → l[j].data.toList < s.data.toList) (h2 : ∀ j (hj : j < l.length), i ≤ j → s.data.toList < l[j].data.toList) :
    ((l.take i ++ [s] ++ l.drop i).map (·.data.toList)).Pairwise (· < ·) := by
  rw [List.pairwise_map] at h ⊢
  refine List.pairwise_append.2 ⟨List.pairwise_append.2 ⟨h.sublist (List.take_sublist _ _), List.pairwise_singleton _ _, fun x hx y hy => ?_⟩, h.sublist (List.drop_sublist _ _), fun x hx y hy => ?_⟩
  · obtain ⟨j, hj, rfl⟩ := List.mem_iff_getElem.1 hx
    have hy' : y = s := by simpa using hy
    rw [hy', List.getElem_take]
    simp at hj
    exact h1 j (by omega) (by omega)
  · obtain ⟨j, hj, rfl⟩ := List.mem_iff_getElem.1 hy
    rw [List.getElem_drop]
    simp at hj
    have hn := h2 (i + j) (by omega) (by omega)
    rcases List.mem_append.1 hx with hx | hx
    · obtain ⟨q, hq, rfl⟩ := List.mem_iff_getElem.1 hx
      rw [List.getElem_take]
      simp at hq
      exact List.lt_trans (h1 q (by omega) (by omega)) hn
    · have hx' : x = s := by simpa using hx
      rw [hx']; exact hn
theorem Insert_j1 (l : List ByteArray) (s : ByteArray) (hr : (l.map (·.data.toList)).Pairwise (· < ·)) (hl : l.length ≤ 100000) (i : Nat) (hi : i ≤ l.length) (h1 : ∀ j (hj : j < l.length), j < i → l[j].data.toList < s.data.toList) (h2 : ∀ hj : i < l.length, ¬ l[i].data.toList < s.data.toList) :
    Tot (fun k => deaddropref7_Insert.j1 k l s (i : Int)) (InsIs l s) := by
  have hr' : ∀ (a b : Nat) (ha : a < l.length) (hb : b < l.length), a < b → l[a].data.toList < l[b].data.toList := by
    intro a b ha hb hab
    exact List.pairwise_iff_getElem.1 (List.pairwise_map.1 hr) a b ha hb hab
  have mem : ∀ x, x ∈ l.take i ++ [s] ++ l.drop i ↔ x = s ∨ x ∈ l := by
    intro x
    have : x ∈ l ↔ x ∈ l.take i ∨ x ∈ l.drop i := by
      conv => lhs; rw [← List.take_append_drop i l]
      exact List.mem_append
    rw [this]
    simp only [List.mem_append, List.mem_singleton]
    constructor
    · rintro ((h | h) | h)
      · exact .inr (.inl h)
      · exact .inl h
      · exact .inr (.inr h)
    · rintro (h | h | h)
      · exact .inl (.inr h)
      · exact .inl (.inl h)
      · exact .inr h
  have fin : ∀ (h3 : ∀ j (hj : j < l.length), i ≤ j → s.data.toList < l[j].data.toList), InsIs l s ([] ++ l.take i ++ [s] ++ l.drop i) := fun h3 => by
    rw [List.nil_append]
    exact ⟨ins_rise hr s i hi h1 h3, mem, by simp; omega⟩
  refine Tot.step ?_
  simp only [deaddropref7_Insert.j1]
  simp only [Option.bind_some, Int.toNat_natCast]
  refine Tot.ite (fun hlt => Tot.pos (by omega) ?_) (fun hlt => Tot.pos (by omega) (Tot.pos (by omega) (Tot.pos (by simp; omega) (Tot.pos (by simp; omega) (Tot.pos (by simp; omega) (Tot.now (fin fun j hj hij => by omega)))))))
  have hlt' : i < l.length := by omega
  rw [rdB hlt', toL, toL]
  refine Tot.ite (fun he => Tot.now ⟨hr, fun x => ⟨.inr, fun h => ?_⟩, by omega⟩) (fun he => Tot.pos (by omega) (Tot.pos (by simp; omega) (Tot.pos (by simp; omega) (Tot.pos (by simp; omega) (Tot.now (fin fun j hj hij => ?_))))))
  · rcases h with h | h
    · rw [h, ← ba_ext he]; exact List.getElem_mem hlt'
    · exact h
  · have hs : s.data.toList < l[i].data.toList := str_lt_of_le_of_ne (List.not_lt.1 (h2 hlt')) (fun e => he e.symm)
    rcases Nat.lt_or_ge i j with hc | hc
    · exact List.lt_trans hs (hr' i j hlt' hj hc)
    · have : i = j := by omega
      subst this
      exact hs
theorem Insert_tot (l : List ByteArray) (s : ByteArray) (hr : (l.map (·.data.toList)).Pairwise (· < ·)) (hl : l.length ≤ 100000) : Tot (fun k => deaddropref7_Insert.f k l s) (InsIs l s) := by
  have key : ∀ (m i : Nat), l.length - i = m → i ≤ l.length → (∀ j (hj : j < l.length), j < i → l[j].data.toList < s.data.toList) → Tot (fun k => deaddropref7_Insert.l0 k l s (i : Int)) (InsIs l s) := by
    intro m
    induction m with
    | zero =>
      intro i hm hi h1
      refine Tot.step ?_
      simp only [deaddropref7_Insert.l0]
      exact Tot.neg (by omega) (Insert_j1 l s hr hl i hi h1 (fun hj => by omega))
    | succ m ih =>
      intro i hm hi h1
      have hlt : i < l.length := by omega
      refine Tot.step ?_
      simp only [deaddropref7_Insert.l0]
      rw [rdB hlt, wn (by omega), bytesLess_eq, toL, toL]
      refine Tot.pos (by omega) (Tot.pos (by omega) (Tot.ite (fun h => ih (i + 1) (by omega) (by omega) fun j hj hji => ?_) (fun h => Insert_j1 l s hr hl i hi h1 (fun _ hc => h (decide_eq_true hc)))))
      rcases Nat.lt_or_ge j i with hc | hc
      · exact h1 j hj hc
      · have : j = i := by omega
        subst this
        exact of_decide_eq_true h
  exact key _ 0 rfl (Nat.zero_le _) (fun j _ h => by omega)
theorem ins_set {l r q : List ByteArray} {s : ByteArray} (h : SetIs l r) (k : InsIs r s q) : SetIs (l ++ [s]) q := ⟨k.rise, fun x => by
  rw [k.mem, h.2, List.mem_append, List.mem_singleton]
  exact Or.comm⟩
theorem Keys_tot (s : List S70) (f : List S34) (hf : f.length ≤ 1000) : Tot (fun k => deaddropref7_Keys.f k s f) (SetIs (f.map (·.f1))) := by
  have key : ∀ (m i : Nat) (r : List ByteArray), f.length - i = m → i ≤ f.length → SetIs ((f.take i).map (·.f1)) r → r.length ≤ i → Tot (fun k => deaddropref7_Keys.l0 k r (i : Int) s f) (SetIs (f.map (·.f1))) := by
    intro m
    induction m with
    | zero =>
      intro i r hm hi h _
      rw [List.take_of_length_le (by omega)] at h
      refine Tot.step ?_
      simp only [deaddropref7_Keys.l0]
      exact Tot.neg (by omega) (Tot.now h)
    | succ m ih =>
      intro i r hm hi h hrl
      have hlt : i < f.length := by omega
      refine Tot.step ?_
      simp only [deaddropref7_Keys.l0]
      rw [rd34 hlt, wn (by omega)]
      refine Tot.pos (by omega) (Tot.pos (by omega) (Tot.bind (Insert_tot r f[i].f1 h.1 (by omega)) fun q hq => ih (i + 1) q (by omega) (by omega) ?_ (by have := hq.len; omega)))
      rw [List.take_succ_eq_append_getElem hlt, List.map_append]
      exact ins_set h hq
  exact key _ 0 [] rfl (Nat.zero_le _) ⟨List.Pairwise.nil, fun _ => Iff.rfl⟩ (Nat.zero_le _)
theorem Find7_l0 (key : ByteArray) (kind : Int) (s : List S70) (l : List S34) (hl : l.length ≤ 1000) : ∀ (m i : Nat), l.length - i = m → i ≤ l.length → Tot (fun k => deaddropref7_Find.l0 k key kind ((l.take i).filter (isOf key kind)) (i : Int) s l) (fun r => r = l.filter (isOf key kind)) := by
  intro m
  induction m with
  | zero =>
    intro i hm hi
    rw [List.take_of_length_le (by omega)]
    refine Tot.step ?_
    simp only [deaddropref7_Find.l0]
    exact Tot.neg (by omega) (Tot.now rfl)
  | succ m ih =>
    intro i hm hi
    have hlt : i < l.length := by omega
    have next := ih (i + 1) (by omega) (by omega)
    rw [List.take_succ_eq_append_getElem hlt, List.filter_append] at next
    have hfi : ((l.take i).filter (isOf key kind)).length ≤ i := by
      have := List.length_filter_le (isOf key kind) (l.take i)
      rw [List.length_take] at this
      omega
    have jt : ∀ b : Bool, b = isOf key kind l[i] → Tot (fun k => deaddropref7_Find.j1 k key kind ((l.take i).filter (isOf key kind)) (i : Int) b s l) (fun r => r = l.filter (isOf key kind)) := by
      intro b hb
      refine Tot.step ?_
      simp only [deaddropref7_Find.j1]
      rw [rd34 hlt, eta34, wn (by omega)]
      subst hb
      refine Tot.ite (fun h => Tot.pos (by omega) (Tot.pos (by omega) (Tot.pos (by omega) ?_))) (fun h => ?_)
      · rw [List.filter_cons_of_pos h] at next
        exact next
      · rw [List.filter_cons_of_neg h] at next
        simpa using next
    refine Tot.step ?_
    simp only [deaddropref7_Find.l0]
    rw [rd34 hlt]
    refine Tot.pos (by omega) (Tot.pos (by omega) (Tot.ite (fun h => Tot.ite (fun h2 => jt _ ?_) (fun h2 => jt _ ?_)) (fun h => jt _ ?_)))
    · unfold isOf; rw [decide_eq_true h, decide_eq_true h2]; rfl
    · unfold isOf; rw [decide_eq_true h, decide_eq_false h2]; rfl
    · unfold isOf; rw [decide_eq_false h]; rfl
theorem Find7_tot (s : List S70) (l : List S34) (key : ByteArray) (kind : Int) (hl : l.length ≤ 1000) : Tot (fun k => deaddropref7_Find.f k s l key kind) (fun r => r = l.filter (isOf key kind)) :=
  Find7_l0 key kind s l hl _ 0 rfl (Nat.zero_le _)
theorem Items7_tot (s : List S70) (f : List S34) (key : ByteArray) (kind : Int) (hf : f.length ≤ 1000) : Tot (fun k => deaddropref7_Items.f k s f key kind) (SetIs ((f.filter (isOf key kind)).map (·.f3))) := by
  have loop : ∀ (l : List S34), l.length ≤ 1000 → ∀ (m i : Nat) (r : List ByteArray), l.length - i = m → i ≤ l.length → SetIs ((l.take i).map (·.f3)) r → r.length ≤ i → Tot (fun k => deaddropref7_Items.l0 k r l (i : Int)) (SetIs (l.map (·.f3))) := by
    intro l hl m
    induction m with
    | zero =>
      intro i r hm hi h _
      rw [List.take_of_length_le (by omega)] at h
      refine Tot.step ?_
      simp only [deaddropref7_Items.l0]
      exact Tot.neg (by omega) (Tot.now h)
    | succ m ih =>
      intro i r hm hi h hrl
      have hlt : i < l.length := by omega
      refine Tot.step ?_
      simp only [deaddropref7_Items.l0]
      rw [rd34 hlt, wn (by omega)]
      refine Tot.pos (by omega) (Tot.pos (by omega) (Tot.bind (Insert_tot r l[i].f3 h.1 (by omega)) fun q hq => ih (i + 1) q (by omega) (by omega) ?_ (by have := hq.len; omega)))
      rw [List.take_succ_eq_append_getElem hlt, List.map_append]
      exact ins_set h hq
  unfold deaddropref7_Items.f
  refine Tot.bind (Find7_tot s f key kind hf) fun t ht => ?_
  subst ht
  have := List.length_filter_le (isOf key kind) f
  exact loop _ (by omega) _ 0 [] rfl (Nat.zero_le _) ⟨List.Pairwise.nil, fun _ => Iff.rfl⟩ (Nat.zero_le _)
theorem Count7_tot (s : List S70) (f : List S34) (key : ByteArray) (hf : f.length ≤ 1000) : Tot (fun k => deaddropref7_Count.f k s f key) (fun r => r = sumOf 0 (f.filter (isOf key 3))) := by
  have loop : ∀ (l : List S34), l.length ≤ 1000 → ∀ (m i : Nat), l.length - i = m → i ≤ l.length → Tot (fun k => deaddropref7_Count.l0 k (sumOf 0 (l.take i)) l (i : Int)) (fun r => r = sumOf 0 l) := by
    intro l hl m
    induction m with
    | zero =>
      intro i hm hi
      rw [List.take_of_length_le (by omega)]
      refine Tot.step ?_
      simp only [deaddropref7_Count.l0]
      exact Tot.neg (by omega) (Tot.now rfl)
    | succ m ih =>
      intro i hm hi
      have hlt : i < l.length := by omega
      have next := ih (i + 1) (by omega) (by omega)
      rw [List.take_succ_eq_append_getElem hlt] at next
      have : sumOf 0 (l.take i ++ [l[i]]) = wrap64 (sumOf 0 (l.take i) + l[i].f4) := by unfold sumOf; rw [List.foldl_append]; rfl
      rw [this] at next
      refine Tot.step ?_
      simp only [deaddropref7_Count.l0]
      rw [rd34 hlt, wn (by omega)]
      exact Tot.pos (by omega) (Tot.pos (by omega) next)
  unfold deaddropref7_Count.f
  refine Tot.bind (Find7_tot s f key 3 hf) fun t ht => ?_
  subst ht
  have := List.length_filter_le (isOf key 3) f
  exact loop _ (by omega) _ 0 rfl (Nat.zero_le _)
/-! read.Keys -/
theorem rKeys_tot (s : List S70) (l : List S34) (hl : l.length ≤ 1000) : Tot (fun k => read_Keys.f k s l) (SetIs (l.map (·.f1))) := by
  have key : ∀ (m i : Nat), l.length - i = m → i ≤ l.length → Tot (fun k => read_Keys.l0 k ((l.take i).map (·.f1)) l (l.length : Int) (i : Int)) (SetIs (l.map (·.f1))) := by
    intro m
    induction m with
    | zero =>
      intro i hm hi
      rw [List.take_of_length_le (by omega)]
      obtain ⟨r, hr, hs⟩ := set_is (l.map (·.f1)) (by rw [List.length_map]; omega)
      refine Tot.step ?_
      simp only [read_Keys.l0]
      rw [hr]
      exact Tot.neg (by omega) (Tot.now hs)
    | succ m ih =>
      intro i hm hi
      have hlt : i < l.length := by omega
      have next := ih (i + 1) (by omega) (by omega)
      rw [List.take_succ_eq_append_getElem hlt, List.map_append] at next
      refine Tot.step ?_
      simp only [read_Keys.l0]
      rw [rd34 hlt, wn (by omega)]
      exact Tot.pos (by omega) (Tot.pos (by omega) (Tot.pos (by omega) (Tot.pos (by rw [List.length_map, List.length_take]; omega) next)))
  exact key _ 0 rfl (Nat.zero_le _)
theorem nodup_len {α : Type} : ∀ {r l : List α}, r.Nodup → (∀ x, x ∈ r → x ∈ l) → r.length ≤ l.length
  | [], _, _, _ => Nat.zero_le _
  | a :: t, l, nd, h => by
    obtain ⟨l1, l2, rfl⟩ := List.append_of_mem (h a (by simp))
    have nd' := List.nodup_cons.1 nd
    have := nodup_len (r := t) (l := l1 ++ l2) nd'.2 (fun x hx => by
      have hx' := h x (by simp [hx])
      simp only [List.mem_append, List.mem_cons] at hx' ⊢
      rcases hx' with hx' | hx' | hx'
      · exact .inl hx'
      · subst hx'; exact absurd hx nd'.1
      · exact .inr hx')
    simp only [List.length_append, List.length_cons] at this ⊢
    omega
theorem set_len {l r : List ByteArray} (h : SetIs l r) : r.length ≤ l.length := by
  have nd : r.Nodup := (List.pairwise_map.1 h.1).imp fun hlt he => by subst he; exact str_lt_irrefl _ hlt
  exact nodup_len nd fun x hx => (h.2 x).1 hx
theorem Made_l0 (s : List S70) (f : List S34) (key : ByteArray) (hf : f.length ≤ 1000) (ks : List ByteArray) (hk : SetIs (f.map (·.f1)) ks) : ∀ (m i : Nat) (b : Bool), ks.length - i = m → i ≤ ks.length → (b = false → ∀ j (hj : j < ks.length), j < i → ks[j].toList ≠ key.toList) → Tot (fun k => deaddroplaw10_ReadMadeBody.l0 k key ks b (i : Int) s f) (fun r => r = true) := by
  have hkl : ks.length ≤ 1000 := by
    have := set_len hk
    rw [List.length_map] at this
    omega
  have hkv : ∀ v : Int, ((f.filter (isOf key v)).map (·.f3)).length ≤ 1000 := fun v => by
    rw [List.length_map]
    have := List.length_filter_le (isOf key v) f
    omega
  have fin : ∀ {l r : List ByteArray}, l.length ≤ 1000 → SetIs l r → r.length ≤ 1000000000 := fun hl h => by have := set_len h; omega
  intro m
  induction m with
  | zero =>
    intro i b hm hi hb
    refine Tot.step ?_
    simp only [deaddroplaw10_ReadMadeBody.l0]
    refine Tot.neg (by omega) (Tot.bind (Texts_tot s f key (by omega)) fun c hc => Tot.bind (Members_tot s f key (by omega)) fun mm hmm => Tot.bind (Count_tot s f key (by omega)) fun x hx => Tot.bind (Keys_tot s f (by omega)) fun q hq => ?_)
    have e1 := hk.uniq hq (fun _ => Iff.rfl)
    subst e1
    refine Tot.bind (Same_self ks (by omega)) fun r hr => Tot.pos hr (Tot.bind (Items7_tot s f key 1 hf) fun d hd => ?_)
    have e2 := hc.uniq hd (fun _ => Iff.rfl)
    subst e2
    refine Tot.bind (Same_self c (fin (hkv 1) hc)) fun r hr => Tot.pos hr (Tot.bind (Items7_tot s f key 2 hf) fun n hn => ?_)
    have e3 := hmm.uniq hn (fun _ => Iff.rfl)
    subst e3
    refine Tot.bind (Same_self mm (fin (hkv 2) hmm)) fun r hr => Tot.pos hr (Tot.bind (Count7_tot s f key hf) fun y hy => Tot.pos (hx.trans hy.symm) ?_)
    cases b with
    | true => exact Tot.pos rfl (Tot.bind awake_tot fun r hr => Tot.now hr)
    | false =>
      have nil_ : ∀ v : Int, f.filter (isOf key v) = [] := fun v => by
        refine List.filter_eq_nil_iff.2 fun y hy => ?_
        have hm : y.f1 ∈ ks := (hk.2 y.f1).2 (List.mem_map_of_mem hy)
        obtain ⟨j, hj, he⟩ := List.mem_iff_getElem.1 hm
        have hne := hb rfl j hj (by omega)
        rw [he] at hne
        unfold isOf
        rw [decide_eq_false hne]
        simp
      have emp : ∀ {v : Int} {r : List ByteArray}, SetIs ((f.filter (isOf key v)).map (·.f3)) r → (r.length : Int) = 0 := fun {v r} h => by
        rw [nil_ v] at h
        have := set_len h
        simp at this
        simp [this]
      refine Tot.neg (by decide) (Tot.pos (emp hc) (Tot.pos (emp hmm) (Tot.pos ?_ (Tot.bind awake_tot fun r hr => Tot.now hr))))
      rw [hx, nil_ 3]
      rfl
  | succ m ih =>
    intro i b hm hi hb
    have hlt : i < ks.length := by omega
    refine Tot.step ?_
    simp only [deaddroplaw10_ReadMadeBody.l0]
    rw [rdB hlt, wn (by omega)]
    refine Tot.pos (by omega) (Tot.ite (fun hbt => ih (i + 1) true (by omega) (by omega) (fun h => by cases h)) (fun hbf => Tot.pos (by omega) (ih (i + 1) _ (by omega) (by omega) ?_)))
    intro he j hj hji
    rcases Nat.lt_or_ge j i with hc | hc
    · exact hb (Bool.eq_false_iff.mpr hbf) j hj hc
    · have : j = i := by omega
      subst this
      simpa using he
theorem ReadMade_pure (ns : List Int) (which key : Int) (hns : ∀ x, x ∈ ns → ByteIn x) (hw : ByteIn which) : Tot (fun k => deaddroplaw10_ReadMade.f k ns which key) (fun r => r = true) := by
  have body : ∀ (s : List S70) (f : List S34), Good 40 s f → Tot (fun k => deaddroplaw10_ReadMadeBody.f k ns which key s f) (fun r => r = true) := by
    intro s f hG
    have hfl : f.length ≤ 1000 := by
      have := hG.flen (by decide)
      omega
    unfold deaddroplaw10_ReadMadeBody.f
    exact Tot.bind (rKeys_tot s f hfl) fun ks hk => Made_l0 s f _ hfl ks hk _ 0 false rfl (Nat.zero_le _) (fun _ j hj h => by omega)
  have h0 : 0 ≤ Int.tmod which 5 := by
    rw [Int.tmod_eq_emod_of_nonneg hw.1]
    exact Int.emod_nonneg _ (by decide)
  unfold deaddroplaw10_ReadMade.f
  refine Tot.bind (Apart_tot ns hns) fun l hL => Tot.bind (All_tot hL) fun a ha => Tot.ite (fun h => Tot.bind (Apart_tot ns hns) fun l2 hL2 => Tot.pos h0 (Tot.pos ?_ (body _ _ (hL2.at_ _ h0 h)))) (fun h => body _ _ ha)
  have := hL2.1
  omega
end Go.Proofs.Ytaonemedoikieaa.HR
