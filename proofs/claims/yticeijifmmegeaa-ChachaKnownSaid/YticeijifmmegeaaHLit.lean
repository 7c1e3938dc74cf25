-- A long literal '[]byte{..}', in one step (own work).
import Derived.Test.YticeijifmmegeaaQx5
import Derived.Lib.SlBytesConst
namespace Go.Proofs.Yticeijifmmegeaa.HLit
open Go.RowKit Go.Proofs.YticeijifmmegeaaW.PrintWords
theorem fill_bytes (vs : List Int) : ∀ (k : Nat) (cs : List Value), k + vs.length ≤ cs.length →
    Instr.fill (fun i => some (i * 1, 1)) cs.toArray ((vs.zipIdx k).map fun q => (q.2, Value.int .u8 q.1)) = some (cs.take k ++ vs.map (fun x => Value.int .u8 x) ++ cs.drop (k + vs.length)).toArray := by
  induction vs with
  | nil => intro k cs _; simp [Instr.fill]
  | cons v t ih =>
    intro k cs hk
    have hk' : k < cs.length := by simp at hk; omega
    have h1 : (Value.int .u8 v).cells.size = 1 := rfl
    have h2 : (Value.int .u8 v).cells = #[.int .u8 v] := rfl
    have h3 : ¬ (k + 1 > cs.length) := by omega
    simp only [List.zipIdx_cons, List.map_cons, Instr.fill, h2]
    have e1 : ((#[Value.int .u8 v] : Array Value).zipIdx.foldl (fun (cs : Array Value) (x : Value × Nat) => cs.setIfInBounds (k * 1 + x.2) x.1) cs.toArray) = (cs.set k (.int .u8 v)).toArray := by simp
    have h4 : ¬ (cs.length < k * 1 + 1) := by omega
    have hc : ¬ ((!decide ((#[Value.int .u8 v] : Array Value).size = 1)) = true ∨ False) := by simp
    rw [if_neg (by simp; omega)]
    have e2 := ih (k + 1) (cs.set k (.int .u8 v)) (by simp at hk ⊢; omega)
    have e1' := e1
    simp only [Nat.mul_one] at e1 e2 ⊢
    refine (congrArg (fun x => Instr.fill (fun i => some (i, 1)) x _) e1).trans (e2.trans ?_)
    congr 1
    have : k + 1 + t.length = k + (t.length + 1) := by omega
    rw [this]
    simp only [List.length_cons]
    congr 1
    rw [List.drop_set_of_lt (by omega), List.take_succ_eq_append_getElem (by simp; exact hk'), List.take_set_of_le (Nat.le_refl _)]
    simp
def ladies : List Int := [76, 97, 100, 105, 101, 115, 32, 97, 110, 100, 32, 71, 101, 110, 116, 108, 101, 109, 101, 110, 32, 111, 102, 32, 116, 104, 101, 32, 99, 108, 97, 115, 115, 32, 111, 102, 32, 39, 57, 57, 58, 32, 73, 102, 32, 73, 32, 99, 111, 117, 108, 100, 32, 111, 102, 102, 101, 114, 32, 121, 111, 117, 32, 111, 110, 108, 121, 32, 111, 110, 101, 32, 116, 105, 112, 32, 102, 111, 114, 32, 116, 104, 101, 32, 102, 117, 116, 117, 114, 101, 44, 32, 115, 117, 110, 115, 99, 114, 101, 101, 110, 32, 119, 111, 117, 108, 100, 32, 98, 101, 32, 105, 116, 46]
theorem reps_bytes {w : World} {b : Nat} {ok : Nat → Prop} (vs : List Int) : Reps (Kd.M (Kd.int .u8) w b ok) (Kd.int .u8).sz vs (vs.map fun x => Value.int .u8 x) := by
  induction vs with
  | nil => exact Reps.none _ _
  | cons v t ih => exact Reps.one (show Kd.M (Kd.int .u8) _ _ _ v [.int .u8 v] from rfl) ih
theorem info5c : (Try.prog.info? 5).map (fun i => (i.zero, i.size)) = some (some (.int .u8 0), 1) := by kernel_rfl
theorem lit_hr (ρ : Operand → Value) (o : Oper) (W : World) (vs : List Int) (ps : Array (Nat × Operand)) (ho : o.op = .buildSlice 25 vs.length ps)
    (hp : ps.toList.map (fun p => (p.1, ρ p.2)) = vs.zipIdx.map (fun q => (q.2, Value.int .u8 q.1))) (hl : vs.length ≤ 1000) (h0 : vs ≠ []) :
    (execOp ρ o).run Try.prog W = .ok (.value (.slice (some ⟨W.heap.size, 0, none⟩) vs.length vs.length)) (W.alloc (.cells (vs.map fun x => Value.int .u8 x).toArray 5)) := by
  obtain ⟨i0, hi, hz⟩ := Option.map_eq_some_iff.1 info5c
  simp only [Prod.mk.injEq] at hz
  have h2 : ps.map (fun p => (p.1, ρ p.2)) = (vs.zipIdx.map (fun q => (q.2, Value.int .u8 q.1))).toArray := by
    apply Array.ext'
    simpa using hp
  have hr : (Array.range (vs.length * 1)).map (fun i => (#[Value.int .u8 0] : Array Value)[i % (#[Value.int .u8 0] : Array Value).size]!) = (List.replicate vs.length (Value.int .u8 0)).toArray := by
    apply Array.ext'
    simp [Nat.mod_one]
    apply List.ext_getElem
    · simp
    · intro i h1 h2; simp
  have hf := fill_bytes vs 0 (List.replicate vs.length (Value.int .u8 0)) (by simp)
  have hf : Instr.fill (fun i => some (i * 1, 1)) (List.replicate vs.length (Value.int .u8 0)).toArray (vs.zipIdx.map fun q => (q.2, Value.int .u8 q.1)) = some (vs.map fun x => Value.int .u8 x).toArray := by
    rw [hf]; simp
  simp only [execOp, ho, h2]
  have hlen : ¬ (16777216 < vs.length) := by omega
  have hr2 : (Array.range vs.length).map (fun x => (Value.int .u8 0).cells[x % (Value.int .u8 0).cells.size]!) = (List.replicate vs.length (Value.int .u8 0)).toArray := by
    rw [← hr, Nat.mul_one]; rfl
  simp only [Nat.mul_one] at hf
  have hf2 : Instr.fill (fun i => some (i, 1)) (Array.replicate vs.length (Value.int .u8 0)) (vs.zipIdx.map fun q => (q.2, Value.int .u8 q.1)) = some (vs.map fun x => Value.int .u8 x).toArray := by
    rw [← hf]; congr 1
  simp [Instr.buildSlice, run_underlying Try.underlying25, sizeOf, typeInfo, zeroValue, hi, hz.1, hz.2, newRow, hlen, h0, hr2, hf2]
theorem conv_hr (ρ : Operand → Value) (o : Oper) {W : World} {vs : List Int} {x : Operand} (ho : o.op = .convert 25 25 x) (hx : ρ x = .slice (some ⟨W.heap.size, 0, none⟩) vs.length vs.length) :
    (execOp ρ o).run Try.prog (W.alloc (.cells (vs.map fun x => Value.int .u8 x).toArray 5)) = .ok (.value (.slice (some ⟨W.heap.size, 0, none⟩) vs.length vs.length)) (W.alloc (.cells (vs.map fun x => Value.int .u8 x).toArray 5 ((vs.map fun x => Value.int .u8 x).toArray.size, (vs.map fun x => Value.int .u8 x).toArray.size + 1))) := by
  have h := Lib.run_convert_bytes_const W 25 5 (vs.map fun x => Value.int .u8 x).toArray vs.length vs.length Try.underlying25 Try.underlying5
  simp only [execOp, ho, hx]
  simp only [Sem.run_bind, h]
  rfl
theorem lit_C (W : World) (vs : List Int) (m : Nat × Nat) (h : vs.length ≤ 1000) : Kd.C (Kd.int .u8) (W.alloc (.cells (vs.map fun x => Value.int .u8 x).toArray 5 m)) (some ⟨W.heap.size, 0, none⟩) vs.length vs := by
  refine ⟨rfl, by omega, fun _ => ⟨_, rfl, fun j p hj => ⟨[.int .u8 p], rfl, rfl, fun i u hu => ?_⟩⟩⟩
  have hi : i = 0 := by
    rcases i with _ | i
    · rfl
    · simp at hu
  subst hi
  have hu' : u = .int .u8 p := by simpa using hu.symm
  subst hu'
  have hg : (W.alloc (.cells (vs.map fun x => Value.int .u8 x).toArray 5 m)).heap[W.heap.size]? = some (.cells (vs.map fun x => Value.int .u8 x).toArray 5 m) := heap_alloc_new _ _
  have hj' : vs[j]? = some p := hj
  have he : (Addr.add ⟨W.heap.size, 0, none⟩ (j * (Kd.int .u8).sz + 0)) = ⟨W.heap.size, j, none⟩ := by
    have : (Kd.int .u8).sz = 1 := rfl
    rw [this]
    unfold Addr.add
    split
    · rename_i hz; simp at hz; subst hz; rfl
    · simp
  rw [he]
  unfold World.cell?
  rw [hg]
  simp [hj']
section
variable {ops : Array Oper} {rest : List Oper} {o : Oper} {a : Act} {Q : Exit → Act → World → Prop} {w0 W : World} {base : Nat}
def Laid (base : Nat) (w0 : World) (vs : List Int) (A : Option Addr) (w1 : World) : Prop := ∃ W0, Below base w0 W0 ∧ base ≤ W0.heap.size ∧ w1 = W0.alloc (.cells (vs.map fun x => Value.int .u8 x).toArray 5) ∧ A = some ⟨W0.heap.size, 0, none⟩
theorem lit_ev (hgd : o.guard = none) {N : Tmp} (_hd : o.dst = some N) (vs : List Int) {m : Nat} {ps : Array (Nat × Operand)} (ho : o.op = .buildSlice 25 m ps) (hm : m = vs.length)
    (hp : ps.toList.map (fun p => (p.1, a.eval p.2)) = vs.zipIdx.map (fun q => (q.2, Value.int .u8 q.1))) (hl : vs.length ≤ 1000) (h0 : vs ≠ []) (HB : Below base w0 W) (hbase : base ≤ W.heap.size)
    (h : ∀ A w1, Laid base w0 vs A w1 → wpList Try.prog ops Q rest (a.put o.dst (.slice A vs.length vs.length)) w1) : wpList Try.prog ops Q (o :: rest) a W := by
  subst hm
  exact Kd.event_run hgd (lit_hr a.eval o W vs ps ho hp hl h0) (h _ _ ⟨W, HB, hbase, rfl, rfl⟩)
theorem conv_ev (hgd : o.guard = none) {N : Tmp} (_hd : o.dst = some N) {vs : List Int} {x : Operand} {A : Option Addr} (ho : o.op = .convert 25 25 x) (hx : a.eval x = .slice A vs.length vs.length) (hl : vs.length ≤ 1000) (HL : Laid base w0 vs A W)
    (h : ∀ w1, Below base w0 w1 → Kd.C (Kd.int .u8) w1 A vs.length vs → wpList Try.prog ops Q rest (a.put o.dst (.slice A vs.length vs.length)) w1) : wpList Try.prog ops Q (o :: rest) a W := by
  obtain ⟨W0, hB, hb, rfl, rfl⟩ := HL
  exact Kd.event_run hgd (conv_hr a.eval o ho hx) (h _ (hB.alloc hb _) (lit_C W0 vs _ hl))
end
end Go.Proofs.Yticeijifmmegeaa.HLit
