-- Short words for what the printed texts say often (own work): each is a step with its proof as a default.
import Derived.Test.YtaonemedoikieaaWWords
import Derived.Test.YtaonemedoikieaaWLast
import Derived.Test.YtaonemedoikieaaWApart
import Derived.Test.YtaonemedoikieaaWMore
namespace Go.Proofs.Ytaonemedoikieaa.AB
open Go.RowKit Go.Proofs.YtaonemedoikieaaW.PrintWords Go.Proofs.YtaonemedoikieaaW.PrintLast Go.Proofs.YtaonemedoikieaaW.PrintMore
/-- k trues, then falses: n in all. -/
def fl (k n : Nat) : Array Bool := (List.replicate k true ++ List.replicate (n - k) false).toArray
theorem bk {p q : Prop} (h : p) (t : p → q := by intro h; (with_reducible repeat (first | refine blk_drewN ?_ _ | refine blk_drew ?_ | refine blk_alloc ?_ _)); exact h) : q := t h
theorem rk {p q : Prop} (h : p) (t : p → q := by intro h; (with_reducible repeat (first | apply Kd.R_alloc | apply Kd.R_drewN | apply Kd.R_drew)); exact h) : q := t h
theorem vk {p q : Prop} (h : p) (t : p → q := by intro h; (with_reducible repeat (first | apply Kd.V_alloc | apply Kd.V_drewN | apply Kd.V_drew)); exact h) : q := t h
theorem nk {p q : Prop} (h : p) (t : p → q := by intro h; (with_reducible repeat (first | apply Kd.N_alloc | apply Kd.N_drewN | apply Kd.N_drew)); exact h) : q := t h
theorem ck {p q : Prop} (h : p) (t : p → q := by intro h; repeat (first | (with_reducible exact h) | (with_reducible refine Kd.C_alloc ?_ _) | (with_reducible refine Kd.C_drewN ?_ _) | (with_reducible refine Kd.C_drew ?_) | exact h)) : q := t h
theorem cr {p q : Prop} (h : p) (t : p → q := by intro h; repeat (first | exact h | (with_reducible refine Kd.C_alloc ?_ _) | (with_reducible refine Kd.C_drewN ?_ _) | (with_reducible refine Kd.C_drew ?_))) : q := t h
theorem bw {p q : Prop} (h : p) (t : p → q := by intro h; repeat (first | (with_reducible first | exact h | apply below_alloc | apply pw_below_drewN | apply below_drew1) | exact h)) : q := t h
theorem bw1 {p a q : Prop} (h : p) (ha : a) (t : p → a → q := by intro h ha; repeat (first | (with_reducible first | exact h | apply below_alloc | apply pw_below_drewN | apply below_drew1 | refine below_set ?_ ha) | exact h)) : q := t h ha
theorem bw2 {p a b q : Prop} (h : p) (ha : a) (hb : b) (t : p → a → b → q := by intro h ha hb; repeat (first | (with_reducible first | exact h | apply below_alloc | apply pw_below_drewN | apply below_drew1 | refine below_set ?_ ha | refine below_set ?_ hb) | exact h)) : q := t h ha hb
theorem bw3 {p a b c q : Prop} (h : p) (ha : a) (hb : b) (hc : c) (t : p → a → b → c → q := by intro h ha hb hc; repeat (first | (with_reducible first | exact h | apply below_alloc | apply pw_below_drewN | apply below_drew1 | refine below_set ?_ ha | refine below_set ?_ hb | refine below_set ?_ hc) | exact h)) : q := t h ha hb hc
theorem bw4 {p a b c d q : Prop} (h : p) (ha : a) (hb : b) (hc : c) (hd : d) (t : p → a → b → c → d → q := by intro h ha hb hc hd; repeat (first | (with_reducible first | exact h | apply below_alloc | apply pw_below_drewN | apply below_drew1 | refine below_set ?_ ha | refine below_set ?_ hb | refine below_set ?_ hc | refine below_set ?_ hd) | exact h)) : q := t h ha hb hc hd
theorem bw5 {p a b c d e q : Prop} (h : p) (ha : a) (hb : b) (hc : c) (hd : d) (he : e) (t : p → a → b → c → d → e → q := by intro h ha hb hc hd he; repeat (first | (with_reducible first | exact h | apply below_alloc | apply pw_below_drewN | apply below_drew1 | refine below_set ?_ ha | refine below_set ?_ hb | refine below_set ?_ hc | refine below_set ?_ hd | refine below_set ?_ he) | exact h)) : q := t h ha hb hc hd he
theorem bw6 {p a b c d e f q : Prop} (h : p) (ha : a) (hb : b) (hc : c) (hd : d) (he : e) (hf : f) (t : p → a → b → c → d → e → f → q := by intro h ha hb hc hd he hf; repeat (first | (with_reducible first | exact h | apply below_alloc | apply pw_below_drewN | apply below_drew1 | refine below_set ?_ ha | refine below_set ?_ hb | refine below_set ?_ hc | refine below_set ?_ hd | refine below_set ?_ he | refine below_set ?_ hf) | exact h)) : q := t h ha hb hc hd he hf
theorem bc {w W : World} {p : Addr} {v : Value} (hB : Below w.heap.size w W) (h : w.cell? p = some v) : W.cell? p = some v := (hB.cell (World.block_lt_of_cell? w _ h)).trans h
theorem as_ {p : Prop} (h : p := by first | (with_reducible assumption) | assumption) : p := h
theorem ok_ {p : Prop} (h : p := by first | rfl | (simp; done) | (simp [*]; done)) : p := h
theorem ar_ {p : Prop} (h : p := by (try simp only [List.map_toArray, List.map_cons, List.map_nil]); first | done | rfl | (simp only [List.length_drop, List.length_take]; rfl)) : p := h
theorem py {p : Prop} (h : p := by intro w'; go_simp; with_reducible rfl) : p := h
theorem pa {p : Prop} (h : p := by simp only [Act.put, List.setIfInBounds_toArray, List.set_cons_zero, List.set_cons_succ, i64_w, i32_w]; rfl) : p := h
end Go.Proofs.Ytaonemedoikieaa.AB
