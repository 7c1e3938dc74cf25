/-
  No cell of these rows narrows 'for every input' (looked for: loops, veiled, ifaces, maps, wideKeys, modest, calm, conditions, laid).
  DERIVED. THE GIVEN ROWS OF THIS SEAT. 7 by the template 'for every input the law returns true; each argument reads behind the call as it read before'; 0 by the template 'total and deterministic' (their statements: YticeijifmmegeaaTotals.lean).
  GIVEN WITH THE SEED: the statements are not yours to turn. If you find one false, say at which input.
  Laid BY PROGRAM, IN A SANDBOX (cutbox-rows.mjs): the forced cells as the released guide's own fill.sh prints them over the translation a586633d27b233f5… (all of the seat's roots in one cut). By AI agents, Wed Nov 11 2026. No macro, syntax, notation, axiom, sorry.
-/
import Derived.Test.YticeijifmmegeaaChecked
import GoSem.Claim
import GoSem.ClaimJoined
import GoSem.ClaimMapViews
import Derived.JoinedTies
import Derived.KernelRfl
namespace Go.Proofs.Yticeijifmmegeaa
/- THE CELL 'sum', in the pinned program and in every row, IS THE sha256 OF THE DUMP (.gsa) THAT YticeijifmmegeaaProg.lean LOADS. Nothing in Lean hashes anything: it is a label: what it is worth is what the hold of that sum in a sandbox is worth. -/
noncomputable def Try.pinned : Pinned := { name := "yticeijifmmegeaa", sum := "a586633d27b233f506fac0dc97ad6abbc069949e0b21a3ed85203bcf5c0bdaf0", checked := Try.checked }
namespace Rows
def none {H : Type} : Left H := { results := [], args := [] }

/-- 'deaddroplaw1.ChachaBlocks': WHATEVER THE INPUT: true; the input reads as it did. -/
def chachaBlocksSpec : ChangeSpec := { name := "chachaBlocks", fn := fun _ => fun
  | [d1, d2, d3] => { results := [.lit (.bool true)], args := [d1, d2, d3] }
  | _ => none }
def chachaBlocksRow : OpenClaim := { program := "yticeijifmmegeaa", sum := "a586633d27b233f506fac0dc97ad6abbc069949e0b21a3ed85203bcf5c0bdaf0", func := "deaddrop/deaddroplaw1.ChachaBlocks", spec := "chachaBlocks", apart := false }
def ChachaBlocksSaid : Prop := chachaBlocksRow.holds Try.pinned (OpenSpec.ofChange chachaBlocksSpec)

/-- ITS FALSE NEIGHBOUR: 'it returns false'. Refute it at one input. -/
def chachaBlocksWrong : ChangeSpec := { name := "chachaBlocks", fn := fun _ => fun
  | [d1, d2, d3] => { results := [.lit (.bool false)], args := [d1, d2, d3] }
  | _ => none }
def ChachaBlocksWrongFalsely : Prop := chachaBlocksRow.holds Try.pinned (OpenSpec.ofChange chachaBlocksWrong)

/-- 'deaddroplaw1.ChachaXor': WHATEVER THE INPUT: true; the input reads as it did. -/
def chachaXorSpec : ChangeSpec := { name := "chachaXor", fn := fun _ => fun
  | [d1, d2, d3, d4] => { results := [.lit (.bool true)], args := [d1, d2, d3, d4] }
  | _ => none }
def chachaXorRow : OpenClaim := { program := "yticeijifmmegeaa", sum := "a586633d27b233f506fac0dc97ad6abbc069949e0b21a3ed85203bcf5c0bdaf0", func := "deaddrop/deaddroplaw1.ChachaXor", spec := "chachaXor", apart := false }
def ChachaXorSaid : Prop := chachaXorRow.holds Try.pinned (OpenSpec.ofChange chachaXorSpec)

/-- ITS FALSE NEIGHBOUR: 'it returns false'. Refute it at one input. -/
def chachaXorWrong : ChangeSpec := { name := "chachaXor", fn := fun _ => fun
  | [d1, d2, d3, d4] => { results := [.lit (.bool false)], args := [d1, d2, d3, d4] }
  | _ => none }
def ChachaXorWrongFalsely : Prop := chachaXorRow.holds Try.pinned (OpenSpec.ofChange chachaXorWrong)

/-- 'deaddroplaw1.ChachaMade': WHATEVER THE INPUT: true; the input reads as it did. -/
def chachaMadeSpec : ChangeSpec := { name := "chachaMade", fn := fun _ => fun
  | [d1, d2, d3, d4, d5] => { results := [.lit (.bool true)], args := [d1, d2, d3, d4, d5] }
  | _ => none }
def chachaMadeRow : OpenClaim := { program := "yticeijifmmegeaa", sum := "a586633d27b233f506fac0dc97ad6abbc069949e0b21a3ed85203bcf5c0bdaf0", func := "deaddrop/deaddroplaw1.ChachaMade", spec := "chachaMade", apart := false }
def ChachaMadeSaid : Prop := chachaMadeRow.holds Try.pinned (OpenSpec.ofChange chachaMadeSpec)

/-- ITS FALSE NEIGHBOUR: 'it returns false'. Refute it at one input. -/
def chachaMadeWrong : ChangeSpec := { name := "chachaMade", fn := fun _ => fun
  | [d1, d2, d3, d4, d5] => { results := [.lit (.bool false)], args := [d1, d2, d3, d4, d5] }
  | _ => none }
def ChachaMadeWrongFalsely : Prop := chachaMadeRow.holds Try.pinned (OpenSpec.ofChange chachaMadeWrong)

/-- 'deaddroplaw1.ChachaTwice': WHATEVER THE INPUT: true; the input reads as it did. -/
def chachaTwiceSpec : ChangeSpec := { name := "chachaTwice", fn := fun _ => fun
  | [d1, d2, d3, d4] => { results := [.lit (.bool true)], args := [d1, d2, d3, d4] }
  | _ => none }
def chachaTwiceRow : OpenClaim := { program := "yticeijifmmegeaa", sum := "a586633d27b233f506fac0dc97ad6abbc069949e0b21a3ed85203bcf5c0bdaf0", func := "deaddrop/deaddroplaw1.ChachaTwice", spec := "chachaTwice", apart := false }
def ChachaTwiceSaid : Prop := chachaTwiceRow.holds Try.pinned (OpenSpec.ofChange chachaTwiceSpec)

/-- ITS FALSE NEIGHBOUR: 'it returns false'. Refute it at one input. -/
def chachaTwiceWrong : ChangeSpec := { name := "chachaTwice", fn := fun _ => fun
  | [d1, d2, d3, d4] => { results := [.lit (.bool false)], args := [d1, d2, d3, d4] }
  | _ => none }
def ChachaTwiceWrongFalsely : Prop := chachaTwiceRow.holds Try.pinned (OpenSpec.ofChange chachaTwiceWrong)

/-- 'deaddroplaw1.ChachaSizes': WHATEVER THE INPUT: true; the input reads as it did. -/
def chachaSizesSpec : ChangeSpec := { name := "chachaSizes", fn := fun _ => fun
  | [d1, d2, d3, d4] => { results := [.lit (.bool true)], args := [d1, d2, d3, d4] }
  | _ => none }
def chachaSizesRow : OpenClaim := { program := "yticeijifmmegeaa", sum := "a586633d27b233f506fac0dc97ad6abbc069949e0b21a3ed85203bcf5c0bdaf0", func := "deaddrop/deaddroplaw1.ChachaSizes", spec := "chachaSizes", apart := false }
def ChachaSizesSaid : Prop := chachaSizesRow.holds Try.pinned (OpenSpec.ofChange chachaSizesSpec)

/-- ITS FALSE NEIGHBOUR: 'it returns false'. Refute it at one input. -/
def chachaSizesWrong : ChangeSpec := { name := "chachaSizes", fn := fun _ => fun
  | [d1, d2, d3, d4] => { results := [.lit (.bool false)], args := [d1, d2, d3, d4] }
  | _ => none }
def ChachaSizesWrongFalsely : Prop := chachaSizesRow.holds Try.pinned (OpenSpec.ofChange chachaSizesWrong)

/-- 'deaddroplaw1.ChachaKnown': WHATEVER THE INPUT: true; the input reads as it did. -/
def chachaKnownSpec : ChangeSpec := { name := "chachaKnown", fn := fun _ => fun
  | [d1, d2] => { results := [.lit (.bool true)], args := [d1, d2] }
  | _ => none }
def chachaKnownRow : OpenClaim := { program := "yticeijifmmegeaa", sum := "a586633d27b233f506fac0dc97ad6abbc069949e0b21a3ed85203bcf5c0bdaf0", func := "deaddrop/deaddroplaw1.ChachaKnown", spec := "chachaKnown", apart := false }
def ChachaKnownSaid : Prop := chachaKnownRow.holds Try.pinned (OpenSpec.ofChange chachaKnownSpec)

/-- ITS FALSE NEIGHBOUR: 'it returns false'. Refute it at one input. -/
def chachaKnownWrong : ChangeSpec := { name := "chachaKnown", fn := fun _ => fun
  | [d1, d2] => { results := [.lit (.bool false)], args := [d1, d2] }
  | _ => none }
def ChachaKnownWrongFalsely : Prop := chachaKnownRow.holds Try.pinned (OpenSpec.ofChange chachaKnownWrong)

/-- 'deaddroplaw1.ChachaCounts': WHATEVER THE INPUT: true; the input reads as it did. -/
def chachaCountsSpec : ChangeSpec := { name := "chachaCounts", fn := fun _ => fun
  | [d1, d2, d3] => { results := [.lit (.bool true)], args := [d1, d2, d3] }
  | _ => none }
def chachaCountsRow : OpenClaim := { program := "yticeijifmmegeaa", sum := "a586633d27b233f506fac0dc97ad6abbc069949e0b21a3ed85203bcf5c0bdaf0", func := "deaddrop/deaddroplaw1.ChachaCounts", spec := "chachaCounts", apart := false }
def ChachaCountsSaid : Prop := chachaCountsRow.holds Try.pinned (OpenSpec.ofChange chachaCountsSpec)

/-- ITS FALSE NEIGHBOUR: 'it returns false'. Refute it at one input. -/
def chachaCountsWrong : ChangeSpec := { name := "chachaCounts", fn := fun _ => fun
  | [d1, d2, d3] => { results := [.lit (.bool false)], args := [d1, d2, d3] }
  | _ => none }
def ChachaCountsWrongFalsely : Prop := chachaCountsRow.holds Try.pinned (OpenSpec.ofChange chachaCountsWrong)

/- THE SECOND FORM. 'bulk': how many values and letters a reading holds, each counted each time it is reached (what is shared counts as often as it is met; a slice's spare places count too). A statement '..UptoSaid' is the law's where the arguments, and the package variables that the reading takes, are together of bulk at most 1048576: NARROWER than '..Said'. Prove '..Said' where nothing that the law and all that it calls make is longer than what came in: it says more and counts as full. Else prove '..UptoSaid'. A law counts once. -/
mutual
def uptoBulk {H : Type} : DataW H → Nat
  | .lit (.string bytes) => bytes.length + 1
  | .lit _ => 1
  | .nil => 1
  | .ptr d => uptoBulk d + 1
  | .slice elems spare => uptoBulkAll elems + uptoBulkAll spare + 1
  | .agg parts => uptoBulkAll parts + 1
  | .iface _ d => uptoBulk d + 1
  | .map entries => uptoBulkEntries entries + 1
  | .held _ => 1
def uptoBulkAll {H : Type} : List (DataW H) → Nat
  | [] => 0
  | d :: r => uptoBulk d + uptoBulkAll r
def uptoBulkEntries {H : Type} : List (Lit × DataW H) → Nat
  | [] => 0
  | x :: r => uptoBulkEntry x + uptoBulkEntries r
def uptoBulkEntry {H : Type} : Lit × DataW H → Nat
  | (.string bytes, d) => bytes.length + uptoBulk d + 1
  | (_, d) => uptoBulk d + 1
 end
def uptoSmall : (H : Type) → List (DataW H) → Bool := fun _ ds => decide (uptoBulkAll ds ≤ 1048576)
def OpenSpec.upto (s : _root_.Go.ChangeSpec) : _root_.Go.OpenSpec := { _root_.Go.OpenSpec.ofChange s with cond := some uptoSmall }

/-- 'deaddroplaw1.ChachaBlocks', WHERE WHAT IT READS IS OF BULK AT MOST 1048576: true; the input reads as it did. -/
def chachaBlocksUptoRow : OpenClaim := { program := "yticeijifmmegeaa", sum := "a586633d27b233f506fac0dc97ad6abbc069949e0b21a3ed85203bcf5c0bdaf0", func := "deaddrop/deaddroplaw1.ChachaBlocks", spec := "chachaBlocks", apart := false, narrowed := true }
def ChachaBlocksUptoSaid : Prop := chachaBlocksUptoRow.holds Try.pinned (OpenSpec.upto chachaBlocksSpec)

/-- 'deaddroplaw1.ChachaXor', WHERE WHAT IT READS IS OF BULK AT MOST 1048576: true; the input reads as it did. -/
def chachaXorUptoRow : OpenClaim := { program := "yticeijifmmegeaa", sum := "a586633d27b233f506fac0dc97ad6abbc069949e0b21a3ed85203bcf5c0bdaf0", func := "deaddrop/deaddroplaw1.ChachaXor", spec := "chachaXor", apart := false, narrowed := true }
def ChachaXorUptoSaid : Prop := chachaXorUptoRow.holds Try.pinned (OpenSpec.upto chachaXorSpec)

/-- 'deaddroplaw1.ChachaMade', WHERE WHAT IT READS IS OF BULK AT MOST 1048576: true; the input reads as it did. -/
def chachaMadeUptoRow : OpenClaim := { program := "yticeijifmmegeaa", sum := "a586633d27b233f506fac0dc97ad6abbc069949e0b21a3ed85203bcf5c0bdaf0", func := "deaddrop/deaddroplaw1.ChachaMade", spec := "chachaMade", apart := false, narrowed := true }
def ChachaMadeUptoSaid : Prop := chachaMadeUptoRow.holds Try.pinned (OpenSpec.upto chachaMadeSpec)

/-- 'deaddroplaw1.ChachaTwice', WHERE WHAT IT READS IS OF BULK AT MOST 1048576: true; the input reads as it did. -/
def chachaTwiceUptoRow : OpenClaim := { program := "yticeijifmmegeaa", sum := "a586633d27b233f506fac0dc97ad6abbc069949e0b21a3ed85203bcf5c0bdaf0", func := "deaddrop/deaddroplaw1.ChachaTwice", spec := "chachaTwice", apart := false, narrowed := true }
def ChachaTwiceUptoSaid : Prop := chachaTwiceUptoRow.holds Try.pinned (OpenSpec.upto chachaTwiceSpec)

/-- 'deaddroplaw1.ChachaSizes', WHERE WHAT IT READS IS OF BULK AT MOST 1048576: true; the input reads as it did. -/
def chachaSizesUptoRow : OpenClaim := { program := "yticeijifmmegeaa", sum := "a586633d27b233f506fac0dc97ad6abbc069949e0b21a3ed85203bcf5c0bdaf0", func := "deaddrop/deaddroplaw1.ChachaSizes", spec := "chachaSizes", apart := false, narrowed := true }
def ChachaSizesUptoSaid : Prop := chachaSizesUptoRow.holds Try.pinned (OpenSpec.upto chachaSizesSpec)

/-- 'deaddroplaw1.ChachaKnown', WHERE WHAT IT READS IS OF BULK AT MOST 1048576: true; the input reads as it did. -/
def chachaKnownUptoRow : OpenClaim := { program := "yticeijifmmegeaa", sum := "a586633d27b233f506fac0dc97ad6abbc069949e0b21a3ed85203bcf5c0bdaf0", func := "deaddrop/deaddroplaw1.ChachaKnown", spec := "chachaKnown", apart := false, narrowed := true }
def ChachaKnownUptoSaid : Prop := chachaKnownUptoRow.holds Try.pinned (OpenSpec.upto chachaKnownSpec)

/-- 'deaddroplaw1.ChachaCounts', WHERE WHAT IT READS IS OF BULK AT MOST 1048576: true; the input reads as it did. -/
def chachaCountsUptoRow : OpenClaim := { program := "yticeijifmmegeaa", sum := "a586633d27b233f506fac0dc97ad6abbc069949e0b21a3ed85203bcf5c0bdaf0", func := "deaddrop/deaddroplaw1.ChachaCounts", spec := "chachaCounts", apart := false, narrowed := true }
def ChachaCountsUptoSaid : Prop := chachaCountsUptoRow.holds Try.pinned (OpenSpec.upto chachaCountsSpec)

end Rows
end Go.Proofs.Yticeijifmmegeaa
