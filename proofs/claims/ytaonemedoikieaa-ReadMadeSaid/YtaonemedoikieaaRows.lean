/-
  No cell of these rows narrows 'for every input' (looked for: loops, veiled, ifaces, maps, wideKeys, modest, calm, conditions, laid).
  DERIVED. THE GIVEN ROWS OF THIS SEAT. 4 by the template 'for every input the law returns true; each argument reads behind the call as it read before'; 0 by the template 'total and deterministic' (their statements: YtaonemedoikieaaTotals.lean).
  GIVEN WITH THE SEED: the statements are not yours to turn. If you find one false, say at which input.
  Laid BY PROGRAM, IN A SANDBOX (cutbox-rows.mjs): the forced cells as the released guide's own fill.sh prints them over the translation 9b119a444d9ec10e… (all of the seat's roots in one cut). By AI agents, Wed Nov 11 2026. No macro, syntax, notation, axiom, sorry.
-/
import Derived.Test.YtaonemedoikieaaChecked
import GoSem.Claim
import GoSem.ClaimJoined
import GoSem.ClaimMapViews
import Derived.JoinedTies
import Derived.KernelRfl
namespace Go.Proofs.Ytaonemedoikieaa
/- THE CELL 'sum', in the pinned program and in every row, IS THE sha256 OF THE DUMP (.gsa) THAT YtaonemedoikieaaProg.lean LOADS. Nothing in Lean hashes anything: it is a label: what it is worth is what the hold of that sum in a sandbox is worth. -/
noncomputable def Try.pinned : Pinned := { name := "ytaonemedoikieaa", sum := "9b119a444d9ec10e6dd55f2542f31745a7c94296ca9c47d2010eb8789b1f9d8b", checked := Try.checked }
namespace Rows
def none {H : Type} : Left H := { results := [], args := [] }

/-- 'deaddroplaw10.ReadSum': WHATEVER THE INPUT: true; the input reads as it did. -/
def readSumSpec : ChangeSpec := { name := "readSum", fn := fun _ => fun
  | [d1, d2] => { results := [.lit (.bool true)], args := [d1, d2] }
  | _ => none }
def readSumRow : OpenClaim := { program := "ytaonemedoikieaa", sum := "9b119a444d9ec10e6dd55f2542f31745a7c94296ca9c47d2010eb8789b1f9d8b", func := "deaddrop/deaddroplaw10.ReadSum", spec := "readSum", recurses := true, apart := false }
def ReadSumSaid : Prop := readSumRow.holds Try.pinned (OpenSpec.ofChange readSumSpec)

/-- ITS FALSE NEIGHBOUR: 'it returns false'. Refute it at one input. -/
def readSumWrong : ChangeSpec := { name := "readSum", fn := fun _ => fun
  | [d1, d2] => { results := [.lit (.bool false)], args := [d1, d2] }
  | _ => none }
def ReadSumWrongFalsely : Prop := readSumRow.holds Try.pinned (OpenSpec.ofChange readSumWrong)

/-- 'deaddroplaw10.ReadAlone': WHATEVER THE INPUT: true; the input reads as it did. -/
def readAloneSpec : ChangeSpec := { name := "readAlone", fn := fun _ => fun
  | [d] => { results := [.lit (.bool true)], args := [d] }
  | _ => none }
def readAloneRow : OpenClaim := { program := "ytaonemedoikieaa", sum := "9b119a444d9ec10e6dd55f2542f31745a7c94296ca9c47d2010eb8789b1f9d8b", func := "deaddrop/deaddroplaw10.ReadAlone", spec := "readAlone", recurses := true, apart := false }
def ReadAloneSaid : Prop := readAloneRow.holds Try.pinned (OpenSpec.ofChange readAloneSpec)

/-- ITS FALSE NEIGHBOUR: 'it returns false'. Refute it at one input. -/
def readAloneWrong : ChangeSpec := { name := "readAlone", fn := fun _ => fun
  | [d] => { results := [.lit (.bool false)], args := [d] }
  | _ => none }
def ReadAloneWrongFalsely : Prop := readAloneRow.holds Try.pinned (OpenSpec.ofChange readAloneWrong)

/-- 'deaddroplaw10.ReadAll': WHATEVER THE INPUT: true; the input reads as it did. -/
def readAllSpec : ChangeSpec := { name := "readAll", fn := fun _ => fun
  | [d1, d2] => { results := [.lit (.bool true)], args := [d1, d2] }
  | _ => none }
def readAllRow : OpenClaim := { program := "ytaonemedoikieaa", sum := "9b119a444d9ec10e6dd55f2542f31745a7c94296ca9c47d2010eb8789b1f9d8b", func := "deaddrop/deaddroplaw10.ReadAll", spec := "readAll", recurses := true, apart := false }
def ReadAllSaid : Prop := readAllRow.holds Try.pinned (OpenSpec.ofChange readAllSpec)

/-- ITS FALSE NEIGHBOUR: 'it returns false'. Refute it at one input. -/
def readAllWrong : ChangeSpec := { name := "readAll", fn := fun _ => fun
  | [d1, d2] => { results := [.lit (.bool false)], args := [d1, d2] }
  | _ => none }
def ReadAllWrongFalsely : Prop := readAllRow.holds Try.pinned (OpenSpec.ofChange readAllWrong)

/-- 'deaddroplaw10.ReadMade': WHATEVER THE INPUT: true; the input reads as it did. -/
def readMadeSpec : ChangeSpec := { name := "readMade", fn := fun _ => fun
  | [d1, d2, d3] => { results := [.lit (.bool true)], args := [d1, d2, d3] }
  | _ => none }
def readMadeRow : OpenClaim := { program := "ytaonemedoikieaa", sum := "9b119a444d9ec10e6dd55f2542f31745a7c94296ca9c47d2010eb8789b1f9d8b", func := "deaddrop/deaddroplaw10.ReadMade", spec := "readMade", recurses := true, apart := false }
def ReadMadeSaid : Prop := readMadeRow.holds Try.pinned (OpenSpec.ofChange readMadeSpec)

/-- ITS FALSE NEIGHBOUR: 'it returns false'. Refute it at one input. -/
def readMadeWrong : ChangeSpec := { name := "readMade", fn := fun _ => fun
  | [d1, d2, d3] => { results := [.lit (.bool false)], args := [d1, d2, d3] }
  | _ => none }
def ReadMadeWrongFalsely : Prop := readMadeRow.holds Try.pinned (OpenSpec.ofChange readMadeWrong)

/- THE SECOND FORM. 'bulk': how many values and letters a reading holds, each counted each time it is reached (what is shared counts as often as it is met; a slice's spare places count too). A statement '..UptoSaid' is the law's where the arguments, and the package variables that the reading takes, are together of bulk at most 1048576: NARROWER than '..Said'. Prove '..Said' where nothing that the law and all that it calls make is longer than what came in: it says more and counts as full. Else prove '..UptoSaid'. A law counts once. -/
mutual
def uptoBulk {H : Type} : DataW H → Nat
  | .lit (.string bytes) => bytes.length + 1
  | .lit _ => 1
  | .nil => 1
  | .ptr d => uptoBulk d + 1
  | .slice elems spare => uptoBulkAll elems + uptoBulkAll spare + 1
  | .agg parts => uptoBulkAll parts + 1
  | .iface _ d => uptoBulk d + 1
  | .map entries => uptoBulkEntries entries + 1
  | .held _ => 1
def uptoBulkAll {H : Type} : List (DataW H) → Nat
  | [] => 0
  | d :: r => uptoBulk d + uptoBulkAll r
def uptoBulkEntries {H : Type} : List (Lit × DataW H) → Nat
  | [] => 0
  | x :: r => uptoBulkEntry x + uptoBulkEntries r
def uptoBulkEntry {H : Type} : Lit × DataW H → Nat
  | (.string bytes, d) => bytes.length + uptoBulk d + 1
  | (_, d) => uptoBulk d + 1
 end
def uptoSmall : (H : Type) → List (DataW H) → Bool := fun _ ds => decide (uptoBulkAll ds ≤ 1048576)
def OpenSpec.upto (s : _root_.Go.ChangeSpec) : _root_.Go.OpenSpec := { _root_.Go.OpenSpec.ofChange s with cond := some uptoSmall }

/-- 'deaddroplaw10.ReadSum', WHERE WHAT IT READS IS OF BULK AT MOST 1048576: true; the input reads as it did. -/
def readSumUptoRow : OpenClaim := { program := "ytaonemedoikieaa", sum := "9b119a444d9ec10e6dd55f2542f31745a7c94296ca9c47d2010eb8789b1f9d8b", func := "deaddrop/deaddroplaw10.ReadSum", spec := "readSum", recurses := true, apart := false, narrowed := true }
def ReadSumUptoSaid : Prop := readSumUptoRow.holds Try.pinned (OpenSpec.upto readSumSpec)

/-- 'deaddroplaw10.ReadAlone', WHERE WHAT IT READS IS OF BULK AT MOST 1048576: true; the input reads as it did. -/
def readAloneUptoRow : OpenClaim := { program := "ytaonemedoikieaa", sum := "9b119a444d9ec10e6dd55f2542f31745a7c94296ca9c47d2010eb8789b1f9d8b", func := "deaddrop/deaddroplaw10.ReadAlone", spec := "readAlone", recurses := true, apart := false, narrowed := true }
def ReadAloneUptoSaid : Prop := readAloneUptoRow.holds Try.pinned (OpenSpec.upto readAloneSpec)

/-- 'deaddroplaw10.ReadAll', WHERE WHAT IT READS IS OF BULK AT MOST 1048576: true; the input reads as it did. -/
def readAllUptoRow : OpenClaim := { program := "ytaonemedoikieaa", sum := "9b119a444d9ec10e6dd55f2542f31745a7c94296ca9c47d2010eb8789b1f9d8b", func := "deaddrop/deaddroplaw10.ReadAll", spec := "readAll", recurses := true, apart := false, narrowed := true }
def ReadAllUptoSaid : Prop := readAllUptoRow.holds Try.pinned (OpenSpec.upto readAllSpec)

/-- 'deaddroplaw10.ReadMade', WHERE WHAT IT READS IS OF BULK AT MOST 1048576: true; the input reads as it did. -/
def readMadeUptoRow : OpenClaim := { program := "ytaonemedoikieaa", sum := "9b119a444d9ec10e6dd55f2542f31745a7c94296ca9c47d2010eb8789b1f9d8b", func := "deaddrop/deaddroplaw10.ReadMade", spec := "readMade", recurses := true, apart := false, narrowed := true }
def ReadMadeUptoSaid : Prop := readMadeUptoRow.holds Try.pinned (OpenSpec.upto readMadeSpec)

end Rows
end Go.Proofs.Ytaonemedoikieaa
