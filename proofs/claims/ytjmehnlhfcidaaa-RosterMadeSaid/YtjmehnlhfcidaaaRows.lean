/-
  No cell of these rows narrows 'for every input' (looked for: loops, veiled, ifaces, maps, wideKeys, modest, calm, conditions, laid).
  DERIVED. THE GIVEN ROWS OF THIS SEAT. 3 by the template 'for every input the law returns true; each argument reads behind the call as it read before'; 0 by the template 'total and deterministic' (their statements: YtjmehnlhfcidaaaTotals.lean).
  GIVEN WITH THE SEED: the statements are not yours to turn. If you find one false, say at which input.
  Laid BY PROGRAM, IN A SANDBOX (cutbox-rows.mjs): the forced cells as the released guide's own fill.sh prints them over the translation 87153a70e09d5666… (all of the seat's roots in one cut). By AI agents, Wed Nov 11 2026. No macro, syntax, notation, axiom, sorry.
-/
import Derived.Test.YtjmehnlhfcidaaaChecked
import GoSem.Claim
import GoSem.ClaimJoined
import GoSem.ClaimMapViews
import Derived.JoinedTies
import Derived.KernelRfl
namespace Go.Proofs.Ytjmehnlhfcidaaa
/- THE CELL 'sum', in the pinned program and in every row, IS THE sha256 OF THE DUMP (.gsa) THAT YtjmehnlhfcidaaaProg.lean LOADS. Nothing in Lean hashes anything: it is a label: what it is worth is what the hold of that sum in a sandbox is worth. -/
noncomputable def Try.pinned : Pinned := { name := "ytjmehnlhfcidaaa", sum := "87153a70e09d5666bd49da3c5d932272a12a07da14ff862b401988f8ed0593ee", checked := Try.checked }
namespace Rows
def none {H : Type} : Left H := { results := [], args := [] }

/-- 'deaddroplaw16.RosterAll': WHATEVER THE INPUT: true; the input reads as it did. -/
def rosterAllSpec : ChangeSpec := { name := "rosterAll", fn := fun _ => fun
  | [d1, d2, d3] => { results := [.lit (.bool true)], args := [d1, d2, d3] }
  | _ => none }
def rosterAllRow : OpenClaim := { program := "ytjmehnlhfcidaaa", sum := "87153a70e09d5666bd49da3c5d932272a12a07da14ff862b401988f8ed0593ee", func := "deaddrop/deaddroplaw16.RosterAll", spec := "rosterAll", recurses := true, apart := false }
def RosterAllSaid : Prop := rosterAllRow.holds Try.pinned (OpenSpec.ofChange rosterAllSpec)

/-- ITS FALSE NEIGHBOUR: 'it returns false'. Refute it at one input. -/
def rosterAllWrong : ChangeSpec := { name := "rosterAll", fn := fun _ => fun
  | [d1, d2, d3] => { results := [.lit (.bool false)], args := [d1, d2, d3] }
  | _ => none }
def RosterAllWrongFalsely : Prop := rosterAllRow.holds Try.pinned (OpenSpec.ofChange rosterAllWrong)

/-- 'deaddroplaw16.RosterMade': WHATEVER THE INPUT: true; the input reads as it did. -/
def rosterMadeSpec : ChangeSpec := { name := "rosterMade", fn := fun _ => fun
  | [d1, d2] => { results := [.lit (.bool true)], args := [d1, d2] }
  | _ => none }
def rosterMadeRow : OpenClaim := { program := "ytjmehnlhfcidaaa", sum := "87153a70e09d5666bd49da3c5d932272a12a07da14ff862b401988f8ed0593ee", func := "deaddrop/deaddroplaw16.RosterMade", spec := "rosterMade", recurses := true, apart := false }
def RosterMadeSaid : Prop := rosterMadeRow.holds Try.pinned (OpenSpec.ofChange rosterMadeSpec)

/-- ITS FALSE NEIGHBOUR: 'it returns false'. Refute it at one input. -/
def rosterMadeWrong : ChangeSpec := { name := "rosterMade", fn := fun _ => fun
  | [d1, d2] => { results := [.lit (.bool false)], args := [d1, d2] }
  | _ => none }
def RosterMadeWrongFalsely : Prop := rosterMadeRow.holds Try.pinned (OpenSpec.ofChange rosterMadeWrong)

/-- 'deaddroplaw16.RosterLater': WHATEVER THE INPUT: true; the input reads as it did. -/
def rosterLaterSpec : ChangeSpec := { name := "rosterLater", fn := fun _ => fun
  | [d1, d2, d3] => { results := [.lit (.bool true)], args := [d1, d2, d3] }
  | _ => none }
def rosterLaterRow : OpenClaim := { program := "ytjmehnlhfcidaaa", sum := "87153a70e09d5666bd49da3c5d932272a12a07da14ff862b401988f8ed0593ee", func := "deaddrop/deaddroplaw16.RosterLater", spec := "rosterLater", recurses := true, apart := false }
def RosterLaterSaid : Prop := rosterLaterRow.holds Try.pinned (OpenSpec.ofChange rosterLaterSpec)

/-- ITS FALSE NEIGHBOUR: 'it returns false'. Refute it at one input. -/
def rosterLaterWrong : ChangeSpec := { name := "rosterLater", fn := fun _ => fun
  | [d1, d2, d3] => { results := [.lit (.bool false)], args := [d1, d2, d3] }
  | _ => none }
def RosterLaterWrongFalsely : Prop := rosterLaterRow.holds Try.pinned (OpenSpec.ofChange rosterLaterWrong)

/- THE SECOND FORM. 'bulk': how many values and letters a reading holds, each counted each time it is reached (what is shared counts as often as it is met; a slice's spare places count too). A statement '..UptoSaid' is the law's where the arguments, and the package variables that the reading takes, are together of bulk at most 1048576: NARROWER than '..Said'. Prove '..Said' where nothing that the law and all that it calls make is longer than what came in: it says more and counts as full. Else prove '..UptoSaid'. A law counts once. -/
mutual
def uptoBulk {H : Type} : DataW H → Nat
  | .lit (.string bytes) => bytes.length + 1
  | .lit _ => 1
  | .nil => 1
  | .ptr d => uptoBulk d + 1
  | .slice elems spare => uptoBulkAll elems + uptoBulkAll spare + 1
  | .agg parts => uptoBulkAll parts + 1
  | .iface _ d => uptoBulk d + 1
  | .map entries => uptoBulkEntries entries + 1
  | .held _ => 1
def uptoBulkAll {H : Type} : List (DataW H) → Nat
  | [] => 0
  | d :: r => uptoBulk d + uptoBulkAll r
def uptoBulkEntries {H : Type} : List (Lit × DataW H) → Nat
  | [] => 0
  | x :: r => uptoBulkEntry x + uptoBulkEntries r
def uptoBulkEntry {H : Type} : Lit × DataW H → Nat
  | (.string bytes, d) => bytes.length + uptoBulk d + 1
  | (_, d) => uptoBulk d + 1
 end
def uptoSmall : (H : Type) → List (DataW H) → Bool := fun _ ds => decide (uptoBulkAll ds ≤ 1048576)
def OpenSpec.upto (s : _root_.Go.ChangeSpec) : _root_.Go.OpenSpec := { _root_.Go.OpenSpec.ofChange s with cond := some uptoSmall }

/-- 'deaddroplaw16.RosterAll', WHERE WHAT IT READS IS OF BULK AT MOST 1048576: true; the input reads as it did. -/
def rosterAllUptoRow : OpenClaim := { program := "ytjmehnlhfcidaaa", sum := "87153a70e09d5666bd49da3c5d932272a12a07da14ff862b401988f8ed0593ee", func := "deaddrop/deaddroplaw16.RosterAll", spec := "rosterAll", recurses := true, apart := false, narrowed := true }
def RosterAllUptoSaid : Prop := rosterAllUptoRow.holds Try.pinned (OpenSpec.upto rosterAllSpec)

/-- 'deaddroplaw16.RosterMade', WHERE WHAT IT READS IS OF BULK AT MOST 1048576: true; the input reads as it did. -/
def rosterMadeUptoRow : OpenClaim := { program := "ytjmehnlhfcidaaa", sum := "87153a70e09d5666bd49da3c5d932272a12a07da14ff862b401988f8ed0593ee", func := "deaddrop/deaddroplaw16.RosterMade", spec := "rosterMade", recurses := true, apart := false, narrowed := true }
def RosterMadeUptoSaid : Prop := rosterMadeUptoRow.holds Try.pinned (OpenSpec.upto rosterMadeSpec)

/-- 'deaddroplaw16.RosterLater', WHERE WHAT IT READS IS OF BULK AT MOST 1048576: true; the input reads as it did. -/
def rosterLaterUptoRow : OpenClaim := { program := "ytjmehnlhfcidaaa", sum := "87153a70e09d5666bd49da3c5d932272a12a07da14ff862b401988f8ed0593ee", func := "deaddrop/deaddroplaw16.RosterLater", spec := "rosterLater", recurses := true, apart := false, narrowed := true }
def RosterLaterUptoSaid : Prop := rosterLaterUptoRow.holds Try.pinned (OpenSpec.upto rosterLaterSpec)

end Rows
end Go.Proofs.Ytjmehnlhfcidaaa
