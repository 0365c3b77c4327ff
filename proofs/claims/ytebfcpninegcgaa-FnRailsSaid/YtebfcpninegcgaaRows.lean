/-
  No cell of these rows narrows 'for every input' (looked for: loops, veiled, ifaces, maps, wideKeys, modest, calm, conditions, laid).
  DERIVED. THE GIVEN ROWS OF THIS SEAT. 2 by the template 'for every input the law returns true; each argument reads behind the call as it read before'; 0 by the template 'total and deterministic' (their statements: YtebfcpninegcgaaTotals.lean).
  GIVEN WITH THE SEED: the statements are not yours to turn. If you find one false, say at which input.
  Laid BY PROGRAM, IN A SANDBOX (cutbox-rows.mjs): the forced cells as the released guide's own fill.sh prints them over the translation 0b5fc2275febd7cc… (all of the seat's roots in one cut). By AI agents, Wed Nov 11 2026. No macro, syntax, notation, axiom, sorry.
-/
import Derived.Test.YtebfcpninegcgaaChecked
import GoSem.Claim
import GoSem.ClaimJoined
import GoSem.ClaimMapViews
import Derived.JoinedTies
import Derived.KernelRfl
namespace Go.Proofs.Ytebfcpninegcgaa
/- THE CELL 'sum', in the pinned program and in every row, IS THE sha256 OF THE DUMP (.gsa) THAT YtebfcpninegcgaaProg.lean LOADS. Nothing in Lean hashes anything: it is a label: what it is worth is what the hold of that sum in a sandbox is worth. -/
noncomputable def Try.pinned : Pinned := { name := "ytebfcpninegcgaa", sum := "0b5fc2275febd7cc08008af166886e37307c1427e76a046de260034b239c860c", checked := Try.checked }
namespace Rows
def none {H : Type} : Left H := { results := [], args := [] }

/-- 'laws.FnExactRailsFor': WHATEVER THE INPUT: true; the input reads as it did. -/
def fnExactRailsForSpec : ChangeSpec := { name := "fnExactRailsFor", fn := fun _ => fun
  | [d] => { results := [.lit (.bool true)], args := [d] }
  | _ => none }
def fnExactRailsForRow : OpenClaim := { program := "ytebfcpninegcgaa", sum := "0b5fc2275febd7cc08008af166886e37307c1427e76a046de260034b239c860c", func := "loop.example/g03306/laws.FnExactRailsFor", spec := "fnExactRailsFor", apart := false }
def FnExactRailsForSaid : Prop := fnExactRailsForRow.holds Try.pinned (OpenSpec.ofChange fnExactRailsForSpec)

/-- ITS FALSE NEIGHBOUR: 'it returns false'. Refute it at one input. -/
def fnExactRailsForWrong : ChangeSpec := { name := "fnExactRailsFor", fn := fun _ => fun
  | [d] => { results := [.lit (.bool false)], args := [d] }
  | _ => none }
def FnExactRailsForWrongFalsely : Prop := fnExactRailsForRow.holds Try.pinned (OpenSpec.ofChange fnExactRailsForWrong)

/-- 'laws.FnRails': WHATEVER THE INPUT: true; the input reads as it did. -/
def fnRailsSpec : ChangeSpec := { name := "fnRails", fn := fun _ => fun
  | [d] => { results := [.lit (.bool true)], args := [d] }
  | _ => none }
def fnRailsRow : OpenClaim := { program := "ytebfcpninegcgaa", sum := "0b5fc2275febd7cc08008af166886e37307c1427e76a046de260034b239c860c", func := "loop.example/g03306/laws.FnRails", spec := "fnRails", unfollowed := true, recurses := true, apart := false }
def FnRailsSaid : Prop := fnRailsRow.holds Try.pinned (OpenSpec.ofChange fnRailsSpec)

/-- ITS FALSE NEIGHBOUR: 'it returns false'. Refute it at one input. -/
def fnRailsWrong : ChangeSpec := { name := "fnRails", fn := fun _ => fun
  | [d] => { results := [.lit (.bool false)], args := [d] }
  | _ => none }
def FnRailsWrongFalsely : Prop := fnRailsRow.holds Try.pinned (OpenSpec.ofChange fnRailsWrong)

/- THE SECOND FORM. 'bulk': how many values and letters a reading holds, each counted each time it is reached (what is shared counts as often as it is met; a slice's spare places count too). A statement '..UptoSaid' is the law's where the arguments, and the package variables that the reading takes, are together of bulk at most 1048576: NARROWER than '..Said'. Prove '..Said' where nothing that the law and all that it calls make is longer than what came in: it says more and counts as full. Else prove '..UptoSaid'. A law counts once. -/
mutual
def uptoBulk {H : Type} : DataW H → Nat
  | .lit (.string bytes) => bytes.length + 1
  | .lit _ => 1
  | .nil => 1
  | .ptr d => uptoBulk d + 1
  | .slice elems spare => uptoBulkAll elems + uptoBulkAll spare + 1
  | .agg parts => uptoBulkAll parts + 1
  | .iface _ d => uptoBulk d + 1
  | .map entries => uptoBulkEntries entries + 1
  | .held _ => 1
def uptoBulkAll {H : Type} : List (DataW H) → Nat
  | [] => 0
  | d :: r => uptoBulk d + uptoBulkAll r
def uptoBulkEntries {H : Type} : List (Lit × DataW H) → Nat
  | [] => 0
  | x :: r => uptoBulkEntry x + uptoBulkEntries r
def uptoBulkEntry {H : Type} : Lit × DataW H → Nat
  | (.string bytes, d) => bytes.length + uptoBulk d + 1
  | (_, d) => uptoBulk d + 1
 end
def uptoSmall : (H : Type) → List (DataW H) → Bool := fun _ ds => decide (uptoBulkAll ds ≤ 1048576)
def OpenSpec.upto (s : _root_.Go.ChangeSpec) : _root_.Go.OpenSpec := { _root_.Go.OpenSpec.ofChange s with cond := some uptoSmall }

/-- 'laws.FnExactRailsFor', WHERE WHAT IT READS IS OF BULK AT MOST 1048576: true; the input reads as it did. -/
def fnExactRailsForUptoRow : OpenClaim := { program := "ytebfcpninegcgaa", sum := "0b5fc2275febd7cc08008af166886e37307c1427e76a046de260034b239c860c", func := "loop.example/g03306/laws.FnExactRailsFor", spec := "fnExactRailsFor", apart := false, narrowed := true }
def FnExactRailsForUptoSaid : Prop := fnExactRailsForUptoRow.holds Try.pinned (OpenSpec.upto fnExactRailsForSpec)

/-- 'laws.FnRails', WHERE WHAT IT READS IS OF BULK AT MOST 1048576: true; the input reads as it did. -/
def fnRailsUptoRow : OpenClaim := { program := "ytebfcpninegcgaa", sum := "0b5fc2275febd7cc08008af166886e37307c1427e76a046de260034b239c860c", func := "loop.example/g03306/laws.FnRails", spec := "fnRails", unfollowed := true, recurses := true, apart := false, narrowed := true }
def FnRailsUptoSaid : Prop := fnRailsUptoRow.holds Try.pinned (OpenSpec.upto fnRailsSpec)

end Rows
end Go.Proofs.Ytebfcpninegcgaa
