/-
  No cell of these rows narrows 'for every input' (looked for: loops, veiled, ifaces, maps, wideKeys, modest, calm, conditions, laid).
  DERIVED. THE GIVEN ROWS OF THIS SEAT. 11 by the template 'for every input the law returns true; each argument reads behind the call as it read before'; 0 by the template 'total and deterministic' (their statements: YtcgkcoogaieolaaTotals.lean).
  GIVEN WITH THE SEED: the statements are not yours to turn. If you find one false, say at which input.
  Laid BY PROGRAM, IN A SANDBOX (cutbox-rows.mjs): the forced cells as the released guide's own fill.sh prints them over the translation 35183562c2691b36… (all of the seat's roots in one cut). By AI agents, Wed Nov 11 2026. No macro, syntax, notation, axiom, sorry.
-/
import Derived.Test.YtcgkcoogaieolaaChecked
import GoSem.Claim
import GoSem.ClaimJoined
import GoSem.ClaimMapViews
import Derived.JoinedTies
import Derived.KernelRfl
namespace Go.Proofs.Ytcgkcoogaieolaa
/- THE CELL 'sum', in the pinned program and in every row, IS THE sha256 OF THE DUMP (.gsa) THAT YtcgkcoogaieolaaProg.lean LOADS. Nothing in Lean hashes anything: it is a label: what it is worth is what the hold of that sum in a sandbox is worth. -/
noncomputable def Try.pinned : Pinned := { name := "ytcgkcoogaieolaa", sum := "35183562c2691b3616b64bb9b003103418bd2bd03b47f0047efb3a5ba101c662", checked := Try.checked }
namespace Rows
def none {H : Type} : Left H := { results := [], args := [] }

/-- 'laws.FnExactJoinCrosses': WHATEVER THE INPUT: true; the input reads as it did. -/
def fnExactJoinCrossesSpec : ChangeSpec := { name := "fnExactJoinCrosses", fn := fun _ => fun
  | [d1, d2] => { results := [.lit (.bool true)], args := [d1, d2] }
  | _ => none }
def fnExactJoinCrossesRow : OpenClaim := { program := "ytcgkcoogaieolaa", sum := "35183562c2691b3616b64bb9b003103418bd2bd03b47f0047efb3a5ba101c662", func := "loop.example/g03306/laws.FnExactJoinCrosses", spec := "fnExactJoinCrosses", apart := false }
def FnExactJoinCrossesSaid : Prop := fnExactJoinCrossesRow.holds Try.pinned (OpenSpec.ofChange fnExactJoinCrossesSpec)

/-- ITS FALSE NEIGHBOUR: 'it returns false'. Refute it at one input. -/
def fnExactJoinCrossesWrong : ChangeSpec := { name := "fnExactJoinCrosses", fn := fun _ => fun
  | [d1, d2] => { results := [.lit (.bool false)], args := [d1, d2] }
  | _ => none }
def FnExactJoinCrossesWrongFalsely : Prop := fnExactJoinCrossesRow.holds Try.pinned (OpenSpec.ofChange fnExactJoinCrossesWrong)

/-- 'laws.FnExactFullTurn': WHATEVER THE INPUT: true; the input reads as it did. -/
def fnExactFullTurnSpec : ChangeSpec := { name := "fnExactFullTurn", fn := fun _ => fun
  | [d1, d2, d3, d4] => { results := [.lit (.bool true)], args := [d1, d2, d3, d4] }
  | _ => none }
def fnExactFullTurnRow : OpenClaim := { program := "ytcgkcoogaieolaa", sum := "35183562c2691b3616b64bb9b003103418bd2bd03b47f0047efb3a5ba101c662", func := "loop.example/g03306/laws.FnExactFullTurn", spec := "fnExactFullTurn", apart := false }
def FnExactFullTurnSaid : Prop := fnExactFullTurnRow.holds Try.pinned (OpenSpec.ofChange fnExactFullTurnSpec)

/-- ITS FALSE NEIGHBOUR: 'it returns false'. Refute it at one input. -/
def fnExactFullTurnWrong : ChangeSpec := { name := "fnExactFullTurn", fn := fun _ => fun
  | [d1, d2, d3, d4] => { results := [.lit (.bool false)], args := [d1, d2, d3, d4] }
  | _ => none }
def FnExactFullTurnWrongFalsely : Prop := fnExactFullTurnRow.holds Try.pinned (OpenSpec.ofChange fnExactFullTurnWrong)

/-- 'laws.FnTwists': WHATEVER THE INPUT: true; the input reads as it did. -/
def fnTwistsSpec : ChangeSpec := { name := "fnTwists", fn := fun _ => fun
  | [d] => { results := [.lit (.bool true)], args := [d] }
  | _ => none }
def fnTwistsRow : OpenClaim := { program := "ytcgkcoogaieolaa", sum := "35183562c2691b3616b64bb9b003103418bd2bd03b47f0047efb3a5ba101c662", func := "loop.example/g03306/laws.FnTwists", spec := "fnTwists", unfollowed := true, recurses := true, apart := false }
def FnTwistsSaid : Prop := fnTwistsRow.holds Try.pinned (OpenSpec.ofChange fnTwistsSpec)

/-- ITS FALSE NEIGHBOUR: 'it returns false'. Refute it at one input. -/
def fnTwistsWrong : ChangeSpec := { name := "fnTwists", fn := fun _ => fun
  | [d] => { results := [.lit (.bool false)], args := [d] }
  | _ => none }
def FnTwistsWrongFalsely : Prop := fnTwistsRow.holds Try.pinned (OpenSpec.ofChange fnTwistsWrong)

/-- 'laws.FnExactTwistOf': WHATEVER THE INPUT: true; the input reads as it did. -/
def fnExactTwistOfSpec : ChangeSpec := { name := "fnExactTwistOf", fn := fun _ => fun
  | [d1, d2, d3, d4] => { results := [.lit (.bool true)], args := [d1, d2, d3, d4] }
  | _ => none }
def fnExactTwistOfRow : OpenClaim := { program := "ytcgkcoogaieolaa", sum := "35183562c2691b3616b64bb9b003103418bd2bd03b47f0047efb3a5ba101c662", func := "loop.example/g03306/laws.FnExactTwistOf", spec := "fnExactTwistOf", unfollowed := true, recurses := true, apart := false }
def FnExactTwistOfSaid : Prop := fnExactTwistOfRow.holds Try.pinned (OpenSpec.ofChange fnExactTwistOfSpec)

/-- ITS FALSE NEIGHBOUR: 'it returns false'. Refute it at one input. -/
def fnExactTwistOfWrong : ChangeSpec := { name := "fnExactTwistOf", fn := fun _ => fun
  | [d1, d2, d3, d4] => { results := [.lit (.bool false)], args := [d1, d2, d3, d4] }
  | _ => none }
def FnExactTwistOfWrongFalsely : Prop := fnExactTwistOfRow.holds Try.pinned (OpenSpec.ofChange fnExactTwistOfWrong)

/-- 'laws.FnExactLeastUndoing': WHATEVER THE INPUT: true; the input reads as it did. -/
def fnExactLeastUndoingSpec : ChangeSpec := { name := "fnExactLeastUndoing", fn := fun _ => fun
  | [d1, d2] => { results := [.lit (.bool true)], args := [d1, d2] }
  | _ => none }
def fnExactLeastUndoingRow : OpenClaim := { program := "ytcgkcoogaieolaa", sum := "35183562c2691b3616b64bb9b003103418bd2bd03b47f0047efb3a5ba101c662", func := "loop.example/g03306/laws.FnExactLeastUndoing", spec := "fnExactLeastUndoing", unfollowed := true, recurses := true, apart := false }
def FnExactLeastUndoingSaid : Prop := fnExactLeastUndoingRow.holds Try.pinned (OpenSpec.ofChange fnExactLeastUndoingSpec)

/-- ITS FALSE NEIGHBOUR: 'it returns false'. Refute it at one input. -/
def fnExactLeastUndoingWrong : ChangeSpec := { name := "fnExactLeastUndoing", fn := fun _ => fun
  | [d1, d2] => { results := [.lit (.bool false)], args := [d1, d2] }
  | _ => none }
def FnExactLeastUndoingWrongFalsely : Prop := fnExactLeastUndoingRow.holds Try.pinned (OpenSpec.ofChange fnExactLeastUndoingWrong)

/-- 'laws.FnExactTwistTable': WHATEVER THE INPUT: true; the input reads as it did. -/
def fnExactTwistTableSpec : ChangeSpec := { name := "fnExactTwistTable", fn := fun _ => fun
  | [d1, d2] => { results := [.lit (.bool true)], args := [d1, d2] }
  | _ => none }
def fnExactTwistTableRow : OpenClaim := { program := "ytcgkcoogaieolaa", sum := "35183562c2691b3616b64bb9b003103418bd2bd03b47f0047efb3a5ba101c662", func := "loop.example/g03306/laws.FnExactTwistTable", spec := "fnExactTwistTable", unfollowed := true, recurses := true, apart := false }
def FnExactTwistTableSaid : Prop := fnExactTwistTableRow.holds Try.pinned (OpenSpec.ofChange fnExactTwistTableSpec)

/-- ITS FALSE NEIGHBOUR: 'it returns false'. Refute it at one input. -/
def fnExactTwistTableWrong : ChangeSpec := { name := "fnExactTwistTable", fn := fun _ => fun
  | [d1, d2] => { results := [.lit (.bool false)], args := [d1, d2] }
  | _ => none }
def FnExactTwistTableWrongFalsely : Prop := fnExactTwistTableRow.holds Try.pinned (OpenSpec.ofChange fnExactTwistTableWrong)

/-- 'laws.FnExactIsUntwisted': WHATEVER THE INPUT: true; the input reads as it did. -/
def fnExactIsUntwistedSpec : ChangeSpec := { name := "fnExactIsUntwisted", fn := fun _ => fun
  | [d1, d2] => { results := [.lit (.bool true)], args := [d1, d2] }
  | _ => none }
def fnExactIsUntwistedRow : OpenClaim := { program := "ytcgkcoogaieolaa", sum := "35183562c2691b3616b64bb9b003103418bd2bd03b47f0047efb3a5ba101c662", func := "loop.example/g03306/laws.FnExactIsUntwisted", spec := "fnExactIsUntwisted", unfollowed := true, recurses := true, apart := false }
def FnExactIsUntwistedSaid : Prop := fnExactIsUntwistedRow.holds Try.pinned (OpenSpec.ofChange fnExactIsUntwistedSpec)

/-- ITS FALSE NEIGHBOUR: 'it returns false'. Refute it at one input. -/
def fnExactIsUntwistedWrong : ChangeSpec := { name := "fnExactIsUntwisted", fn := fun _ => fun
  | [d1, d2] => { results := [.lit (.bool false)], args := [d1, d2] }
  | _ => none }
def FnExactIsUntwistedWrongFalsely : Prop := fnExactIsUntwistedRow.holds Try.pinned (OpenSpec.ofChange fnExactIsUntwistedWrong)

/-- 'laws.FnExactWoundPairs': WHATEVER THE INPUT: true; the input reads as it did. -/
def fnExactWoundPairsSpec : ChangeSpec := { name := "fnExactWoundPairs", fn := fun _ => fun
  | [d1, d2] => { results := [.lit (.bool true)], args := [d1, d2] }
  | _ => none }
def fnExactWoundPairsRow : OpenClaim := { program := "ytcgkcoogaieolaa", sum := "35183562c2691b3616b64bb9b003103418bd2bd03b47f0047efb3a5ba101c662", func := "loop.example/g03306/laws.FnExactWoundPairs", spec := "fnExactWoundPairs", unfollowed := true, recurses := true, apart := false }
def FnExactWoundPairsSaid : Prop := fnExactWoundPairsRow.holds Try.pinned (OpenSpec.ofChange fnExactWoundPairsSpec)

/-- ITS FALSE NEIGHBOUR: 'it returns false'. Refute it at one input. -/
def fnExactWoundPairsWrong : ChangeSpec := { name := "fnExactWoundPairs", fn := fun _ => fun
  | [d1, d2] => { results := [.lit (.bool false)], args := [d1, d2] }
  | _ => none }
def FnExactWoundPairsWrongFalsely : Prop := fnExactWoundPairsRow.holds Try.pinned (OpenSpec.ofChange fnExactWoundPairsWrong)

/-- 'laws.FnExactBringHome': WHATEVER THE INPUT: true; the input reads as it did. -/
def fnExactBringHomeSpec : ChangeSpec := { name := "fnExactBringHome", fn := fun _ => fun
  | [d1, d2] => { results := [.lit (.bool true)], args := [d1, d2] }
  | _ => none }
def fnExactBringHomeRow : OpenClaim := { program := "ytcgkcoogaieolaa", sum := "35183562c2691b3616b64bb9b003103418bd2bd03b47f0047efb3a5ba101c662", func := "loop.example/g03306/laws.FnExactBringHome", spec := "fnExactBringHome", unfollowed := true, recurses := true, apart := false }
def FnExactBringHomeSaid : Prop := fnExactBringHomeRow.holds Try.pinned (OpenSpec.ofChange fnExactBringHomeSpec)

/-- ITS FALSE NEIGHBOUR: 'it returns false'. Refute it at one input. -/
def fnExactBringHomeWrong : ChangeSpec := { name := "fnExactBringHome", fn := fun _ => fun
  | [d1, d2] => { results := [.lit (.bool false)], args := [d1, d2] }
  | _ => none }
def FnExactBringHomeWrongFalsely : Prop := fnExactBringHomeRow.holds Try.pinned (OpenSpec.ofChange fnExactBringHomeWrong)

/-- 'laws.FnExactUnwindAll': WHATEVER THE INPUT: true; the input reads as it did. -/
def fnExactUnwindAllSpec : ChangeSpec := { name := "fnExactUnwindAll", fn := fun _ => fun
  | [d1, d2] => { results := [.lit (.bool true)], args := [d1, d2] }
  | _ => none }
def fnExactUnwindAllRow : OpenClaim := { program := "ytcgkcoogaieolaa", sum := "35183562c2691b3616b64bb9b003103418bd2bd03b47f0047efb3a5ba101c662", func := "loop.example/g03306/laws.FnExactUnwindAll", spec := "fnExactUnwindAll", unfollowed := true, recurses := true, apart := false }
def FnExactUnwindAllSaid : Prop := fnExactUnwindAllRow.holds Try.pinned (OpenSpec.ofChange fnExactUnwindAllSpec)

/-- ITS FALSE NEIGHBOUR: 'it returns false'. Refute it at one input. -/
def fnExactUnwindAllWrong : ChangeSpec := { name := "fnExactUnwindAll", fn := fun _ => fun
  | [d1, d2] => { results := [.lit (.bool false)], args := [d1, d2] }
  | _ => none }
def FnExactUnwindAllWrongFalsely : Prop := fnExactUnwindAllRow.holds Try.pinned (OpenSpec.ofChange fnExactUnwindAllWrong)

/-- 'laws.FnUntwisting': WHATEVER THE INPUT: true; the input reads as it did. -/
def fnUntwistingSpec : ChangeSpec := { name := "fnUntwisting", fn := fun _ => fun
  | [d] => { results := [.lit (.bool true)], args := [d] }
  | _ => none }
def fnUntwistingRow : OpenClaim := { program := "ytcgkcoogaieolaa", sum := "35183562c2691b3616b64bb9b003103418bd2bd03b47f0047efb3a5ba101c662", func := "loop.example/g03306/laws.FnUntwisting", spec := "fnUntwisting", unfollowed := true, recurses := true, apart := false }
def FnUntwistingSaid : Prop := fnUntwistingRow.holds Try.pinned (OpenSpec.ofChange fnUntwistingSpec)

/-- ITS FALSE NEIGHBOUR: 'it returns false'. Refute it at one input. -/
def fnUntwistingWrong : ChangeSpec := { name := "fnUntwisting", fn := fun _ => fun
  | [d] => { results := [.lit (.bool false)], args := [d] }
  | _ => none }
def FnUntwistingWrongFalsely : Prop := fnUntwistingRow.holds Try.pinned (OpenSpec.ofChange fnUntwistingWrong)

/- THE SECOND FORM. 'bulk': how many values and letters a reading holds, each counted each time it is reached (what is shared counts as often as it is met; a slice's spare places count too). A statement '..UptoSaid' is the law's where the arguments, and the package variables that the reading takes, are together of bulk at most 1048576: NARROWER than '..Said'. Prove '..Said' where nothing that the law and all that it calls make is longer than what came in: it says more and counts as full. Else prove '..UptoSaid'. A law counts once. -/
mutual
def uptoBulk {H : Type} : DataW H → Nat
  | .lit (.string bytes) => bytes.length + 1
  | .lit _ => 1
  | .nil => 1
  | .ptr d => uptoBulk d + 1
  | .slice elems spare => uptoBulkAll elems + uptoBulkAll spare + 1
  | .agg parts => uptoBulkAll parts + 1
  | .iface _ d => uptoBulk d + 1
  | .map entries => uptoBulkEntries entries + 1
  | .held _ => 1
def uptoBulkAll {H : Type} : List (DataW H) → Nat
  | [] => 0
  | d :: r => uptoBulk d + uptoBulkAll r
def uptoBulkEntries {H : Type} : List (Lit × DataW H) → Nat
  | [] => 0
  | x :: r => uptoBulkEntry x + uptoBulkEntries r
def uptoBulkEntry {H : Type} : Lit × DataW H → Nat
  | (.string bytes, d) => bytes.length + uptoBulk d + 1
  | (_, d) => uptoBulk d + 1
 end
def uptoSmall : (H : Type) → List (DataW H) → Bool := fun _ ds => decide (uptoBulkAll ds ≤ 1048576)
def OpenSpec.upto (s : _root_.Go.ChangeSpec) : _root_.Go.OpenSpec := { _root_.Go.OpenSpec.ofChange s with cond := some uptoSmall }

/-- 'laws.FnExactJoinCrosses', WHERE WHAT IT READS IS OF BULK AT MOST 1048576: true; the input reads as it did. -/
def fnExactJoinCrossesUptoRow : OpenClaim := { program := "ytcgkcoogaieolaa", sum := "35183562c2691b3616b64bb9b003103418bd2bd03b47f0047efb3a5ba101c662", func := "loop.example/g03306/laws.FnExactJoinCrosses", spec := "fnExactJoinCrosses", apart := false, narrowed := true }
def FnExactJoinCrossesUptoSaid : Prop := fnExactJoinCrossesUptoRow.holds Try.pinned (OpenSpec.upto fnExactJoinCrossesSpec)

/-- 'laws.FnExactFullTurn', WHERE WHAT IT READS IS OF BULK AT MOST 1048576: true; the input reads as it did. -/
def fnExactFullTurnUptoRow : OpenClaim := { program := "ytcgkcoogaieolaa", sum := "35183562c2691b3616b64bb9b003103418bd2bd03b47f0047efb3a5ba101c662", func := "loop.example/g03306/laws.FnExactFullTurn", spec := "fnExactFullTurn", apart := false, narrowed := true }
def FnExactFullTurnUptoSaid : Prop := fnExactFullTurnUptoRow.holds Try.pinned (OpenSpec.upto fnExactFullTurnSpec)

/-- 'laws.FnTwists', WHERE WHAT IT READS IS OF BULK AT MOST 1048576: true; the input reads as it did. -/
def fnTwistsUptoRow : OpenClaim := { program := "ytcgkcoogaieolaa", sum := "35183562c2691b3616b64bb9b003103418bd2bd03b47f0047efb3a5ba101c662", func := "loop.example/g03306/laws.FnTwists", spec := "fnTwists", unfollowed := true, recurses := true, apart := false, narrowed := true }
def FnTwistsUptoSaid : Prop := fnTwistsUptoRow.holds Try.pinned (OpenSpec.upto fnTwistsSpec)

/-- 'laws.FnExactTwistOf', WHERE WHAT IT READS IS OF BULK AT MOST 1048576: true; the input reads as it did. -/
def fnExactTwistOfUptoRow : OpenClaim := { program := "ytcgkcoogaieolaa", sum := "35183562c2691b3616b64bb9b003103418bd2bd03b47f0047efb3a5ba101c662", func := "loop.example/g03306/laws.FnExactTwistOf", spec := "fnExactTwistOf", unfollowed := true, recurses := true, apart := false, narrowed := true }
def FnExactTwistOfUptoSaid : Prop := fnExactTwistOfUptoRow.holds Try.pinned (OpenSpec.upto fnExactTwistOfSpec)

/-- 'laws.FnExactLeastUndoing', WHERE WHAT IT READS IS OF BULK AT MOST 1048576: true; the input reads as it did. -/
def fnExactLeastUndoingUptoRow : OpenClaim := { program := "ytcgkcoogaieolaa", sum := "35183562c2691b3616b64bb9b003103418bd2bd03b47f0047efb3a5ba101c662", func := "loop.example/g03306/laws.FnExactLeastUndoing", spec := "fnExactLeastUndoing", unfollowed := true, recurses := true, apart := false, narrowed := true }
def FnExactLeastUndoingUptoSaid : Prop := fnExactLeastUndoingUptoRow.holds Try.pinned (OpenSpec.upto fnExactLeastUndoingSpec)

/-- 'laws.FnExactTwistTable', WHERE WHAT IT READS IS OF BULK AT MOST 1048576: true; the input reads as it did. -/
def fnExactTwistTableUptoRow : OpenClaim := { program := "ytcgkcoogaieolaa", sum := "35183562c2691b3616b64bb9b003103418bd2bd03b47f0047efb3a5ba101c662", func := "loop.example/g03306/laws.FnExactTwistTable", spec := "fnExactTwistTable", unfollowed := true, recurses := true, apart := false, narrowed := true }
def FnExactTwistTableUptoSaid : Prop := fnExactTwistTableUptoRow.holds Try.pinned (OpenSpec.upto fnExactTwistTableSpec)

/-- 'laws.FnExactIsUntwisted', WHERE WHAT IT READS IS OF BULK AT MOST 1048576: true; the input reads as it did. -/
def fnExactIsUntwistedUptoRow : OpenClaim := { program := "ytcgkcoogaieolaa", sum := "35183562c2691b3616b64bb9b003103418bd2bd03b47f0047efb3a5ba101c662", func := "loop.example/g03306/laws.FnExactIsUntwisted", spec := "fnExactIsUntwisted", unfollowed := true, recurses := true, apart := false, narrowed := true }
def FnExactIsUntwistedUptoSaid : Prop := fnExactIsUntwistedUptoRow.holds Try.pinned (OpenSpec.upto fnExactIsUntwistedSpec)

/-- 'laws.FnExactWoundPairs', WHERE WHAT IT READS IS OF BULK AT MOST 1048576: true; the input reads as it did. -/
def fnExactWoundPairsUptoRow : OpenClaim := { program := "ytcgkcoogaieolaa", sum := "35183562c2691b3616b64bb9b003103418bd2bd03b47f0047efb3a5ba101c662", func := "loop.example/g03306/laws.FnExactWoundPairs", spec := "fnExactWoundPairs", unfollowed := true, recurses := true, apart := false, narrowed := true }
def FnExactWoundPairsUptoSaid : Prop := fnExactWoundPairsUptoRow.holds Try.pinned (OpenSpec.upto fnExactWoundPairsSpec)

/-- 'laws.FnExactBringHome', WHERE WHAT IT READS IS OF BULK AT MOST 1048576: true; the input reads as it did. -/
def fnExactBringHomeUptoRow : OpenClaim := { program := "ytcgkcoogaieolaa", sum := "35183562c2691b3616b64bb9b003103418bd2bd03b47f0047efb3a5ba101c662", func := "loop.example/g03306/laws.FnExactBringHome", spec := "fnExactBringHome", unfollowed := true, recurses := true, apart := false, narrowed := true }
def FnExactBringHomeUptoSaid : Prop := fnExactBringHomeUptoRow.holds Try.pinned (OpenSpec.upto fnExactBringHomeSpec)

/-- 'laws.FnExactUnwindAll', WHERE WHAT IT READS IS OF BULK AT MOST 1048576: true; the input reads as it did. -/
def fnExactUnwindAllUptoRow : OpenClaim := { program := "ytcgkcoogaieolaa", sum := "35183562c2691b3616b64bb9b003103418bd2bd03b47f0047efb3a5ba101c662", func := "loop.example/g03306/laws.FnExactUnwindAll", spec := "fnExactUnwindAll", unfollowed := true, recurses := true, apart := false, narrowed := true }
def FnExactUnwindAllUptoSaid : Prop := fnExactUnwindAllUptoRow.holds Try.pinned (OpenSpec.upto fnExactUnwindAllSpec)

/-- 'laws.FnUntwisting', WHERE WHAT IT READS IS OF BULK AT MOST 1048576: true; the input reads as it did. -/
def fnUntwistingUptoRow : OpenClaim := { program := "ytcgkcoogaieolaa", sum := "35183562c2691b3616b64bb9b003103418bd2bd03b47f0047efb3a5ba101c662", func := "loop.example/g03306/laws.FnUntwisting", spec := "fnUntwisting", unfollowed := true, recurses := true, apart := false, narrowed := true }
def FnUntwistingUptoSaid : Prop := fnUntwistingUptoRow.holds Try.pinned (OpenSpec.upto fnUntwistingSpec)

end Rows
end Go.Proofs.Ytcgkcoogaieolaa
