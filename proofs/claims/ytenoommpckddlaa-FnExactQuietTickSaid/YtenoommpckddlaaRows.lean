/-
  No cell of these rows narrows 'for every input' (looked for: loops, veiled, ifaces, maps, wideKeys, modest, calm, conditions, laid).
  DERIVED. THE GIVEN ROWS OF THIS SEAT. 7 by the template 'for every input the law returns true; each argument reads behind the call as it read before'; 0 by the template 'total and deterministic' (their statements: YtenoommpckddlaaTotals.lean).
  GIVEN WITH THE SEED: the statements are not yours to turn. If you find one false, say at which input.
  Laid BY PROGRAM, IN A SANDBOX (cutbox-rows.mjs): the forced cells as the released guide's own fill.sh prints them over the translation 8cbcd39ba8a9d4eb… (all of the seat's roots in one cut). By AI agents, Wed Nov 11 2026. No macro, syntax, notation, axiom, sorry.
-/
import Derived.Test.YtenoommpckddlaaChecked
import GoSem.Claim
import GoSem.ClaimJoined
import GoSem.ClaimMapViews
import Derived.JoinedTies
import Derived.KernelRfl
namespace Go.Proofs.Ytenoommpckddlaa
/- THE CELL 'sum', in the pinned program and in every row, IS THE sha256 OF THE DUMP (.gsa) THAT YtenoommpckddlaaProg.lean LOADS. Nothing in Lean hashes anything: it is a label: what it is worth is what the hold of that sum in a sandbox is worth. -/
noncomputable def Try.pinned : Pinned := { name := "ytenoommpckddlaa", sum := "8cbcd39ba8a9d4eb6ae188ed84be824109d75ab993fe7c7aba816d42cc8afbb0", checked := Try.checked }
namespace Rows
def none {H : Type} : Left H := { results := [], args := [] }

/-- 'laws.FnExactCountRails': WHATEVER THE INPUT: true; the input reads as it did. -/
def fnExactCountRailsSpec : ChangeSpec := { name := "fnExactCountRails", fn := fun _ => fun
  | [d] => { results := [.lit (.bool true)], args := [d] }
  | _ => none }
def fnExactCountRailsRow : OpenClaim := { program := "ytenoommpckddlaa", sum := "8cbcd39ba8a9d4eb6ae188ed84be824109d75ab993fe7c7aba816d42cc8afbb0", func := "loop.example/g03306/laws.FnExactCountRails", spec := "fnExactCountRails", apart := false }
def FnExactCountRailsSaid : Prop := fnExactCountRailsRow.holds Try.pinned (OpenSpec.ofChange fnExactCountRailsSpec)

/-- ITS FALSE NEIGHBOUR: 'it returns false'. Refute it at one input. -/
def fnExactCountRailsWrong : ChangeSpec := { name := "fnExactCountRails", fn := fun _ => fun
  | [d] => { results := [.lit (.bool false)], args := [d] }
  | _ => none }
def FnExactCountRailsWrongFalsely : Prop := fnExactCountRailsRow.holds Try.pinned (OpenSpec.ofChange fnExactCountRailsWrong)

/-- 'laws.FnExactStaysOk': WHATEVER THE INPUT: true; the input reads as it did. -/
def fnExactStaysOkSpec : ChangeSpec := { name := "fnExactStaysOk", fn := fun _ => fun
  | [d] => { results := [.lit (.bool true)], args := [d] }
  | _ => none }
def fnExactStaysOkRow : OpenClaim := { program := "ytenoommpckddlaa", sum := "8cbcd39ba8a9d4eb6ae188ed84be824109d75ab993fe7c7aba816d42cc8afbb0", func := "loop.example/g03306/laws.FnExactStaysOk", spec := "fnExactStaysOk", apart := false }
def FnExactStaysOkSaid : Prop := fnExactStaysOkRow.holds Try.pinned (OpenSpec.ofChange fnExactStaysOkSpec)

/-- ITS FALSE NEIGHBOUR: 'it returns false'. Refute it at one input. -/
def fnExactStaysOkWrong : ChangeSpec := { name := "fnExactStaysOk", fn := fun _ => fun
  | [d] => { results := [.lit (.bool false)], args := [d] }
  | _ => none }
def FnExactStaysOkWrongFalsely : Prop := fnExactStaysOkRow.holds Try.pinned (OpenSpec.ofChange fnExactStaysOkWrong)

/-- 'laws.FnExactMostAtOnce': WHATEVER THE INPUT: true; the input reads as it did. -/
def fnExactMostAtOnceSpec : ChangeSpec := { name := "fnExactMostAtOnce", fn := fun _ => fun
  | [d] => { results := [.lit (.bool true)], args := [d] }
  | _ => none }
def fnExactMostAtOnceRow : OpenClaim := { program := "ytenoommpckddlaa", sum := "8cbcd39ba8a9d4eb6ae188ed84be824109d75ab993fe7c7aba816d42cc8afbb0", func := "loop.example/g03306/laws.FnExactMostAtOnce", spec := "fnExactMostAtOnce", apart := false }
def FnExactMostAtOnceSaid : Prop := fnExactMostAtOnceRow.holds Try.pinned (OpenSpec.ofChange fnExactMostAtOnceSpec)

/-- ITS FALSE NEIGHBOUR: 'it returns false'. Refute it at one input. -/
def fnExactMostAtOnceWrong : ChangeSpec := { name := "fnExactMostAtOnce", fn := fun _ => fun
  | [d] => { results := [.lit (.bool false)], args := [d] }
  | _ => none }
def FnExactMostAtOnceWrongFalsely : Prop := fnExactMostAtOnceRow.holds Try.pinned (OpenSpec.ofChange fnExactMostAtOnceWrong)

/-- 'laws.FnExactQuietTick': WHATEVER THE INPUT: true; the input reads as it did. -/
def fnExactQuietTickSpec : ChangeSpec := { name := "fnExactQuietTick", fn := fun _ => fun
  | [d] => { results := [.lit (.bool true)], args := [d] }
  | _ => none }
def fnExactQuietTickRow : OpenClaim := { program := "ytenoommpckddlaa", sum := "8cbcd39ba8a9d4eb6ae188ed84be824109d75ab993fe7c7aba816d42cc8afbb0", func := "loop.example/g03306/laws.FnExactQuietTick", spec := "fnExactQuietTick", unfollowed := true, recurses := true, apart := false }
def FnExactQuietTickSaid : Prop := fnExactQuietTickRow.holds Try.pinned (OpenSpec.ofChange fnExactQuietTickSpec)

/-- ITS FALSE NEIGHBOUR: 'it returns false'. Refute it at one input. -/
def fnExactQuietTickWrong : ChangeSpec := { name := "fnExactQuietTick", fn := fun _ => fun
  | [d] => { results := [.lit (.bool false)], args := [d] }
  | _ => none }
def FnExactQuietTickWrongFalsely : Prop := fnExactQuietTickRow.holds Try.pinned (OpenSpec.ofChange fnExactQuietTickWrong)

/-- 'laws.FnExactBusyTicks': WHATEVER THE INPUT: true; the input reads as it did. -/
def fnExactBusyTicksSpec : ChangeSpec := { name := "fnExactBusyTicks", fn := fun _ => fun
  | [d1, d2] => { results := [.lit (.bool true)], args := [d1, d2] }
  | _ => none }
def fnExactBusyTicksRow : OpenClaim := { program := "ytenoommpckddlaa", sum := "8cbcd39ba8a9d4eb6ae188ed84be824109d75ab993fe7c7aba816d42cc8afbb0", func := "loop.example/g03306/laws.FnExactBusyTicks", spec := "fnExactBusyTicks", unfollowed := true, recurses := true, apart := false }
def FnExactBusyTicksSaid : Prop := fnExactBusyTicksRow.holds Try.pinned (OpenSpec.ofChange fnExactBusyTicksSpec)

/-- ITS FALSE NEIGHBOUR: 'it returns false'. Refute it at one input. -/
def fnExactBusyTicksWrong : ChangeSpec := { name := "fnExactBusyTicks", fn := fun _ => fun
  | [d1, d2] => { results := [.lit (.bool false)], args := [d1, d2] }
  | _ => none }
def FnExactBusyTicksWrongFalsely : Prop := fnExactBusyTicksRow.holds Try.pinned (OpenSpec.ofChange fnExactBusyTicksWrong)

/-- 'laws.FnRails': WHATEVER THE INPUT: true; the input reads as it did. -/
def fnRailsSpec : ChangeSpec := { name := "fnRails", fn := fun _ => fun
  | [d] => { results := [.lit (.bool true)], args := [d] }
  | _ => none }
def fnRailsRow : OpenClaim := { program := "ytenoommpckddlaa", sum := "8cbcd39ba8a9d4eb6ae188ed84be824109d75ab993fe7c7aba816d42cc8afbb0", func := "loop.example/g03306/laws.FnRails", spec := "fnRails", unfollowed := true, recurses := true, apart := false }
def FnRailsSaid : Prop := fnRailsRow.holds Try.pinned (OpenSpec.ofChange fnRailsSpec)

/-- ITS FALSE NEIGHBOUR: 'it returns false'. Refute it at one input. -/
def fnRailsWrong : ChangeSpec := { name := "fnRails", fn := fun _ => fun
  | [d] => { results := [.lit (.bool false)], args := [d] }
  | _ => none }
def FnRailsWrongFalsely : Prop := fnRailsRow.holds Try.pinned (OpenSpec.ofChange fnRailsWrong)

/-- 'laws.FnExactRailsFor': WHATEVER THE INPUT: true; the input reads as it did. -/
def fnExactRailsForSpec : ChangeSpec := { name := "fnExactRailsFor", fn := fun _ => fun
  | [d] => { results := [.lit (.bool true)], args := [d] }
  | _ => none }
def fnExactRailsForRow : OpenClaim := { program := "ytenoommpckddlaa", sum := "8cbcd39ba8a9d4eb6ae188ed84be824109d75ab993fe7c7aba816d42cc8afbb0", func := "loop.example/g03306/laws.FnExactRailsFor", spec := "fnExactRailsFor", apart := false }
def FnExactRailsForSaid : Prop := fnExactRailsForRow.holds Try.pinned (OpenSpec.ofChange fnExactRailsForSpec)

/-- ITS FALSE NEIGHBOUR: 'it returns false'. Refute it at one input. -/
def fnExactRailsForWrong : ChangeSpec := { name := "fnExactRailsFor", fn := fun _ => fun
  | [d] => { results := [.lit (.bool false)], args := [d] }
  | _ => none }
def FnExactRailsForWrongFalsely : Prop := fnExactRailsForRow.holds Try.pinned (OpenSpec.ofChange fnExactRailsForWrong)

/- THE SECOND FORM. 'bulk': how many values and letters a reading holds, each counted each time it is reached (what is shared counts as often as it is met; a slice's spare places count too). A statement '..UptoSaid' is the law's where the arguments, and the package variables that the reading takes, are together of bulk at most 1048576: NARROWER than '..Said'. Prove '..Said' where nothing that the law and all that it calls make is longer than what came in: it says more and counts as full. Else prove '..UptoSaid'. A law counts once. -/
mutual
def uptoBulk {H : Type} : DataW H → Nat
  | .lit (.string bytes) => bytes.length + 1
  | .lit _ => 1
  | .nil => 1
  | .ptr d => uptoBulk d + 1
  | .slice elems spare => uptoBulkAll elems + uptoBulkAll spare + 1
  | .agg parts => uptoBulkAll parts + 1
  | .iface _ d => uptoBulk d + 1
  | .map entries => uptoBulkEntries entries + 1
  | .held _ => 1
def uptoBulkAll {H : Type} : List (DataW H) → Nat
  | [] => 0
  | d :: r => uptoBulk d + uptoBulkAll r
def uptoBulkEntries {H : Type} : List (Lit × DataW H) → Nat
  | [] => 0
  | x :: r => uptoBulkEntry x + uptoBulkEntries r
def uptoBulkEntry {H : Type} : Lit × DataW H → Nat
  | (.string bytes, d) => bytes.length + uptoBulk d + 1
  | (_, d) => uptoBulk d + 1
 end
def uptoSmall : (H : Type) → List (DataW H) → Bool := fun _ ds => decide (uptoBulkAll ds ≤ 1048576)
def OpenSpec.upto (s : _root_.Go.ChangeSpec) : _root_.Go.OpenSpec := { _root_.Go.OpenSpec.ofChange s with cond := some uptoSmall }

/-- 'laws.FnExactCountRails', WHERE WHAT IT READS IS OF BULK AT MOST 1048576: true; the input reads as it did. -/
def fnExactCountRailsUptoRow : OpenClaim := { program := "ytenoommpckddlaa", sum := "8cbcd39ba8a9d4eb6ae188ed84be824109d75ab993fe7c7aba816d42cc8afbb0", func := "loop.example/g03306/laws.FnExactCountRails", spec := "fnExactCountRails", apart := false, narrowed := true }
def FnExactCountRailsUptoSaid : Prop := fnExactCountRailsUptoRow.holds Try.pinned (OpenSpec.upto fnExactCountRailsSpec)

/-- 'laws.FnExactStaysOk', WHERE WHAT IT READS IS OF BULK AT MOST 1048576: true; the input reads as it did. -/
def fnExactStaysOkUptoRow : OpenClaim := { program := "ytenoommpckddlaa", sum := "8cbcd39ba8a9d4eb6ae188ed84be824109d75ab993fe7c7aba816d42cc8afbb0", func := "loop.example/g03306/laws.FnExactStaysOk", spec := "fnExactStaysOk", apart := false, narrowed := true }
def FnExactStaysOkUptoSaid : Prop := fnExactStaysOkUptoRow.holds Try.pinned (OpenSpec.upto fnExactStaysOkSpec)

/-- 'laws.FnExactMostAtOnce', WHERE WHAT IT READS IS OF BULK AT MOST 1048576: true; the input reads as it did. -/
def fnExactMostAtOnceUptoRow : OpenClaim := { program := "ytenoommpckddlaa", sum := "8cbcd39ba8a9d4eb6ae188ed84be824109d75ab993fe7c7aba816d42cc8afbb0", func := "loop.example/g03306/laws.FnExactMostAtOnce", spec := "fnExactMostAtOnce", apart := false, narrowed := true }
def FnExactMostAtOnceUptoSaid : Prop := fnExactMostAtOnceUptoRow.holds Try.pinned (OpenSpec.upto fnExactMostAtOnceSpec)

/-- 'laws.FnExactQuietTick', WHERE WHAT IT READS IS OF BULK AT MOST 1048576: true; the input reads as it did. -/
def fnExactQuietTickUptoRow : OpenClaim := { program := "ytenoommpckddlaa", sum := "8cbcd39ba8a9d4eb6ae188ed84be824109d75ab993fe7c7aba816d42cc8afbb0", func := "loop.example/g03306/laws.FnExactQuietTick", spec := "fnExactQuietTick", unfollowed := true, recurses := true, apart := false, narrowed := true }
def FnExactQuietTickUptoSaid : Prop := fnExactQuietTickUptoRow.holds Try.pinned (OpenSpec.upto fnExactQuietTickSpec)

/-- 'laws.FnExactBusyTicks', WHERE WHAT IT READS IS OF BULK AT MOST 1048576: true; the input reads as it did. -/
def fnExactBusyTicksUptoRow : OpenClaim := { program := "ytenoommpckddlaa", sum := "8cbcd39ba8a9d4eb6ae188ed84be824109d75ab993fe7c7aba816d42cc8afbb0", func := "loop.example/g03306/laws.FnExactBusyTicks", spec := "fnExactBusyTicks", unfollowed := true, recurses := true, apart := false, narrowed := true }
def FnExactBusyTicksUptoSaid : Prop := fnExactBusyTicksUptoRow.holds Try.pinned (OpenSpec.upto fnExactBusyTicksSpec)

/-- 'laws.FnRails', WHERE WHAT IT READS IS OF BULK AT MOST 1048576: true; the input reads as it did. -/
def fnRailsUptoRow : OpenClaim := { program := "ytenoommpckddlaa", sum := "8cbcd39ba8a9d4eb6ae188ed84be824109d75ab993fe7c7aba816d42cc8afbb0", func := "loop.example/g03306/laws.FnRails", spec := "fnRails", unfollowed := true, recurses := true, apart := false, narrowed := true }
def FnRailsUptoSaid : Prop := fnRailsUptoRow.holds Try.pinned (OpenSpec.upto fnRailsSpec)

/-- 'laws.FnExactRailsFor', WHERE WHAT IT READS IS OF BULK AT MOST 1048576: true; the input reads as it did. -/
def fnExactRailsForUptoRow : OpenClaim := { program := "ytenoommpckddlaa", sum := "8cbcd39ba8a9d4eb6ae188ed84be824109d75ab993fe7c7aba816d42cc8afbb0", func := "loop.example/g03306/laws.FnExactRailsFor", spec := "fnExactRailsFor", apart := false, narrowed := true }
def FnExactRailsForUptoSaid : Prop := fnExactRailsForUptoRow.holds Try.pinned (OpenSpec.upto fnExactRailsForSpec)

end Rows
end Go.Proofs.Ytenoommpckddlaa
