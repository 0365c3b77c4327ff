/-
  No cell of these rows narrows 'for every input' (looked for: loops, veiled, ifaces, maps, wideKeys, modest, calm, conditions, laid).
  DERIVED. THE GIVEN ROWS OF THIS SEAT. 9 by the template 'for every input the law returns true; each argument reads behind the call as it read before'; 0 by the template 'total and deterministic' (their statements: YtddjkiefadiijaaTotals.lean).
  GIVEN WITH THE SEED: the statements are not yours to turn. If you find one false, say at which input.
  Laid BY PROGRAM, IN A SANDBOX (cutbox-rows.mjs): the forced cells as the released guide's own fill.sh prints them over the translation cf6a638afcf22bef… (all of the seat's roots in one cut). By AI agents, Wed Nov 11 2026. No macro, syntax, notation, axiom, sorry.
-/
import Derived.Test.YtddjkiefadiijaaChecked
import GoSem.Claim
import GoSem.ClaimJoined
import GoSem.ClaimMapViews
import Derived.JoinedTies
import Derived.KernelRfl
namespace Go.Proofs.Ytddjkiefadiijaa
/- THE CELL 'sum', in the pinned program and in every row, IS THE sha256 OF THE DUMP (.gsa) THAT YtddjkiefadiijaaProg.lean LOADS. Nothing in Lean hashes anything: it is a label: what it is worth is what the hold of that sum in a sandbox is worth. -/
noncomputable def Try.pinned : Pinned := { name := "ytddjkiefadiijaa", sum := "cf6a638afcf22bef552dfda91e4e151a5022fb6aaf349b972c43a3ee5e341e7a", checked := Try.checked }
namespace Rows
def none {H : Type} : Left H := { results := [], args := [] }

/-- 'laws.FnExactFirstCasting': WHATEVER THE INPUT: true; the input reads as it did. -/
def fnExactFirstCastingSpec : ChangeSpec := { name := "fnExactFirstCasting", fn := fun _ => fun
  | [d1, d2] => { results := [.lit (.bool true)], args := [d1, d2] }
  | _ => none }
def fnExactFirstCastingRow : OpenClaim := { program := "ytddjkiefadiijaa", sum := "cf6a638afcf22bef552dfda91e4e151a5022fb6aaf349b972c43a3ee5e341e7a", func := "loop.example/g03306/laws.FnExactFirstCasting", spec := "fnExactFirstCasting", unfollowed := true, recurses := true, apart := false }
def FnExactFirstCastingSaid : Prop := fnExactFirstCastingRow.holds Try.pinned (OpenSpec.ofChange fnExactFirstCastingSpec)

/-- ITS FALSE NEIGHBOUR: 'it returns false'. Refute it at one input. -/
def fnExactFirstCastingWrong : ChangeSpec := { name := "fnExactFirstCasting", fn := fun _ => fun
  | [d1, d2] => { results := [.lit (.bool false)], args := [d1, d2] }
  | _ => none }
def FnExactFirstCastingWrongFalsely : Prop := fnExactFirstCastingRow.holds Try.pinned (OpenSpec.ofChange fnExactFirstCastingWrong)

/-- 'laws.FnExactMostCast': WHATEVER THE INPUT: true; the input reads as it did. -/
def fnExactMostCastSpec : ChangeSpec := { name := "fnExactMostCast", fn := fun _ => fun
  | [d1, d2] => { results := [.lit (.bool true)], args := [d1, d2] }
  | _ => none }
def fnExactMostCastRow : OpenClaim := { program := "ytddjkiefadiijaa", sum := "cf6a638afcf22bef552dfda91e4e151a5022fb6aaf349b972c43a3ee5e341e7a", func := "loop.example/g03306/laws.FnExactMostCast", spec := "fnExactMostCast", unfollowed := true, recurses := true, apart := false }
def FnExactMostCastSaid : Prop := fnExactMostCastRow.holds Try.pinned (OpenSpec.ofChange fnExactMostCastSpec)

/-- ITS FALSE NEIGHBOUR: 'it returns false'. Refute it at one input. -/
def fnExactMostCastWrong : ChangeSpec := { name := "fnExactMostCast", fn := fun _ => fun
  | [d1, d2] => { results := [.lit (.bool false)], args := [d1, d2] }
  | _ => none }
def FnExactMostCastWrongFalsely : Prop := fnExactMostCastRow.holds Try.pinned (OpenSpec.ofChange fnExactMostCastWrong)

/-- 'laws.FnExactIsSafe': WHATEVER THE INPUT: true; the input reads as it did. -/
def fnExactIsSafeSpec : ChangeSpec := { name := "fnExactIsSafe", fn := fun _ => fun
  | [d1, d2] => { results := [.lit (.bool true)], args := [d1, d2] }
  | _ => none }
def fnExactIsSafeRow : OpenClaim := { program := "ytddjkiefadiijaa", sum := "cf6a638afcf22bef552dfda91e4e151a5022fb6aaf349b972c43a3ee5e341e7a", func := "loop.example/g03306/laws.FnExactIsSafe", spec := "fnExactIsSafe", unfollowed := true, recurses := true, apart := false }
def FnExactIsSafeSaid : Prop := fnExactIsSafeRow.holds Try.pinned (OpenSpec.ofChange fnExactIsSafeSpec)

/-- ITS FALSE NEIGHBOUR: 'it returns false'. Refute it at one input. -/
def fnExactIsSafeWrong : ChangeSpec := { name := "fnExactIsSafe", fn := fun _ => fun
  | [d1, d2] => { results := [.lit (.bool false)], args := [d1, d2] }
  | _ => none }
def FnExactIsSafeWrongFalsely : Prop := fnExactIsSafeRow.holds Try.pinned (OpenSpec.ofChange fnExactIsSafeWrong)

/-- 'laws.FnExactCastingsOf': WHATEVER THE INPUT: true; the input reads as it did. -/
def fnExactCastingsOfSpec : ChangeSpec := { name := "fnExactCastingsOf", fn := fun _ => fun
  | [d1, d2] => { results := [.lit (.bool true)], args := [d1, d2] }
  | _ => none }
def fnExactCastingsOfRow : OpenClaim := { program := "ytddjkiefadiijaa", sum := "cf6a638afcf22bef552dfda91e4e151a5022fb6aaf349b972c43a3ee5e341e7a", func := "loop.example/g03306/laws.FnExactCastingsOf", spec := "fnExactCastingsOf", unfollowed := true, recurses := true, apart := false }
def FnExactCastingsOfSaid : Prop := fnExactCastingsOfRow.holds Try.pinned (OpenSpec.ofChange fnExactCastingsOfSpec)

/-- ITS FALSE NEIGHBOUR: 'it returns false'. Refute it at one input. -/
def fnExactCastingsOfWrong : ChangeSpec := { name := "fnExactCastingsOf", fn := fun _ => fun
  | [d1, d2] => { results := [.lit (.bool false)], args := [d1, d2] }
  | _ => none }
def FnExactCastingsOfWrongFalsely : Prop := fnExactCastingsOfRow.holds Try.pinned (OpenSpec.ofChange fnExactCastingsOfWrong)

/-- 'laws.FnExactFewestChanges': WHATEVER THE INPUT: true; the input reads as it did. -/
def fnExactFewestChangesSpec : ChangeSpec := { name := "fnExactFewestChanges", fn := fun _ => fun
  | [d1, d2] => { results := [.lit (.bool true)], args := [d1, d2] }
  | _ => none }
def fnExactFewestChangesRow : OpenClaim := { program := "ytddjkiefadiijaa", sum := "cf6a638afcf22bef552dfda91e4e151a5022fb6aaf349b972c43a3ee5e341e7a", func := "loop.example/g03306/laws.FnExactFewestChanges", spec := "fnExactFewestChanges", unfollowed := true, recurses := true, apart := false }
def FnExactFewestChangesSaid : Prop := fnExactFewestChangesRow.holds Try.pinned (OpenSpec.ofChange fnExactFewestChangesSpec)

/-- ITS FALSE NEIGHBOUR: 'it returns false'. Refute it at one input. -/
def fnExactFewestChangesWrong : ChangeSpec := { name := "fnExactFewestChanges", fn := fun _ => fun
  | [d1, d2] => { results := [.lit (.bool false)], args := [d1, d2] }
  | _ => none }
def FnExactFewestChangesWrongFalsely : Prop := fnExactFewestChangesRow.holds Try.pinned (OpenSpec.ofChange fnExactFewestChangesWrong)

/-- 'laws.FnExactBestNight': WHATEVER THE INPUT: true; the input reads as it did. -/
def fnExactBestNightSpec : ChangeSpec := { name := "fnExactBestNight", fn := fun _ => fun
  | [d1, d2] => { results := [.lit (.bool true)], args := [d1, d2] }
  | _ => none }
def fnExactBestNightRow : OpenClaim := { program := "ytddjkiefadiijaa", sum := "cf6a638afcf22bef552dfda91e4e151a5022fb6aaf349b972c43a3ee5e341e7a", func := "loop.example/g03306/laws.FnExactBestNight", spec := "fnExactBestNight", unfollowed := true, recurses := true, apart := false }
def FnExactBestNightSaid : Prop := fnExactBestNightRow.holds Try.pinned (OpenSpec.ofChange fnExactBestNightSpec)

/-- ITS FALSE NEIGHBOUR: 'it returns false'. Refute it at one input. -/
def fnExactBestNightWrong : ChangeSpec := { name := "fnExactBestNight", fn := fun _ => fun
  | [d1, d2] => { results := [.lit (.bool false)], args := [d1, d2] }
  | _ => none }
def FnExactBestNightWrongFalsely : Prop := fnExactBestNightRow.holds Try.pinned (OpenSpec.ofChange fnExactBestNightWrong)

/-- 'laws.FnHands': WHATEVER THE INPUT: true; the input reads as it did. -/
def fnHandsSpec : ChangeSpec := { name := "fnHands", fn := fun _ => fun
  | [d] => { results := [.lit (.bool true)], args := [d] }
  | _ => none }
def fnHandsRow : OpenClaim := { program := "ytddjkiefadiijaa", sum := "cf6a638afcf22bef552dfda91e4e151a5022fb6aaf349b972c43a3ee5e341e7a", func := "loop.example/g03306/laws.FnHands", spec := "fnHands", unfollowed := true, recurses := true, apart := false }
def FnHandsSaid : Prop := fnHandsRow.holds Try.pinned (OpenSpec.ofChange fnHandsSpec)

/-- ITS FALSE NEIGHBOUR: 'it returns false'. Refute it at one input. -/
def fnHandsWrong : ChangeSpec := { name := "fnHands", fn := fun _ => fun
  | [d] => { results := [.lit (.bool false)], args := [d] }
  | _ => none }
def FnHandsWrongFalsely : Prop := fnHandsRow.holds Try.pinned (OpenSpec.ofChange fnHandsWrong)

/-- 'laws.FnProofs': WHATEVER THE INPUT: true; the input reads as it did. -/
def fnProofsSpec : ChangeSpec := { name := "fnProofs", fn := fun _ => fun
  | [d] => { results := [.lit (.bool true)], args := [d] }
  | _ => none }
def fnProofsRow : OpenClaim := { program := "ytddjkiefadiijaa", sum := "cf6a638afcf22bef552dfda91e4e151a5022fb6aaf349b972c43a3ee5e341e7a", func := "loop.example/g03306/laws.FnProofs", spec := "fnProofs", unfollowed := true, recurses := true, apart := false }
def FnProofsSaid : Prop := fnProofsRow.holds Try.pinned (OpenSpec.ofChange fnProofsSpec)

/-- ITS FALSE NEIGHBOUR: 'it returns false'. Refute it at one input. -/
def fnProofsWrong : ChangeSpec := { name := "fnProofs", fn := fun _ => fun
  | [d] => { results := [.lit (.bool false)], args := [d] }
  | _ => none }
def FnProofsWrongFalsely : Prop := fnProofsRow.holds Try.pinned (OpenSpec.ofChange fnProofsWrong)

/-- 'laws.FnChanges': WHATEVER THE INPUT: true; the input reads as it did. -/
def fnChangesSpec : ChangeSpec := { name := "fnChanges", fn := fun _ => fun
  | [d] => { results := [.lit (.bool true)], args := [d] }
  | _ => none }
def fnChangesRow : OpenClaim := { program := "ytddjkiefadiijaa", sum := "cf6a638afcf22bef552dfda91e4e151a5022fb6aaf349b972c43a3ee5e341e7a", func := "loop.example/g03306/laws.FnChanges", spec := "fnChanges", unfollowed := true, recurses := true, apart := false }
def FnChangesSaid : Prop := fnChangesRow.holds Try.pinned (OpenSpec.ofChange fnChangesSpec)

/-- ITS FALSE NEIGHBOUR: 'it returns false'. Refute it at one input. -/
def fnChangesWrong : ChangeSpec := { name := "fnChanges", fn := fun _ => fun
  | [d] => { results := [.lit (.bool false)], args := [d] }
  | _ => none }
def FnChangesWrongFalsely : Prop := fnChangesRow.holds Try.pinned (OpenSpec.ofChange fnChangesWrong)

/- THE SECOND FORM. 'bulk': how many values and letters a reading holds, each counted each time it is reached (what is shared counts as often as it is met; a slice's spare places count too). A statement '..UptoSaid' is the law's where the arguments, and the package variables that the reading takes, are together of bulk at most 1048576: NARROWER than '..Said'. Prove '..Said' where nothing that the law and all that it calls make is longer than what came in: it says more and counts as full. Else prove '..UptoSaid'. A law counts once. -/
mutual
def uptoBulk {H : Type} : DataW H → Nat
  | .lit (.string bytes) => bytes.length + 1
  | .lit _ => 1
  | .nil => 1
  | .ptr d => uptoBulk d + 1
  | .slice elems spare => uptoBulkAll elems + uptoBulkAll spare + 1
  | .agg parts => uptoBulkAll parts + 1
  | .iface _ d => uptoBulk d + 1
  | .map entries => uptoBulkEntries entries + 1
  | .held _ => 1
def uptoBulkAll {H : Type} : List (DataW H) → Nat
  | [] => 0
  | d :: r => uptoBulk d + uptoBulkAll r
def uptoBulkEntries {H : Type} : List (Lit × DataW H) → Nat
  | [] => 0
  | x :: r => uptoBulkEntry x + uptoBulkEntries r
def uptoBulkEntry {H : Type} : Lit × DataW H → Nat
  | (.string bytes, d) => bytes.length + uptoBulk d + 1
  | (_, d) => uptoBulk d + 1
 end
def uptoSmall : (H : Type) → List (DataW H) → Bool := fun _ ds => decide (uptoBulkAll ds ≤ 1048576)
def OpenSpec.upto (s : _root_.Go.ChangeSpec) : _root_.Go.OpenSpec := { _root_.Go.OpenSpec.ofChange s with cond := some uptoSmall }

/-- 'laws.FnExactFirstCasting', WHERE WHAT IT READS IS OF BULK AT MOST 1048576: true; the input reads as it did. -/
def fnExactFirstCastingUptoRow : OpenClaim := { program := "ytddjkiefadiijaa", sum := "cf6a638afcf22bef552dfda91e4e151a5022fb6aaf349b972c43a3ee5e341e7a", func := "loop.example/g03306/laws.FnExactFirstCasting", spec := "fnExactFirstCasting", unfollowed := true, recurses := true, apart := false, narrowed := true }
def FnExactFirstCastingUptoSaid : Prop := fnExactFirstCastingUptoRow.holds Try.pinned (OpenSpec.upto fnExactFirstCastingSpec)

/-- 'laws.FnExactMostCast', WHERE WHAT IT READS IS OF BULK AT MOST 1048576: true; the input reads as it did. -/
def fnExactMostCastUptoRow : OpenClaim := { program := "ytddjkiefadiijaa", sum := "cf6a638afcf22bef552dfda91e4e151a5022fb6aaf349b972c43a3ee5e341e7a", func := "loop.example/g03306/laws.FnExactMostCast", spec := "fnExactMostCast", unfollowed := true, recurses := true, apart := false, narrowed := true }
def FnExactMostCastUptoSaid : Prop := fnExactMostCastUptoRow.holds Try.pinned (OpenSpec.upto fnExactMostCastSpec)

/-- 'laws.FnExactIsSafe', WHERE WHAT IT READS IS OF BULK AT MOST 1048576: true; the input reads as it did. -/
def fnExactIsSafeUptoRow : OpenClaim := { program := "ytddjkiefadiijaa", sum := "cf6a638afcf22bef552dfda91e4e151a5022fb6aaf349b972c43a3ee5e341e7a", func := "loop.example/g03306/laws.FnExactIsSafe", spec := "fnExactIsSafe", unfollowed := true, recurses := true, apart := false, narrowed := true }
def FnExactIsSafeUptoSaid : Prop := fnExactIsSafeUptoRow.holds Try.pinned (OpenSpec.upto fnExactIsSafeSpec)

/-- 'laws.FnExactCastingsOf', WHERE WHAT IT READS IS OF BULK AT MOST 1048576: true; the input reads as it did. -/
def fnExactCastingsOfUptoRow : OpenClaim := { program := "ytddjkiefadiijaa", sum := "cf6a638afcf22bef552dfda91e4e151a5022fb6aaf349b972c43a3ee5e341e7a", func := "loop.example/g03306/laws.FnExactCastingsOf", spec := "fnExactCastingsOf", unfollowed := true, recurses := true, apart := false, narrowed := true }
def FnExactCastingsOfUptoSaid : Prop := fnExactCastingsOfUptoRow.holds Try.pinned (OpenSpec.upto fnExactCastingsOfSpec)

/-- 'laws.FnExactFewestChanges', WHERE WHAT IT READS IS OF BULK AT MOST 1048576: true; the input reads as it did. -/
def fnExactFewestChangesUptoRow : OpenClaim := { program := "ytddjkiefadiijaa", sum := "cf6a638afcf22bef552dfda91e4e151a5022fb6aaf349b972c43a3ee5e341e7a", func := "loop.example/g03306/laws.FnExactFewestChanges", spec := "fnExactFewestChanges", unfollowed := true, recurses := true, apart := false, narrowed := true }
def FnExactFewestChangesUptoSaid : Prop := fnExactFewestChangesUptoRow.holds Try.pinned (OpenSpec.upto fnExactFewestChangesSpec)

/-- 'laws.FnExactBestNight', WHERE WHAT IT READS IS OF BULK AT MOST 1048576: true; the input reads as it did. -/
def fnExactBestNightUptoRow : OpenClaim := { program := "ytddjkiefadiijaa", sum := "cf6a638afcf22bef552dfda91e4e151a5022fb6aaf349b972c43a3ee5e341e7a", func := "loop.example/g03306/laws.FnExactBestNight", spec := "fnExactBestNight", unfollowed := true, recurses := true, apart := false, narrowed := true }
def FnExactBestNightUptoSaid : Prop := fnExactBestNightUptoRow.holds Try.pinned (OpenSpec.upto fnExactBestNightSpec)

/-- 'laws.FnHands', WHERE WHAT IT READS IS OF BULK AT MOST 1048576: true; the input reads as it did. -/
def fnHandsUptoRow : OpenClaim := { program := "ytddjkiefadiijaa", sum := "cf6a638afcf22bef552dfda91e4e151a5022fb6aaf349b972c43a3ee5e341e7a", func := "loop.example/g03306/laws.FnHands", spec := "fnHands", unfollowed := true, recurses := true, apart := false, narrowed := true }
def FnHandsUptoSaid : Prop := fnHandsUptoRow.holds Try.pinned (OpenSpec.upto fnHandsSpec)

/-- 'laws.FnProofs', WHERE WHAT IT READS IS OF BULK AT MOST 1048576: true; the input reads as it did. -/
def fnProofsUptoRow : OpenClaim := { program := "ytddjkiefadiijaa", sum := "cf6a638afcf22bef552dfda91e4e151a5022fb6aaf349b972c43a3ee5e341e7a", func := "loop.example/g03306/laws.FnProofs", spec := "fnProofs", unfollowed := true, recurses := true, apart := false, narrowed := true }
def FnProofsUptoSaid : Prop := fnProofsUptoRow.holds Try.pinned (OpenSpec.upto fnProofsSpec)

/-- 'laws.FnChanges', WHERE WHAT IT READS IS OF BULK AT MOST 1048576: true; the input reads as it did. -/
def fnChangesUptoRow : OpenClaim := { program := "ytddjkiefadiijaa", sum := "cf6a638afcf22bef552dfda91e4e151a5022fb6aaf349b972c43a3ee5e341e7a", func := "loop.example/g03306/laws.FnChanges", spec := "fnChanges", unfollowed := true, recurses := true, apart := false, narrowed := true }
def FnChangesUptoSaid : Prop := fnChangesUptoRow.holds Try.pinned (OpenSpec.upto fnChangesSpec)

end Rows
end Go.Proofs.Ytddjkiefadiijaa
