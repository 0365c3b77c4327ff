/-
  No cell of these rows narrows 'for every input' (looked for: loops, veiled, ifaces, maps, wideKeys, modest, calm, conditions, laid).
  DERIVED. THE GIVEN ROWS OF THIS SEAT. 13 by the template 'for every input the law returns true; each argument reads behind the call as it read before'; 0 by the template 'total and deterministic' (their statements: YthmlfpfebdnpcaaTotals.lean).
  GIVEN WITH THE SEED: the statements are not yours to turn. If you find one false, say at which input.
  Laid BY PROGRAM, IN A SANDBOX (cutbox-rows.mjs): the forced cells as the released guide's own fill.sh prints them over the translation c53285514f4c93f1… (all of the seat's roots in one cut). By AI agents, Wed Nov 11 2026. No macro, syntax, notation, axiom, sorry.
-/
import Derived.Test.YthmlfpfebdnpcaaChecked
import GoSem.Claim
import GoSem.ClaimJoined
import GoSem.ClaimMapViews
import Derived.JoinedTies
import Derived.KernelRfl
namespace Go.Proofs.Ythmlfpfebdnpcaa
/- THE CELL 'sum', in the pinned program and in every row, IS THE sha256 OF THE DUMP (.gsa) THAT YthmlfpfebdnpcaaProg.lean LOADS. Nothing in Lean hashes anything: it is a label: what it is worth is what the hold of that sum in a sandbox is worth. -/
noncomputable def Try.pinned : Pinned := { name := "ythmlfpfebdnpcaa", sum := "c53285514f4c93f1d72d6883cc95e1dac83bc3f9873b32d0b4188ae6cb902a03", checked := Try.checked }
namespace Rows
def none {H : Type} : Left H := { results := [], args := [] }

/-- 'laws.FnExactCountChanges': WHATEVER THE INPUT: true; the input reads as it did. -/
def fnExactCountChangesSpec : ChangeSpec := { name := "fnExactCountChanges", fn := fun _ => fun
  | [d1, d2] => { results := [.lit (.bool true)], args := [d1, d2] }
  | _ => none }
def fnExactCountChangesRow : OpenClaim := { program := "ythmlfpfebdnpcaa", sum := "c53285514f4c93f1d72d6883cc95e1dac83bc3f9873b32d0b4188ae6cb902a03", func := "loop.example/g03306/laws.FnExactCountChanges", spec := "fnExactCountChanges", apart := false }
def FnExactCountChangesSaid : Prop := fnExactCountChangesRow.holds Try.pinned (OpenSpec.ofChange fnExactCountChangesSpec)

/-- ITS FALSE NEIGHBOUR: 'it returns false'. Refute it at one input. -/
def fnExactCountChangesWrong : ChangeSpec := { name := "fnExactCountChanges", fn := fun _ => fun
  | [d1, d2] => { results := [.lit (.bool false)], args := [d1, d2] }
  | _ => none }
def FnExactCountChangesWrongFalsely : Prop := fnExactCountChangesRow.holds Try.pinned (OpenSpec.ofChange fnExactCountChangesWrong)

/-- 'laws.FnExactPlayersOk': WHATEVER THE INPUT: true; the input reads as it did. -/
def fnExactPlayersOkSpec : ChangeSpec := { name := "fnExactPlayersOk", fn := fun _ => fun
  | [d] => { results := [.lit (.bool true)], args := [d] }
  | _ => none }
def fnExactPlayersOkRow : OpenClaim := { program := "ythmlfpfebdnpcaa", sum := "c53285514f4c93f1d72d6883cc95e1dac83bc3f9873b32d0b4188ae6cb902a03", func := "loop.example/g03306/laws.FnExactPlayersOk", spec := "fnExactPlayersOk", apart := false }
def FnExactPlayersOkSaid : Prop := fnExactPlayersOkRow.holds Try.pinned (OpenSpec.ofChange fnExactPlayersOkSpec)

/-- ITS FALSE NEIGHBOUR: 'it returns false'. Refute it at one input. -/
def fnExactPlayersOkWrong : ChangeSpec := { name := "fnExactPlayersOk", fn := fun _ => fun
  | [d] => { results := [.lit (.bool false)], args := [d] }
  | _ => none }
def FnExactPlayersOkWrongFalsely : Prop := fnExactPlayersOkRow.holds Try.pinned (OpenSpec.ofChange fnExactPlayersOkWrong)

/-- 'laws.FnExactHandsFree': WHATEVER THE INPUT: true; the input reads as it did. -/
def fnExactHandsFreeSpec : ChangeSpec := { name := "fnExactHandsFree", fn := fun _ => fun
  | [d] => { results := [.lit (.bool true)], args := [d] }
  | _ => none }
def fnExactHandsFreeRow : OpenClaim := { program := "ythmlfpfebdnpcaa", sum := "c53285514f4c93f1d72d6883cc95e1dac83bc3f9873b32d0b4188ae6cb902a03", func := "loop.example/g03306/laws.FnExactHandsFree", spec := "fnExactHandsFree", apart := false }
def FnExactHandsFreeSaid : Prop := fnExactHandsFreeRow.holds Try.pinned (OpenSpec.ofChange fnExactHandsFreeSpec)

/-- ITS FALSE NEIGHBOUR: 'it returns false'. Refute it at one input. -/
def fnExactHandsFreeWrong : ChangeSpec := { name := "fnExactHandsFree", fn := fun _ => fun
  | [d] => { results := [.lit (.bool false)], args := [d] }
  | _ => none }
def FnExactHandsFreeWrongFalsely : Prop := fnExactHandsFreeRow.holds Try.pinned (OpenSpec.ofChange fnExactHandsFreeWrong)

/-- 'laws.FnExactHandsFor': WHATEVER THE INPUT: true; the input reads as it did. -/
def fnExactHandsForSpec : ChangeSpec := { name := "fnExactHandsFor", fn := fun _ => fun
  | [d1, d2] => { results := [.lit (.bool true)], args := [d1, d2] }
  | _ => none }
def fnExactHandsForRow : OpenClaim := { program := "ythmlfpfebdnpcaa", sum := "c53285514f4c93f1d72d6883cc95e1dac83bc3f9873b32d0b4188ae6cb902a03", func := "loop.example/g03306/laws.FnExactHandsFor", spec := "fnExactHandsFor", apart := false }
def FnExactHandsForSaid : Prop := fnExactHandsForRow.holds Try.pinned (OpenSpec.ofChange fnExactHandsForSpec)

/-- ITS FALSE NEIGHBOUR: 'it returns false'. Refute it at one input. -/
def fnExactHandsForWrong : ChangeSpec := { name := "fnExactHandsFor", fn := fun _ => fun
  | [d1, d2] => { results := [.lit (.bool false)], args := [d1, d2] }
  | _ => none }
def FnExactHandsForWrongFalsely : Prop := fnExactHandsForRow.holds Try.pinned (OpenSpec.ofChange fnExactHandsForWrong)

/-- 'laws.FnExactNightOk': WHATEVER THE INPUT: true; the input reads as it did. -/
def fnExactNightOkSpec : ChangeSpec := { name := "fnExactNightOk", fn := fun _ => fun
  | [d1, d2] => { results := [.lit (.bool true)], args := [d1, d2] }
  | _ => none }
def fnExactNightOkRow : OpenClaim := { program := "ythmlfpfebdnpcaa", sum := "c53285514f4c93f1d72d6883cc95e1dac83bc3f9873b32d0b4188ae6cb902a03", func := "loop.example/g03306/laws.FnExactNightOk", spec := "fnExactNightOk", apart := false }
def FnExactNightOkSaid : Prop := fnExactNightOkRow.holds Try.pinned (OpenSpec.ofChange fnExactNightOkSpec)

/-- ITS FALSE NEIGHBOUR: 'it returns false'. Refute it at one input. -/
def fnExactNightOkWrong : ChangeSpec := { name := "fnExactNightOk", fn := fun _ => fun
  | [d1, d2] => { results := [.lit (.bool false)], args := [d1, d2] }
  | _ => none }
def FnExactNightOkWrongFalsely : Prop := fnExactNightOkRow.holds Try.pinned (OpenSpec.ofChange fnExactNightOkWrong)

/-- 'laws.FnExactLoadOf': WHATEVER THE INPUT: true; the input reads as it did. -/
def fnExactLoadOfSpec : ChangeSpec := { name := "fnExactLoadOf", fn := fun _ => fun
  | [d1, d2] => { results := [.lit (.bool true)], args := [d1, d2] }
  | _ => none }
def fnExactLoadOfRow : OpenClaim := { program := "ythmlfpfebdnpcaa", sum := "c53285514f4c93f1d72d6883cc95e1dac83bc3f9873b32d0b4188ae6cb902a03", func := "loop.example/g03306/laws.FnExactLoadOf", spec := "fnExactLoadOf", apart := false }
def FnExactLoadOfSaid : Prop := fnExactLoadOfRow.holds Try.pinned (OpenSpec.ofChange fnExactLoadOfSpec)

/-- ITS FALSE NEIGHBOUR: 'it returns false'. Refute it at one input. -/
def fnExactLoadOfWrong : ChangeSpec := { name := "fnExactLoadOf", fn := fun _ => fun
  | [d1, d2] => { results := [.lit (.bool false)], args := [d1, d2] }
  | _ => none }
def FnExactLoadOfWrongFalsely : Prop := fnExactLoadOfRow.holds Try.pinned (OpenSpec.ofChange fnExactLoadOfWrong)

/-- 'laws.FnExactIsShort': WHATEVER THE INPUT: true; the input reads as it did. -/
def fnExactIsShortSpec : ChangeSpec := { name := "fnExactIsShort", fn := fun _ => fun
  | [d1, d2] => { results := [.lit (.bool true)], args := [d1, d2] }
  | _ => none }
def fnExactIsShortRow : OpenClaim := { program := "ythmlfpfebdnpcaa", sum := "c53285514f4c93f1d72d6883cc95e1dac83bc3f9873b32d0b4188ae6cb902a03", func := "loop.example/g03306/laws.FnExactIsShort", spec := "fnExactIsShort", apart := false }
def FnExactIsShortSaid : Prop := fnExactIsShortRow.holds Try.pinned (OpenSpec.ofChange fnExactIsShortSpec)

/-- ITS FALSE NEIGHBOUR: 'it returns false'. Refute it at one input. -/
def fnExactIsShortWrong : ChangeSpec := { name := "fnExactIsShort", fn := fun _ => fun
  | [d1, d2] => { results := [.lit (.bool false)], args := [d1, d2] }
  | _ => none }
def FnExactIsShortWrongFalsely : Prop := fnExactIsShortRow.holds Try.pinned (OpenSpec.ofChange fnExactIsShortWrong)

/-- 'laws.FnExactWhoKnows': WHATEVER THE INPUT: true; the input reads as it did. -/
def fnExactWhoKnowsSpec : ChangeSpec := { name := "fnExactWhoKnows", fn := fun _ => fun
  | [d1, d2] => { results := [.lit (.bool true)], args := [d1, d2] }
  | _ => none }
def fnExactWhoKnowsRow : OpenClaim := { program := "ythmlfpfebdnpcaa", sum := "c53285514f4c93f1d72d6883cc95e1dac83bc3f9873b32d0b4188ae6cb902a03", func := "loop.example/g03306/laws.FnExactWhoKnows", spec := "fnExactWhoKnows", apart := false }
def FnExactWhoKnowsSaid : Prop := fnExactWhoKnowsRow.holds Try.pinned (OpenSpec.ofChange fnExactWhoKnowsSpec)

/-- ITS FALSE NEIGHBOUR: 'it returns false'. Refute it at one input. -/
def fnExactWhoKnowsWrong : ChangeSpec := { name := "fnExactWhoKnows", fn := fun _ => fun
  | [d1, d2] => { results := [.lit (.bool false)], args := [d1, d2] }
  | _ => none }
def FnExactWhoKnowsWrongFalsely : Prop := fnExactWhoKnowsRow.holds Try.pinned (OpenSpec.ofChange fnExactWhoKnowsWrong)

/-- 'laws.FnExactWithoutPlayer': WHATEVER THE INPUT: true; the input reads as it did. -/
def fnExactWithoutPlayerSpec : ChangeSpec := { name := "fnExactWithoutPlayer", fn := fun _ => fun
  | [d1, d2] => { results := [.lit (.bool true)], args := [d1, d2] }
  | _ => none }
def fnExactWithoutPlayerRow : OpenClaim := { program := "ythmlfpfebdnpcaa", sum := "c53285514f4c93f1d72d6883cc95e1dac83bc3f9873b32d0b4188ae6cb902a03", func := "loop.example/g03306/laws.FnExactWithoutPlayer", spec := "fnExactWithoutPlayer", apart := false }
def FnExactWithoutPlayerSaid : Prop := fnExactWithoutPlayerRow.holds Try.pinned (OpenSpec.ofChange fnExactWithoutPlayerSpec)

/-- ITS FALSE NEIGHBOUR: 'it returns false'. Refute it at one input. -/
def fnExactWithoutPlayerWrong : ChangeSpec := { name := "fnExactWithoutPlayer", fn := fun _ => fun
  | [d1, d2] => { results := [.lit (.bool false)], args := [d1, d2] }
  | _ => none }
def FnExactWithoutPlayerWrongFalsely : Prop := fnExactWithoutPlayerRow.holds Try.pinned (OpenSpec.ofChange fnExactWithoutPlayerWrong)

/-- 'laws.FnExactIsCasting': WHATEVER THE INPUT: true; the input reads as it did. -/
def fnExactIsCastingSpec : ChangeSpec := { name := "fnExactIsCasting", fn := fun _ => fun
  | [d1, d2, d3] => { results := [.lit (.bool true)], args := [d1, d2, d3] }
  | _ => none }
def fnExactIsCastingRow : OpenClaim := { program := "ythmlfpfebdnpcaa", sum := "c53285514f4c93f1d72d6883cc95e1dac83bc3f9873b32d0b4188ae6cb902a03", func := "loop.example/g03306/laws.FnExactIsCasting", spec := "fnExactIsCasting", apart := false }
def FnExactIsCastingSaid : Prop := fnExactIsCastingRow.holds Try.pinned (OpenSpec.ofChange fnExactIsCastingSpec)

/-- ITS FALSE NEIGHBOUR: 'it returns false'. Refute it at one input. -/
def fnExactIsCastingWrong : ChangeSpec := { name := "fnExactIsCasting", fn := fun _ => fun
  | [d1, d2, d3] => { results := [.lit (.bool false)], args := [d1, d2, d3] }
  | _ => none }
def FnExactIsCastingWrongFalsely : Prop := fnExactIsCastingRow.holds Try.pinned (OpenSpec.ofChange fnExactIsCastingWrong)

/-- 'laws.FnExactLackOf': WHATEVER THE INPUT: true; the input reads as it did. -/
def fnExactLackOfSpec : ChangeSpec := { name := "fnExactLackOf", fn := fun _ => fun
  | [d1, d2] => { results := [.lit (.bool true)], args := [d1, d2] }
  | _ => none }
def fnExactLackOfRow : OpenClaim := { program := "ythmlfpfebdnpcaa", sum := "c53285514f4c93f1d72d6883cc95e1dac83bc3f9873b32d0b4188ae6cb902a03", func := "loop.example/g03306/laws.FnExactLackOf", spec := "fnExactLackOf", apart := false }
def FnExactLackOfSaid : Prop := fnExactLackOfRow.holds Try.pinned (OpenSpec.ofChange fnExactLackOfSpec)

/-- ITS FALSE NEIGHBOUR: 'it returns false'. Refute it at one input. -/
def fnExactLackOfWrong : ChangeSpec := { name := "fnExactLackOf", fn := fun _ => fun
  | [d1, d2] => { results := [.lit (.bool false)], args := [d1, d2] }
  | _ => none }
def FnExactLackOfWrongFalsely : Prop := fnExactLackOfRow.holds Try.pinned (OpenSpec.ofChange fnExactLackOfWrong)

/-- 'laws.FnExactTeachPuppet': WHATEVER THE INPUT: true; the input reads as it did. -/
def fnExactTeachPuppetSpec : ChangeSpec := { name := "fnExactTeachPuppet", fn := fun _ => fun
  | [d1, d2, d3] => { results := [.lit (.bool true)], args := [d1, d2, d3] }
  | _ => none }
def fnExactTeachPuppetRow : OpenClaim := { program := "ythmlfpfebdnpcaa", sum := "c53285514f4c93f1d72d6883cc95e1dac83bc3f9873b32d0b4188ae6cb902a03", func := "loop.example/g03306/laws.FnExactTeachPuppet", spec := "fnExactTeachPuppet", apart := false }
def FnExactTeachPuppetSaid : Prop := fnExactTeachPuppetRow.holds Try.pinned (OpenSpec.ofChange fnExactTeachPuppetSpec)

/-- ITS FALSE NEIGHBOUR: 'it returns false'. Refute it at one input. -/
def fnExactTeachPuppetWrong : ChangeSpec := { name := "fnExactTeachPuppet", fn := fun _ => fun
  | [d1, d2, d3] => { results := [.lit (.bool false)], args := [d1, d2, d3] }
  | _ => none }
def FnExactTeachPuppetWrongFalsely : Prop := fnExactTeachPuppetRow.holds Try.pinned (OpenSpec.ofChange fnExactTeachPuppetWrong)

/-- 'laws.FnExactShortSet': WHATEVER THE INPUT: true; the input reads as it did. -/
def fnExactShortSetSpec : ChangeSpec := { name := "fnExactShortSet", fn := fun _ => fun
  | [d1, d2] => { results := [.lit (.bool true)], args := [d1, d2] }
  | _ => none }
def fnExactShortSetRow : OpenClaim := { program := "ythmlfpfebdnpcaa", sum := "c53285514f4c93f1d72d6883cc95e1dac83bc3f9873b32d0b4188ae6cb902a03", func := "loop.example/g03306/laws.FnExactShortSet", spec := "fnExactShortSet", apart := false }
def FnExactShortSetSaid : Prop := fnExactShortSetRow.holds Try.pinned (OpenSpec.ofChange fnExactShortSetSpec)

/-- ITS FALSE NEIGHBOUR: 'it returns false'. Refute it at one input. -/
def fnExactShortSetWrong : ChangeSpec := { name := "fnExactShortSet", fn := fun _ => fun
  | [d1, d2] => { results := [.lit (.bool false)], args := [d1, d2] }
  | _ => none }
def FnExactShortSetWrongFalsely : Prop := fnExactShortSetRow.holds Try.pinned (OpenSpec.ofChange fnExactShortSetWrong)

/- THE SECOND FORM. 'bulk': how many values and letters a reading holds, each counted each time it is reached (what is shared counts as often as it is met; a slice's spare places count too). A statement '..UptoSaid' is the law's where the arguments, and the package variables that the reading takes, are together of bulk at most 1048576: NARROWER than '..Said'. Prove '..Said' where nothing that the law and all that it calls make is longer than what came in: it says more and counts as full. Else prove '..UptoSaid'. A law counts once. -/
mutual
def uptoBulk {H : Type} : DataW H → Nat
  | .lit (.string bytes) => bytes.length + 1
  | .lit _ => 1
  | .nil => 1
  | .ptr d => uptoBulk d + 1
  | .slice elems spare => uptoBulkAll elems + uptoBulkAll spare + 1
  | .agg parts => uptoBulkAll parts + 1
  | .iface _ d => uptoBulk d + 1
  | .map entries => uptoBulkEntries entries + 1
  | .held _ => 1
def uptoBulkAll {H : Type} : List (DataW H) → Nat
  | [] => 0
  | d :: r => uptoBulk d + uptoBulkAll r
def uptoBulkEntries {H : Type} : List (Lit × DataW H) → Nat
  | [] => 0
  | x :: r => uptoBulkEntry x + uptoBulkEntries r
def uptoBulkEntry {H : Type} : Lit × DataW H → Nat
  | (.string bytes, d) => bytes.length + uptoBulk d + 1
  | (_, d) => uptoBulk d + 1
 end
def uptoSmall : (H : Type) → List (DataW H) → Bool := fun _ ds => decide (uptoBulkAll ds ≤ 1048576)
def OpenSpec.upto (s : _root_.Go.ChangeSpec) : _root_.Go.OpenSpec := { _root_.Go.OpenSpec.ofChange s with cond := some uptoSmall }

/-- 'laws.FnExactCountChanges', WHERE WHAT IT READS IS OF BULK AT MOST 1048576: true; the input reads as it did. -/
def fnExactCountChangesUptoRow : OpenClaim := { program := "ythmlfpfebdnpcaa", sum := "c53285514f4c93f1d72d6883cc95e1dac83bc3f9873b32d0b4188ae6cb902a03", func := "loop.example/g03306/laws.FnExactCountChanges", spec := "fnExactCountChanges", apart := false, narrowed := true }
def FnExactCountChangesUptoSaid : Prop := fnExactCountChangesUptoRow.holds Try.pinned (OpenSpec.upto fnExactCountChangesSpec)

/-- 'laws.FnExactPlayersOk', WHERE WHAT IT READS IS OF BULK AT MOST 1048576: true; the input reads as it did. -/
def fnExactPlayersOkUptoRow : OpenClaim := { program := "ythmlfpfebdnpcaa", sum := "c53285514f4c93f1d72d6883cc95e1dac83bc3f9873b32d0b4188ae6cb902a03", func := "loop.example/g03306/laws.FnExactPlayersOk", spec := "fnExactPlayersOk", apart := false, narrowed := true }
def FnExactPlayersOkUptoSaid : Prop := fnExactPlayersOkUptoRow.holds Try.pinned (OpenSpec.upto fnExactPlayersOkSpec)

/-- 'laws.FnExactHandsFree', WHERE WHAT IT READS IS OF BULK AT MOST 1048576: true; the input reads as it did. -/
def fnExactHandsFreeUptoRow : OpenClaim := { program := "ythmlfpfebdnpcaa", sum := "c53285514f4c93f1d72d6883cc95e1dac83bc3f9873b32d0b4188ae6cb902a03", func := "loop.example/g03306/laws.FnExactHandsFree", spec := "fnExactHandsFree", apart := false, narrowed := true }
def FnExactHandsFreeUptoSaid : Prop := fnExactHandsFreeUptoRow.holds Try.pinned (OpenSpec.upto fnExactHandsFreeSpec)

/-- 'laws.FnExactHandsFor', WHERE WHAT IT READS IS OF BULK AT MOST 1048576: true; the input reads as it did. -/
def fnExactHandsForUptoRow : OpenClaim := { program := "ythmlfpfebdnpcaa", sum := "c53285514f4c93f1d72d6883cc95e1dac83bc3f9873b32d0b4188ae6cb902a03", func := "loop.example/g03306/laws.FnExactHandsFor", spec := "fnExactHandsFor", apart := false, narrowed := true }
def FnExactHandsForUptoSaid : Prop := fnExactHandsForUptoRow.holds Try.pinned (OpenSpec.upto fnExactHandsForSpec)

/-- 'laws.FnExactNightOk', WHERE WHAT IT READS IS OF BULK AT MOST 1048576: true; the input reads as it did. -/
def fnExactNightOkUptoRow : OpenClaim := { program := "ythmlfpfebdnpcaa", sum := "c53285514f4c93f1d72d6883cc95e1dac83bc3f9873b32d0b4188ae6cb902a03", func := "loop.example/g03306/laws.FnExactNightOk", spec := "fnExactNightOk", apart := false, narrowed := true }
def FnExactNightOkUptoSaid : Prop := fnExactNightOkUptoRow.holds Try.pinned (OpenSpec.upto fnExactNightOkSpec)

/-- 'laws.FnExactLoadOf', WHERE WHAT IT READS IS OF BULK AT MOST 1048576: true; the input reads as it did. -/
def fnExactLoadOfUptoRow : OpenClaim := { program := "ythmlfpfebdnpcaa", sum := "c53285514f4c93f1d72d6883cc95e1dac83bc3f9873b32d0b4188ae6cb902a03", func := "loop.example/g03306/laws.FnExactLoadOf", spec := "fnExactLoadOf", apart := false, narrowed := true }
def FnExactLoadOfUptoSaid : Prop := fnExactLoadOfUptoRow.holds Try.pinned (OpenSpec.upto fnExactLoadOfSpec)

/-- 'laws.FnExactIsShort', WHERE WHAT IT READS IS OF BULK AT MOST 1048576: true; the input reads as it did. -/
def fnExactIsShortUptoRow : OpenClaim := { program := "ythmlfpfebdnpcaa", sum := "c53285514f4c93f1d72d6883cc95e1dac83bc3f9873b32d0b4188ae6cb902a03", func := "loop.example/g03306/laws.FnExactIsShort", spec := "fnExactIsShort", apart := false, narrowed := true }
def FnExactIsShortUptoSaid : Prop := fnExactIsShortUptoRow.holds Try.pinned (OpenSpec.upto fnExactIsShortSpec)

/-- 'laws.FnExactWhoKnows', WHERE WHAT IT READS IS OF BULK AT MOST 1048576: true; the input reads as it did. -/
def fnExactWhoKnowsUptoRow : OpenClaim := { program := "ythmlfpfebdnpcaa", sum := "c53285514f4c93f1d72d6883cc95e1dac83bc3f9873b32d0b4188ae6cb902a03", func := "loop.example/g03306/laws.FnExactWhoKnows", spec := "fnExactWhoKnows", apart := false, narrowed := true }
def FnExactWhoKnowsUptoSaid : Prop := fnExactWhoKnowsUptoRow.holds Try.pinned (OpenSpec.upto fnExactWhoKnowsSpec)

/-- 'laws.FnExactWithoutPlayer', WHERE WHAT IT READS IS OF BULK AT MOST 1048576: true; the input reads as it did. -/
def fnExactWithoutPlayerUptoRow : OpenClaim := { program := "ythmlfpfebdnpcaa", sum := "c53285514f4c93f1d72d6883cc95e1dac83bc3f9873b32d0b4188ae6cb902a03", func := "loop.example/g03306/laws.FnExactWithoutPlayer", spec := "fnExactWithoutPlayer", apart := false, narrowed := true }
def FnExactWithoutPlayerUptoSaid : Prop := fnExactWithoutPlayerUptoRow.holds Try.pinned (OpenSpec.upto fnExactWithoutPlayerSpec)

/-- 'laws.FnExactIsCasting', WHERE WHAT IT READS IS OF BULK AT MOST 1048576: true; the input reads as it did. -/
def fnExactIsCastingUptoRow : OpenClaim := { program := "ythmlfpfebdnpcaa", sum := "c53285514f4c93f1d72d6883cc95e1dac83bc3f9873b32d0b4188ae6cb902a03", func := "loop.example/g03306/laws.FnExactIsCasting", spec := "fnExactIsCasting", apart := false, narrowed := true }
def FnExactIsCastingUptoSaid : Prop := fnExactIsCastingUptoRow.holds Try.pinned (OpenSpec.upto fnExactIsCastingSpec)

/-- 'laws.FnExactLackOf', WHERE WHAT IT READS IS OF BULK AT MOST 1048576: true; the input reads as it did. -/
def fnExactLackOfUptoRow : OpenClaim := { program := "ythmlfpfebdnpcaa", sum := "c53285514f4c93f1d72d6883cc95e1dac83bc3f9873b32d0b4188ae6cb902a03", func := "loop.example/g03306/laws.FnExactLackOf", spec := "fnExactLackOf", apart := false, narrowed := true }
def FnExactLackOfUptoSaid : Prop := fnExactLackOfUptoRow.holds Try.pinned (OpenSpec.upto fnExactLackOfSpec)

/-- 'laws.FnExactTeachPuppet', WHERE WHAT IT READS IS OF BULK AT MOST 1048576: true; the input reads as it did. -/
def fnExactTeachPuppetUptoRow : OpenClaim := { program := "ythmlfpfebdnpcaa", sum := "c53285514f4c93f1d72d6883cc95e1dac83bc3f9873b32d0b4188ae6cb902a03", func := "loop.example/g03306/laws.FnExactTeachPuppet", spec := "fnExactTeachPuppet", apart := false, narrowed := true }
def FnExactTeachPuppetUptoSaid : Prop := fnExactTeachPuppetUptoRow.holds Try.pinned (OpenSpec.upto fnExactTeachPuppetSpec)

/-- 'laws.FnExactShortSet', WHERE WHAT IT READS IS OF BULK AT MOST 1048576: true; the input reads as it did. -/
def fnExactShortSetUptoRow : OpenClaim := { program := "ythmlfpfebdnpcaa", sum := "c53285514f4c93f1d72d6883cc95e1dac83bc3f9873b32d0b4188ae6cb902a03", func := "loop.example/g03306/laws.FnExactShortSet", spec := "fnExactShortSet", apart := false, narrowed := true }
def FnExactShortSetUptoSaid : Prop := fnExactShortSetUptoRow.holds Try.pinned (OpenSpec.upto fnExactShortSetSpec)

end Rows
end Go.Proofs.Ythmlfpfebdnpcaa
