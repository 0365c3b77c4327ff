/-
  No cell of these rows narrows 'for every input' (looked for: loops, veiled, ifaces, maps, wideKeys, modest, calm, conditions, laid).
  DERIVED. THE GIVEN ROWS OF THIS SEAT. 14 by the template 'for every input the law returns true; each argument reads behind the call as it read before'; 0 by the template 'total and deterministic' (their statements: YthmemoealgieaaaTotals.lean).
  GIVEN WITH THE SEED: the statements are not yours to turn. If you find one false, say at which input.
  Laid BY PROGRAM, IN A SANDBOX (cutbox-rows.mjs): the forced cells as the released guide's own fill.sh prints them over the translation c23d40d29d40d6f5… (all of the seat's roots in one cut). By AI agents, Wed Nov 11 2026. No macro, syntax, notation, axiom, sorry.
-/
import Derived.Test.YthmemoealgieaaaChecked
import GoSem.Claim
import GoSem.ClaimJoined
import GoSem.ClaimMapViews
import Derived.JoinedTies
import Derived.KernelRfl
namespace Go.Proofs.Ythmemoealgieaaa
/- THE CELL 'sum', in the pinned program and in every row, IS THE sha256 OF THE DUMP (.gsa) THAT YthmemoealgieaaaProg.lean LOADS. Nothing in Lean hashes anything: it is a label: what it is worth is what the hold of that sum in a sandbox is worth. -/
noncomputable def Try.pinned : Pinned := { name := "ythmemoealgieaaa", sum := "c23d40d29d40d6f5c9db862fd67843d473dc19cb24412d783583e1fcc3c9821e", checked := Try.checked }
namespace Rows
def none {H : Type} : Left H := { results := [], args := [] }

/-- 'laws.FnExactCircleIn': WHATEVER THE INPUT: true; the input reads as it did. -/
def fnExactCircleInSpec : ChangeSpec := { name := "fnExactCircleIn", fn := fun _ => fun
  | [d] => { results := [.lit (.bool true)], args := [d] }
  | _ => none }
def fnExactCircleInRow : OpenClaim := { program := "ythmemoealgieaaa", sum := "c23d40d29d40d6f5c9db862fd67843d473dc19cb24412d783583e1fcc3c9821e", func := "loop.example/g03306/laws.FnExactCircleIn", spec := "fnExactCircleIn", apart := false }
def FnExactCircleInSaid : Prop := fnExactCircleInRow.holds Try.pinned (OpenSpec.ofChange fnExactCircleInSpec)

/-- ITS FALSE NEIGHBOUR: 'it returns false'. Refute it at one input. -/
def fnExactCircleInWrong : ChangeSpec := { name := "fnExactCircleIn", fn := fun _ => fun
  | [d] => { results := [.lit (.bool false)], args := [d] }
  | _ => none }
def FnExactCircleInWrongFalsely : Prop := fnExactCircleInRow.holds Try.pinned (OpenSpec.ofChange fnExactCircleInWrong)

/-- 'laws.FnCues': WHATEVER THE INPUT: true; the input reads as it did. -/
def fnCuesSpec : ChangeSpec := { name := "fnCues", fn := fun _ => fun
  | [d] => { results := [.lit (.bool true)], args := [d] }
  | _ => none }
def fnCuesRow : OpenClaim := { program := "ythmemoealgieaaa", sum := "c23d40d29d40d6f5c9db862fd67843d473dc19cb24412d783583e1fcc3c9821e", func := "loop.example/g03306/laws.FnCues", spec := "fnCues", apart := false }
def FnCuesSaid : Prop := fnCuesRow.holds Try.pinned (OpenSpec.ofChange fnCuesSpec)

/-- ITS FALSE NEIGHBOUR: 'it returns false'. Refute it at one input. -/
def fnCuesWrong : ChangeSpec := { name := "fnCues", fn := fun _ => fun
  | [d] => { results := [.lit (.bool false)], args := [d] }
  | _ => none }
def FnCuesWrongFalsely : Prop := fnCuesRow.holds Try.pinned (OpenSpec.ofChange fnCuesWrong)

/-- 'laws.FnExactCuesOk': WHATEVER THE INPUT: true; the input reads as it did. -/
def fnExactCuesOkSpec : ChangeSpec := { name := "fnExactCuesOk", fn := fun _ => fun
  | [d] => { results := [.lit (.bool true)], args := [d] }
  | _ => none }
def fnExactCuesOkRow : OpenClaim := { program := "ythmemoealgieaaa", sum := "c23d40d29d40d6f5c9db862fd67843d473dc19cb24412d783583e1fcc3c9821e", func := "loop.example/g03306/laws.FnExactCuesOk", spec := "fnExactCuesOk", apart := false }
def FnExactCuesOkSaid : Prop := fnExactCuesOkRow.holds Try.pinned (OpenSpec.ofChange fnExactCuesOkSpec)

/-- ITS FALSE NEIGHBOUR: 'it returns false'. Refute it at one input. -/
def fnExactCuesOkWrong : ChangeSpec := { name := "fnExactCuesOk", fn := fun _ => fun
  | [d] => { results := [.lit (.bool false)], args := [d] }
  | _ => none }
def FnExactCuesOkWrongFalsely : Prop := fnExactCuesOkRow.holds Try.pinned (OpenSpec.ofChange fnExactCuesOkWrong)

/-- 'laws.FnExactWaitsFor': WHATEVER THE INPUT: true; the input reads as it did. -/
def fnExactWaitsForSpec : ChangeSpec := { name := "fnExactWaitsFor", fn := fun _ => fun
  | [d1, d2, d3] => { results := [.lit (.bool true)], args := [d1, d2, d3] }
  | _ => none }
def fnExactWaitsForRow : OpenClaim := { program := "ythmemoealgieaaa", sum := "c23d40d29d40d6f5c9db862fd67843d473dc19cb24412d783583e1fcc3c9821e", func := "loop.example/g03306/laws.FnExactWaitsFor", spec := "fnExactWaitsFor", apart := false }
def FnExactWaitsForSaid : Prop := fnExactWaitsForRow.holds Try.pinned (OpenSpec.ofChange fnExactWaitsForSpec)

/-- ITS FALSE NEIGHBOUR: 'it returns false'. Refute it at one input. -/
def fnExactWaitsForWrong : ChangeSpec := { name := "fnExactWaitsFor", fn := fun _ => fun
  | [d1, d2, d3] => { results := [.lit (.bool false)], args := [d1, d2, d3] }
  | _ => none }
def FnExactWaitsForWrongFalsely : Prop := fnExactWaitsForRow.holds Try.pinned (OpenSpec.ofChange fnExactWaitsForWrong)

/-- 'laws.FnExactCountOrders': WHATEVER THE INPUT: true; the input reads as it did. -/
def fnExactCountOrdersSpec : ChangeSpec := { name := "fnExactCountOrders", fn := fun _ => fun
  | [d] => { results := [.lit (.bool true)], args := [d] }
  | _ => none }
def fnExactCountOrdersRow : OpenClaim := { program := "ythmemoealgieaaa", sum := "c23d40d29d40d6f5c9db862fd67843d473dc19cb24412d783583e1fcc3c9821e", func := "loop.example/g03306/laws.FnExactCountOrders", spec := "fnExactCountOrders", apart := false }
def FnExactCountOrdersSaid : Prop := fnExactCountOrdersRow.holds Try.pinned (OpenSpec.ofChange fnExactCountOrdersSpec)

/-- ITS FALSE NEIGHBOUR: 'it returns false'. Refute it at one input. -/
def fnExactCountOrdersWrong : ChangeSpec := { name := "fnExactCountOrders", fn := fun _ => fun
  | [d] => { results := [.lit (.bool false)], args := [d] }
  | _ => none }
def FnExactCountOrdersWrongFalsely : Prop := fnExactCountOrdersRow.holds Try.pinned (OpenSpec.ofChange fnExactCountOrdersWrong)

/-- 'laws.FnTimes': WHATEVER THE INPUT: true; the input reads as it did. -/
def fnTimesSpec : ChangeSpec := { name := "fnTimes", fn := fun _ => fun
  | [d] => { results := [.lit (.bool true)], args := [d] }
  | _ => none }
def fnTimesRow : OpenClaim := { program := "ythmemoealgieaaa", sum := "c23d40d29d40d6f5c9db862fd67843d473dc19cb24412d783583e1fcc3c9821e", func := "loop.example/g03306/laws.FnTimes", spec := "fnTimes", apart := false }
def FnTimesSaid : Prop := fnTimesRow.holds Try.pinned (OpenSpec.ofChange fnTimesSpec)

/-- ITS FALSE NEIGHBOUR: 'it returns false'. Refute it at one input. -/
def fnTimesWrong : ChangeSpec := { name := "fnTimes", fn := fun _ => fun
  | [d] => { results := [.lit (.bool false)], args := [d] }
  | _ => none }
def FnTimesWrongFalsely : Prop := fnTimesRow.holds Try.pinned (OpenSpec.ofChange fnTimesWrong)

/-- 'laws.FnExactFreeCues': WHATEVER THE INPUT: true; the input reads as it did. -/
def fnExactFreeCuesSpec : ChangeSpec := { name := "fnExactFreeCues", fn := fun _ => fun
  | [d] => { results := [.lit (.bool true)], args := [d] }
  | _ => none }
def fnExactFreeCuesRow : OpenClaim := { program := "ythmemoealgieaaa", sum := "c23d40d29d40d6f5c9db862fd67843d473dc19cb24412d783583e1fcc3c9821e", func := "loop.example/g03306/laws.FnExactFreeCues", spec := "fnExactFreeCues", apart := false }
def FnExactFreeCuesSaid : Prop := fnExactFreeCuesRow.holds Try.pinned (OpenSpec.ofChange fnExactFreeCuesSpec)

/-- ITS FALSE NEIGHBOUR: 'it returns false'. Refute it at one input. -/
def fnExactFreeCuesWrong : ChangeSpec := { name := "fnExactFreeCues", fn := fun _ => fun
  | [d] => { results := [.lit (.bool false)], args := [d] }
  | _ => none }
def FnExactFreeCuesWrongFalsely : Prop := fnExactFreeCuesRow.holds Try.pinned (OpenSpec.ofChange fnExactFreeCuesWrong)

/-- 'laws.FnExactCueOrder': WHATEVER THE INPUT: true; the input reads as it did. -/
def fnExactCueOrderSpec : ChangeSpec := { name := "fnExactCueOrder", fn := fun _ => fun
  | [d] => { results := [.lit (.bool true)], args := [d] }
  | _ => none }
def fnExactCueOrderRow : OpenClaim := { program := "ythmemoealgieaaa", sum := "c23d40d29d40d6f5c9db862fd67843d473dc19cb24412d783583e1fcc3c9821e", func := "loop.example/g03306/laws.FnExactCueOrder", spec := "fnExactCueOrder", apart := false }
def FnExactCueOrderSaid : Prop := fnExactCueOrderRow.holds Try.pinned (OpenSpec.ofChange fnExactCueOrderSpec)

/-- ITS FALSE NEIGHBOUR: 'it returns false'. Refute it at one input. -/
def fnExactCueOrderWrong : ChangeSpec := { name := "fnExactCueOrder", fn := fun _ => fun
  | [d] => { results := [.lit (.bool false)], args := [d] }
  | _ => none }
def FnExactCueOrderWrongFalsely : Prop := fnExactCueOrderRow.holds Try.pinned (OpenSpec.ofChange fnExactCueOrderWrong)

/-- 'laws.FnExactPlayTime': WHATEVER THE INPUT: true; the input reads as it did. -/
def fnExactPlayTimeSpec : ChangeSpec := { name := "fnExactPlayTime", fn := fun _ => fun
  | [d] => { results := [.lit (.bool true)], args := [d] }
  | _ => none }
def fnExactPlayTimeRow : OpenClaim := { program := "ythmemoealgieaaa", sum := "c23d40d29d40d6f5c9db862fd67843d473dc19cb24412d783583e1fcc3c9821e", func := "loop.example/g03306/laws.FnExactPlayTime", spec := "fnExactPlayTime", apart := false }
def FnExactPlayTimeSaid : Prop := fnExactPlayTimeRow.holds Try.pinned (OpenSpec.ofChange fnExactPlayTimeSpec)

/-- ITS FALSE NEIGHBOUR: 'it returns false'. Refute it at one input. -/
def fnExactPlayTimeWrong : ChangeSpec := { name := "fnExactPlayTime", fn := fun _ => fun
  | [d] => { results := [.lit (.bool false)], args := [d] }
  | _ => none }
def FnExactPlayTimeWrongFalsely : Prop := fnExactPlayTimeRow.holds Try.pinned (OpenSpec.ofChange fnExactPlayTimeWrong)

/-- 'laws.FnExactStartsOf': WHATEVER THE INPUT: true; the input reads as it did. -/
def fnExactStartsOfSpec : ChangeSpec := { name := "fnExactStartsOf", fn := fun _ => fun
  | [d] => { results := [.lit (.bool true)], args := [d] }
  | _ => none }
def fnExactStartsOfRow : OpenClaim := { program := "ythmemoealgieaaa", sum := "c23d40d29d40d6f5c9db862fd67843d473dc19cb24412d783583e1fcc3c9821e", func := "loop.example/g03306/laws.FnExactStartsOf", spec := "fnExactStartsOf", apart := false }
def FnExactStartsOfSaid : Prop := fnExactStartsOfRow.holds Try.pinned (OpenSpec.ofChange fnExactStartsOfSpec)

/-- ITS FALSE NEIGHBOUR: 'it returns false'. Refute it at one input. -/
def fnExactStartsOfWrong : ChangeSpec := { name := "fnExactStartsOf", fn := fun _ => fun
  | [d] => { results := [.lit (.bool false)], args := [d] }
  | _ => none }
def FnExactStartsOfWrongFalsely : Prop := fnExactStartsOfRow.holds Try.pinned (OpenSpec.ofChange fnExactStartsOfWrong)

/-- 'laws.FnExactIsPlan': WHATEVER THE INPUT: true; the input reads as it did. -/
def fnExactIsPlanSpec : ChangeSpec := { name := "fnExactIsPlan", fn := fun _ => fun
  | [d1, d2] => { results := [.lit (.bool true)], args := [d1, d2] }
  | _ => none }
def fnExactIsPlanRow : OpenClaim := { program := "ythmemoealgieaaa", sum := "c23d40d29d40d6f5c9db862fd67843d473dc19cb24412d783583e1fcc3c9821e", func := "loop.example/g03306/laws.FnExactIsPlan", spec := "fnExactIsPlan", apart := false }
def FnExactIsPlanSaid : Prop := fnExactIsPlanRow.holds Try.pinned (OpenSpec.ofChange fnExactIsPlanSpec)

/-- ITS FALSE NEIGHBOUR: 'it returns false'. Refute it at one input. -/
def fnExactIsPlanWrong : ChangeSpec := { name := "fnExactIsPlan", fn := fun _ => fun
  | [d1, d2] => { results := [.lit (.bool false)], args := [d1, d2] }
  | _ => none }
def FnExactIsPlanWrongFalsely : Prop := fnExactIsPlanRow.holds Try.pinned (OpenSpec.ofChange fnExactIsPlanWrong)

/-- 'laws.FnExactClashesIn': WHATEVER THE INPUT: true; the input reads as it did. -/
def fnExactClashesInSpec : ChangeSpec := { name := "fnExactClashesIn", fn := fun _ => fun
  | [d1, d2] => { results := [.lit (.bool true)], args := [d1, d2] }
  | _ => none }
def fnExactClashesInRow : OpenClaim := { program := "ythmemoealgieaaa", sum := "c23d40d29d40d6f5c9db862fd67843d473dc19cb24412d783583e1fcc3c9821e", func := "loop.example/g03306/laws.FnExactClashesIn", spec := "fnExactClashesIn", apart := false }
def FnExactClashesInSaid : Prop := fnExactClashesInRow.holds Try.pinned (OpenSpec.ofChange fnExactClashesInSpec)

/-- ITS FALSE NEIGHBOUR: 'it returns false'. Refute it at one input. -/
def fnExactClashesInWrong : ChangeSpec := { name := "fnExactClashesIn", fn := fun _ => fun
  | [d1, d2] => { results := [.lit (.bool false)], args := [d1, d2] }
  | _ => none }
def FnExactClashesInWrongFalsely : Prop := fnExactClashesInRow.holds Try.pinned (OpenSpec.ofChange fnExactClashesInWrong)

/-- 'laws.FnExactSimplePlan': WHATEVER THE INPUT: true; the input reads as it did. -/
def fnExactSimplePlanSpec : ChangeSpec := { name := "fnExactSimplePlan", fn := fun _ => fun
  | [d] => { results := [.lit (.bool true)], args := [d] }
  | _ => none }
def fnExactSimplePlanRow : OpenClaim := { program := "ythmemoealgieaaa", sum := "c23d40d29d40d6f5c9db862fd67843d473dc19cb24412d783583e1fcc3c9821e", func := "loop.example/g03306/laws.FnExactSimplePlan", spec := "fnExactSimplePlan", apart := false }
def FnExactSimplePlanSaid : Prop := fnExactSimplePlanRow.holds Try.pinned (OpenSpec.ofChange fnExactSimplePlanSpec)

/-- ITS FALSE NEIGHBOUR: 'it returns false'. Refute it at one input. -/
def fnExactSimplePlanWrong : ChangeSpec := { name := "fnExactSimplePlan", fn := fun _ => fun
  | [d] => { results := [.lit (.bool false)], args := [d] }
  | _ => none }
def FnExactSimplePlanWrongFalsely : Prop := fnExactSimplePlanRow.holds Try.pinned (OpenSpec.ofChange fnExactSimplePlanWrong)

/-- 'laws.FnExactLatestStarts': WHATEVER THE INPUT: true; the input reads as it did. -/
def fnExactLatestStartsSpec : ChangeSpec := { name := "fnExactLatestStarts", fn := fun _ => fun
  | [d] => { results := [.lit (.bool true)], args := [d] }
  | _ => none }
def fnExactLatestStartsRow : OpenClaim := { program := "ythmemoealgieaaa", sum := "c23d40d29d40d6f5c9db862fd67843d473dc19cb24412d783583e1fcc3c9821e", func := "loop.example/g03306/laws.FnExactLatestStarts", spec := "fnExactLatestStarts", apart := false }
def FnExactLatestStartsSaid : Prop := fnExactLatestStartsRow.holds Try.pinned (OpenSpec.ofChange fnExactLatestStartsSpec)

/-- ITS FALSE NEIGHBOUR: 'it returns false'. Refute it at one input. -/
def fnExactLatestStartsWrong : ChangeSpec := { name := "fnExactLatestStarts", fn := fun _ => fun
  | [d] => { results := [.lit (.bool false)], args := [d] }
  | _ => none }
def FnExactLatestStartsWrongFalsely : Prop := fnExactLatestStartsRow.holds Try.pinned (OpenSpec.ofChange fnExactLatestStartsWrong)

/- THE SECOND FORM. 'bulk': how many values and letters a reading holds, each counted each time it is reached (what is shared counts as often as it is met; a slice's spare places count too). A statement '..UptoSaid' is the law's where the arguments, and the package variables that the reading takes, are together of bulk at most 1048576: NARROWER than '..Said'. Prove '..Said' where nothing that the law and all that it calls make is longer than what came in: it says more and counts as full. Else prove '..UptoSaid'. A law counts once. -/
mutual
def uptoBulk {H : Type} : DataW H → Nat
  | .lit (.string bytes) => bytes.length + 1
  | .lit _ => 1
  | .nil => 1
  | .ptr d => uptoBulk d + 1
  | .slice elems spare => uptoBulkAll elems + uptoBulkAll spare + 1
  | .agg parts => uptoBulkAll parts + 1
  | .iface _ d => uptoBulk d + 1
  | .map entries => uptoBulkEntries entries + 1
  | .held _ => 1
def uptoBulkAll {H : Type} : List (DataW H) → Nat
  | [] => 0
  | d :: r => uptoBulk d + uptoBulkAll r
def uptoBulkEntries {H : Type} : List (Lit × DataW H) → Nat
  | [] => 0
  | x :: r => uptoBulkEntry x + uptoBulkEntries r
def uptoBulkEntry {H : Type} : Lit × DataW H → Nat
  | (.string bytes, d) => bytes.length + uptoBulk d + 1
  | (_, d) => uptoBulk d + 1
 end
def uptoSmall : (H : Type) → List (DataW H) → Bool := fun _ ds => decide (uptoBulkAll ds ≤ 1048576)
def OpenSpec.upto (s : _root_.Go.ChangeSpec) : _root_.Go.OpenSpec := { _root_.Go.OpenSpec.ofChange s with cond := some uptoSmall }

/-- 'laws.FnExactCircleIn', WHERE WHAT IT READS IS OF BULK AT MOST 1048576: true; the input reads as it did. -/
def fnExactCircleInUptoRow : OpenClaim := { program := "ythmemoealgieaaa", sum := "c23d40d29d40d6f5c9db862fd67843d473dc19cb24412d783583e1fcc3c9821e", func := "loop.example/g03306/laws.FnExactCircleIn", spec := "fnExactCircleIn", apart := false, narrowed := true }
def FnExactCircleInUptoSaid : Prop := fnExactCircleInUptoRow.holds Try.pinned (OpenSpec.upto fnExactCircleInSpec)

/-- 'laws.FnCues', WHERE WHAT IT READS IS OF BULK AT MOST 1048576: true; the input reads as it did. -/
def fnCuesUptoRow : OpenClaim := { program := "ythmemoealgieaaa", sum := "c23d40d29d40d6f5c9db862fd67843d473dc19cb24412d783583e1fcc3c9821e", func := "loop.example/g03306/laws.FnCues", spec := "fnCues", apart := false, narrowed := true }
def FnCuesUptoSaid : Prop := fnCuesUptoRow.holds Try.pinned (OpenSpec.upto fnCuesSpec)

/-- 'laws.FnExactCuesOk', WHERE WHAT IT READS IS OF BULK AT MOST 1048576: true; the input reads as it did. -/
def fnExactCuesOkUptoRow : OpenClaim := { program := "ythmemoealgieaaa", sum := "c23d40d29d40d6f5c9db862fd67843d473dc19cb24412d783583e1fcc3c9821e", func := "loop.example/g03306/laws.FnExactCuesOk", spec := "fnExactCuesOk", apart := false, narrowed := true }
def FnExactCuesOkUptoSaid : Prop := fnExactCuesOkUptoRow.holds Try.pinned (OpenSpec.upto fnExactCuesOkSpec)

/-- 'laws.FnExactWaitsFor', WHERE WHAT IT READS IS OF BULK AT MOST 1048576: true; the input reads as it did. -/
def fnExactWaitsForUptoRow : OpenClaim := { program := "ythmemoealgieaaa", sum := "c23d40d29d40d6f5c9db862fd67843d473dc19cb24412d783583e1fcc3c9821e", func := "loop.example/g03306/laws.FnExactWaitsFor", spec := "fnExactWaitsFor", apart := false, narrowed := true }
def FnExactWaitsForUptoSaid : Prop := fnExactWaitsForUptoRow.holds Try.pinned (OpenSpec.upto fnExactWaitsForSpec)

/-- 'laws.FnExactCountOrders', WHERE WHAT IT READS IS OF BULK AT MOST 1048576: true; the input reads as it did. -/
def fnExactCountOrdersUptoRow : OpenClaim := { program := "ythmemoealgieaaa", sum := "c23d40d29d40d6f5c9db862fd67843d473dc19cb24412d783583e1fcc3c9821e", func := "loop.example/g03306/laws.FnExactCountOrders", spec := "fnExactCountOrders", apart := false, narrowed := true }
def FnExactCountOrdersUptoSaid : Prop := fnExactCountOrdersUptoRow.holds Try.pinned (OpenSpec.upto fnExactCountOrdersSpec)

/-- 'laws.FnTimes', WHERE WHAT IT READS IS OF BULK AT MOST 1048576: true; the input reads as it did. -/
def fnTimesUptoRow : OpenClaim := { program := "ythmemoealgieaaa", sum := "c23d40d29d40d6f5c9db862fd67843d473dc19cb24412d783583e1fcc3c9821e", func := "loop.example/g03306/laws.FnTimes", spec := "fnTimes", apart := false, narrowed := true }
def FnTimesUptoSaid : Prop := fnTimesUptoRow.holds Try.pinned (OpenSpec.upto fnTimesSpec)

/-- 'laws.FnExactFreeCues', WHERE WHAT IT READS IS OF BULK AT MOST 1048576: true; the input reads as it did. -/
def fnExactFreeCuesUptoRow : OpenClaim := { program := "ythmemoealgieaaa", sum := "c23d40d29d40d6f5c9db862fd67843d473dc19cb24412d783583e1fcc3c9821e", func := "loop.example/g03306/laws.FnExactFreeCues", spec := "fnExactFreeCues", apart := false, narrowed := true }
def FnExactFreeCuesUptoSaid : Prop := fnExactFreeCuesUptoRow.holds Try.pinned (OpenSpec.upto fnExactFreeCuesSpec)

/-- 'laws.FnExactCueOrder', WHERE WHAT IT READS IS OF BULK AT MOST 1048576: true; the input reads as it did. -/
def fnExactCueOrderUptoRow : OpenClaim := { program := "ythmemoealgieaaa", sum := "c23d40d29d40d6f5c9db862fd67843d473dc19cb24412d783583e1fcc3c9821e", func := "loop.example/g03306/laws.FnExactCueOrder", spec := "fnExactCueOrder", apart := false, narrowed := true }
def FnExactCueOrderUptoSaid : Prop := fnExactCueOrderUptoRow.holds Try.pinned (OpenSpec.upto fnExactCueOrderSpec)

/-- 'laws.FnExactPlayTime', WHERE WHAT IT READS IS OF BULK AT MOST 1048576: true; the input reads as it did. -/
def fnExactPlayTimeUptoRow : OpenClaim := { program := "ythmemoealgieaaa", sum := "c23d40d29d40d6f5c9db862fd67843d473dc19cb24412d783583e1fcc3c9821e", func := "loop.example/g03306/laws.FnExactPlayTime", spec := "fnExactPlayTime", apart := false, narrowed := true }
def FnExactPlayTimeUptoSaid : Prop := fnExactPlayTimeUptoRow.holds Try.pinned (OpenSpec.upto fnExactPlayTimeSpec)

/-- 'laws.FnExactStartsOf', WHERE WHAT IT READS IS OF BULK AT MOST 1048576: true; the input reads as it did. -/
def fnExactStartsOfUptoRow : OpenClaim := { program := "ythmemoealgieaaa", sum := "c23d40d29d40d6f5c9db862fd67843d473dc19cb24412d783583e1fcc3c9821e", func := "loop.example/g03306/laws.FnExactStartsOf", spec := "fnExactStartsOf", apart := false, narrowed := true }
def FnExactStartsOfUptoSaid : Prop := fnExactStartsOfUptoRow.holds Try.pinned (OpenSpec.upto fnExactStartsOfSpec)

/-- 'laws.FnExactIsPlan', WHERE WHAT IT READS IS OF BULK AT MOST 1048576: true; the input reads as it did. -/
def fnExactIsPlanUptoRow : OpenClaim := { program := "ythmemoealgieaaa", sum := "c23d40d29d40d6f5c9db862fd67843d473dc19cb24412d783583e1fcc3c9821e", func := "loop.example/g03306/laws.FnExactIsPlan", spec := "fnExactIsPlan", apart := false, narrowed := true }
def FnExactIsPlanUptoSaid : Prop := fnExactIsPlanUptoRow.holds Try.pinned (OpenSpec.upto fnExactIsPlanSpec)

/-- 'laws.FnExactClashesIn', WHERE WHAT IT READS IS OF BULK AT MOST 1048576: true; the input reads as it did. -/
def fnExactClashesInUptoRow : OpenClaim := { program := "ythmemoealgieaaa", sum := "c23d40d29d40d6f5c9db862fd67843d473dc19cb24412d783583e1fcc3c9821e", func := "loop.example/g03306/laws.FnExactClashesIn", spec := "fnExactClashesIn", apart := false, narrowed := true }
def FnExactClashesInUptoSaid : Prop := fnExactClashesInUptoRow.holds Try.pinned (OpenSpec.upto fnExactClashesInSpec)

/-- 'laws.FnExactSimplePlan', WHERE WHAT IT READS IS OF BULK AT MOST 1048576: true; the input reads as it did. -/
def fnExactSimplePlanUptoRow : OpenClaim := { program := "ythmemoealgieaaa", sum := "c23d40d29d40d6f5c9db862fd67843d473dc19cb24412d783583e1fcc3c9821e", func := "loop.example/g03306/laws.FnExactSimplePlan", spec := "fnExactSimplePlan", apart := false, narrowed := true }
def FnExactSimplePlanUptoSaid : Prop := fnExactSimplePlanUptoRow.holds Try.pinned (OpenSpec.upto fnExactSimplePlanSpec)

/-- 'laws.FnExactLatestStarts', WHERE WHAT IT READS IS OF BULK AT MOST 1048576: true; the input reads as it did. -/
def fnExactLatestStartsUptoRow : OpenClaim := { program := "ythmemoealgieaaa", sum := "c23d40d29d40d6f5c9db862fd67843d473dc19cb24412d783583e1fcc3c9821e", func := "loop.example/g03306/laws.FnExactLatestStarts", spec := "fnExactLatestStarts", apart := false, narrowed := true }
def FnExactLatestStartsUptoSaid : Prop := fnExactLatestStartsUptoRow.holds Try.pinned (OpenSpec.upto fnExactLatestStartsSpec)

end Rows
end Go.Proofs.Ythmemoealgieaaa
