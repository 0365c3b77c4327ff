/- The program's first words, read once: what a row asks of the whole program. -/
import Derived.Test.YtddjkiefadiijaaFacts
import Derived.ProofKit
namespace Go.Proofs.Ytddjkiefadiijaa
open Go
set_option maxRecDepth 1000000

theorem signs {s : String} {l : List Char} (h : s = String.ofList l) : l = s.toList := by rw [h, String.toList_ofList]
/- the same answers, as functions of the words' signs -/
def mayF (P : Program) : { F : List Char → Bool // ∀ s, s = P.initOrder.toList → P.mayEnter = F s } := by
  refine ⟨?F, fun s h => ?e⟩
  case e =>
    unfold Program.mayEnter
    rw [← h]
def liftsF (P : Program) : { F : List Char → Bool // ∀ s, s = P.initOrder.toList → P.liftsFinal = F s } := by
  refine ⟨?F, fun s h => ?e⟩
  case e =>
    unfold Program.liftsFinal Program.headLifts
    rw [← h]
theorem may_of {P : Program} {l : List Char} {b : Bool} (h : P.initOrder = String.ofList l) (h2 : (mayF P).1 l = b) : P.mayEnter = b := ((mayF P).2 l (signs h)).trans h2
theorem lifts_of {P : Program} {l : List Char} {b : Bool} (h : P.initOrder = String.ofList l) (h2 : (liftsF P).1 l = b) : P.liftsFinal = b := ((liftsF P).2 l (signs h)).trans h2
theorem mayEnter_yes : Try.prog.mayEnter = true := may_of rfl (of_decide_eq_true (by kernel_rfl))
theorem liftsFinal_no : Try.prog.liftsFinal = false := lifts_of rfl (of_decide_eq_true (by kernel_rfl))
def makeF (P : Program) : { F : List Char → Option Make // ∀ s, s = P.initOrder.toList → P.make = F s } := by
  refine ⟨?F, fun s h => ?e⟩
  case e =>
    unfold Program.make
    rw [← h]
def joinF (P : Program) (f : FuncId) (fn : Func) (s : ChangeSpec) (c : OpenClaim) : { F : Bool → Bool → Option Make → Bool // ∀ m l k, m = P.mayEnter → l = P.liftsFinal → k = P.make → joinedFacts P f fn s c = F m l k } := by
  refine ⟨?F, fun m l k h h2 h3 => ?e⟩
  case e =>
    unfold joinedFacts
    rw [← h, ← h2, ← h3]
theorem joined_of {l : List Char} {f : FuncId} {fn : Func} {s : ChangeSpec} {c : OpenClaim} (h0 : Try.prog.initOrder = String.ofList l) (h : (joinF Try.prog f fn s c).1 true false ((makeF Try.prog).1 l) = true) : joinedFacts Try.prog f fn s c = true :=
  ((joinF Try.prog f fn s c).2 true false _ mayEnter_yes.symm liftsFinal_no.symm ((makeF Try.prog).2 l (signs h0)).symm).trans h
end Go.Proofs.Ytddjkiefadiijaa
