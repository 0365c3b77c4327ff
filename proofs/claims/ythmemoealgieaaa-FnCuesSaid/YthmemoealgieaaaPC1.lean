/- Plain laws over the models: cues: sizes, copies, comparisons, marks. No program, no statement of the claim. -/
import Derived.Test.YthmemoealgieaaaPI
namespace Go.Proofs.Ythmemoealgieaaa

def sumN {α : Type} (f : α → Nat) : List α → Nat
  | [] => 0
  | r :: t => f r + sumN f t
theorem sumN_step {α : Type} [Inhabited α] (f : α → Nat) (t : List α) (i : Nat) (h : i < t.length) : sumN f (t.take (i + 1)) = sumN f (t.take i) + f t[i]! := by
  induction t generalizing i with
  | nil => simp at h
  | cons r t ih =>
    cases i with
    | zero => simp [sumN]
    | succ i =>
      have := ih i (by simpa using h)
      simp only [List.take_succ_cons, sumN, this, List.getElem!_cons_succ]; omega
theorem sumN_take {α : Type} (f : α → Nat) (t : List α) (i : Nat) : sumN f (t.take i) ≤ sumN f t := by
  induction t generalizing i with
  | nil => simp [sumN]
  | cons r t ih =>
    cases i with
    | zero => simp [sumN]
    | succ i => have := ih i; simp only [List.take_succ_cons, sumN]; omega
theorem sumN_get {α : Type} [Inhabited α] (f : α → Nat) (t : List α) (i : Nat) (h : i < t.length) : f t[i]! ≤ sumN f t := by
  have := sumN_step f t i h
  have := sumN_take f t (i + 1)
  omega
theorem set_get {α : Type} [Inhabited α] {x : List α} {i : Nat} {a : α} (h : i < x.length) : (x.set i a)[i]! = a := by simp [h]
theorem drop_set' {α : Type} {x : List α} {i : Nat} {a : α} : (x.set i a).drop (i + 1) = x.drop (i + 1) := List.drop_set_of_lt (by omega)
theorem drop_next {α : Type} {x t : List α} {i : Nat} (h : x.drop i = t.drop i) : x.drop (i + 1) = t.drop (i + 1) := by
  have := congrArg (List.drop 1) h
  simpa [List.drop_drop, Nat.add_comm] using this

def cuN (c : CueC) : Nat := c.2.1.length + c.2.2.length
def szCu (l : List CueC) : Nat := sumN cuN l

end Go.Proofs.Ythmemoealgieaaa
