/- Plain laws over the models: ranges, ascending numbers, places of numbers. No program, no statement of the claim. -/
import Derived.Test.YtebfcpninegcgaaPI
namespace Go.Proofs.Ytebfcpninegcgaa

theorem within_ok {a b c : Int} {Q : Bool → Prop} (h : Q (decide (b ≤ a ∧ a ≤ c))) : m_impl_within a b c Q := by
  show Q _; rw [in_eq]; exact h
theorem gset {α : Type} [Inhabited α] (l : List α) (i : Nat) (v : α) (hi : i < l.length) (j : Nat) : (l.set i v)[j]! = if i = j then v else l[j]! := by
  simp only [List.getElem!_eq_getElem?_getD, List.getElem?_set]
  by_cases hj : i = j
  · subst hj; simp [hi]
  · simp [hj]
abbrev riP (m : Int) (l : List Int) (j : Nat) : Prop := 0 ≤ l[j]! ∧ l[j]! ≤ m ∧ (0 < j → l[j - 1]! < l[j]!)
def riB (m : Int) (l : List Int) : Bool := decide (∀ j, j < l.length → riP m l j)
theorem riB_iff {m : Int} {l : List Int} : riB m l = true ↔ ∀ j, j < l.length → riP m l j := decide_eq_true_iff
theorem riB_bad {m : Int} {l : List Int} {j : Nat} (hj : j < l.length) (h : ¬ riP m l j) : riB m l = false := decide_eq_false (fun hx => h (hx j hj))
theorem lt_succ' {p : Nat → Prop} {i : Int} (h0 : 0 ≤ i) (h : ∀ j, j < i.toNat → p j) (h1 : p i.toNat) : ∀ j, j < (i + 1).toNat → p j := by
  intro j hj
  by_cases hc : j = i.toNat
  · subst hc; exact h1
  · exact h j (by omega)
def awB (a b : Int) (l : List Int) : Bool := decide (∀ j, j < l.length → a ≤ l[j]! ∧ l[j]! ≤ b)
theorem awB_iff {a b : Int} {l : List Int} : awB a b l = true ↔ ∀ j, j < l.length → a ≤ l[j]! ∧ l[j]! ≤ b := decide_eq_true_iff
theorem indexOf_ok {n : Int} {l : List Int} {Q : Int → Prop} (hl : l.length ≤ 1099511627776) (h : Q (ixOf l n)) : m_impl_indexOf l n Q := by
  refine ⟨fun i => 0 ≤ i ∧ i ≤ l.length ∧ ixOf l n = ixFrom n (l.drop i.toNat) i.toNat, fun i => (l.length - i).toNat, ⟨by omega, by omega, rfl⟩, ?_⟩
  rintro i ⟨h0, h1, h2⟩
  refine ⟨fun hc => ⟨⟨h0, hc⟩, fun he => ?_, fun he => ⟨by omega, ⟨by omega, by omega, ?_⟩, (by dsimp only; omega)⟩⟩, fun hc => ?_⟩
  · rw [h2, ix_step (by omega), if_pos he] at h
    rwa [show ((i.toNat : Nat) : Int) = i by omega] at h
  · rw [h2, ix_step (by omega), if_neg he, tn1 h0]
  · rw [h2, ix_end (by omega)] at h; exact h
end Go.Proofs.Ytebfcpninegcgaa
