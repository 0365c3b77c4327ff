/- Plain laws over the models: ranges, ascending numbers, places of numbers. No program, no statement of the claim. -/
import Derived.Test.YtddjkiefadiijaaPI
namespace Go.Proofs.Ytddjkiefadiijaa

theorem in_ok {a b c : Int} {Q : Bool → Prop} (h : Q (decide (b ≤ a ∧ a ≤ c))) : m_spec_l01In a b c Q := by
  show Q _; rw [in_eq]; exact h
theorem within_ok {a b c : Int} {Q : Bool → Prop} (h : Q (decide (b ≤ a ∧ a ≤ c))) : m_impl_within a b c Q := by
  show Q _; rw [in_eq]; exact h
theorem gset {α : Type} [Inhabited α] (l : List α) (i : Nat) (v : α) (hi : i < l.length) (j : Nat) : (l.set i v)[j]! = if i = j then v else l[j]! := by
  simp only [List.getElem!_eq_getElem?_getD, List.getElem?_set]
  by_cases hj : i = j
  · subst hj; simp [hi]
  · simp [hj]
abbrev riP (m : Int) (l : List Int) (j : Nat) : Prop := 0 ≤ l[j]! ∧ l[j]! ≤ m ∧ (0 < j → l[j - 1]! < l[j]!)
def riB (m : Int) (l : List Int) : Bool := decide (∀ j, j < l.length → riP m l j)
theorem riB_iff {m : Int} {l : List Int} : riB m l = true ↔ ∀ j, j < l.length → riP m l j := decide_eq_true_iff
theorem riB_bad {m : Int} {l : List Int} {j : Nat} (hj : j < l.length) (h : ¬ riP m l j) : riB m l = false := decide_eq_false (fun hx => h (hx j hj))
theorem lt_succ' {p : Nat → Prop} {i : Int} (h0 : 0 ≤ i) (h : ∀ j, j < i.toNat → p j) (h1 : p i.toNat) : ∀ j, j < (i + 1).toNat → p j := by
  intro j hj
  by_cases hc : j = i.toNat
  · subst hc; exact h1
  · exact h j (by omega)
theorem rising_ok {m : Int} {l : List Int} {Q : Bool → Prop} (hl : l.length ≤ 1099511627776) (h : Q (riB m l)) : m_spec_l11Rising l m Q := by
  refine ⟨fun i => 0 ≤ i ∧ i ≤ l.length ∧ ∀ j, j < i.toNat → riP m l j, fun i => (l.length - i).toNat, ⟨by omega, by omega, fun j hj => absurd hj (by omega)⟩, ?_⟩
  rintro i ⟨h0, h1, h2⟩
  refine ⟨fun hc => ⟨⟨h0, hc⟩, _, in_ok rfl, fun _ => ⟨h0, hc⟩, fun _ => by omega, fun hx => ⟨by omega, by omega⟩, fun hb => ?_, fun hb => ⟨by omega, ⟨by omega, by omega, lt_succ' h0 h2 ?_⟩, (by dsimp only; omega)⟩⟩, fun hc => ?_⟩
  · have : riB m l = false := riB_bad (j := i.toNat) (by omega) (fun hx => by
      have e : (i - 1).toNat = i.toNat - 1 := by omega
      rw [e, decide_eq_true_eq] at hb
      have := hx.2.2
      omega)
    rw [this] at h; exact h
  · have e : (i - 1).toNat = i.toNat - 1 := by omega
    rw [e, decide_eq_true_eq] at hb
    refine ⟨by omega, by omega, fun hp => by omega⟩
  · have : riB m l = true := riB_iff.2 (fun j hj => h2 j (by omega))
    rw [this] at h; exact h
def awB (a b : Int) (l : List Int) : Bool := decide (∀ j, j < l.length → a ≤ l[j]! ∧ l[j]! ≤ b)
theorem awB_iff {a b : Int} {l : List Int} : awB a b l = true ↔ ∀ j, j < l.length → a ≤ l[j]! ∧ l[j]! ≤ b := decide_eq_true_iff
theorem allWithin_ok {a b : Int} {l : List Int} {Q : Bool → Prop} (hl : l.length ≤ 1099511627776) (h : Q (awB a b l)) : m_impl_allWithin l a b Q := by
  refine ⟨fun i => 0 ≤ i ∧ i ≤ l.length ∧ ∀ j, j < i.toNat → a ≤ l[j]! ∧ l[j]! ≤ b, fun i => (l.length - i).toNat, ⟨by omega, by omega, fun j hj => absurd hj (by omega)⟩, ?_⟩
  rintro i ⟨h0, h1, h2⟩
  refine ⟨fun hc => ⟨⟨h0, hc⟩, within_ok ⟨fun hb => ?_, fun hb => ⟨by omega, ⟨by omega, by omega, lt_succ' h0 h2 ?_⟩, (by dsimp only; omega)⟩⟩⟩, fun hc => ?_⟩
  · have : awB a b l = false := decide_eq_false (fun hx => by rw [decide_eq_true_eq] at hb; exact hb (hx i.toNat (by omega)))
    rw [this] at h; exact h
  · rw [decide_eq_true_eq] at hb; omega
  · have : awB a b l = true := awB_iff.2 (fun j hj => h2 j (by omega))
    rw [this] at h; exact h
theorem strict_ok {m : Int} {l : List Int} {Q : Bool → Prop} (hl : l.length ≤ 1099511627776) (h : Q (riB m l)) : m_impl_isStrict l 0 m Q := by
  refine ⟨fun i => 0 ≤ i ∧ i ≤ l.length ∧ ∀ j, j < i.toNat → 0 < j → l[j - 1]! < l[j]!, fun i => (l.length - i).toNat, ⟨by omega, by omega, fun j hj => absurd hj (by omega)⟩, ?_⟩
  rintro i ⟨h0, h1, h2⟩
  refine ⟨fun hc => ⟨fun _ => ⟨h0, hc⟩, fun _ => by omega, fun hx => ⟨by omega, by omega⟩, fun hb => ?_, fun hb => ⟨by omega, ⟨by omega, by omega, lt_succ' h0 h2 ?_⟩, (by dsimp only; omega)⟩⟩, fun hc => allWithin_ok hl ?_⟩
  · have : riB m l = false := riB_bad (j := i.toNat) (by omega) (fun hx => by
      have e : (i - 1).toNat = i.toNat - 1 := by omega
      rw [e] at hb
      have := hx.2.2
      omega)
    rw [this] at h; exact h
  · intro hp
    have e : (i - 1).toNat = i.toNat - 1 := by omega
    rw [e] at hb
    omega
  · have e : riB m l = awB 0 m l := by
      apply Bool.eq_iff_iff.2
      rw [riB_iff, awB_iff]
      exact ⟨fun hx j hj => ⟨(hx j hj).1, (hx j hj).2.1⟩, fun hx j hj => ⟨(hx j hj).1, (hx j hj).2, h2 j (by omega)⟩⟩
    rw [← e]; exact h
theorem indexOf_ok {n : Int} {l : List Int} {Q : Int → Prop} (hl : l.length ≤ 1099511627776) (h : Q (ixOf l n)) : m_impl_indexOf l n Q := by
  refine ⟨fun i => 0 ≤ i ∧ i ≤ l.length ∧ ixOf l n = ixFrom n (l.drop i.toNat) i.toNat, fun i => (l.length - i).toNat, ⟨by omega, by omega, rfl⟩, ?_⟩
  rintro i ⟨h0, h1, h2⟩
  refine ⟨fun hc => ⟨⟨h0, hc⟩, fun he => ?_, fun he => ⟨by omega, ⟨by omega, by omega, ?_⟩, (by dsimp only; omega)⟩⟩, fun hc => ?_⟩
  · rw [h2, ix_step (by omega), if_pos he] at h
    rwa [show ((i.toNat : Nat) : Int) = i by omega] at h
  · rw [h2, ix_step (by omega), if_neg he, tn1 h0]
  · rw [h2, ix_end (by omega)] at h; exact h
end Go.Proofs.Ytddjkiefadiijaa
