/- Plain laws over the models: cues: sizes, copies, comparisons, marks. No program, no statement of the claim. -/
import Derived.Test.YthmemoealgieaaaPI
namespace Go.Proofs.Ythmemoealgieaaa

def sumN {α : Type} (f : α → Nat) : List α → Nat
  | [] => 0
  | r :: t => f r + sumN f t
theorem sumN_step {α : Type} [Inhabited α] (f : α → Nat) (t : List α) (i : Nat) (h : i < t.length) : sumN f (t.take (i + 1)) = sumN f (t.take i) + f t[i]! := by
  induction t generalizing i with
  | nil => simp at h
  | cons r t ih =>
    cases i with
    | zero => simp [sumN]
    | succ i =>
      have := ih i (by simpa using h)
      simp only [List.take_succ_cons, sumN, this, List.getElem!_cons_succ]; omega
theorem sumN_take {α : Type} (f : α → Nat) (t : List α) (i : Nat) : sumN f (t.take i) ≤ sumN f t := by
  induction t generalizing i with
  | nil => simp [sumN]
  | cons r t ih =>
    cases i with
    | zero => simp [sumN]
    | succ i => have := ih i; simp only [List.take_succ_cons, sumN]; omega
theorem sumN_get {α : Type} [Inhabited α] (f : α → Nat) (t : List α) (i : Nat) (h : i < t.length) : f t[i]! ≤ sumN f t := by
  have := sumN_step f t i h
  have := sumN_take f t (i + 1)
  omega
theorem set_get {α : Type} [Inhabited α] {x : List α} {i : Nat} {a : α} (h : i < x.length) : (x.set i a)[i]! = a := by simp [h]
theorem drop_set' {α : Type} {x : List α} {i : Nat} {a : α} : (x.set i a).drop (i + 1) = x.drop (i + 1) := List.drop_set_of_lt (by omega)
theorem drop_next {α : Type} {x t : List α} {i : Nat} (h : x.drop i = t.drop i) : x.drop (i + 1) = t.drop (i + 1) := by
  have := congrArg (List.drop 1) h
  simpa [List.drop_drop, Nat.add_comm] using this

def cuN (c : CueC) : Nat := c.2.1.length + c.2.2.length
def szCu (l : List CueC) : Nat := sumN cuN l

theorem szCue_ok {c : CueC} {k : Int} {Q : Int → Prop} (ha : c.2.1.length ≤ 9223372036854775807) (hp : c.2.2.length ≤ 9223372036854775807) (hk : 0 ≤ k ∧ k ≤ 1048576) (h1 : (cuN c : Int) ≤ k → Q (k - (cuN c : Int))) (h2 : Q (-1)) : m_laws_szCue c k Q := by
  unfold cuN at h1
  refine szIntS_ok ha (by omega) (fun g1 => ⟨fun _ => h2, fun _ => szIntS_ok hp (by omega) (fun g2 => ⟨fun _ => h2, fun _ => ?_⟩) ⟨fun _ => h2, fun h => absurd (by omega) h⟩⟩) ⟨fun _ => h2, fun h => absurd (by omega) h⟩
  have := h1 (by omega)
  rwa [show k - (c.2.1.length : Int) - (c.2.2.length : Int) = k - ((c.2.1.length + c.2.2.length : Nat) : Int) by omega]
theorem szCueS_ok {l : List CueC} {Q : Int → Prop} (hl : l.length ≤ 9223372036854775807) (hr : ∀ i, i < l.length → (l[i]!).2.1.length ≤ 9223372036854775807 ∧ (l[i]!).2.2.length ≤ 9223372036854775807) (h1 : l.length + szCu l ≤ 1048576 → Q (1048576 - (l.length : Int) - (szCu l : Int))) (h2 : Q (-1)) : m_laws_szCueS l 1048576 Q := by
  refine ⟨by omega, fun _ => h2, fun hn => ⟨fun v i => 0 ≤ i ∧ i ≤ l.length ∧ 0 ≤ v ∧ v = 1048576 - (l.length : Int) - (sumN cuN (l.take i.toNat) : Int), fun v i => (l.length - i).toNat, ⟨by omega, by omega, by omega, by simp [sumN]⟩, ?_⟩⟩
  rintro v i ⟨g0, g1, g2, g3⟩
  refine ⟨fun hc => ⟨⟨g0, hc⟩, ?_⟩, fun hc => ?_⟩
  · have e := sumN_step cuN l i.toNat (by omega)
    have hr' := hr i.toNat (by omega)
    refine szCue_ok hr'.1 hr'.2 (by omega) (fun hk => ⟨fun _ => h2, fun _ => ⟨by omega, ⟨by omega, by omega, by omega, ?_⟩, (by dsimp only; omega)⟩⟩) ⟨fun _ => h2, fun h => absurd (by omega) h⟩
    rw [tn1 g0, e]; omega
  · have e : l.take i.toNat = l := List.take_of_length_le (by omega)
    rw [e] at g3
    have := h1 (by show l.length + sumN cuN l ≤ _; omega)
    show Q v
    rw [g3]; exact this
theorem toCue_ok {c : CueC} {Q : CueC → Prop} (hc : cuN c ≤ 1048576) (h : Q c) : m_laws_toCue c Q := by
  unfold cuN at hc
  exact toIntS_ok (by omega) (toIntS_ok (by omega) h)
theorem toCueS_ok {l : List CueC} {Q : List CueC → Prop} (hl : l.length + szCu l ≤ 1048576) (h : Q l) : m_laws_toCueS l Q := by
  refine ⟨⟨by omega, by omega⟩, fun x i => 0 ≤ i ∧ i ≤ l.length ∧ x.length = l.length ∧ x.take i.toNat = l.take i.toNat, fun x i => (l.length - i).toNat, ⟨by omega, by omega, by simp, by simp⟩, ?_⟩
  rintro x i ⟨h0, h1, h2, h3⟩
  refine ⟨fun hc => ⟨⟨h0, hc⟩, toCue_ok (by have := sumN_get cuN l i.toNat (by omega); unfold szCu at hl; omega) ⟨⟨h0, by omega⟩, by omega, ⟨by omega, by omega, by simp [h2], ?_⟩, (by dsimp only; omega)⟩⟩, fun hc => ?_⟩
  · rw [tn1 h0]; exact take_set1 h2 (by omega) h3
  · have : x = l := take_all h2 (by omega) h3
    subst this; exact h
theorem eqCue_refl {c : CueC} {Q : Bool → Prop} (hc : cuN c ≤ 1048576) (h : Q true) : m_laws_eqCue c c Q := by
  unfold cuN at hc
  exact ⟨fun h => absurd rfl h, fun _ => eqIntS_refl (by omega) ⟨fun h => absurd rfl h, fun _ => eqIntS_refl (by omega) ⟨fun h => absurd rfl h, fun _ => h⟩⟩⟩
theorem eqCueS_refl {l : List CueC} {Q : Bool → Prop} (hl : l.length + szCu l ≤ 1048576) (h : Q true) : m_laws_eqCueS l l Q :=
  ⟨fun h => absurd rfl h, fun _ => ⟨fun i => 0 ≤ i ∧ i ≤ l.length, fun i => (l.length - i).toNat, ⟨by omega, by omega⟩, fun i ⟨h0, h1⟩ =>
    ⟨fun hc => ⟨⟨h0, hc⟩, ⟨h0, hc⟩, true, eqCue_refl (by have := sumN_get cuN l i.toNat (by omega); unfold szCu at hl; omega) rfl, fun h => absurd rfl h, fun _ => ⟨by omega, ⟨by omega, by omega⟩, (by dsimp only; omega)⟩⟩, fun _ => h⟩⟩⟩
theorem markCueS_ok {l : List CueC} {k : Int} {Q : Int → List CueC → Prop} (hl : l.length + szCu l ≤ 1048576) (h0 : 0 ≤ k) (h1 : k ≤ 549755813888) (h : ∀ x, Q (k + (l.length : Int) + (szCu l : Int)) x) : m_laws_markCueS l k Q := by
  refine ⟨fun x v i => 0 ≤ i ∧ i ≤ l.length ∧ x.length = l.length ∧ v = k + i + (sumN cuN (l.take i.toNat) : Int) ∧ x.drop i.toNat = l.drop i.toNat, fun x v i => (l.length - i).toNat, ⟨by omega, by omega, rfl, by simp [sumN], rfl⟩, ?_⟩
  rintro x v i ⟨g0, g1, g2, g3, g5⟩
  refine ⟨fun hc => ?_, fun hc => ?_⟩
  · have hi : i.toNat < l.length := by omega
    have hx : i.toNat < x.length := by omega
    have e1 : x[i.toNat]! = l[i.toNat]! := drop_get g2 g5 hi
    have e2 := sumN_step cuN l i.toNat hi
    have e3 := sumN_take cuN l (i.toNat + 1)
    have e4 : cuN l[i.toNat]! = (l[i.toNat]!).2.1.length + (l[i.toNat]!).2.2.length := rfl
    unfold szCu at hl
    have hix : ∀ y : List CueC, y.length = x.length → ix i y.length := fun y hy => ⟨g0, by omega⟩
    refine ⟨hix _ rfl, by omega, hix _ (by simp), ?_⟩
    rw [set_get hx, e1]
    refine markIntS_ok (by dsimp only; omega) (by omega) (by omega) ⟨hix _ (by simp), ?_⟩
    rw [set_get (by simpa using hx)]
    refine markIntS_ok (by dsimp only; omega) (by dsimp only; omega) (by dsimp only; omega) ⟨by omega, ⟨by omega, by omega, by simp [g2], ?_, ?_⟩, (by dsimp only; omega)⟩
    · rw [tn1 g0, e2]; dsimp only; omega
    · rw [tn1 g0]; simp only [drop_set']; exact drop_next g5
  · have e : l.take i.toNat = l := List.take_of_length_le (by omega)
    rw [e] at g3
    have e2 : v = k + (l.length : Int) + (szCu l : Int) := by unfold szCu; omega
    show Q v x
    rw [e2]; exact h x
end Go.Proofs.Ythmemoealgieaaa
