/- Plain laws over the models: marks of tables of numbers. No program, no statement of the claim. -/
import Derived.Test.YtddjkiefadiijaaPI
namespace Go.Proofs.Ytddjkiefadiijaa
theorem markIntSS_ok {t : List (List Int)} {k : Int} {Q : Int → List (List Int) → Prop} (hl : t.length ≤ 1099511627776) (hz : szII t ≤ 549755813888) (h0 : 0 ≤ k) (h1 : k ≤ 549755813888) (h : Q (k + (szII t : Int)) (mkII k t)) : m_laws_markIntSS t k Q := by
  refine ⟨fun x v i => 0 ≤ i ∧ i ≤ t.length ∧ x.length = t.length ∧ v = k + (szII (t.take i.toNat) : Int) ∧ x.take i.toNat = (mkII k t).take i.toNat ∧ x.drop i.toNat = t.drop i.toNat, fun x v i => (t.length - i).toNat, ⟨by omega, by omega, rfl, by simp [szII], by simp, rfl⟩, ?_⟩
  rintro x v i ⟨g0, g1, g2, g3, g4, g5⟩
  refine ⟨fun hc => ⟨⟨g0, hc⟩, ?_⟩, fun hc => ?_⟩
  · have hi : i.toNat < t.length := by omega
    have e1 : x[i.toNat]! = t[i.toNat]! := drop_get g2 g5 hi
    have e2 := szII_step t i.toNat hi
    have e3 := szII_take t (i.toNat + 1)
    rw [e1]
    refine markIntS_ok (by omega) (by omega) (by omega) ⟨by omega, ⟨by omega, by omega, by simp [g2], ?_, ?_, ?_⟩, (by dsimp only; omega)⟩
    · rw [tn1 g0, e2]; omega
    · rw [tn1 g0, g3, ← mkII_get k t i.toNat hi]
      exact take_set1 (by rw [mkII_len]; exact g2) (by rw [mkII_len]; exact hi) g4
    · rw [tn1 g0]; exact drop_set1 g5
  · have hx : x = mkII k t := take_all (by rw [mkII_len]; exact g2) (by rw [mkII_len]; omega) g4
    subst hx
    have : v = k + (szII t : Int) := by rw [g3, List.take_of_length_le (by omega)]
    rw [this]; exact h
theorem heldIntSS_ok {t : List (List Int)} {k : Int} {Q : Int → Prop} (hl : t.length ≤ 1099511627776) (hz : szII t ≤ 549755813888) (h0 : 0 ≤ k) (h1 : k ≤ 549755813888) (h : Q (k + (szII t : Int))) : m_laws_heldIntSS (mkII k t) k Q := by
  have hn := mkII_len k t
  refine ⟨fun v i => 0 ≤ i ∧ i ≤ t.length ∧ v = k + (szII (t.take i.toNat) : Int), fun v i => (t.length - i).toNat, ⟨by omega, by omega, by simp [szII]⟩, ?_⟩
  rintro v i ⟨g0, g1, g3⟩
  refine ⟨fun hc => ⟨⟨g0, hc⟩, ?_⟩, fun hc => ?_⟩
  · rw [hn] at hc
    have hi : i.toNat < t.length := by omega
    have e2 := szII_step t i.toNat hi
    have e3 := szII_take t (i.toNat + 1)
    rw [mkII_get k t i.toNat hi, ← g3]
    refine heldIntS_ok (by omega) (by omega) (by omega) ⟨fun h => absurd h (by omega), fun _ => ⟨by omega, ⟨by omega, by omega, ?_⟩, (by dsimp only; omega)⟩⟩
    rw [tn1 g0, e2]; omega
  · rw [hn] at hc
    have : v = k + (szII t : Int) := by rw [g3, List.take_of_length_le (by omega)]
    show Q v
    rw [this]; exact h

end Go.Proofs.Ytddjkiefadiijaa
