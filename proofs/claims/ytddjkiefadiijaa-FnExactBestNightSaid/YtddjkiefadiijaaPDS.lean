/- Plain laws over the models: sizes and copies of tables. No program, no statement of the claim. -/
import Derived.Test.YtddjkiefadiijaaPD1
namespace Go.Proofs.Ytddjkiefadiijaa
theorem szIntSS_ok {l : List (List Int)} {k : Int} {Q : Int → Prop} (hk : 0 ≤ k ∧ k ≤ 1048576) (hl : l.length ≤ 9223372036854775807) (hr : ∀ i, i < l.length → (l[i]!).length ≤ 9223372036854775807) (h1 : ((l.length + szII l : Nat) : Int) ≤ k → Q (k - (l.length : Int) - (szII l : Int))) (h2 : Q (-1)) : m_laws_szIntSS l k Q := by
  refine ⟨by omega, fun _ => h2, fun hn => ⟨fun v i => 0 ≤ i ∧ i ≤ l.length ∧ 0 ≤ v ∧ v = k - (l.length : Int) - (szII (l.take i.toNat) : Int), fun v i => (l.length - i).toNat, ⟨by omega, by omega, by omega, by simp [szII]⟩, ?_⟩⟩
  rintro v i ⟨g0, g1, g2, g3⟩
  refine ⟨fun hc => ⟨⟨g0, hc⟩, ?_⟩, fun hc => ?_⟩
  · have e := szII_step l i.toNat (by omega)
    have hr' := hr i.toNat (by omega)
    refine szIntS_ok hr' (by omega) (fun hk => ⟨fun _ => h2, fun _ => ⟨by omega, ⟨by omega, by omega, by omega, ?_⟩, (by dsimp only; omega)⟩⟩) ⟨fun _ => h2, fun h => absurd (by omega) h⟩
    rw [tn1 g0, e]; omega
  · have e : l.take i.toNat = l := List.take_of_length_le (by omega)
    rw [e] at g3
    have := h1 (by omega)
    show Q v
    rw [g3]; exact this
theorem toIntSS_ok {l : List (List Int)} {Q : List (List Int) → Prop} (hl : l.length + szII l ≤ 1048576) (h : Q l) : m_laws_toIntSS l Q := by
  refine ⟨⟨by omega, by omega⟩, fun x i => 0 ≤ i ∧ i ≤ l.length ∧ x.length = l.length ∧ x.take i.toNat = l.take i.toNat, fun x i => (l.length - i).toNat, ⟨by omega, by omega, by simp, by simp⟩, ?_⟩
  rintro x i ⟨h0, h1, h2, h3⟩
  refine ⟨fun hc => ⟨⟨h0, hc⟩, toIntS_ok (by have := szII_get l i.toNat (by omega); omega) ⟨⟨h0, by omega⟩, by omega, ⟨by omega, by omega, by simp [h2], ?_⟩, (by dsimp only; omega)⟩⟩, fun hc => ?_⟩
  · rw [tn1 h0]; exact take_set1 h2 (by omega) h3
  · have : x = l := take_all h2 (by omega) h3
    subst this; exact h
end Go.Proofs.Ytddjkiefadiijaa
