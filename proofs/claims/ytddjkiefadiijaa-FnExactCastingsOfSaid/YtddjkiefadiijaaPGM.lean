/- The plain law of all castings. No program. -/
import Derived.Test.YtddjkiefadiijaaPG3
import Derived.Test.YtddjkiefadiijaaPGL
namespace Go.Proofs.Ytddjkiefadiijaa

theorem szII_le {c : Nat} : ∀ {t : List (List Int)}, (∀ i, i < t.length → (t[i]!).length ≤ c) → szII t ≤ c * t.length
  | [], _ => by simp [szII]
  | r :: t, h => by
    have h1 := szII_le (t := t) (fun i hi => by have := h (i + 1) (by simpa using hi); simpa using this)
    have h2 := h 0 (by simp)
    simp only [List.getElem!_cons_zero] at h2
    simp only [szII, List.length_cons, Nat.mul_succ]; omega
theorem law_CastingsOf {l : List PlayerC} {p : List Int} (hl : l.length ≤ 9223372036854775807) (hr : RowsP l) (hp : p.length ≤ 9223372036854775807) : m_laws_FnExactCastingsOf l p (fun r => r = true) := by
  have h7 := castL_len l p
  have hro := castL_row (l := l) (ps := p)
  have hz := szII_le hro
  have hp' := hp
  refine ⟨fun _ => rfl, fun hc => szPlayerS_ok (by omega) hl hr (fun hs => ⟨fun h => absurd h (by omega), fun _ => toPlayerS_ok (by omega) (toIntS_ok (by omega) (specCO_ok (by omega) (by omega) (by omega) (toPlayerS_ok (by omega) (toIntS_ok (by omega) (implCO_ok (by omega) (by omega) (by omega) ?_)))))⟩) ⟨fun _ => rfl, fun h => absurd (by omega) h⟩⟩
  have hsum := plM_sum l
  refine eqIntSS_refl (by omega) (fun i hi => by have := hro i hi; omega) ⟨fun h => absurd rfl h, fun _ => toPlayerS_ok (by omega) (eqPlayerS_refl (by omega) ⟨fun h => absurd rfl h, fun _ => toIntS_ok (by omega) (eqIntS_refl (by omega) ⟨fun h => absurd rfl h, fun _ => markPlayerS_ok (by omega) (by omega) (by omega) (markIntS_ok (by omega) (by omega) (by omega) ⟨true, fun _ => eqIntSS_refl (by omega) (fun i hi => by have := hro i hi; omega) rfl, fun hc => ?_, fun _ => ?_⟩)⟩)⟩)⟩
  · rcases hc with hc | hc
    · omega
    · exact absurd rfl hc
  · exact markIntSS_ok (by omega) (by omega) (by omega) (by omega) (heldIntSS_ok (by omega) (by omega) (by omega) (by omega) ⟨fun h => absurd h (by omega), fun _ => ⟨fun h => absurd rfl h, fun _ => toPlayerS_ok (by omega) (toIntS_ok (by omega) (implCO_ok (by omega) (by omega) (by omega) (eqIntSS_refl (by omega) (fun i hi => by have := hro i hi; omega) ⟨fun h => absurd rfl h, fun _ => heldIntSS_ok (by omega) (by omega) (by omega) (by omega) ⟨fun h => absurd h (by omega), fun _ => ⟨fun h => absurd rfl h, fun _ => rfl⟩⟩⟩)))⟩⟩)
end Go.Proofs.Ytddjkiefadiijaa
