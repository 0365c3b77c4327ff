/- The plain laws: each law's model answers true. No program. -/
import Derived.Test.YtddjkiefadiijaaPG2
namespace Go.Proofs.Ytddjkiefadiijaa

abbrev tt : Bool → Prop := fun r => r = true
abbrev RowsP (l : List PlayerC) : Prop := ∀ i, i < l.length → (l[i]!).1.length ≤ 9223372036854775807
/-- the answer is one value, the arguments players and numbers -/
theorem lawVal2 {T : Type} {S I : List PlayerC → List Int → (T → Prop) → Prop} {l : List PlayerC} {p : List Int} {v : T} (hl : l.length ≤ 9223372036854775807) (hr : RowsP l) (hp : p.length ≤ 9223372036854775807)
    (hS : l.length ≤ 1048576 → szPl l ≤ 1048576 → p.length ≤ 1048576 → ∀ Q : T → Prop, Q v → S l p Q) (hI : l.length ≤ 1048576 → szPl l ≤ 1048576 → p.length ≤ 1048576 → ∀ Q : T → Prop, Q v → I l p Q) :
    (((p.length : Int) > 1048576) → tt true) ∧ (¬ ((p.length : Int) > 1048576) → m_laws_szPlayerS l 1048576 (fun r11 => ((r11 < 0) → tt true) ∧ (¬ (r11 < 0) → m_laws_toPlayerS l (fun r22 => m_laws_toIntS p (fun r36 => S r22 r36 (fun r46 => m_laws_toPlayerS l (fun r53 => m_laws_toIntS p (fun r68 => I r53 r68 (fun r79 => (((r79) ≠ (r46)) → tt false) ∧ (¬ ((r79) ≠ (r46)) → m_laws_toPlayerS l (fun r91 => m_laws_eqPlayerS r53 r91 (fun r105 => ((¬ (r105 = true)) → tt false) ∧ (¬ (¬ (r105 = true)) → m_laws_toIntS p (fun r115 => m_laws_eqIntS r68 r115 (fun r125 => ((¬ (r125 = true)) → tt false) ∧ (¬ (¬ (r125 = true)) → tt true)))))))))))))))) := by
  have hp' := hp
  exact ⟨fun _ => rfl, fun hc => szPlayerS_ok (by omega) hl hr (fun hs => ⟨fun h => absurd h (by omega), fun _ => toPlayerS_ok (by omega) (toIntS_ok (by omega) (hS (by omega) (by omega) (by omega) _ (toPlayerS_ok (by omega) (toIntS_ok (by omega) (hI (by omega) (by omega) (by omega) _ ⟨fun h => absurd rfl h, fun _ => toPlayerS_ok (by omega) (eqPlayerS_refl (by omega) ⟨fun h => absurd rfl h, fun _ => toIntS_ok (by omega) (eqIntS_refl (by omega) ⟨fun h => absurd rfl h, fun _ => rfl⟩)⟩)⟩)))))⟩) ⟨fun _ => rfl, fun h => absurd (by omega) h⟩⟩
theorem law_MostCast {l : List PlayerC} {p : List Int} (hl : l.length ≤ 9223372036854775807) (hr : RowsP l) (hp : p.length ≤ 9223372036854775807) : m_laws_FnExactMostCast l p (fun r => r = true) :=
  lawVal2 (S := m_spec_MostCast) (I := m_impl_MostCast) hl hr hp (fun h1 h2 h3 _ h => specMC_ok h1 h2 h3 h) (fun h1 h2 h3 _ h => implMC_ok h1 h2 h3 h)
theorem law_IsSafe {l : List PlayerC} {p : List Int} (hl : l.length ≤ 9223372036854775807) (hr : RowsP l) (hp : p.length ≤ 9223372036854775807) : m_laws_FnExactIsSafe l p (fun r => r = true) :=
  lawVal2 (S := m_spec_IsSafe) (I := m_impl_IsSafe) hl hr hp (fun h1 h2 h3 _ h => specSF_ok h1 h2 h3 h) (fun h1 h2 h3 _ h => implSF_ok h1 h2 h3 h)
theorem law_FirstCasting {l : List PlayerC} {p : List Int} (hl : l.length ≤ 9223372036854775807) (hr : RowsP l) (hp : p.length ≤ 9223372036854775807) : m_laws_FnExactFirstCasting l p (fun r => r = true) := by
  have hv := fcL_len l p
  have hp' := hp
  refine ⟨fun _ => rfl, fun hc => szPlayerS_ok (by omega) hl hr (fun hs => ⟨fun h => absurd h (by omega), fun _ => toPlayerS_ok (by omega) (toIntS_ok (by omega) (specFC_ok (by omega) (by omega) (by omega) (toPlayerS_ok (by omega) (toIntS_ok (by omega) (implFC_ok (by omega) (by omega) (by omega) ?_)))))⟩) ⟨fun _ => rfl, fun h => absurd (by omega) h⟩⟩
  have hsum := plM_sum l
  refine eqIntS_refl (by omega) ⟨fun h => (by rcases h with h | h; exact absurd rfl h; exact absurd rfl h), fun _ => toPlayerS_ok (by omega) (eqPlayerS_refl (by omega) ⟨fun h => absurd rfl h, fun _ => toIntS_ok (by omega) (eqIntS_refl (by omega) ⟨fun h => absurd rfl h, fun _ => markPlayerS_ok (by omega) (by omega) (by omega) (markIntS_ok (by omega) (by omega) (by omega) ⟨true, fun _ => eqIntS_refl (by omega) rfl, fun hc => ?_, fun _ => ?_⟩)⟩)⟩)⟩
  · rcases hc with (hc | hc) | hc
    · omega
    · exact absurd rfl hc
    · exact absurd rfl hc
  · exact markIntS_ok (by omega) (by omega) (by omega) (heldIntS_ok (by omega) (by omega) (by omega) ⟨fun h => absurd h (by omega), fun _ => ⟨fun h => absurd rfl h, fun _ => toPlayerS_ok (by omega) (toIntS_ok (by omega) (implFC_ok (by omega) (by omega) (by omega) (eqIntS_refl (by omega) ⟨fun h => (by rcases h with h | h; exact absurd rfl h; exact absurd rfl h), fun _ => heldIntS_ok (by omega) (by omega) (by omega) ⟨fun h => absurd h (by omega), fun _ => ⟨fun h => absurd rfl h, fun _ => rfl⟩⟩⟩)))⟩⟩)
end Go.Proofs.Ytddjkiefadiijaa
