/- The plain law of rails: its model answers true. No program. -/
import Derived.Test.YtebfcpninegcgaaPH2
namespace Go.Proofs.Ytebfcpninegcgaa

theorem law_RailsFor {l : List Stay} (hl : l.length ≤ 9223372036854775807) : m_laws_FnExactRailsFor l (fun r => r = true) := by
  have hv := railsL_len l
  refine szStayS_ok hl (fun hs => ⟨fun h => absurd h (by omega), fun _ => toStayS_ok hs (specRF_ok hs (toStayS_ok hs (implRF_ok hs ?_)))⟩) ⟨fun _ => rfl, fun h => absurd (by omega) h⟩
  refine eqIntS_refl (by omega) ⟨fun h => absurd rfl h, fun _ => toStayS_ok hs (eqStayS_refl (by omega) ⟨fun h => absurd rfl h, fun _ => markStayS_ok (by omega) (by omega) (by omega) fun x => ⟨true, fun _ => eqIntS_refl (by omega) rfl, fun hc => ?_, fun _ => ?_⟩⟩)⟩
  · rcases hc with hc | hc
    · omega
    · exact absurd rfl hc
  · exact markIntS_ok (by omega) (by omega) (by omega) (heldIntS_ok (by omega) (by omega) (by omega) ⟨fun h => absurd h (by omega), fun _ => ⟨fun h => absurd rfl h, fun _ => toStayS_ok hs (implRF_ok hs (eqIntS_refl (by omega) ⟨fun h => absurd rfl h, fun _ => heldIntS_ok (by omega) (by omega) (by omega) ⟨fun h => absurd h (by omega), fun _ => ⟨fun h => absurd rfl h, fun _ => rfl⟩⟩⟩))⟩⟩)
end Go.Proofs.Ytebfcpninegcgaa
