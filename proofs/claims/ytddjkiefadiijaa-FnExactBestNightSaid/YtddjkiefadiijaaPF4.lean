/- The plain laws: each law's model answers true. No program. -/
import Derived.Test.YtddjkiefadiijaaPF3
import Derived.Test.YtddjkiefadiijaaPDS
import Derived.Test.YtddjkiefadiijaaPIM
namespace Go.Proofs.Ytddjkiefadiijaa

abbrev RowsQ (l : List PlayerC) : Prop := ∀ i, i < l.length → (l[i]!).1.length ≤ 9223372036854775807
abbrev RowsI (t : List (List Int)) : Prop := ∀ i, i < t.length → (t[i]!).length ≤ 9223372036854775807
theorem law_FewestChanges {l : List PlayerC} {t : List (List Int)} (hl : l.length ≤ 9223372036854775807) (hr : RowsQ l) (ht : t.length ≤ 9223372036854775807) (htr : RowsI t) : m_laws_FnExactFewestChanges l t (fun r => r = true) :=
  szPlayerS_ok (by omega) hl hr (fun hs => ⟨fun h => absurd h (by omega), fun _ => szIntSS_ok (by omega) ht htr (fun hs2 => ⟨fun h => absurd h (by omega), fun _ => toPlayerS_ok (by omega) (toIntSS_ok (by omega) (specFW_ok (by omega) (by omega) (by omega) (toPlayerS_ok (by omega) (toIntSS_ok (by omega) (implFW_ok (by omega) (by omega) (by omega) ⟨fun h => absurd rfl h, fun _ => toPlayerS_ok (by omega) (eqPlayerS_refl (by omega) ⟨fun h => absurd rfl h, fun _ => toIntSS_ok (by omega) (eqIntSS_refl (by omega) (fun i hi => by have := szII_get t i hi; omega) ⟨fun h => absurd rfl h, fun _ => rfl⟩)⟩)⟩)))))⟩) ⟨fun _ => rfl, fun h => absurd (by omega) h⟩⟩) ⟨fun _ => rfl, fun h => absurd (by omega) h⟩
theorem szII_le4 {c : Nat} : ∀ {t : List (List Int)}, (∀ i, i < t.length → (t[i]!).length ≤ c) → szII t ≤ c * t.length
  | [], _ => by simp [szII]
  | r :: t, h => by
    have h1 := szII_le4 (t := t) (fun i hi => by have := h (i + 1) (by simpa using hi); simpa using this)
    have h2 := h 0 (by simp)
    simp only [List.getElem!_cons_zero] at h2
    simp only [szII, List.length_cons, Nat.mul_succ]; omega
theorem bestL_len (l : List PlayerC) (t : List (List Int)) : (bestL l t).length ≤ 6 := by
  unfold bestL
  split
  · rename_i hb
    have := (nightB_iff.1 (bestB_iff.1 hb).1).2.2.1
    rw [bsN_len]; exact this
  · simp
theorem bestL_row (l : List PlayerC) (t : List (List Int)) : ∀ i, i < (bestL l t).length → ((bestL l t)[i]!).length ≤ 4 := by
  unfold bestL
  split
  · rename_i hb
    obtain ⟨hn, ha⟩ := bestB_iff.1 hb
    intro i hi
    rw [bsN_len] at hi
    rw [bsN_at_len ha hi (Nat.le_refl _)]
    exact ((nightB_iff.1 hn).2.2.2 i hi).1
  · intro i hi; exact absurd hi (Nat.not_lt_zero _)
theorem law_BestNight {l : List PlayerC} {t : List (List Int)} (hl : l.length ≤ 9223372036854775807) (hr : RowsQ l) (ht : t.length ≤ 9223372036854775807) (htr : RowsI t) : m_laws_FnExactBestNight l t (fun r => r = true) := by
  have h7 := bestL_len l t
  have hro := bestL_row l t
  have hz := szII_le4 hro
  refine szPlayerS_ok (by omega) hl hr (fun hs => ⟨fun h => absurd h (by omega), fun _ => szIntSS_ok (by omega) ht htr (fun hs2 => ⟨fun h => absurd h (by omega), fun _ => toPlayerS_ok (by omega) (toIntSS_ok (by omega) (specBN_ok (by omega) (by omega) (by omega) (toPlayerS_ok (by omega) (toIntSS_ok (by omega) (implBN_ok (by omega) (by omega) (by omega) ?_)))))⟩) ⟨fun _ => rfl, fun h => absurd (by omega) h⟩⟩) ⟨fun _ => rfl, fun h => absurd (by omega) h⟩
  have hsum := plM_sum l
  have htg : ∀ i, i < t.length → (t[i]!).length ≤ 1099511627776 := fun i hi => by have := szII_get t i hi; omega
  refine eqIntSS_refl (by omega) (fun i hi => by have := hro i hi; omega) ⟨fun h => by rcases h with h | h; exact absurd rfl h; exact absurd rfl h, fun _ => toPlayerS_ok (by omega) (eqPlayerS_refl (by omega) ⟨fun h => absurd rfl h, fun _ => toIntSS_ok (by omega) (eqIntSS_refl (by omega) htg ⟨fun h => absurd rfl h, fun _ => markPlayerS_ok (by omega) (by omega) (by omega) (markIntSS_ok (by omega) (by omega) (by omega) (by omega) ⟨true, fun _ => eqIntSS_refl (by omega) (fun i hi => by have := hro i hi; omega) rfl, fun hc => ?_, fun _ => ?_⟩)⟩)⟩)⟩
  · rcases hc with (hc | hc) | hc
    · omega
    · exact absurd rfl hc
    · exact absurd rfl hc
  · exact markIntSS_ok (by omega) (by omega) (by omega) (by omega) (heldIntSS_ok (by omega) (by omega) (by omega) (by omega) ⟨fun h => absurd h (by omega), fun _ => ⟨fun h => absurd rfl h, fun _ => toPlayerS_ok (by omega) (toIntSS_ok (by omega) (implBN_ok (by omega) (by omega) (by omega) (eqIntSS_refl (by omega) (fun i hi => by have := hro i hi; omega) ⟨fun h => by rcases h with h | h; exact absurd rfl h; exact absurd rfl h, fun _ => heldIntSS_ok (by omega) (by omega) (by omega) (by omega) ⟨fun h => absurd h (by omega), fun _ => ⟨fun h => absurd rfl h, fun _ => rfl⟩⟩⟩)))⟩⟩)
end Go.Proofs.Ytddjkiefadiijaa
