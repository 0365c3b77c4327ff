/- The plain laws: each law's model answers true. No program. -/
import Derived.Test.YtcgkcoogaieolaaMB
import Derived.Test.YtcgkcoogaieolaaPB7
namespace Go.Proofs.Ytcgkcoogaieolaa

abbrev big63 (n : Nat) : Prop := n ≤ 9223372036854775807
theorem law_TwistOf {n : Int} {l : List Cross} {i k : Int} (hl : big63 l.length) : m_laws_FnExactTwistOf n l i k (fun r => r = true) :=
  szCrossS_ok hl (fun hl => ⟨fun h => absurd h (by omega), fun _ => toCrossS_ok hl (specTO_ok (toCrossS_ok hl (implTO_ok ⟨fun h => absurd rfl h, fun _ => toCrossS_ok hl (eqCrossS_refl (by omega) ⟨fun h => absurd rfl h, fun _ => rfl⟩)⟩)))⟩) ⟨fun _ => rfl, fun h => absurd (by omega) h⟩
theorem law_LeastUndoing {n : Int} {l : List Cross} (hl : big63 l.length) : m_laws_FnExactLeastUndoing n l (fun r => r = true) :=
  szCrossS_ok hl (fun hl => ⟨fun h => absurd h (by omega), fun _ => toCrossS_ok hl (specLU_ok (toCrossS_ok hl (implLU_ok ⟨fun h => absurd rfl h, fun _ => toCrossS_ok hl (eqCrossS_refl (by omega) ⟨fun h => absurd rfl h, fun _ => rfl⟩)⟩)))⟩) ⟨fun _ => rfl, fun h => absurd (by omega) h⟩
theorem law_IsUntwisted {n : Int} {l : List Cross} (hl : big63 l.length) : m_laws_FnExactIsUntwisted n l (fun r => r = true) :=
  szCrossS_ok hl (fun hl => ⟨fun h => absurd h (by omega), fun _ => toCrossS_ok hl (specIU_ok (toCrossS_ok hl (implIU_ok ⟨fun h => absurd rfl h, fun _ => toCrossS_ok hl (eqCrossS_refl (by omega) ⟨fun h => absurd rfl h, fun _ => rfl⟩)⟩)))⟩) ⟨fun _ => rfl, fun h => absurd (by omega) h⟩
theorem szII_le {c : Nat} : ∀ {t : List (List Int)}, (∀ i, i < t.length → (t[i]!).length ≤ c) → szII t ≤ c * t.length
  | [], _ => by simp [szII]
  | r :: t, h => by
    have h1 := szII_le (t := t) (fun i hi => by have := h (i + 1) (by simpa using hi); simpa using this)
    have h2 := h 0 (by simp)
    simp only [List.getElem!_cons_zero] at h2
    simp only [szII, List.length_cons, Nat.mul_succ]; omega
theorem law_TwistTable {n : Int} {l : List Cross} (hl : big63 l.length) : m_laws_FnExactTwistTable n l (fun r => r = true) := by
  have h7 := twA_len (n := n) (l := l)
  have hr := twA_row (n := n) (l := l)
  have hz := szII_le hr
  refine szCrossS_ok hl (fun hl => ⟨fun h => absurd h (by omega), fun _ => toCrossS_ok hl (specTT_ok (toCrossS_ok hl (implTT_ok ?_)))⟩) ⟨fun _ => rfl, fun h => absurd (by omega) h⟩
  refine eqIntSS_refl (by omega) (fun i hi => by have := hr i hi; omega) ⟨fun h => absurd rfl h, fun _ => toCrossS_ok hl (eqCrossS_refl (by omega) ⟨fun h => absurd rfl h, fun _ => markCrossS_ok (by omega) (by omega) (by omega) ⟨true, fun _ => eqIntSS_refl (by omega) (fun i hi => by have := hr i hi; omega) rfl, fun hc => ?_, fun _ => ?_⟩⟩)⟩
  · rcases hc with hc | hc
    · omega
    · exact absurd rfl hc
  · exact markIntSS_ok (by omega) (by omega) (by omega) (by omega) (heldIntSS_ok (by omega) (by omega) (by omega) (by omega) ⟨fun h => absurd h (by omega), fun _ => ⟨fun h => absurd rfl h, fun _ => toCrossS_ok hl (implTT_ok (eqIntSS_refl (by omega) (fun i hi => by have := hr i hi; omega) ⟨fun h => absurd rfl h, fun _ => heldIntSS_ok (by omega) (by omega) (by omega) (by omega) ⟨fun h => absurd h (by omega), fun _ => ⟨fun h => absurd rfl h, fun _ => rfl⟩⟩⟩))⟩⟩)
theorem wpA_row {n : Int} {l : List Cross} (i : Nat) (hi : i < (wpA n l).length) : ((wpA n l)[i]!).length ≤ 2 := by
  have hm : (wpA n l)[i]! ∈ wpA n l := by simp [hi]
  obtain ⟨a, b, _, _, h3, _⟩ := W_mem hm
  rw [h3]; simp
theorem law_WoundPairs {n : Int} {l : List Cross} (hl : big63 l.length) : m_laws_FnExactWoundPairs n l (fun r => r = true) := by
  have h7 := wpA_len n l
  have hr := wpA_row (n := n) (l := l)
  have hz := szII_le hr
  refine szCrossS_ok hl (fun hl => ⟨fun h => absurd h (by omega), fun _ => toCrossS_ok hl (specWP_ok (toCrossS_ok hl (implWP_ok ?_)))⟩) ⟨fun _ => rfl, fun h => absurd (by omega) h⟩
  refine eqIntSS_refl (by omega) (fun i hi => by have := hr i hi; omega) ⟨fun h => absurd rfl h, fun _ => toCrossS_ok hl (eqCrossS_refl (by omega) ⟨fun h => absurd rfl h, fun _ => markCrossS_ok (by omega) (by omega) (by omega) ⟨true, fun _ => eqIntSS_refl (by omega) (fun i hi => by have := hr i hi; omega) rfl, fun hc => ?_, fun _ => ?_⟩⟩)⟩
  · rcases hc with hc | hc
    · omega
    · exact absurd rfl hc
  · exact markIntSS_ok (by omega) (by omega) (by omega) (by omega) (heldIntSS_ok (by omega) (by omega) (by omega) (by omega) ⟨fun h => absurd h (by omega), fun _ => ⟨fun h => absurd rfl h, fun _ => toCrossS_ok hl (implWP_ok (eqIntSS_refl (by omega) (fun i hi => by have := hr i hi; omega) ⟨fun h => absurd rfl h, fun _ => heldIntSS_ok (by omega) (by omega) (by omega) (by omega) ⟨fun h => absurd h (by omega), fun _ => ⟨fun h => absurd rfl h, fun _ => rfl⟩⟩⟩))⟩⟩)
theorem law_BringHome {n : Int} {l : List Cross} (hl : big63 l.length) : m_laws_FnExactBringHome n l (fun r => r = true) := by
  have h7 := homeW_len n l
  refine szCrossS_ok hl (fun hl => ⟨fun h => absurd h (by omega), fun _ => toCrossS_ok hl (specBH_ok (toCrossS_ok hl (implBH_ok ?_)))⟩) ⟨fun _ => rfl, fun h => absurd (by omega) h⟩
  refine eqCrossS_refl (by omega) ⟨fun h => (by rcases h with h | h; exact absurd rfl h; exact absurd rfl h), fun _ => toCrossS_ok hl (eqCrossS_refl (by omega) ⟨fun h => absurd rfl h, fun _ => markCrossS_ok (by omega) (by omega) (by omega) ⟨true, fun _ => eqCrossS_refl (by omega) rfl, fun hc => ?_, fun _ => ?_⟩⟩)⟩
  · rcases hc with (hc | hc) | hc
    · omega
    · exact absurd rfl hc
    · exact absurd rfl hc
  · exact markCrossS_ok (by omega) (by omega) (by omega) (heldCrossS_ok (by omega) (by omega) (by omega) ⟨fun h => absurd h (by omega), fun _ => ⟨fun h => absurd rfl h, fun _ => toCrossS_ok hl (implBH_ok (eqCrossS_refl (by omega) ⟨fun h => (by rcases h with h | h; exact absurd rfl h; exact absurd rfl h), fun _ => heldCrossS_ok (by omega) (by omega) (by omega) ⟨fun h => absurd h (by omega), fun _ => ⟨fun h => absurd rfl h, fun _ => rfl⟩⟩⟩))⟩⟩)
theorem unW_len (n : Int) (l : List Cross) : (unW n l).length ≤ 13720 := by
  unfold unW
  by_cases hc : home n l = true
  · rw [if_pos hc]
    have := un_len n l (wpA n l)
    have := wpA_len n l
    omega
  · rw [if_neg hc]; simp
theorem law_UnwindAll {n : Int} {l : List Cross} (hl : big63 l.length) : m_laws_FnExactUnwindAll n l (fun r => r = true) := by
  have h7 := unW_len n l
  refine szCrossS_ok hl (fun hl => ⟨fun h => absurd h (by omega), fun _ => toCrossS_ok hl (specUW_ok (toCrossS_ok hl (implUW_ok ?_)))⟩) ⟨fun _ => rfl, fun h => absurd (by omega) h⟩
  refine eqCrossS_refl (by omega) ⟨fun h => (by rcases h with h | h; exact absurd rfl h; exact absurd rfl h), fun _ => toCrossS_ok hl (eqCrossS_refl (by omega) ⟨fun h => absurd rfl h, fun _ => markCrossS_ok (by omega) (by omega) (by omega) ⟨true, fun _ => eqCrossS_refl (by omega) rfl, fun hc => ?_, fun _ => ?_⟩⟩)⟩
  · rcases hc with (hc | hc) | hc
    · omega
    · exact absurd rfl hc
    · exact absurd rfl hc
  · exact markCrossS_ok (by omega) (by omega) (by omega) (heldCrossS_ok (by omega) (by omega) (by omega) ⟨fun h => absurd h (by omega), fun _ => ⟨fun h => absurd rfl h, fun _ => toCrossS_ok hl (implUW_ok (eqCrossS_refl (by omega) ⟨fun h => (by rcases h with h | h; exact absurd rfl h; exact absurd rfl h), fun _ => heldCrossS_ok (by omega) (by omega) (by omega) ⟨fun h => absurd h (by omega), fun _ => ⟨fun h => absurd rfl h, fun _ => rfl⟩⟩⟩))⟩⟩)
end Go.Proofs.Ytcgkcoogaieolaa
