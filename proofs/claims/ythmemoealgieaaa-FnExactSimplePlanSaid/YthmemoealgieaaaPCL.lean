/- The plain laws: each law's model answers true. No program. -/
import Derived.Test.YthmemoealgieaaaPC8
namespace Go.Proofs.Ythmemoealgieaaa

abbrev RowsB (l : List CueC) : Prop := ∀ i, i < l.length → (l[i]!).2.1.length ≤ 9223372036854775807 ∧ (l[i]!).2.2.length ≤ 9223372036854775807
abbrev tt : Bool → Prop := fun r => r = true
/-- the shape of a law whose answer is one value -/
theorem lawVal {T : Type} {S I : List CueC → (T → Prop) → Prop} {l : List CueC} {v : T} (hl : l.length ≤ 9223372036854775807) (hr : RowsB l)
    (hS : l.length ≤ 1048576 → szCu l ≤ 1048576 → ∀ Q : T → Prop, Q v → S l Q) (hI : l.length ≤ 1048576 → szCu l ≤ 1048576 → ∀ Q : T → Prop, Q v → I l Q) :
    m_laws_szCueS l 1048576 (fun r7 => ((r7 < 0) → tt true) ∧ (¬ (r7 < 0) → m_laws_toCueS l (fun r18 => S r18 (fun r32 => m_laws_toCueS l (fun r39 => I r39 (fun r54 => (((r54) ≠ (r32)) → tt false) ∧ (¬ ((r54) ≠ (r32)) → m_laws_toCueS l (fun r66 => m_laws_eqCueS r39 r66 (fun r80 => ((¬ (r80 = true)) → tt false) ∧ (¬ (¬ (r80 = true)) → tt true)))))))))) :=
  szCueS_ok hl hr (fun hs => ⟨fun h => absurd h (by omega), fun _ => toCueS_ok hs (hS (by omega) (by omega) _ (toCueS_ok hs (hI (by omega) (by omega) _ ⟨fun h => absurd rfl h, fun _ => toCueS_ok hs (eqCueS_refl hs ⟨fun h => absurd rfl h, fun _ => rfl⟩)⟩)))⟩) ⟨fun _ => rfl, fun h => absurd (by omega) h⟩
/-- the shape of a law whose answer is a list of numbers -/
theorem lawInts {S I : List CueC → (List Int → Prop) → Prop} {l : List CueC} {v : List Int} (hl : l.length ≤ 9223372036854775807) (hr : RowsB l) (hv : v.length ≤ 1000)
    (hS : l.length ≤ 1048576 → szCu l ≤ 1048576 → ∀ Q : List Int → Prop, Q v → S l Q) (hI : l.length ≤ 1048576 → szCu l ≤ 1048576 → ∀ Q : List Int → Prop, Q v → I l Q) :
    m_laws_szCueS l 1048576 (fun r7 => ((r7 < 0) → tt true) ∧ (¬ (r7 < 0) → m_laws_toCueS l (fun r18 => S r18 (fun r32 => m_laws_toCueS l (fun r43 => I r43 (fun r58 => m_laws_eqIntS r58 r32 (fun r70 => ((¬ (r70 = true)) → tt false) ∧ (¬ (¬ (r70 = true)) → m_laws_toCueS l (fun r80 => m_laws_eqCueS r43 r80 (fun r94 => ((¬ (r94 = true)) → tt false) ∧ (¬ (¬ (r94 = true)) → m_laws_markCueS r43 1 (fun r106 x107 => ∃ r116 : Bool, (¬ (r106 < 0) → m_laws_eqIntS r58 r32 (fun z => z = r116)) ∧ ((((r106 < 0) ∨ (¬ (r116 = true)))) → tt false) ∧ (¬ (((r106 < 0) ∨ (¬ (r116 = true)))) → m_laws_markIntS r58 1 (fun r131 x132 => m_laws_heldIntS x132 1 (fun r139 => ((r139 < 0) → tt false) ∧ (¬ (r139 < 0) → ((r139 ≠ r131) → tt false) ∧ (¬ (r139 ≠ r131) → m_laws_toCueS l (fun r154 => I r154 (fun r168 => m_laws_eqIntS r168 r32 (fun r180 => ((¬ (r180 = true)) → tt false) ∧ (¬ (¬ (r180 = true)) → m_laws_heldIntS x132 1 (fun r190 => ((r190 < 0) → tt false) ∧ (¬ (r190 < 0) → ((r190 ≠ r131) → tt false) ∧ (¬ (r190 ≠ r131) → tt true)))))))))))))))))))))))) := by
  refine szCueS_ok hl hr (fun hs => ⟨fun h => absurd h (by omega), fun _ => toCueS_ok hs (hS (by omega) (by omega) _ (toCueS_ok hs (hI (by omega) (by omega) _ ?_)))⟩) ⟨fun _ => rfl, fun h => absurd (by omega) h⟩
  refine eqIntS_refl (by omega) ⟨fun h => absurd rfl h, fun _ => toCueS_ok hs (eqCueS_refl hs ⟨fun h => absurd rfl h, fun _ => markCueS_ok hs (by omega) (by omega) fun x => ⟨true, fun _ => eqIntS_refl (by omega) rfl, fun hc => ?_, fun _ => ?_⟩⟩)⟩
  · rcases hc with hc | hc
    · omega
    · exact absurd rfl hc
  · exact markIntS_ok (by omega) (by omega) (by omega) (heldIntS_ok (by omega) (by omega) (by omega) ⟨fun h => absurd h (by omega), fun _ => ⟨fun h => absurd rfl h, fun _ => toCueS_ok hs (hI (by omega) (by omega) _ (eqIntS_refl (by omega) ⟨fun h => absurd rfl h, fun _ => heldIntS_ok (by omega) (by omega) (by omega) ⟨fun h => absurd h (by omega), fun _ => ⟨fun h => absurd rfl h, fun _ => rfl⟩⟩⟩))⟩⟩)
theorem law_CircleIn {l : List CueC} (hl : l.length ≤ 9223372036854775807) (hr : RowsB l) : m_laws_FnExactCircleIn l (fun r => r = true) :=
  lawInts (S := m_spec_CircleIn) (I := m_impl_CircleIn) hl hr (by have := circ_len l; omega) (fun _ h2 _ h => specCI_ok h2 h) (fun _ h2 _ h => implCI_ok h2 h)
theorem law_FreeCues {l : List CueC} (hl : l.length ≤ 9223372036854775807) (hr : RowsB l) : m_laws_FnExactFreeCues l (fun r => r = true) :=
  lawInts (S := m_spec_FreeCues) (I := m_impl_FreeCues) hl hr (by have := freeL_len l; omega) (fun h1 h2 _ h => specFC_ok h1 h2 h) (fun h1 h2 _ h => implFC_ok h1 h2 h)
theorem law_CuesOk {l : List CueC} (hl : l.length ≤ 9223372036854775807) (hr : RowsB l) : m_laws_FnExactCuesOk l (fun r => r = true) :=
  lawVal (S := m_spec_CuesOk) (I := m_impl_CuesOk) hl hr (fun h1 h2 _ h => specCuesOk_ok h1 h2 h) (fun h1 h2 _ h => implCuesOk_ok h1 h2 h)
theorem law_WaitsFor {l : List CueC} {i k : Int} (hl : l.length ≤ 9223372036854775807) (hr : RowsB l) : m_laws_FnExactWaitsFor l i k (fun r => r = true) :=
  lawVal (S := fun l => m_spec_WaitsFor l i k) (I := fun l => m_impl_WaitsFor l i k) hl hr (fun h1 h2 _ h => specWF_ok h1 h2 h) (fun h1 h2 _ h => implWF_ok h1 h2 h)
theorem law_CueOrder {l : List CueC} (hl : l.length ≤ 9223372036854775807) (hr : RowsB l) : m_laws_FnExactCueOrder l (fun r => r = true) :=
  lawInts (S := m_spec_CueOrder) (I := m_impl_CueOrder) hl hr (by have := ordL_le l; omega) (fun h1 h2 _ h => specOL_ok h1 h2 h) (fun h1 h2 _ h => implOL_ok h1 h2 h)
theorem law_StartsOf {l : List CueC} (hl : l.length ≤ 9223372036854775807) (hr : RowsB l) : m_laws_FnExactStartsOf l (fun r => r = true) :=
  lawInts (S := m_spec_StartsOf) (I := m_impl_StartsOf) hl hr (by have := startsL_len (l := l); omega) (fun h1 h2 _ h => specST_ok h1 h2 h) (fun h1 h2 _ h => implST_ok h1 h2 h)
theorem law_LatestStarts {l : List CueC} (hl : l.length ≤ 9223372036854775807) (hr : RowsB l) : m_laws_FnExactLatestStarts l (fun r => r = true) :=
  lawInts (S := m_spec_LatestStarts) (I := m_impl_LatestStarts) hl hr (by have := latestL_len (l := l); omega) (fun h1 h2 _ h => specLS_ok h1 h2 h) (fun h1 h2 _ h => implLS_ok h1 h2 h)
theorem law_SimplePlan {l : List CueC} (hl : l.length ≤ 9223372036854775807) (hr : RowsB l) : m_laws_FnExactSimplePlan l (fun r => r = true) :=
  lawInts (S := m_spec_SimplePlan) (I := m_impl_SimplePlan) hl hr (by have := planL_len (l := l); omega) (fun h1 h2 _ h => specSP_ok h1 h2 h) (fun h1 h2 _ h => implSP_ok h1 h2 h)
theorem law_PlayTime {l : List CueC} (hl : l.length ≤ 9223372036854775807) (hr : RowsB l) : m_laws_FnExactPlayTime l (fun r => r = true) :=
  lawVal (S := m_spec_PlayTime) (I := m_impl_PlayTime) hl hr (fun h1 h2 _ h => specPT_ok h1 h2 h) (fun h1 h2 _ h => implPT_ok h1 h2 h)
theorem law_CountOrders {l : List CueC} (hl : l.length ≤ 9223372036854775807) (hr : RowsB l) : m_laws_FnExactCountOrders l (fun r => r = true) :=
  lawVal (S := m_spec_CountOrders) (I := m_impl_CountOrders) hl hr (fun h1 h2 _ h => specOr_ok h1 h2 h) (fun h1 h2 _ h => implOr_ok h1 h2 h)
theorem law_IsPlan {l : List CueC} {s : List Int} (hl : l.length ≤ 9223372036854775807) (hr : RowsB l) (hm : s.length ≤ 9223372036854775807) : m_laws_FnExactIsPlan l s (fun r => r = true) := by
  have hm' := hm
  obtain ⟨b, hb⟩ : ∃ b : Bool, b = true ↔ planP l s := by
    by_cases h : planP l s
    · exact ⟨true, fun _ => h, fun _ => rfl⟩
    · exact ⟨false, fun h => (by cases h), fun hx => absurd hx h⟩
  refine ⟨fun _ => rfl, fun hc => szCueS_ok hl hr (fun hs => ⟨fun h => absurd h (by omega), fun _ => toCueS_ok hs (toIntS_ok (by omega) (specPL_ok (by omega) (by omega) (by omega) b hb (toCueS_ok hs (toIntS_ok (by omega) (implPL_ok (by omega) (by omega) (by omega) b hb ⟨fun h => absurd rfl h, fun _ => toCueS_ok hs (eqCueS_refl hs ⟨fun h => absurd rfl h, fun _ => toIntS_ok (by omega) (eqIntS_refl (by omega) ⟨fun h => absurd rfl h, fun _ => rfl⟩)⟩)⟩)))))⟩) ⟨fun _ => rfl, fun h => absurd (by omega) h⟩⟩
theorem szII_le {c : Nat} : ∀ {t : List (List Int)}, (∀ i, i < t.length → (t[i]!).length ≤ c) → szII t ≤ c * t.length
  | [], _ => by simp [szII]
  | r :: t, h => by
    have h1 := szII_le (t := t) (fun i hi => by have := h (i + 1) (by simpa using hi); simpa using this)
    have h2 := h 0 (by simp)
    simp only [List.getElem!_cons_zero] at h2
    simp only [szII, List.length_cons, Nat.mul_succ]; omega
theorem law_ClashesIn {l : List CueC} {s : List Int} (hl : l.length ≤ 9223372036854775807) (hr : RowsB l) (hm : s.length ≤ 9223372036854775807) : m_laws_FnExactClashesIn l s (fun r => r = true) := by
  have h7 := clashL_len l s
  have hro := clashL_row (l := l) (s := s)
  have hz := szII_le hro
  have hm' := hm
  refine ⟨fun _ => rfl, fun hc => szCueS_ok hl hr (fun hs => ⟨fun h => absurd h (by omega), fun _ => toCueS_ok hs (toIntS_ok (by omega) (specCL_ok (by omega) (by omega) (by omega) (toCueS_ok hs (toIntS_ok (by omega) (implCL_ok (by omega) (by omega) (by omega) ?_)))))⟩) ⟨fun _ => rfl, fun h => absurd (by omega) h⟩⟩
  refine eqIntSS_refl (by omega) (fun i hi => by have := hro i hi; omega) ⟨fun h => absurd rfl h, fun _ => toCueS_ok hs (eqCueS_refl hs ⟨fun h => absurd rfl h, fun _ => toIntS_ok (by omega) (eqIntS_refl (by omega) ⟨fun h => absurd rfl h, fun _ => markCueS_ok hs (by omega) (by omega) fun x => markIntS_ok (by omega) (by omega) (by omega) ⟨true, fun _ => eqIntSS_refl (by omega) (fun i hi => by have := hro i hi; omega) rfl, fun hc => ?_, fun _ => ?_⟩⟩)⟩)⟩
  · rcases hc with hc | hc
    · omega
    · exact absurd rfl hc
  · exact markIntSS_ok (by omega) (by omega) (by omega) (by omega) (heldIntSS_ok (by omega) (by omega) (by omega) (by omega) ⟨fun h => absurd h (by omega), fun _ => ⟨fun h => absurd rfl h, fun _ => toCueS_ok hs (toIntS_ok (by omega) (implCL_ok (by omega) (by omega) (by omega) (eqIntSS_refl (by omega) (fun i hi => by have := hro i hi; omega) ⟨fun h => absurd rfl h, fun _ => heldIntSS_ok (by omega) (by omega) (by omega) (by omega) ⟨fun h => absurd h (by omega), fun _ => ⟨fun h => absurd rfl h, fun _ => rfl⟩⟩⟩)))⟩⟩)
end Go.Proofs.Ythmemoealgieaaa
