/- The plain laws: each law's model answers true. No program. -/
import Derived.Test.YthmlfpfebdnpcaaPD3
namespace Go.Proofs.Ythmlfpfebdnpcaa

abbrev tt : Bool → Prop := fun r => r = true
abbrev Nn : Nat := 9223372036854775807
abbrev RowsP (l : List PlayerC) : Prop := ∀ i, i < l.length → (l[i]!).1.length ≤ 9223372036854775807
abbrev RowsI (t : List (List Int)) : Prop := ∀ i, i < t.length → (t[i]!).length ≤ 9223372036854775807
/-- the answer is one value, the argument players -/
theorem lawVal {T : Type} {S I : List PlayerC → (T → Prop) → Prop} {l : List PlayerC} {v : T} (hl : l.length ≤ 9223372036854775807) (hr : RowsP l)
    (hS : l.length ≤ 1048576 → szPl l ≤ 1048576 → ∀ Q : T → Prop, Q v → S l Q) (hI : l.length ≤ 1048576 → szPl l ≤ 1048576 → ∀ Q : T → Prop, Q v → I l Q) :
    m_laws_szPlayerS l 1048576 (fun r7 => ((r7 < 0) → tt true) ∧ (¬ (r7 < 0) → m_laws_toPlayerS l (fun r18 => S r18 (fun r32 => m_laws_toPlayerS l (fun r39 => I r39 (fun r54 => (((r54) ≠ (r32)) → tt false) ∧ (¬ ((r54) ≠ (r32)) → m_laws_toPlayerS l (fun r66 => m_laws_eqPlayerS r39 r66 (fun r80 => ((¬ (r80 = true)) → tt false) ∧ (¬ (¬ (r80 = true)) → tt true)))))))))) :=
  szPlayerS_ok (by omega) hl hr (fun hs => ⟨fun h => absurd h (by omega), fun _ => toPlayerS_ok (by omega) (hS (by omega) (by omega) _ (toPlayerS_ok (by omega) (hI (by omega) (by omega) _ ⟨fun h => absurd rfl h, fun _ => toPlayerS_ok (by omega) (eqPlayerS_refl (by omega) ⟨fun h => absurd rfl h, fun _ => rfl⟩)⟩)))⟩) ⟨fun _ => rfl, fun h => absurd (by omega) h⟩
theorem law_PlayersOk {l : List PlayerC} (hl : l.length ≤ 9223372036854775807) (hr : RowsP l) : m_laws_FnExactPlayersOk l (fun r => r = true) :=
  lawVal (S := m_spec_PlayersOk) (I := m_impl_PlayersOk) hl hr (fun h1 h2 _ h => specPO_ok h1 h2 h) (fun h1 h2 _ h => implPO_ok h1 h2 h)
theorem law_HandsFree {l : List PlayerC} (hl : l.length ≤ 9223372036854775807) (hr : RowsP l) : m_laws_FnExactHandsFree l (fun r => r = true) :=
  lawVal (S := m_spec_HandsFree) (I := m_impl_HandsFree) hl hr (fun h1 h2 _ h => specHF_ok h1 h2 h) (fun h1 h2 _ h => implHF_ok h1 h2 h)
/-- the answer is one value, the arguments players and numbers -/
theorem lawVal2 {T : Type} {S I : List PlayerC → List Int → (T → Prop) → Prop} {l : List PlayerC} {p : List Int} {v : T} (hl : l.length ≤ 9223372036854775807) (hr : RowsP l) (hp : p.length ≤ 9223372036854775807)
    (hS : l.length ≤ 1048576 → szPl l ≤ 1048576 → p.length ≤ 1048576 → ∀ Q : T → Prop, Q v → S l p Q) (hI : l.length ≤ 1048576 → szPl l ≤ 1048576 → p.length ≤ 1048576 → ∀ Q : T → Prop, Q v → I l p Q) :
    (((p.length : Int) > 1048576) → tt true) ∧ (¬ ((p.length : Int) > 1048576) → m_laws_szPlayerS l 1048576 (fun r11 => ((r11 < 0) → tt true) ∧ (¬ (r11 < 0) → m_laws_toPlayerS l (fun r22 => m_laws_toIntS p (fun r36 => S r22 r36 (fun r46 => m_laws_toPlayerS l (fun r53 => m_laws_toIntS p (fun r68 => I r53 r68 (fun r79 => (((r79) ≠ (r46)) → tt false) ∧ (¬ ((r79) ≠ (r46)) → m_laws_toPlayerS l (fun r91 => m_laws_eqPlayerS r53 r91 (fun r105 => ((¬ (r105 = true)) → tt false) ∧ (¬ (¬ (r105 = true)) → m_laws_toIntS p (fun r115 => m_laws_eqIntS r68 r115 (fun r125 => ((¬ (r125 = true)) → tt false) ∧ (¬ (¬ (r125 = true)) → tt true)))))))))))))))) := by
  have hp' := hp
  exact ⟨fun _ => rfl, fun hc => szPlayerS_ok (by omega) hl hr (fun hs => ⟨fun h => absurd h (by omega), fun _ => toPlayerS_ok (by omega) (toIntS_ok (by omega) (hS (by omega) (by omega) (by omega) _ (toPlayerS_ok (by omega) (toIntS_ok (by omega) (hI (by omega) (by omega) (by omega) _ ⟨fun h => absurd rfl h, fun _ => toPlayerS_ok (by omega) (eqPlayerS_refl (by omega) ⟨fun h => absurd rfl h, fun _ => toIntS_ok (by omega) (eqIntS_refl (by omega) ⟨fun h => absurd rfl h, fun _ => rfl⟩)⟩)⟩)))))⟩) ⟨fun _ => rfl, fun h => absurd (by omega) h⟩⟩
theorem law_HandsFor {l : List PlayerC} {p : List Int} (hl : l.length ≤ 9223372036854775807) (hr : RowsP l) (hp : p.length ≤ 9223372036854775807) : m_laws_FnExactHandsFor l p (fun r => r = true) :=
  lawVal2 (S := m_spec_HandsFor) (I := m_impl_HandsFor) hl hr hp (fun h1 h2 h3 _ h => specHO_ok h1 h2 h3 h) (fun h1 h2 h3 _ h => implHO_ok h1 h2 h3 h)
theorem law_IsShort {l : List PlayerC} {p : List Int} (hl : l.length ≤ 9223372036854775807) (hr : RowsP l) (hp : p.length ≤ 9223372036854775807) : m_laws_FnExactIsShort l p (fun r => r = true) :=
  lawVal2 (S := m_spec_IsShort) (I := m_impl_IsShort) hl hr hp (fun h1 h2 h3 _ h => specIS_ok h1 h2 h3 h) (fun h1 h2 h3 _ h => implIS_ok h1 h2 h3 h)
theorem law_LackOf {l : List PlayerC} {p : List Int} (hl : l.length ≤ 9223372036854775807) (hr : RowsP l) (hp : p.length ≤ 9223372036854775807) : m_laws_FnExactLackOf l p (fun r => r = true) :=
  lawVal2 (S := m_spec_LackOf) (I := m_impl_LackOf) hl hr hp (fun h1 h2 h3 _ h => specLK_ok h1 h2 h3 h) (fun h1 h2 h3 _ h => implLK_ok h1 h2 h3 h)
theorem law_WhoKnows {l : List PlayerC} {x : Int} (hl : l.length ≤ 9223372036854775807) (hr : RowsP l) : m_laws_FnExactWhoKnows l x (fun r => r = true) := by
  have hv := whoL_len l x
  refine szPlayerS_ok (by omega) hl hr (fun hs => ⟨fun h => absurd h (by omega), fun _ => toPlayerS_ok (by omega) (specWK_ok (by omega) (by omega) (toPlayerS_ok (by omega) (implWK_ok (by omega) (by omega) ?_)))⟩) ⟨fun _ => rfl, fun h => absurd (by omega) h⟩
  have hsum := plM_sum l
  refine eqIntS_refl (by omega) ⟨fun h => absurd rfl h, fun _ => toPlayerS_ok (by omega) (eqPlayerS_refl (by omega) ⟨fun h => absurd rfl h, fun _ => markPlayerS_ok (by omega) (by omega) (by omega) ⟨true, fun _ => eqIntS_refl (by omega) rfl, fun hc => ?_, fun _ => ?_⟩⟩)⟩
  · rcases hc with hc | hc
    · omega
    · exact absurd rfl hc
  · exact markIntS_ok (by omega) (by omega) (by omega) (heldIntS_ok (by omega) (by omega) (by omega) ⟨fun h => absurd h (by omega), fun _ => ⟨fun h => absurd rfl h, fun _ => toPlayerS_ok (by omega) (implWK_ok (by omega) (by omega) (eqIntS_refl (by omega) ⟨fun h => absurd rfl h, fun _ => heldIntS_ok (by omega) (by omega) (by omega) ⟨fun h => absurd h (by omega), fun _ => ⟨fun h => absurd rfl h, fun _ => rfl⟩⟩⟩))⟩⟩)
theorem law_LoadOf {l : List PlayerC} {p : List Int} (hl : l.length ≤ 9223372036854775807) (hr : RowsP l) (hp : p.length ≤ 9223372036854775807) : m_laws_FnExactLoadOf l p (fun r => r = true) := by
  have hv := loadL_len l p
  have hp' := hp
  refine ⟨fun _ => rfl, fun hc => szPlayerS_ok (by omega) hl hr (fun hs => ⟨fun h => absurd h (by omega), fun _ => toPlayerS_ok (by omega) (toIntS_ok (by omega) (specLO_ok (by omega) (by omega) (by omega) (toPlayerS_ok (by omega) (toIntS_ok (by omega) (implLO_ok (by omega) (by omega) (by omega) ?_)))))⟩) ⟨fun _ => rfl, fun h => absurd (by omega) h⟩⟩
  have hsum := plM_sum l
  refine eqIntS_refl (by omega) ⟨fun h => absurd rfl h, fun _ => toPlayerS_ok (by omega) (eqPlayerS_refl (by omega) ⟨fun h => absurd rfl h, fun _ => toIntS_ok (by omega) (eqIntS_refl (by omega) ⟨fun h => absurd rfl h, fun _ => markPlayerS_ok (by omega) (by omega) (by omega) (markIntS_ok (by omega) (by omega) (by omega) ⟨true, fun _ => eqIntS_refl (by omega) rfl, fun hc => ?_, fun _ => ?_⟩)⟩)⟩)⟩
  · rcases hc with hc | hc
    · omega
    · exact absurd rfl hc
  · exact markIntS_ok (by omega) (by omega) (by omega) (heldIntS_ok (by omega) (by omega) (by omega) ⟨fun h => absurd h (by omega), fun _ => ⟨fun h => absurd rfl h, fun _ => toPlayerS_ok (by omega) (toIntS_ok (by omega) (implLO_ok (by omega) (by omega) (by omega) (eqIntS_refl (by omega) ⟨fun h => absurd rfl h, fun _ => heldIntS_ok (by omega) (by omega) (by omega) ⟨fun h => absurd h (by omega), fun _ => ⟨fun h => absurd rfl h, fun _ => rfl⟩⟩⟩)))⟩⟩)
theorem law_ShortSet {l : List PlayerC} {p : List Int} (hl : l.length ≤ 9223372036854775807) (hr : RowsP l) (hp : p.length ≤ 9223372036854775807) : m_laws_FnExactShortSet l p (fun r => r = true) := by
  have hv := shortL_len l p
  have hp' := hp
  refine ⟨fun _ => rfl, fun hc => szPlayerS_ok (by omega) hl hr (fun hs => ⟨fun h => absurd h (by omega), fun _ => toPlayerS_ok (by omega) (toIntS_ok (by omega) (specSS_ok (by omega) (by omega) (by omega) (toPlayerS_ok (by omega) (toIntS_ok (by omega) (implSS_ok (by omega) (by omega) (by omega) ?_)))))⟩) ⟨fun _ => rfl, fun h => absurd (by omega) h⟩⟩
  have hsum := plM_sum l
  refine eqIntS_refl (by omega) ⟨fun h => (by rcases h with h | h; exact absurd rfl h; exact absurd rfl h), fun _ => toPlayerS_ok (by omega) (eqPlayerS_refl (by omega) ⟨fun h => absurd rfl h, fun _ => toIntS_ok (by omega) (eqIntS_refl (by omega) ⟨fun h => absurd rfl h, fun _ => markPlayerS_ok (by omega) (by omega) (by omega) (markIntS_ok (by omega) (by omega) (by omega) ⟨true, fun _ => eqIntS_refl (by omega) rfl, fun hc => ?_, fun _ => ?_⟩)⟩)⟩)⟩
  · rcases hc with (hc | hc) | hc
    · omega
    · exact absurd rfl hc
    · exact absurd rfl hc
  · exact markIntS_ok (by omega) (by omega) (by omega) (heldIntS_ok (by omega) (by omega) (by omega) ⟨fun h => absurd h (by omega), fun _ => ⟨fun h => absurd rfl h, fun _ => toPlayerS_ok (by omega) (toIntS_ok (by omega) (implSS_ok (by omega) (by omega) (by omega) (eqIntS_refl (by omega) ⟨fun h => (by rcases h with h | h; exact absurd rfl h; exact absurd rfl h), fun _ => heldIntS_ok (by omega) (by omega) (by omega) ⟨fun h => absurd h (by omega), fun _ => ⟨fun h => absurd rfl h, fun _ => rfl⟩⟩⟩)))⟩⟩)
/-- the answer is players and a truth value -/
theorem lawPl {S I : List PlayerC → (List PlayerC → Bool → Prop) → Prop} {l v : List PlayerC} {b : Bool} (hl : l.length ≤ 9223372036854775807) (hr : RowsP l)
    (hv : l.length ≤ 1048576 → szPl l ≤ 1048576 → l.length + szPl l ≤ 1048576 → v.length + szPl v ≤ 1048576)
    (hS : l.length ≤ 1048576 → szPl l ≤ 1048576 → ∀ Q : List PlayerC → Bool → Prop, Q v b → S l Q) (hI : l.length ≤ 1048576 → szPl l ≤ 1048576 → ∀ Q : List PlayerC → Bool → Prop, Q v b → I l Q) :
    m_laws_szPlayerS l 1048576 (fun r7 => ((r7 < 0) → tt true) ∧ (¬ (r7 < 0) → m_laws_toPlayerS l (fun r18 => S r18 (fun r32 r41 => m_laws_toPlayerS l (fun r48 => I r48 (fun r63 r72 => m_laws_eqPlayerS r63 r32 (fun r80 => ((((¬ (r80 = true)) ∨ ((r72) ≠ (r41)))) → tt false) ∧ (¬ (((¬ (r80 = true)) ∨ ((r72) ≠ (r41)))) → m_laws_toPlayerS l (fun r93 => m_laws_eqPlayerS r48 r93 (fun r107 => ((¬ (r107 = true)) → tt false) ∧ (¬ (¬ (r107 = true)) → m_laws_markPlayerS r48 1 (fun r119 x120 => ∃ r129 : Bool, (¬ (r119 < 0) → m_laws_eqPlayerS r63 r32 (fun z => z = r129)) ∧ ((((((r119 < 0) ∨ (¬ (r129 = true)))) ∨ ((r72) ≠ (r41)))) → tt false) ∧ (¬ (((((r119 < 0) ∨ (¬ (r129 = true)))) ∨ ((r72) ≠ (r41)))) → m_laws_markPlayerS r63 1 (fun r148 x149 => m_laws_heldPlayerS x149 1 (fun r158 => ((r158 < 0) → tt false) ∧ (¬ (r158 < 0) → ((r158 ≠ r148) → tt false) ∧ (¬ (r158 ≠ r148) → m_laws_toPlayerS l (fun r173 => I r173 (fun r187 r196 => m_laws_eqPlayerS r187 r32 (fun r204 => ((((¬ (r204 = true)) ∨ ((r196) ≠ (r41)))) → tt false) ∧ (¬ (((¬ (r204 = true)) ∨ ((r196) ≠ (r41)))) → m_laws_heldPlayerS x149 1 (fun r217 => ((r217 < 0) → tt false) ∧ (¬ (r217 < 0) → ((r217 ≠ r148) → tt false) ∧ (¬ (r217 ≠ r148) → tt true)))))))))))))))))))))))) := by
  refine szPlayerS_ok (by omega) hl hr (fun hs => ⟨fun h => absurd h (by omega), fun _ => toPlayerS_ok (by omega) (hS (by omega) (by omega) _ (toPlayerS_ok (by omega) (hI (by omega) (by omega) _ ?_)))⟩) ⟨fun _ => rfl, fun h => absurd (by omega) h⟩
  have hsum := plM_sum l
  have hsum2 := plM_sum v
  have hv' := hv (by omega) (by omega) (by omega)
  refine eqPlayerS_refl hv' ⟨fun h => (by rcases h with h | h; exact absurd rfl h; exact absurd rfl h), fun _ => toPlayerS_ok (by omega) (eqPlayerS_refl (by omega) ⟨fun h => absurd rfl h, fun _ => markPlayerS_ok (by omega) (by omega) (by omega) ⟨true, fun _ => eqPlayerS_refl hv' rfl, fun hc => ?_, fun _ => ?_⟩⟩)⟩
  · rcases hc with (hc | hc) | hc
    · omega
    · exact absurd rfl hc
    · exact absurd rfl hc
  · exact markPlayerS_ok hv' (by omega) (by omega) (heldPlayerS_ok hv' (by omega) (by omega) ⟨fun h => absurd h (by omega), fun _ => ⟨fun h => absurd rfl h, fun _ => toPlayerS_ok (by omega) (hI (by omega) (by omega) _ (eqPlayerS_refl hv' ⟨fun h => (by rcases h with h | h; exact absurd rfl h; exact absurd rfl h), fun _ => heldPlayerS_ok hv' (by omega) (by omega) ⟨fun h => absurd h (by omega), fun _ => ⟨fun h => absurd rfl h, fun _ => rfl⟩⟩⟩))⟩⟩)
theorem sumN_set {f : PlayerC → Nat} {l : List PlayerC} {i : Nat} {x : PlayerC} (hi : i < l.length) : sumN f (l.set i x) + f l[i]! = sumN f l + f x := by
  induction l generalizing i with
  | nil => simp at hi
  | cons a l ih =>
    cases i with
    | zero => simp [sumN]; omega
    | succ i =>
      have := ih (i := i) (by simpa using hi)
      simp only [List.set_cons_succ, sumN, List.getElem!_cons_succ]; omega
theorem law_WithoutPlayer {l : List PlayerC} {k : Int} (hl : l.length ≤ 9223372036854775807) (hr : RowsP l) : m_laws_FnExactWithoutPlayer l k (fun r => r = true) :=
  lawPl (S := fun l => m_spec_WithoutPlayer l k) (I := fun l => m_impl_WithoutPlayer l k) hl hr (fun _ _ h => by
    unfold wpL
    split
    · rename_i hc
      have h1 := hc.2
      have := sumN_set (f := plN) (l := l) (i := k.toNat) (x := ((l[k.toNat]!).1, 0)) (by omega)
      have e : plN ((l[k.toNat]!).1, (0 : Int)) = plN l[k.toNat]! := rfl
      rw [List.length_set]
      unfold szPl at h ⊢
      omega
    · exact h) (fun h1 h2 _ h => specWO_ok h1 h2 h) (fun h1 h2 _ h => implWO_ok h1 h2 h)
theorem ins_len (x : Int) (l : List Int) : (ins x l).length = l.length + 1 := by
  have := fg_le x l
  unfold ins
  simp only [List.length_append, List.length_take, List.length_drop, List.length_singleton]; omega
theorem law_TeachPuppet {l : List PlayerC} {k x : Int} (hl : l.length ≤ 9223372036854775807) (hr : RowsP l) : m_laws_FnExactTeachPuppet l k x (fun r => r = true) :=
  lawPl (S := fun l => m_spec_TeachPuppet l k x) (I := fun l => m_impl_TeachPuppet l k x) hl hr (fun _ _ h => by
    unfold tcL
    split
    · rename_i hc
      have hc := tcC_iff.1 hc
      have h1 := hc.2.1
      have h6 := plO_size hc.1
      have hall : szPl (l.set k.toNat (ins x (l[k.toNat]!).1, (l[k.toNat]!).2)) ≤ 1000 := by
        have hb : ∀ m : Nat, m ≤ l.length → sumN plN (l.take m) ≤ 7 * m := by
          intro m
          induction m with
          | zero => intro _; simp [sumN]
          | succ m ih =>
            intro hm
            rw [sumN_step plN l m (by omega)]
            have := ih (by omega)
            have := pup_len (plB_iff.1 ((plO_iff.1 hc.1).1 m (by omega))).1
            have e : plN l[m]! = (l[m]!).1.length := rfl
            omega
        have := hb l.length (Nat.le_refl _)
        rw [List.take_length] at this
        have h2 := sumN_set (f := plN) (l := l) (i := k.toNat) (x := (ins x (l[k.toNat]!).1, (l[k.toNat]!).2)) (by omega)
        have e : plN (ins x (l[k.toNat]!).1, (l[k.toNat]!).2) = (l[k.toNat]!).1.length + 1 := ins_len _ _
        have e2 : plN l[k.toNat]! = (l[k.toNat]!).1.length := rfl
        unfold szPl
        omega
      rw [List.length_set]; omega
    · exact h) (fun h1 h2 _ h => specTP_ok h1 h2 h) (fun h1 h2 _ h => implTP_ok h1 h2 h)
theorem law_NightOk {l : List PlayerC} {t : List (List Int)} (hl : l.length ≤ 9223372036854775807) (hr : RowsP l) (ht : t.length ≤ 9223372036854775807) (htr : RowsI t) : m_laws_FnExactNightOk l t (fun r => r = true) :=
  szPlayerS_ok (by omega) hl hr (fun hs => ⟨fun h => absurd h (by omega), fun _ => szIntSS_ok (by omega) ht htr (fun hs2 => ⟨fun h => absurd h (by omega), fun _ => toPlayerS_ok (by omega) (toIntSS_ok (by omega) (specNO_ok (by omega) (by omega) (by omega) (toPlayerS_ok (by omega) (toIntSS_ok (by omega) (implNO_ok (by omega) (by omega) (by omega) ⟨fun h => absurd rfl h, fun _ => toPlayerS_ok (by omega) (eqPlayerS_refl (by omega) ⟨fun h => absurd rfl h, fun _ => toIntSS_ok (by omega) (eqIntSS_refl (by omega) (fun i hi => by have := szII_get t i hi; omega) ⟨fun h => absurd rfl h, fun _ => rfl⟩)⟩)⟩)))))⟩) ⟨fun _ => rfl, fun h => absurd (by omega) h⟩⟩) ⟨fun _ => rfl, fun h => absurd (by omega) h⟩
theorem law_CountChanges {t c : List (List Int)} (ht : t.length ≤ 9223372036854775807) (htr : RowsI t) (hc : c.length ≤ 9223372036854775807) (hcr : RowsI c) : m_laws_FnExactCountChanges t c (fun r => r = true) :=
  szIntSS_ok (by omega) ht htr (fun hs => ⟨fun h => absurd h (by omega), fun _ => szIntSS_ok (by omega) hc hcr (fun hs2 => ⟨fun h => absurd h (by omega), fun _ => toIntSS_ok (by omega) (toIntSS_ok (by omega) (specCC_ok ⟨by omega, fun i hi => by have := szII_get t i hi; omega⟩ (toIntSS_ok (by omega) (toIntSS_ok (by omega) (implCC_ok ⟨by omega, fun i hi => by have := szII_get t i hi; omega⟩ ⟨fun h => absurd rfl h, fun _ => toIntSS_ok (by omega) (eqIntSS_refl (by omega) (fun i hi => by have := szII_get t i hi; omega) ⟨fun h => absurd rfl h, fun _ => toIntSS_ok (by omega) (eqIntSS_refl (by omega) (fun i hi => by have := szII_get c i hi; omega) ⟨fun h => absurd rfl h, fun _ => rfl⟩)⟩)⟩)))))⟩) ⟨fun _ => rfl, fun h => absurd (by omega) h⟩⟩) ⟨fun _ => rfl, fun h => absurd (by omega) h⟩
theorem law_IsCasting {l : List PlayerC} {p c : List Int} (hl : l.length ≤ 9223372036854775807) (hr : RowsP l) (hp : p.length ≤ 9223372036854775807) (hc : c.length ≤ 9223372036854775807) : m_laws_FnExactIsCasting l p c (fun r => r = true) := by
  obtain ⟨b, hb⟩ : ∃ b : Bool, b = true ↔ castP l p c := by
    by_cases h : castP l p c
    · exact ⟨true, fun _ => h, fun _ => rfl⟩
    · exact ⟨false, fun h => (by cases h), fun hx => absurd hx h⟩
  have hp' := hp
  have hc' := hc
  exact ⟨fun _ => rfl, fun hn => ⟨fun _ => rfl, fun hn2 => szPlayerS_ok (by omega) hl hr (fun hs => ⟨fun h => absurd h (by omega), fun _ => toPlayerS_ok (by omega) (toIntS_ok (by omega) (toIntS_ok (by omega) (specIC_ok (by omega) (by omega) (by omega) (by omega) b hb (toPlayerS_ok (by omega) (toIntS_ok (by omega) (toIntS_ok (by omega) (implIC_ok (by omega) (by omega) (by omega) (by omega) b hb ⟨fun h => absurd rfl h, fun _ => toPlayerS_ok (by omega) (eqPlayerS_refl (by omega) ⟨fun h => absurd rfl h, fun _ => toIntS_ok (by omega) (eqIntS_refl (by omega) ⟨fun h => absurd rfl h, fun _ => toIntS_ok (by omega) (eqIntS_refl (by omega) ⟨fun h => absurd rfl h, fun _ => rfl⟩)⟩)⟩)⟩)))))))⟩) ⟨fun _ => rfl, fun h => absurd (by omega) h⟩⟩⟩
end Go.Proofs.Ythmlfpfebdnpcaa
