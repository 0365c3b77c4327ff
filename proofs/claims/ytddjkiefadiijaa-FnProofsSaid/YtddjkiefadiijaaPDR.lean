/- Plain laws over the models: drawn numbers, lists and players. No program, no statement of the claim. -/
import Derived.Test.YtddjkiefadiijaaPD2
namespace Go.Proofs.Ytddjkiefadiijaa
theorem below_ok {k : Int} {Q : Int → Prop} (h0 : 0 < k) (h1 : k ≤ 256) (h : ∀ r, 0 ≤ r → r < k → Q r) : m_spec_l01Below k Q :=
  ⟨fun hx => absurd hx (by omega), fun _ => ⟨fun _ r h2 h3 => ⟨by omega, h _ (Int.tmod_nonneg k h2) (Int.tmod_lt_of_pos r h0)⟩, fun hx => absurd h1 hx⟩⟩
theorem once_ok {k : Int} {Q : Bool → Prop} (h0 : 0 < k) (h1 : k ≤ 256) (h : ∀ b, Q b) : m_spec_l01Once k Q := below_ok h0 h1 fun _ _ _ => h _
theorem ri_mono {m m' : Int} {x : List Int} (h : riB m x = true) (hm : m ≤ m') : riB m' x = true := riB_iff.2 fun j hj => by
  have := riB_iff.1 h j hj
  exact ⟨this.1, by have := this.2.1; omega, this.2.2⟩
theorem ri_nil (m : Int) : riB m [] = true := riB_iff.2 fun j hj => absurd hj (Nat.not_lt_zero _)
theorem ri_app {j : Int} {x : List Int} (h : riB (j - 1) x = true) (h0 : 0 ≤ j) : riB j (x ++ [j]) = true := riB_iff.2 fun i hi => by
  rw [List.length_append, List.length_singleton] at hi
  have gl : ∀ i, i < x.length → (x ++ [j])[i]! = x[i]! := fun i hi => by simp [List.getElem!_eq_getElem?_getD, List.getElem?_append, hi]
  have gk : (x ++ [j])[x.length]! = j := by simp [List.getElem!_eq_getElem?_getD]
  have h' := riB_iff.1 h
  rcases Nat.lt_or_ge i x.length with hx | hx
  · have := h' i hx
    refine ⟨by rw [gl i hx]; exact this.1, by rw [gl i hx]; have := this.2.1; omega, fun h1 => ?_⟩
    rw [gl i hx, gl (i - 1) (by omega)]; exact this.2.2 h1
  · have : i = x.length := by omega
    subst this
    refine ⟨by rw [gk]; exact h0, by rw [gk]; exact Int.le_refl _, fun h1 => ?_⟩
    rw [gk, gl _ (by omega)]
    have := (h' (x.length - 1) (by omega)).2.1
    omega
theorem pick5_ok {Q : Int → List Int → Prop} (h : ∀ v, 0 ≤ v → v ≤ 2 → Q v [0, 1, 1, 2, 2]) : m_spec_l01PickInt [0, 1, 1, 2, 2] Q := by
  refine below_ok (by decide) (by decide) fun r r0 r1 => ?_
  have r2 : r < 5 := r1
  have : r = 0 ∨ r = 1 ∨ r = 2 ∨ r = 3 ∨ r = 4 := by omega
  rcases this with rfl | rfl | rfl | rfl | rfl
  · exact ⟨by decide, h _ (by decide) (by decide)⟩
  · exact ⟨by decide, h _ (by decide) (by decide)⟩
  · exact ⟨by decide, h _ (by decide) (by decide)⟩
  · exact ⟨by decide, h _ (by decide) (by decide)⟩
  · exact ⟨by decide, h _ (by decide) (by decide)⟩
theorem players_ok {Q : List PlayerC → Prop} (h : ∀ l, playersOk l = true → Q l) : m_spec_l13List Q := by
  refine below_ok (by decide) (by decide) fun r r0 r1 => ⟨by omega, fun x v => 0 ≤ v ∧ v ≤ 1 + r ∧ x.length = v.toNat ∧ ∀ i, i < x.length → plB x[i]! = true, fun x v => (1 + r - v).toNat, ⟨by omega, by omega, rfl, fun i hi => absurd hi (Nat.not_lt_zero _)⟩, ?_⟩
  rintro x v ⟨v0, v1, v2, v3⟩
  refine ⟨fun hd => ?_, fun hd => ?_⟩
  · refine pick5_ok fun q q0 q1 => ⟨fun j a => 0 ≤ j ∧ j ≤ 6 ∧ a.length ≤ j.toNat ∧ riB (j - 1) a = true, fun j a => (6 - j).toNat, ⟨by omega, by omega, by simp, ri_nil _⟩, ?_⟩
    rintro j a ⟨j0, j1, j2, j3⟩
    refine ⟨fun hj => once_ok (by decide) (by decide) fun b => ⟨fun _ => ⟨by omega, by omega, ⟨by omega, by omega, by rw [List.length_append, List.length_singleton]; omega, by rw [show j + 1 - 1 = j by omega]; exact ri_app j3 j0⟩, (by dsimp only; omega)⟩, fun _ => ⟨by omega, ⟨by omega, by omega, by omega, ri_mono j3 (by omega)⟩, (by dsimp only; omega)⟩⟩, fun hj => ?_⟩
    refine ⟨by omega, by omega, ⟨by omega, by omega, by rw [List.length_append, List.length_singleton]; omega, fun k hk => ?_⟩, (by dsimp only; omega)⟩
    rw [List.length_append, List.length_singleton] at hk
    rcases Nat.lt_or_ge k x.length with hx | hx
    · have e : (x ++ [((a, q) : PlayerC)])[k]! = x[k]! := by simp [List.getElem!_eq_getElem?_getD, List.getElem?_append, hx]
      rw [e]; exact v3 k hx
    · have hkx : k = x.length := by omega
      subst hkx
      have e : (x ++ [((a, q) : PlayerC)])[x.length]! = (a, q) := by simp [List.getElem!_eq_getElem?_getD]
      rw [e]
      exact plB_iff.2 ⟨ri_mono j3 (by omega), q0, q1⟩
  · exact h x (plO_iff.2 ⟨v3, by omega, by omega⟩)
theorem drawPl_ok {p : List Byte} {Q : List PlayerC → List Int → Prop} (hp : p.length ≤ 1099511627776) (h : ∀ l x, playersOk l = true → riB 5 x = true → Q l x) : m_spec_DrawPlayers p Q := by
  refine ⟨hp, players_ok fun l hl => ⟨fun a j => 0 ≤ j ∧ j ≤ 6 ∧ a.length ≤ j.toNat ∧ riB (j - 1) a = true, fun a j => (6 - j).toNat, ⟨by omega, by omega, by simp, ri_nil _⟩, ?_⟩⟩
  rintro a j ⟨j0, j1, j2, j3⟩
  refine ⟨fun hj => once_ok (by decide) (by decide) fun b => ⟨fun _ => ⟨by omega, by omega, ⟨by omega, by omega, by rw [List.length_append, List.length_singleton]; omega, by rw [show j + 1 - 1 = j by omega]; exact ri_app j3 j0⟩, (by dsimp only; omega)⟩, fun _ => ⟨by omega, ⟨by omega, by omega, by omega, ri_mono j3 (by omega)⟩, (by dsimp only; omega)⟩⟩, fun hj => ?_⟩
  exact h l a hl (ri_mono j3 (by omega))
theorem sumN_le {α : Type} [Inhabited α] {f : α → Nat} {c : Nat} : ∀ {l : List α}, (∀ i, i < l.length → f l[i]! ≤ c) → sumN f l ≤ c * l.length
  | [], _ => by simp [sumN]
  | a :: l, h => by
    have h1 := sumN_le (l := l) (fun i hi => by have := h (i + 1) (by simpa using hi); simpa using this)
    have h2 := h 0 (by simp)
    simp only [List.getElem!_cons_zero] at h2
    simp only [sumN, List.length_cons, Nat.mul_succ]; omega
theorem pl_sz {l : List PlayerC} (h : playersOk l = true) : szPl l ≤ 1048576 := by
  have h6 := plO_size h
  have : szPl l ≤ 7 * l.length := sumN_le fun i hi => pup_len (plB_iff.1 ((plO_iff.1 h).1 i hi)).1
  omega
theorem has_ok {x : List Int} {v : Int} {Q : Bool → Prop} (hl : x.length ≤ 1099511627776) (h : Q (decide (v ∈ x))) : m_laws_has x v Q := by
  refine ⟨fun i => 0 ≤ i ∧ i ≤ x.length ∧ ∀ j, j < i.toNat → x[j]! ≠ v, fun i => (x.length - i).toNat, ⟨by omega, by omega, fun j hj => absurd hj (by omega)⟩, ?_⟩
  rintro i ⟨i0, i1, i2⟩
  refine ⟨fun hi => ⟨⟨i0, hi⟩, fun he => ?_, fun he => ⟨by omega, ⟨by omega, by omega, lt_succ' i0 i2 he⟩, (by dsimp only; omega)⟩⟩, fun hi => ?_⟩
  · rw [decide_eq_true (mem_get.2 ⟨i.toNat, by omega, he⟩)] at h; exact h
  · rw [decide_eq_false (fun hm => by obtain ⟨j, hj, e⟩ := mem_get.1 hm; exact i2 j (by omega) e)] at h; exact h
end Go.Proofs.Ytddjkiefadiijaa
