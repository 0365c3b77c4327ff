/- Plain laws over the models: drawn numbers, lists and players. No program, no statement of the claim. -/
import Derived.Test.YtddjkiefadiijaaPD2
namespace Go.Proofs.Ytddjkiefadiijaa
theorem below_ok {k : Int} {Q : Int → Prop} (h0 : 0 < k) (h1 : k ≤ 256) (h : ∀ r, 0 ≤ r → r < k → Q r) : m_spec_l01Below k Q :=
  ⟨fun hx => absurd hx (by omega), fun _ => ⟨fun _ r h2 h3 => ⟨by omega, h _ (Int.tmod_nonneg k h2) (Int.tmod_lt_of_pos r h0)⟩, fun hx => absurd h1 hx⟩⟩
theorem once_ok {k : Int} {Q : Bool → Prop} (h0 : 0 < k) (h1 : k ≤ 256) (h : ∀ b, Q b) : m_spec_l01Once k Q := below_ok h0 h1 fun _ _ _ => h _
theorem ri_mono {m m' : Int} {x : List Int} (h : riB m x = true) (hm : m ≤ m') : riB m' x = true := riB_iff.2 fun j hj => by
  have := riB_iff.1 h j hj
  exact ⟨this.1, by have := this.2.1; omega, this.2.2⟩
theorem ri_nil (m : Int) : riB m [] = true := riB_iff.2 fun j hj => absurd hj (Nat.not_lt_zero _)
theorem ri_app {j : Int} {x : List Int} (h : riB (j - 1) x = true) (h0 : 0 ≤ j) : riB j (x ++ [j]) = true := riB_iff.2 fun i hi => by
  rw [List.length_append, List.length_singleton] at hi
  have gl : ∀ i, i < x.length → (x ++ [j])[i]! = x[i]! := fun i hi => by simp [List.getElem!_eq_getElem?_getD, List.getElem?_append, hi]
  have gk : (x ++ [j])[x.length]! = j := by simp [List.getElem!_eq_getElem?_getD]
  have h' := riB_iff.1 h
  rcases Nat.lt_or_ge i x.length with hx | hx
  · have := h' i hx
    refine ⟨by rw [gl i hx]; exact this.1, by rw [gl i hx]; have := this.2.1; omega, fun h1 => ?_⟩
    rw [gl i hx, gl (i - 1) (by omega)]; exact this.2.2 h1
  · have : i = x.length := by omega
    subst this
    refine ⟨by rw [gk]; exact h0, by rw [gk]; exact Int.le_refl _, fun h1 => ?_⟩
    rw [gk, gl _ (by omega)]
    have := (h' (x.length - 1) (by omega)).2.1
    omega
theorem sumN_le {α : Type} [Inhabited α] {f : α → Nat} {c : Nat} : ∀ {l : List α}, (∀ i, i < l.length → f l[i]! ≤ c) → sumN f l ≤ c * l.length
  | [], _ => by simp [sumN]
  | a :: l, h => by
    have h1 := sumN_le (l := l) (fun i hi => by have := h (i + 1) (by simpa using hi); simpa using this)
    have h2 := h 0 (by simp)
    simp only [List.getElem!_cons_zero] at h2
    simp only [sumN, List.length_cons, Nat.mul_succ]; omega
theorem pl_sz {l : List PlayerC} (h : playersOk l = true) : szPl l ≤ 1048576 := by
  have h6 := plO_size h
  have : szPl l ≤ 7 * l.length := sumN_le fun i hi => pup_len (plB_iff.1 ((plO_iff.1 h).1 i hi)).1
  omega
end Go.Proofs.Ytddjkiefadiijaa
