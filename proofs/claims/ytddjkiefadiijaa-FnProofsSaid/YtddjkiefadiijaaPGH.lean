/- The plain law of hands. No program. -/
import Derived.Test.YtddjkiefadiijaaPG3
import Derived.Test.YtddjkiefadiijaaPDR
namespace Go.Proofs.Ytddjkiefadiijaa
/-- the hands that are taken, player by player -/
def scN (c : List Int) (m : Nat) : Nat → Nat
  | 0 => 0
  | n + 1 => scN c m n + cntE c n m
theorem scN_zero (c : List Int) : ∀ n, scN c 0 n = 0
  | 0 => rfl
  | n + 1 => by rw [scN, scN_zero c n]; rfl
theorem scN_succ (c : List Int) (m : Nat) : ∀ n, scN c (m + 1) n = scN c m n + if 0 ≤ c[m]! ∧ c[m]! < (n : Int) then 1 else 0
  | 0 => by rw [if_neg (by omega)]; rfl
  | n + 1 => by
    rw [scN, scN, scN_succ c m n, cntE]
    by_cases h : c[m]! = (n : Int)
    · rw [if_pos h, if_neg (by omega), if_pos (by omega)]; omega
    · rw [if_neg h]
      by_cases h2 : 0 ≤ c[m]! ∧ c[m]! < (n : Int)
      · rw [if_pos h2, if_pos (by omega)]; omega
      · rw [if_neg h2, if_neg (by omega)]; omega
theorem scN_all {c : List Int} {n : Nat} (h : ∀ i, i < c.length → 0 ≤ c[i]! ∧ c[i]! < (n : Int)) : ∀ m, m ≤ c.length → scN c m n = m
  | 0, _ => scN_zero c n
  | m + 1, hm => by rw [scN_succ, scN_all h m (by omega), if_pos (h m (by omega))]
theorem scN_free {l : List PlayerC} {c : List Int} (h : ∀ k, k < l.length → (cntE c k c.length : Int) ≤ (l[k]!).2) : ∀ n, n ≤ l.length → (scN c c.length n : Int) ≤ hfS l n
  | 0, _ => by simp [scN, hfS]
  | n + 1, hn => by
    have h1 := scN_free h n (by omega)
    have h2 := h n (by omega)
    rw [scN, hfS]; omega
theorem fc_cast {l : List PlayerC} {ps : List Int} (h : fcB l ps = true) : castP l ps (fcL l ps) := by
  obtain ⟨hok, hne⟩ := fcB_iff.1 h
  have hz := plO_size (okB_iff.1 hok).1
  have hm : fcL l ps ∈ allC l ps := by
    unfold fcL
    rw [if_pos hok]
    cases hq : allC l ps with
    | nil => exact absurd hq hne
    | cons a b => simp [hd0]
  generalize fcL l ps = c at hm
  rw [allC_filt (by omega)] at hm
  obtain ⟨h1, h2⟩ := List.mem_filter.1 hm
  obtain ⟨v, _, rfl⟩ := List.mem_map.1 h1
  exact (pre_cast hok (tl_len _ _ _) (fun i hi => tl_get (by omega) (by rw [tl_len] at hi; exact hi))).1 h2
theorem fc_none {l : List PlayerC} {ps : List Int} (h : fcB l ps = false) : fcL l ps = [] := by
  unfold fcL
  split
  · rename_i hok
    have : ¬ allC l ps ≠ [] := fun hx => by rw [fcB_iff.2 ⟨hok, hx⟩] at h; cases h
    rw [Classical.not_not.1 this]; rfl
  · rfl
end Go.Proofs.Ytddjkiefadiijaa
