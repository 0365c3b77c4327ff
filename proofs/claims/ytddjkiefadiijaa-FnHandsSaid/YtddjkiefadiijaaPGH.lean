/- The plain law of hands. No program. -/
import Derived.Test.YtddjkiefadiijaaPG3
import Derived.Test.YtddjkiefadiijaaPDR
namespace Go.Proofs.Ytddjkiefadiijaa
/-- the hands that are taken, player by player -/
def scN (c : List Int) (m : Nat) : Nat → Nat
  | 0 => 0
  | n + 1 => scN c m n + cntE c n m
theorem scN_zero (c : List Int) : ∀ n, scN c 0 n = 0
  | 0 => rfl
  | n + 1 => by rw [scN, scN_zero c n]; rfl
theorem scN_succ (c : List Int) (m : Nat) : ∀ n, scN c (m + 1) n = scN c m n + if 0 ≤ c[m]! ∧ c[m]! < (n : Int) then 1 else 0
  | 0 => by rw [if_neg (by omega)]; rfl
  | n + 1 => by
    rw [scN, scN, scN_succ c m n, cntE]
    by_cases h : c[m]! = (n : Int)
    · rw [if_pos h, if_neg (by omega), if_pos (by omega)]; omega
    · rw [if_neg h]
      by_cases h2 : 0 ≤ c[m]! ∧ c[m]! < (n : Int)
      · rw [if_pos h2, if_pos (by omega)]; omega
      · rw [if_neg h2, if_neg (by omega)]; omega
theorem scN_all {c : List Int} {n : Nat} (h : ∀ i, i < c.length → 0 ≤ c[i]! ∧ c[i]! < (n : Int)) : ∀ m, m ≤ c.length → scN c m n = m
  | 0, _ => scN_zero c n
  | m + 1, hm => by rw [scN_succ, scN_all h m (by omega), if_pos (h m (by omega))]
theorem scN_free {l : List PlayerC} {c : List Int} (h : ∀ k, k < l.length → (cntE c k c.length : Int) ≤ (l[k]!).2) : ∀ n, n ≤ l.length → (scN c c.length n : Int) ≤ hfS l n
  | 0, _ => by simp [scN, hfS]
  | n + 1, hn => by
    have h1 := scN_free h n (by omega)
    have h2 := h n (by omega)
    rw [scN, hfS]; omega
theorem fc_cast {l : List PlayerC} {ps : List Int} (h : fcB l ps = true) : castP l ps (fcL l ps) := by
  obtain ⟨hok, hne⟩ := fcB_iff.1 h
  have hz := plO_size (okB_iff.1 hok).1
  have hm : fcL l ps ∈ allC l ps := by
    unfold fcL
    rw [if_pos hok]
    cases hq : allC l ps with
    | nil => exact absurd hq hne
    | cons a b => simp [hd0]
  generalize fcL l ps = c at hm
  rw [allC_filt (by omega)] at hm
  obtain ⟨h1, h2⟩ := List.mem_filter.1 hm
  obtain ⟨v, _, rfl⟩ := List.mem_map.1 h1
  exact (pre_cast hok (tl_len _ _ _) (fun i hi => tl_get (by omega) (by rw [tl_len] at hi; exact hi))).1 h2
theorem fc_none {l : List PlayerC} {ps : List Int} (h : fcB l ps = false) : fcL l ps = [] := by
  unfold fcL
  split
  · rename_i hok
    have : ¬ allC l ps ≠ [] := fun hx => by rw [fcB_iff.2 ⟨hok, hx⟩] at h; cases h
    rw [Classical.not_not.1 this]; rfl
  · rfl
theorem law_PHands {b : List Byte} (hb : b.length ≤ 9223372036854775807) : m_laws_FnHands b (fun r => r = true) := by
  refine ⟨fun _ => rfl, fun hn => drawPl_ok (by
    have : ¬ ((b.length : Int) > 1048576) := fun hx => hn (decide_eq_true hx)
    omega) fun l p hpo hp5 => ?_⟩
  have hp6 := ri_mono hp5 (show (5 : Int) ≤ 6 by omega)
  have hs := pl_sz hpo
  have hz := plO_size hpo
  have h7 := pup_len hp6
  have hl : l.length ≤ 1048576 := by omega
  have hp : p.length ≤ 1048576 := by omega
  have hf := hfS_rng hpo l.length (Nat.le_refl _)
  have ehf : handsFree l = hfS l l.length := by unfold handsFree; rw [if_pos hpo]
  have k1 : m_laws_FnHands_K1 l (fun r => r = true) := by
    refine implPO_ok hl hs ⟨true, fun _ => implIC_ok hl hs (by simp) (by simp) true (iff_of_true rfl ⟨hpo, ri_nil _, rfl, fun i hi => absurd hi (Nat.not_lt_zero _), fun k hk => ?_⟩) rfl, by rw [hpo]; rfl⟩
    have := plO_free hpo hk
    show ((0 : Nat) : Int) ≤ _
    omega
  refine implFC_ok hl hs hp (implHF_ok hl hs ?_)
  rw [ehf]
  cases hq : fcB l p with
  | false =>
    rw [fc_none hq]
    refine ⟨false, fun h => absurd h.2 (by simp), fun h => ?_, fun _ => ⟨fun h => absurd h (by simp), fun _ => ?_⟩⟩
    · rcases h with (h | h) | h
      · omega
      · exact absurd h.1 (by simp)
      · exact absurd rfl h.2
    · refine ⟨fun k => 0 ≤ k ∧ k ≤ p.length, fun k => (p.length - k).toNat, ⟨by omega, by omega⟩, ?_⟩
      rintro k ⟨k0, k1'⟩
      refine ⟨fun hk => ⟨⟨k0, hk⟩, implWK_ok hl hs ⟨fun h => absurd h.2 (by simp), false, fun h => absurd h.2 (by simp), fun h => ?_, fun _ => ⟨by omega, ⟨by omega, by omega⟩, (by dsimp only; omega)⟩⟩⟩, fun _ => k1⟩
      rcases h with h | h
      · exact absurd h.2 (by simp)
      · exact absurd h.1 (by simp)
  | true =>
    have hc := fc_cast hq
    generalize fcL l p = c at *
    obtain ⟨_, _, c3, c4, c5⟩ := id hc
    have hcl : c.length ≤ 1048576 := by omega
    have hrng : ∀ i, i < c.length → 0 ≤ c[i]! ∧ c[i]! < (l.length : Int) := fun i hi => by have := (c4 i hi).1; omega
    have hsum := scN_all hrng c.length (Nat.le_refl _)
    have hfree := scN_free c5 l.length (Nat.le_refl _)
    have hll : ∀ k, k < l.length → (loadL l c)[k]! = (cntE c k c.length : Int) := fun k hk => (loadL_get hpo hk).1
    have hlen : (loadL l c).length = l.length := (loadL_get hpo (k := 0) (by omega)).2
    refine ⟨true, fun _ => implIC_ok hl hs hp hcl true (iff_of_true rfl hc) rfl, fun h => ?_, fun _ => ⟨fun _ => implLO_ok hl hs hcl ?_, fun h => absurd rfl h⟩⟩
    · rcases h with (h | ⟨_, h | h⟩) | h
      · omega
      · exact absurd rfl h
      · omega
      · exact absurd rfl h.1
    refine ⟨fun s v => 0 ≤ v ∧ v ≤ l.length ∧ s = (scN c c.length v.toNat : Int) ∧ s ≤ 7 * v, fun s v => (l.length - v).toNat, ⟨by omega, by omega, rfl, by omega⟩, ?_⟩
    rintro s v ⟨v0, v1, rfl, v3⟩
    rw [hlen]
    refine ⟨fun hv => ?_, fun hv => ?_⟩
    · have hg := hll v.toNat (by omega)
      have hle := cntE_le c (v.toNat : Nat) c.length
      have h5 := c5 v.toNat (by omega)
      refine ⟨⟨v0, by omega⟩, by omega, fun _ => ⟨v0, by omega⟩, fun _ => ⟨v0, by omega⟩, fun h => ?_, fun _ => ⟨by omega, ⟨by omega, by omega, ?_, by omega⟩, (by dsimp only; omega)⟩⟩
      · omega
      · rw [tn1 v0, scN, hg]; omega
    · have hvv : v.toNat = l.length := by omega
      rw [hvv, hsum]
      refine ⟨fun h => ?_, fun _ => ?_⟩
      · rcases h with h | h <;> omega
      refine ⟨fun k => 0 ≤ k ∧ k ≤ p.length, fun k => (p.length - k).toNat, ⟨by omega, by omega⟩, ?_⟩
      rintro k ⟨k0, k1'⟩
      refine ⟨fun hk => ?_, fun _ => k1⟩
      have hkc := c4 k.toNat (by omega)
      have hm : c[k.toNat]! ∈ whoL l p[k.toNat]! := by
        unfold whoL
        rw [if_pos hpo]
        exact sel_mem.2 ⟨hkc.1.1, by omega, hkc.2⟩
      have hw := whoL_len l p[k.toNat]!
      refine ⟨⟨k0, hk⟩, implWK_ok hl hs ⟨fun _ => ⟨k0, by omega⟩, true, fun _ => has_ok (by omega) (decide_eq_true hm), fun h => ?_, fun _ => ⟨by omega, ⟨by omega, by omega⟩, (by dsimp only; omega)⟩⟩⟩
      rcases h with h | h
      · have : (whoL l p[k.toNat]!) = [] := List.eq_nil_of_length_eq_zero (by omega)
        rw [this] at hm; cases hm
      · exact absurd rfl h.2
end Go.Proofs.Ytddjkiefadiijaa
