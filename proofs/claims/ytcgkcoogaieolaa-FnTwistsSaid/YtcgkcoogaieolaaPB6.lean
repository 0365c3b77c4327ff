/- Plain laws over the models: what is asked of twists; full turns; unwinding. No program, no statement of the claim. -/
import Derived.Test.YtcgkcoogaieolaaPB5
namespace Go.Proofs.Ytcgkcoogaieolaa

/- wound pairs -/
def wpr (t : List (List Int)) (i m : Nat) : List (List Int) := ((List.range m).filter fun k : Nat => decide (i < k ∧ (t[i]!)[k]! ≠ 0)).map fun k : Nat => [(i : Int), (k : Int)]
def W (t : List (List Int)) (n m : Nat) : List (List Int) := (List.range m).flatMap fun i => wpr t i n
theorem wpr_len (t : List (List Int)) (i m : Nat) : (wpr t i m).length ≤ m := by
  unfold wpr; rw [List.length_map]; exact Nat.le_trans (List.length_filter_le _ _) (by simp)
theorem W_step (t : List (List Int)) (n m : Nat) : W t n (m + 1) = W t n m ++ wpr t m n := by
  unfold W; rw [List.range_succ, List.flatMap_append]; simp
theorem W_len (t : List (List Int)) (n : Nat) (h : n ≤ 7) : ∀ m, (W t n m).length ≤ 7 * m
  | 0 => by simp [W]
  | m + 1 => by
    rw [W_step, List.length_append]
    have := W_len t n h m
    have := wpr_len t m n
    omega
theorem wpr_start (t : List (List Int)) (i m : Nat) (h : m ≤ i + 1) : wpr t i m = [] := by
  unfold wpr
  have : (List.range m).filter (fun k : Nat => decide (i < k ∧ (t[i]!)[k]! ≠ 0)) = [] := by
    rw [List.filter_eq_nil_iff]
    intro k hk
    rw [List.mem_range] at hk
    simp; omega
  rw [this]; rfl
theorem wpr_yes (t : List (List Int)) (i k : Nat) (h : i < k) (h2 : (t[i]!)[k]! ≠ 0) : wpr t i (k + 1) = wpr t i k ++ [[(i : Int), (k : Int)]] := by
  unfold wpr; rw [List.range_succ, List.filter_append, List.map_append]
  have : ([k].filter fun k : Nat => decide (i < k ∧ (t[i]!)[k]! ≠ 0)) = [k] := by rw [List.filter_cons, if_pos (decide_eq_true ⟨h, h2⟩)]; rfl
  rw [this]; rfl
theorem wpr_no (t : List (List Int)) (i k : Nat) (h2 : ¬ (t[i]!)[k]! ≠ 0) : wpr t i (k + 1) = wpr t i k := by
  unfold wpr; rw [List.range_succ, List.filter_append, List.map_append]
  have : ([k].filter fun k : Nat => decide (i < k ∧ (t[i]!)[k]! ≠ 0)) = [] := by rw [List.filter_cons, if_neg (fun h => h2 (of_decide_eq_true h).2)]; rfl
  rw [this]; simp
theorem W_mem {t : List (List Int)} {n : Nat} {p : List Int} (h : p ∈ W t n n) : ∃ a b : Nat, a < b ∧ b < n ∧ p = [(a : Int), (b : Int)] ∧ (t[a]!)[b]! ≠ 0 := by
  obtain ⟨a, _, hp⟩ := List.mem_flatMap.1 h
  obtain ⟨b, hb, rfl⟩ := List.mem_map.1 hp
  rw [List.mem_filter, List.mem_range, decide_eq_true_eq] at hb
  exact ⟨a, b, hb.2.1, hb.1, rfl, hb.2.2⟩
def wpA (n : Int) (l : List Cross) : List (List Int) := W (twA n l) (twA n l).length (twA n l).length
theorem wp_inner {t : List (List Int)} {n i : Nat} {X : List (List Int)} {k : Int} (hi : i < n) (hk : (i : Int) < k) (hkn : k < n) (h2 : (t[i]!)[k.toNat]! ≠ 0) : X ++ wpr t i k.toNat ++ [[(i : Int), k]] = X ++ wpr t i (k + 1).toNat := by
  rw [tn1 (by omega), wpr_yes t i _ (by omega) h2, List.append_assoc]
  have : ((k.toNat : Nat) : Int) = k := by omega
  rw [this]
theorem implWP_ok {n : Int} {l : List Cross} {Q : List (List Int) → Prop} (h : Q (wpA n l)) : m_impl_WoundPairs n l Q := by
  refine implCO_ok ⟨fun hc => ?_, fun hc => ?_⟩
  · unfold wpA twA at h; rw [if_neg hc] at h; exact h
  · have hc := Classical.not_not.1 hc
    unfold wpA twA at h; rw [if_pos hc] at h
    obtain ⟨h1, h2, _⟩ := co_yes hc
    have ht := tw_tb hc l.length (Nat.le_refl _)
    have hl : (twT n l).length = n.toNat := ht.len
    rw [hl] at h
    refine twists_ok hc ⟨fun x i => 0 ≤ i ∧ i ≤ n ∧ x = W (twT n l) n.toNat i.toNat, fun x i => (n - i).toNat, ⟨by omega, by omega, rfl⟩, ?_⟩
    rintro x i ⟨g0, g1, rfl⟩
    refine ⟨fun hb => ⟨by omega, ?_⟩, fun hb => ?_⟩
    · have hr := ht.row i.toNat (by omega)
      have hw := W_len (twT n l) n.toNat (by omega) i.toNat
      refine ⟨fun x k => i + 1 ≤ k ∧ k ≤ n ∧ x = W (twT n l) n.toNat i.toNat ++ wpr (twT n l) i.toNat k.toNat, fun x k => (n - k).toNat, ⟨by omega, by omega, by rw [wpr_start _ _ _ (by omega)]; simp⟩, ?_⟩
      rintro x k ⟨k0, k1, rfl⟩
      have hw2 := wpr_len (twT n l) i.toNat k.toNat
      refine ⟨fun hk => ⟨⟨g0, by omega⟩, ⟨by omega, by show k < _; rw [show (twT n l)[i.toNat]! = (tw n l l.length)[i.toNat]! from rfl, hr]; omega⟩, fun hz => ⟨by rw [List.length_append]; omega, by omega, ⟨by omega, by omega, ?_⟩, (by dsimp only; omega)⟩, fun hz => ⟨by omega, ⟨by omega, by omega, ?_⟩, (by dsimp only; omega)⟩⟩, fun hk => ⟨by omega, ⟨by omega, by omega, ?_⟩, (by dsimp only; omega)⟩⟩
      · have := wp_inner (X := W (twT n l) n.toNat i.toNat) (n := n.toNat) (i := i.toNat) (k := k) (by omega) (by omega) (by omega) hz
        rw [← this]
        have e : ((i.toNat : Nat) : Int) = i := by omega
        rw [e]
      · rw [tn1 (by omega), wpr_no _ _ _ hz]
      · have e : k.toNat = n.toNat := by omega
        rw [tn1 g0, W_step, e]
    · have e : i.toNat = n.toNat := by omega
      show Q (W (twT n l) n.toNat i.toNat)
      rw [e]; exact h
/- the least undoing -/
def gT (t : List (List Int)) (i k : Nat) : Int := max ((t[i]!)[k]!) (-((t[i]!)[k]!))
def luA (n : Int) (l : List Cross) : Int := if crossesOk n l = true then sumTo (fun i => sumTo (gT (twT n l) i) i) n.toNat else -1
theorem gT_bd {n : Nat} {m : Int} {t : List (List Int)} (ht : TB n m t) {i k : Nat} (hi : i < n) (hk : k < n) : 0 ≤ gT t i k ∧ gT t i k ≤ m := by
  have := ht.bd i k hi hk
  unfold gT; omega
theorem tri (g : Nat → Nat → Int) : ∀ n, sumTo (fun i => sumTo (fun k => if i < k then g i k else 0) n) n = sumTo (fun k => sumTo (fun i => g i k) k) n
  | 0 => rfl
  | n + 1 => by
    simp only [sumTo]
    rw [← tri g n, sumTo_add (fun i => sumTo (fun k => if i < k then g i k else 0) n) (fun i => if i < n then g i n else 0) n]
    have e1 : sumTo (fun k => if n < k then g n k else 0) n = 0 := sumTo_zero fun k hk => if_neg (by omega)
    have e2 : sumTo (fun i => if i < n then g i n else 0) n = sumTo (fun i => g i n) n := sumTo_congr fun i hi => if_pos hi
    rw [e1, e2, if_neg (by omega)]; omega
theorem implLU_ok {n : Int} {l : List Cross} {Q : Int → Prop} (h : Q (luA n l)) : m_impl_LeastUndoing n l Q := by
  refine implCO_ok ⟨fun hc => ?_, fun hc => ?_⟩
  · unfold luA at h; rw [if_neg hc] at h; exact h
  · have hc := Classical.not_not.1 hc
    unfold luA at h; rw [if_pos hc] at h
    obtain ⟨h1, h2, h3, _⟩ := co_yes hc
    have ht := tw_tb hc l.length (Nat.le_refl _)
    have hsym : ∀ a b, gT (twT n l) a b = gT (twT n l) b a := fun a b => by unfold gT twT; rw [tw_sym hc l.length (Nat.le_refl _) a b]
    refine twists_ok hc ?_
    have hl : (twT n l).length = n.toNat := ht.len
    have hr : ∀ i, i < n.toNat → ((twT n l)[i]!).length = n.toNat := ht.row
    have hg : ∀ i k, i < n.toNat → k < n.toNat → 0 ≤ gT (twT n l) i k ∧ gT (twT n l) i k ≤ 40 := fun i k hi hk => by have := gT_bd ht hi hk; unfold twT; omega
    generalize twT n l = t at h hl hr hg hsym ⊢
    have eS : sumTo (fun i => sumTo (gT t i) i) n.toNat = sumTo (fun i => sumTo (fun k => if i < k then gT t i k else 0) n.toNat) n.toNat := by
      rw [tri]; exact sumTo_congr fun k _ => sumTo_congr fun i _ => hsym k i
    rw [eS] at h
    have hin : ∀ i m, i < n.toNat → m ≤ n.toNat → 0 ≤ sumTo (fun k => if i < k then gT t i k else 0) m ∧ sumTo (fun k => if i < k then gT t i k else 0) m ≤ 40 * (m : Int) := fun i m hi hm => sumTo_bd fun k hk => by
      have := hg i k hi (by omega)
      split <;> omega
    have hout : ∀ m, m ≤ n.toNat → 0 ≤ sumTo (fun i => sumTo (fun k => if i < k then gT t i k else 0) n.toNat) m ∧ sumTo (fun i => sumTo (fun k => if i < k then gT t i k else 0) n.toNat) m ≤ 280 * (m : Int) := fun m hm => sumTo_bd fun i hi => by have := hin i n.toNat (by omega) (Nat.le_refl _); omega
    refine ⟨fun v i => 0 ≤ i ∧ i ≤ n ∧ v = sumTo (fun i => sumTo (fun k => if i < k then gT t i k else 0) n.toNat) i.toNat, fun v i => (n - i).toNat, ⟨by omega, by omega, rfl⟩, ?_⟩
    rintro v i ⟨g0, g1, rfl⟩
    refine ⟨fun hb => ⟨by omega, ?_⟩, fun hb => ?_⟩
    · have hO := hout i.toNat (by omega)
      refine ⟨fun v k => i + 1 ≤ k ∧ k ≤ n ∧ v = sumTo (fun i => sumTo (fun k => if i < k then gT t i k else 0) n.toNat) i.toNat + sumTo (fun k => if i.toNat < k then gT t i.toNat k else 0) k.toNat, fun v k => (n - k).toNat, ⟨by omega, by omega, ?_⟩, ?_⟩
      · have : sumTo (fun k => if i.toNat < k then gT t i.toNat k else 0) (i + 1).toNat = 0 := sumTo_zero fun k hk => if_neg (by omega)
        rw [this]; omega
      · rintro v k ⟨k0, k1, rfl⟩
        have hI := hin i.toNat k.toNat (by omega) (by omega)
        refine ⟨fun hk => ?_, fun hk => ⟨by omega, ⟨by omega, by omega, ?_⟩, (by dsimp only; omega)⟩⟩
        · have hG := hg i.toNat k.toNat (by omega) (by omega)
          have hG' : gT t i.toNat k.toNat = max ((t[i.toNat]!)[k.toNat]!) (-((t[i.toNat]!)[k.toNat]!)) := rfl
          refine ⟨⟨g0, by omega⟩, ⟨by omega, by rw [hr _ (by omega)]; omega⟩, by omega, by omega, by omega, ⟨by omega, by omega, ?_⟩, (by dsimp only; omega)⟩
          rw [tn1 (by omega)]; simp only [sumTo]; rw [if_pos (by omega), hG']; omega
        · have e : k.toNat = n.toNat := by omega
          rw [tn1 g0, e]; rfl
    · have e : i.toNat = n.toNat := by omega
      show Q (sumTo (fun i => sumTo (fun k => if i < k then gT t i k else 0) n.toNat) i.toNat)
      rw [e]; exact h

/- one twist -/
def toA (n : Int) (l : List Cross) (i k : Int) : Int := if crossesOk n l = true ∧ 0 ≤ i ∧ i ≤ n - 1 ∧ 0 ≤ k ∧ k ≤ n - 1 then ((twT n l)[i.toNat]!)[k.toNat]! else 0
theorem toA_bd (n : Int) (l : List Cross) (i k : Int) : -40 ≤ toA n l i k ∧ toA n l i k ≤ 40 := by
  unfold toA
  by_cases hc : crossesOk n l = true ∧ 0 ≤ i ∧ i ≤ n - 1 ∧ 0 ≤ k ∧ k ≤ n - 1
  · rw [if_pos hc]
    obtain ⟨h1, h2, h3, _⟩ := co_yes hc.1
    have := (tw_tb hc.1 l.length (Nat.le_refl _)).bd i.toNat k.toNat (by omega) (by omega)
    unfold twT; omega
  · rw [if_neg hc]; omega
theorem implTO_ok {n : Int} {l : List Cross} {i k : Int} {Q : Int → Prop} (h : Q (toA n l i k)) : m_impl_TwistOf n l i k Q := by
  refine implCO_ok ⟨fun hc => ?_, decide (0 ≤ i ∧ i ≤ n - 1), fun _ => within_ok rfl, fun hc => ?_, decide (0 ≤ k ∧ k ≤ n - 1), fun _ => within_ok rfl, fun hc => ?_, fun hc => ?_⟩
  · obtain ⟨h1, h2, _⟩ := co_yes (Classical.not_not.1 hc); omega
  · obtain ⟨h1, h2, _⟩ := co_yes (Classical.not_not.1 (fun h => hc (.inl h))); omega
  · have : toA n l i k = 0 := by
      unfold toA
      by_cases hx : crossesOk n l = true ∧ 0 ≤ i ∧ i ≤ n - 1 ∧ 0 ≤ k ∧ k ≤ n - 1
      · rw [if_pos hx]
        simp only [decide_eq_true_eq] at hc
        have hik : i = k := by
          rcases hc with ((hc | hc) | hc) | hc
          · exact absurd hx.1 hc
          · omega
          · omega
          · exact hc
        subst hik
        obtain ⟨h1, h2, _⟩ := co_yes hx.1
        exact tw_diag hx.1 l.length (Nat.le_refl _) i.toNat (by omega)
      · rw [if_neg hx]
    rw [this] at h; exact h
  · have h0 : crossesOk n l = true := Classical.not_not.1 (fun h => hc (.inl (.inl (.inl h))))
    have h1 : 0 ≤ i ∧ i ≤ n - 1 := of_decide_eq_true (Classical.not_not.1 (fun h => hc (.inl (.inl (.inr h)))))
    have h2 : 0 ≤ k ∧ k ≤ n - 1 := of_decide_eq_true (Classical.not_not.1 (fun h => hc (.inl (.inr h))))
    have ht := tw_tb h0 l.length (Nat.le_refl _)
    have hl : (twT n l).length = n.toNat := ht.len
    have hr : ((twT n l)[i.toNat]!).length = n.toNat := ht.row i.toNat (by omega)
    refine twists_ok h0 ⟨⟨h1.1, by omega⟩, ⟨h2.1, by rw [hr]; omega⟩, ?_⟩
    unfold toA at h; rw [if_pos ⟨h0, h1.1, h1.2, h2.1, h2.2⟩] at h; exact h
/- untwisted -/
def home (n : Int) (l : List Cross) : Bool := crossesOk n l && decide (ord n l = upL n)
theorem upL_pm' {n : Int} : (upL n).length = n.toNat := upL_len n
theorem inv_iff {n : Int} {l : List Cross} (hc : crossesOk n l = true) : inv (ord n l) = 0 ↔ ord n l = upL n := by
  refine ⟨fun h => ?_, fun h => by rw [h]; exact inv_up n⟩
  have := inv0 (ord_pm' hc) h
  obtain ⟨h1, _⟩ := co_yes hc
  have e : ((n.toNat : Nat) : Int) = n := by omega
  rwa [e] at this
def iuA (n : Int) (l : List Cross) : Bool := home n l && decide ((wpA n l).length = 0)
theorem implIU_ok {n : Int} {l : List Cross} {Q : Bool → Prop} (h : Q (iuA n l)) : m_impl_IsUntwisted n l Q := by
  refine implCO_ok ⟨decide (ordA n l = upL n), fun hc => isHome_ok (by have := co_yes hc; omega) rfl, fun hc => implWP_ok ?_, fun hc => ?_⟩
  · have e : iuA n l = decide (((wpA n l).length : Int) = 0) := by
      have h2 := of_decide_eq_true hc.2
      unfold ordA at h2; rw [if_pos hc.1] at h2
      unfold iuA home; rw [hc.1, decide_eq_true h2]; simp
    rw [e] at h; exact h
  · have e : iuA n l = false := by
      unfold iuA home
      by_cases h0 : crossesOk n l = true
      · have : ¬ ord n l = upL n := fun e => hc ⟨h0, decide_eq_true (by unfold ordA; rw [if_pos h0]; exact e)⟩
        rw [decide_eq_false this]; simp
      · cases hx : crossesOk n l
        · rfl
        · exact absurd hx h0
    rw [e] at h; exact h
end Go.Proofs.Ytcgkcoogaieolaa
