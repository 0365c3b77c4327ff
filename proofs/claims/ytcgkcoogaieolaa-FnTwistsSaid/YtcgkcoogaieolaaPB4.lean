/- Plain laws over the models: inversions and sorting by neighbours. No program, no statement of the claim. -/
import Derived.Test.YtcgkcoogaieolaaPB3
namespace Go.Proofs.Ytcgkcoogaieolaa

def sumTo (f : Nat → Int) : Nat → Int
  | 0 => 0
  | m + 1 => sumTo f m + f m
theorem sumTo_congr {f g : Nat → Int} : ∀ {m : Nat}, (∀ k, k < m → f k = g k) → sumTo f m = sumTo g m
  | 0, _ => rfl
  | m + 1, h => by simp only [sumTo]; rw [sumTo_congr (fun k hk => h k (by omega)), h m (by omega)]
theorem sumTo_add (f g : Nat → Int) : ∀ m, sumTo (fun k => f k + g k) m = sumTo f m + sumTo g m
  | 0 => rfl
  | m + 1 => by simp only [sumTo]; rw [sumTo_add f g m]; omega
theorem sumTo_zero {f : Nat → Int} : ∀ {m : Nat}, (∀ k, k < m → f k = 0) → sumTo f m = 0
  | 0, _ => rfl
  | m + 1, h => by simp only [sumTo]; rw [sumTo_zero (fun k hk => h k (by omega)), h m (by omega)]; rfl
theorem sumTo_bd {f : Nat → Int} {c : Int} : ∀ {m : Nat}, (∀ k, k < m → 0 ≤ f k ∧ f k ≤ c) → 0 ≤ sumTo f m ∧ sumTo f m ≤ c * (m : Int)
  | 0, _ => by simp [sumTo]
  | m + 1, h => by
    have h1 := sumTo_bd (m := m) (fun k hk => h k (by omega))
    have h2 := h m (by omega)
    have e : c * ((m + 1 : Nat) : Int) = c * (m : Int) + c := by rw [Int.natCast_add, Int.mul_add]; simp
    simp only [sumTo]; rw [e]; omega
theorem sumTo_eq0 {f : Nat → Int} : ∀ {m : Nat}, (∀ k, k < m → 0 ≤ f k) → sumTo f m = 0 → ∀ k, k < m → f k = 0
  | 0, _, _ => fun k hk => absurd hk (by omega)
  | m + 1, h, h0 => by
    simp only [sumTo] at h0
    have h1 : 0 ≤ sumTo f m := by
      clear h0
      have : ∀ j, j ≤ m → 0 ≤ sumTo f j := by
        intro j
        induction j with
        | zero => intro _; simp [sumTo]
        | succ j ih => intro hj; have := ih (by omega); have := h j (by omega); simp only [sumTo]; omega
      exact this m (Nat.le_refl _)
    have h2 := h m (by omega)
    intro k hk
    by_cases hkm : k = m
    · subst hkm; omega
    · exact sumTo_eq0 (m := m) (fun k hk => h k (by omega)) (by omega) k (by omega)
theorem sumTo_tau {f : Nat → Int} {j : Nat} : ∀ {m : Nat}, j + 1 < m → sumTo (fun i => f (tau j i)) m = sumTo f m
  | 0, h => absurd h (by omega)
  | m + 1, h => by
    by_cases hm : j + 1 < m
    · simp only [sumTo]
      rw [sumTo_tau hm]
      have : tau j m = m := by unfold tau; rw [if_neg (by omega), if_neg (by omega)]
      rw [this]
    · have e : m = j + 1 := by omega
      subst e
      simp only [sumTo]
      have e1 : tau j (j + 1) = j := by unfold tau; rw [if_pos rfl]
      have e2 : tau j j = j + 1 := by unfold tau; rw [if_neg (by omega), if_pos rfl]
      have e3 : sumTo (fun i => f (tau j i)) j = sumTo f j := sumTo_congr fun k hk => by
        have : tau j k = k := by unfold tau; rw [if_neg (by omega), if_neg (by omega)]
        rw [this]
      rw [e1, e2, e3]; omega
theorem sumTo_two {f g : Nat → Int} {j : Nat} {d : Int} (h : f j + f (j + 1) + d = g j + g (j + 1)) (he : ∀ k, k ≠ j → k ≠ j + 1 → f k = g k) : ∀ {m : Nat}, j + 1 < m → sumTo f m + d = sumTo g m
  | 0, hm => absurd hm (by omega)
  | m + 1, hm => by
    by_cases hm2 : j + 1 < m
    · simp only [sumTo]
      have := sumTo_two h he hm2
      have := he m (by omega) (by omega)
      omega
    · have e : m = j + 1 := by omega
      subst e
      simp only [sumTo]
      have e3 : sumTo f j = sumTo g j := sumTo_congr fun k hk => he k (by omega) (by omega)
      omega

/- inversions -/
def gt1 (a b : Int) : Int := if a > b then 1 else 0
theorem gt1_bd (a b : Int) : 0 ≤ gt1 a b ∧ gt1 a b ≤ 1 := by unfold gt1; split <;> omega
def cI (o : List Int) (k : Nat) : Int := sumTo (fun i => gt1 o[i]! o[k]!) k
def inv (o : List Int) : Int := sumTo (cI o) o.length
theorem cI_bd (o : List Int) (k : Nat) : 0 ≤ cI o k ∧ cI o k ≤ (k : Int) := by
  have := sumTo_bd (f := fun i => gt1 o[i]! o[k]!) (c := 1) (m := k) fun i _ => gt1_bd _ _
  unfold cI; omega
theorem inv_bd (o : List Int) (m : Nat) (h : m ≤ 7) : 0 ≤ sumTo (cI o) m ∧ sumTo (cI o) m ≤ 49 := by
  have := sumTo_bd (f := cI o) (c := 7) (m := m) fun k hk => by have := cI_bd o k; omega
  omega
theorem inv_ok {n : Nat} {o : List Int} {Q : Int → Prop} (hp : Pm n o) (h1 : 1 ≤ n) (h7 : n ≤ 7) (h : Q (inv o)) : m_spec_CountInversions o Q := by
  have hl := hp.len
  refine specOO_ok hp h1 h7 ⟨fun hx => absurd rfl hx, fun _ => ⟨fun v i => 0 ≤ i ∧ i ≤ o.length ∧ v = sumTo (cI o) i.toNat, fun v i => (o.length - i).toNat, ⟨by omega, by omega, rfl⟩, ?_⟩⟩
  rintro v i ⟨g0, g1, rfl⟩
  refine ⟨fun hb => ?_, fun hb => ?_⟩
  · have hbd := inv_bd o i.toNat (by omega)
    refine ⟨fun v k => 0 ≤ k ∧ k ≤ i ∧ v = sumTo (cI o) i.toNat + sumTo (fun a => gt1 o[a]! o[i.toNat]!) k.toNat, fun v k => (i - k).toNat, ⟨by omega, by omega, by simp [sumTo]⟩, ?_⟩
    rintro v k ⟨k0, k1, rfl⟩
    have hb2 := sumTo_bd (f := fun a => gt1 o[a]! o[i.toNat]!) (c := 1) (m := k.toNat) fun a _ => gt1_bd _ _
    refine ⟨fun hk => ⟨⟨k0, by omega⟩, ⟨g0, hb⟩, fun hg => ⟨by omega, by omega, ⟨by omega, by omega, ?_⟩, (by dsimp only; omega)⟩, fun hg => ⟨by omega, ⟨by omega, by omega, ?_⟩, (by dsimp only; omega)⟩⟩, fun hk => ⟨by omega, ⟨by omega, by omega, ?_⟩, (by dsimp only; omega)⟩⟩
    · rw [tn1 k0]; simp only [sumTo]
      have : gt1 o[k.toNat]! o[i.toNat]! = 1 := by unfold gt1; rw [if_pos hg]
      omega
    · rw [tn1 k0]; simp only [sumTo]
      have : gt1 o[k.toNat]! o[i.toNat]! = 0 := by unfold gt1; rw [if_neg hg]
      omega
    · have e : k.toNat = i.toNat := by omega
      rw [tn1 g0, e]; rfl
  · have e : i.toNat = o.length := by omega
    show Q (sumTo (cI o) i.toNat)
    rw [e]; exact h
theorem inv0 {n : Nat} {o : List Int} (hp : Pm n o) (h : inv o = 0) : o = upL n := by
  have hl := hp.len
  have h1 : ∀ i k, i < k → k < n → o[i]! < o[k]! := by
    intro i k hik hk
    have h2 := sumTo_eq0 (f := cI o) (m := o.length) (fun k _ => (cI_bd o k).1) h k (by omega)
    have h3 := sumTo_eq0 (f := fun i => gt1 o[i]! o[k]!) (m := k) (fun i _ => (gt1_bd _ _).1) h2 i hik
    have h4 : ¬ o[i]! > o[k]! := by
      intro hg
      simp only [gt1, if_pos hg] at h3; omega
    have h5 : o[i]! ≠ o[k]! := fun e => by have := hp.inj i k (by omega) hk e; omega
    omega
  have h2 : ∀ d i, i + d < n → o[i]! + d ≤ o[i + d]! := by
    intro d
    induction d with
    | zero => intro i _; simp
    | succ d ih =>
      intro i hd
      have a1 := ih i (by omega)
      have a2 := h1 (i + d) (i + d + 1) (by omega) (by omega)
      have e : i + (d + 1) = i + d + 1 := by omega
      rw [e]; omega
  apply List.ext_getElem (by rw [upL_len]; omega)
  intro i hi hi2
  have e1 : o[i]! = o[i] := by simp [hi]
  have e2 : (upL n)[i] = (i : Int) := by simp [upL]
  rw [e2, ← e1]
  have a1 := h2 i 0 (by omega)
  have a2 := hp.rng 0 (by omega)
  have a3 := h2 (n - 1 - i) i (by omega)
  have a4 := hp.rng (n - 1) (by omega)
  have e3 : i + (n - 1 - i) = n - 1 := by omega
  rw [e3] at a3
  simp only [Nat.zero_add] at a1
  omega
theorem inv_up (n : Int) : inv (upL n) = 0 := by
  unfold inv
  refine sumTo_zero fun k hk => sumTo_zero fun i hi => ?_
  rw [upL_len] at hk
  rw [upL_get n i (by omega), upL_get n k hk]
  unfold gt1; rw [if_neg (by omega)]
theorem inv_sw {n : Nat} {o : List Int} {k : Int} (hp : Pm n o) (h0 : 0 ≤ k) (h1 : k + 1 < n) (hd : o[k.toNat]! > o[k.toNat + 1]!) : inv (sw o k) + 1 = inv o := by
  have hl : k + 1 < o.length := by rw [hp.len]; exact h1
  unfold inv
  rw [sw_len]
  have hg : ∀ i, (sw o k)[i]! = o[tau k.toNat i]! := fun i => sw_get h0 hl
  have t1 : tau k.toNat (k.toNat + 1) = k.toNat := by unfold tau; rw [if_pos rfl]
  have t2 : tau k.toNat k.toNat = k.toNat + 1 := by unfold tau; rw [if_neg (by omega), if_pos rfl]
  have t3 : ∀ i, i < k.toNat → tau k.toNat i = i := fun i hi => by unfold tau; rw [if_neg (by omega), if_neg (by omega)]
  have t4 : ∀ i, k.toNat + 1 < i → tau k.toNat i = i := fun i hi => by unfold tau; rw [if_neg (by omega), if_neg (by omega)]
  refine sumTo_two (j := k.toNat) ?_ ?_ (by omega)
  · have c1 : cI (sw o k) k.toNat = sumTo (fun i => gt1 o[i]! o[k.toNat + 1]!) k.toNat := by
      unfold cI; refine sumTo_congr fun i hi => ?_
      rw [hg, hg, t2, t3 i hi]
    have c2 : cI (sw o k) (k.toNat + 1) = sumTo (fun i => gt1 o[i]! o[k.toNat]!) k.toNat := by
      unfold cI
      simp only [sumTo]
      rw [hg, hg, t1, t2]
      have : gt1 o[k.toNat + 1]! o[k.toNat]! = 0 := by unfold gt1; rw [if_neg (by omega)]
      rw [this, sumTo_congr (g := fun i => gt1 o[i]! o[k.toNat]!) fun i hi => by rw [hg, t3 i hi]]; omega
    have c3 : cI o (k.toNat + 1) = sumTo (fun i => gt1 o[i]! o[k.toNat + 1]!) k.toNat + 1 := by
      unfold cI
      simp only [sumTo]
      have : gt1 o[k.toNat]! o[k.toNat + 1]! = 1 := by unfold gt1; rw [if_pos hd]
      rw [this]
    rw [c1, c2, c3]; unfold cI; omega
  · intro m hm1 hm2
    unfold cI
    by_cases hlt : m < k.toNat
    · refine sumTo_congr fun i hi => ?_
      rw [hg, hg, t3 i (by omega), t3 m hlt]
    · have hgt : k.toNat + 1 < m := by omega
      have e : ∀ i, gt1 (sw o k)[i]! (sw o k)[m]! = (fun i => gt1 o[i]! o[m]!) (tau k.toNat i) := fun i => by rw [hg, hg, t4 m hgt]
      rw [sumTo_congr (g := fun i => (fun i => gt1 o[i]! o[m]!) (tau k.toNat i)) fun i _ => e i]
      exact sumTo_tau (f := fun i => gt1 o[i]! o[m]!) hgt

/- sorting: always the first place where the greater stands before the less -/
def fdF (o : List Int) : Nat → Nat → Nat
  | 0, k => k
  | m + 1, k => if o[k]! > o[k + 1]! then k else fdF o m (k + 1)
def fd (o : List Int) : Nat := fdF o (o.length - 1) 0
def ssF : Nat → List Int → List Int
  | 0, _ => []
  | f + 1, o => (fd o : Int) :: ssF f (sw o (fd o))
def ss (o : List Int) : List Int := ssF (inv o).toNat o
theorem fdF_spec (o : List Int) : ∀ m k, fdF o m k = k + m ∧ (∀ i, k ≤ i → i < k + m → ¬ o[i]! > o[i + 1]!) ∨ (k ≤ fdF o m k ∧ fdF o m k < k + m ∧ o[fdF o m k]! > o[fdF o m k + 1]! ∧ ∀ i, k ≤ i → i < fdF o m k → ¬ o[i]! > o[i + 1]!)
  | 0, k => .inl ⟨rfl, fun i h1 h2 => by omega⟩
  | m + 1, k => by
    unfold fdF
    by_cases h : o[k]! > o[k + 1]!
    · rw [if_pos h]; exact .inr ⟨Nat.le_refl _, by omega, h, fun i h1 h2 => by omega⟩
    · rw [if_neg h]
      rcases fdF_spec o m (k + 1) with ⟨h1, h2⟩ | ⟨h1, h2, h3, h4⟩
      · refine .inl ⟨by omega, fun i g1 g2 => ?_⟩
        by_cases hi : i = k
        · subst hi; exact h
        · exact h2 i (by omega) (by omega)
      · refine .inr ⟨by omega, by omega, h3, fun i g1 g2 => ?_⟩
        by_cases hi : i = k
        · subst hi; exact h
        · exact h4 i (by omega) g2
theorem asc_le {o : List Int} {n : Nat} (h : ∀ i, i + 1 < n → ¬ o[i]! > o[i + 1]!) : ∀ d i, i + d < n → o[i]! ≤ o[i + d]!
  | 0, i, _ => by simp
  | d + 1, i, hd => by
    have a1 := asc_le h d i (by omega)
    have a2 := h (i + d) (by omega)
    have e : i + (d + 1) = i + d + 1 := by omega
    rw [e]; omega
theorem inv_asc {o : List Int} (h : ∀ i, i + 1 < o.length → ¬ o[i]! > o[i + 1]!) : inv o = 0 := by
  unfold inv
  refine sumTo_zero fun k hk => sumTo_zero fun i hi => ?_
  have := asc_le h (k - i) i (by omega)
  have e : i + (k - i) = k := by omega
  rw [e] at this
  unfold gt1; rw [if_neg (by omega)]
theorem fd_spec {n : Nat} {o : List Int} (hp : Pm n o) (h : 0 < inv o) : fd o + 1 < n ∧ o[fd o]! > o[fd o + 1]! ∧ ∀ i, i < fd o → o[i]! < o[i + 1]! := by
  have hl := hp.len
  rcases fdF_spec o (o.length - 1) 0 with ⟨_, h2⟩ | ⟨_, h2, h3, h4⟩
  · have := inv_asc (o := o) fun i hi => h2 i (by omega) (by omega)
    omega
  · have e : fd o = fdF o (o.length - 1) 0 := rfl
    rw [← e] at h2 h3 h4
    refine ⟨by omega, h3, fun i hi => ?_⟩
    have a1 := h4 i (by omega) hi
    have a2 : o[i]! ≠ o[i + 1]! := fun e => by have := hp.inj i (i + 1) (by omega) (by omega) e; omega
    omega
theorem ss_pos {n : Nat} {o : List Int} (hp : Pm n o) (h : 0 < inv o) : ss o = (fd o : Int) :: ss (sw o (fd o)) ∧ Pm n (sw o (fd o)) ∧ inv (sw o (fd o)) + 1 = inv o := by
  obtain ⟨h1, h2, h3⟩ := fd_spec hp h
  have e := inv_sw (k := (fd o : Int)) hp (by omega) (by omega) (by simpa using h2)
  refine ⟨?_, hp.sw (by omega) (by omega), e⟩
  unfold ss
  have : (inv o).toNat = (inv (sw o (fd o))).toNat + 1 := by
    have : 0 ≤ inv (sw o (fd o)) := by omega
    omega
  rw [this]; rfl
theorem ss_zero {o : List Int} (h : inv o = 0) : ss o = [] := by unfold ss; rw [h]; rfl
end Go.Proofs.Ytcgkcoogaieolaa
