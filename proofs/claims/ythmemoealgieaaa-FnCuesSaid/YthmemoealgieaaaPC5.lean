/- Plain laws over the models: starts, the play's time, latest starts. No program, no statement of the claim. -/
import Derived.Test.YthmemoealgieaaaPC4
namespace Go.Proofs.Ythmemoealgieaaa

theorem ri_ge {m : Int} {l : List Int} (h : ∀ j, j < l.length → riP m l j) : ∀ j, j < l.length → (j : Int) ≤ l[j]!
  | 0, hj => by have := (h 0 hj).1; omega
  | j + 1, hj => by
    have h1 := ri_ge h j (by omega)
    have h2 := (h (j + 1) hj).2.2 (by omega)
    simp only [Nat.add_sub_cancel] at h2
    omega
theorem ri_len {m : Int} {l : List Int} (h : riB m l = true) : l.length = 0 ∨ (l.length : Int) ≤ m + 1 := by
  have h' := riB_iff.1 h
  by_cases h0 : l.length = 0
  · exact .inl h0
  · have := ri_ge h' (l.length - 1) (by omega)
    have := (h' (l.length - 1) (by omega)).2.1
    omega
theorem after_len {l : List CueC} (hok : cuesOk l = true) {i : Nat} (hi : i < l.length) : (l[i]!).2.1.length ≤ 12 := by
  have := ri_len (cuC_iff.1 ((cuesOk_iff.1 hok).2.2.1 i hi)).2.1
  have := co_size hok
  omega
theorem ticks_rng {l : List CueC} (hok : cuesOk l = true) {i : Nat} (hi : i < l.length) : 1 ≤ (l[i]!).1 ∧ (l[i]!).1 ≤ 50 := (cuC_iff.1 ((cuesOk_iff.1 hok).2.2.1 i hi)).1

/-- n numbers from -m to M -/
structure Bd (n : Nat) (m M : Int) (x : List Int) : Prop where
  len : x.length = n
  rng : ∀ r, r < n → -m ≤ x[r]! ∧ x[r]! ≤ M
def raise (l : List CueC) (i : Nat) (x : List Int) (k : Int) : List Int := x.set i (max x[i]! (x[k.toNat]! + (l[k.toNat]!).1))
theorem Bd.raise {l : List CueC} {n i : Nat} {m M k : Int} {x : List Int} (h : Bd n m M x) (hi : i < n) (hk : k.toNat < n) (ht : 1 ≤ (l[k.toNat]!).1 ∧ (l[k.toNat]!).1 ≤ 50) : Bd n m (M + 50) (raise l i x k) := by
  refine ⟨by unfold Go.Proofs.Ythmemoealgieaaa.raise; rw [List.length_set]; exact h.len, fun r hr => ?_⟩
  have h1 := h.rng i hi
  have h2 := h.rng _ hk
  have h3 := h.rng r hr
  unfold Go.Proofs.Ythmemoealgieaaa.raise
  rw [gset _ _ _ (by rw [h.len]; exact hi)]
  split <;> omega
def raises (l : List CueC) (i : Nat) (x : List Int) (ks : List Int) : List Int := ks.foldl (raise l i) x
theorem raises_step {l : List CueC} {i j : Nat} {x ks : List Int} (hj : j < ks.length) : raises l i x (ks.take (j + 1)) = raise l i (raises l i x (ks.take j)) ks[j]! := by
  unfold raises; rw [take_snoc! ks j hj, List.foldl_append]; rfl
/-- starts behind the first m cues of the order -/
def stS (l : List CueC) : Nat → List Int
  | 0 => List.replicate l.length 0
  | m + 1 => raises l ((ordL l)[m]!).toNat (stS l m) (l[((ordL l)[m]!).toNat]!).2.1
theorem ord_get {l : List CueC} (hok : cuesOk l = true) {m : Nat} (hm : m < l.length) : 0 ≤ (ordL l)[m]! ∧ (ordL l)[m]! < (l.length : Int) := by
  obtain ⟨d, ho⟩ := ordL_ord hok
  exact ho.rng _ (mem_get.2 ⟨m, by rw [ordL_len hok]; exact hm, rfl⟩)
theorem raises_bd {l : List CueC} (hok : cuesOk l = true) {i : Nat} {m M : Int} {x ks : List Int} (h : Bd l.length m M x) (hi : i < l.length) (hk : ∀ j, j < ks.length → 0 ≤ ks[j]! ∧ ks[j]! < (l.length : Int)) : ∀ j, j ≤ ks.length → Bd l.length m (M + 50 * (j : Int)) (raises l i x (ks.take j))
  | 0, _ => by simpa [raises] using h
  | j + 1, hj => by
    have h1 := raises_bd hok h hi hk j (by omega)
    have h2 := hk j (by omega)
    rw [raises_step (by omega)]
    have := h1.raise (l := l) hi (k := ks[j]!) (by omega) (ticks_rng hok (by omega))
    rwa [show M + 50 * ((j + 1 : Nat) : Int) = M + 50 * (j : Int) + 50 by omega]
theorem Bd.wide {n : Nat} {m M m' M' : Int} {x : List Int} (h : Bd n m M x) (h1 : m ≤ m') (h2 : M ≤ M') : Bd n m' M' x := ⟨h.len, fun r hr => by have := h.rng r hr; omega⟩
theorem stS_bd {l : List CueC} (hok : cuesOk l = true) : ∀ m, m ≤ l.length → Bd l.length 0 (600 * (m : Int)) (stS l m)
  | 0, _ => ⟨by simp [stS], fun r hr => by simp [stS, hr]⟩
  | m + 1, h => by
    have h1 := stS_bd hok m (by omega)
    have h2 := ord_get hok (m := m) (by omega)
    have hi : ((ordL l)[m]!).toNat < l.length := by omega
    have h3 := raises_bd hok h1 hi (after_rng hok hi) _ (Nat.le_refl _)
    rw [List.take_length] at h3
    have := after_len hok hi
    exact h3.wide (by omega) (by omega)
def startsL (l : List CueC) : List Int := if cuesOk l = true then stS l l.length else []
theorem startsL_len {l : List CueC} : (startsL l).length ≤ 12 := by
  unfold startsL
  split
  · rename_i hok
    have := (stS_bd hok l.length (Nat.le_refl _)).len
    have := co_size hok
    omega
  · simp
/- the play's time -/
def ptF (l : List CueC) (s : List Int) : Nat → Int
  | 0 => 0
  | m + 1 => max (ptF l s m) (s[m]! + (l[m]!).1)
theorem ptF_rng {l : List CueC} {s : List Int} (hok : cuesOk l = true) (hb : Bd l.length 0 7200 s) : ∀ m, m ≤ l.length → 0 ≤ ptF l s m ∧ ptF l s m ≤ 7250
  | 0, _ => by simp [ptF]
  | m + 1, h => by
    have h1 := ptF_rng hok hb m (by omega)
    have h2 := hb.rng m (by omega)
    have h3 := ticks_rng hok (i := m) (by omega)
    rw [ptF]; omega
def playT (l : List CueC) : Int := if cuesOk l = true then ptF l (startsL l) l.length else -1
theorem starts_bd {l : List CueC} (hok : cuesOk l = true) : Bd l.length 0 7200 (startsL l) := by
  unfold startsL
  rw [if_pos hok]
  have := co_size hok
  exact (stS_bd hok l.length (Nat.le_refl _)).wide (by omega) (by omega)
theorem playT_rng (l : List CueC) : -1 ≤ playT l ∧ playT l ≤ 7250 ∧ (cuesOk l = true ↔ 0 ≤ playT l) := by
  unfold playT
  by_cases hok : cuesOk l = true
  · rw [if_pos hok]
    have := ptF_rng hok (starts_bd hok) l.length (Nat.le_refl _)
    exact ⟨by omega, by omega, fun _ => this.1, fun _ => hok⟩
  · rw [if_neg hok]
    exact ⟨by omega, by omega, fun h => absurd h hok, fun h => absurd h (by omega)⟩
/- latest starts -/
def lower (l : List CueC) (i : Nat) (x : List Int) (k : Int) : List Int := x.set k.toNat (min x[k.toNat]! (x[i]! - (l[k.toNat]!).1))
def lowers (l : List CueC) (i : Nat) (x : List Int) (ks : List Int) : List Int := ks.foldl (lower l i) x
theorem lowers_step {l : List CueC} {i j : Nat} {x ks : List Int} (hj : j < ks.length) : lowers l i x (ks.take (j + 1)) = lower l i (lowers l i x (ks.take j)) ks[j]! := by
  unfold lowers; rw [take_snoc! ks j hj, List.foldl_append]; rfl
theorem Bd.lower {l : List CueC} {n i : Nat} {m M k : Int} {x : List Int} (h : Bd n m M x) (hi : i < n) (hk : k.toNat < n) (ht : 1 ≤ (l[k.toNat]!).1 ∧ (l[k.toNat]!).1 ≤ 50) : Bd n (m + 50) M (lower l i x k) := by
  refine ⟨by unfold Go.Proofs.Ythmemoealgieaaa.lower; rw [List.length_set]; exact h.len, fun r hr => ?_⟩
  have h1 := h.rng i hi
  have h2 := h.rng _ hk
  have h3 := h.rng r hr
  unfold Go.Proofs.Ythmemoealgieaaa.lower
  rw [gset _ _ _ (by rw [h.len]; exact hk)]
  split <;> omega
theorem lowers_bd {l : List CueC} (hok : cuesOk l = true) {i : Nat} {m M : Int} {x ks : List Int} (h : Bd l.length m M x) (hi : i < l.length) (hk : ∀ j, j < ks.length → 0 ≤ ks[j]! ∧ ks[j]! < (l.length : Int)) : ∀ j, j ≤ ks.length → Bd l.length (m + 50 * (j : Int)) M (lowers l i x (ks.take j))
  | 0, _ => by simpa [lowers] using h
  | j + 1, hj => by
    have h1 := lowers_bd hok h hi hk j (by omega)
    have h2 := hk j (by omega)
    rw [lowers_step (by omega)]
    have := h1.lower (l := l) hi (k := ks[j]!) (by omega) (ticks_rng hok (by omega))
    rwa [show m + 50 * ((j + 1 : Nat) : Int) = m + 50 * (j : Int) + 50 by omega]
/-- latest starts behind the last m cues of the order -/
def ltS (l : List CueC) : Nat → List Int
  | 0 => l.map fun c => playT l - c.1
  | m + 1 => lowers l ((ordL l)[l.length - 1 - m]!).toNat (ltS l m) (l[((ordL l)[l.length - 1 - m]!).toNat]!).2.1
theorem ltS_bd {l : List CueC} (hok : cuesOk l = true) : ∀ m, m ≤ l.length → Bd l.length (100 + 600 * (m : Int)) 7250 (ltS l m)
  | 0, _ => ⟨by simp [ltS], fun r hr => by
    have h1 := playT_rng l
    have h2 := ticks_rng hok hr
    have : (ltS l 0)[r]! = playT l - (l[r]!).1 := by simp [ltS, hr]
    rw [this]; omega⟩
  | m + 1, h => by
    have h1 := ltS_bd hok m (by omega)
    have h2 := ord_get hok (m := l.length - 1 - m) (by omega)
    have hi : ((ordL l)[l.length - 1 - m]!).toNat < l.length := by omega
    have h3 := lowers_bd hok h1 hi (after_rng hok hi) _ (Nat.le_refl _)
    rw [List.take_length] at h3
    have := after_len hok hi
    exact h3.wide (by omega) (by omega)
def latestL (l : List CueC) : List Int := if cuesOk l = true then ltS l l.length else []
theorem latestL_len {l : List CueC} : (latestL l).length ≤ 12 := by
  unfold latestL
  split
  · rename_i hok
    have := (ltS_bd hok l.length (Nat.le_refl _)).len
    have := co_size hok
    omega
  · simp
theorem base_step {l : List CueC} {P : Int} {i : Int} (h0 : 0 ≤ i) (hi : i < (l.length : Int)) : (l.map fun c => P - c.1).take i.toNat ++ [P - (l[i.toNat]!).1] = (l.map fun c => P - c.1).take (i + 1).toNat := by
  rw [tn1 h0, take_snoc! _ _ (by simp; omega)]
  congr 2
  simp [show i.toNat < l.length by omega]
theorem latest_loop {l : List CueC} (hok : cuesOk l = true) {i : Int} (g0 : -1 ≤ i) (g1 : i < (l.length : Int)) (h : 0 ≤ i) : (ordL l)[l.length - 1 - ((l.length : Int) - 1 - i).toNat]! = (ordL l)[i.toNat]! := by
  congr 1; omega
end Go.Proofs.Ythmemoealgieaaa
