/- Plain laws over the models: players, hands, casts. No program, no statement of the claim. -/
import Derived.Test.YtddjkiefadiijaaPD1
namespace Go.Proofs.Ytddjkiefadiijaa

def plB (p : PlayerC) : Bool := riB 6 p.1 && decide (0 ≤ p.2 ∧ p.2 ≤ 2)
theorem plB_iff {p : PlayerC} : plB p = true ↔ riB 6 p.1 = true ∧ 0 ≤ p.2 ∧ p.2 ≤ 2 := by unfold plB; rw [Bool.and_eq_true, decide_eq_true_eq]
def playersOk (l : List PlayerC) : Bool := decide ((∀ i, i < l.length → plB l[i]! = true) ∧ 1 ≤ l.length ∧ l.length ≤ 6)
theorem plO_iff {l : List PlayerC} : playersOk l = true ↔ (∀ i, i < l.length → plB l[i]! = true) ∧ 1 ≤ l.length ∧ l.length ≤ 6 := decide_eq_true_iff
theorem plO_size {l : List PlayerC} (h : playersOk l = true) : 1 ≤ l.length ∧ l.length ≤ 6 := by have := plO_iff.1 h; omega
theorem plO_free {l : List PlayerC} (h : playersOk l = true) {i : Nat} (hi : i < l.length) : 0 ≤ (l[i]!).2 ∧ (l[i]!).2 ≤ 2 := (plB_iff.1 ((plO_iff.1 h).1 i hi)).2
theorem plN_le {l : List PlayerC} (hs : szPl l ≤ 1048576) (i : Nat) (hi : i < l.length) : (l[i]!).1.length ≤ 1048576 := by
  have := sumN_get plN l i hi
  have e : plN l[i]! = (l[i]!).1.length := rfl
  unfold szPl at hs; omega
theorem ri_ge {m : Int} {l : List Int} (h : ∀ j, j < l.length → riP m l j) : ∀ j, j < l.length → (j : Int) ≤ l[j]!
  | 0, hj => by have := (h 0 hj).1; omega
  | j + 1, hj => by
    have h1 := ri_ge h j (by omega)
    have h2 := (h (j + 1) hj).2.2 (by omega)
    simp only [Nat.add_sub_cancel] at h2
    omega
theorem ri_len {m : Int} {l : List Int} (h : riB m l = true) : l.length = 0 ∨ (l.length : Int) ≤ m + 1 := by
  have h' := riB_iff.1 h
  by_cases h0 : l.length = 0
  · exact .inl h0
  · have := ri_ge h' (l.length - 1) (by omega)
    have := (h' (l.length - 1) (by omega)).2.1
    omega
theorem pup_len {l : List Int} (h : riB 6 l = true) : l.length ≤ 7 := by have := ri_len h; omega
theorem specPO_ok {l : List PlayerC} {Q : Bool → Prop} (hl : l.length ≤ 1048576) (hs : szPl l ≤ 1048576) (h : Q (playersOk l)) : m_spec_PlayersOk l Q := by
  refine ⟨fun i => 0 ≤ i ∧ i ≤ l.length ∧ ∀ j, j < i.toNat → plB l[j]! = true, fun i => (l.length - i).toNat, ⟨by omega, by omega, fun j hj => absurd hj (by omega)⟩, ?_⟩
  rintro i ⟨g0, g1, g2⟩
  refine ⟨fun hd => ⟨⟨g0, hd⟩, rising_ok (by have := plN_le hs i.toNat (by omega); omega) ⟨fun _ => ⟨g0, hd⟩, _, fun _ => in_ok rfl, fun hb => ?_, fun hb => ⟨by omega, ⟨by omega, by omega, lt_succ' g0 g2 ?_⟩, (by dsimp only; omega)⟩⟩⟩, fun hd => in_ok ?_⟩
  · have : playersOk l = false := Bool.eq_false_iff.2 fun hx => by
      have h3 := plB_iff.1 ((plO_iff.1 hx).1 i.toNat (by omega))
      rw [decide_eq_true_eq] at hb
      rcases hb with hb | hb
      · exact hb h3.1
      · exact hb h3.2
    rw [this] at h; exact h
  · rw [decide_eq_true_eq] at hb
    exact plB_iff.2 ⟨Classical.byContradiction fun hn => hb (.inl hn), Classical.byContradiction fun hn => hb (.inr hn)⟩
  · have : decide (1 ≤ (l.length : Int) ∧ (l.length : Int) ≤ 6) = playersOk l := by
      apply Bool.eq_iff_iff.2
      rw [plO_iff, decide_eq_true_eq]
      exact ⟨fun hz => ⟨fun j hj => g2 j (by omega), by omega, by omega⟩, fun hz => by omega⟩
    rw [this]; exact h
theorem implPO_ok {l : List PlayerC} {Q : Bool → Prop} (hl : l.length ≤ 1048576) (hs : szPl l ≤ 1048576) (h : Q (playersOk l)) : m_impl_PlayersOk l Q := by
  refine ⟨fun i => 0 ≤ i ∧ i ≤ l.length ∧ ∀ j, j < i.toNat → plB l[j]! = true, fun i => (l.length - i).toNat, ⟨by omega, by omega, fun j hj => absurd hj (by omega)⟩, ?_⟩
  rintro i ⟨g0, g1, g2⟩
  refine ⟨fun hd => ⟨⟨g0, hd⟩, strict_ok (by have := plN_le hs i.toNat (by omega); omega) ⟨_, fun _ => within_ok rfl, fun hb => ?_, fun hb => ⟨by omega, ⟨by omega, by omega, lt_succ' g0 g2 ?_⟩, (by dsimp only; omega)⟩⟩⟩, fun hd => within_ok ?_⟩
  · have : playersOk l = false := Bool.eq_false_iff.2 fun hx => by
      have h3 := plB_iff.1 ((plO_iff.1 hx).1 i.toNat (by omega))
      rw [decide_eq_true_eq] at hb
      rcases hb with hb | hb
      · exact hb h3.1
      · exact hb h3.2
    rw [this] at h; exact h
  · rw [decide_eq_true_eq] at hb
    exact plB_iff.2 ⟨Classical.byContradiction fun hn => hb (.inl hn), Classical.byContradiction fun hn => hb (.inr hn)⟩
  · have : decide (1 ≤ (l.length : Int) ∧ (l.length : Int) ≤ 6) = playersOk l := by
      apply Bool.eq_iff_iff.2
      rw [plO_iff, decide_eq_true_eq]
      exact ⟨fun hz => ⟨fun j hj => g2 j (by omega), by omega, by omega⟩, fun hz => by omega⟩
    rw [this]; exact h

/- free hands -/
def hfS (l : List PlayerC) : Nat → Int
  | 0 => 0
  | i + 1 => hfS l i + (l[i]!).2
theorem hfS_rng {l : List PlayerC} (h : playersOk l = true) : ∀ i, i ≤ l.length → 0 ≤ hfS l i ∧ hfS l i ≤ 2 * (i : Int)
  | 0, _ => by simp [hfS]
  | i + 1, hi => by
    have := hfS_rng h i (by omega)
    have := plO_free h (i := i) (by omega)
    rw [hfS]; omega
def handsFree (l : List PlayerC) : Int := if playersOk l = true then hfS l l.length else -1
/- who knows -/
def knB (p : PlayerC) (x : Int) : Bool := decide (x ∈ p.1)
theorem kn_iff {p : PlayerC} {x : Int} : knB p x = true ↔ x ∈ p.1 := decide_eq_true_iff
theorem specKn_ok {p : PlayerC} {x : Int} {Q : Bool → Prop} (hl : p.1.length ≤ 1048576) (h : Q (knB p x)) : m_spec_l13Knows p x Q := by
  refine ⟨fun i => 0 ≤ i ∧ i ≤ p.1.length ∧ ∀ j, j < i.toNat → ¬ p.1[j]! = x, fun i => (p.1.length - i).toNat, ⟨by omega, by omega, fun j hj => absurd hj (by omega)⟩, ?_⟩
  rintro i ⟨g0, g1, g2⟩
  refine ⟨fun hd => ⟨⟨g0, hd⟩, fun he => ?_, fun he => ⟨by omega, ⟨by omega, by omega, lt_succ' g0 g2 he⟩, (by dsimp only; omega)⟩⟩, fun hd => ?_⟩
  · have : knB p x = true := kn_iff.2 (mem_get.2 ⟨i.toNat, by omega, he⟩)
    rw [this] at h; exact h
  · have : knB p x = false := Bool.eq_false_iff.2 fun hx => by
      obtain ⟨j, hj, e⟩ := mem_get.1 (kn_iff.1 hx)
      exact g2 j (by omega) e
    rw [this] at h; exact h
theorem ix_kn {p : PlayerC} {x : Int} : ixOf p.1 x ≥ 0 ↔ knB p x = true := (ixOf_mem _ _).trans kn_iff.symm
def whoL (l : List PlayerC) (x : Int) : List Int := if playersOk l = true then sel (fun k => knB l[k]! x) l.length else []
theorem whoL_len (l : List PlayerC) (x : Int) : (whoL l x).length ≤ 6 := by
  unfold whoL
  split
  · rename_i h
    have := sel_len (fun k => knB l[k]! x) l.length
    have := plO_size h
    omega
  · simp
/- loads -/
def cntE (c : List Int) (k : Int) : Nat → Nat
  | 0 => 0
  | i + 1 => cntE c k i + if c[i]! = k then 1 else 0
theorem cntE_le (c : List Int) (k : Int) : ∀ i, cntE c k i ≤ i
  | 0 => Nat.le_refl _
  | i + 1 => by have := cntE_le c k i; rw [cntE]; split <;> omega
def loadM (l : List PlayerC) (c : List Int) (m : Nat) : List Int := (List.range l.length).map fun k : Nat => (cntE c k m : Int)
theorem loadM_len (l : List PlayerC) (c : List Int) (m : Nat) : (loadM l c m).length = l.length := by simp [loadM]
theorem loadM_get {l : List PlayerC} {c : List Int} {m k : Nat} (h : k < l.length) : (loadM l c m)[k]! = (cntE c k m : Int) := by simp [loadM, h]
def loadL (l : List PlayerC) (c : List Int) : List Int := if playersOk l = true then loadM l c c.length else []
theorem loadL_len (l : List PlayerC) (c : List Int) : (loadL l c).length ≤ 6 := by
  unfold loadL
  split
  · rename_i h; have := plO_size h; rw [loadM_len]; omega
  · simp
theorem specLO_ok {l : List PlayerC} {c : List Int} {Q : List Int → Prop} (hl : l.length ≤ 1048576) (hs : szPl l ≤ 1048576) (hc : c.length ≤ 1048576) (h : Q (loadL l c)) : m_spec_LoadOf l c Q := by
  unfold loadL at h
  refine specPO_ok hl hs ⟨fun hc => by rw [if_neg hc] at h; exact h, fun hx => ?_⟩
  have hok := Classical.not_not.1 hx
  rw [if_pos hok] at h
  have hlm := loadM_len l c c.length
  refine ⟨fun o i => 0 ≤ i ∧ i ≤ l.length ∧ o = (loadM l c c.length).take i.toNat, fun o i => (l.length - i).toNat, ⟨by omega, by omega, rfl⟩, ?_⟩
  rintro o i ⟨g0, g1, rfl⟩
  refine ⟨fun hd => ⟨fun v j => 0 ≤ j ∧ j ≤ c.length ∧ v = (cntE c i j.toNat : Int), fun v j => (c.length - j).toNat, ⟨by omega, by omega, rfl⟩, ?_⟩, fun hd => ?_⟩
  · rintro v j ⟨j0, j1, rfl⟩
    have hle := cntE_le c i j.toNat
    refine ⟨fun he => ⟨⟨j0, he⟩, fun hb => ⟨by omega, by omega, ⟨by omega, by omega, ?_⟩, (by dsimp only; omega)⟩, fun hb => ⟨by omega, ⟨by omega, by omega, ?_⟩, (by dsimp only; omega)⟩⟩, fun he => ⟨by rw [List.length_take]; omega, by omega, ⟨by omega, by omega, ?_⟩, (by dsimp only; omega)⟩⟩
    · rw [tn1 j0, cntE, if_pos hb]; omega
    · rw [tn1 j0, cntE, if_neg hb]; omega
    · rw [tn1 g0, take_snoc! _ _ (by omega), loadM_get (by omega), show ((i.toNat : Nat) : Int) = i by omega, show j.toNat = c.length by omega]
  · show Q _
    rwa [List.take_of_length_le (by omega)]
/- casts -/
def castP (l : List PlayerC) (p c : List Int) : Prop := playersOk l = true ∧ riB 6 p = true ∧ c.length = p.length ∧ (∀ i, i < c.length → (0 ≤ c[i]! ∧ c[i]! ≤ (l.length : Int) - 1) ∧ knB l[(c[i]!).toNat]! p[i]! = true) ∧ ∀ k, k < l.length → (cntE c k c.length : Int) ≤ (l[k]!).2
theorem loadL_get {l : List PlayerC} {c : List Int} (hok : playersOk l = true) {k : Nat} (hk : k < l.length) : (loadL l c)[k]! = (cntE c k c.length : Int) ∧ (loadL l c).length = l.length := by
  unfold loadL; rw [if_pos hok]; exact ⟨loadM_get hk, loadM_len ..⟩
theorem specIC_ok {l : List PlayerC} {p c : List Int} {Q : Bool → Prop} (hl : l.length ≤ 1048576) (hs : szPl l ≤ 1048576) (hp : p.length ≤ 1048576) (hc : c.length ≤ 1048576) (b : Bool) (hb : b = true ↔ castP l p c) (h : Q b) : m_spec_IsCasting l p c Q := by
  have hbad : ¬ castP l p c → Q false := fun hn => by
    have : b = false := Bool.eq_false_iff.2 fun hx => hn (hb.1 hx)
    rw [this] at h; exact h
  refine specPO_ok hl hs ⟨_, fun _ => rising_ok (by omega) rfl, fun hx => hbad fun hy => ?_, fun hx => ?_⟩
  · rcases hx with (hx | hx) | hx
    · exact hx hy.1
    · exact hx hy.2.1
    · exact hx (by have := hy.2.2.1; omega)
  have hok : playersOk l = true := Classical.byContradiction fun hn => hx (.inl (.inl hn))
  have hri : riB 6 p = true := Classical.byContradiction fun hn => hx (.inl (.inr hn))
  have hlen : c.length = p.length := Classical.byContradiction fun hn => hx (.inr (by omega))
  refine ⟨fun i => 0 ≤ i ∧ i ≤ c.length ∧ ∀ j, j < i.toNat → (0 ≤ c[j]! ∧ c[j]! ≤ (l.length : Int) - 1) ∧ knB l[(c[j]!).toNat]! p[j]! = true, fun i => (c.length - i).toNat, ⟨by omega, by omega, fun j hj => absurd hj (by omega)⟩, ?_⟩
  rintro i ⟨g0, g1, g2⟩
  refine ⟨fun hd => ?_, fun hd => specLO_ok hl hs hc ?_⟩
  · by_cases hr : 0 ≤ c[i.toNat]! ∧ c[i.toNat]! ≤ (l.length : Int) - 1
    · refine ⟨⟨g0, hd⟩, by omega, _, in_ok rfl, fun _ => ⟨g0, hd⟩, fun _ => ⟨hr.1, by omega⟩, fun _ => ⟨g0, by omega⟩, _, fun _ => specKn_ok (plN_le hs (c[i.toNat]!).toNat (by omega)) rfl, fun hb' => hbad fun hy => ?_, fun hb' => ⟨by omega, ⟨by omega, by omega, lt_succ' g0 g2 ?_⟩, (by dsimp only; omega)⟩⟩
      · have := hy.2.2.2.1 i.toNat (by omega)
        rcases hb' with hb' | hb'
        · exact hb' (decide_eq_true this.1)
        · exact hb' this.2
      · exact ⟨hr, Classical.byContradiction fun hn => hb' (.inr hn)⟩
    · have hf : decide (0 ≤ c[i.toNat]! ∧ c[i.toNat]! ≤ (l.length : Int) - 1) = false := decide_eq_false hr
      refine ⟨⟨g0, hd⟩, by omega, false, in_ok hf, fun hx => absurd (by simp) hx, fun hx => absurd (by simp) hx, fun hx => absurd (by simp) hx, false, fun hx => absurd (by simp) hx, fun _ => hbad fun hy => hr (hy.2.2.2.1 i.toNat (by omega)).1, fun hx => absurd (.inl (by simp)) hx⟩
  · refine ⟨fun k => 0 ≤ k ∧ k ≤ l.length ∧ ∀ j, j < k.toNat → (cntE c j c.length : Int) ≤ (l[j]!).2, fun k => (l.length - k).toNat, ⟨by omega, by omega, fun j hj => absurd hj (by omega)⟩, ?_⟩
    rintro k ⟨k0, k1, k2⟩
    have hll : (loadL l c).length = l.length := by unfold loadL; rw [if_pos hok, loadM_len]
    rw [hll]
    refine ⟨fun he => ?_, fun he => ?_⟩
    · have hg := (loadL_get (c := c) hok (k := k.toNat) (by omega)).1
      rw [hg]
      refine ⟨⟨k0, he⟩, ⟨k0, he⟩, fun hx => hbad fun hy => ?_, fun hx => ⟨by omega, ⟨by omega, by omega, lt_succ' (p := fun j => (cntE c j c.length : Int) ≤ (l[j]!).2) k0 k2 (by omega)⟩, (by dsimp only; omega)⟩⟩
      have := hy.2.2.2.2 k.toNat (by omega)
      omega
    · have : b = true := hb.2 ⟨hok, hri, hlen, fun j hj => g2 j (by omega), fun j hj => k2 j (by omega)⟩
      rw [this] at h; exact h
/- hands for some puppets -/
def anyK (p : PlayerC) (ps : List Int) : Bool := decide (∃ x, x ∈ ps ∧ x ∈ p.1)
theorem anyK_iff {p : PlayerC} {ps : List Int} : anyK p ps = true ↔ ∃ x, x ∈ ps ∧ x ∈ p.1 := decide_eq_true_iff
def hoS (l : List PlayerC) (ps : List Int) : Nat → Int
  | 0 => 0
  | i + 1 => hoS l ps i + if anyK l[i]! ps = true then (l[i]!).2 else 0
theorem hoS_rng {l : List PlayerC} {ps : List Int} (h : playersOk l = true) : ∀ i, i ≤ l.length → 0 ≤ hoS l ps i ∧ hoS l ps i ≤ 2 * (i : Int)
  | 0, _ => by simp [hoS]
  | i + 1, hi => by
    have := hoS_rng (ps := ps) h i (by omega)
    have := plO_free h (i := i) (by omega)
    rw [hoS]; split <;> omega
def okB (l : List PlayerC) (ps : List Int) : Bool := playersOk l && riB 6 ps
theorem okB_iff {l : List PlayerC} {ps : List Int} : okB l ps = true ↔ playersOk l = true ∧ riB 6 ps = true := by unfold okB; rw [Bool.and_eq_true]
def handsFor (l : List PlayerC) (ps : List Int) : Int := if okB l ps = true then hoS l ps l.length else -1
theorem handsFor_rng (l : List PlayerC) (ps : List Int) : -1 ≤ handsFor l ps ∧ handsFor l ps ≤ 12 ∧ (okB l ps = true ↔ 0 ≤ handsFor l ps) := by
  unfold handsFor
  by_cases h : okB l ps = true
  · rw [if_pos h]
    have h1 := (okB_iff.1 h).1
    have := hoS_rng (ps := ps) h1 l.length (Nat.le_refl _)
    have := plO_size h1
    exact ⟨by omega, by omega, fun _ => by omega, fun _ => h⟩
  · rw [if_neg h]; exact ⟨by omega, by omega, fun hx => absurd hx h, fun hx => absurd hx (by omega)⟩
theorem spec14_ok {l : List PlayerC} {ps : List Int} {Q : Bool → Prop} (hl : l.length ≤ 1048576) (hs : szPl l ≤ 1048576) (hp : ps.length ≤ 1048576) (h : Q (okB l ps)) : m_spec_l14Ok l ps Q :=
  specPO_ok hl hs ⟨_, fun _ => rising_ok (by omega) rfl, h⟩
def shortB (l : List PlayerC) (ps : List Int) : Bool := decide (0 ≤ handsFor l ps ∧ handsFor l ps < (ps.length : Int))
/- nights -/
def nightB (l : List PlayerC) (t : List (List Int)) : Bool := decide (playersOk l = true ∧ 1 ≤ t.length ∧ t.length ≤ 6 ∧ ∀ i, i < t.length → (t[i]!).length ≤ 4 ∧ riB 6 t[i]! = true)
theorem nightB_iff {l : List PlayerC} {t : List (List Int)} : nightB l t = true ↔ playersOk l = true ∧ 1 ≤ t.length ∧ t.length ≤ 6 ∧ ∀ i, i < t.length → (t[i]!).length ≤ 4 ∧ riB 6 t[i]! = true := decide_eq_true_iff
theorem specNO_ok {l : List PlayerC} {t : List (List Int)} {Q : Bool → Prop} (hl : l.length ≤ 1048576) (hs : szPl l ≤ 1048576) (ht : t.length ≤ 1048576) (h : Q (nightB l t)) : m_spec_NightOk l t Q := by
  refine ⟨fun i => 0 ≤ i ∧ i ≤ t.length ∧ ∀ j, j < i.toNat → (t[j]!).length ≤ 4 ∧ riB 6 t[j]! = true, fun i => (t.length - i).toNat, ⟨by omega, by omega, fun j hj => absurd hj (by omega)⟩, ?_⟩
  rintro i ⟨g0, g1, g2⟩
  refine ⟨fun hd => ⟨⟨g0, hd⟩, fun _ => ⟨g0, hd⟩, riB 6 t[i.toNat]!, fun hx => rising_ok (by omega) rfl, fun hb => ?_, fun hb => ⟨by omega, ⟨by omega, by omega, lt_succ' g0 g2 ?_⟩, (by dsimp only; omega)⟩⟩, fun hd => specPO_ok hl hs ⟨_, fun _ => in_ok rfl, ?_⟩⟩
  · have : nightB l t = false := Bool.eq_false_iff.2 fun hx => by
      have := (nightB_iff.1 hx).2.2.2 i.toNat (by omega)
      rcases hb with hb | hb
      · omega
      · exact hb this.2
    rw [this] at h; exact h
  · exact ⟨Classical.byContradiction fun hn => hb (.inl (by omega)), Classical.byContradiction fun hn => hb (.inr hn)⟩
  · have : (playersOk l && decide (1 ≤ (t.length : Int) ∧ (t.length : Int) ≤ 6)) = nightB l t := by
      apply Bool.eq_iff_iff.2
      rw [nightB_iff, Bool.and_eq_true, decide_eq_true_eq]
      exact ⟨fun hz => ⟨hz.1, by omega, by omega, fun j hj => g2 j (by omega)⟩, fun hz => ⟨hz.1, by omega⟩⟩
    rw [this]; exact h
theorem implNO_ok {l : List PlayerC} {t : List (List Int)} {Q : Bool → Prop} (hl : l.length ≤ 1048576) (hs : szPl l ≤ 1048576) (ht : t.length ≤ 1048576) (h : Q (nightB l t)) : m_impl_NightOk l t Q := by
  refine implPO_ok hl hs ⟨_, fun _ => within_ok rfl, fun hb => ?_, fun hb => ?_⟩
  · have : nightB l t = false := Bool.eq_false_iff.2 fun hx => by
      have := nightB_iff.1 hx
      rcases hb with hb | hb
      · exact hb this.1
      · exact hb (decide_eq_true (by omega))
    rw [this] at h; exact h
  have hpo : playersOk l = true := Classical.byContradiction fun hn => hb (.inl hn)
  have hz : decide (1 ≤ (t.length : Int) ∧ (t.length : Int) ≤ 6) = true := Classical.byContradiction fun hn => hb (.inr hn)
  rw [decide_eq_true_eq] at hz
  refine ⟨fun i => 0 ≤ i ∧ i ≤ t.length ∧ ∀ j, j < i.toNat → (t[j]!).length ≤ 4 ∧ riB 6 t[j]! = true, fun i => (t.length - i).toNat, ⟨by omega, by omega, fun j hj => absurd hj (by omega)⟩, ?_⟩
  rintro i ⟨g0, g1, g2⟩
  refine ⟨fun hd => ⟨⟨g0, hd⟩, riB 6 t[i.toNat]!, fun hx => strict_ok (by omega) rfl, fun hb => ?_, fun hb => ⟨by omega, ⟨by omega, by omega, lt_succ' g0 g2 ?_⟩, (by dsimp only; omega)⟩⟩, fun hd => ?_⟩
  · have : nightB l t = false := Bool.eq_false_iff.2 fun hx => by
      have := (nightB_iff.1 hx).2.2.2 i.toNat (by omega)
      rcases hb with hb | hb
      · omega
      · exact hb this.2
    rw [this] at h; exact h
  · exact ⟨Classical.byContradiction fun hn => hb (.inl (by omega)), Classical.byContradiction fun hn => hb (.inr hn)⟩
  · have : nightB l t = true := nightB_iff.2 ⟨hpo, by omega, by omega, fun j hj => g2 j (by omega)⟩
    rw [this] at h; exact h
end Go.Proofs.Ytddjkiefadiijaa
