/- Plain laws over the models: players, hands, casts. No program, no statement of the claim. -/
import Derived.Test.YtddjkiefadiijaaPD1
namespace Go.Proofs.Ytddjkiefadiijaa

def plB (p : PlayerC) : Bool := riB 6 p.1 && decide (0 ≤ p.2 ∧ p.2 ≤ 2)
theorem plB_iff {p : PlayerC} : plB p = true ↔ riB 6 p.1 = true ∧ 0 ≤ p.2 ∧ p.2 ≤ 2 := by unfold plB; rw [Bool.and_eq_true, decide_eq_true_eq]
def playersOk (l : List PlayerC) : Bool := decide ((∀ i, i < l.length → plB l[i]! = true) ∧ 1 ≤ l.length ∧ l.length ≤ 6)
theorem plO_iff {l : List PlayerC} : playersOk l = true ↔ (∀ i, i < l.length → plB l[i]! = true) ∧ 1 ≤ l.length ∧ l.length ≤ 6 := decide_eq_true_iff
theorem plO_size {l : List PlayerC} (h : playersOk l = true) : 1 ≤ l.length ∧ l.length ≤ 6 := by have := plO_iff.1 h; omega
theorem plO_free {l : List PlayerC} (h : playersOk l = true) {i : Nat} (hi : i < l.length) : 0 ≤ (l[i]!).2 ∧ (l[i]!).2 ≤ 2 := (plB_iff.1 ((plO_iff.1 h).1 i hi)).2
theorem plN_le {l : List PlayerC} (hs : szPl l ≤ 1048576) (i : Nat) (hi : i < l.length) : (l[i]!).1.length ≤ 1048576 := by
  have := sumN_get plN l i hi
  have e : plN l[i]! = (l[i]!).1.length := rfl
  unfold szPl at hs; omega
theorem ri_ge {m : Int} {l : List Int} (h : ∀ j, j < l.length → riP m l j) : ∀ j, j < l.length → (j : Int) ≤ l[j]!
  | 0, hj => by have := (h 0 hj).1; omega
  | j + 1, hj => by
    have h1 := ri_ge h j (by omega)
    have h2 := (h (j + 1) hj).2.2 (by omega)
    simp only [Nat.add_sub_cancel] at h2
    omega
theorem ri_len {m : Int} {l : List Int} (h : riB m l = true) : l.length = 0 ∨ (l.length : Int) ≤ m + 1 := by
  have h' := riB_iff.1 h
  by_cases h0 : l.length = 0
  · exact .inl h0
  · have := ri_ge h' (l.length - 1) (by omega)
    have := (h' (l.length - 1) (by omega)).2.1
    omega
theorem pup_len {l : List Int} (h : riB 6 l = true) : l.length ≤ 7 := by have := ri_len h; omega
theorem specPO_ok {l : List PlayerC} {Q : Bool → Prop} (hl : l.length ≤ 1048576) (hs : szPl l ≤ 1048576) (h : Q (playersOk l)) : m_spec_PlayersOk l Q := by
  refine ⟨fun i => 0 ≤ i ∧ i ≤ l.length ∧ ∀ j, j < i.toNat → plB l[j]! = true, fun i => (l.length - i).toNat, ⟨by omega, by omega, fun j hj => absurd hj (by omega)⟩, ?_⟩
  rintro i ⟨g0, g1, g2⟩
  refine ⟨fun hd => ⟨⟨g0, hd⟩, rising_ok (by have := plN_le hs i.toNat (by omega); omega) ⟨fun _ => ⟨g0, hd⟩, _, fun _ => in_ok rfl, fun hb => ?_, fun hb => ⟨by omega, ⟨by omega, by omega, lt_succ' g0 g2 ?_⟩, (by dsimp only; omega)⟩⟩⟩, fun hd => in_ok ?_⟩
  · have : playersOk l = false := Bool.eq_false_iff.2 fun hx => by
      have h3 := plB_iff.1 ((plO_iff.1 hx).1 i.toNat (by omega))
      rw [decide_eq_true_eq] at hb
      rcases hb with hb | hb
      · exact hb h3.1
      · exact hb h3.2
    rw [this] at h; exact h
  · rw [decide_eq_true_eq] at hb
    exact plB_iff.2 ⟨Classical.byContradiction fun hn => hb (.inl hn), Classical.byContradiction fun hn => hb (.inr hn)⟩
  · have : decide (1 ≤ (l.length : Int) ∧ (l.length : Int) ≤ 6) = playersOk l := by
      apply Bool.eq_iff_iff.2
      rw [plO_iff, decide_eq_true_eq]
      exact ⟨fun hz => ⟨fun j hj => g2 j (by omega), by omega, by omega⟩, fun hz => by omega⟩
    rw [this]; exact h
theorem implPO_ok {l : List PlayerC} {Q : Bool → Prop} (hl : l.length ≤ 1048576) (hs : szPl l ≤ 1048576) (h : Q (playersOk l)) : m_impl_PlayersOk l Q := by
  refine ⟨fun i => 0 ≤ i ∧ i ≤ l.length ∧ ∀ j, j < i.toNat → plB l[j]! = true, fun i => (l.length - i).toNat, ⟨by omega, by omega, fun j hj => absurd hj (by omega)⟩, ?_⟩
  rintro i ⟨g0, g1, g2⟩
  refine ⟨fun hd => ⟨⟨g0, hd⟩, strict_ok (by have := plN_le hs i.toNat (by omega); omega) ⟨_, fun _ => within_ok rfl, fun hb => ?_, fun hb => ⟨by omega, ⟨by omega, by omega, lt_succ' g0 g2 ?_⟩, (by dsimp only; omega)⟩⟩⟩, fun hd => within_ok ?_⟩
  · have : playersOk l = false := Bool.eq_false_iff.2 fun hx => by
      have h3 := plB_iff.1 ((plO_iff.1 hx).1 i.toNat (by omega))
      rw [decide_eq_true_eq] at hb
      rcases hb with hb | hb
      · exact hb h3.1
      · exact hb h3.2
    rw [this] at h; exact h
  · rw [decide_eq_true_eq] at hb
    exact plB_iff.2 ⟨Classical.byContradiction fun hn => hb (.inl hn), Classical.byContradiction fun hn => hb (.inr hn)⟩
  · have : decide (1 ≤ (l.length : Int) ∧ (l.length : Int) ≤ 6) = playersOk l := by
      apply Bool.eq_iff_iff.2
      rw [plO_iff, decide_eq_true_eq]
      exact ⟨fun hz => ⟨fun j hj => g2 j (by omega), by omega, by omega⟩, fun hz => by omega⟩
    rw [this]; exact h

/- free hands -/
def hfS (l : List PlayerC) : Nat → Int
  | 0 => 0
  | i + 1 => hfS l i + (l[i]!).2
theorem hfS_rng {l : List PlayerC} (h : playersOk l = true) : ∀ i, i ≤ l.length → 0 ≤ hfS l i ∧ hfS l i ≤ 2 * (i : Int)
  | 0, _ => by simp [hfS]
  | i + 1, hi => by
    have := hfS_rng h i (by omega)
    have := plO_free h (i := i) (by omega)
    rw [hfS]; omega
def handsFree (l : List PlayerC) : Int := if playersOk l = true then hfS l l.length else -1
theorem specHF_ok {l : List PlayerC} {Q : Int → Prop} (hl : l.length ≤ 1048576) (hs : szPl l ≤ 1048576) (h : Q (handsFree l)) : m_spec_HandsFree l Q := by
  unfold handsFree at h
  refine specPO_ok hl hs ⟨fun hc => by rw [if_neg hc] at h; exact h, fun hc => ?_⟩
  have hok := Classical.not_not.1 hc
  rw [if_pos hok] at h
  have hz := plO_size hok
  refine ⟨fun v i => 0 ≤ i ∧ i ≤ l.length ∧ v = hfS l i.toNat, fun v i => (l.length - i).toNat, ⟨by omega, by omega, rfl⟩, ?_⟩
  rintro v i ⟨g0, g1, rfl⟩
  refine ⟨fun hd => ?_, fun hd => ?_⟩
  · have h1 := hfS_rng hok i.toNat (by omega)
    have h2 := plO_free hok (i := i.toNat) (by omega)
    refine ⟨⟨g0, hd⟩, by omega, by omega, ⟨by omega, by omega, ?_⟩, (by dsimp only; omega)⟩
    rw [tn1 g0]; rfl
  · show Q _
    rwa [show i.toNat = l.length by omega]
/- who knows -/
def knB (p : PlayerC) (x : Int) : Bool := decide (x ∈ p.1)
theorem kn_iff {p : PlayerC} {x : Int} : knB p x = true ↔ x ∈ p.1 := decide_eq_true_iff
theorem ix_kn {p : PlayerC} {x : Int} : ixOf p.1 x ≥ 0 ↔ knB p x = true := (ixOf_mem _ _).trans kn_iff.symm
def whoL (l : List PlayerC) (x : Int) : List Int := if playersOk l = true then sel (fun k => knB l[k]! x) l.length else []
theorem whoL_len (l : List PlayerC) (x : Int) : (whoL l x).length ≤ 6 := by
  unfold whoL
  split
  · rename_i h
    have := sel_len (fun k => knB l[k]! x) l.length
    have := plO_size h
    omega
  · simp
/- loads -/
def cntE (c : List Int) (k : Int) : Nat → Nat
  | 0 => 0
  | i + 1 => cntE c k i + if c[i]! = k then 1 else 0
theorem cntE_le (c : List Int) (k : Int) : ∀ i, cntE c k i ≤ i
  | 0 => Nat.le_refl _
  | i + 1 => by have := cntE_le c k i; rw [cntE]; split <;> omega
def loadM (l : List PlayerC) (c : List Int) (m : Nat) : List Int := (List.range l.length).map fun k : Nat => (cntE c k m : Int)
theorem loadM_len (l : List PlayerC) (c : List Int) (m : Nat) : (loadM l c m).length = l.length := by simp [loadM]
theorem loadM_get {l : List PlayerC} {c : List Int} {m k : Nat} (h : k < l.length) : (loadM l c m)[k]! = (cntE c k m : Int) := by simp [loadM, h]
def loadL (l : List PlayerC) (c : List Int) : List Int := if playersOk l = true then loadM l c c.length else []
theorem loadL_len (l : List PlayerC) (c : List Int) : (loadL l c).length ≤ 6 := by
  unfold loadL
  split
  · rename_i h; have := plO_size h; rw [loadM_len]; omega
  · simp
/- casts -/
def castP (l : List PlayerC) (p c : List Int) : Prop := playersOk l = true ∧ riB 6 p = true ∧ c.length = p.length ∧ (∀ i, i < c.length → (0 ≤ c[i]! ∧ c[i]! ≤ (l.length : Int) - 1) ∧ knB l[(c[i]!).toNat]! p[i]! = true) ∧ ∀ k, k < l.length → (cntE c k c.length : Int) ≤ (l[k]!).2
theorem loadL_get {l : List PlayerC} {c : List Int} (hok : playersOk l = true) {k : Nat} (hk : k < l.length) : (loadL l c)[k]! = (cntE c k c.length : Int) ∧ (loadL l c).length = l.length := by
  unfold loadL; rw [if_pos hok]; exact ⟨loadM_get hk, loadM_len ..⟩
/- hands for some puppets -/
def anyK (p : PlayerC) (ps : List Int) : Bool := decide (∃ x, x ∈ ps ∧ x ∈ p.1)
theorem anyK_iff {p : PlayerC} {ps : List Int} : anyK p ps = true ↔ ∃ x, x ∈ ps ∧ x ∈ p.1 := decide_eq_true_iff
def hoS (l : List PlayerC) (ps : List Int) : Nat → Int
  | 0 => 0
  | i + 1 => hoS l ps i + if anyK l[i]! ps = true then (l[i]!).2 else 0
theorem hoS_rng {l : List PlayerC} {ps : List Int} (h : playersOk l = true) : ∀ i, i ≤ l.length → 0 ≤ hoS l ps i ∧ hoS l ps i ≤ 2 * (i : Int)
  | 0, _ => by simp [hoS]
  | i + 1, hi => by
    have := hoS_rng (ps := ps) h i (by omega)
    have := plO_free h (i := i) (by omega)
    rw [hoS]; split <;> omega
def okB (l : List PlayerC) (ps : List Int) : Bool := playersOk l && riB 6 ps
theorem okB_iff {l : List PlayerC} {ps : List Int} : okB l ps = true ↔ playersOk l = true ∧ riB 6 ps = true := by unfold okB; rw [Bool.and_eq_true]
def handsFor (l : List PlayerC) (ps : List Int) : Int := if okB l ps = true then hoS l ps l.length else -1
theorem handsFor_rng (l : List PlayerC) (ps : List Int) : -1 ≤ handsFor l ps ∧ handsFor l ps ≤ 12 ∧ (okB l ps = true ↔ 0 ≤ handsFor l ps) := by
  unfold handsFor
  by_cases h : okB l ps = true
  · rw [if_pos h]
    have h1 := (okB_iff.1 h).1
    have := hoS_rng (ps := ps) h1 l.length (Nat.le_refl _)
    have := plO_size h1
    exact ⟨by omega, by omega, fun _ => by omega, fun _ => h⟩
  · rw [if_neg h]; exact ⟨by omega, by omega, fun hx => absurd hx h, fun hx => absurd hx (by omega)⟩
theorem implHO_ok {l : List PlayerC} {ps : List Int} {Q : Int → Prop} (hl : l.length ≤ 1048576) (hs : szPl l ≤ 1048576) (hp : ps.length ≤ 1048576) (h : Q (handsFor l ps)) : m_impl_HandsFor l ps Q := by
  unfold handsFor at h
  refine implPO_ok hl hs ⟨_, fun _ => strict_ok (by omega) rfl, fun hc => ?_, fun hc => ?_⟩
  · rw [if_neg (fun hx => by have := okB_iff.1 hx; rcases hc with hc | hc; exact hc this.1; exact hc this.2)] at h; exact h
  have hpo : playersOk l = true := Classical.byContradiction fun hn => hc (.inl hn)
  have hok : okB l ps = true := okB_iff.2 ⟨hpo, Classical.byContradiction fun hn => hc (.inr hn)⟩
  rw [if_pos hok] at h
  have hz := plO_size hpo
  refine ⟨fun v i => 0 ≤ i ∧ i ≤ l.length ∧ v = hoS l ps i.toNat, fun v i => (l.length - i).toNat, ⟨by omega, by omega, rfl⟩, ?_⟩
  rintro v i ⟨g0, g1, rfl⟩
  refine ⟨fun hd => ⟨⟨g0, hd⟩, fun j => 0 ≤ j ∧ j ≤ ps.length ∧ ∀ k, k < j.toNat → ¬ ps[k]! ∈ (l[i.toNat]!).1, fun j => (ps.length - j).toNat, ⟨by omega, by omega, fun j hj => absurd hj (by omega)⟩, ?_⟩, fun hd => ?_⟩
  · rintro j ⟨j0, j1, j2⟩
    have h1 := hoS_rng (ps := ps) hpo i.toNat (by omega)
    have h2 := plO_free hpo (i := i.toNat) (by omega)
    refine ⟨fun he => ⟨⟨j0, he⟩, indexOf_ok (by have := plN_le hs i.toNat (by omega); omega) ⟨fun hx => ⟨by omega, by omega, ⟨by omega, by omega, ?_⟩, (by dsimp only; omega)⟩, fun hx => ⟨by omega, ⟨by omega, by omega, lt_succ' j0 j2 (fun hm => hx ((ixOf_mem _ _).2 hm))⟩, (by dsimp only; omega)⟩⟩⟩, fun he => ⟨by omega, ⟨by omega, by omega, ?_⟩, (by dsimp only; omega)⟩⟩
    · rw [tn1 g0, hoS, if_pos (anyK_iff.2 ⟨_, mem_get.2 ⟨j.toNat, by omega, rfl⟩, (ixOf_mem _ _).1 hx⟩)]
    · rw [tn1 g0, hoS, if_neg (fun hy => by
        obtain ⟨x, h1, h2⟩ := anyK_iff.1 hy
        obtain ⟨k, hk, rfl⟩ := mem_get.1 h1
        exact j2 k (by omega) h2)]; omega
  · show Q _
    rwa [show i.toNat = l.length by omega]
def shortB (l : List PlayerC) (ps : List Int) : Bool := decide (0 ≤ handsFor l ps ∧ handsFor l ps < (ps.length : Int))
theorem implIS_ok {l : List PlayerC} {ps : List Int} {Q : Bool → Prop} (hl : l.length ≤ 1048576) (hs : szPl l ≤ 1048576) (hp : ps.length ≤ 1048576) (h : Q (shortB l ps)) : m_impl_IsShort l ps Q := by
  refine implHO_ok hl hs hp ?_
  have h1 := handsFor_rng l ps
  have : (decide (handsFor l ps ≠ -1) && decide (handsFor l ps < (ps.length : Int))) = shortB l ps := by
    apply Bool.eq_iff_iff.2
    unfold shortB
    rw [Bool.and_eq_true, decide_eq_true_eq, decide_eq_true_eq, decide_eq_true_eq]
    omega
  show Q _
  rw [this]; exact h

/- nights -/
def nightB (l : List PlayerC) (t : List (List Int)) : Bool := decide (playersOk l = true ∧ 1 ≤ t.length ∧ t.length ≤ 6 ∧ ∀ i, i < t.length → (t[i]!).length ≤ 4 ∧ riB 6 t[i]! = true)
theorem nightB_iff {l : List PlayerC} {t : List (List Int)} : nightB l t = true ↔ playersOk l = true ∧ 1 ≤ t.length ∧ t.length ≤ 6 ∧ ∀ i, i < t.length → (t[i]!).length ≤ 4 ∧ riB 6 t[i]! = true := decide_eq_true_iff
end Go.Proofs.Ytddjkiefadiijaa
