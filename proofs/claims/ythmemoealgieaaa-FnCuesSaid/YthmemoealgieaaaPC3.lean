/- Plain laws over the models: circles, cues that are ones, waiting, free cues. No program, no statement of the claim. -/
import Derived.Test.YthmemoealgieaaaPC2
namespace Go.Proofs.Ythmemoealgieaaa

/-- the numbers below m with a property -/
def sel (p : Nat → Bool) (m : Nat) : List Int := ((List.range m).filter p).map fun k : Nat => (k : Int)
theorem sel_zero (p : Nat → Bool) : sel p 0 = [] := rfl
theorem sel_yes {p : Nat → Bool} {i : Int} (h0 : 0 ≤ i) (h : p i.toNat = true) : sel p i.toNat ++ [i] = sel p (i + 1).toNat := by
  unfold sel
  rw [tn1 h0, List.range_succ, List.filter_append, List.map_append]
  simp [h]; omega
theorem sel_no {p : Nat → Bool} {i : Int} (h0 : 0 ≤ i) (h : p i.toNat = false) : sel p i.toNat = sel p (i + 1).toNat := by
  unfold sel
  rw [tn1 h0, List.range_succ, List.filter_append, List.map_append]
  simp [h]
theorem sel_len (p : Nat → Bool) (m : Nat) : (sel p m).length ≤ m := by
  unfold sel
  rw [List.length_map]
  exact Nat.le_trans (List.length_filter_le _ _) (by simp)
theorem sel_mem {p : Nat → Bool} {m : Nat} {x : Int} : x ∈ sel p m ↔ 0 ≤ x ∧ x.toNat < m ∧ p x.toNat = true := by
  unfold sel
  simp only [List.mem_map, List.mem_filter, List.mem_range]
  constructor
  · rintro ⟨k, ⟨h1, h2⟩, rfl⟩; exact ⟨by omega, by simpa using h1, by simpa using h2⟩
  · rintro ⟨h0, h1, h2⟩; exact ⟨x.toNat, ⟨h1, h2⟩, by omega⟩

def W (l : List CueC) (i k : Nat) : Bool := wt l l.length i k
def circ (l : List CueC) : List Int := if 12 < l.length then [] else sel (fun k => W l k k) l.length
theorem circ_len (l : List CueC) : (circ l).length ≤ 12 := by
  unfold circ
  split
  · simp
  · have := sel_len (fun k => W l k k) l.length; omega
theorem implCI_ok {l : List CueC} {Q : List Int → Prop} (hs : szCu l ≤ 1048576) (h : Q (circ l)) : m_impl_CircleIn l Q := by
  refine ⟨fun hc => ?_, fun hc => implW_ok (by omega) hs fun o ho => ⟨fun x i => 0 ≤ i ∧ i ≤ l.length ∧ x = sel (fun k => W l k k) i.toNat, fun x i => (l.length - i).toNat, ⟨by omega, by omega, rfl⟩, ?_⟩⟩
  · unfold circ at h; rw [if_pos (by omega)] at h; exact h
  · have hol := ho.len
    rintro x i ⟨g0, g1, rfl⟩
    have hl := sel_len (fun k => W l k k) i.toNat
    refine ⟨fun hd => ?_, fun hd => ?_⟩
    · have hi : i.toNat < l.length := by omega
      have hr := ho.row _ hi
      have hrl := hr.1
      have hb := hr.2 _ hi
      refine ⟨⟨g0, by omega⟩, ⟨g0, by omega⟩, fun he => ⟨by omega, by omega, ⟨by omega, by omega, ?_⟩, (by dsimp only; omega)⟩, fun he => ⟨by omega, ⟨by omega, by omega, ?_⟩, (by dsimp only; omega)⟩⟩
      · exact sel_yes (p := fun k => W l k k) g0 (hb.symm.trans he)
      · refine sel_no (p := fun k => W l k k) g0 ?_
        show wt l l.length i.toNat i.toNat = false
        rw [← hb]
        exact Bool.eq_false_iff.2 he
    · show Q _
      unfold circ at h
      rw [if_neg (by omega)] at h
      rwa [show i.toNat = l.length by omega]

/- cues that are ones -/
def cuC (n : Int) (c : CueC) : Bool := decide (1 ≤ c.1 ∧ c.1 ≤ 50) && riB (n - 1) c.2.1 && riB 6 c.2.2
def cuesOk (l : List CueC) : Bool := decide (1 ≤ l.length ∧ l.length ≤ 12 ∧ (∀ i, i < l.length → cuC l.length l[i]! = true) ∧ (circ l).length = 0)
theorem cuC_iff {n : Int} {c : CueC} : cuC n c = true ↔ (1 ≤ c.1 ∧ c.1 ≤ 50) ∧ riB (n - 1) c.2.1 = true ∧ riB 6 c.2.2 = true := by
  unfold cuC; rw [Bool.and_eq_true, Bool.and_eq_true, decide_eq_true_eq, and_assoc]
theorem cuesOk_iff {l : List CueC} : cuesOk l = true ↔ 1 ≤ l.length ∧ l.length ≤ 12 ∧ (∀ i, i < l.length → cuC l.length l[i]! = true) ∧ (circ l).length = 0 := decide_eq_true_iff
theorem cuN_le {l : List CueC} (hs : szCu l ≤ 1048576) (i : Nat) (hi : i < l.length) : (l[i]!).2.1.length ≤ 1048576 ∧ (l[i]!).2.2.length ≤ 1048576 := by
  have := sumN_get cuN l i hi
  have e : cuN l[i]! = (l[i]!).2.1.length + (l[i]!).2.2.length := rfl
  unfold szCu at hs; omega
theorem implCuesOk_ok {l : List CueC} {Q : Bool → Prop} (hl : l.length ≤ 1048576) (hs : szCu l ≤ 1048576) (h : Q (cuesOk l)) : m_impl_CuesOk l Q := by
  refine within_ok ⟨fun hc => ?_, fun hc => ⟨fun i => 0 ≤ i ∧ i ≤ l.length ∧ ∀ j, j < i.toNat → cuC l.length l[j]! = true, fun i => (l.length - i).toNat, ⟨by omega, by omega, fun j hj => absurd hj (by omega)⟩, ?_⟩⟩
  · have : cuesOk l = false := Bool.eq_false_iff.2 fun hx => hc (by
      have := cuesOk_iff.1 hx
      exact decide_eq_true (by omega))
    rw [this] at h; exact h
  have hc := of_decide_eq_true (Classical.not_not.1 hc)
  rintro i ⟨g0, g1, g2⟩
  refine ⟨fun hd => ⟨⟨g0, hd⟩, within_ok ⟨fun _ => by omega, _, fun _ => strict_ok (by have := cuN_le hs i.toNat (by omega); omega) rfl, _, fun _ => strict_ok (by have := cuN_le hs i.toNat (by omega); omega) rfl, fun hb => ?_, fun hb => ⟨by omega, ⟨by omega, by omega, lt_succ' g0 g2 ?_⟩, (by dsimp only; omega)⟩⟩⟩, fun hd => ?_⟩
  · have : cuesOk l = false := Bool.eq_false_iff.2 fun hx => by
      have h3 := cuC_iff.1 ((cuesOk_iff.1 hx).2.2.1 i.toNat (by omega))
      rw [decide_eq_true_eq] at hb
      rcases hb with (hb | hb) | hb
      · exact hb h3.1
      · exact hb h3.2.1
      · exact hb h3.2.2
    rw [this] at h; exact h
  · rw [decide_eq_true_eq] at hb
    refine cuC_iff.2 ⟨Classical.byContradiction fun hn => hb (.inl (.inl hn)), Classical.byContradiction fun hn => hb (.inl (.inr hn)), Classical.byContradiction fun hn => hb (.inr hn)⟩
  · refine implCI_ok hs ?_
    have : decide (((circ l).length : Int) = 0) = cuesOk l := by
      apply Bool.eq_iff_iff.2
      rw [cuesOk_iff, decide_eq_true_eq]
      exact ⟨fun hz => ⟨by omega, by omega, fun j hj => g2 j (by omega), by omega⟩, fun hz => by omega⟩
    rw [this]; exact h
theorem co_size {l : List CueC} (h : cuesOk l = true) : 1 ≤ l.length ∧ l.length ≤ 12 := by have := cuesOk_iff.1 h; omega

/- waiting -/
def waitsB (l : List CueC) (i k : Int) : Bool := cuesOk l && decide (0 ≤ i ∧ i ≤ (l.length : Int) - 1) && decide (0 ≤ k ∧ k ≤ (l.length : Int) - 1) && W l i.toNat k.toNat
theorem implWF_ok {l : List CueC} {i k : Int} {Q : Bool → Prop} (hl : l.length ≤ 1048576) (hs : szCu l ≤ 1048576) (h : Q (waitsB l i k)) : m_impl_WaitsFor l i k Q := by
  refine implCuesOk_ok hl hs ⟨fun _ => by omega, _, fun _ => within_ok rfl, fun _ => by omega, _, fun _ => within_ok rfl, fun hb => ?_, fun hb => ?_⟩
  · obtain ⟨⟨c1, c2⟩, c3⟩ := hb
    have hz := co_size c1
    unfold waitsB at h
    rw [c1, c2, c3] at h
    rw [decide_eq_true_eq] at c2 c3
    refine implW_ok (by omega) hs fun o ho => ?_
    have hr := ho.row i.toNat (by omega)
    have hol := ho.len
    have hrl := hr.1
    refine ⟨⟨by omega, by omega⟩, ⟨by omega, by omega⟩, ?_⟩
    rw [hr.2 _ (by omega)]; exact h
  · have : waitsB l i k = false := by
      unfold waitsB
      cases c1 : cuesOk l
      · rfl
      · cases c2 : decide (0 ≤ i ∧ i ≤ (l.length : Int) - 1)
        · rfl
        · cases c3 : decide (0 ≤ k ∧ k ≤ (l.length : Int) - 1)
          · rfl
          · exact absurd ⟨⟨c1, c2⟩, c3⟩ hb
    rw [this] at h; exact h

/- free cues -/
def freeL (l : List CueC) : List Int := if cuesOk l = true then sel (fun k => decide ((l[k]!).2.1.length = 0)) l.length else []
theorem freeL_len (l : List CueC) : (freeL l).length ≤ 12 := by
  unfold freeL
  split
  · rename_i h
    have := sel_len (fun k => decide ((l[k]!).2.1.length = 0)) l.length
    have := co_size h
    omega
  · simp
theorem implFC_ok {l : List CueC} {Q : List Int → Prop} (hl : l.length ≤ 1048576) (hs : szCu l ≤ 1048576) (h : Q (freeL l)) : m_impl_FreeCues l Q := by
  unfold freeL at h
  refine implCuesOk_ok hl hs ⟨fun hc => by rw [if_neg hc] at h; exact h, fun hc => ?_⟩
  have hok := Classical.not_not.1 hc
  rw [if_pos hok] at h
  refine ⟨fun x i => 0 ≤ i ∧ i ≤ l.length ∧ x = sel (fun k => decide ((l[k]!).2.1.length = 0)) i.toNat, fun x i => (l.length - i).toNat, ⟨by omega, by omega, rfl⟩, ?_⟩
  rintro x i ⟨g0, g1, rfl⟩
  have hsl := sel_len (fun k => decide ((l[k]!).2.1.length = 0)) i.toNat
  refine ⟨fun hd => ⟨⟨g0, hd⟩, fun he => ⟨by omega, by omega, ⟨by omega, by omega, ?_⟩, (by dsimp only; omega)⟩, fun he => ⟨by omega, ⟨by omega, by omega, ?_⟩, (by dsimp only; omega)⟩⟩, fun hd => ?_⟩
  · exact sel_yes (p := fun k => decide ((l[k]!).2.1.length = 0)) g0 (decide_eq_true (by omega))
  · exact sel_no (p := fun k => decide ((l[k]!).2.1.length = 0)) g0 (decide_eq_false (by omega))
  · show Q _
    rwa [show i.toNat = l.length by omega]
end Go.Proofs.Ythmemoealgieaaa
