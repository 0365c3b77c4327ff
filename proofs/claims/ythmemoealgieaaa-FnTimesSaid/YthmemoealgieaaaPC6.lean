/- Plain laws over the models: clashes, plans, simple plans. No program, no statement of the claim. -/
import Derived.Test.YthmemoealgieaaaPC5
namespace Go.Proofs.Ythmemoealgieaaa

def comB (a b : CueC) : Bool := decide (∃ p, p ∈ a.2.2 ∧ p ∈ b.2.2)
theorem comB_iff {a b : CueC} : comB a b = true ↔ ∃ p, p ∈ a.2.2 ∧ p ∈ b.2.2 := decide_eq_true_iff
theorem implCom_ok {a b : CueC} {Q : Bool → Prop} (ha : a.2.2.length ≤ 1048576) (hb : b.2.2.length ≤ 1048576) (h : Q (comB a b)) : m_impl_share a b Q := by
  refine ⟨fun i => 0 ≤ i ∧ i ≤ a.2.2.length ∧ ∀ j, j < i.toNat → ¬ a.2.2[j]! ∈ b.2.2, fun i => (a.2.2.length - i).toNat, ⟨by omega, by omega, fun j hj => absurd hj (by omega)⟩, ?_⟩
  rintro i ⟨g0, g1, g2⟩
  refine ⟨fun hc => ⟨⟨g0, hc⟩, indexOf_ok (by omega) ⟨fun he => ?_, fun he => ⟨by omega, ⟨by omega, by omega, lt_succ' g0 g2 (fun hm => he ((ixOf_mem _ _).2 hm))⟩, (by dsimp only; omega)⟩⟩⟩, fun hc => ?_⟩
  · have : comB a b = true := comB_iff.2 ⟨_, mem_get.2 ⟨i.toNat, by omega, rfl⟩, (ixOf_mem _ _).1 he⟩
    rw [this] at h; exact h
  · have : comB a b = false := decide_eq_false fun ⟨p, h1, h2⟩ => by
      obtain ⟨j, hj, e⟩ := mem_get.1 h1
      rw [← e] at h2
      exact g2 j (by omega) h2
    rw [this] at h; exact h

/- starts that are ones -/
def okStarts (l : List CueC) (s : List Int) : Bool := cuesOk l && decide ((s.length : Int) = (l.length : Int)) && awB 0 10000 s
theorem okStarts_iff {l : List CueC} {s : List Int} : okStarts l s = true ↔ cuesOk l = true ∧ s.length = l.length ∧ ∀ j, j < s.length → 0 ≤ s[j]! ∧ s[j]! ≤ 10000 := by
  unfold okStarts
  rw [Bool.and_eq_true, Bool.and_eq_true, decide_eq_true_eq, awB_iff]
  exact ⟨fun ⟨⟨h1, h2⟩, h3⟩ => ⟨h1, by omega, h3⟩, fun ⟨h1, h2, h3⟩ => ⟨⟨h1, by omega⟩, h3⟩⟩
theorem implOS_ok {l : List CueC} {s : List Int} {Q : Bool → Prop} (hl : l.length ≤ 1048576) (hs : szCu l ≤ 1048576) (h1 : s.length ≤ 1048576) (h : Q (okStarts l s)) : m_impl_areStarts l s Q :=
  implCuesOk_ok hl hs ⟨_, fun _ => allWithin_ok (by omega) rfl, h⟩

/- clashes -/
def clash (l : List CueC) (s : List Int) (i k : Nat) : Bool := comB l[i]! l[k]! && decide (s[i]! < s[k]! + (l[k]!).1) && decide (s[k]! < s[i]! + (l[i]!).1)
theorem clash_iff {l : List CueC} {s : List Int} {i k : Nat} : clash l s i k = true ↔ (comB l[i]! l[k]! = true ∧ s[i]! < s[k]! + (l[k]!).1) ∧ s[k]! < s[i]! + (l[i]!).1 := by
  unfold clash; rw [Bool.and_eq_true, Bool.and_eq_true, decide_eq_true_eq, decide_eq_true_eq]
def clI (l : List CueC) (s : List Int) (i : Nat) : Nat → List (List Int)
  | 0 => []
  | k + 1 => clI l s i k ++ if i < k ∧ clash l s i k = true then [[(i : Int), (k : Int)]] else []
def clO (l : List CueC) (s : List Int) : Nat → List (List Int)
  | 0 => []
  | i + 1 => clO l s i ++ clI l s i l.length
theorem clI_low {l : List CueC} {s : List Int} {i : Nat} : ∀ k, k ≤ i + 1 → clI l s i k = []
  | 0, _ => rfl
  | k + 1, h => by rw [clI, clI_low k (by omega), if_neg (fun hx => by have := hx.1; omega)]; rfl
theorem clI_len (l : List CueC) (s : List Int) (i : Nat) : ∀ k, (clI l s i k).length ≤ k
  | 0 => Nat.le_refl _
  | k + 1 => by
    have := clI_len l s i k
    rw [clI, List.length_append]
    split <;> simp <;> omega
theorem clO_len (l : List CueC) (s : List Int) : ∀ i, (clO l s i).length ≤ i * l.length
  | 0 => by simp [clO]
  | i + 1 => by
    have h1 := clO_len l s i
    have h2 := clI_len l s i l.length
    rw [clO, List.length_append, Nat.succ_mul]; omega
theorem clI_two {l : List CueC} {s : List Int} {i : Nat} : ∀ k r, r ∈ clI l s i k → r.length = 2
  | 0, r, h => by cases h
  | k + 1, r, h => by
    rw [clI, List.mem_append] at h
    rcases h with h | h
    · exact clI_two k r h
    · split at h
      · rw [List.mem_singleton.1 h]; rfl
      · cases h
theorem clO_two {l : List CueC} {s : List Int} : ∀ i r, r ∈ clO l s i → r.length = 2
  | 0, r, h => by cases h
  | i + 1, r, h => by
    rw [clO, List.mem_append] at h
    rcases h with h | h
    · exact clO_two i r h
    · exact clI_two _ r h
def clashL (l : List CueC) (s : List Int) : List (List Int) := if okStarts l s = true then clO l s l.length else []
theorem clashL_len (l : List CueC) (s : List Int) : (clashL l s).length ≤ 144 := by
  unfold clashL
  split
  · rename_i hok
    have hz := co_size (okStarts_iff.1 hok).1
    have h1 := clO_len l s l.length
    have h2 := Nat.mul_le_mul hz.2 hz.2
    omega
  · simp
theorem clashL_row {l : List CueC} {s : List Int} (i : Nat) (hi : i < (clashL l s).length) : ((clashL l s)[i]!).length ≤ 2 := by
  have hm : (clashL l s)[i]! ∈ clashL l s := by simp [hi]
  unfold clashL at hm ⊢
  split
  · rename_i hok
    rw [if_pos hok] at hm
    rw [clO_two _ _ hm]; exact Nat.le_refl _
  · rename_i hok
    rw [if_neg hok] at hm
    cases hm
theorem clash_loop {l : List CueC} {s : List Int} (hok : okStarts l s = true) : l.length * l.length ≤ 144 ∧ ∀ i, i ≤ l.length → (clO l s i).length ≤ 144 := by
  have hz := co_size (okStarts_iff.1 hok).1
  have h2 := Nat.mul_le_mul hz.2 hz.2
  refine ⟨h2, fun i hi => ?_⟩
  have h1 := clO_len l s i
  have h3 := Nat.mul_le_mul (Nat.le_trans hi hz.2) hz.2
  omega
theorem clI_yes {l : List CueC} {s : List Int} {i k : Int} (k0 : 0 ≤ k) (i0 : 0 ≤ i) (hik : i < k) (h : clash l s i.toNat k.toNat = true) : clI l s i.toNat k.toNat ++ [[i, k]] = clI l s i.toNat (k + 1).toNat := by
  rw [tn1 k0, clI, if_pos ⟨by omega, h⟩, show ((i.toNat : Nat) : Int) = i by omega, show ((k.toNat : Nat) : Int) = k by omega]
theorem clI_no {l : List CueC} {s : List Int} {i k : Int} (k0 : 0 ≤ k) (h : ¬ clash l s i.toNat k.toNat = true) : clI l s i.toNat k.toNat = clI l s i.toNat (k + 1).toNat := by
  rw [tn1 k0, clI, if_neg (fun hx => h hx.2), List.append_nil]
theorem implCL_ok {l : List CueC} {s : List Int} {Q : List (List Int) → Prop} (hl : l.length ≤ 1048576) (hs : szCu l ≤ 1048576) (h1 : s.length ≤ 1048576) (h : Q (clashL l s)) : m_impl_ClashesIn l s Q := by
  unfold clashL at h
  refine implOS_ok hl hs h1 ⟨fun hc => by rw [if_neg hc] at h; exact h, fun hc => ?_⟩
  have hok := Classical.not_not.1 hc
  rw [if_pos hok] at h
  obtain ⟨hcu, hsl, hsr⟩ := okStarts_iff.1 hok
  have hz := co_size hcu
  have hcl := (clash_loop hok).2
  refine ⟨fun x i => 0 ≤ i ∧ i ≤ l.length ∧ x = clO l s i.toNat, fun x i => (l.length - i).toNat, ⟨by omega, by omega, rfl⟩, ?_⟩
  rintro x i ⟨g0, g1, rfl⟩
  refine ⟨fun hd => ⟨by omega, fun x k => i + 1 ≤ k ∧ k ≤ l.length ∧ x = clO l s i.toNat ++ clI l s i.toNat k.toNat, fun x k => (l.length - k).toNat, ⟨by omega, by omega, by rw [clI_low _ (by omega), List.append_nil]⟩, ?_⟩, fun hd => ?_⟩
  · rintro x k ⟨k0, k1, rfl⟩
    refine ⟨fun he => ?_, fun he => ⟨by omega, ⟨by omega, by omega, ?_⟩, (by dsimp only; omega)⟩⟩
    · have hi := ticks_rng hcu (i := i.toNat) (by omega)
      have hk := ticks_rng hcu (i := k.toNat) (by omega)
      have si := hsr i.toNat (by omega)
      have sk := hsr k.toNat (by omega)
      have hix : ix i s.length := ⟨by omega, by omega⟩
      have hkx : ix k s.length := ⟨by omega, by omega⟩
      have hix2 : ix i l.length := ⟨by omega, by omega⟩
      have hkx2 : ix k l.length := ⟨by omega, by omega⟩
      have hn := hcl i.toNat (by omega)
      have hn2 := clI_len l s i.toNat k.toNat
      have hm := cuN_le hs i.toNat (by omega)
      have hm2 := cuN_le hs k.toNat (by omega)
      refine ⟨hix2, hkx2, _, implCom_ok hm.2 hm2.2 rfl, fun _ => hix, fun _ => hkx, fun _ => hkx2, fun _ => by omega, fun _ => hkx, fun _ => hix, fun _ => hix2, fun _ => by omega, fun hx => ?_, fun hx => ?_⟩
      · refine ⟨by simp; omega, by omega, ⟨by omega, by omega, ?_⟩, (by dsimp only; omega)⟩
        rw [List.append_assoc, clI_yes (by omega) g0 (by omega) (clash_iff.2 hx)]
      · refine ⟨by omega, ⟨by omega, by omega, ?_⟩, (by dsimp only; omega)⟩
        rw [clI_no (by omega) (fun hy => hx (clash_iff.1 hy))]
    · rw [tn1 g0, clO, show k.toNat = l.length by omega]
  · show Q _
    rwa [show i.toNat = l.length by omega]

/- plans -/
def waitOk (l : List CueC) (s : List Int) (i : Nat) (m : Nat) : Prop := ∀ j, j < m → s[((l[i]!).2.1[j]!).toNat]! + (l[((l[i]!).2.1[j]!).toNat]!).1 ≤ s[i]!
def planP (l : List CueC) (s : List Int) : Prop := okStarts l s = true ∧ (∀ i, i < l.length → waitOk l s i (l[i]!).2.1.length) ∧ (clashL l s).length = 0
theorem implPL_ok {l : List CueC} {s : List Int} {Q : Bool → Prop} (hl : l.length ≤ 1048576) (hs : szCu l ≤ 1048576) (h1 : s.length ≤ 1048576) (b : Bool) (hb : b = true ↔ planP l s) (h : Q b) : m_impl_IsPlan l s Q := by
  refine implOS_ok hl hs h1 ⟨fun hc => ?_, fun hc => ?_⟩
  · have : b = false := Bool.eq_false_iff.2 fun hx => hc (hb.1 hx).1
    rw [this] at h; exact h
  have hok := Classical.not_not.1 hc
  obtain ⟨hcu, hsl, hsr⟩ := okStarts_iff.1 hok
  have hz := co_size hcu
  refine ⟨fun i => 0 ≤ i ∧ i ≤ l.length ∧ ∀ j, j < i.toNat → waitOk l s j (l[j]!).2.1.length, fun i => (l.length - i).toNat, ⟨by omega, by omega, fun j hj => absurd hj (by omega)⟩, ?_⟩
  rintro i ⟨g0, g1, g2⟩
  refine ⟨fun hd => ⟨⟨g0, hd⟩, fun k => 0 ≤ k ∧ k ≤ (l[i.toNat]!).2.1.length ∧ waitOk l s i.toNat k.toNat, fun k => ((l[i.toNat]!).2.1.length - k).toNat, ⟨by omega, by omega, fun j hj => absurd hj (by omega)⟩, ?_⟩, fun hd => implCL_ok hl hs h1 ?_⟩
  · rintro k ⟨k0, k1, k2⟩
    have hal := after_len hcu (i := i.toNat) (by omega)
    refine ⟨fun he => ?_, fun he => ⟨by omega, ⟨by omega, by omega, lt_succ' (p := fun j => waitOk l s j (l[j]!).2.1.length) g0 g2 ?_⟩, (by dsimp only; omega)⟩⟩
    · have ha := after_rng hcu (i := i.toNat) (by omega) k.toNat (by omega)
      have hi := ticks_rng hcu (i := ((l[i.toNat]!).2.1[k.toNat]!).toNat) (by omega)
      have sa := hsr ((l[i.toNat]!).2.1[k.toNat]!).toNat (by omega)
      refine ⟨⟨k0, he⟩, ⟨g0, by omega⟩, ⟨ha.1, by omega⟩, ⟨ha.1, by omega⟩, by omega, fun hx => ?_, fun hx => ⟨by omega, ⟨by omega, by omega, ?_⟩, (by dsimp only; omega)⟩⟩
      · have : b = false := Bool.eq_false_iff.2 fun hy => by
          have := (hb.1 hy).2.1 i.toNat (by omega) k.toNat (by omega)
          omega
        rw [this] at h; exact h
      · exact lt_succ' (p := fun j => s[((l[i.toNat]!).2.1[j]!).toNat]! + (l[((l[i.toNat]!).2.1[j]!).toNat]!).1 ≤ s[i.toNat]!) k0 k2 (by omega)
    · rw [show k.toNat = (l[i.toNat]!).2.1.length by omega] at k2; exact k2
  · have : decide (((clashL l s).length : Int) = 0) = b := by
      apply Bool.eq_iff_iff.2
      rw [hb, decide_eq_true_eq]
      exact ⟨fun hx => ⟨hok, fun j hj => g2 j (by omega), by omega⟩, fun hx => by have := hx.2.2; omega⟩
    rw [this]; exact h
end Go.Proofs.Ythmemoealgieaaa
