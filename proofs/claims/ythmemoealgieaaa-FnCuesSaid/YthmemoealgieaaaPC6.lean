/- Plain laws over the models: clashes, plans, simple plans. No program, no statement of the claim. -/
import Derived.Test.YthmemoealgieaaaPC5
namespace Go.Proofs.Ythmemoealgieaaa

def comB (a b : CueC) : Bool := decide (∃ p, p ∈ a.2.2 ∧ p ∈ b.2.2)
theorem comB_iff {a b : CueC} : comB a b = true ↔ ∃ p, p ∈ a.2.2 ∧ p ∈ b.2.2 := decide_eq_true_iff
/- starts that are ones -/
def okStarts (l : List CueC) (s : List Int) : Bool := cuesOk l && decide ((s.length : Int) = (l.length : Int)) && awB 0 10000 s
theorem okStarts_iff {l : List CueC} {s : List Int} : okStarts l s = true ↔ cuesOk l = true ∧ s.length = l.length ∧ ∀ j, j < s.length → 0 ≤ s[j]! ∧ s[j]! ≤ 10000 := by
  unfold okStarts
  rw [Bool.and_eq_true, Bool.and_eq_true, decide_eq_true_eq, awB_iff]
  exact ⟨fun ⟨⟨h1, h2⟩, h3⟩ => ⟨h1, by omega, h3⟩, fun ⟨h1, h2, h3⟩ => ⟨⟨h1, by omega⟩, h3⟩⟩
/- clashes -/
def clash (l : List CueC) (s : List Int) (i k : Nat) : Bool := comB l[i]! l[k]! && decide (s[i]! < s[k]! + (l[k]!).1) && decide (s[k]! < s[i]! + (l[i]!).1)
theorem clash_iff {l : List CueC} {s : List Int} {i k : Nat} : clash l s i k = true ↔ (comB l[i]! l[k]! = true ∧ s[i]! < s[k]! + (l[k]!).1) ∧ s[k]! < s[i]! + (l[i]!).1 := by
  unfold clash; rw [Bool.and_eq_true, Bool.and_eq_true, decide_eq_true_eq, decide_eq_true_eq]
def clI (l : List CueC) (s : List Int) (i : Nat) : Nat → List (List Int)
  | 0 => []
  | k + 1 => clI l s i k ++ if i < k ∧ clash l s i k = true then [[(i : Int), (k : Int)]] else []
def clO (l : List CueC) (s : List Int) : Nat → List (List Int)
  | 0 => []
  | i + 1 => clO l s i ++ clI l s i l.length
theorem clI_low {l : List CueC} {s : List Int} {i : Nat} : ∀ k, k ≤ i + 1 → clI l s i k = []
  | 0, _ => rfl
  | k + 1, h => by rw [clI, clI_low k (by omega), if_neg (fun hx => by have := hx.1; omega)]; rfl
theorem clI_len (l : List CueC) (s : List Int) (i : Nat) : ∀ k, (clI l s i k).length ≤ k
  | 0 => Nat.le_refl _
  | k + 1 => by
    have := clI_len l s i k
    rw [clI, List.length_append]
    split <;> simp <;> omega
theorem clO_len (l : List CueC) (s : List Int) : ∀ i, (clO l s i).length ≤ i * l.length
  | 0 => by simp [clO]
  | i + 1 => by
    have h1 := clO_len l s i
    have h2 := clI_len l s i l.length
    rw [clO, List.length_append, Nat.succ_mul]; omega
theorem clI_two {l : List CueC} {s : List Int} {i : Nat} : ∀ k r, r ∈ clI l s i k → r.length = 2
  | 0, r, h => by cases h
  | k + 1, r, h => by
    rw [clI, List.mem_append] at h
    rcases h with h | h
    · exact clI_two k r h
    · split at h
      · rw [List.mem_singleton.1 h]; rfl
      · cases h
theorem clO_two {l : List CueC} {s : List Int} : ∀ i r, r ∈ clO l s i → r.length = 2
  | 0, r, h => by cases h
  | i + 1, r, h => by
    rw [clO, List.mem_append] at h
    rcases h with h | h
    · exact clO_two i r h
    · exact clI_two _ r h
def clashL (l : List CueC) (s : List Int) : List (List Int) := if okStarts l s = true then clO l s l.length else []
theorem clashL_len (l : List CueC) (s : List Int) : (clashL l s).length ≤ 144 := by
  unfold clashL
  split
  · rename_i hok
    have hz := co_size (okStarts_iff.1 hok).1
    have h1 := clO_len l s l.length
    have h2 := Nat.mul_le_mul hz.2 hz.2
    omega
  · simp
theorem clashL_row {l : List CueC} {s : List Int} (i : Nat) (hi : i < (clashL l s).length) : ((clashL l s)[i]!).length ≤ 2 := by
  have hm : (clashL l s)[i]! ∈ clashL l s := by simp [hi]
  unfold clashL at hm ⊢
  split
  · rename_i hok
    rw [if_pos hok] at hm
    rw [clO_two _ _ hm]; exact Nat.le_refl _
  · rename_i hok
    rw [if_neg hok] at hm
    cases hm
theorem clash_loop {l : List CueC} {s : List Int} (hok : okStarts l s = true) : l.length * l.length ≤ 144 ∧ ∀ i, i ≤ l.length → (clO l s i).length ≤ 144 := by
  have hz := co_size (okStarts_iff.1 hok).1
  have h2 := Nat.mul_le_mul hz.2 hz.2
  refine ⟨h2, fun i hi => ?_⟩
  have h1 := clO_len l s i
  have h3 := Nat.mul_le_mul (Nat.le_trans hi hz.2) hz.2
  omega
theorem clI_yes {l : List CueC} {s : List Int} {i k : Int} (k0 : 0 ≤ k) (i0 : 0 ≤ i) (hik : i < k) (h : clash l s i.toNat k.toNat = true) : clI l s i.toNat k.toNat ++ [[i, k]] = clI l s i.toNat (k + 1).toNat := by
  rw [tn1 k0, clI, if_pos ⟨by omega, h⟩, show ((i.toNat : Nat) : Int) = i by omega, show ((k.toNat : Nat) : Int) = k by omega]
theorem clI_no {l : List CueC} {s : List Int} {i k : Int} (k0 : 0 ≤ k) (h : ¬ clash l s i.toNat k.toNat = true) : clI l s i.toNat k.toNat = clI l s i.toNat (k + 1).toNat := by
  rw [tn1 k0, clI, if_neg (fun hx => h hx.2), List.append_nil]
/- plans -/
def waitOk (l : List CueC) (s : List Int) (i : Nat) (m : Nat) : Prop := ∀ j, j < m → s[((l[i]!).2.1[j]!).toNat]! + (l[((l[i]!).2.1[j]!).toNat]!).1 ≤ s[i]!
def planP (l : List CueC) (s : List Int) : Prop := okStarts l s = true ∧ (∀ i, i < l.length → waitOk l s i (l[i]!).2.1.length) ∧ (clashL l s).length = 0
end Go.Proofs.Ythmemoealgieaaa
