/- Plain functions on lists. No program, no statement of the claim. -/
namespace Go.Proofs.Ytenoommpckddlaa

def ixFrom (n : Int) : List Int → Nat → Int
  | [], _ => -1
  | x :: xs, k => if x = n then k else ixFrom n xs (k + 1)
def ixOf (xs : List Int) (n : Int) : Int := ixFrom n xs 0
theorem drop_cons! {α : Type} [Inhabited α] (xs : List α) (k : Nat) (h : k < xs.length) : xs.drop k = xs[k]! :: xs.drop (k + 1) := by
  rw [List.drop_eq_getElem_cons h]; simp [h]
theorem take_snoc! {α : Type} [Inhabited α] (xs : List α) (k : Nat) (h : k < xs.length) : xs.take (k + 1) = xs.take k ++ [xs[k]!] := by
  rw [List.take_succ_eq_append_getElem h]; simp [h]
theorem ix_step {xs : List Int} {n : Int} {k : Nat} (h : k < xs.length) : ixFrom n (xs.drop k) k = if xs[k]! = n then (k : Int) else ixFrom n (xs.drop (k + 1)) (k + 1) := by
  rw [drop_cons! xs k h]; rfl
theorem ix_end {xs : List Int} {n : Int} {k : Nat} (h : xs.length ≤ k) : ixFrom n (xs.drop k) k = -1 := by
  rw [List.drop_eq_nil_of_le h]; rfl
theorem ixFrom_ge {n : Int} : ∀ (xs : List Int) (k : Nat), ixFrom n xs k = -1 ∨ (k : Int) ≤ ixFrom n xs k
  | [], k => .inl rfl
  | x :: xs, k => by
    unfold ixFrom
    split
    · exact .inr (by omega)
    · rcases ixFrom_ge xs (k + 1) with h | h
      · exact .inl h
      · exact .inr (by omega)
theorem ixFrom_mem {n : Int} : ∀ (xs : List Int) (k : Nat), n ∈ xs ↔ 0 ≤ ixFrom n xs k
  | [], k => by simp [ixFrom]
  | x :: xs, k => by
    unfold ixFrom
    split
    · rename_i h; subst h; simp
    · rename_i h
      rw [← ixFrom_mem xs (k + 1)]
      have h' : ¬ n = x := fun e => h e.symm
      simp [h']
theorem ixOf_mem (xs : List Int) (n : Int) : 0 ≤ ixOf xs n ↔ n ∈ xs := (ixFrom_mem xs 0).symm
/-- the first place of the k-th element is k just if it does not stand before -/
theorem ixFrom_self {n : Int} : ∀ (xs : List Int) (j k : Nat), j < xs.length → xs[j]! = n → (ixFrom n xs k = ((k + j : Nat) : Int) ↔ n ∉ xs.take j)
  | [], j, k, h, _ => by simp at h
  | x :: xs, 0, k, _, h => by simp at h; subst h; simp [ixFrom]
  | x :: xs, j + 1, k, hl, h => by
    have ih := ixFrom_self xs j (k + 1) (by simpa using hl) (by simpa using h)
    unfold ixFrom
    by_cases hx : x = n
    · subst hx; simp
      omega
    · have hx' : ¬ n = x := fun e => hx e.symm
      have e1 : k + 1 + j = k + (j + 1) := by omega
      rw [if_neg hx, ← e1, ih]; simp [hx']
theorem ixOf_self (xs : List Int) (k : Nat) (h : k < xs.length) : ixOf xs xs[k]! = (k : Int) ↔ xs[k]! ∉ xs.take k := by
  have := ixFrom_self xs k 0 h rfl
  simpa [ixOf] using this

/- the number of different elements, counted from place k on -/
def crF (xs : List Int) : Nat → Nat → Nat
  | 0, _ => 0
  | m + 1, k => crF xs m (k + 1) + if xs[k]! ∈ xs.take k then 0 else 1
def countRails (xs : List Int) : Nat := crF xs xs.length 0
theorem crF_le (xs : List Int) : ∀ m k, crF xs m k ≤ m
  | 0, k => Nat.le_refl _
  | m + 1, k => by have := crF_le xs m (k + 1); unfold crF; split <;> omega
theorem cr_step {xs : List Int} {k : Nat} (h : k < xs.length) : crF xs (xs.length - k) k = crF xs (xs.length - (k + 1)) (k + 1) + if xs[k]! ∈ xs.take k then 0 else 1 := by
  have e : xs.length - k = (xs.length - (k + 1)) + 1 := by omega
  rw [e]; rfl
theorem cr_end {xs : List Int} {k : Nat} (h : xs.length ≤ k) : crF xs (xs.length - k) k = 0 := by
  have e : xs.length - k = 0 := by omega
  rw [e]; rfl
theorem cr_next1 {xs : List Int} {k m : Nat} (h : countRails xs = m + crF xs (xs.length - k) k) (hk : k < xs.length) (hn : xs[k]! ∉ xs.take k) : countRails xs = (m + 1) + crF xs (xs.length - (k + 1)) (k + 1) := by
  rw [h, cr_step hk, if_neg hn]; omega
theorem cr_next0 {xs : List Int} {k m : Nat} (h : countRails xs = m + crF xs (xs.length - k) k) (hk : k < xs.length) (hn : ¬ xs[k]! ∉ xs.take k) : countRails xs = m + crF xs (xs.length - (k + 1)) (k + 1) := by
  rw [h, cr_step hk, if_pos (Classical.not_not.1 hn)]; omega
theorem cr_done {xs : List Int} {k m : Nat} (h : countRails xs = m + crF xs (xs.length - k) k) (hk : xs.length ≤ k) : countRails xs = m := by
  rw [h, cr_end hk]; rfl
theorem cr_first {xs : List Int} {i : Nat} {x : Int} (hi : i < xs.length) : (decide (x ∉ xs.take i) && decide (xs[i]! ≠ x)) = decide (x ∉ xs.take (i + 1)) := by
  have : x ∉ xs.take (i + 1) ↔ x ∉ xs.take i ∧ xs[i]! ≠ x := by
    rw [take_snoc! xs i hi]; simp [eq_comm]
  rw [← Bool.decide_and]; exact decide_eq_decide.2 this.symm
theorem all_eq {α : Type} {xs ys : List α} {k : Nat} (hl : xs.length = ys.length) (ht : xs.take k = ys.take k) (hk : xs.length ≤ k) : xs = ys := by
  rw [List.take_of_length_le hk, List.take_of_length_le (by omega)] at ht; exact ht
end Go.Proofs.Ytenoommpckddlaa
