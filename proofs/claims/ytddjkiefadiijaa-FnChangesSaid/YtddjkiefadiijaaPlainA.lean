/- Plain functions on lists. No program, no statement of the claim. -/
namespace Go.Proofs.Ytddjkiefadiijaa

def ixFrom (n : Int) : List Int → Nat → Int
  | [], _ => -1
  | x :: xs, k => if x = n then k else ixFrom n xs (k + 1)
def ixOf (xs : List Int) (n : Int) : Int := ixFrom n xs 0
theorem drop_cons! {α : Type} [Inhabited α] (xs : List α) (k : Nat) (h : k < xs.length) : xs.drop k = xs[k]! :: xs.drop (k + 1) := by
  rw [List.drop_eq_getElem_cons h]; simp [h]
theorem take_snoc! {α : Type} [Inhabited α] (xs : List α) (k : Nat) (h : k < xs.length) : xs.take (k + 1) = xs.take k ++ [xs[k]!] := by
  rw [List.take_succ_eq_append_getElem h]; simp [h]
theorem ix_step {xs : List Int} {n : Int} {k : Nat} (h : k < xs.length) : ixFrom n (xs.drop k) k = if xs[k]! = n then (k : Int) else ixFrom n (xs.drop (k + 1)) (k + 1) := by
  rw [drop_cons! xs k h]; rfl
theorem ix_end {xs : List Int} {n : Int} {k : Nat} (h : xs.length ≤ k) : ixFrom n (xs.drop k) k = -1 := by
  rw [List.drop_eq_nil_of_le h]; rfl
theorem ixFrom_ge {n : Int} : ∀ (xs : List Int) (k : Nat), ixFrom n xs k = -1 ∨ (k : Int) ≤ ixFrom n xs k
  | [], k => .inl rfl
  | x :: xs, k => by
    unfold ixFrom
    split
    · exact .inr (by omega)
    · rcases ixFrom_ge xs (k + 1) with h | h
      · exact .inl h
      · exact .inr (by omega)
theorem ixFrom_mem {n : Int} : ∀ (xs : List Int) (k : Nat), n ∈ xs ↔ 0 ≤ ixFrom n xs k
  | [], k => by simp [ixFrom]
  | x :: xs, k => by
    unfold ixFrom
    split
    · rename_i h; subst h; simp
    · rename_i h
      rw [← ixFrom_mem xs (k + 1)]
      have h' : ¬ n = x := fun e => h e.symm
      simp [h']
theorem ixOf_mem (xs : List Int) (n : Int) : 0 ≤ ixOf xs n ↔ n ∈ xs := (ixFrom_mem xs 0).symm
/-- the first place of the k-th element is k just if it does not stand before -/
theorem ixFrom_self {n : Int} : ∀ (xs : List Int) (j k : Nat), j < xs.length → xs[j]! = n → (ixFrom n xs k = ((k + j : Nat) : Int) ↔ n ∉ xs.take j)
  | [], j, k, h, _ => by simp at h
  | x :: xs, 0, k, _, h => by simp at h; subst h; simp [ixFrom]
  | x :: xs, j + 1, k, hl, h => by
    have ih := ixFrom_self xs j (k + 1) (by simpa using hl) (by simpa using h)
    unfold ixFrom
    by_cases hx : x = n
    · subst hx; simp
      omega
    · have hx' : ¬ n = x := fun e => hx e.symm
      have e1 : k + 1 + j = k + (j + 1) := by omega
      rw [if_neg hx, ← e1, ih]; simp [hx']
theorem ixOf_self (xs : List Int) (k : Nat) (h : k < xs.length) : ixOf xs xs[k]! = (k : Int) ↔ xs[k]! ∉ xs.take k := by
  have := ixFrom_self xs k 0 h rfl
  simpa [ixOf] using this

/- the number of different elements, counted from place k on -/
def crF (xs : List Int) : Nat → Nat → Nat
  | 0, _ => 0
  | m + 1, k => crF xs m (k + 1) + if xs[k]! ∈ xs.take k then 0 else 1
def countRails (xs : List Int) : Nat := crF xs xs.length 0
theorem crF_le (xs : List Int) : ∀ m k, crF xs m k ≤ m
  | 0, k => Nat.le_refl _
  | m + 1, k => by have := crF_le xs m (k + 1); unfold crF; split <;> omega
theorem cr_step {xs : List Int} {k : Nat} (h : k < xs.length) : crF xs (xs.length - k) k = crF xs (xs.length - (k + 1)) (k + 1) + if xs[k]! ∈ xs.take k then 0 else 1 := by
  have e : xs.length - k = (xs.length - (k + 1)) + 1 := by omega
  rw [e]; rfl
theorem cr_end {xs : List Int} {k : Nat} (h : xs.length ≤ k) : crF xs (xs.length - k) k = 0 := by
  have e : xs.length - k = 0 := by omega
  rw [e]; rfl
theorem cr_next1 {xs : List Int} {k m : Nat} (h : countRails xs = m + crF xs (xs.length - k) k) (hk : k < xs.length) (hn : xs[k]! ∉ xs.take k) : countRails xs = (m + 1) + crF xs (xs.length - (k + 1)) (k + 1) := by
  rw [h, cr_step hk, if_neg hn]; omega
theorem cr_next0 {xs : List Int} {k m : Nat} (h : countRails xs = m + crF xs (xs.length - k) k) (hk : k < xs.length) (hn : ¬ xs[k]! ∉ xs.take k) : countRails xs = m + crF xs (xs.length - (k + 1)) (k + 1) := by
  rw [h, cr_step hk, if_pos (Classical.not_not.1 hn)]; omega
theorem cr_done {xs : List Int} {k m : Nat} (h : countRails xs = m + crF xs (xs.length - k) k) (hk : xs.length ≤ k) : countRails xs = m := by
  rw [h, cr_end hk]; rfl
theorem cr_first {xs : List Int} {i : Nat} {x : Int} (hi : i < xs.length) : (decide (x ∉ xs.take i) && decide (xs[i]! ≠ x)) = decide (x ∉ xs.take (i + 1)) := by
  have : x ∉ xs.take (i + 1) ↔ x ∉ xs.take i ∧ xs[i]! ≠ x := by
    rw [take_snoc! xs i hi]; simp [eq_comm]
  rw [← Bool.decide_and]; exact decide_eq_decide.2 this.symm
theorem all_eq {α : Type} {xs ys : List α} {k : Nat} (hl : xs.length = ys.length) (ht : xs.take k = ys.take k) (hk : xs.length ≤ k) : xs = ys := by
  rw [List.take_of_length_le hk, List.take_of_length_le (by omega)] at ht; exact ht

/- sizes -/
def szR (left n : Int) : Int := if left - n < 0 then -1 else left - n
theorem sz_ok {left n : Int} (h : ¬ szR left n < 0) : szR left n = left - n ∧ n ≤ left := by
  unfold szR at h ⊢
  by_cases h1 : left - n < 0
  · exact absurd (by rw [if_pos h1]; decide) h
  · rw [if_neg h1]; omega

/- stays: puppet, from, to -/
def okS (s : Int × Int × Int) : Bool := decide (0 ≤ s.1 ∧ s.1 ≤ 6 ∧ 0 ≤ s.2.1 ∧ s.2.1 < s.2.2 ∧ s.2.2 ≤ 1000)
def staysOk (xs : List (Int × Int × Int)) : Bool := xs.all okS && decide (xs.length ≤ 20)
theorem so_bad {xs : List (Int × Int × Int)} {k : Nat} (hk : k < xs.length) (h : ¬ okS xs[k]! = true) : staysOk xs = false := by
  unfold staysOk
  rw [Bool.and_eq_false_iff]; left
  rw [List.all_eq_false]
  refine ⟨xs[k]!, ?_, h⟩
  simp [hk]
theorem so_good {xs : List (Int × Int × Int)} {k : Nat} (hk : xs.length ≤ k) (h : (xs.take k).all okS = true) : staysOk xs = decide (xs.length ≤ 20) := by
  rw [List.take_of_length_le hk] at h
  unfold staysOk; rw [h]; rfl
theorem so_step {xs : List (Int × Int × Int)} {k : Nat} (hk : k < xs.length) (h : (xs.take k).all okS = true) (h2 : okS xs[k]! = true) : (xs.take (k + 1)).all okS = true := by
  rw [take_snoc! xs k hk, List.all_append, h]; simpa using h2
theorem okS_iff {s : Int × Int × Int} : okS s = true ↔ 0 ≤ s.1 ∧ s.1 ≤ 6 ∧ 0 ≤ s.2.1 ∧ s.2.1 < s.2.2 ∧ s.2.2 ≤ 1000 := decide_eq_true_iff
theorem in_eq (x a b : Int) : (decide (x ≥ a) && decide (x ≤ b)) = decide (a ≤ x ∧ x ≤ b) := (Bool.decide_and _ _).symm
/- how many stays hold at a tick -/
def atN (xs : List (Int × Int × Int)) (t : Int) : Nat := (xs.filter fun s => decide (s.2.1 ≤ t) && decide (t < s.2.2)).length
theorem at_step {xs : List (Int × Int × Int)} {t : Int} {k : Nat} (hk : k < xs.length) : atN (xs.take (k + 1)) t = atN (xs.take k) t + if xs[k]!.2.1 ≤ t ∧ t < xs[k]!.2.2 then 1 else 0 := by
  unfold atN
  rw [take_snoc! xs k hk, List.filter_append, List.length_append]
  congr 1
  by_cases h : xs[k]!.2.1 ≤ t ∧ t < xs[k]!.2.2
  · rw [if_pos h]; simp only [List.filter_cons, h.1, h.2, decide_true, Bool.and_self, if_true]; rfl
  · rw [if_neg h]
    have : (decide (xs[k]!.2.1 ≤ t) && decide (t < xs[k]!.2.2)) = false := by rw [← Bool.decide_and]; exact decide_eq_false h
    simp only [List.filter_cons, this]; rfl
theorem at_yes {xs : List (Int × Int × Int)} {t : Int} {k : Nat} (hk : k < xs.length) (h : xs[k]!.2.1 ≤ t ∧ t < xs[k]!.2.2) : ((atN (xs.take k) t : Nat) : Int) + 1 = ((atN (xs.take (k + 1)) t : Nat) : Int) := by
  rw [at_step hk, if_pos h]; rfl
theorem at_no {xs : List (Int × Int × Int)} {t : Int} {k : Nat} (hk : k < xs.length) (h : ¬ (xs[k]!.2.1 ≤ t ∧ t < xs[k]!.2.2)) : ((atN (xs.take k) t : Nat) : Int) = ((atN (xs.take (k + 1)) t : Nat) : Int) := by
  rw [at_step hk, if_neg h]; rfl
theorem at_all {xs : List (Int × Int × Int)} {t : Int} {k : Nat} (hk : xs.length ≤ k) : atN (xs.take k) t = atN xs t := by rw [List.take_of_length_le hk]
theorem at_le (xs : List (Int × Int × Int)) (t : Int) : atN xs t ≤ xs.length := List.length_filter_le _ _
theorem at_pos {xs : List (Int × Int × Int)} {t : Int} : 0 < atN xs t ↔ ∃ s ∈ xs, s.2.1 ≤ t ∧ t < s.2.2 := by
  unfold atN; rw [List.length_pos_iff_exists_mem]; simp
/- the most at once -/
def maoT (xs ys : List (Int × Int × Int)) : Int := (ys.map fun s => (atN xs s.2.1 : Int)).foldl max 0
theorem mao_step {xs ys : List (Int × Int × Int)} {k : Nat} (hk : k < ys.length) : max (maoT xs (ys.take k)) (atN xs ys[k]!.2.1 : Int) = maoT xs (ys.take (k + 1)) := by
  unfold maoT; rw [take_snoc! ys k hk]; simp
def mostAtOnce (xs : List (Int × Int × Int)) : Int := if staysOk xs then maoT xs xs else -1
theorem maoT_bd (xs : List (Int × Int × Int)) : ∀ ys : List (Int × Int × Int), ∀ m : Int, 0 ≤ m → m ≤ xs.length → 0 ≤ (ys.map fun s => (atN xs s.2.1 : Int)).foldl max m ∧ (ys.map fun s => (atN xs s.2.1 : Int)).foldl max m ≤ xs.length
  | [], m, h, h2 => ⟨h, h2⟩
  | y :: ys, m, h, h2 => by
    have := at_le xs y.2.1
    exact maoT_bd xs ys (max m (atN xs y.2.1 : Int)) (by omega) (by omega)
theorem mao_bad {xs : List (Int × Int × Int)} (h : staysOk xs = false) : mostAtOnce xs = -1 := by unfold mostAtOnce; rw [h]; rfl
theorem mao_good {xs : List (Int × Int × Int)} (h : staysOk xs = true) {k : Nat} (hk : xs.length ≤ k) : mostAtOnce xs = maoT xs (xs.take k) := by
  unfold mostAtOnce; rw [if_pos h, List.take_of_length_le hk]
theorem eq_stay_true {s t : Int × Int × Int} (h : s.1 = t.1 ∧ s.2.1 = t.2.1 ∧ s.2.2 = t.2.2) : decide (s = t) = true := by
  obtain ⟨a, b, c⟩ := s; obtain ⟨x, y, z⟩ := t; simp at h; simp [h]
theorem eq_stay_false {s t : Int × Int × Int} (h : ¬ (s.1 = t.1 ∧ s.2.1 = t.2.1 ∧ s.2.2 = t.2.2)) : decide (s = t) = false := by
  refine decide_eq_false fun e => h ?_; subst e; exact ⟨rfl, rfl, rfl⟩
/- a stay of some puppets at a tick -/
def busyS (f : Int → Bool) (t : Int) (s : Int × Int × Int) : Bool := (f s.1 && decide (s.2.1 ≤ t)) && decide (t < s.2.2)
theorem busy_mk {f : Int → Bool} {t : Int} {s : Int × Int × Int} (h : (f s.1 = true ∧ s.2.1 ≤ t) ∧ t < s.2.2) : busyS f t s = true := by
  unfold busyS; rw [h.1.1, decide_eq_true h.1.2, decide_eq_true h.2]; rfl
theorem busy_no {f : Int → Bool} {t : Int} {s : Int × Int × Int} (h : (f s.1 = false ∨ ¬ s.2.1 ≤ t) ∨ ¬ t < s.2.2) : busyS f t s = false := by
  unfold busyS
  rcases h with (h | h) | h
  · rw [h]; rfl
  · rw [decide_eq_false h]; simp
  · rw [decide_eq_false h]; simp
theorem any_yes {α : Type} [Inhabited α] {xs : List α} {p : α → Bool} {k : Nat} (hk : k < xs.length) (h : p xs[k]! = true) : xs.any p = true :=
  List.any_eq_true.2 ⟨xs[k]!, by simp [hk], h⟩
theorem any_end {α : Type} {xs : List α} {p : α → Bool} {k : Nat} (hk : xs.length ≤ k) (h : (xs.take k).any p = false) : xs.any p = false := by
  rwa [List.take_of_length_le hk] at h
theorem any_next {α : Type} [Inhabited α] {xs : List α} {p : α → Bool} {k : Nat} (hk : k < xs.length) (h : (xs.take k).any p = false) (h2 : p xs[k]! = false) : (xs.take (k + 1)).any p = false := by
  rw [take_snoc! xs k hk, List.any_append, h]; simpa using h2
theorem busy_all {xs : List (Int × Int × Int)} {t : Int} : xs.any (busyS (fun _ => true) t) = true ↔ 0 < atN xs t := by
  rw [at_pos, List.any_eq_true]
  simp [busyS]
theorem busy_own {xs : List (Int × Int × Int)} {t p : Int} : xs.any (busyS (fun q => decide (q = p)) t) = true ↔ 0 < atN (xs.filter fun s => decide (s.1 = p)) t := by
  rw [at_pos, List.any_eq_true]
  simp [busyS, and_assoc]
def quietF (xs : List (Int × Int × Int)) : Nat → Nat → Nat
  | 0, t => t
  | m + 1, t => if 0 < atN xs (t : Int) then quietF xs m (t + 1) else t
def quietTick (xs : List (Int × Int × Int)) : Int := if staysOk xs then (quietF xs 1001 0 : Nat) else -1
theorem quiet_step {xs : List (Int × Int × Int)} {t : Nat} (ht : t ≤ 1000) (h : 0 < atN xs (t : Int)) : quietF xs (1001 - t) t = quietF xs (1001 - (t + 1)) (t + 1) := by
  have e : 1001 - t = (1001 - (t + 1)) + 1 := by omega
  rw [e, quietF, if_pos h]
theorem quiet_end {xs : List (Int × Int × Int)} {t : Nat} (ht : t ≤ 1000) (h : ¬ 0 < atN xs (t : Int)) : quietF xs (1001 - t) t = t := by
  have e : 1001 - t = (1000 - t) + 1 := by omega
  rw [e, quietF, if_neg h]
theorem at_lt {xs : List (Int × Int × Int)} {t : Int} (hok : staysOk xs = true) (h : 0 < atN xs t) : t < 1000 := by
  obtain ⟨s, hs, h1, h2⟩ := at_pos.1 h
  unfold staysOk at hok
  rw [Bool.and_eq_true] at hok
  have := okS_iff.1 (List.all_eq_true.1 hok.1 s hs)
  omega
theorem quiet_bad {xs : List (Int × Int × Int)} (h : staysOk xs = false) : quietTick xs = -1 := by unfold quietTick; rw [h]; rfl
theorem quiet_good {xs : List (Int × Int × Int)} {t : Nat} (hok : staysOk xs = true) (hr : quietF xs 1001 0 = quietF xs (1001 - t) t) (ht : t ≤ 1000) (h : ¬ 0 < atN xs (t : Int)) : quietTick xs = (t : Int) := by
  unfold quietTick; rw [if_pos hok, hr, quiet_end ht h]
def cntB (l : List (Int × Int × Int)) : Nat → Nat
  | 0 => 0
  | t + 1 => cntB l t + if 0 < atN l (t : Int) then 1 else 0
theorem cntB_le (l : List (Int × Int × Int)) : ∀ t, cntB l t ≤ t
  | 0 => Nat.le_refl _
  | t + 1 => by have := cntB_le l t; unfold cntB; split <;> omega
theorem cnt_yes {l : List (Int × Int × Int)} {t : Nat} (h : 0 < atN l (t : Int)) : ((cntB l t : Nat) : Int) + 1 = ((cntB l (t + 1) : Nat) : Int) := by rw [cntB, if_pos h]; rfl
theorem cnt_no {l : List (Int × Int × Int)} {t : Nat} (h : ¬ 0 < atN l (t : Int)) : ((cntB l t : Nat) : Int) = ((cntB l (t + 1) : Nat) : Int) := by rw [cntB, if_neg h]; rfl
def ownOf (p : Int) (xs : List (Int × Int × Int)) : List (Int × Int × Int) := xs.filter fun s => decide (s.1 = p)
def busyTicks (xs : List (Int × Int × Int)) (p : Int) : Int := if staysOk xs then (cntB (ownOf p xs) 1000 : Nat) else -1
theorem busyT_bad {xs : List (Int × Int × Int)} {p : Int} (h : staysOk xs = false) : busyTicks xs p = -1 := by unfold busyTicks; rw [h]; rfl
theorem busyT_good {xs : List (Int × Int × Int)} {p : Int} {t : Nat} (h : staysOk xs = true) (ht : t ≤ 1000) (h2 : 1000 ≤ t) : busyTicks xs p = ((cntB (ownOf p xs) t : Nat) : Int) := by
  obtain rfl : t = 1000 := by omega
  unfold busyTicks; rw [if_pos h]
theorem own_yes {xs l : List (Int × Int × Int)} {p : Int} {k : Nat} (hk : k < xs.length) (hl : l = ownOf p (xs.take k)) (h : xs[k]!.1 = p) : l ++ [xs[k]!] = ownOf p (xs.take (k + 1)) := by
  subst hl; unfold ownOf; rw [take_snoc! xs k hk, List.filter_append, List.filter_cons_of_pos (by rw [decide_eq_true_eq]; exact h)]; rfl
theorem own_no {xs l : List (Int × Int × Int)} {p : Int} {k : Nat} (hk : k < xs.length) (hl : l = ownOf p (xs.take k)) (h : ¬ xs[k]!.1 = p) : l = ownOf p (xs.take (k + 1)) := by
  subst hl; unfold ownOf; rw [take_snoc! xs k hk, List.filter_append, List.filter_cons_of_neg (by rw [decide_eq_true_eq]; exact h)]; simp
theorem own_all {xs l : List (Int × Int × Int)} {p : Int} {k : Nat} (hk : xs.length ≤ k) (hl : l = ownOf p (xs.take k)) : l = ownOf p xs := by
  rwa [List.take_of_length_le hk] at hl
end Go.Proofs.Ytddjkiefadiijaa
