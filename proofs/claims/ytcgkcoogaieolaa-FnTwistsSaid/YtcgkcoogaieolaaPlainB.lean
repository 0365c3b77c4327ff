/- Plain functions on crossings. No program, no statement of the claim. -/
import Derived.Test.YtcgkcoogaieolaaPlainA
namespace Go.Proofs.Ytcgkcoogaieolaa

/- marks -/
def mkC (k : Int) (n : Nat) : List (Int × Bool) := (List.range n).map fun i : Nat => (k + 2 * (i : Int), decide (Int.tmod (k + 2 * (i : Int) + 1) 3 = 0))
theorem mkC_len (k : Int) (n : Nat) : (mkC k n).length = n := by simp [mkC]
theorem mkC_get (k : Int) (n i : Nat) (h : i < n) : (mkC k n)[i]! = (k + 2 * (i : Int), decide (Int.tmod (k + 2 * (i : Int) + 1) 3 = 0)) := by simp [mkC, h]
theorem mkC_fst (k : Int) (n i : Nat) (h : i < n) : (mkC k n)[i]!.1 = k + 2 * (i : Int) := by rw [mkC_get k n i h]
theorem mkC_snd (k : Int) (n i : Nat) (h : i < n) : (mkC k n)[i]!.2 = decide (Int.tmod (k + 2 * (i : Int) + 1) 3 = 0) := by rw [mkC_get k n i h]
theorem mark_step {l M : List (Int × Bool)} {i : Nat} {x : Int} {y z : Bool} (hl : l.length = M.length) (hi : i < M.length) (ht : l.take i = M.take i) (hx : M[i]! = (x, y)) :
    ((l.set i (x, z)).set i ((l.set i (x, z))[i]!.1, y)).take (i + 1) = M.take (i + 1) := by
  have e1 : (l.set i (x, z))[i]! = (x, z) := by simp [show i < l.length by omega]
  rw [e1, List.set_set, take_snoc! M i hi, hx, List.take_set, List.take_succ_eq_append_getElem (by omega), ht]
  have h2 : (List.take i M).length = i := by simp; omega
  rw [List.set_append_right _ _ (by omega), h2]; simp
theorem all_take {α : Type} {l M : List α} {i : Nat} (hl : l.length = M.length) (ht : l.take i = M.take i) (hi : M.length ≤ i) : l = M := by
  rwa [List.take_of_length_le (by omega), List.take_of_length_le hi] at ht
theorem eq_cross_true {s t : Int × Bool} (h : s.1 = t.1 ∧ s.2 = t.2) : decide (s = t) = true := by
  obtain ⟨a, b⟩ := s; obtain ⟨x, y⟩ := t; simp at h; simp [h]
theorem eq_cross_false {s t : Int × Bool} (h : ¬ (s.1 = t.1 ∧ s.2 = t.2)) : decide (s = t) = false := by
  refine decide_eq_false fun e => h ?_; subst e; exact ⟨rfl, rfl⟩

/- a full turn -/
def ftA (i p : Int) : Nat → List (Int × Bool)
  | 0 => []
  | m + 1 => (p, false) :: ftA i (p - 1) m
def ftB (q : Int) : Nat → List (Int × Bool)
  | 0 => []
  | m + 1 => (q, true) :: ftB (q + 1) m
def ftL (i k : Int) (f : Bool) : List (Int × Bool) := ftA i (k - 1) (k - 1 - i).toNat ++ [(i, f), (i, f)] ++ ftB (i + 1) (k - 1 - i).toNat
def ftOk (n i k : Int) : Bool := decide (2 ≤ n ∧ n ≤ 7 ∧ 0 ≤ i ∧ i < k ∧ k < n)
def ftR (n i k : Int) (f : Bool) : List (Int × Bool) := if ftOk n i k then ftL i k f else []
theorem ft_no {n i k : Int} {f : Bool} (h : ¬ (2 ≤ n ∧ n ≤ 7 ∧ 0 ≤ i ∧ i < k ∧ k < n)) : ftR n i k f = [] ∧ ftOk n i k = false := by
  have : ftOk n i k = false := decide_eq_false h
  unfold ftR; rw [this]; exact ⟨rfl, rfl⟩
theorem ft_yes {n i k : Int} {f : Bool} (h : 2 ≤ n ∧ n ≤ 7 ∧ 0 ≤ i ∧ i < k ∧ k < n) : ftR n i k f = ftL i k f ∧ ftOk n i k = true := by
  have : ftOk n i k = true := decide_eq_true h
  unfold ftR; rw [this]; exact ⟨rfl, rfl⟩
theorem ftA_step {i p : Int} (h : i < p) : ftA i p (p - i).toNat = (p, false) :: ftA i (p - 1) (p - 1 - i).toNat := by
  have e : (p - i).toNat = (p - 1 - i).toNat + 1 := by omega
  rw [e]; rfl
theorem ftA_end {i p : Int} (h : p ≤ i) : ftA i p (p - i).toNat = [] := by
  have e : (p - i).toNat = 0 := by omega
  rw [e]; rfl
theorem ftB_step {q k : Int} (h : q < k) : ftB q (k - q).toNat = (q, true) :: ftB (q + 1) (k - (q + 1)).toNat := by
  have e : (k - q).toNat = (k - (q + 1)).toNat + 1 := by omega
  rw [e]; rfl
theorem ftB_end {q k : Int} (h : k ≤ q) : ftB q (k - q).toNat = [] := by
  have e : (k - q).toNat = 0 := by omega
  rw [e]; rfl
theorem ft_start {i k : Int} (f : Bool) : ftA i (k - 1) (k - 1 - i).toNat = [] ++ ftA i (k - 1) (k - 1 - i).toNat := rfl
theorem ft_nextA {i p : Int} {L l : List (Int × Bool)} (h : L = l ++ ftA i p (p - i).toNat) (hp : i < p) : L = (l ++ [(p, false)]) ++ ftA i (p - 1) (p - 1 - i).toNat := by
  rw [h, ftA_step hp]; simp
theorem ft_doneA {i p k : Int} {f : Bool} {l : List (Int × Bool)} (h : ftA i (k - 1) (k - 1 - i).toNat = l ++ ftA i p (p - i).toNat) (hp : p ≤ i) : ftL i k f = (l ++ [(i, f), (i, f)]) ++ ftB (i + 1) (k - (i + 1)).toNat := by
  rw [ftA_end hp, List.append_nil] at h
  unfold ftL; rw [h]
  have e : k - 1 - i = k - (i + 1) := by omega
  rw [e]
theorem ft_nextB {q k : Int} {L l : List (Int × Bool)} (h : L = l ++ ftB q (k - q).toNat) (hp : q < k) : L = (l ++ [(q, true)]) ++ ftB (q + 1) (k - (q + 1)).toNat := by
  rw [h, ftB_step hp]; simp
theorem ft_doneB {q k : Int} {L l : List (Int × Bool)} (h : L = l ++ ftB q (k - q).toNat) (hp : k ≤ q) : L = l := by
  rw [h, ftB_end hp, List.append_nil]
theorem ftA_len (i : Int) : ∀ (m : Nat) (p : Int), (ftA i p m).length = m
  | 0, _ => rfl
  | m + 1, p => by simp [ftA, ftA_len i m]
theorem ftB_len : ∀ (m : Nat) (q : Int), (ftB q m).length = m
  | 0, _ => rfl
  | m + 1, q => by simp [ftB, ftB_len m]
theorem ftR_len (n i k : Int) (f : Bool) : (ftR n i k f).length ≤ 14 := by
  by_cases h : 2 ≤ n ∧ n ≤ 7 ∧ 0 ≤ i ∧ i < k ∧ k < n
  · rw [(ft_yes h).1]; unfold ftL
    simp only [List.length_append, ftA_len, ftB_len, List.length_cons, List.length_nil]; omega
  · rw [(ft_no h).1]; simp

/- crossings that a rope of n strands can make -/
def okCr (n : Int) (c : Int × Bool) : Bool := decide (0 ≤ c.1 ∧ c.1 ≤ n - 2)
theorem okCr_iff {n : Int} {c : Int × Bool} : okCr n c = true ↔ 0 ≤ c.1 ∧ c.1 ≤ n - 2 := decide_eq_true_iff
def crossesOk (n : Int) (xs : List (Int × Bool)) : Bool := decide (1 ≤ n ∧ n ≤ 7 ∧ xs.length ≤ 40) && xs.all (okCr n)
theorem co_size {n : Int} {xs : List (Int × Bool)} (h : ¬ (1 ≤ n ∧ n ≤ 7 ∧ xs.length ≤ 40)) : crossesOk n xs = false := by
  unfold crossesOk; rw [decide_eq_false h]; rfl
theorem co_bad {n : Int} {xs : List (Int × Bool)} {k : Nat} (hk : k < xs.length) (h : ¬ okCr n xs[k]! = true) : crossesOk n xs = false := by
  unfold crossesOk
  rw [Bool.and_eq_false_iff]; right
  rw [List.all_eq_false]
  refine ⟨xs[k]!, ?_, h⟩
  simp [hk]
theorem co_step {n : Int} {xs : List (Int × Bool)} {k : Nat} (hk : k < xs.length) (h : (xs.take k).all (okCr n) = true) (h2 : okCr n xs[k]! = true) : (xs.take (k + 1)).all (okCr n) = true := by
  rw [take_snoc! xs k hk, List.all_append, h]; simpa using h2
theorem co_good {n : Int} {xs : List (Int × Bool)} {k : Nat} (hs : 1 ≤ n ∧ n ≤ 7 ∧ xs.length ≤ 40) (hk : xs.length ≤ k) (h : (xs.take k).all (okCr n) = true) : crossesOk n xs = true := by
  rw [List.take_of_length_le hk] at h
  unfold crossesOk; rw [h, decide_eq_true hs]; rfl
theorem co_yes {n : Int} {xs : List (Int × Bool)} (h : crossesOk n xs = true) : 1 ≤ n ∧ n ≤ 7 ∧ xs.length ≤ 40 ∧ ∀ k, k < xs.length → 0 ≤ xs[k]!.1 ∧ xs[k]!.1 ≤ n - 2 := by
  unfold crossesOk at h
  rw [Bool.and_eq_true, decide_eq_true_iff, List.all_eq_true] at h
  exact ⟨h.1.1, h.1.2.1, h.1.2.2, fun k hk => okCr_iff.1 (h.2 _ (by simp [hk]))⟩
end Go.Proofs.Ytcgkcoogaieolaa
