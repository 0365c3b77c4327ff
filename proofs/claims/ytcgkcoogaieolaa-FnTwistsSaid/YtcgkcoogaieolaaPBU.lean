/- Plain facts on full turns and on unwinding all pairs. No program, no statement of the claim. -/
import Derived.Test.YtcgkcoogaieolaaPBT
namespace Go.Proofs.Ytcgkcoogaieolaa

def ftGood (n i k : Nat) (f : Bool) : Bool := decide (fo (upL (n : Int)) (ftL (i : Int) (k : Int) f) = upL (n : Int)) && (List.range n).all fun a => (List.range n).all fun b => a == b || decide (twf a b (upL (n : Int)) (ftL (i : Int) (k : Int) f) = if (a = i ∧ b = k) ∨ (a = k ∧ b = i) then 2 * sg f else 0)
theorem ft_fin : ((List.range 6).all fun n => (List.range n).all fun k => (List.range k).all fun i => ftGood n i k true && ftGood n i k false) = true := by decide +kernel
theorem ft_all {n i k : Nat} (hn : n ≤ 5) (hik : i < k) (hk : k < n) (f : Bool) : fo (upL (n : Int)) (ftL (i : Int) (k : Int) f) = upL (n : Int) ∧ ∀ a b, a < n → b < n → a ≠ b → twf a b (upL (n : Int)) (ftL (i : Int) (k : Int) f) = if (a = i ∧ b = k) ∨ (a = k ∧ b = i) then 2 * sg f else 0 := by
  have h1 := List.all_eq_true.1 ft_fin n (List.mem_range.2 (by omega))
  have h2 := List.all_eq_true.1 h1 k (List.mem_range.2 hk)
  have h3 := List.all_eq_true.1 h2 i (List.mem_range.2 hik)
  rw [Bool.and_eq_true] at h3
  have h4 : ftGood n i k f = true := by cases f; exact h3.2; exact h3.1
  unfold ftGood at h4
  rw [Bool.and_eq_true, decide_eq_true_eq] at h4
  refine ⟨h4.1, fun a b ha hb hab => ?_⟩
  have h5 := List.all_eq_true.1 h4.2 a (List.mem_range.2 ha)
  have h6 := List.all_eq_true.1 h5 b (List.mem_range.2 hb)
  rw [Bool.or_eq_true] at h6
  rcases h6 with h6 | h6
  · exact absurd (by simpa using h6) hab
  · exact of_decide_eq_true h6
theorem ftA_in {n : Nat} {i : Int} (h0 : 0 ≤ i) : ∀ (m : Nat) (p : Int), i ≤ p - m → p + 1 < (n : Int) → inC n (ftA i p m)
  | 0, p, _, _ => fun c hc => by cases hc
  | m + 1, p, h1, h2 => fun c hc => by
    rcases List.mem_cons.1 hc with rfl | hc
    · exact ⟨by dsimp only; omega, by dsimp only; omega⟩
    · exact ftA_in h0 m (p - 1) (by omega) (by omega) c hc
theorem ftB_in {n : Nat} : ∀ (m : Nat) (q : Int), 0 ≤ q → q + m < (n : Int) → inC n (ftB q m)
  | 0, q, _, _ => fun c hc => by cases hc
  | m + 1, q, h1, h2 => fun c hc => by
    rcases List.mem_cons.1 hc with rfl | hc
    · exact ⟨by dsimp only; omega, by dsimp only; omega⟩
    · exact ftB_in m (q + 1) (by omega) (by omega) c hc
theorem ftL_in {n i k : Nat} (hik : i < k) (hk : k < n) (f : Bool) : inC n (ftL (i : Int) (k : Int) f) := by
  intro c hc
  unfold ftL at hc
  rcases List.mem_append.1 hc with hc | hc
  · rcases List.mem_append.1 hc with hc | hc
    · exact ftA_in (by omega) _ _ (by omega) (by omega) c hc
    · have : c = ((i : Int), f) := by
        rcases List.mem_cons.1 hc with h | h
        · exact h
        · exact List.mem_singleton.1 h
      rw [this]; exact ⟨by dsimp only; omega, by dsimp only; omega⟩
  · exact ftB_in _ _ (by omega) (by omega) c hc
theorem rep_in {n : Nat} {x : List Cross} (h : inC n x) : ∀ m, inC n (rep m x)
  | 0 => fun c hc => by simp [rep] at hc
  | m + 1 => fun c hc => by
    rw [rep_step] at hc
    rcases List.mem_append.1 hc with hc | hc
    · exact rep_in h m c hc
    · exact h c hc
theorem unP_at {n : Nat} {l : List Cross} (hn : n ≤ 5) (hn2 : 2 ≤ n) (hc : crossesOk (n : Int) l = true) {i k : Nat} (hik : i < k) (hk : k < n) (he : twf i k (upL (n : Int)) l % 2 = 0) :
    inC n (unP (n : Int) l [(i : Int), (k : Int)]) ∧ fo (upL (n : Int)) (unP (n : Int) l [(i : Int), (k : Int)]) = upL (n : Int) ∧ ∀ a b, a < b → b < n → twf a b (upL (n : Int)) (unP (n : Int) l [(i : Int), (k : Int)]) = if a = i ∧ b = k then - twf a b (upL (n : Int)) l else 0 := by
  have ht : toA (n : Int) l (i : Int) (k : Int) = twf i k (upL (n : Int)) l := by
    rw [toA_in hc (by omega) (by omega), twT_at hc (by omega) (by omega)]
  obtain ⟨f1, f2⟩ := ft_yes (f := decide (twf i k (upL (n : Int)) l < 0)) (show 2 ≤ (n : Int) ∧ (n : Int) ≤ 7 ∧ 0 ≤ (i : Int) ∧ (i : Int) < (k : Int) ∧ (k : Int) < (n : Int) by omega)
  have e : unP (n : Int) l [(i : Int), (k : Int)] = rep (Int.tdiv (max (twf i k (upL (n : Int)) l) (-(twf i k (upL (n : Int)) l))) 2).toNat (ftL (i : Int) (k : Int) (decide (twf i k (upL (n : Int)) l < 0))) := by
    unfold unP
    show rep (Int.tdiv (max (toA (n : Int) l (i : Int) (k : Int)) (-(toA (n : Int) l (i : Int) (k : Int)))) 2).toNat (ftR (n : Int) (i : Int) (k : Int) (decide (toA (n : Int) l (i : Int) (k : Int) < 0))) = _
    rw [ht, f1]
  rw [e]
  obtain ⟨g1, g2⟩ := ft_all hn hik hk (decide (twf i k (upL (n : Int)) l < 0))
  refine ⟨rep_in (ftL_in hik hk _) _, (twf_rep (a := 0) (b := 0) g1 _).1, fun a b hab hb => ?_⟩
  rw [(twf_rep (a := a) (b := b) g1 _).2, g2 a b (by omega) hb (by omega)]
  by_cases h : a = i ∧ b = k
  · obtain ⟨rfl, rfl⟩ := h
    rw [if_pos (.inl ⟨rfl, rfl⟩), if_pos ⟨rfl, rfl⟩]
    have htd : Int.tdiv (max (twf a b (upL (n : Int)) l) (-(twf a b (upL (n : Int)) l))) 2 = (max (twf a b (upL (n : Int)) l) (-(twf a b (upL (n : Int)) l))) / 2 := Int.tdiv_eq_ediv_of_nonneg (by omega)
    rw [htd]
    by_cases hneg : twf a b (upL (n : Int)) l < 0
    · rw [decide_eq_true hneg]
      show _ * (2 * 1) = _
      omega
    · rw [decide_eq_false hneg]
      show _ * (2 * (-1)) = _
      omega
  · rw [if_neg (by omega), if_neg h, Int.mul_zero]
end Go.Proofs.Ytcgkcoogaieolaa
