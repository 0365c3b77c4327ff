/- Plain laws over the models: full turns; unwinding. No program, no statement of the claim. -/
import Derived.Test.YtcgkcoogaieolaaPB6
namespace Go.Proofs.Ytcgkcoogaieolaa

theorem size_ok {t : Int} {Q : Int → Prop} (ht : -1000000 ≤ t ∧ t ≤ 1000000) (h : Q (max t (-t))) : m_impl_size t Q := ⟨by omega, h⟩
theorem ft_lenA {i p k : Int} {x : List Cross} (h : ftA i (k - 1) (k - 1 - i).toNat = x ++ ftA i p (p - i).toNat) : x.length ≤ (k - 1 - i).toNat := by
  have := congrArg List.length h
  rw [List.length_append, ftA_len, ftA_len] at this; omega
theorem ft_lenL {i k : Int} {f : Bool} : (ftL i k f).length = 2 * (k - 1 - i).toNat + 2 := by
  unfold ftL
  simp only [List.length_append, ftA_len, ftB_len, List.length_cons, List.length_nil]; omega
/- unwinding -/
def rep (m : Nat) (x : List Cross) : List Cross := (List.replicate m x).flatten
theorem rep_step (m : Nat) (x : List Cross) : rep (m + 1) x = rep m x ++ x := by
  unfold rep; rw [List.replicate_succ', List.flatten_append]; simp
theorem rep_len (m : Nat) (x : List Cross) : (rep m x).length = m * x.length := by
  unfold rep; simp
def unP (n : Int) (l : List Cross) (p : List Int) : List Cross := rep (Int.tdiv (max (toA n l p[0]! p[1]!) (-(toA n l p[0]! p[1]!))) 2).toNat (ftR n p[0]! p[1]! (decide (toA n l p[0]! p[1]! < 0)))
def unW (n : Int) (l : List Cross) : List Cross := if home n l = true then (wpA n l).flatMap (unP n l) else []
theorem half {t : Int} (h : -40 ≤ t ∧ t ≤ 40) : 0 ≤ Int.tdiv (max t (-t)) 2 ∧ Int.tdiv (max t (-t)) 2 ≤ 20 := by
  rw [Int.tdiv_eq_ediv_of_nonneg (by omega)]; omega
theorem unP_len (n : Int) (l : List Cross) (p : List Int) : (unP n l p).length ≤ 280 := by
  unfold unP
  rw [rep_len]
  have h1 := half (toA_bd n l p[0]! p[1]!)
  have h2 := ftR_len n p[0]! p[1]! (decide (toA n l p[0]! p[1]! < 0))
  exact Nat.le_trans (Nat.mul_le_mul (show _ ≤ 20 by omega) h2) (by decide)
theorem un_len (n : Int) (l : List Cross) : ∀ w : List (List Int), (w.flatMap (unP n l)).length ≤ 280 * w.length
  | [] => by simp
  | p :: w => by
    rw [List.flatMap_cons, List.length_append, List.length_cons]
    have := unP_len n l p
    have := un_len n l w
    omega
theorem un_step (n : Int) (l : List Cross) (w : List (List Int)) (i : Nat) (h : i < w.length) : (w.take (i + 1)).flatMap (unP n l) = (w.take i).flatMap (unP n l) ++ unP n l w[i]! := by
  rw [take_snoc! w i h, List.flatMap_append]; simp
theorem wpA_len (n : Int) (l : List Cross) : (wpA n l).length ≤ 49 := by
  unfold wpA
  have h7 := twA_len (n := n) (l := l)
  have := W_len (twA n l) (twA n l).length h7 (twA n l).length
  omega
theorem home_iff {n : Int} {l : List Cross} : home n l = true ↔ crossesOk n l = true ∧ ord n l = upL n := by unfold home; simp
theorem wpA_get {n : Int} {l : List Cross} (hc : crossesOk n l = true) {i : Nat} (hi : i < (wpA n l).length) : ∃ a b : Nat, a < b ∧ b < n.toNat ∧ (wpA n l)[i]! = [(a : Int), (b : Int)] := by
  have hm : (wpA n l)[i]! ∈ wpA n l := by simp [hi]
  obtain ⟨a, b, h1, h2, h3, _⟩ := W_mem hm
  have hl : (twA n l).length = n.toNat := by unfold twA; rw [if_pos hc]; exact (tw_tb hc l.length (Nat.le_refl _)).len
  exact ⟨a, b, h1, by omega, h3⟩
theorem toA_in {n : Int} {l : List Cross} (hc : crossesOk n l = true) {a b : Nat} (ha : a < n.toNat) (hb : b < n.toNat) : toA n l (a : Int) (b : Int) = ((twT n l)[a]!)[b]! := by
  unfold toA; rw [if_pos ⟨hc, by omega, by omega, by omega, by omega⟩]; simp
end Go.Proofs.Ytcgkcoogaieolaa
