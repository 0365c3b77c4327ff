/- Plain laws over the models: full turns; unwinding. No program, no statement of the claim. -/
import Derived.Test.YtcgkcoogaieolaaPB6
namespace Go.Proofs.Ytcgkcoogaieolaa

theorem size_ok {t : Int} {Q : Int → Prop} (ht : -1000000 ≤ t ∧ t ≤ 1000000) (h : Q (max t (-t))) : m_impl_size t Q := ⟨by omega, h⟩
theorem ft_lenA {i p k : Int} {x : List Cross} (h : ftA i (k - 1) (k - 1 - i).toNat = x ++ ftA i p (p - i).toNat) : x.length ≤ (k - 1 - i).toNat := by
  have := congrArg List.length h
  rw [List.length_append, ftA_len, ftA_len] at this; omega
theorem ft_lenL {i k : Int} {f : Bool} : (ftL i k f).length = 2 * (k - 1 - i).toNat + 2 := by
  unfold ftL
  simp only [List.length_append, ftA_len, ftB_len, List.length_cons, List.length_nil]; omega
theorem implFT_ok {n i k : Int} {f : Bool} {Q : List Cross → Bool → Prop} (h : Q (ftR n i k f) (ftOk n i k)) : m_impl_FullTurn n i k f Q := by
  refine within_ok ⟨fun hc => ?_, fun hc => ?_⟩
  · simp only [decide_eq_true_eq] at hc
    obtain ⟨e1, e2⟩ := ft_no (n := n) (i := i) (k := k) (f := f) (by omega)
    rw [e1, e2] at h; exact h
  · simp only [decide_eq_true_eq] at hc
    have hok : 2 ≤ n ∧ n ≤ 7 ∧ 0 ≤ i ∧ i < k ∧ k < n := by omega
    obtain ⟨e1, e2⟩ := ft_yes (f := f) hok
    rw [e1, e2] at h
    refine ⟨by omega, fun x p => i ≤ p ∧ p ≤ k - 1 ∧ ftA i (k - 1) (k - 1 - i).toNat = x ++ ftA i p (p - i).toNat, fun x p => (p - i).toNat, ⟨by omega, by omega, rfl⟩, ?_⟩
    rintro x p ⟨p0, p1, hx⟩
    have hlx := ft_lenA hx
    refine ⟨fun hp => ⟨by omega, by omega, ⟨by omega, by omega, ft_nextA hx hp⟩, (by dsimp only; omega)⟩, fun hp => ⟨by omega, by omega, ?_⟩⟩
    have hd := ft_doneA (f := f) hx (by omega)
    have e : i + 1 = i + 1 := rfl
    refine ⟨fun x q => i + 1 ≤ q ∧ q ≤ k ∧ ftL i k f = x ++ ftB q (k - q).toNat, fun x q => (k - q).toNat, ⟨by omega, by omega, hd⟩, ?_⟩
    rintro x q ⟨q0, q1, hx2⟩
    have hl2 : x.length ≤ 20 := by
      have := congrArg List.length hx2
      rw [List.length_append, ft_lenL] at this; omega
    refine ⟨fun hq => ⟨by omega, by omega, ⟨by omega, by omega, ft_nextB hx2 hq⟩, (by dsimp only; omega)⟩, fun hq => ?_⟩
    have := ft_doneB hx2 (by omega)
    show Q x true
    rw [← this]; exact h
/- unwinding -/
def rep (m : Nat) (x : List Cross) : List Cross := (List.replicate m x).flatten
theorem rep_step (m : Nat) (x : List Cross) : rep (m + 1) x = rep m x ++ x := by
  unfold rep; rw [List.replicate_succ', List.flatten_append]; simp
theorem rep_len (m : Nat) (x : List Cross) : (rep m x).length = m * x.length := by
  unfold rep; simp
def unP (n : Int) (l : List Cross) (p : List Int) : List Cross := rep (Int.tdiv (max (toA n l p[0]! p[1]!) (-(toA n l p[0]! p[1]!))) 2).toNat (ftR n p[0]! p[1]! (decide (toA n l p[0]! p[1]! < 0)))
def unW (n : Int) (l : List Cross) : List Cross := if home n l = true then (wpA n l).flatMap (unP n l) else []
theorem half {t : Int} (h : -40 ≤ t ∧ t ≤ 40) : 0 ≤ Int.tdiv (max t (-t)) 2 ∧ Int.tdiv (max t (-t)) 2 ≤ 20 := by
  rw [Int.tdiv_eq_ediv_of_nonneg (by omega)]; omega
theorem unP_len (n : Int) (l : List Cross) (p : List Int) : (unP n l p).length ≤ 280 := by
  unfold unP
  rw [rep_len]
  have h1 := half (toA_bd n l p[0]! p[1]!)
  have h2 := ftR_len n p[0]! p[1]! (decide (toA n l p[0]! p[1]! < 0))
  exact Nat.le_trans (Nat.mul_le_mul (show _ ≤ 20 by omega) h2) (by decide)
theorem un_len (n : Int) (l : List Cross) : ∀ w : List (List Int), (w.flatMap (unP n l)).length ≤ 280 * w.length
  | [] => by simp
  | p :: w => by
    rw [List.flatMap_cons, List.length_append, List.length_cons]
    have := unP_len n l p
    have := un_len n l w
    omega
theorem un_step (n : Int) (l : List Cross) (w : List (List Int)) (i : Nat) (h : i < w.length) : (w.take (i + 1)).flatMap (unP n l) = (w.take i).flatMap (unP n l) ++ unP n l w[i]! := by
  rw [take_snoc! w i h, List.flatMap_append]; simp
theorem wpA_len (n : Int) (l : List Cross) : (wpA n l).length ≤ 49 := by
  unfold wpA
  have h7 := twA_len (n := n) (l := l)
  have := W_len (twA n l) (twA n l).length h7 (twA n l).length
  omega
theorem home_iff {n : Int} {l : List Cross} : home n l = true ↔ crossesOk n l = true ∧ ord n l = upL n := by unfold home; simp
theorem wpA_get {n : Int} {l : List Cross} (hc : crossesOk n l = true) {i : Nat} (hi : i < (wpA n l).length) : ∃ a b : Nat, a < b ∧ b < n.toNat ∧ (wpA n l)[i]! = [(a : Int), (b : Int)] := by
  have hm : (wpA n l)[i]! ∈ wpA n l := by simp [hi]
  obtain ⟨a, b, h1, h2, h3, _⟩ := W_mem hm
  have hl : (twA n l).length = n.toNat := by unfold twA; rw [if_pos hc]; exact (tw_tb hc l.length (Nat.le_refl _)).len
  exact ⟨a, b, h1, by omega, h3⟩
theorem toA_in {n : Int} {l : List Cross} (hc : crossesOk n l = true) {a b : Nat} (ha : a < n.toNat) (hb : b < n.toNat) : toA n l (a : Int) (b : Int) = ((twT n l)[a]!)[b]! := by
  unfold toA; rw [if_pos ⟨hc, by omega, by omega, by omega, by omega⟩]; simp
theorem implUW_ok {n : Int} {l : List Cross} {Q : List Cross → Bool → Prop} (h : Q (unW n l) (home n l)) : m_impl_UnwindAll n l Q := by
  refine implCO_ok ⟨decide (ordA n l = upL n), fun hc => isHome_ok (by have := co_yes (Classical.not_not.1 hc); omega) rfl, fun hc => ?_, fun hc => ?_⟩
  · have e : home n l = false := by
      cases hx : home n l with
      | false => rfl
      | true =>
        obtain ⟨h1, h2⟩ := home_iff.1 hx
        rcases hc with hc | hc
        · exact absurd h1 hc
        · exact absurd (decide_eq_true (by unfold ordA; rw [if_pos h1]; exact h2)) hc
    unfold unW at h; rw [e, if_neg (by simp)] at h; exact h
  · have h0 : crossesOk n l = true := Classical.not_not.1 (fun h => hc (.inl h))
    have h1 : ordA n l = upL n := of_decide_eq_true (Classical.not_not.1 (fun h => hc (.inr h)))
    unfold ordA at h1; rw [if_pos h0] at h1
    have hh := home_iff.2 ⟨h0, h1⟩
    unfold unW at h; rw [hh, if_pos rfl] at h
    obtain ⟨n1, n2, n3, _⟩ := co_yes h0
    have ht := tw_tb h0 l.length (Nat.le_refl _)
    have hl : (twT n l).length = n.toNat := ht.len
    have hw := wpA_len n l
    refine twists_ok h0 (implWP_ok ⟨fun x i => 0 ≤ i ∧ i ≤ (wpA n l).length ∧ x = ((wpA n l).take i.toNat).flatMap (unP n l), fun x i => ((wpA n l).length - i).toNat, ⟨by omega, by omega, rfl⟩, ?_⟩)
    rintro x i ⟨g0, g1, rfl⟩
    refine ⟨fun hb => ?_, fun hb => ?_⟩
    · obtain ⟨a, b, hab, hbn, hp⟩ := wpA_get h0 (i := i.toNat) (by omega)
      have hlen := un_len n l ((wpA n l).take i.toNat)
      have htl : ((wpA n l).take i.toNat).length ≤ 49 := by rw [List.length_take]; omega
      have hstep := un_step n l (wpA n l) i.toNat (by omega)
      rw [hp] at hstep ⊢
      have q0 : ix 0 [(a : Int), (b : Int)].length := ⟨by omega, by simp⟩
      have q1 : ix 1 [(a : Int), (b : Int)].length := ⟨by omega, by simp⟩
      have w0 : [(a : Int), (b : Int)][0]! = (a : Int) := rfl
      have w1 : [(a : Int), (b : Int)][1]! = (b : Int) := rfl
      have hr : ((twT n l)[a]!).length = n.toNat := ht.row a (by omega)
      have hu : unP n l [(a : Int), (b : Int)] = rep (Int.tdiv (max (((twT n l)[a]!)[b]!) (-(((twT n l)[a]!)[b]!))) 2).toNat (ftR n a b (decide (((twT n l)[a]!)[b]! < 0))) := by
        unfold unP; rw [w0, w1, toA_in h0 (by omega) hbn]
      rw [hu] at hstep
      have hbd : -40 ≤ ((twT n l)[a]!)[b]! ∧ ((twT n l)[a]!)[b]! ≤ 40 := by rw [← toA_in h0 (show a < n.toNat by omega) hbn]; exact toA_bd n l _ _
      have hh2 := half hbd
      have ea : ((a : Nat) : Int).toNat = a := rfl
      have eb : ((b : Nat) : Int).toNat = b := rfl
      rw [w0, w1, ea, eb]
      generalize ((twT n l)[a]!)[b]! = t at hstep hbd hh2 ⊢
      have hf := ftR_len n a b (decide (t < 0))
      refine ⟨⟨g0, hb⟩, q0, ⟨by omega, by omega⟩, q1, ⟨by omega, by rw [hr]; omega⟩, size_ok (by omega) ⟨by omega, fun x v => 0 ≤ v ∧ v ≤ Int.tdiv (max t (-t)) 2 ∧ x = ((wpA n l).take i.toNat).flatMap (unP n l) ++ rep v.toNat (ftR n a b (decide (t < 0))), fun x v => (Int.tdiv (max t (-t)) 2 - v).toNat, ⟨by omega, hh2.1, by simp [rep]⟩, ?_⟩⟩
      rintro x v ⟨v0, v1, rfl⟩
      have hrl : (rep v.toNat (ftR n a b (decide (t < 0)))).length ≤ 280 := by
        rw [rep_len]; exact Nat.le_trans (Nat.mul_le_mul (show _ ≤ 20 by omega) hf) (by decide)
      refine ⟨fun hv => ⟨q0, q1, implFT_ok ⟨by rw [List.length_append]; omega, by omega, ⟨by omega, by omega, ?_⟩, (by dsimp only; omega)⟩⟩, fun hv => ⟨by omega, ⟨by omega, by omega, ?_⟩, (by dsimp only; omega)⟩⟩
      · rw [tn1 v0, rep_step, List.append_assoc]
      · have e : v.toNat = (Int.tdiv (max t (-t)) 2).toNat := by omega
        rw [tn1 g0, hstep, e]
    · have e : (wpA n l).take i.toNat = wpA n l := List.take_of_length_le (by omega)
      show Q (((wpA n l).take i.toNat).flatMap (unP n l)) true
      rw [e]; exact h
end Go.Proofs.Ytcgkcoogaieolaa
