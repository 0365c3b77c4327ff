/- Plain laws: the least sums of changes of a night. No program, no statement of the claim. -/
import Derived.Test.YtddjkiefadiijaaPG3
import Derived.Test.YtddjkiefadiijaaPD3
namespace Go.Proofs.Ytddjkiefadiijaa

/-- the least of those numbers that are not negative, -1 if there is none -/
def minS (f : Nat → Int) : Nat → Int
  | 0 => -1
  | k + 1 => if 0 ≤ f k ∧ (minS f k < 0 ∨ f k < minS f k) then f k else minS f k
/-- the place where it stands first -/
def argS (f : Nat → Int) : Nat → Nat
  | 0 => 0
  | k + 1 => if 0 ≤ f k ∧ (minS f k < 0 ∨ f k < minS f k) then k else argS f k
theorem minS_low (f : Nat → Int) : ∀ k, -1 ≤ minS f k
  | 0 => by simp [minS]
  | k + 1 => by have := minS_low f k; rw [minS]; split <;> omega
theorem minS_le (f : Nat → Int) : ∀ {k j : Nat}, j < k → 0 ≤ f j → 0 ≤ minS f k ∧ minS f k ≤ f j
  | 0, j, h, _ => absurd h (Nat.not_lt_zero _)
  | k + 1, j, h, hj => by
    rw [minS]
    by_cases e : j = k
    · subst e; split <;> omega
    · have := minS_le f (k := k) (j := j) (by omega) hj
      split <;> omega
theorem argS_spec (f : Nat → Int) : ∀ {k : Nat}, 0 ≤ minS f k → argS f k < k ∧ f (argS f k) = minS f k ∧ ∀ j, j < argS f k → f j ≠ minS f k
  | 0, h => absurd h (by simp [minS])
  | k + 1, h => by
    have hl := @minS_le f k
    rw [minS] at h ⊢
    rw [argS]
    by_cases hc : 0 ≤ f k ∧ (minS f k < 0 ∨ f k < minS f k)
    · rw [if_pos hc] at h ⊢
      rw [if_pos hc]
      refine ⟨Nat.lt_succ_self k, rfl, fun j hj he => ?_⟩
      have := hl hj (by omega)
      omega
    · rw [if_neg hc] at h ⊢
      rw [if_neg hc]
      obtain ⟨h1, h2, h3⟩ := argS_spec f h
      exact ⟨by omega, h2, h3⟩
theorem minS_none {f : Nat → Int} : ∀ {k : Nat}, (∀ j, j < k → f j < 0) → minS f k = -1
  | 0, _ => rfl
  | k + 1, h => by
    rw [minS, if_neg (fun hx => by have := h k (by omega); omega)]
    exact minS_none fun j hj => h j (by omega)
theorem minS_top {f : Nat → Int} {b : Int} (hb : -1 ≤ b) : ∀ {k : Nat}, (∀ j, j < k → f j ≤ b) → minS f k ≤ b
  | 0, _ => hb
  | k + 1, h => by
    have h1 := minS_top (f := f) hb (k := k) fun j hj => h j (by omega)
    have h2 := h k (by omega)
    rw [minS]; split <;> omega
theorem minS_congr {f g : Nat → Int} : ∀ {k : Nat}, (∀ j, j < k → f j = g j) → minS f k = minS g k
  | 0, _ => rfl
  | k + 1, h => by rw [minS, minS, minS_congr (k := k) fun j hj => h j (by omega), h k (by omega)]
theorem argS_congr {f g : Nat → Int} : ∀ {k : Nat}, (∀ j, j < k → f j = g j) → argS f k = argS g k
  | 0, _ => rfl
  | k + 1, h => by rw [argS, argS, minS_congr (f := f) (g := g) (k := k) fun j hj => h j (by omega), argS_congr (k := k) fun j hj => h j (by omega), h k (by omega)]

/-- the changes from casting i of p to casting k of q -/
def chN (l : List PlayerC) (p q : List Int) (i k : Nat) : Int := (chO p (castL l p)[i]! q (castL l q)[k]! p.length : Int)
/-- the least sum of changes from casting i of the first moment on; -1 if there is no way -/
def cst (l : List PlayerC) : List (List Int) → Nat → Int
  | [], _ => 0
  | [_], _ => 0
  | p :: q :: r, i => minS (fun k => if cst l (q :: r) k < 0 then -1 else cst l (q :: r) k + chN l p q i k) (castL l q).length
theorem chN_nn (l : List PlayerC) (p q : List Int) (i k : Nat) : 0 ≤ chN l p q i k := by unfold chN; omega
theorem chN_le {l : List PlayerC} {p q : List Int} (hp : p.length ≤ 4) (hq : q.length ≤ 4) (i k : Nat) : chN l p q i k ≤ 16 := by
  have h1 := chO_le p (castL l p)[i]! q (castL l q)[k]! p.length
  have h2 := Nat.mul_le_mul hp hq
  unfold chN; omega
theorem cst_nn {l : List PlayerC} : ∀ {s : List (List Int)} (i : Nat), (∀ p, p ∈ s.tail → castL l p ≠ []) → 0 ≤ cst l s i
  | [], _, _ => by simp [cst]
  | [_], _, _ => by simp [cst]
  | p :: q :: r, i, h => by
    have h0 := cst_nn (l := l) (s := q :: r) 0 (fun p hp => h p (List.mem_cons_of_mem _ hp))
    have hq : 0 < (castL l q).length := List.length_pos_iff.2 (h q (List.mem_cons_self ..))
    rw [cst]
    refine (minS_le _ hq ?_).1
    have := chN_nn l p q i 0
    split <;> omega
theorem cst_neg {l : List PlayerC} : ∀ {s : List (List Int)} (i : Nat), (∃ p, p ∈ s.tail ∧ castL l p = []) → cst l s i = -1
  | [], _, h => by obtain ⟨p, hp, _⟩ := h; cases hp
  | [_], _, h => by obtain ⟨p, hp, _⟩ := h; cases hp
  | p :: q :: r, i, h => by
    rw [cst]
    obtain ⟨p', hp, he⟩ := h
    rcases List.mem_cons.1 hp with rfl | hp
    · rw [he]; rfl
    · refine minS_none fun k _ => ?_
      rw [cst_neg (s := q :: r) k ⟨p', hp, he⟩]; simp
theorem cst_low (l : List PlayerC) (s : List (List Int)) (i : Nat) : -1 ≤ cst l s i := by
  rcases s with _ | ⟨p, _ | ⟨q, r⟩⟩
  · simp [cst]
  · simp [cst]
  · rw [cst]; exact minS_low _ _
theorem cst_top {l : List PlayerC} : ∀ {s : List (List Int)} (i : Nat), (∀ p, p ∈ s → p.length ≤ 4) → cst l s i ≤ 16 * (s.length : Int)
  | [], _, _ => by simp [cst]
  | [_], _, _ => by simp [cst]
  | p :: q :: r, i, h => by
    rw [cst]
    refine minS_top (by simp only [List.length_cons]; omega) fun k _ => ?_
    have h1 := cst_top (l := l) (s := q :: r) k (fun p hp => h p (List.mem_cons_of_mem _ hp))
    have h2 := chN_le (l := l) (h p (List.mem_cons_self ..)) (h q (List.mem_cons_of_mem _ (List.mem_cons_self ..))) i k
    have e : ((p :: q :: r).length : Int) = ((q :: r).length : Int) + 1 := by simp
    rw [e]
    split <;> omega
theorem drop_at {α : Type} [Inhabited α] {t : List α} {m : Nat} (h : m < t.length) : t.drop m = t[m]! :: t.drop (m + 1) := by
  rw [List.drop_eq_getElem_cons h, getElem!_pos t m h]
theorem cst_last {l : List PlayerC} {t : List (List Int)} {m : Nat} (h : m + 1 = t.length) (i : Nat) : cst l (t.drop m) i = 0 := by
  rw [drop_at (by omega), List.drop_of_length_le (by omega)]; rfl
def stS (l : List PlayerC) (t : List (List Int)) (m i : Nat) (k : Nat) : Int := if cst l (t.drop (m + 1)) k < 0 then -1 else cst l (t.drop (m + 1)) k + chN l t[m]! t[m + 1]! i k
theorem cst_step {l : List PlayerC} {t : List (List Int)} {m : Nat} (h : m + 1 < t.length) (i : Nat) : cst l (t.drop m) i = minS (stS l t m i) (castL l t[m + 1]!).length := by
  have e1 := drop_at (t := t) (m := m) (by omega)
  have e2 := drop_at (t := t) (m := m + 1) h
  unfold stS
  rw [e1, e2, cst]
/-- the row of costs of moment m -/
def rowT (l : List PlayerC) (t : List (List Int)) (m : Nat) : List Int := (List.range (castL l t[m]!).length).map (cst l (t.drop m))
theorem rowT_len (l : List PlayerC) (t : List (List Int)) (m : Nat) : (rowT l t m).length = (castL l t[m]!).length := by simp [rowT]
theorem rowT_get {l : List PlayerC} {t : List (List Int)} {m i : Nat} (h : i < (castL l t[m]!).length) : (rowT l t m)[i]! = cst l (t.drop m) i := by
  rw [getElem!_pos _ i (by rw [rowT_len]; exact h)]; simp [rowT]
def tabT (l : List PlayerC) (t : List (List Int)) : List (List Int) := (List.range t.length).map (rowT l t)
theorem tabT_len (l : List PlayerC) (t : List (List Int)) : (tabT l t).length = t.length := by simp [tabT]
theorem tabT_get {l : List PlayerC} {t : List (List Int)} {m : Nat} (h : m < t.length) : (tabT l t)[m]! = rowT l t m := by
  rw [getElem!_pos _ m (by rw [tabT_len]; exact h)]; simp [tabT]
theorem lists_ext! {x y : List (List Int)} (hl : x.length = y.length) (h : ∀ i, i < x.length → x[i]! = y[i]!) : x = y := by
  apply List.ext_getElem hl
  intro i h1 h2
  have := h i h1
  simpa [h1, h2] using this
theorem castL_mem_len {l : List PlayerC} {ps c : List Int} (hm : c ∈ castL l ps) : c.length = ps.length := by
  revert hm
  unfold castL
  split
  · rename_i hc
    rw [allC_filt (by have := plO_size (okB_iff.1 hc.1).1; omega)]
    intro hm
    obtain ⟨v, _, rfl⟩ := List.mem_map.1 (List.mem_filter.1 hm).1
    exact tl_len _ _ _
  · intro hm; cases hm
theorem castL_at {l : List PlayerC} {ps : List Int} {i : Nat} (h : i < (castL l ps).length) : (castL l ps)[i]! ∈ castL l ps := by simp [h]
theorem castL_get_len {l : List PlayerC} {ps : List Int} {i : Nat} (h : i < (castL l ps).length) : ((castL l ps)[i]!).length = ps.length := castL_mem_len (castL_at h)
theorem chB_cast {l : List PlayerC} {p q : List Int} {i k : Nat} (hi : i < (castL l p).length) (hk : k < (castL l q).length) : chB p (castL l p)[i]! q (castL l q)[k]! = chN l p q i k := by
  unfold chB chN
  rw [if_pos ⟨(castL_get_len hi).symm, (castL_get_len hk).symm⟩]

/- the choice -/
/-- the changes between the last choice of o and casting i of moment m, and the least sum from there on -/
def fvS (l : List PlayerC) (t o : List (List Int)) (m i : Nat) : Int := (if m = 0 then 0 else (chO t[m - 1]! o[m - 1]! t[m]! (castL l t[m]!)[i]! (t[m - 1]!).length : Int)) + cst l (t.drop m) i
def atS (l : List PlayerC) (t o : List (List Int)) (m : Nat) : Nat := argS (fvS l t o m) (castL l t[m]!).length
/-- the best castings of the first m moments -/
def bsN (l : List PlayerC) (t : List (List Int)) : Nat → List (List Int)
  | 0 => []
  | m + 1 => bsN l t m ++ [(castL l t[m]!)[atS l t (bsN l t m) m]!]
def lfN (l : List PlayerC) (t : List (List Int)) (m : Nat) : Int := minS (fvS l t (bsN l t m) m) (castL l t[m]!).length
theorem bsN_len (l : List PlayerC) (t : List (List Int)) : ∀ m, (bsN l t m).length = m
  | 0 => rfl
  | m + 1 => by rw [bsN, List.length_append, bsN_len l t m]; rfl
theorem bsN_last (l : List PlayerC) (t : List (List Int)) (m : Nat) : (bsN l t (m + 1))[m]! = (castL l t[m]!)[atS l t (bsN l t m) m]! := by
  have := get_last (c := bsN l t m) (p := (castL l t[m]!)[atS l t (bsN l t m) m]!)
  rw [bsN_len] at this
  exact this
theorem bsN_get (l : List PlayerC) (t : List (List Int)) {m : Nat} : ∀ {n : Nat}, m < n → (bsN l t n)[m]! = (bsN l t (m + 1))[m]!
  | 0, h => absurd h (Nat.not_lt_zero _)
  | n + 1, h => by
    by_cases e : m = n
    · subst e; rfl
    · rw [bsN, get_app (by rw [bsN_len]; omega)]; exact bsN_get l t (by omega)
abbrev allNe (l : List PlayerC) (t : List (List Int)) : Prop := ∀ p, p ∈ t → castL l p ≠ []
theorem mem_at {t : List (List Int)} {m : Nat} (h : m < t.length) : t[m]! ∈ t := by simp [h]
theorem allNe_pos {l : List PlayerC} {t : List (List Int)} (h : allNe l t) {m : Nat} (hm : m < t.length) : 0 < (castL l t[m]!).length := List.length_pos_iff.2 (h _ (mem_at hm))
theorem mem_tail_drop {t : List (List Int)} {m : Nat} {p : List Int} (h : p ∈ (t.drop m).tail) : p ∈ t := List.mem_of_mem_drop (List.mem_of_mem_tail h)
theorem cst_ne {l : List PlayerC} {t : List (List Int)} (h : allNe l t) (m i : Nat) : 0 ≤ cst l (t.drop m) i := cst_nn i fun p hp => h p (mem_tail_drop hp)
theorem fvS_nn {l : List PlayerC} {t o : List (List Int)} (h : allNe l t) (m i : Nat) : 0 ≤ fvS l t o m i := by
  have := cst_ne h m i
  unfold fvS; split <;> omega
theorem lfN_nn {l : List PlayerC} {t : List (List Int)} (h : allNe l t) {m : Nat} (hm : m < t.length) : 0 ≤ lfN l t m := (minS_le _ (allNe_pos h hm) (fvS_nn h m 0)).1
theorem atS_spec {l : List PlayerC} {t : List (List Int)} (h : allNe l t) {m : Nat} (hm : m < t.length) :
    atS l t (bsN l t m) m < (castL l t[m]!).length ∧ fvS l t (bsN l t m) m (atS l t (bsN l t m) m) = lfN l t m ∧ ∀ j, j < atS l t (bsN l t m) m → fvS l t (bsN l t m) m j ≠ lfN l t m := argS_spec _ (lfN_nn h hm)
/-- what is left behind the choice of moment m is the least of the next moment -/
theorem lfN_next {l : List PlayerC} {t : List (List Int)} (h : allNe l t) {m : Nat} (hm : m + 1 < t.length) : lfN l t (m + 1) = cst l (t.drop m) (atS l t (bsN l t m) m) := by
  rw [cst_step hm]
  refine minS_congr fun k hk => ?_
  have h1 := cst_ne h (m + 1) k
  unfold fvS stS
  rw [if_neg (Nat.succ_ne_zero m), if_neg (by omega), Nat.add_sub_cancel, bsN_last, chN]
  omega
theorem bs_sum {l : List PlayerC} {t : List (List Int)} (h : allNe l t) (h1 : 1 ≤ t.length) : ∀ {m : Nat}, m < t.length →
    (∀ k, k < m → 0 ≤ nbC t (bsN l t t.length) k) ∧ ccS t (bsN l t t.length) m + cst l (t.drop m) (atS l t (bsN l t m) m) = lfN l t 0
  | 0, hm => by
    have := (atS_spec h hm).2.1
    refine ⟨fun k hk => absurd hk (Nat.not_lt_zero _), ?_⟩
    unfold fvS at this
    rw [if_pos rfl] at this
    rw [ccS]; exact this
  | m + 1, hm => by
    obtain ⟨i1, i2⟩ := bs_sum h h1 (m := m) (by omega)
    have hn := lfN_next h hm
    have hs := (atS_spec h hm).2.1
    have hl := (atS_spec h hm).1
    have hl0 := (atS_spec h (show m < t.length by omega)).1
    have hnb : nbC t (bsN l t t.length) m = (chO t[m]! (bsN l t (m + 1))[m]! t[m + 1]! (castL l t[m + 1]!)[atS l t (bsN l t (m + 1)) (m + 1)]! (t[m]!).length : Int) := by
      unfold nbC chB
      rw [bsN_get l t (show m < t.length by omega), bsN_get l t (show m + 1 < t.length by omega), bsN_last l t (m + 1), if_pos ⟨by rw [bsN_last, castL_get_len hl0], (castL_get_len hl).symm⟩]
    unfold fvS at hs
    rw [if_neg (Nat.succ_ne_zero m), Nat.add_sub_cancel, ← hnb] at hs
    refine ⟨fun k hk => ?_, by rw [ccS]; omega⟩
    by_cases e : k = m
    · subst e; rw [hnb]; omega
    · exact i1 k (by omega)
/-- the best night's changes are the least sum -/
theorem bs_count {l : List PlayerC} {t : List (List Int)} (h : allNe l t) (h1 : 1 ≤ t.length) : countC t (bsN l t t.length) = lfN l t 0 := by
  obtain ⟨i1, i2⟩ := bs_sum h h1 (m := t.length - 1) (by omega)
  unfold countC
  rw [if_pos ⟨(bsN_len l t _).symm, i1⟩, ← i2, cst_last (by omega)]
  omega
/-- no choice of castings has fewer -/
theorem cc_least {l : List PlayerC} {t c : List (List Int)} (h : allNe l t) (hc : ∀ m, m < t.length → c[m]! ∈ castL l t[m]!) : ∀ d m, m + d + 1 = t.length → ∀ i, i < (castL l t[m]!).length → c[m]! = (castL l t[m]!)[i]! → cst l (t.drop m) i + ccS t c m ≤ ccS t c (t.length - 1)
  | 0, m, hm, i, hi, he => by
    rw [cst_last (by omega), show m = t.length - 1 by omega]; omega
  | d + 1, m, hm, i, hi, he => by
    obtain ⟨k, hk, hk2⟩ := List.getElem_of_mem (hc (m + 1) (by omega))
    have e2 : c[m + 1]! = (castL l t[m + 1]!)[k]! := by rw [getElem!_pos _ k hk]; exact hk2.symm
    have ih := cc_least h hc d (m + 1) (by omega) k hk e2
    have h1 := cst_ne h (m + 1) k
    have h2 := chN_nn l t[m]! t[m + 1]! i k
    have hs : stS l t m i k = cst l (t.drop (m + 1)) k + chN l t[m]! t[m + 1]! i k := by unfold stS; rw [if_neg (by omega)]
    have h3 := (minS_le (stS l t m i) hk (by omega)).2
    rw [← cst_step (by omega)] at h3
    have hnb : nbC t c m = chN l t[m]! t[m + 1]! i k := by unfold nbC; rw [he, e2]; exact chB_cast hi hk
    rw [ccS] at ih
    omega
end Go.Proofs.Ytddjkiefadiijaa
