/- Plain facts: the marriage theorem, with hands and with a lack. No program, no statement of the claim. -/
import Derived.Test.YtddjkiefadiijaaPure
namespace Go.Proofs.Ytddjkiefadiijaa

/-- the hands of those below n that know one of S -/
def hnd (kn : Nat → Int → Bool) (cap : Nat → Nat) (S : List Int) : Nat → Nat
  | 0 => 0
  | n + 1 => hnd kn cap S n + if S.any (kn n) = true then cap n else 0
def cntA (a : Int → Nat) (ps : List Int) (k : Nat) : Nat := (ps.filter fun x => decide (a x = k)).length
def Cast (kn : Nat → Int → Bool) (cap : Nat → Nat) (n : Nat) (ps : List Int) (a : Int → Nat) : Prop := (∀ x, x ∈ ps → a x < n ∧ kn (a x) x = true) ∧ ∀ k, k < n → cntA a ps k ≤ cap k
theorem len_split (q : Int → Bool) : ∀ ps : List Int, (ps.filter q).length + (ps.filter fun x => !q x).length = ps.length
  | [] => rfl
  | x :: ps => by
    have := len_split q ps
    simp only [List.filter_cons]
    cases q x <;> simp <;> omega
theorem len_or {p1 p2 : Int → Bool} (h : ∀ x, p1 x = true → p2 x = true → False) : ∀ ps : List Int, (ps.filter fun x => p1 x || p2 x).length = (ps.filter p1).length + (ps.filter p2).length
  | [] => rfl
  | x :: ps => by
    have ih := len_or h ps
    have hx := h x
    simp only [List.filter_cons]
    cases h1 : p1 x <;> cases h2 : p2 x
    · simpa using ih
    · simp; omega
    · simp; omega
    · exact (hx h1 h2).elim
theorem any_or {p1 p2 f : Int → Bool} : ∀ ps : List Int, (ps.filter fun x => p1 x || p2 x).any f = ((ps.filter p1).any f || (ps.filter p2).any f)
  | [] => rfl
  | x :: ps => by
    have ih := any_or (p1 := p1) (p2 := p2) (f := f) ps
    simp only [List.filter_cons]
    cases h1 : p1 x <;> cases h2 : p2 x <;> simp [ih] <;> cases f x <;> simp
theorem hnd_or {kn : Nat → Int → Bool} {cap : Nat → Nat} {p1 p2 : Int → Bool} {ps : List Int} : ∀ n, hnd kn cap (ps.filter fun x => p1 x || p2 x) n = hnd kn cap (ps.filter p1) n + hnd kn (fun k => if (ps.filter p1).any (kn k) = true then 0 else cap k) (ps.filter p2) n
  | 0 => rfl
  | n + 1 => by
    rw [hnd, hnd, hnd, hnd_or n, any_or]
    cases h1 : (ps.filter p1).any (kn n) <;> cases h2 : (ps.filter p2).any (kn n) <;> simp <;> omega
theorem cnt_split {a1 a2 : Int → Nat} {q : Int → Bool} {k : Nat} : ∀ ps : List Int, cntA (fun x => if q x = true then a1 x else a2 x) ps k = cntA a1 (ps.filter q) k + cntA a2 (ps.filter fun x => !q x) k
  | [] => rfl
  | x :: ps => by
    have ih := cnt_split (a1 := a1) (a2 := a2) (q := q) (k := k) ps
    unfold cntA at ih ⊢
    dsimp only at ih ⊢
    by_cases hq : q x = true
    · rw [List.filter_cons_of_pos (p := q) hq, List.filter_cons_of_neg (p := fun x => !q x) (by simp [hq])]
      by_cases hk : a1 x = k
      · rw [List.filter_cons_of_pos (by simp [hq, hk]), List.filter_cons_of_pos (by simp [hk])]
        simp only [List.length_cons]; omega
      · rw [List.filter_cons_of_neg (by simp [hq, hk]), List.filter_cons_of_neg (by simp [hk])]
        exact ih
    · rw [List.filter_cons_of_neg (p := q) hq, List.filter_cons_of_pos (p := fun x => !q x) (by simp [hq])]
      by_cases hk : a2 x = k
      · rw [List.filter_cons_of_pos (by simp [hq, hk]), List.filter_cons_of_pos (by simp [hk])]
        simp only [List.length_cons]; omega
      · rw [List.filter_cons_of_neg (by simp [hq, hk]), List.filter_cons_of_neg (by simp [hk])]
        exact ih
theorem cnt_zero' {a : Int → Nat} {ps : List Int} {k : Nat} (h : ∀ x, x ∈ ps → a x ≠ k) : cntA a ps k = 0 := by
  unfold cntA
  rw [List.filter_eq_nil_iff.2 (fun x hx => by simpa using h x hx)]; rfl
theorem hnd_pos {kn : Nat → Int → Bool} {cap : Nat → Nat} {S : List Int} : ∀ {n}, 0 < hnd kn cap S n → ∃ k, k < n ∧ S.any (kn k) = true ∧ 0 < cap k
  | 0, h => absurd h (Nat.lt_irrefl _)
  | n + 1, h => by
    rw [hnd] at h
    by_cases h1 : 0 < hnd kn cap S n
    · obtain ⟨k, hk, h2⟩ := hnd_pos h1
      exact ⟨k, by omega, h2⟩
    · split at h
      · rename_i ha; exact ⟨n, by omega, ha, by omega⟩
      · omega
theorem hnd_dec {kn : Nat → Int → Bool} {cap : Nat → Nat} {S : List Int} {k : Nat} : ∀ n, hnd kn cap S n ≤ hnd kn (fun j => if j = k then cap k - 1 else cap j) S n + if k < n then 1 else 0
  | 0 => Nat.zero_le _
  | n + 1 => by
    have ih := hnd_dec (kn := kn) (cap := cap) (S := S) (k := k) n
    rw [hnd, hnd]
    by_cases hn : n = k
    · rw [if_neg (show ¬ k < n by omega)] at ih
      have hc : cap n = cap k := by rw [hn]
      simp only [if_pos hn]
      rw [if_pos (show k < n + 1 by omega)]
      split <;> omega
    · simp only [if_neg hn]
      by_cases hk : k < n
      · rw [if_pos hk] at ih
        rw [if_pos (show k < n + 1 by omega)]; split <;> omega
      · rw [if_neg hk] at ih
        rw [if_neg (show ¬ k < n + 1 by omega)]; split <;> omega
theorem hall (kn : Nat → Int → Bool) (n : Nat) : ∀ (N : Nat) (ps : List Int) (cap : Nat → Nat), ps.length ≤ N → ps.Nodup → (∀ q : Int → Bool, (ps.filter q).length ≤ hnd kn cap (ps.filter q) n) → ∃ a, Cast kn cap n ps a
  | 0, ps, cap, hl, _, _ => by
    have : ps = [] := List.eq_nil_of_length_eq_zero (by omega)
    subst this
    exact ⟨fun _ => 0, fun x hx => (by cases hx), fun k _ => Nat.zero_le _⟩
  | N + 1, ps, cap, hl, hn, h => by
    by_cases ht : ∃ q : Int → Bool, 0 < (ps.filter q).length ∧ (ps.filter q).length < ps.length ∧ (ps.filter q).length = hnd kn cap (ps.filter q) n
    · obtain ⟨q, q0, q1, q2⟩ := ht
      have hsp := len_split q ps
      obtain ⟨a1, b1, c1⟩ := hall kn n N (ps.filter q) cap (by omega) (hn.sublist List.filter_sublist) (fun r => by rw [List.filter_filter]; exact h _)
      obtain ⟨a2, b2, c2⟩ := hall kn n N (ps.filter fun x => !q x) (fun k => if (ps.filter q).any (kn k) = true then 0 else cap k) (by omega) (hn.sublist List.filter_sublist) (fun r => by
        rw [List.filter_filter]
        have h1 := h fun x => q x || (r x && !q x)
        rw [hnd_or, len_or (fun x hx hy => by rw [hx] at hy; simp at hy)] at h1
        omega)
      refine ⟨fun x => if q x = true then a1 x else a2 x, fun x hx => ?_, fun k hk => ?_⟩
      · show (if q x = true then a1 x else a2 x) < n ∧ kn (if q x = true then a1 x else a2 x) x = true
        by_cases hq : q x = true
        · rw [if_pos hq]; exact b1 x (List.mem_filter.2 ⟨hx, hq⟩)
        · rw [if_neg hq]; exact b2 x (List.mem_filter.2 ⟨hx, by simpa using hq⟩)
      · rw [cnt_split]
        have d1 := c1 k hk
        have d2 : cntA a2 (ps.filter fun x => !q x) k ≤ if (ps.filter q).any (kn k) = true then 0 else cap k := c2 k hk
        by_cases ha : (ps.filter q).any (kn k) = true
        · rw [if_pos ha] at d2; omega
        · rw [if_neg ha] at d2
          rw [cnt_zero' (ps := ps.filter q) (a := a1) (fun x hx e => ha (List.any_eq_true.2 ⟨x, hx, by have := (b1 x hx).2; rw [e] at this; exact this⟩))]
          omega
    · cases ps with
      | nil => exact ⟨fun _ => 0, fun x hx => (by cases hx), fun k _ => Nat.zero_le _⟩
      | cons x t =>
        obtain ⟨hx, hn2⟩ := List.nodup_cons.1 hn
        have h1 := h fun y => decide (y = x)
        rw [List.filter_cons_of_pos (by simp)] at h1
        obtain ⟨k, hk, ha, hc⟩ := hnd_pos (Nat.lt_of_lt_of_le (Nat.zero_lt_succ _) h1)
        have hkx : kn k x = true := by
          obtain ⟨y, hy, hky⟩ := List.any_eq_true.1 ha
          rcases List.mem_cons.1 hy with rfl | hy
          · exact hky
          · have := of_decide_eq_true (List.mem_filter.1 hy).2
            rw [← this]; exact hky
        have hft : ∀ r : Int → Bool, (x :: t).filter (fun y => r y && decide (y ≠ x)) = t.filter r := fun r => by
          rw [List.filter_cons_of_neg (by simp)]
          refine List.filter_congr fun y hy => ?_
          have hne : y ≠ x := fun e => hx (e ▸ hy)
          rw [decide_eq_true hne, Bool.and_true]
        obtain ⟨a, b, c⟩ := hall kn n N t (fun j => if j = k then cap k - 1 else cap j) (by simpa using hl) hn2 (fun r => by
          have h2 := h fun y => r y && decide (y ≠ x)
          rw [hft] at h2
          have h3 := hnd_dec (kn := kn) (cap := cap) (S := t.filter r) (k := k) n
          rw [if_pos hk] at h3
          have h4 := List.length_filter_le r t
          by_cases h0 : (t.filter r).length = 0
          · omega
          · have h5 : (t.filter r).length ≠ hnd kn cap (t.filter r) n := fun e => ht ⟨fun y => r y && decide (y ≠ x), by rw [hft]; omega, by rw [hft, List.length_cons]; omega, by rw [hft]; exact e⟩
            omega)
        refine ⟨fun y => if y = x then k else a y, fun y hy => ?_, fun j hj => ?_⟩
        · show (if y = x then k else a y) < n ∧ kn (if y = x then k else a y) y = true
          by_cases e : y = x
          · rw [if_pos e, e]; exact ⟨hk, hkx⟩
          · rw [if_neg e]
            rcases List.mem_cons.1 hy with hy | hy
            · exact absurd hy e
            · exact b y hy
        · have d : cntA a t j ≤ if j = k then cap k - 1 else cap j := c j hj
          have e1 : cntA (fun y => if y = x then k else a y) t j = cntA a t j := by
            unfold cntA
            congr 1
            refine List.filter_congr fun y hy => ?_
            have hne : y ≠ x := fun e => hx (e ▸ hy)
            show decide ((if y = x then k else a y) = j) = _
            rw [if_neg hne]
          have e2 : cntA (fun y => if y = x then k else a y) (x :: t) j = cntA (fun y => if y = x then k else a y) t j + if k = j then 1 else 0 := by
            unfold cntA
            by_cases e : k = j
            · rw [if_pos e, List.filter_cons_of_pos (by simp [e])]; rfl
            · rw [if_neg e, List.filter_cons_of_neg (by simpa using e)]; rfl
          rw [e2, e1]
          by_cases e : k = j
          · subst e
            rw [if_pos rfl] at d ⊢
            omega
          · rw [if_neg (fun h => e h.symm)] at d
            rw [if_neg e]; exact d
theorem hnd_congr {kn kn' : Nat → Int → Bool} {cap cap' : Nat → Nat} {S : List Int} : ∀ {n}, (∀ k, k < n → kn k = kn' k ∧ cap k = cap' k) → hnd kn cap S n = hnd kn' cap' S n
  | 0, _ => rfl
  | n + 1, h => by
    obtain ⟨h1, h2⟩ := h n (by omega)
    rw [hnd, hnd, hnd_congr (n := n) (fun k hk => h k (by omega)), h1, h2]
theorem cnt_sub {a : Int → Nat} {ps : List Int} {q : Int → Bool} {k : Nat} : cntA a (ps.filter q) k ≤ cntA a ps k := by
  unfold cntA
  rw [List.filter_filter]
  induction ps with
  | nil => exact Nat.le_refl _
  | cons x ps ih =>
    simp only [List.filter_cons]
    cases q x <;> cases decide (a x = k) <;> simp <;> omega
/-- with a lack of d: all but d can be cast -/
theorem hall_lack {kn : Nat → Int → Bool} {n d : Nat} {ps : List Int} {cap : Nat → Nat} (hn : ps.Nodup) (h : ∀ q : Int → Bool, (ps.filter q).length ≤ hnd kn cap (ps.filter q) n + d) : ∃ (q : Int → Bool) (a : Int → Nat), Cast kn cap n (ps.filter q) a ∧ ps.length ≤ (ps.filter q).length + d := by
  obtain ⟨a, b, c⟩ := hall (fun k x => if k = n then true else kn k x) (n + 1) ps.length ps (fun k => if k = n then d else cap k) (Nat.le_refl _) hn (fun q => by
    have h1 := h q
    rw [hnd]
    simp only [eq_self, if_true]
    have e : hnd (fun k x => if k = n then true else kn k x) (fun k => if k = n then d else cap k) (ps.filter q) n = hnd kn cap (ps.filter q) n := hnd_congr fun k hk => by
      have : k ≠ n := by omega
      exact ⟨by funext x; exact if_neg this, if_neg this⟩
    rw [e]
    cases hq : ps.filter q with
    | nil => simp
    | cons y t =>
      rw [hq] at h1
      rw [if_pos (by simp)]; exact h1)
  refine ⟨fun x => decide (a x ≠ n), a, ⟨fun x hx => ?_, fun k hk => ?_⟩, ?_⟩
  · obtain ⟨h1, h2⟩ := List.mem_filter.1 hx
    have h2 := of_decide_eq_true h2
    obtain ⟨h3, h4⟩ := b x h1
    have h4 : (if a x = n then true else kn (a x) x) = true := h4
    rw [if_neg h2] at h4
    exact ⟨by omega, h4⟩
  · have h1 : cntA a ps k ≤ if k = n then d else cap k := c k (by omega)
    rw [if_neg (by omega)] at h1
    exact Nat.le_trans cnt_sub h1
  · have h1 : cntA a ps n ≤ if n = n then d else cap n := c n (by omega)
    rw [if_pos rfl] at h1
    have h2 := len_split (fun x => decide (a x ≠ n)) ps
    have e : (ps.filter fun x => !decide (a x ≠ n)) = ps.filter fun x => decide (a x = n) := List.filter_congr fun x _ => by
      by_cases hx : a x = n <;> simp [hx]
    rw [e] at h2
    unfold cntA at h1
    omega
end Go.Proofs.Ytddjkiefadiijaa
