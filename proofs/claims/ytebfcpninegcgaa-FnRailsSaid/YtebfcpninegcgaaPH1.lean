/- Plain facts on rails: the order by time, the first rail that is free. No program, no statement of the claim. -/
import Derived.Test.YtebfcpninegcgaaPure
import Derived.Test.YtebfcpninegcgaaPlainA
namespace Go.Proofs.Ytebfcpninegcgaa

theorem gset' {α : Type} [Inhabited α] (l : List α) (i : Nat) (v : α) (hi : i < l.length) (j : Nat) : (l.set i v)[j]! = if i = j then v else l[j]! := by
  by_cases h : i = j
  · subst h; simp [hi]
  · rw [if_neg h]; simp [List.getElem!_eq_getElem?_getD, List.getElem?_set, h]
theorem mem_take {α : Type} [Inhabited α] {o : List α} {p : Nat} {x : α} (h : x ∈ o.take p) : ∃ j, j < p ∧ j < o.length ∧ o[j]! = x := by
  obtain ⟨j, hj, e⟩ := List.mem_iff_getElem.1 h
  rw [List.length_take] at hj
  refine ⟨j, by omega, by omega, ?_⟩
  rw [getElem!_pos o j (by omega), ← e, List.getElem_take]
theorem mem_drop {α : Type} [Inhabited α] {o : List α} {p : Nat} {x : α} (h : x ∈ o.drop p) : ∃ j, p ≤ j ∧ j < o.length ∧ o[j]! = x := by
  obtain ⟨j, hj, e⟩ := List.mem_iff_getElem.1 h
  rw [List.length_drop] at hj
  refine ⟨p + j, by omega, by omega, ?_⟩
  rw [getElem!_pos o (p + j) (by omega), ← e, List.getElem_drop]
theorem get_mem_take {α : Type} [Inhabited α] {o : List α} {p j : Nat} (h : j < p) (hj : j < o.length) : o[j]! ∈ o.take p := by
  refine List.mem_iff_getElem.2 ⟨j, by rw [List.length_take]; omega, ?_⟩
  rw [getElem!_pos o j hj, List.getElem_take]
theorem get_mem {α : Type} [Inhabited α] {o : List α} {j : Nat} (hj : j < o.length) : o[j]! ∈ o := by
  rw [getElem!_pos o j hj]; exact List.getElem_mem hj
theorem pw_get {α : Type} [Inhabited α] {R : α → α → Prop} {o : List α} (h : o.Pairwise R) {i j : Nat} (hij : i < j) (hj : j < o.length) : R o[i]! o[j]! := by
  rw [getElem!_pos o i (by omega), getElem!_pos o j hj]
  exact List.pairwise_iff_getElem.1 h i j (by omega) hj hij

/-- when a stay begins and ends -/
def fr (l : List Stay) (i : Nat) : Int := (l[i]!).2.1
def en (l : List Stay) (i : Nat) : Int := (l[i]!).2.2
def ltS (l : List Stay) (i j : Nat) : Prop := fr l i < fr l j ∨ (fr l i = fr l j ∧ i < j)
def posO (l : List Stay) (o : List Nat) (i : Nat) : Nat → Nat
  | 0 => 0
  | k + 1 => if fr l o[k]! > fr l i then posO l o i k else k + 1
theorem posO_le (l : List Stay) (o : List Nat) (i : Nat) : ∀ k, posO l o i k ≤ k
  | 0 => Nat.le_refl _
  | k + 1 => by have := posO_le l o i k; rw [posO]; split <;> omega
theorem posO_hi (l : List Stay) (o : List Nat) (i : Nat) : ∀ k j, posO l o i k ≤ j → j < k → fr l o[j]! > fr l i
  | 0, j, _, h => absurd h (by omega)
  | k + 1, j, h1, h2 => by
    rw [posO] at h1
    split at h1
    · rename_i hc
      rcases Nat.lt_or_ge j k with hj | hj
      · exact posO_hi l o i k j h1 hj
      · rw [show j = k by omega]; exact hc
    · omega
theorem posO_lo (l : List Stay) (o : List Nat) (i : Nat) : ∀ k, posO l o i k = 0 ∨ fr l o[posO l o i k - 1]! ≤ fr l i
  | 0 => .inl rfl
  | k + 1 => by
    rw [posO]
    split
    · exact posO_lo l o i k
    · rename_i hc
      exact .inr (by rw [Nat.add_sub_cancel]; omega)
def insO (l : List Stay) (o : List Nat) (i : Nat) : List Nat := o.take (posO l o i o.length) ++ [i] ++ o.drop (posO l o i o.length)
/-- the stays in the order of their beginning -/
def ordN (l : List Stay) : Nat → List Nat
  | 0 => []
  | i + 1 => insO l (ordN l i) i
theorem insO_mem {l : List Stay} {o : List Nat} {i j : Nat} : j ∈ insO l o i ↔ j ∈ o ∨ j = i := by
  unfold insO
  rw [List.mem_append, List.mem_append, List.mem_singleton]
  have : j ∈ o ↔ j ∈ o.take (posO l o i o.length) ∨ j ∈ o.drop (posO l o i o.length) := by rw [← List.mem_append, List.take_append_drop]
  rw [this]
  constructor
  · rintro ((h | h) | h)
    · exact .inl (.inl h)
    · exact .inr h
    · exact .inl (.inr h)
  · rintro ((h | h) | h)
    · exact .inl (.inl h)
    · exact .inr h
    · exact .inl (.inr h)
theorem insO_len (l : List Stay) (o : List Nat) (i : Nat) : (insO l o i).length = o.length + 1 := by
  have := posO_le l o i o.length
  unfold insO
  simp only [List.length_append, List.length_take, List.length_drop, List.length_singleton]; omega
theorem ordN_len (l : List Stay) : ∀ i, (ordN l i).length = i
  | 0 => rfl
  | i + 1 => by rw [ordN, insO_len, ordN_len l i]
theorem ordN_mem (l : List Stay) : ∀ i j, j ∈ ordN l i ↔ j < i
  | 0, j => by simp [ordN]
  | i + 1, j => by rw [ordN, insO_mem, ordN_mem l i]; omega
theorem ordN_pw (l : List Stay) : ∀ i, (ordN l i).Pairwise (ltS l)
  | 0 => List.Pairwise.nil
  | i + 1 => by
    have ih := ordN_pw l i
    have hm := ordN_mem l i
    rw [ordN]
    generalize ordN l i = o at ih hm
    have hle := posO_le l o i o.length
    have hlow : ∀ x, x ∈ o.take (posO l o i o.length) → ltS l x i := by
      intro x hx
      obtain ⟨j, h1, h2, rfl⟩ := mem_take hx
      have hji := (hm _).1 (get_mem h2)
      have hlo := posO_lo l o i o.length
      have h3 : fr l o[posO l o i o.length - 1]! ≤ fr l i := by
        rcases hlo with h0 | h0
        · omega
        · exact h0
      have h4 : fr l o[j]! ≤ fr l o[posO l o i o.length - 1]! := by
        rcases Nat.lt_or_ge j (posO l o i o.length - 1) with hj | hj
        · rcases pw_get ih hj (by omega) with h | h
          · omega
          · omega
        · rw [show j = posO l o i o.length - 1 by omega]; exact Int.le_refl _
      unfold ltS
      omega
    have hhigh : ∀ x, x ∈ o.drop (posO l o i o.length) → ltS l i x := by
      intro x hx
      obtain ⟨j, h1, h2, rfl⟩ := mem_drop hx
      exact .inl (posO_hi l o i o.length j h1 h2)
    unfold insO
    rw [List.append_assoc, List.pairwise_append]
    have ih2 := ih
    rw [← List.take_append_drop (posO l o i o.length) o, List.pairwise_append] at ih2
    refine ⟨ih2.1, ?_, ?_⟩
    · rw [List.singleton_append, List.pairwise_cons]
      exact ⟨hhigh, ih2.2.1⟩
    · intro a ha b hb
      rw [List.singleton_append, List.mem_cons] at hb
      rcases hb with rfl | hb
      · exact hlow a ha
      · exact ih2.2.2 a ha b hb
theorem ltS_irr {l : List Stay} {i : Nat} : ¬ ltS l i i := by unfold ltS; omega
/-- the first of those that are left -/
theorem ord_next {l : List Stay} {n x k : Nat} (hx : x < n) (hk : k < n) (hnot : k ∉ (ordN l n).take x) (hmin : ∀ j, j < n → j ∉ (ordN l n).take x → fr l k ≤ fr l j ∧ (fr l j = fr l k → k ≤ j)) : k = (ordN l n)[x]! := by
  have hlen := ordN_len l n
  have hpw := ordN_pw l n
  have hm := ordN_mem l n
  have hx' : x < (ordN l n).length := by omega
  have hxn := (hm _).1 (get_mem hx')
  have hxo : (ordN l n)[x]! ∉ (ordN l n).take x := fun h => by
    obtain ⟨j, h1, h2, h3⟩ := mem_take h
    have := pw_get hpw h1 hx'
    rw [h3] at this
    exact ltS_irr this
  have h1 := hmin _ hxn hxo
  obtain ⟨y, hy, e⟩ := List.mem_iff_getElem.1 ((hm k).2 hk)
  have hyk : (ordN l n)[y]! = k := by rw [getElem!_pos _ y hy, e]
  rcases Nat.lt_or_ge y x with hyx | hyx
  · exact absurd (hyk ▸ get_mem_take hyx hy) hnot
  rcases Nat.lt_or_ge x y with hxy | hxy
  · have := pw_get hpw hxy hy
    rw [hyk] at this
    unfold ltS at this
    omega
  · rw [← hyk, show y = x by omega]
theorem ord_not {l : List Stay} {n x y : Nat} (hy : y < n) (h : x ≤ y) : (ordN l n)[y]! ∉ (ordN l n).take x := fun hm => by
  have hlen := ordN_len l n
  obtain ⟨j, h1, h2, h3⟩ := mem_take hm
  have := pw_get (ordN_pw l n) (show j < y by omega) (by omega)
  rw [h3] at this
  exact ltS_irr this

/-- the first number from v that is not in s -/
def mexF (s : List Int) : Nat → Int → Int
  | 0, v => v
  | f + 1, v => if v ∈ s then mexF s f (v + 1) else v
def ov (l : List Stay) (i k : Nat) : Bool := decide (fr l k < en l i) && decide (fr l i < en l k)
theorem ov_iff {l : List Stay} {i k : Nat} : ov l i k = true ↔ fr l k < en l i ∧ fr l i < en l k := by unfold ov; rw [Bool.and_eq_true, decide_eq_true_eq, decide_eq_true_eq]
def tkL (l : List Stay) (o : List Nat) (out : List Int) (x i : Nat) : List Int := ((o.take x).filter (ov l i)).map fun k => out[k]!
theorem tk_step {l : List Stay} {o : List Nat} {out : List Int} {x i : Nat} (hx : x < o.length) : tkL l o out (x + 1) i = tkL l o out x i ++ if ov l i o[x]! = true then [out[o[x]!]!] else [] := by
  unfold tkL
  rw [take_snoc! _ _ hx, List.filter_append, List.map_append]
  congr 1
  generalize o[x]! = y
  cases h : ov l i y <;> simp [h]
theorem tk_mem {l : List Stay} {o : List Nat} {out : List Int} {x i : Nat} {r : Int} : r ∈ tkL l o out x i ↔ ∃ k, k ∈ o.take x ∧ ov l i k = true ∧ out[k]! = r := by
  unfold tkL
  rw [List.mem_map]
  constructor
  · rintro ⟨k, h, e⟩
    rw [List.mem_filter] at h
    exact ⟨k, h.1, h.2, e⟩
  · rintro ⟨k, h1, h2, e⟩
    exact ⟨k, List.mem_filter.2 ⟨h1, h2⟩, e⟩
theorem mex_lo {s : List Int} : ∀ (f : Nat) (v : Int), v ≤ mexF s f v
  | 0, v => Int.le_refl _
  | f + 1, v => by
    rw [mexF]
    split
    · have := mex_lo (s := s) f (v + 1); omega
    · exact Int.le_refl _
theorem mex_hi {s : List Int} {m : Int} (hs : ∀ r, r ∈ s → r < m) : ∀ (f : Nat) (v : Int), v ≤ m → mexF s f v ≤ m
  | 0, v, h => h
  | f + 1, v, h => by
    rw [mexF]
    split
    · rename_i hv
      have := hs v hv
      exact mex_hi hs f (v + 1) (by omega)
    · exact h
theorem mex_fuel {s : List Int} {m : Int} (hs : ∀ r, r ∈ s → r < m) : ∀ (f : Nat) (v : Int), m ≤ v + f → mexF s f v ∉ s
  | 0, v, h => fun hm => by
    have : v ∈ s := hm
    have := hs v this
    omega
  | f + 1, v, h => by
    rw [mexF]
    split
    · exact mex_fuel hs f (v + 1) (by omega)
    · rename_i hv
      exact hv
theorem mex_below {s : List Int} : ∀ (f : Nat) (v r : Int), v ≤ r → r < mexF s f v → r ∈ s
  | 0, v, r, h1, h2 => absurd (show r < v from h2) (by omega)
  | f + 1, v, r, h1, h2 => by
    rw [mexF] at h2
    split at h2
    · rename_i hv
      rcases Int.lt_or_le v r with h | h
      · exact mex_below f (v + 1) r (by omega) h2
      · rw [show r = v by omega]; exact hv
    · omega
/-- the rails, after the first x of the order -/
def outR (l : List Stay) (n : Nat) : Nat → List Int
  | 0 => List.replicate n 0
  | x + 1 => (outR l n x).set (ordN l n)[x]! (mexF (tkL l (ordN l n) (outR l n x) x (ordN l n)[x]!) 21 0)
theorem outR_len (l : List Stay) (n : Nat) : ∀ x, (outR l n x).length = n
  | 0 => by simp [outR]
  | x + 1 => by rw [outR, List.length_set, outR_len l n x]
/-- rails of those that have one lie below x, the others are 0 -/
theorem outR_bd {l : List Stay} {n : Nat} : ∀ x, x ≤ n → (∀ k, k ∈ (ordN l n).take x → 0 ≤ (outR l n x)[k]! ∧ (outR l n x)[k]! < x) ∧ ∀ k, k < n → k ∉ (ordN l n).take x → (outR l n x)[k]! = 0
  | 0, _ => ⟨fun k h => absurd h (by simp), fun k hk _ => by simp [outR, hk]⟩
  | x + 1, hx => by
    obtain ⟨h1, h2⟩ := outR_bd (l := l) (n := n) x (by omega)
    have hlen := ordN_len l n
    have hol := outR_len l n x
    have hx' : x < (ordN l n).length := by omega
    have hxn := (ordN_mem l n _).1 (get_mem hx')
    rw [take_snoc! _ _ hx', outR]
    have hs : ∀ r, r ∈ tkL l (ordN l n) (outR l n x) x (ordN l n)[x]! → r < (x : Int) := fun r hr => by
      obtain ⟨k, hk, _, e⟩ := tk_mem.1 hr
      rw [← e]; exact (h1 k hk).2
    have hlo := mex_lo (s := tkL l (ordN l n) (outR l n x) x (ordN l n)[x]!) 21 0
    have hhi := mex_hi hs 21 0 (by omega)
    constructor
    · intro k hk
      rw [List.mem_append, List.mem_singleton] at hk
      rw [gset' _ _ _ (by omega)]
      by_cases he : (ordN l n)[x]! = k
      · rw [if_pos he]; omega
      · rw [if_neg he]
        rcases hk with hk | hk
        · have := h1 k hk; omega
        · exact absurd hk.symm he
    · intro k hk hn
      rw [List.mem_append, List.mem_singleton, not_or] at hn
      rw [gset' _ _ _ (by omega), if_neg (fun h => hn.2 h.symm)]
      exact h2 k hk hn.1
def railsL (l : List Stay) : List Int := if staysOk l = true then outR l l.length l.length else []
theorem railsL_len (l : List Stay) : (railsL l).length ≤ l.length := by
  unfold railsL
  split
  · rw [outR_len]; exact Nat.le_refl _
  · simp
end Go.Proofs.Ytebfcpninegcgaa
