/- Plain laws over the models: sizes, copies, comparisons, marks. No program, no statement of the claim. -/
import Derived.Test.YtcgkcoogaieolaaMB
import Derived.Test.YtcgkcoogaieolaaPlainB
namespace Go.Proofs.Ytcgkcoogaieolaa

theorem tn1 {i : Int} (h : 0 ≤ i) : (i + 1).toNat = i.toNat + 1 := by omega
theorem take_set1 {α : Type} [Inhabited α] {x l : List α} {i : Nat} (hl : x.length = l.length) (hi : i < l.length) (h : x.take i = l.take i) : (x.set i l[i]!).take (i + 1) = l.take (i + 1) := by
  rw [take_snoc! l i hi, List.take_set, List.take_succ_eq_append_getElem (by omega), h]
  have h2 : (List.take i l).length = i := by simp; omega
  rw [List.set_append_right _ _ (by omega), h2]; simp
theorem take_all {α : Type} {x l : List α} {i : Nat} (hl : x.length = l.length) (hi : l.length ≤ i) (h : x.take i = l.take i) : x = l := by
  rwa [List.take_of_length_le (by omega), List.take_of_length_le hi] at h

/- crossings -/
/- numbers -/
def mkI (k : Int) (n : Nat) : List Int := (List.range n).map fun i : Nat => k + (i : Int)
theorem mkI_len (k : Int) (n : Nat) : (mkI k n).length = n := by simp [mkI]
theorem mkI_get (k : Int) (n i : Nat) (h : i < n) : (mkI k n)[i]! = k + (i : Int) := by simp [mkI, h]
/- tables of numbers -/
def szII : List (List Int) → Nat
  | [] => 0
  | r :: t => r.length + szII t
def mkII : Int → List (List Int) → List (List Int)
  | _, [] => []
  | k, r :: t => mkI k r.length :: mkII (k + (r.length : Int)) t
theorem mkII_len : ∀ (k : Int) (t : List (List Int)), (mkII k t).length = t.length
  | _, [] => rfl
  | k, r :: t => by simp [mkII, mkII_len]
theorem mkII_get : ∀ (k : Int) (t : List (List Int)) (i : Nat), i < t.length → (mkII k t)[i]! = mkI (k + (szII (t.take i) : Int)) (t[i]!).length
  | _, [], i, h => by simp at h
  | k, r :: t, 0, _ => by simp [mkII, szII]
  | k, r :: t, i + 1, h => by
    have := mkII_get (k + (r.length : Int)) t i (by simpa using h)
    simp only [mkII, List.getElem!_cons_succ, List.take_succ_cons, szII, this]
    congr 1; omega
theorem szII_step (t : List (List Int)) (i : Nat) (h : i < t.length) : szII (t.take (i + 1)) = szII (t.take i) + (t[i]!).length := by
  induction t generalizing i with
  | nil => simp at h
  | cons r t ih =>
    cases i with
    | zero => simp [szII]
    | succ i =>
      have := ih i (by simpa using h)
      simp only [List.take_succ_cons, szII, this, List.getElem!_cons_succ]; omega
theorem szII_take (t : List (List Int)) (i : Nat) : szII (t.take i) ≤ szII t := by
  induction t generalizing i with
  | nil => simp [szII]
  | cons r t ih =>
    cases i with
    | zero => simp [szII]
    | succ i => have := ih i; simp only [List.take_succ_cons, szII]; omega
theorem szII_get (t : List (List Int)) (i : Nat) (h : i < t.length) : (t[i]!).length ≤ szII t := by
  have := szII_step t i h
  have := szII_take t (i + 1)
  omega
theorem drop_get {α : Type} [Inhabited α] {x t : List α} {i : Nat} (hl : x.length = t.length) (h : x.drop i = t.drop i) (hi : i < t.length) : x[i]! = t[i]! := by
  rw [drop_cons! x i (by omega), drop_cons! t i hi] at h
  exact (List.cons.inj h).1
theorem drop_set1 {α : Type} {x t : List α} {i : Nat} {v : α} (h : x.drop i = t.drop i) : (x.set i v).drop (i + 1) = t.drop (i + 1) := by
  rw [List.drop_set_of_lt (by omega)]
  have := congrArg (List.drop 1) h
  simpa [List.drop_drop, Nat.add_comm] using this
end Go.Proofs.Ytcgkcoogaieolaa
