/- Plain laws over the models: sizes, copies, comparisons, marks of numbers. No program, no statement of the claim. -/
import Derived.Test.YtddjkiefadiijaaMG
import Derived.Test.YtddjkiefadiijaaPlainA
namespace Go.Proofs.Ytddjkiefadiijaa

theorem tn1 {i : Int} (h : 0 ≤ i) : (i + 1).toNat = i.toNat + 1 := by omega
theorem take_set1 {α : Type} [Inhabited α] {x l : List α} {i : Nat} (hl : x.length = l.length) (hi : i < l.length) (h : x.take i = l.take i) : (x.set i l[i]!).take (i + 1) = l.take (i + 1) := by
  rw [take_snoc! l i hi, List.take_set, List.take_succ_eq_append_getElem (by omega), h]
  have h2 : (List.take i l).length = i := by simp; omega
  rw [List.set_append_right _ _ (by omega), h2]; simp
theorem take_all {α : Type} {x l : List α} {i : Nat} (hl : x.length = l.length) (hi : l.length ≤ i) (h : x.take i = l.take i) : x = l := by
  rwa [List.take_of_length_le (by omega), List.take_of_length_le hi] at h

/- numbers -/
theorem eqIntS_refl {l : List Int} {Q : Bool → Prop} (hl : l.length ≤ 1099511627776) (h : Q true) : m_laws_eqIntS l l Q :=
  ⟨fun h => absurd rfl h, fun _ => ⟨fun i => 0 ≤ i ∧ i ≤ l.length, fun i => (l.length - i).toNat, ⟨by omega, by omega⟩, fun i ⟨h0, h1⟩ =>
    ⟨fun hc => ⟨⟨h0, hc⟩, ⟨h0, hc⟩, fun h => absurd rfl h, fun _ => ⟨by omega, ⟨by omega, by omega⟩, (by dsimp only; omega)⟩⟩, fun _ => h⟩⟩⟩
def mkI (k : Int) (n : Nat) : List Int := (List.range n).map fun i : Nat => k + (i : Int)
theorem mkI_len (k : Int) (n : Nat) : (mkI k n).length = n := by simp [mkI]
theorem mkI_get (k : Int) (n i : Nat) (h : i < n) : (mkI k n)[i]! = k + (i : Int) := by simp [mkI, h]
theorem markIntS_ok {l : List Int} {k : Int} {Q : Int → List Int → Prop} (hl : l.length ≤ 1099511627776) (h0 : 0 ≤ k) (h1 : k ≤ 1099511627776) (h : Q (k + (l.length : Int)) (mkI k l.length)) : m_laws_markIntS l k Q := by
  refine ⟨fun x v i => 0 ≤ i ∧ i ≤ l.length ∧ x.length = l.length ∧ v = k + i ∧ x.take i.toNat = (mkI k l.length).take i.toNat, fun x v i => (l.length - i).toNat, ⟨by omega, by omega, rfl, by omega, by simp⟩, ?_⟩
  rintro x v i ⟨g0, g1, g2, g3, g4⟩
  subst g3
  refine ⟨fun hc => ⟨⟨g0, hc⟩, by omega, by omega, ⟨by omega, by omega, by simp [g2], by omega, ?_⟩, (by dsimp only; omega)⟩, fun hc => ?_⟩
  · rw [tn1 g0]
    have hi : i.toNat < l.length := by omega
    have e : (mkI k l.length)[i.toNat]! = k + i := by rw [mkI_get _ _ _ hi]; omega
    rw [← e]
    exact take_set1 (by rw [mkI_len]; exact g2) (by rw [mkI_len]; exact hi) g4
  · have hx : x = mkI k l.length := take_all (by rw [mkI_len]; exact g2) (by rw [mkI_len]; omega) g4
    subst hx
    have : k + i = k + (l.length : Int) := by omega
    rw [this]; exact h
theorem heldIntS_ok {k : Int} {n : Nat} {Q : Int → Prop} (hl : n ≤ 1099511627776) (h0 : 0 ≤ k) (h1 : k ≤ 1099511627776) (h : Q (k + (n : Int))) : m_laws_heldIntS (mkI k n) k Q := by
  have hn := mkI_len k n
  refine ⟨fun v i => 0 ≤ i ∧ i ≤ n ∧ v = k + i, fun v i => (n - i).toNat, ⟨by omega, by omega, by omega⟩, ?_⟩
  rintro v i ⟨g0, g1, rfl⟩
  refine ⟨fun hc => ?_, fun hc => ?_⟩
  · rw [hn] at hc
    have hi : i.toNat < n := by omega
    have e : (mkI k n)[i.toNat]! = k + i := by rw [mkI_get _ _ _ hi]; omega
    exact ⟨⟨g0, by rw [hn]; exact hc⟩, fun h => absurd e h, fun _ => ⟨by omega, by omega, ⟨by omega, by omega, by omega⟩, (by dsimp only; omega)⟩⟩
  · rw [hn] at hc
    have : k + i = k + (n : Int) := by omega
    show Q (k + i)
    rw [this]; exact h

/- tables of numbers -/
theorem eqIntSS_refl {t : List (List Int)} {Q : Bool → Prop} (hl : t.length ≤ 1099511627776) (hr : ∀ i, i < t.length → (t[i]!).length ≤ 1099511627776) (h : Q true) : m_laws_eqIntSS t t Q :=
  ⟨fun h => absurd rfl h, fun _ => ⟨fun i => 0 ≤ i ∧ i ≤ t.length, fun i => (t.length - i).toNat, ⟨by omega, by omega⟩, fun i ⟨h0, h1⟩ =>
    ⟨fun hc => ⟨⟨h0, hc⟩, ⟨h0, hc⟩, true, eqIntS_refl (hr _ (by omega)) rfl, fun h => absurd rfl h, fun _ => ⟨by omega, ⟨by omega, by omega⟩, (by dsimp only; omega)⟩⟩, fun _ => h⟩⟩⟩
def szII : List (List Int) → Nat
  | [] => 0
  | r :: t => r.length + szII t
def mkII : Int → List (List Int) → List (List Int)
  | _, [] => []
  | k, r :: t => mkI k r.length :: mkII (k + (r.length : Int)) t
theorem mkII_len : ∀ (k : Int) (t : List (List Int)), (mkII k t).length = t.length
  | _, [] => rfl
  | k, r :: t => by simp [mkII, mkII_len]
theorem mkII_get : ∀ (k : Int) (t : List (List Int)) (i : Nat), i < t.length → (mkII k t)[i]! = mkI (k + (szII (t.take i) : Int)) (t[i]!).length
  | _, [], i, h => by simp at h
  | k, r :: t, 0, _ => by simp [mkII, szII]
  | k, r :: t, i + 1, h => by
    have := mkII_get (k + (r.length : Int)) t i (by simpa using h)
    simp only [mkII, List.getElem!_cons_succ, List.take_succ_cons, szII, this]
    congr 1; omega
theorem szII_step (t : List (List Int)) (i : Nat) (h : i < t.length) : szII (t.take (i + 1)) = szII (t.take i) + (t[i]!).length := by
  induction t generalizing i with
  | nil => simp at h
  | cons r t ih =>
    cases i with
    | zero => simp [szII]
    | succ i =>
      have := ih i (by simpa using h)
      simp only [List.take_succ_cons, szII, this, List.getElem!_cons_succ]; omega
theorem szII_take (t : List (List Int)) (i : Nat) : szII (t.take i) ≤ szII t := by
  induction t generalizing i with
  | nil => simp [szII]
  | cons r t ih =>
    cases i with
    | zero => simp [szII]
    | succ i => have := ih i; simp only [List.take_succ_cons, szII]; omega
theorem szII_get (t : List (List Int)) (i : Nat) (h : i < t.length) : (t[i]!).length ≤ szII t := by
  have := szII_step t i h
  have := szII_take t (i + 1)
  omega
theorem drop_get {α : Type} [Inhabited α] {x t : List α} {i : Nat} (hl : x.length = t.length) (h : x.drop i = t.drop i) (hi : i < t.length) : x[i]! = t[i]! := by
  rw [drop_cons! x i (by omega), drop_cons! t i hi] at h
  exact (List.cons.inj h).1
theorem drop_set1 {α : Type} {x t : List α} {i : Nat} {v : α} (h : x.drop i = t.drop i) : (x.set i v).drop (i + 1) = t.drop (i + 1) := by
  rw [List.drop_set_of_lt (by omega)]
  have := congrArg (List.drop 1) h
  simpa [List.drop_drop, Nat.add_comm] using this

theorem szIntS_ok {l : List Int} {k : Int} {Q : Int → Prop} (hl : l.length ≤ 9223372036854775807) (hk : -1 ≤ k ∧ k ≤ 1048576) (h1 : (l.length : Int) ≤ k → Q (k - (l.length : Int))) (h2 : Q (-1)) : m_laws_szIntS l k Q :=
  ⟨by omega, fun _ => h2, fun h => h1 (by omega)⟩
theorem toIntS_ok {l : List Int} {Q : List Int → Prop} (hl : l.length ≤ 1048576) (h : Q l) : m_laws_toIntS l Q := by
  refine ⟨⟨by omega, by omega⟩, fun x i => 0 ≤ i ∧ i ≤ l.length ∧ x.length = l.length ∧ x.take i.toNat = l.take i.toNat, fun x i => (l.length - i).toNat, ⟨by omega, by omega, by simp, by simp⟩, ?_⟩
  rintro x i ⟨h0, h1, h2, h3⟩
  refine ⟨fun hc => ⟨⟨h0, hc⟩, ⟨h0, by omega⟩, by omega, ⟨by omega, by omega, by simp [h2], ?_⟩, (by dsimp only; omega)⟩, fun hc => ?_⟩
  · rw [tn1 h0]; exact take_set1 h2 (by omega) h3
  · have : x = l := take_all h2 (by omega) h3
    subst this; exact h
end Go.Proofs.Ytddjkiefadiijaa
