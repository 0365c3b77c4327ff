/- Plain laws over the models: players: sizes, copies, comparisons, marks. No program, no statement of the claim. -/
import Derived.Test.YtddjkiefadiijaaPJ
namespace Go.Proofs.Ytddjkiefadiijaa

def sumN {α : Type} (f : α → Nat) : List α → Nat
  | [] => 0
  | r :: t => f r + sumN f t
theorem sumN_step {α : Type} [Inhabited α] (f : α → Nat) (t : List α) (i : Nat) (h : i < t.length) : sumN f (t.take (i + 1)) = sumN f (t.take i) + f t[i]! := by
  induction t generalizing i with
  | nil => simp at h
  | cons r t ih =>
    cases i with
    | zero => simp [sumN]
    | succ i =>
      have := ih i (by simpa using h)
      simp only [List.take_succ_cons, sumN, this, List.getElem!_cons_succ]; omega
theorem sumN_take {α : Type} (f : α → Nat) (t : List α) (i : Nat) : sumN f (t.take i) ≤ sumN f t := by
  induction t generalizing i with
  | nil => simp [sumN]
  | cons r t ih =>
    cases i with
    | zero => simp [sumN]
    | succ i => have := ih i; simp only [List.take_succ_cons, sumN]; omega
theorem sumN_get {α : Type} [Inhabited α] (f : α → Nat) (t : List α) (i : Nat) (h : i < t.length) : f t[i]! ≤ sumN f t := by
  have := sumN_step f t i h
  have := sumN_take f t (i + 1)
  omega
theorem set_get {α : Type} [Inhabited α] {x : List α} {i : Nat} {a : α} (h : i < x.length) : (x.set i a)[i]! = a := by simp [h]
theorem drop_set' {α : Type} {x : List α} {i : Nat} {a : α} : (x.set i a).drop (i + 1) = x.drop (i + 1) := List.drop_set_of_lt (by omega)
theorem drop_next {α : Type} {x t : List α} {i : Nat} (h : x.drop i = t.drop i) : x.drop (i + 1) = t.drop (i + 1) := by
  have := congrArg (List.drop 1) h
  simpa [List.drop_drop, Nat.add_comm] using this

/-- the numbers below m with a property -/
def sel (p : Nat → Bool) (m : Nat) : List Int := ((List.range m).filter p).map fun k : Nat => (k : Int)
theorem sel_zero (p : Nat → Bool) : sel p 0 = [] := rfl
theorem sel_yes {p : Nat → Bool} {i : Int} (h0 : 0 ≤ i) (h : p i.toNat = true) : sel p i.toNat ++ [i] = sel p (i + 1).toNat := by
  unfold sel
  rw [tn1 h0, List.range_succ, List.filter_append, List.map_append]
  simp [h]; omega
theorem sel_no {p : Nat → Bool} {i : Int} (h0 : 0 ≤ i) (h : p i.toNat = false) : sel p i.toNat = sel p (i + 1).toNat := by
  unfold sel
  rw [tn1 h0, List.range_succ, List.filter_append, List.map_append]
  simp [h]
theorem sel_len (p : Nat → Bool) (m : Nat) : (sel p m).length ≤ m := by
  unfold sel
  rw [List.length_map]
  exact Nat.le_trans (List.length_filter_le _ _) (by simp)
theorem sel_mem {p : Nat → Bool} {m : Nat} {x : Int} : x ∈ sel p m ↔ 0 ≤ x ∧ x.toNat < m ∧ p x.toNat = true := by
  unfold sel
  simp only [List.mem_map, List.mem_filter, List.mem_range]
  constructor
  · rintro ⟨k, ⟨h1, h2⟩, rfl⟩; exact ⟨by omega, by simpa using h1, by simpa using h2⟩
  · rintro ⟨h0, h1, h2⟩; exact ⟨x.toNat, ⟨h1, h2⟩, by omega⟩

theorem mem_get {l : List Int} {x : Int} : x ∈ l ↔ ∃ j, j < l.length ∧ l[j]! = x := by
  rw [List.mem_iff_getElem]
  constructor
  · rintro ⟨j, hj, h⟩; exact ⟨j, hj, by simpa [hj] using h⟩
  · rintro ⟨j, hj, h⟩; exact ⟨j, hj, by simpa [hj] using h⟩

def plN (p : PlayerC) : Nat := p.1.length
def szPl (l : List PlayerC) : Nat := sumN plN l
theorem szPlayer_ok {c : PlayerC} {k : Int} {Q : Int → Prop} (ha : c.1.length ≤ 9223372036854775807) (hk : 0 ≤ k ∧ k ≤ 1048576) (h1 : (plN c : Int) ≤ k → Q (k - (plN c : Int))) (h2 : Q (-1)) : m_laws_szPlayer c k Q := by
  unfold plN at h1
  exact szIntS_ok ha (by omega) (fun g1 => ⟨fun _ => h2, fun _ => h1 (by omega)⟩) ⟨fun _ => h2, fun h => absurd (by omega) h⟩
theorem szPlayerS_ok {l : List PlayerC} {k : Int} {Q : Int → Prop} (hk : 0 ≤ k ∧ k ≤ 1048576) (hl : l.length ≤ 9223372036854775807) (hr : ∀ i, i < l.length → (l[i]!).1.length ≤ 9223372036854775807) (h1 : ((l.length + szPl l : Nat) : Int) ≤ k → Q (k - (l.length : Int) - (szPl l : Int))) (h2 : Q (-1)) : m_laws_szPlayerS l k Q := by
  refine ⟨by omega, fun _ => h2, fun hn => ⟨fun v i => 0 ≤ i ∧ i ≤ l.length ∧ 0 ≤ v ∧ v = k - (l.length : Int) - (sumN plN (l.take i.toNat) : Int), fun v i => (l.length - i).toNat, ⟨by omega, by omega, by omega, by simp [sumN]⟩, ?_⟩⟩
  rintro v i ⟨g0, g1, g2, g3⟩
  refine ⟨fun hc => ⟨⟨g0, hc⟩, ?_⟩, fun hc => ?_⟩
  · have e := sumN_step plN l i.toNat (by omega)
    have hr' := hr i.toNat (by omega)
    refine szPlayer_ok hr' (by omega) (fun hk => ⟨fun _ => h2, fun _ => ⟨by omega, ⟨by omega, by omega, by omega, ?_⟩, (by dsimp only; omega)⟩⟩) ⟨fun _ => h2, fun h => absurd (by omega) h⟩
    rw [tn1 g0, e]; omega
  · have e : l.take i.toNat = l := List.take_of_length_le (by omega)
    rw [e] at g3
    have := h1 (by show ((l.length + sumN plN l : Nat) : Int) ≤ _; omega)
    show Q v
    rw [g3]; exact this
theorem toPlayer_ok {c : PlayerC} {Q : PlayerC → Prop} (hc : plN c ≤ 1048576) (h : Q c) : m_laws_toPlayer c Q := toIntS_ok hc h
theorem toPlayerS_ok {l : List PlayerC} {Q : List PlayerC → Prop} (hl : l.length + szPl l ≤ 1048576) (h : Q l) : m_laws_toPlayerS l Q := by
  refine ⟨⟨by omega, by omega⟩, fun x i => 0 ≤ i ∧ i ≤ l.length ∧ x.length = l.length ∧ x.take i.toNat = l.take i.toNat, fun x i => (l.length - i).toNat, ⟨by omega, by omega, by simp, by simp⟩, ?_⟩
  rintro x i ⟨h0, h1, h2, h3⟩
  refine ⟨fun hc => ⟨⟨h0, hc⟩, toPlayer_ok (by have := sumN_get plN l i.toNat (by omega); unfold szPl at hl; omega) ⟨⟨h0, by omega⟩, by omega, ⟨by omega, by omega, by simp [h2], ?_⟩, (by dsimp only; omega)⟩⟩, fun hc => ?_⟩
  · rw [tn1 h0]; exact take_set1 h2 (by omega) h3
  · have : x = l := take_all h2 (by omega) h3
    subst this; exact h
theorem eqPlayer_refl {c : PlayerC} {Q : Bool → Prop} (hc : plN c ≤ 1048576) (h : Q true) : m_laws_eqPlayer c c Q := by
  unfold plN at hc
  exact eqIntS_refl (by omega) ⟨fun h => absurd rfl h, fun _ => ⟨fun h => absurd rfl h, fun _ => h⟩⟩
theorem eqPlayerS_refl {l : List PlayerC} {Q : Bool → Prop} (hl : l.length + szPl l ≤ 1048576) (h : Q true) : m_laws_eqPlayerS l l Q :=
  ⟨fun h => absurd rfl h, fun _ => ⟨fun i => 0 ≤ i ∧ i ≤ l.length, fun i => (l.length - i).toNat, ⟨by omega, by omega⟩, fun i ⟨h0, h1⟩ =>
    ⟨fun hc => ⟨⟨h0, hc⟩, ⟨h0, hc⟩, true, eqPlayer_refl (by have := sumN_get plN l i.toNat (by omega); unfold szPl at hl; omega) rfl, fun h => absurd rfl h, fun _ => ⟨by omega, ⟨by omega, by omega⟩, (by dsimp only; omega)⟩⟩, fun _ => h⟩⟩⟩
/- marks -/
def mkPl : Int → List PlayerC → List PlayerC
  | _, [] => []
  | k, p :: t => (mkI k p.1.length, k + (p.1.length : Int)) :: mkPl (k + (p.1.length : Int) + 1) t
def plM (p : PlayerC) : Nat := p.1.length + 1
theorem plM_sum : ∀ l : List PlayerC, sumN plM l = szPl l + l.length
  | [] => rfl
  | p :: l => by
    have := plM_sum l
    have e : szPl (p :: l) = p.1.length + szPl l := rfl
    rw [e]
    simp only [sumN, List.length_cons, this]
    show p.1.length + 1 + _ = _
    omega
theorem mkPl_len : ∀ (k : Int) (t : List PlayerC), (mkPl k t).length = t.length
  | _, [] => rfl
  | k, r :: t => by simp [mkPl, mkPl_len]
theorem mkPl_get : ∀ (k : Int) (t : List PlayerC) (i : Nat), i < t.length → (mkPl k t)[i]! = (mkI (k + (sumN plM (t.take i) : Int)) (t[i]!).1.length, k + (sumN plM (t.take i) : Int) + ((t[i]!).1.length : Int))
  | _, [], i, h => by simp at h
  | k, r :: t, 0, _ => by simp [mkPl, sumN]
  | k, r :: t, i + 1, h => by
    have := mkPl_get (k + (r.1.length : Int) + 1) t i (by simpa using h)
    simp only [mkPl, List.getElem!_cons_succ, List.take_succ_cons, sumN, this]
    have e : plM r = r.1.length + 1 := rfl
    rw [e, show k + (r.1.length : Int) + 1 + (sumN plM (t.take i) : Int) = k + ((r.1.length + 1 + sumN plM (t.take i) : Nat) : Int) by omega]
theorem markPlayerS_ok {l : List PlayerC} {k : Int} {Q : Int → List PlayerC → Prop} (hl : l.length + szPl l ≤ 1048576) (h0 : 0 ≤ k) (h1 : k ≤ 549755813888) (h : Q (k + (sumN plM l : Int)) (mkPl k l)) : m_laws_markPlayerS l k Q := by
  have hsum := plM_sum l
  refine ⟨fun x v i => 0 ≤ i ∧ i ≤ l.length ∧ x.length = l.length ∧ v = k + (sumN plM (l.take i.toNat) : Int) ∧ x.take i.toNat = (mkPl k l).take i.toNat ∧ x.drop i.toNat = l.drop i.toNat, fun x v i => (l.length - i).toNat, ⟨by omega, by omega, rfl, by simp [sumN], by simp, rfl⟩, ?_⟩
  rintro x v i ⟨g0, g1, g2, g3, g4, g5⟩
  refine ⟨fun hc => ?_, fun hc => ?_⟩
  · have hi : i.toNat < l.length := by omega
    have hx : i.toNat < x.length := by omega
    have e1 : x[i.toNat]! = l[i.toNat]! := drop_get g2 g5 hi
    have e2 := sumN_step plM l i.toNat hi
    have e3 := sumN_take plM l (i.toNat + 1)
    have e4 : plM l[i.toNat]! = (l[i.toNat]!).1.length + 1 := rfl
    have e5 := mkPl_get k l i.toNat hi
    have hix : ∀ y : List PlayerC, y.length = x.length → ix i y.length := fun y hy => ⟨g0, by omega⟩
    refine ⟨hix _ rfl, ?_⟩
    rw [e1]
    refine markIntS_ok (by omega) (by omega) (by omega) ⟨hix _ (by simp), by omega, by omega, ⟨by omega, by omega, by simp [g2], ?_, ?_, ?_⟩, (by dsimp only; omega)⟩
    · rw [tn1 g0, e2]; omega
    · rw [set_get hx, List.set_set, tn1 g0]
      have := take_set1 (x := x) (l := mkPl k l) (i := i.toNat) (by rw [mkPl_len]; exact g2) (by rw [mkPl_len]; exact hi) g4
      rw [e5, ← g3] at this
      exact this
    · rw [tn1 g0]; simp only [drop_set']; exact drop_next g5
  · have hx : x = mkPl k l := take_all (by rw [mkPl_len]; exact g2) (by rw [mkPl_len]; omega) g4
    subst hx
    have : v = k + (sumN plM l : Int) := by rw [g3, List.take_of_length_le (by omega)]
    rw [this]; exact h
theorem ite_cg {α : Sort _} {p q : Prop} [Decidable p] [Decidable q] {a b : α} (h : p ↔ q) : (if p then a else b) = if q then a else b := by
  by_cases hp : p
  · rw [if_pos hp, if_pos (h.1 hp)]
  · rw [if_neg hp, if_neg (fun hq => hp (h.2 hq))]
/- rows, each with what it should be -/
structure Rows {α : Type} [Inhabited α] (n : Nat) (x : List α) (P : Nat → α → Prop) : Prop where
  len : x.length = n
  row : ∀ r, r < n → P r x[r]!
theorem Rows.mono {α : Type} [Inhabited α] {n : Nat} {x : List α} {P P' : Nat → α → Prop} (h : Rows n x P) (hp : ∀ r v, r < n → P r v → P' r v) : Rows n x P' := ⟨h.len, fun r hr => hp r _ hr (h.row r hr)⟩
theorem Rows.set {α : Type} [Inhabited α] {n i : Nat} {x : List α} {v : α} {P P' : Nat → α → Prop} (h : Rows n x P) (hi : i < n) (hv : P' i v) (hp : ∀ r v, r < n → r ≠ i → P r v → P' r v) : Rows n (x.set i v) P' := by
  refine ⟨by rw [List.length_set]; exact h.len, fun r hr => ?_⟩
  rw [gset _ _ _ (by rw [h.len]; exact hi)]
  by_cases hc : i = r
  · subst hc; rw [if_pos rfl]; exact hv
  · rw [if_neg hc]; exact hp r _ hr (fun h => hc h.symm) (h.row r hr)

end Go.Proofs.Ytddjkiefadiijaa
