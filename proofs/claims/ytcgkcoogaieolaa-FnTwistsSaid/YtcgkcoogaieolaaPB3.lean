/- Plain laws over the models: twists. No program, no statement of the claim. -/
import Derived.Test.YtcgkcoogaieolaaPB2
namespace Go.Proofs.Ytcgkcoogaieolaa

def inc (t : List (List Int)) (i j v : Int) : List (List Int) := t.set i.toNat (t[i.toNat]!.set j.toNat ((t[i.toNat]!)[j.toNat]! + v))
/-- n rows of n numbers, none further than m from 0 -/
structure TB (n : Nat) (m : Int) (t : List (List Int)) : Prop where
  len : t.length = n
  row : ∀ i, i < n → (t[i]!).length = n
  bd : ∀ i j, i < n → j < n → -m ≤ (t[i]!)[j]! ∧ (t[i]!)[j]! ≤ m
theorem inc_get {n : Nat} {t : List (List Int)} {a b v : Int} (hl : t.length = n) (hr : ∀ i, i < n → (t[i]!).length = n) (ha : ix a n) (hb : ix b n) (i j : Nat) : ((inc t a b v)[i]!)[j]! = (t[i]!)[j]! + if i = a.toNat ∧ j = b.toNat then v else 0 := by
  have ha1 : a.toNat < n := by have := ha.1; have := ha.2; omega
  have hb1 : b.toNat < n := by have := hb.1; have := hb.2; omega
  unfold inc
  rw [gset _ _ _ (by omega)]
  by_cases h1 : a.toNat = i
  · subst h1
    rw [if_pos rfl, gset _ _ _ (by rw [hr _ ha1]; exact hb1)]
    by_cases h2 : b.toNat = j
    · subst h2; simp
    · rw [if_neg h2, if_neg (fun h => h2 h.2.symm)]; omega
  · rw [if_neg h1, if_neg (fun h => h1 h.1.symm)]; omega
theorem inc_len (t : List (List Int)) (a b v : Int) : (inc t a b v).length = t.length := by simp [inc]
theorem inc_row {n : Nat} {t : List (List Int)} {a b v : Int} (hl : t.length = n) (hr : ∀ i, i < n → (t[i]!).length = n) (ha : ix a n) : ∀ i, i < n → ((inc t a b v)[i]!).length = n := by
  intro i hi
  have ha1 : a.toNat < n := by have := ha.1; have := ha.2; omega
  unfold inc
  rw [gset _ _ _ (by omega)]
  by_cases h1 : a.toNat = i
  · subst h1; rw [if_pos rfl, List.length_set]; exact hr _ ha1
  · rw [if_neg h1]; exact hr i hi
theorem inc2_get {n : Nat} {t : List (List Int)} {a b v : Int} (hl : t.length = n) (hr : ∀ i, i < n → (t[i]!).length = n) (ha : ix a n) (hb : ix b n) (i j : Nat) :
    ((inc (inc t a b v) b a v)[i]!)[j]! = (t[i]!)[j]! + (if i = a.toNat ∧ j = b.toNat then v else 0) + (if i = b.toNat ∧ j = a.toNat then v else 0) := by
  rw [inc_get (by rw [inc_len]; exact hl) (inc_row hl hr ha) hb ha, inc_get hl hr ha hb]
theorem ext2 {n : Nat} {t u : List (List Int)} (ht : t.length = n) (hu : u.length = n) (hrt : ∀ i, i < n → (t[i]!).length = n) (hru : ∀ i, i < n → (u[i]!).length = n) (h : ∀ i j, i < n → j < n → (t[i]!)[j]! = (u[i]!)[j]!) : t = u := by
  apply List.ext_getElem (by omega)
  intro i h1 h2
  have e1 : t[i]! = t[i] := by simp [h1]
  have e2 : u[i]! = u[i] := by simp [h2]
  have r1 := hrt i (by omega)
  have r2 := hru i (by omega)
  rw [e1] at r1
  rw [e2] at r2
  apply List.ext_getElem (by omega)
  intro j h3 h4
  have := h i j (by omega) (by omega)
  rw [e1, e2] at this
  simpa [h3, h4] using this
theorem inc_comm {n : Nat} {t : List (List Int)} {a b v : Int} (hl : t.length = n) (hr : ∀ i, i < n → (t[i]!).length = n) (ha : ix a n) (hb : ix b n) : inc (inc t a b v) b a v = inc (inc t b a v) a b v := by
  refine ext2 (n := n) (by rw [inc_len, inc_len]; exact hl) (by rw [inc_len, inc_len]; exact hl) (inc_row (by rw [inc_len]; exact hl) (inc_row hl hr ha) hb) (inc_row (by rw [inc_len]; exact hl) (inc_row hl hr hb) ha) fun i j _ _ => ?_
  rw [inc2_get hl hr ha hb, inc2_get hl hr hb ha]; omega
theorem TB.inc2 {n : Nat} {m : Int} {t : List (List Int)} {a b v : Int} (h : TB n m t) (ha : ix a n) (hb : ix b n) (hab : a.toNat ≠ b.toNat) (hv : v = 1 ∨ v = -1) : TB n (m + 1) (inc (inc t a b v) b a v) := by
  refine ⟨by rw [inc_len, inc_len, h.len], inc_row (by rw [inc_len]; exact h.len) (inc_row h.len h.row ha) hb, fun i j hi hj => ?_⟩
  have := h.bd i j hi hj
  rw [inc2_get h.len h.row ha hb]
  by_cases h1 : i = a.toNat ∧ j = b.toNat
  · rw [if_pos h1, if_neg (fun h2 => hab (h1.1.symm.trans h2.1))]; omega
  · rw [if_neg h1]
    by_cases h2 : i = b.toNat ∧ j = a.toNat
    · rw [if_pos h2]; omega
    · rw [if_neg h2]; omega

/- the twists behind crossings -/
def sg (b : Bool) : Int := if b = true then 1 else -1
theorem sg_or (b : Bool) : sg b = 1 ∨ sg b = -1 := by cases b <;> simp [sg]
def pA (n : Int) (l : List Cross) (i : Nat) : Int := (ord n (l.take i))[(l[i]!).1.toNat]!
def pB (n : Int) (l : List Cross) (i : Nat) : Int := (ord n (l.take i))[((l[i]!).1 + 1).toNat]!
def tw (n : Int) (l : List Cross) : Nat → List (List Int)
  | 0 => List.replicate n.toNat (List.replicate n.toNat (0 : Int))
  | i + 1 => inc (inc (tw n l i) (pA n l i) (pB n l i) (sg (l[i]!).2)) (pB n l i) (pA n l i) (sg (l[i]!).2)
theorem pAB {n : Int} {l : List Cross} (hc : crossesOk n l = true) {i : Nat} (hi : i < l.length) : ix (pA n l i) n.toNat ∧ ix (pB n l i) n.toNat ∧ (pA n l i).toNat ≠ (pB n l i).toNat := by
  obtain ⟨h1, h2, h3, h4⟩ := co_yes hc
  have hp := ord_pm hc i (by omega)
  have g4 := h4 i hi
  have r1 := hp.rng (l[i]!).1.toNat (by omega)
  have r2 := hp.rng ((l[i]!).1 + 1).toNat (by omega)
  have r3 := hp.inj (l[i]!).1.toNat ((l[i]!).1 + 1).toNat (by omega) (by omega)
  unfold pA pB
  refine ⟨⟨r1.1, r1.2⟩, ⟨r2.1, r2.2⟩, fun h => ?_⟩
  have := r3 (by omega)
  omega
theorem tw_tb {n : Int} {l : List Cross} (hc : crossesOk n l = true) : ∀ i, i ≤ l.length → TB n.toNat i (tw n l i)
  | 0, _ => by
    refine ⟨by simp [tw], fun i hi => by simp [tw, hi], fun i j hi hj => by simp [tw, hi, hj]⟩
  | i + 1, h => by
    obtain ⟨ha, hb, hab⟩ := pAB hc (i := i) (by omega)
    have := (tw_tb hc i (by omega)).inc2 ha hb hab (sg_or (l[i]!).2)
    have e : ((i + 1 : Nat) : Int) = (i : Int) + 1 := by omega
    rw [e]; exact this
theorem tw_get {n : Int} {l : List Cross} (hc : crossesOk n l = true) {i : Nat} (hi : i < l.length) (a b : Nat) : ((tw n l (i + 1))[a]!)[b]! = ((tw n l i)[a]!)[b]! + (if a = (pA n l i).toNat ∧ b = (pB n l i).toNat then sg (l[i]!).2 else 0) + (if a = (pB n l i).toNat ∧ b = (pA n l i).toNat then sg (l[i]!).2 else 0) := by
  obtain ⟨ha, hb, hab⟩ := pAB hc hi
  have ht := tw_tb hc i (by omega)
  exact inc2_get ht.len ht.row ha hb a b
theorem tw_sym {n : Int} {l : List Cross} (hc : crossesOk n l = true) : ∀ i, i ≤ l.length → ∀ a b : Nat, ((tw n l i)[a]!)[b]! = ((tw n l i)[b]!)[a]!
  | 0, _ => fun a b => by
    have e : ∀ a b : Nat, ((tw n l 0)[a]!)[b]! = (0 : Int) := by
      intro a b
      simp only [tw, List.getElem!_eq_getElem?_getD, List.getElem?_replicate]
      by_cases h : a < n.toNat
      · by_cases h2 : b < n.toNat <;> simp [h, h2]
      · simp [h]; rfl
    rw [e, e]
  | i + 1, h => fun a b => by
    rw [tw_get hc (by omega), tw_get hc (by omega), tw_sym hc i (by omega) a b]
    by_cases h1 : a = (pA n l i).toNat ∧ b = (pB n l i).toNat <;> by_cases h2 : a = (pB n l i).toNat ∧ b = (pA n l i).toNat
    · rw [if_pos h1, if_pos h2, if_pos ⟨h2.2, h2.1⟩, if_pos ⟨h1.2, h1.1⟩]
    · rw [if_pos h1, if_neg h2, if_neg (fun h => h2 ⟨h.2, h.1⟩), if_pos ⟨h1.2, h1.1⟩]; omega
    · rw [if_neg h1, if_pos h2, if_pos ⟨h2.2, h2.1⟩, if_neg (fun h => h1 ⟨h.2, h.1⟩)]; omega
    · rw [if_neg h1, if_neg h2, if_neg (fun h => h2 ⟨h.2, h.1⟩), if_neg (fun h => h1 ⟨h.2, h.1⟩)]
theorem tw_diag {n : Int} {l : List Cross} (hc : crossesOk n l = true) : ∀ i, i ≤ l.length → ∀ a : Nat, a < n.toNat → ((tw n l i)[a]!)[a]! = 0
  | 0, _ => fun a h => by simp [tw, h]
  | i + 1, h => fun a ha => by
    obtain ⟨_, _, hab⟩ := pAB hc (i := i) (by omega)
    rw [tw_get hc (by omega), tw_diag hc i (by omega) a ha, if_neg (fun h => hab (h.1.symm.trans h.2)), if_neg (fun h => hab (h.2.symm.trans h.1))]; omega
def twT (n : Int) (l : List Cross) : List (List Int) := tw n l l.length
def twA (n : Int) (l : List Cross) : List (List Int) := if crossesOk n l = true then twT n l else []

theorem twists1_ok {c : Cross} {a b : Int} {n : Nat} {m : Int} {t : List (List Int)} {Q : List (List Int) → Prop} (ht : TB n m t) (hm : m ≤ 1000) (ha : ix a n) (hb : ix b n) (hab : a.toNat ≠ b.toNat) (h : Q (inc (inc t a b (sg c.2)) b a (sg c.2))) : m_impl_twists_1 c a b t Q := by
  have key : ∀ v : Int, (v = 1 ∨ v = -1) → Q (inc (inc t a b v) b a v) → m_impl_twists_1_K0 a b t Q v := by
    intro v hv hQ
    have ha1 : a.toNat < n := by have := ha.1; have := ha.2; omega
    have hb1 : b.toNat < n := by have := hb.1; have := hb.2; omega
    have ra := ht.row _ ha1
    have rb := ht.row _ hb1
    have b1 := ht.bd _ _ ha1 hb1
    have e1 := inc_get (v := v) ht.len ht.row ha hb b.toNat a.toNat
    have b2 := ht.bd _ _ hb1 ha1
    have r2 := inc_row (b := b) (v := v) ht.len ht.row ha b.toNat hb1
    rw [if_neg (fun h => hab h.1.symm)] at e1
    refine ⟨by rw [ht.len]; exact ha, by rw [ra]; exact hb, by omega, by rw [ra]; exact hb, ?_, ?_, ?_, ?_, hQ⟩
    · have : (inc t a b v).length = n := by rw [inc_len, ht.len]
      show ix b (inc t a b v).length
      rw [this]; exact hb
    · show ix a ((inc t a b v)[b.toNat]!).length
      rw [r2]; exact ha
    · show ok64 (((inc t a b v)[b.toNat]!)[a.toNat]! + v)
      rw [e1]; omega
    · show ix a ((inc t a b v)[b.toNat]!).length
      rw [r2]; exact ha
  refine ⟨fun hf => ?_, fun hf => ?_⟩
  · have e : sg c.2 = 1 := by unfold sg; rw [if_pos hf]
    rw [e] at h; exact key 1 (.inl rfl) h
  · have e : sg c.2 = -1 := by unfold sg; rw [if_neg hf]
    rw [e] at h; exact key (-1) (.inr rfl) h
theorem followT_ok {n : Int} {l : List Cross} {Q : List Int → List (List Int) → Prop} (hc : crossesOk n l = true) (h : Q (ord n l) (twT n l)) : m_impl_follow_twists_1 n l (tw n l 0) Q := by
  obtain ⟨h1, h2, h3, h4⟩ := co_yes hc
  refine upTo_ok (by omega) ⟨fun x i t => 0 ≤ i ∧ i ≤ l.length ∧ x = ord n (l.take i.toNat) ∧ t = tw n l i.toNat, fun x i t => (l.length - i).toNat, ⟨by omega, by omega, rfl, rfl⟩, ?_⟩
  rintro x i t ⟨g0, g1, rfl, rfl⟩
  refine ⟨fun hb => ?_, fun hb => ?_⟩
  · have g4 := h4 i.toNat (by omega)
    have hl := (ord_pm hc i.toNat (by omega)).len
    have hi : ix (l[i.toNat]!).1 (ord n (l.take i.toNat)).length := ⟨g4.1, by omega⟩
    have hi2 : ix ((l[i.toNat]!).1 + 1) (ord n (l.take i.toNat)).length := ⟨by omega, by omega⟩
    obtain ⟨ha, hb', hab⟩ := pAB hc (i := i.toNat) (by omega)
    refine ⟨⟨g0, hb⟩, hi, by omega, hi2, twists1_ok (tw_tb hc i.toNat (by omega)) (by omega) ha hb' hab ⟨by omega, by omega, hi2, hi, hi, by simpa using hi2, by omega, ⟨by omega, by omega, ?_, ?_⟩, (by dsimp only; omega)⟩⟩
    · rw [tn1 g0, ord_step n l _ (by omega)]; rfl
    · rw [tn1 g0]; rfl
  · have e : i.toNat = l.length := by omega
    show Q (ord n (l.take i.toNat)) (tw n l i.toNat)
    rw [e, List.take_length]; exact h
theorem twists_ok {n : Int} {l : List Cross} {Q : List (List Int) → Prop} (hc : crossesOk n l = true) (h : Q (twT n l)) : m_impl_twists n l Q := by
  obtain ⟨h1, h2, h3, h4⟩ := co_yes hc
  refine ⟨⟨by omega, by omega⟩, fun i x => 0 ≤ i ∧ i ≤ n ∧ x.length = n.toNat ∧ x.take i.toNat = (tw n l 0).take i.toNat, fun i x => (n - i).toNat, ⟨by omega, by omega, by simp, rfl⟩, ?_⟩
  rintro i x ⟨g0, g1, g2, g3⟩
  have hlen : (tw n l 0).length = n.toNat := by simp [tw]
  refine ⟨fun hb => ?_, fun hb => ?_⟩
  · have hb : i < n := by simp at hb; omega
    refine ⟨⟨by omega, by omega⟩, ⟨g0, by omega⟩, by omega, ⟨by omega, by omega, by simp [g2], ?_⟩, (by dsimp only; omega)⟩
    rw [tn1 g0]
    have e : (tw n l 0)[i.toNat]! = List.replicate n.toNat (0 : Int) := by simp [tw, show i.toNat < n.toNat by omega]
    rw [← e]
    exact take_set1 (by omega) (by omega) g3
  · have hb : ¬ i < n := by simp at hb; omega
    have hx : x = tw n l 0 := take_all (by omega) (by omega) g3
    subst hx
    exact followT_ok hc h
theorem implTT_ok {n : Int} {l : List Cross} {Q : List (List Int) → Prop} (h : Q (twA n l)) : m_impl_TwistTable n l Q := by
  refine implCO_ok ⟨fun hc => ?_, fun hc => ?_⟩
  · unfold twA at h; rw [if_neg hc] at h; exact h
  · have hc := Classical.not_not.1 hc
    unfold twA at h; rw [if_pos hc] at h; exact twists_ok hc h

/- the reference's way: the pairs first -/
def prs (n : Int) (l : List Cross) : Nat → List (List Int)
  | 0 => []
  | i + 1 => prs n l i ++ [if (l[i]!).2 = true then [pA n l i, pB n l i] else [pB n l i, pA n l i]]
theorem prs_len (n : Int) (l : List Cross) : ∀ i, (prs n l i).length = i
  | 0 => rfl
  | i + 1 => by simp [prs, prs_len n l i]
theorem prs_get (n : Int) (l : List Cross) : ∀ m i, i < m → (prs n l m)[i]! = if (l[i]!).2 = true then [pA n l i, pB n l i] else [pB n l i, pA n l i]
  | 0, i, h => absurd h (by omega)
  | m + 1, i, h => by
    unfold prs
    by_cases hi : i < m
    · rw [← prs_get n l m i hi]
      simp [List.getElem!_eq_getElem?_getD, List.getElem?_append, prs_len, hi]
    · have : i = m := by omega
      subst this
      simp [List.getElem!_eq_getElem?_getD, prs_len]
theorem twA_len {n : Int} {l : List Cross} : (twA n l).length ≤ 7 := by
  unfold twA
  by_cases hc : crossesOk n l = true
  · rw [if_pos hc]
    obtain ⟨h1, h2, _⟩ := co_yes hc
    have := (tw_tb hc l.length (Nat.le_refl _)).len
    unfold twT; omega
  · rw [if_neg hc]; simp
theorem twA_row {n : Int} {l : List Cross} (i : Nat) (hi : i < (twA n l).length) : ((twA n l)[i]!).length ≤ 7 := by
  unfold twA at hi ⊢
  by_cases hc : crossesOk n l = true
  · rw [if_pos hc] at hi ⊢
    obtain ⟨h1, h2, _⟩ := co_yes hc
    have ht := tw_tb hc l.length (Nat.le_refl _)
    have h5 := ht.len
    have h6 := ht.row i (by unfold twT at hi; omega)
    unfold twT at hi ⊢
    omega
  · rw [if_neg hc] at hi; simp at hi
end Go.Proofs.Ytcgkcoogaieolaa
