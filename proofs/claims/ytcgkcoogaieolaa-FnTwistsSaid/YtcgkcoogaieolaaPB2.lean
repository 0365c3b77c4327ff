/- Plain laws over the models: crossings and orders. No program, no statement of the claim. -/
import Derived.Test.YtcgkcoogaieolaaPB1
namespace Go.Proofs.Ytcgkcoogaieolaa

theorem in_ok {a b c : Int} {Q : Bool → Prop} (h : Q (decide (b ≤ a ∧ a ≤ c))) : m_spec_l01In a b c Q := by
  show Q _; rw [in_eq]; exact h
theorem within_ok {a b c : Int} {Q : Bool → Prop} (h : Q (decide (b ≤ a ∧ a ≤ c))) : m_impl_within a b c Q := by
  show Q _; rw [in_eq]; exact h
theorem specCO_ok {n : Int} {l : List Cross} {Q : Bool → Prop} (h : Q (crossesOk n l)) : m_spec_CrossesOk n l Q := by
  refine in_ok ⟨fun hc => ?_, fun hc => ?_⟩
  · have : crossesOk n l = false := co_size (by simp only [decide_eq_true_eq] at hc; omega)
    rw [this] at h; exact h
  · have hs : 1 ≤ n ∧ n ≤ 7 ∧ l.length ≤ 40 := by simp only [decide_eq_true_eq] at hc; omega
    refine ⟨fun i => 0 ≤ i ∧ i ≤ l.length ∧ (l.take i.toNat).all (okCr n) = true, fun i => (l.length - i).toNat, ⟨by omega, by omega, rfl⟩, ?_⟩
    rintro i ⟨h0, h1, h2⟩
    refine ⟨fun hc => ⟨⟨h0, hc⟩, by omega, in_ok ⟨fun hb => ?_, fun hb => ⟨by omega, ⟨by omega, by omega, ?_⟩, (by dsimp only; omega)⟩⟩⟩, fun hc => ?_⟩
    · have : crossesOk n l = false := co_bad (k := i.toNat) (by omega) (fun hx => hb (decide_eq_true (okCr_iff.1 hx)))
      rw [this] at h; exact h
    · rw [tn1 h0]; exact co_step (by omega) h2 (okCr_iff.2 (of_decide_eq_true (Classical.not_not.1 hb)))
    · have : crossesOk n l = true := co_good (k := i.toNat) hs (by omega) h2
      rw [this] at h; exact h
theorem implCO_ok {n : Int} {l : List Cross} {Q : Bool → Prop} (h : Q (crossesOk n l)) : m_impl_CrossesOk n l Q := by
  refine within_ok ⟨fun hc => ?_, fun hc => ?_⟩
  · have : crossesOk n l = false := co_size (by simp only [decide_eq_true_eq] at hc; omega)
    rw [this] at h; exact h
  · have hs : 1 ≤ n ∧ n ≤ 7 ∧ l.length ≤ 40 := by simp only [decide_eq_true_eq] at hc; omega
    refine ⟨fun i => 0 ≤ i ∧ i ≤ l.length ∧ (l.take i.toNat).all (okCr n) = true, fun i => (l.length - i).toNat, ⟨by omega, by omega, rfl⟩, ?_⟩
    rintro i ⟨h0, h1, h2⟩
    refine ⟨fun hc => ⟨⟨h0, hc⟩, by omega, within_ok ⟨fun hb => ?_, fun hb => ⟨by omega, ⟨by omega, by omega, ?_⟩, (by dsimp only; omega)⟩⟩⟩, fun hc => ?_⟩
    · have : crossesOk n l = false := co_bad (k := i.toNat) (by omega) (fun hx => hb (decide_eq_true (okCr_iff.1 hx)))
      rw [this] at h; exact h
    · rw [tn1 h0]; exact co_step (by omega) h2 (okCr_iff.2 (of_decide_eq_true (Classical.not_not.1 hb)))
    · have : crossesOk n l = true := co_good (k := i.toNat) hs (by omega) h2
      rw [this] at h; exact h

/- 0, 1, 2 .. -/
def upL (n : Int) : List Int := (List.range n.toNat).map fun i : Nat => (i : Int)
theorem upL_len (n : Int) : (upL n).length = n.toNat := by simp [upL]
theorem upL_get (n : Int) (i : Nat) (h : i < n.toNat) : (upL n)[i]! = (i : Int) := by simp [upL, h]
theorem upL_step (i : Int) (h : 0 ≤ i) : upL (i + 1) = upL i ++ [i] := by
  unfold upL; rw [tn1 h, List.range_succ, List.map_append]; simp; omega
theorem upL_end {n i : Int} (h0 : 0 ≤ i) (h1 : i ≤ n ∨ i = 0) (hc : ¬ i < n) : upL i = upL n := by
  unfold upL; congr 2; omega
theorem upTo_ok {n : Int} {Q : List Int → Prop} (hn : n ≤ 1000) (h : Q (upL n)) : m_impl_upTo n Q := by
  refine ⟨fun x i => 0 ≤ i ∧ (i ≤ n ∨ i = 0) ∧ x = upL i, fun x i => (n - i).toNat, ⟨by omega, by omega, rfl⟩, ?_⟩
  rintro x i ⟨h0, h1, rfl⟩
  refine ⟨fun hc => ⟨by rw [upL_len]; omega, by omega, ⟨by omega, by omega, (upL_step i h0).symm⟩, (by dsimp only; omega)⟩, fun hc => ?_⟩
  rw [upL_end h0 h1 hc]; exact h
theorem start_ok {n : Int} {Q : List Int → Prop} (hn : n ≤ 1000) (h : Q (upL n)) : m_spec_l08Start n Q := by
  refine ⟨fun x i => 0 ≤ i ∧ (i ≤ n ∨ i = 0) ∧ x = upL i, fun x i => (n - i).toNat, ⟨by omega, by omega, rfl⟩, ?_⟩
  rintro x i ⟨h0, h1, rfl⟩
  refine ⟨fun hc => ⟨by rw [upL_len]; omega, by omega, ⟨by omega, by omega, (upL_step i h0).symm⟩, (by dsimp only; omega)⟩, fun hc => ?_⟩
  rw [upL_end h0 h1 hc]; exact h

/- orders: each of 0 .. n-1 once -/
structure Pm (n : Nat) (o : List Int) : Prop where
  len : o.length = n
  rng : ∀ i, i < n → 0 ≤ o[i]! ∧ o[i]! < n
  inj : ∀ i j, i < n → j < n → o[i]! = o[j]! → i = j
theorem upL_pm (n : Int) : Pm n.toNat (upL n) :=
  ⟨upL_len n, fun i h => by rw [upL_get n i h]; omega, fun i j hi hj h => by rw [upL_get n i hi, upL_get n j hj] at h; omega⟩
theorem gset {α : Type} [Inhabited α] (l : List α) (i : Nat) (v : α) (hi : i < l.length) (j : Nat) : (l.set i v)[j]! = if i = j then v else l[j]! := by
  simp only [List.getElem!_eq_getElem?_getD, List.getElem?_set]
  by_cases hj : i = j
  · subst hj; simp [hi]
  · simp [hj]
def sw (o : List Int) (k : Int) : List Int := (o.set k.toNat o[(k + 1).toNat]!).set (k + 1).toNat o[k.toNat]!
def tau (k i : Nat) : Nat := if i = k + 1 then k else if i = k then k + 1 else i
theorem sw_len (o : List Int) (k : Int) : (sw o k).length = o.length := by simp [sw]
theorem sw_get {o : List Int} {k : Int} {i : Nat} (h0 : 0 ≤ k) (h1 : k + 1 < o.length) : (sw o k)[i]! = o[tau k.toNat i]! := by
  unfold sw tau
  rw [gset _ _ _ (by simp; omega), gset _ _ _ (by omega), tn1 h0]
  by_cases e1 : i = k.toNat + 1
  · subst e1; simp
  · by_cases e2 : i = k.toNat
    · subst e2; simp
    · rw [if_neg (fun h => e1 h.symm), if_neg (fun h => e2 h.symm), if_neg e1, if_neg e2]
theorem tau_lt {k i n : Nat} (hk : k + 1 < n) (hi : i < n) : tau k i < n := by unfold tau; split <;> (try split) <;> omega
theorem tau_inj {k i j : Nat} (h : tau k i = tau k j) : i = j := by
  unfold tau at h
  split at h <;> split at h <;> (try split at h) <;> (try split at h) <;> omega
theorem Pm.sw {n : Nat} {o : List Int} {k : Int} (h : Pm n o) (h0 : 0 ≤ k) (h1 : k + 1 < n) : Pm n (sw o k) := by
  have hl : k + 1 < o.length := by rw [h.len]; exact h1
  refine ⟨by rw [sw_len, h.len], fun i hi => ?_, fun i j hi hj he => ?_⟩
  · rw [sw_get h0 hl]; exact h.rng _ (tau_lt (by omega) hi)
  · rw [sw_get h0 hl, sw_get h0 hl] at he
    exact tau_inj (h.inj _ _ (tau_lt (by omega) hi) (tau_lt (by omega) hj) he)
theorem specOO_ok {n : Nat} {o : List Int} {Q : Bool → Prop} (hp : Pm n o) (h1 : 1 ≤ n) (h7 : n ≤ 7) (h : Q true) : m_spec_OrderOk o Q := by
  have hl := hp.len
  refine ⟨fun i => 0 ≤ i ∧ i ≤ o.length, fun i => (o.length - i).toNat, ⟨by omega, by omega⟩, ?_⟩
  rintro i ⟨h0, h2⟩
  refine ⟨fun hc => ⟨⟨h0, hc⟩, by omega, in_ok ⟨fun hb => ?_, fun _ => ?_⟩⟩, fun _ => in_ok ?_⟩
  · exact absurd (decide_eq_true (by have := hp.rng i.toNat (by omega); omega)) hb
  · refine ⟨fun j => 0 ≤ j ∧ j ≤ i, fun j => (i - j).toNat, ⟨by omega, h0⟩, ?_⟩
    rintro j ⟨g0, g1⟩
    refine ⟨fun hd => ⟨⟨g0, by omega⟩, ⟨h0, hc⟩, fun he => ?_, fun _ => ⟨by omega, ⟨by omega, by omega⟩, (by dsimp only; omega)⟩⟩, fun _ => ⟨by omega, ⟨by omega, by omega⟩, (by dsimp only; omega)⟩⟩
    exact absurd (hp.inj _ _ (by omega) (by omega) he) (by omega)
  · have : (decide (1 ≤ (o.length : Int) ∧ (o.length : Int) ≤ 7)) = true := decide_eq_true (by omega)
    rw [this]; exact h
theorem swapAt_ok {n : Nat} {o : List Int} {k : Int} {Q : List Int → Bool → Prop} (hp : Pm n o) (h1 : 1 ≤ n) (h7 : n ≤ 7) (hk : 0 ≤ k) (hk2 : k + 1 < n) (h : Q (sw o k) true) : m_spec_SwapAt o k Q := by
  have hl := hp.len
  refine ⟨by omega, specOO_ok hp h1 h7 ⟨fun _ => by omega, true, fun _ => in_ok (decide_eq_true (by omega)), fun hc => ?_, fun _ => ⟨by omega, ⟨by omega, by omega⟩, ⟨by omega, by omega⟩, by omega, ⟨by omega, by omega⟩, ⟨by omega, by simp; omega⟩, h⟩⟩⟩
  simp at hc

/- the order behind crossings -/
def ord (n : Int) (l : List Cross) : List Int := l.foldl (fun o c => sw o c.1) (upL n)
theorem ord_step (n : Int) (l : List Cross) (i : Nat) (h : i < l.length) : ord n (l.take (i + 1)) = sw (ord n (l.take i)) (l[i]!).1 := by
  unfold ord; rw [take_snoc! l i h, List.foldl_append]; rfl
theorem ord_pm {n : Int} {l : List Cross} (hc : crossesOk n l = true) : ∀ i, i ≤ l.length → Pm n.toNat (ord n (l.take i))
  | 0, _ => upL_pm n
  | i + 1, h => by
    obtain ⟨h1, h2, h3, h4⟩ := co_yes hc
    rw [ord_step n l i (by omega)]
    have := h4 i (by omega)
    exact (ord_pm hc i (by omega)).sw this.1 (by omega)
def ordA (n : Int) (l : List Cross) : List Int := if crossesOk n l = true then ord n l else []
theorem ord_full (n : Int) (l : List Cross) {i : Int} (h : ¬ i < (l.length : Int)) : ord n (l.take i.toNat) = ord n l := by rw [List.take_of_length_le (by omega)]
theorem specOA_ok {n : Int} {l : List Cross} {Q : List Int → Prop} (h : Q (ordA n l)) : m_spec_OrderAfter n l Q := by
  refine specCO_ok ⟨fun hc => ?_, fun hc => ?_⟩
  · unfold ordA at h; rw [if_neg hc] at h; exact h
  · have hc := Classical.not_not.1 hc
    unfold ordA at h; rw [if_pos hc] at h
    obtain ⟨h1, h2, h3, h4⟩ := co_yes hc
    refine start_ok (by omega) ⟨fun x i => 0 ≤ i ∧ i ≤ l.length ∧ x = ord n (l.take i.toNat), fun x i => (l.length - i).toNat, ⟨by omega, by omega, rfl⟩, ?_⟩
    rintro x i ⟨g0, g1, rfl⟩
    refine ⟨fun hb => ⟨⟨g0, hb⟩, ?_⟩, fun hb => ?_⟩
    · have g4 := h4 i.toNat (by omega)
      refine swapAt_ok (ord_pm hc i.toNat (by omega)) (by omega) (by omega) g4.1 (by omega) ⟨by omega, ⟨by omega, by omega, ?_⟩, (by dsimp only; omega)⟩
      rw [tn1 g0, ord_step n l _ (by omega)]
    · rw [ord_full n l hb]; exact h
theorem followOA_ok {n : Int} {l : List Cross} {Q : List Int → Prop} (hc : crossesOk n l = true) (h : Q (ord n l)) : m_impl_follow_OrderAfter_1 n l Q := by
  obtain ⟨h1, h2, h3, h4⟩ := co_yes hc
  refine upTo_ok (by omega) ⟨fun x i => 0 ≤ i ∧ i ≤ l.length ∧ x = ord n (l.take i.toNat), fun x i => (l.length - i).toNat, ⟨by omega, by omega, rfl⟩, ?_⟩
  rintro x i ⟨g0, g1, rfl⟩
  refine ⟨fun hb => ?_, fun hb => ?_⟩
  · have g4 := h4 i.toNat (by omega)
    have hl := (ord_pm hc i.toNat (by omega)).len
    have hi : ix (l[i.toNat]!).1 (ord n (l.take i.toNat)).length := ⟨g4.1, by omega⟩
    have hi2 : ix ((l[i.toNat]!).1 + 1) (ord n (l.take i.toNat)).length := ⟨by omega, by omega⟩
    refine ⟨⟨g0, hb⟩, hi, by omega, hi2, by omega, by omega, hi2, hi, hi, by simpa using hi2, by omega, ⟨by omega, by omega, ?_⟩, (by dsimp only; omega)⟩
    rw [tn1 g0, ord_step n l _ (by omega)]; rfl
  · rw [ord_full n l hb]; exact h
theorem implOA_ok {n : Int} {l : List Cross} {Q : List Int → Prop} (h : Q (ordA n l)) : m_impl_OrderAfter n l Q := by
  refine implCO_ok ⟨fun hc => ?_, fun hc => ?_⟩
  · unfold ordA at h; rw [if_neg hc] at h; exact h
  · have hc := Classical.not_not.1 hc
    unfold ordA at h; rw [if_pos hc] at h
    exact followOA_ok hc h
theorem sameInts_ok {a b : List Int} {Q : Bool → Prop} (ha : a.length ≤ 1099511627776) (h : Q (decide (a = b))) : m_impl_sameInts a b Q := by
  refine ⟨fun hc => ?_, fun hc => ⟨fun i => 0 ≤ i ∧ i ≤ a.length ∧ a.take i.toNat = b.take i.toNat, fun i => (a.length - i).toNat, ⟨by omega, by omega, rfl⟩, ?_⟩⟩
  · have : decide (a = b) = false := decide_eq_false (fun e => hc (by rw [e]))
    rw [this] at h; exact h
  · have hl : a.length = b.length := by omega
    rintro i ⟨h0, h1, h2⟩
    refine ⟨fun hb => ⟨⟨h0, hb⟩, ⟨h0, by omega⟩, fun he => ?_, fun he => ⟨by omega, ⟨by omega, by omega, ?_⟩, (by dsimp only; omega)⟩⟩, fun hb => ?_⟩
    · have : decide (a = b) = false := decide_eq_false (fun e => he (by rw [e]))
      rw [this] at h; exact h
    · rw [tn1 h0, take_snoc! a _ (by omega), take_snoc! b _ (by omega), h2, Classical.not_not.1 he]
    · have : decide (a = b) = true := decide_eq_true (take_all hl (by omega) h2)
      rw [this] at h; exact h
theorem isHome_ok {n : Int} {l : List Cross} {Q : Bool → Prop} (hn : n ≤ 7) (h : Q (decide (ordA n l = upL n))) : m_impl_isHome n l Q := by
  refine implOA_ok (upTo_ok (by omega) (sameInts_ok ?_ h))
  unfold ordA
  by_cases hc : crossesOk n l = true
  · rw [if_pos hc]
    have := (ord_pm hc l.length (Nat.le_refl _)).len
    rw [List.take_length] at this; omega
  · rw [if_neg hc]; simp
end Go.Proofs.Ytcgkcoogaieolaa
