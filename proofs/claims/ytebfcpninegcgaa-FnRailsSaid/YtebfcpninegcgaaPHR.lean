/- The plain law of rails: as many rails are enough as there are stays at once. No program. -/
import Derived.Test.YtebfcpninegcgaaPH2
namespace Go.Proofs.Ytebfcpninegcgaa

/- draws -/
theorem below_ok {k : Int} {Q : Int → Prop} (h0 : 0 < k) (h1 : k ≤ 256) (h : ∀ r, 0 ≤ r → r < k → Q r) : m_spec_l01Below k Q :=
  ⟨fun hx => absurd hx (by omega), fun _ => ⟨fun _ r h2 h3 => ⟨by omega, h _ (Int.tmod_nonneg k h2) (Int.tmod_lt_of_pos r h0)⟩, fun hx => absurd h1 hx⟩⟩
def sOk (s : Stay) : Prop := 0 ≤ s.1 ∧ s.1 ≤ 4 ∧ 0 ≤ s.2.1 ∧ s.2.1 < s.2.2 ∧ s.2.2 ≤ 40
def drawS (l : List Stay) : Prop := l.length ≤ 7 ∧ ∀ s, s ∈ l → sOk s
theorem stays_ok {Q : List Stay → Prop} (h : ∀ l, drawS l → Q l) : m_spec_l16List Q := by
  refine below_ok (by decide) (by decide) fun r r0 r1 => ⟨fun x v => 0 ≤ v ∧ v ≤ r ∧ x.length = v.toNat ∧ ∀ s, s ∈ x → sOk s, fun x v => (r - v).toNat, ⟨by omega, by omega, rfl, fun s hs => by cases hs⟩, ?_⟩
  rintro x v ⟨v0, v1, v2, v3⟩
  refine ⟨fun hd => below_ok (by decide) (by decide) fun p p0 p1 => below_ok (by decide) (by decide) fun f f0 f1 => ⟨by omega, below_ok (by decide) (by decide) fun t t0 t1 => ⟨by omega, by omega, by omega, ⟨by omega, by omega, by rw [List.length_append, List.length_singleton]; omega, fun s hs => ?_⟩, (by dsimp only; omega)⟩⟩, fun hd => h x ⟨by omega, v3⟩⟩
  rcases List.mem_append.1 hs with hs | hs
  · exact v3 s hs
  · rw [List.mem_singleton.1 hs]
    exact ⟨p0, by dsimp only; omega, f0, by dsimp only; omega, by dsimp only; omega⟩
theorem drawStays_ok {p : List Byte} {Q : List Stay → Prop} (hp : p.length ≤ 1099511627776) (h : ∀ l, drawS l → Q l) : m_spec_DrawStays p Q := ⟨hp, stays_ok h⟩
theorem draw_stays {l : List Stay} (h : drawS l) : staysOk l = true := by
  unfold staysOk
  rw [Bool.and_eq_true]
  refine ⟨List.all_eq_true.2 fun s hs => okS_iff.2 ?_, decide_eq_true (by have := h.1; omega)⟩
  have := h.2 s hs
  unfold sOk at this
  omega

/- the program's answers -/
theorem implMA_ok {l : List Stay} {Q : Int → Prop} (hl : l.length ≤ 1048576) (hok : staysOk l = true) (h : Q (maoT l l)) : m_impl_MostAtOnce l Q := by
  refine implSO_ok hl ⟨fun hc => absurd hok hc, fun _ => ⟨fun m v => 0 ≤ v ∧ v ≤ l.length ∧ m = maoT l (l.take v.toNat), fun m v => (l.length - v).toNat, ⟨by omega, by omega, rfl⟩, ?_⟩⟩
  rintro m v ⟨v0, v1, rfl⟩
  refine ⟨fun hd => ⟨⟨v0, hd⟩, fun c i => 0 ≤ i ∧ i ≤ l.length ∧ c = (atN (l.take i.toNat) l[v.toNat]!.2.1 : Int), fun c i => (l.length - i).toNat, ⟨by omega, by omega, rfl⟩, ?_⟩, fun hd => ?_⟩
  · rintro c i ⟨i0, i1, rfl⟩
    have hle := at_le (l.take i.toNat) l[v.toNat]!.2.1
    rw [List.length_take] at hle
    refine ⟨fun hi => ⟨⟨i0, hi⟩, fun hp => ⟨by omega, by omega, ⟨by omega, by omega, ?_⟩, (by dsimp only; omega)⟩, fun hp => ⟨by omega, ⟨by omega, by omega, ?_⟩, (by dsimp only; omega)⟩⟩, fun hi => ⟨by omega, ⟨by omega, by omega, ?_⟩, (by dsimp only; omega)⟩⟩
    · rw [tn1 i0]; exact at_yes (by omega) hp
    · rw [tn1 i0]; exact at_no (by omega) hp
    · rw [tn1 v0, at_all (by omega)]; exact mao_step (by omega)
  · rw [List.take_of_length_le (by omega)]; exact h
theorem implCR_ok {x : List Int} {Q : Int → Prop} (hl : x.length ≤ 1048576) (h : Q (countRails x : Int)) : m_impl_CountRails x Q := by
  refine ⟨fun m k => 0 ≤ k ∧ k ≤ x.length ∧ 0 ≤ m ∧ m ≤ k ∧ countRails x = m.toNat + crF x (x.length - k.toNat) k.toNat, fun m k => (x.length - k).toNat, ⟨by omega, by omega, by omega, by omega, by simp [countRails]⟩, ?_⟩
  rintro m k ⟨k0, k1, m0, m1, hm⟩
  refine ⟨fun hk => ⟨⟨k0, hk⟩, indexOf_ok (by omega) ⟨fun hb => ⟨by omega, by omega, ⟨by omega, by omega, by omega, by omega, ?_⟩, (by dsimp only; omega)⟩, fun hb => ⟨by omega, ⟨by omega, by omega, by omega, by omega, ?_⟩, (by dsimp only; omega)⟩⟩⟩, fun hk => ?_⟩
  · rw [tn1 k0, tn1 m0]
    exact cr_next1 hm (by omega) ((ixOf_self x k.toNat (by omega)).1 (by rw [hb]; omega))
  · rw [tn1 k0]
    exact cr_next0 hm (by omega) (fun hx => hb (by rw [(ixOf_self x k.toNat (by omega)).2 hx]; omega))
  · have := cr_done hm (by omega)
    rw [this, show ((m.toNat : Nat) : Int) = m by omega] at h
    exact h
theorem busyQ_ok {l : List Stay} {t : Int} {Q : Bool → Prop} (hl : l.length ≤ 1048576) (h : Q (l.any (busyS (fun _ => true) t))) : m_impl_isBusy_QuietTick_1 l t Q := by
  refine ⟨fun v => 0 ≤ v ∧ v ≤ l.length ∧ (l.take v.toNat).any (busyS (fun _ => true) t) = false, fun v => (l.length - v).toNat, ⟨by omega, by omega, rfl⟩, ?_⟩
  rintro v ⟨v0, v1, v2⟩
  refine ⟨fun hd => ⟨⟨v0, hd⟩, fun hb => ?_, fun hb => ⟨by omega, ⟨by omega, by omega, ?_⟩, (by dsimp only; omega)⟩⟩, fun hd => ?_⟩
  · rw [any_yes (k := v.toNat) (by omega) (busy_mk ⟨⟨rfl, hb.1.2⟩, hb.2⟩)] at h; exact h
  · rw [tn1 v0]
    refine any_next (by omega) v2 (busy_no ?_)
    by_cases h1 : l[v.toNat]!.2.1 ≤ t
    · exact .inr fun h2 => hb ⟨⟨rfl, h1⟩, h2⟩
    · exact .inl (.inr h1)
  · rw [any_end (k := v.toNat) (by omega) v2] at h; exact h
theorem implQT_ok {l : List Stay} {Q : Int → Prop} (hl : l.length ≤ 1048576) (hok : staysOk l = true) (h : ∀ q, 0 ≤ q → ¬ 0 < atN l q → Q q) : m_impl_QuietTick l Q := by
  refine implSO_ok hl ⟨fun hc => absurd hok hc, fun _ => ⟨fun t => 0 ≤ t ∧ t ≤ 1000, fun t => (1000 - t).toNat, ⟨by omega, by omega⟩, ?_⟩⟩
  rintro t ⟨t0, t1⟩
  refine busyQ_ok hl ⟨fun hb => ?_, fun hb => h t t0 fun hx => hb (busy_all.2 hx)⟩
  have := at_lt hok (busy_all.1 hb)
  exact ⟨by omega, ⟨by omega, by omega⟩, (by dsimp only; omega)⟩
theorem busyB_ok {l : List Stay} {t p : Int} {Q : Bool → Int → Prop} (hl : l.length ≤ 1048576) (h : Q (l.any (busyS (fun q => decide (q = p)) t)) p) : m_impl_isBusy_BusyTicks_1 l t p Q := by
  refine ⟨fun v x => 0 ≤ v ∧ v ≤ l.length ∧ x = p ∧ (l.take v.toNat).any (busyS (fun q => decide (q = p)) t) = false, fun v x => (l.length - v).toNat, ⟨by omega, by omega, rfl, rfl⟩, ?_⟩
  rintro v x ⟨v0, v1, rfl, v2⟩
  refine ⟨fun hd => ⟨⟨v0, hd⟩, fun hb => ?_, fun hb => ⟨by omega, ⟨by omega, by omega, rfl, ?_⟩, (by dsimp only; omega)⟩⟩, fun hd => ?_⟩
  · rw [any_yes (k := v.toNat) (by omega) (busy_mk ⟨⟨hb.1.1, hb.1.2⟩, hb.2⟩)] at h; exact h
  · rw [tn1 v0]
    refine any_next (by omega) v2 (busy_no ?_)
    by_cases h1 : l[v.toNat]!.2.1 ≤ t
    · by_cases h3 : l[v.toNat]!.1 = x
      · exact .inr fun h2 => hb ⟨⟨decide_eq_true h3, h1⟩, h2⟩
      · exact .inl (.inl (decide_eq_false h3))
    · exact .inl (.inr h1)
  · rw [any_end (k := v.toNat) (by omega) v2] at h; exact h
theorem implBT_ok {l : List Stay} {p : Int} {Q : Int → Prop} (hl : l.length ≤ 1048576) (hok : staysOk l = true) (h : Q (cntB (ownOf p l) 1000 : Int)) : m_impl_BusyTicks l p Q := by
  refine implSO_ok hl ⟨fun hc => absurd hok hc, fun _ => ⟨fun c t x => 0 ≤ t ∧ t ≤ 1000 ∧ x = p ∧ c = (cntB (ownOf p l) t.toNat : Int), fun c t x => (1000 - t).toNat, ⟨by omega, by omega, rfl, rfl⟩, ?_⟩⟩
  rintro c t x ⟨t0, t1, rfl, rfl⟩
  have hle := cntB_le (ownOf x l) t.toNat
  have ht : ((t.toNat : Nat) : Int) = t := by omega
  refine ⟨fun hd => busyB_ok hl ⟨fun hb => ⟨by omega, by omega, ⟨by omega, by omega, rfl, ?_⟩, (by dsimp only; omega)⟩, fun hb => ⟨by omega, ⟨by omega, by omega, rfl, ?_⟩, (by dsimp only; omega)⟩⟩, fun hd => ?_⟩
  · rw [tn1 t0]; exact cnt_yes (by rw [ht]; exact busy_own.1 hb)
  · rw [tn1 t0]; exact cnt_no (by rw [ht]; exact fun hx => hb (busy_own.2 hx))
  · show Q _
    rw [show t.toNat = 1000 by omega]; exact h

/- counting -/
def cntI (f : Nat → Bool) : Nat → Nat
  | 0 => 0
  | m + 1 => cntI f m + if f m = true then 1 else 0
theorem nd_filter {vs : List Int} {a : Int} : vs.Nodup → vs.length ≤ (vs.filter fun x => decide (x ≠ a)).length + 1 := by
  induction vs with
  | nil => intro _; simp
  | cons v vs ih =>
    intro h
    obtain ⟨h1, h2⟩ := List.nodup_cons.1 h
    by_cases hv : v = a
    · subst hv
      have : (vs.filter fun x => decide (x ≠ v)) = vs := List.filter_eq_self.2 fun x hx => decide_eq_true fun e => h1 (e ▸ hx)
      rw [List.filter_cons_of_neg (by simp), this]; simp
    · rw [List.filter_cons_of_pos (by simpa using hv)]
      have := ih h2
      simp only [List.length_cons]; omega
theorem surj_cnt {f : Nat → Bool} {g : Nat → Int} : ∀ (m : Nat) (vs : List Int), vs.Nodup → (∀ v, v ∈ vs → ∃ k, k < m ∧ f k = true ∧ g k = v) → vs.length ≤ cntI f m
  | 0, vs, _, h => by
    cases vs with
    | nil => exact Nat.le_refl _
    | cons v vs => obtain ⟨k, hk, _⟩ := h v (by simp); omega
  | m + 1, vs, hn, h => by
    rw [cntI]
    by_cases hf : f m = true
    · rw [if_pos hf]
      have h1 := nd_filter (a := g m) hn
      have h2 := surj_cnt m (vs.filter fun x => decide (x ≠ g m)) (hn.sublist List.filter_sublist) (fun v hv => by
        obtain ⟨hv1, hv2⟩ := List.mem_filter.1 hv
        obtain ⟨k, hk, hfk, hg⟩ := h v hv1
        have hne := of_decide_eq_true hv2
        rcases Nat.lt_or_ge k m with hk2 | hk2
        · exact ⟨k, hk2, hfk, hg⟩
        · rw [show k = m by omega] at hg; exact absurd hg.symm hne)
      omega
    · rw [if_neg hf]
      refine surj_cnt (g := g) m vs hn fun v hv => ?_
      obtain ⟨k, hk, hfk, hg⟩ := h v hv
      rcases Nat.lt_or_ge k m with hk2 | hk2
      · exact ⟨k, hk2, hfk, hg⟩
      · rw [show k = m by omega] at hfk; exact absurd hfk hf
theorem inj_cnt {f : Nat → Bool} {g : Nat → Int} : ∀ (m : Nat) (vs : List Int), (∀ k, k < m → f k = true → g k ∈ vs) → (∀ i j, i < j → j < m → f i = true → f j = true → g i ≠ g j) → cntI f m ≤ vs.length
  | 0, vs, _, _ => Nat.zero_le _
  | m + 1, vs, h, hi => by
    rw [cntI]
    by_cases hf : f m = true
    · rw [if_pos hf]
      have hm := h m (by omega) hf
      have h2 := inj_cnt m (vs.erase (g m)) (fun k hk hfk => (List.mem_erase_of_ne (hi k m hk (by omega) hfk hf)).2 (h k (by omega) hfk)) (fun i j h1 h2 h3 h4 => hi i j h1 (by omega) h3 h4)
      rw [List.length_erase_of_mem hm] at h2
      have := List.length_pos_of_mem hm
      omega
    · rw [if_neg hf]
      exact inj_cnt m vs (fun k hk hfk => h k (by omega) hfk) (fun i j h1 h2 h3 h4 => hi i j h1 (by omega) h3 h4)
def rng (n : Nat) : List Int := (List.range n).map fun k : Nat => (k : Int)
theorem rng_len (n : Nat) : (rng n).length = n := by simp [rng]
theorem rng_mem {n : Nat} {v : Int} : v ∈ rng n ↔ 0 ≤ v ∧ v < (n : Int) := by
  unfold rng
  rw [List.mem_map]
  constructor
  · rintro ⟨k, hk, rfl⟩
    have := List.mem_range.1 hk
    omega
  · intro h
    exact ⟨v.toNat, List.mem_range.2 (by omega), by omega⟩
theorem rng_nd (n : Nat) : (rng n).Nodup := by
  unfold rng List.Nodup
  rw [List.pairwise_map]
  exact (List.nodup_range (n := n)).imp fun h e => h (by omega)
def hasT (l : List Stay) (t : Int) (k : Nat) : Bool := decide (fr l k ≤ t) && decide (t < en l k)
theorem hasT_iff {l : List Stay} {t : Int} {k : Nat} : hasT l t k = true ↔ fr l k ≤ t ∧ t < en l k := by unfold hasT; rw [Bool.and_eq_true, decide_eq_true_eq, decide_eq_true_eq]
theorem at_cnt (l : List Stay) (t : Int) : ∀ m, m ≤ l.length → atN (l.take m) t = cntI (hasT l t) m
  | 0, _ => rfl
  | m + 1, hm => by
    rw [at_step (by omega), at_cnt l t m (by omega), cntI]
    congr 1
    by_cases h : fr l m ≤ t ∧ t < en l m
    · rw [if_pos (hasT_iff.2 h)]; exact if_pos h
    · rw [if_neg (fun hx => h (hasT_iff.1 hx))]; exact if_neg h
theorem at_cntA (l : List Stay) (t : Int) : atN l t = cntI (hasT l t) l.length := by
  have := at_cnt l t l.length (Nat.le_refl _)
  rwa [List.take_length] at this
theorem exists_first {p : Nat → Prop} : ∀ {j : Nat}, p j → ∃ i, i ≤ j ∧ p i ∧ ∀ k, k < i → ¬ p k := by
  intro j
  induction j using Nat.strongRecOn with
  | ind j ih =>
    intro h
    by_cases hx : ∃ k, k < j ∧ p k
    · obtain ⟨k, hk, hp⟩ := hx
      obtain ⟨i, h1, h2, h3⟩ := ih k hk hp
      exact ⟨i, by omega, h2, h3⟩
    · exact ⟨j, Nat.le_refl _, h, fun k hk hp => hx ⟨k, hk, hp⟩⟩
theorem cr_cnt (x : List Int) : ∀ k, k ≤ x.length → cntI (fun k => decide (x[k]! ∉ x.take k)) k + crF x (x.length - k) k = countRails x
  | 0, _ => by simp [cntI, countRails]
  | k + 1, hk => by
    have h1 := cr_cnt x k (by omega)
    rw [cr_step (by omega)] at h1
    rw [cntI, ← h1]
    by_cases h : x[k]! ∈ x.take k
    · rw [if_pos h, if_neg (by simpa using h)]; omega
    · rw [if_neg h, if_pos (decide_eq_true h)]; omega
theorem cr_all (x : List Int) : countRails x = cntI (fun k => decide (x[k]! ∉ x.take k)) x.length := by
  have := cr_cnt x x.length (Nat.le_refl _)
  rw [cr_end (Nat.le_refl _)] at this
  omega

/- the greedy rails -/
theorem ord_ne {l : List Stay} {n y x : Nat} (h : y < x) (hx : x < n) : (ordN l n)[y]! ≠ (ordN l n)[x]! := fun e => by
  have := pw_get (ordN_pw l n) h (by rw [ordN_len]; exact hx)
  rw [e] at this
  exact ltS_irr this
theorem out_fix {l : List Stay} {n y x : Nat} (h : y < x) : ∀ d, x + d ≤ n → (outR l n (x + d))[(ordN l n)[y]!]! = (outR l n x)[(ordN l n)[y]!]!
  | 0, _ => rfl
  | d + 1, hd => by
    have hlen := ordN_len l n
    have hxn := (ordN_mem l n _).1 (get_mem (o := ordN l n) (j := x + d) (by omega))
    have e : x + (d + 1) = x + d + 1 := by omega
    rw [e, outR, gset' _ _ _ (by rw [outR_len]; exact hxn), if_neg (ord_ne (l := l) (n := n) (y := y) (x := x + d) (by omega) (by omega)).symm]
    exact out_fix h d (by omega)
theorem ord_at {l : List Stay} {n i : Nat} (hi : i < n) : ∃ x, x < n ∧ (ordN l n)[x]! = i := by
  obtain ⟨x, hx, e⟩ := List.mem_iff_getElem.1 ((ordN_mem l n i).2 hi)
  have hlen := ordN_len l n
  exact ⟨x, by omega, by rw [getElem!_pos _ x hx]; exact e⟩
structure Greedy (l : List Stay) (r : List Int) : Prop where
  nn : ∀ i, i < l.length → 0 ≤ r[i]!
  apart : ∀ i k, i < l.length → k < l.length → i ≠ k → ov l i k = true → r[i]! ≠ r[k]!
  below : ∀ i v, i < l.length → 0 ≤ v → v < r[i]! → ∃ k, k < l.length ∧ fr l k ≤ fr l i ∧ ov l i k = true ∧ r[k]! = v
theorem greedy {l : List Stay} (hok : staysOk l = true) : Greedy l (outR l l.length l.length) := by
  have h20 := so_len hok
  have hlen := ordN_len l l.length
  have hval : ∀ x, x < l.length → (outR l l.length l.length)[(ordN l l.length)[x]!]! = mexF (tkL l (ordN l l.length) (outR l l.length x) x (ordN l l.length)[x]!) 21 0 := fun x hx => by
    have hxn := (ordN_mem l l.length _).1 (get_mem (o := ordN l l.length) (j := x) (by omega))
    have := out_fix (l := l) (n := l.length) (y := x) (x := x + 1) (by omega) (l.length - (x + 1)) (by omega)
    rw [show x + 1 + (l.length - (x + 1)) = l.length by omega] at this
    rw [this, outR, gset' _ _ _ (by rw [outR_len]; exact hxn), if_pos rfl]
  have hsb : ∀ x, x < l.length → ∀ r, r ∈ tkL l (ordN l l.length) (outR l l.length x) x (ordN l l.length)[x]! → r < (x : Int) := fun x hx r hr => by
    obtain ⟨k, hk, _, e⟩ := tk_mem.1 hr
    rw [← e]; exact ((outR_bd (l := l) (n := l.length) x (by omega)).1 k hk).2
  have hfin : ∀ y x, y < x → x < l.length → (outR l l.length x)[(ordN l l.length)[y]!]! = (outR l l.length l.length)[(ordN l l.length)[y]!]! := fun y x h hx => by
    have := out_fix (l := l) (n := l.length) (y := y) (x := x) h (l.length - x) (by omega)
    rw [show x + (l.length - x) = l.length by omega] at this
    exact this.symm
  have hap : ∀ y x, y < x → x < l.length → ov l (ordN l l.length)[x]! (ordN l l.length)[y]! = true → (outR l l.length l.length)[(ordN l l.length)[x]!]! ≠ (outR l l.length l.length)[(ordN l l.length)[y]!]! := fun y x h hx ho e => by
    have hf := mex_fuel (hsb x hx) 21 0 (by omega)
    rw [← hval x hx, e] at hf
    exact hf (tk_mem.2 ⟨(ordN l l.length)[y]!, get_mem_take h (by omega), ho, hfin y x h hx⟩)
  refine ⟨fun i hi => ?_, fun i k hi hk hik ho => ?_, fun i v hi v0 v1 => ?_⟩
  · obtain ⟨x, hx, rfl⟩ := ord_at (l := l) hi
    rw [hval x hx]; exact mex_lo 21 0
  · obtain ⟨x, hx, rfl⟩ := ord_at (l := l) hi
    obtain ⟨y, hy, rfl⟩ := ord_at (l := l) hk
    rcases Nat.lt_trichotomy x y with h | h | h
    · exact (hap x y h hy (ov_iff.2 (by have := ov_iff.1 ho; exact ⟨this.2, this.1⟩))).symm
    · subst h; exact absurd rfl hik
    · exact hap y x h hx ho
  · obtain ⟨x, hx, rfl⟩ := ord_at (l := l) hi
    rw [hval x hx] at v1
    obtain ⟨k, hk, ho, e⟩ := tk_mem.1 (mex_below 21 0 v v0 v1)
    obtain ⟨y, h1, h2, rfl⟩ := mem_take hk
    have hlt := pw_get (ordN_pw l l.length) h1 (by omega)
    refine ⟨_, (ordN_mem l l.length _).1 (get_mem h2), ?_, ho, by rw [← hfin y x h1 hx]; exact e⟩
    unfold ltS at hlt
    omega
theorem mao_facts (l : List Stay) : ∀ m, m ≤ l.length → (∀ i, i < m → (atN l (fr l i) : Int) ≤ maoT l (l.take m)) ∧ (maoT l (l.take m) = 0 ∨ ∃ i, i < m ∧ maoT l (l.take m) = (atN l (fr l i) : Int))
  | 0, _ => ⟨fun i hi => absurd hi (Nat.not_lt_zero _), .inl rfl⟩
  | m + 1, hm => by
    obtain ⟨h1, h2⟩ := mao_facts l m (by omega)
    have hst : maoT l (l.take (m + 1)) = max (maoT l (l.take m)) (atN l (fr l m) : Int) := (mao_step (xs := l) (k := m) (by omega)).symm
    rw [hst]
    refine ⟨fun i hi => ?_, ?_⟩
    · rcases Nat.lt_or_ge i m with h | h
      · have := h1 i h; omega
      · rw [show i = m by omega]; omega
    · rcases Int.le_total (maoT l (l.take m)) (atN l (fr l m) : Int) with h | h
      · exact .inr ⟨m, by omega, by omega⟩
      · rcases h2 with h2 | ⟨i, hi, h2⟩
        · exact .inl (by omega)
        · exact .inr ⟨i, by omega, by omega⟩
theorem mao_all (l : List Stay) : (∀ i, i < l.length → (atN l (fr l i) : Int) ≤ maoT l l) ∧ (maoT l l = 0 ∨ ∃ i, i < l.length ∧ maoT l l = (atN l (fr l i) : Int)) := by
  have := mao_facts l l.length (Nat.le_refl _)
  rwa [List.take_length] at this
theorem st_ok {l : List Stay} (hd : drawS l) {i : Nat} (hi : i < l.length) : sOk l[i]! := hd.2 _ (get_mem hi)
theorem rails_below {l : List Stay} (hd : drawS l) {r : List Int} (hg : Greedy l r) {i : Nat} (hi : i < l.length) : r[i]! < maoT l l := by
  have h0 := hg.nn i hi
  have h1 := (mao_all l).1 i hi
  have hs := st_ok hd hi
  unfold sOk at hs
  have h2 := surj_cnt (f := hasT l (fr l i)) (g := fun k => r[k]!) l.length (rng (r[i]!.toNat + 1)) (rng_nd _) (fun v hv => by
    have hv := rng_mem.1 hv
    rcases Int.lt_or_le v r[i]! with h | h
    · obtain ⟨k, hk, hf, ho, e⟩ := hg.below i v hi hv.1 h
      exact ⟨k, hk, hasT_iff.2 ⟨hf, (ov_iff.1 ho).2⟩, e⟩
    · exact ⟨i, hi, hasT_iff.2 ⟨Int.le_refl _, hs.2.2.2.1⟩, by omega⟩)
  rw [rng_len, ← at_cntA] at h2
  omega
theorem rails_reach {l : List Stay} {r : List Int} (hg : Greedy l r) {v : Int} (h0 : 0 ≤ v) (hv : v < maoT l l) : ∃ i, i < l.length ∧ r[i]! = v := by
  refine Classical.byContradiction fun hn => ?_
  have hlow : ∀ k, k < l.length → r[k]! < v := fun k hk => Classical.byContradiction fun hx => by
    rcases Int.lt_or_le v r[k]! with h | h
    · obtain ⟨q, hq, _, _, e⟩ := hg.below k v hk h0 h
      exact hn ⟨q, hq, e⟩
    · exact hn ⟨k, hk, by omega⟩
  rcases (mao_all l).2 with h | ⟨i, hi, h⟩
  · omega
  have h2 := inj_cnt (f := hasT l (fr l i)) (g := fun k => r[k]!) l.length (rng v.toNat) (fun k hk _ => rng_mem.2 ⟨hg.nn k hk, by have := hlow k hk; omega⟩) (fun a b hab hb ha1 hb1 => by
    have ha1 := hasT_iff.1 ha1
    have hb1 := hasT_iff.1 hb1
    exact hg.apart a b (by omega) hb (by omega) (ov_iff.2 ⟨by omega, by omega⟩))
  rw [rng_len, ← at_cntA] at h2
  omega
theorem rails_count {l : List Stay} (hd : drawS l) {r : List Int} (hl : r.length = l.length) (hg : Greedy l r) : (countRails r : Int) = maoT l l := by
  have hm0 : 0 ≤ maoT l l := by
    rcases (mao_all l).2 with h | ⟨i, _, h⟩ <;> omega
  rw [cr_all, hl]
  have h1 := inj_cnt (f := fun k => decide (r[k]! ∉ r.take k)) (g := fun k => r[k]!) l.length (rng (maoT l l).toNat) (fun k hk _ => rng_mem.2 ⟨hg.nn k hk, by have := rails_below hd hg hk; omega⟩) (fun a b hab hb _ hb1 e => by
    refine of_decide_eq_true hb1 ?_
    have e : r[a]! = r[b]! := e
    rw [← e]
    exact get_mem_take hab (by omega))
  have h2 := surj_cnt (f := fun k => decide (r[k]! ∉ r.take k)) (g := fun k => r[k]!) l.length (rng (maoT l l).toNat) (rng_nd _) (fun v hv => by
    have hv := rng_mem.1 hv
    obtain ⟨i, hi, e⟩ := rails_reach hg (v := v) hv.1 (by omega)
    obtain ⟨j, h1, h2, h3⟩ := exists_first (p := fun k => r[k]! = v) e
    exact ⟨j, by omega, decide_eq_true (fun hm => by
      obtain ⟨q, q1, q2, q3⟩ := mem_take hm
      exact h3 q q1 (by rw [q3]; exact h2)), h2⟩)
  rw [rng_len] at h1 h2
  omega

/- busy ticks -/
def tot : List Stay → Int
  | [] => 0
  | s :: l => (s.2.2 - s.2.1) + tot l
theorem tot_step {l : List Stay} : ∀ {k : Nat}, k < l.length → tot (l.take (k + 1)) = tot (l.take k) + l[k]!.2.2 - l[k]!.2.1 := by
  induction l with
  | nil => intro k h; simp at h
  | cons s l ih =>
    intro k h
    cases k with
    | zero => simp [tot]
    | succ k =>
      have := ih (k := k) (by simpa using h)
      simp only [List.take_succ_cons, tot, List.getElem!_cons_succ]
      omega
theorem at_cons (s : Stay) (l : List Stay) (t : Int) : atN (s :: l) t = atN l t + if s.2.1 ≤ t ∧ t < s.2.2 then 1 else 0 := by
  unfold atN
  by_cases h : s.2.1 ≤ t ∧ t < s.2.2
  · rw [if_pos h, List.filter_cons_of_pos (by simp [h.1, h.2])]; rfl
  · rw [if_neg h, List.filter_cons_of_neg (by simpa using h)]; rfl
theorem cntB_cons {s : Stay} {l : List Stay} (h0 : 0 ≤ s.2.1) : ∀ T : Nat, (cntB (s :: l) T : Int) ≤ cntB l T + max 0 (min (T : Int) s.2.2 - s.2.1)
  | 0 => by simp [cntB]; omega
  | T + 1 => by
    have h := cntB_cons (l := l) h0 T
    have hc := at_cons s l (T : Int)
    rw [cntB, cntB]
    by_cases hs : s.2.1 ≤ (T : Int) ∧ (T : Int) < s.2.2
    · rw [if_pos hs] at hc
      rw [if_pos (by omega)]
      split <;> omega
    · rw [if_neg hs] at hc
      have e : atN (s :: l) (T : Int) = atN l (T : Int) := hc
      rw [e]
      split <;> omega
theorem cntB_tot : ∀ {l : List Stay} (T : Nat), (∀ s, s ∈ l → sOk s) → (cntB l T : Int) ≤ tot l
  | [], T, _ => by
    have : cntB [] T = 0 := by
      induction T with
      | zero => rfl
      | succ T ih => rw [cntB, ih, if_neg (by simp [atN])]
    rw [this]; exact Int.le_refl _
  | s :: l, T, h => by
    have hs := h s (by simp)
    unfold sOk at hs
    have h1 := cntB_cons (s := s) (l := l) hs.2.2.1 T
    have h2 := cntB_tot (l := l) T (fun x hx => h x (List.mem_cons_of_mem _ hx))
    rw [tot]; omega
def tsum (l : List Stay) : Nat → Int
  | 0 => 0
  | p + 1 => tsum l p + tot (ownOf (p : Int) l)
def bsum (l : List Stay) : Nat → Int
  | 0 => 0
  | p + 1 => bsum l p + (cntB (ownOf (p : Int) l) 1000 : Int)
theorem own_cons (p : Int) (s : Stay) (l : List Stay) : tot (ownOf p (s :: l)) = tot (ownOf p l) + if s.1 = p then s.2.2 - s.2.1 else 0 := by
  unfold ownOf
  by_cases h : s.1 = p
  · rw [if_pos h, List.filter_cons_of_pos (by simpa using h), tot]; omega
  · rw [if_neg h, List.filter_cons_of_neg (by simpa using h)]; omega
theorem tsum_all : ∀ {l : List Stay}, (∀ s, s ∈ l → sOk s) → tsum l 5 = tot l
  | [], _ => rfl
  | s :: l, h => by
    have ih := tsum_all (l := l) (fun x hx => h x (List.mem_cons_of_mem _ hx))
    have hs := h s (by simp)
    unfold sOk at hs
    simp only [tsum, own_cons] at ih ⊢
    rw [tot]
    have : s.1 = 0 ∨ s.1 = 1 ∨ s.1 = 2 ∨ s.1 = 3 ∨ s.1 = 4 := by omega
    rcases this with e | e | e | e | e <;> rw [e] <;> simp at ih ⊢ <;> omega
theorem bsum_tsum {l : List Stay} (h : ∀ s, s ∈ l → sOk s) : ∀ p, 0 ≤ bsum l p ∧ bsum l p ≤ tsum l p
  | 0 => ⟨Int.le_refl _, Int.le_refl _⟩
  | p + 1 => by
    have h1 := bsum_tsum h p
    have h2 := cntB_tot (l := ownOf (p : Int) l) 1000 (fun s hs => h s (List.mem_filter.1 hs).1)
    rw [bsum, tsum]; omega
theorem bsum_mono {l : List Stay} {p : Nat} : ∀ q, p < q → (cntB (ownOf (p : Int) l) 1000 : Int) ≤ bsum l q
  | 0, h => absurd h (Nat.not_lt_zero _)
  | q + 1, h => by
    rw [bsum]
    have hp : 0 ≤ bsum l q := by
      clear h
      induction q with
      | zero => exact Int.le_refl _
      | succ q ih => rw [bsum]; omega
    rcases Nat.lt_or_ge p q with h1 | h1
    · have := bsum_mono (l := l) q h1; omega
    · rw [show p = q by omega]; omega
theorem cntB_pos {l : List Stay} {t : Nat} (h : 0 < atN l (t : Int)) : ∀ T, t < T → 1 ≤ cntB l T
  | 0, h => absurd h (Nat.not_lt_zero _)
  | T + 1, hT => by
    rw [cntB]
    rcases Nat.lt_or_ge t T with h1 | h1
    · have := cntB_pos h T h1; omega
    · rw [show T = t by omega, if_pos h]; omega
theorem busy_pos {l : List Stay} (hd : drawS l) (hl : 0 < l.length) : 0 < bsum l 5 := by
  have hs := st_ok hd hl
  have hm : l[0]! ∈ l := get_mem hl
  unfold sOk at hs
  have h1 := cntB_pos (l := ownOf (l[0]!.1.toNat : Int) l) (t := l[0]!.2.1.toNat) (at_pos.2 ⟨l[0]!, List.mem_filter.2 ⟨hm, decide_eq_true (by omega)⟩, by omega, by omega⟩) 1000 (by omega)
  have h2 := bsum_mono (l := l) (p := l[0]!.1.toNat) 5 (by omega)
  omega
theorem bsum_le (l : List Stay) : ∀ p, bsum l p ≤ 1000 * (p : Int)
  | 0 => by simp [bsum]
  | p + 1 => by
    have := bsum_le l p
    have := cntB_le (ownOf (p : Int) l) 1000
    rw [bsum]; omega
theorem tot_bd {l : List Stay} (hd : drawS l) : ∀ k, k ≤ l.length → 0 ≤ tot (l.take k) ∧ tot (l.take k) ≤ 40 * (k : Int)
  | 0, _ => by simp [tot]
  | k + 1, hk => by
    have h1 := tot_bd hd k (by omega)
    have hs := st_ok hd (i := k) (by omega)
    unfold sOk at hs
    rw [tot_step (by omega)]; omega
theorem law_PRails {b : List Byte} (hb : b.length ≤ 9223372036854775807) : m_laws_FnRails b (fun r => r = true) := by
  refine ⟨fun _ => rfl, fun hn => drawStays_ok (by
    have : ¬ ((b.length : Int) > 1048576) := fun hx => hn (decide_eq_true hx)
    omega) fun l hd => ?_⟩
  have hok := draw_stays hd
  have hl7 := hd.1
  have hl : l.length ≤ 1048576 := by omega
  have hg := greedy hok
  have er : railsL l = outR l l.length l.length := by unfold railsL; rw [if_pos hok]
  have hrl : (railsL l).length = l.length := by rw [er, outR_len]
  rw [← er] at hg
  have hcr := rails_count hd hrl hg
  have hm1 : 0 ≤ maoT l l := by omega
  have hmb : maoT l l ≤ 7 := by
    rcases (mao_all l).2 with h | ⟨i, _, h⟩
    · omega
    · have := at_le l (fr l i); omega
  refine implMA_ok hl hok (implRF_ok hl ⟨maoT l l, fun _ => implCR_ok (by omega) hcr, fun h => ?_, fun _ => ?_⟩)
  · rcases h with h | h
    · omega
    · exact absurd rfl h
  generalize hr : railsL l = r at *
  have tail : m_laws_FnRails_K3 l (maoT l l) (fun r => r = true) := by
    refine implQT_ok hl hok fun q q0 hq => ⟨fun s p => 0 ≤ p ∧ p ≤ 5 ∧ s = bsum l p.toNat, fun s p => (5 - p).toNat, ⟨by omega, by omega, rfl⟩, ?_⟩
    rintro s p ⟨p0, p1, rfl⟩
    have hbb := bsum_le l p.toNat
    have hb0 := (bsum_tsum hd.2 p.toNat).1
    refine ⟨fun hp => implBT_ok hl hok ?_, fun hp => ?_⟩
    · have hcl := cntB_le (ownOf p l) 1000
      refine ⟨by omega, by omega, ⟨by omega, by omega, ?_⟩, (by dsimp only; omega)⟩
      rw [tn1 p0, bsum, show ((p.toNat : Nat) : Int) = p by omega]
    · rw [show p.toNat = 5 by omega]
      refine ⟨fun tk k => 0 ≤ k ∧ k ≤ l.length ∧ tk = tot (l.take k.toNat), fun tk k => (l.length - k).toNat, ⟨by omega, by omega, rfl⟩, ?_⟩
      rintro tk k ⟨k0, k1, rfl⟩
      have htb := tot_bd hd k.toNat (by omega)
      refine ⟨fun hk => ?_, fun hk => ?_⟩
      · have hs := st_ok hd (i := k.toNat) (by omega)
        unfold sOk at hs
        refine ⟨⟨k0, hk⟩, by omega, ⟨k0, hk⟩, by omega, ⟨k0, hk⟩, fun _ => ⟨k0, hk⟩, fun hx => ?_, fun _ => ⟨by omega, ⟨by omega, by omega, by rw [tn1 k0, tot_step (by omega)]⟩, (by dsimp only; omega)⟩⟩
        exact absurd (at_pos.2 ⟨l[k.toNat]!, get_mem (by omega), hx.1, hx.2⟩) hq
      · rw [List.take_of_length_le (by omega)]
        have h1 := (bsum_tsum hd.2 5).2
        rw [tsum_all hd.2] at h1
        have e1 : decide (q ≥ 0) = true := decide_eq_true q0
        have e2 : decide (bsum l 5 ≤ tot l) = true := decide_eq_true h1
        have e3 : decide (bsum l 5 > 0) = decide ((l.length : Int) > 0) := by
          rw [decide_eq_decide]
          constructor
          · intro hx
            refine Classical.byContradiction fun hz => ?_
            have : l = [] := List.eq_nil_of_length_eq_zero (by omega)
            have ht : tot l = 0 := by rw [this]; rfl
            omega
          · intro hx; exact busy_pos hd (by omega)
        have e4 : decide (maoT l l = 0) = decide ((l.length : Int) = 0) := by
          rw [decide_eq_decide]
          constructor
          · intro hx
            refine Classical.byContradiction fun hz => ?_
            have := rails_below hd hg (i := 0) (by omega)
            have := hg.nn 0 (by omega)
            omega
          · intro hx
            rcases (mao_all l).2 with h | ⟨i, hi, _⟩
            · exact h
            · omega
        show ((((decide (q ≥ 0)) && (decide (bsum l 5 ≤ tot l))) && (decide ((decide (bsum l 5 > 0)) = (decide ((l.length : Int) > 0))))) && (decide ((decide (maoT l l = 0)) = (decide ((l.length : Int) = 0))))) = true
        rw [e1, e2, e3, e4]
        simp
  refine ⟨fun i => 0 ≤ i ∧ i ≤ l.length, fun i => (l.length - i).toNat, ⟨by omega, by omega⟩, ?_⟩
  rintro i ⟨i0, i1⟩
  refine ⟨fun hi => ?_, fun hi => tail⟩
  have hin : i.toNat < l.length := by omega
  have h1 := hg.nn _ hin
  have h2 := rails_below hd hg hin
  refine ⟨⟨i0, by omega⟩, fun _ => ⟨i0, by omega⟩, fun h => ?_, fun _ => ⟨fun k => 0 ≤ k ∧ k ≤ i, fun k => (i - k).toNat, ⟨by omega, by omega⟩, ?_⟩⟩
  · rcases h with h | h <;> omega
  rintro k ⟨k0, k1⟩
  refine ⟨fun hk => ⟨⟨i0, by omega⟩, ⟨k0, by omega⟩, fun _ => ⟨i0, by omega⟩, fun _ => ⟨k0, by omega⟩, fun _ => ⟨k0, by omega⟩, fun _ => ⟨i0, by omega⟩, fun hx => ?_, fun _ => ⟨by omega, ⟨by omega, by omega⟩, (by dsimp only; omega)⟩⟩, fun hk => ⟨by omega, ⟨by omega, by omega⟩, (by dsimp only; omega)⟩⟩
  exact absurd hx.1.1 (hg.apart i.toNat k.toNat hin (by omega) (by omega) (ov_iff.2 ⟨hx.2, hx.1.2⟩))
end Go.Proofs.Ytebfcpninegcgaa
