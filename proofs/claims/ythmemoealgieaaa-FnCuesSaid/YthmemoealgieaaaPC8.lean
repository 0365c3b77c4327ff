/- Plain laws over the models: the number of orders. No program, no statement of the claim. -/
import Derived.Test.YthmemoealgieaaaPC7
namespace Go.Proofs.Ythmemoealgieaaa

def Closed (l : List CueC) (s : Int) : Prop := ∀ a, bt s a = true → ∀ b, wt0 l a b = true → bt s b = true
theorem next_same {l : List CueC} {d : Int} (h : Closed l d) (hok : cuesOk l = true) {k : Nat} (hk : k < l.length) : nxB l[k]! k d = true ↔ bt d k = false ∧ ∀ j, W l k j = true → bt d j = true := by
  rw [nxB_iff]
  constructor
  · rintro ⟨h1, h2⟩
    refine ⟨h2, fun j hj => wt_cl (D := fun a => bt d a = true) h l.length k (fun b hb => ?_) j hj⟩
    obtain ⟨i, hi, hb⟩ := (wt0_iff hok hk).1 hb
    rw [← hb]; exact h1 i hi
  · rintro ⟨h1, h2⟩
    exact ⟨fun j hj => h2 _ (wt_ge ((wt0_iff hok hk).2 ⟨j, hj, rfl⟩) _), h1⟩
/-- cue k may come behind the set s -/
def cs (l : List CueC) (s k : Nat) : Bool := !bt (s : Int) k && decide (∀ j, j < l.length → W l k j = true → bt (s : Int) j = true)
theorem cs_iff {l : List CueC} {s k : Nat} : cs l s k = true ↔ bt (s : Int) k = false ∧ ∀ j, W l k j = true → bt (s : Int) j = true := by
  unfold cs
  rw [Bool.and_eq_true, Bool.not_eq_true', decide_eq_true_eq]
  exact and_congr Iff.rfl ⟨fun h j hj => h j (W_lt hj) hj, fun h j _ hj => h j hj⟩
def tg (s k : Nat) : Nat := s ||| 2 ^ k
theorem tg_bor {s k : Int} (h0 : 0 ≤ s) (h1 : 0 ≤ k) : bor s (sal 1 k) = ((tg s.toNat k.toNat : Nat) : Int) := by
  unfold bor tg; rw [sal_nat, Int.toNat_natCast]
def coI (l : List CueC) (s : Nat) (x : List Int) : Nat → List Int
  | 0 => x
  | k + 1 => if cs l s k = true then (coI l s x k).set (tg s k) ((coI l s x k)[tg s k]! + (coI l s x k)[s]!) else coI l s x k
def coS (l : List CueC) : Nat → List Int
  | 0 => (List.replicate (2 ^ l.length) 0).set 0 1
  | s + 1 => coI l s (coS l s) l.length
/-- how many ways into t have been counted -/
def cc (n s k t : Nat) : Nat := cnt (fun j => bt (t : Int) j && decide (t ^^^ 2 ^ j < s ∨ (t ^^^ 2 ^ j = s ∧ j < k))) n
structure Co (l : List CueC) (s k : Nat) (x : List Int) : Prop where
  len : x.length = 2 ^ l.length
  nn : ∀ t : Nat, t < 2 ^ l.length → 0 ≤ x[t]!
  cl : ∀ t : Nat, t < 2 ^ l.length → 0 < x[t]! → Closed l (t : Int)
  one : x[0]! = 1
  bd : ∀ t : Nat, t < 2 ^ l.length → t ≠ 0 → x[t]! ≤ ((cc l.length s k t * 10 ^ (cnt (bt (t : Int)) l.length - 1) : Nat) : Int)
theorem cc_le {n s k t : Nat} : cc n s k t ≤ n := cnt_le _ _
theorem cc_mono {n s k t s' k' : Nat} (h : ∀ j, j < n → (t ^^^ 2 ^ j < s ∨ (t ^^^ 2 ^ j = s ∧ j < k)) → (t ^^^ 2 ^ j < s' ∨ (t ^^^ 2 ^ j = s' ∧ j < k'))) : cc n s k t ≤ cc n s' k' t := by
  unfold cc
  refine cnt_mono fun j hj hx => ?_
  rw [Bool.and_eq_true, decide_eq_true_eq] at hx ⊢
  exact ⟨hx.1, h j hj hx.2⟩
theorem cnt_zero {f : Nat → Bool} : ∀ {m : Nat}, cnt f m = 0 → ∀ k, k < m → f k = false
  | 0, _, k, h => absurd h (by omega)
  | m + 1, h, k, hk => by
    rw [cnt] at h
    by_cases hm : f m = true
    · rw [if_pos hm] at h; omega
    · by_cases hkm : k = m
      · subst hkm; exact Bool.eq_false_iff.2 hm
      · exact cnt_zero (m := m) (by omega) k (by omega)
theorem cast_lt {t n : Nat} (h : t < 2 ^ n) : ((t : Nat) : Int) < ((2 ^ n : Nat) : Int) := by omega
theorem cnt_pos {t n : Nat} (h : t < 2 ^ n) (h0 : t ≠ 0) : 1 ≤ cnt (bt (t : Int)) n := by
  by_cases hc : cnt (bt (t : Int)) n = 0
  · exfalso
    have : ((t : Nat) : Int) = 0 := bt_ext (by omega) (by omega) fun k => by
      rw [bt_zero]
      by_cases hk : k < n
      · exact cnt_zero hc k hk
      · exact bt_hi (cast_lt h) (by omega)
    omega
  · omega
theorem Co.up {l : List CueC} {s k : Nat} {x : List Int} (h : Co l s k x) (h10 : l.length ≤ 10) {t : Nat} (ht : t < 2 ^ l.length) : x[t]! ≤ ((10 ^ cnt (bt (t : Int)) l.length : Nat) : Int) := by
  by_cases h0 : t = 0
  · subst h0
    rw [h.one]
    have := Nat.pow_pos (n := cnt (bt ((0 : Nat) : Int)) l.length) (show 0 < 10 by omega)
    omega
  · have h1 := h.bd t ht h0
    have h2 := Nat.mul_le_mul_right (10 ^ (cnt (bt (t : Int)) l.length - 1)) (Nat.le_trans (cc_le (n := l.length) (s := s) (k := k) (t := t)) h10)
    have h3 := cnt_pos ht h0
    have h4 : 10 * 10 ^ (cnt (bt (t : Int)) l.length - 1) = 10 ^ cnt (bt (t : Int)) l.length := by
      rw [Nat.mul_comm, ← Nat.pow_succ]; congr 1; omega
    omega
theorem pow10 {l : List CueC} (h10 : l.length ≤ 10) (t : Nat) : 10 ^ cnt (bt (t : Int)) l.length ≤ 10000000000 := by
  have h1 := cnt_le (bt (t : Int)) l.length
  have := Nat.pow_le_pow_right (show 10 > 0 by omega) (Nat.le_trans h1 h10)
  exact this
theorem tg_facts {l : List CueC} {s k : Nat} (hs : s < 2 ^ l.length) (hk : k < l.length) (hb : bt (s : Int) k = false) :
    tg s k < 2 ^ l.length ∧ tg s k ≠ 0 ∧ tg s k ≠ s ∧ tg s k ^^^ 2 ^ k = s ∧ (∀ j, bt ((tg s k : Nat) : Int) j = (bt (s : Int) j || decide (k = j))) := by
  have hbit : ∀ j, bt ((tg s k : Nat) : Int) j = (bt (s : Int) j || decide (k = j)) := fun j => by
    unfold bt tg; rw [Int.toNat_natCast, Int.toNat_natCast, Nat.testBit_or, Nat.testBit_two_pow]
  have hkk : bt ((tg s k : Nat) : Int) k = true := by rw [hbit]; simp
  refine ⟨Nat.or_lt_two_pow hs (Nat.pow_lt_pow_right (by omega) hk), fun h => ?_, fun h => ?_, ?_, hbit⟩
  · rw [h] at hkk; rw [show ((0 : Nat) : Int) = 0 from rfl, bt_zero] at hkk; cases hkk
  · rw [h, hb] at hkk; cases hkk
  · apply Nat.eq_of_testBit_eq
    intro j
    have hbj : s.testBit k = false := hb
    unfold tg
    rw [Nat.testBit_xor, Nat.testBit_or, Nat.testBit_two_pow]
    by_cases hj : k = j
    · subst hj; rw [hbj]; simp
    · simp [hj]
theorem Co.step {l : List CueC} {s k : Nat} {x : List Int} (hok : cuesOk l = true) (h10 : l.length ≤ 10) (h : Co l s k x) (hs : s < 2 ^ l.length) (hk : k < l.length) :
    Co l s (k + 1) (if cs l s k = true then x.set (tg s k) (x[tg s k]! + x[s]!) else x) := by
  have hmono : ∀ t, cc l.length s k t ≤ cc l.length s (k + 1) t := fun t => cc_mono fun j _ hj => hj.imp id fun ⟨h1, h2⟩ => ⟨h1, by omega⟩
  by_cases hc : cs l s k = true
  · rw [if_pos hc]
    obtain ⟨hb, hw⟩ := cs_iff.1 hc
    obtain ⟨t1, t2, t3, t4, t5⟩ := tg_facts hs hk hb
    have hg : ∀ t, (x.set (tg s k) (x[tg s k]! + x[s]!))[t]! = if tg s k = t then x[tg s k]! + x[s]! else x[t]! := fun t => gset _ _ _ (by rw [h.len]; exact t1) t
    refine ⟨by rw [List.length_set]; exact h.len, fun t ht => ?_, fun t ht hp => ?_, ?_, fun t ht h0 => ?_⟩
    · rw [hg]
      split
      · have := h.nn _ t1; have := h.nn s hs; omega
      · exact h.nn t ht
    · rw [hg] at hp
      split at hp
      · rename_i e
        subst e
        by_cases hx : 0 < x[s]!
        · have hcl := h.cl s hs hx
          intro a ha b hab
          rw [t5, Bool.or_eq_true, decide_eq_true_eq] at ha
          rw [t5, Bool.or_eq_true]
          left
          rcases ha with ha | ha
          · exact hcl a ha b hab
          · subst ha; exact hw b (wt_ge hab _)
        · exact h.cl _ t1 (by have := h.nn s hs; omega)
      · exact h.cl t ht hp
    · rw [hg, if_neg t2]; exact h.one
    · rw [hg]
      split
      · rename_i e
        subst e
        have b1 := h.bd _ t1 t2
        have b2 := h.up h10 hs
        have e1 : cnt (bt ((tg s k : Nat) : Int)) l.length = cnt (bt (s : Int)) l.length + 1 := cnt_add (j := k) hb (by rw [t5]; simp) (fun j hj => by rw [t5, decide_eq_false (fun e => hj e.symm), Bool.or_false]) hk
        have e2 : cc l.length s k (tg s k) + 1 ≤ cc l.length s (k + 1) (tg s k) := by
          unfold cc
          refine cnt_lt (j := k) ?_ ?_ (fun j _ hj => ?_) hk
          · rw [t4, decide_eq_false (by omega), Bool.and_false]
          · rw [t4, decide_eq_true (by omega), t5]; simp
          · rw [Bool.and_eq_true, decide_eq_true_eq] at hj ⊢
            exact ⟨hj.1, hj.2.imp id fun ⟨h1, h2⟩ => ⟨h1, by omega⟩⟩
        have e3 := Nat.mul_le_mul_right (10 ^ cnt (bt (s : Int)) l.length) e2
        rw [Nat.succ_mul] at e3
        rw [e1, Nat.add_sub_cancel] at b1 ⊢
        omega
      · have b1 := h.bd t ht h0
        have := Nat.mul_le_mul_right (10 ^ (cnt (bt (t : Int)) l.length - 1)) (hmono t)
        omega
  · rw [if_neg hc]
    refine ⟨h.len, h.nn, h.cl, h.one, fun t ht h0 => ?_⟩
    have b1 := h.bd t ht h0
    have := Nat.mul_le_mul_right (10 ^ (cnt (bt (t : Int)) l.length - 1)) (hmono t)
    omega
theorem coI_co {l : List CueC} {s : Nat} {x : List Int} (hok : cuesOk l = true) (h10 : l.length ≤ 10) (h : Co l s 0 x) (hs : s < 2 ^ l.length) : ∀ k, k ≤ l.length → Co l s k (coI l s x k)
  | 0, _ => h
  | k + 1, hk => by
    have := (coI_co hok h10 h hs k (by omega)).step hok h10 hs (by omega)
    exact this
theorem coS_co {l : List CueC} (hok : cuesOk l = true) (h10 : l.length ≤ 10) : ∀ s, s ≤ 2 ^ l.length → Co l s 0 (coS l s)
  | 0, _ => by
    have hp := Nat.two_pow_pos l.length
    have hg : ∀ t, t < 2 ^ l.length → (coS l 0)[t]! = if 0 = t then 1 else 0 := fun t ht => by
      rw [coS, gset _ _ _ (by simpa using hp)]
      congr 1
      simp [ht]
    refine ⟨by simp [coS], fun t ht => ?_, fun t ht hx => ?_, ?_, fun t ht h0 => ?_⟩
    · rw [hg t ht]; split <;> omega
    · rw [hg t ht] at hx
      split at hx
      · rename_i e; subst e
        intro a ha
        rw [show ((0 : Nat) : Int) = 0 from rfl, bt_zero] at ha; cases ha
      · omega
    · rw [hg 0 hp, if_pos rfl]
    · rw [hg t ht, if_neg (fun e => h0 e.symm)]; omega
  | s + 1, h => by
    have h1 := coI_co hok h10 (coS_co hok h10 s (by omega)) (by omega) l.length (Nat.le_refl _)
    rw [coS]
    refine ⟨h1.len, h1.nn, h1.cl, h1.one, fun t ht h0 => ?_⟩
    have b1 := h1.bd t ht h0
    have hm : cc l.length s l.length t ≤ cc l.length (s + 1) 0 t := cc_mono fun j _ hj => .inl (by rcases hj with hj | ⟨hj, _⟩ <;> omega)
    have := Nat.mul_le_mul_right (10 ^ (cnt (bt (t : Int)) l.length - 1)) hm
    omega
def countO (l : List CueC) : Int := if cuesOk l = true ∧ l.length ≤ 10 then (coS l (2 ^ l.length))[2 ^ l.length - 1]! else -1
theorem pow1024 {n : Nat} (h : n ≤ 10) : 2 ^ n ≤ 1024 := Nat.pow_le_pow_right (by omega) h
theorem set_self {x : List Int} {i : Nat} (v : Int) (hv : v = 0) : x.set i (x[i]! + v) = x := by
  subst hv
  by_cases hi : i < x.length
  · apply List.ext_getElem (by simp)
    intro j h1 h2
    by_cases hj : i = j
    · subst hj; simp [hi]
    · simp [List.getElem_set, hj]
  · rw [List.set_eq_of_length_le (by omega)]
theorem implOr_ok {l : List CueC} {Q : Int → Prop} (hl : l.length ≤ 1048576) (hs : szCu l ≤ 1048576) (h : Q (countO l)) : m_impl_CountOrders l Q := by
  unfold countO at h
  refine implCuesOk_ok hl hs ⟨fun hc => by rw [if_neg (fun hx => by rcases hc with hc | hc; exact hc hx.1; omega)] at h; exact h, fun hc => ?_⟩
  have hok : cuesOk l = true := Classical.byContradiction fun hn => hc (.inl hn)
  have h10 : l.length ≤ 10 := Classical.byContradiction fun hn => hc (.inr (by omega))
  rw [if_pos ⟨hok, h10⟩] at h
  have hz := co_size hok
  have hp := Nat.two_pow_pos l.length
  have hp2 := pow1024 h10
  have hsl : sal 1 (l.length : Int) = ((2 ^ l.length : Nat) : Int) := by rw [sal_nat, Int.toNat_natCast]
  have hl0 : (((List.replicate (Int.toNat (sal 1 (l.length : Int))) (0 : Int)).set 0 1).length : Int) = ((2 ^ l.length : Nat) : Int) := by rw [hsl, List.length_set, List.length_replicate]; omega
  refine ⟨by omega, by omega, by omega, ⟨by omega, by rw [hsl, List.length_replicate]; omega⟩, fun x v => 0 ≤ v ∧ v ≤ ((2 ^ l.length : Nat) : Int) ∧ x = coS l v.toNat, fun x v => (((2 ^ l.length : Nat) : Int) - v).toNat, ⟨by omega, by omega, by rw [hsl]; rfl⟩, ?_⟩
  rintro x v ⟨v0, v1, rfl⟩
  rw [hl0]
  refine ⟨fun hd => ?_, fun hd => ?_⟩
  · have hvl : v.toNat < 2 ^ l.length := by omega
    have hco := coS_co hok h10 v.toNat (by omega)
    refine ⟨fun y k => 0 ≤ k ∧ k ≤ l.length ∧ y = coI l v.toNat (coS l v.toNat) k.toNat, fun y k => (l.length - k).toNat, ⟨by omega, by omega, rfl⟩, ?_⟩
    rintro y k ⟨k0, k1, rfl⟩
    have hci := coI_co hok h10 hco hvl k.toNat (by omega)
    refine ⟨fun he => ?_, fun he => ⟨by omega, ⟨by omega, by omega, ?_⟩, (by dsimp only; omega)⟩⟩
    · have hk : k.toNat < l.length := by omega
      have hvv : ((v.toNat : Nat) : Int) = v := by omega
      have hsk : 1 ≤ sal 1 k ∧ sal 1 k ≤ 1024 := by
        have := sal_rng (k := k) (n := l.length) (by omega)
        omega
      have htb := tg_bor v0 k0
      have hlen := hci.len
      have n2 := hci.nn _ hvl
      have hvx : ix v (coI l v.toNat (coS l v.toNat) k.toNat).length := ⟨v0, by rw [hlen]; omega⟩
      have key : 0 < (coI l v.toNat (coS l v.toNat) k.toNat)[v.toNat]! → (nxB l[k.toNat]! k.toNat v = true ↔ cs l v.toNat k.toNat = true) := fun hx => by
        have hcl := hci.cl _ hvl hx
        rw [hvv] at hcl
        rw [cs_iff, hvv]; exact next_same hcl hok hk
      refine ⟨⟨k0, he⟩, hvx, nxB l[k.toNat]! k.toNat v, fun _ => isNext_ok (cuN_le hs _ hk).1 (fun j hj => by have := after_rng hok hk j hj; dsimp only; omega) (by omega) (by omega) rfl, fun hx => ?_, fun hx => ?_⟩
      · have hx3 := (key (by omega)).1 hx.2
        have hx2 := cs_iff.1 hx3
        obtain ⟨t1, t2, t3, t4, t5⟩ := tg_facts hvl hk (by exact hx2.1)
        have u1 := hci.up h10 t1
        have u2 := hci.up h10 hvl
        have u3 := pow10 h10 (tg v.toNat k.toNat)
        have u4 := pow10 h10 v.toNat
        have n1 := hci.nn _ t1
        rw [htb, Int.toNat_natCast]
        have hti : ix ((tg v.toNat k.toNat : Nat) : Int) (coI l v.toNat (coS l v.toNat) k.toNat).length := ⟨by omega, by rw [hlen]; omega⟩
        refine ⟨by omega, by omega, ⟨by omega, by omega, by omega, by omega⟩, hti, hvx, by omega, hti, by omega, ⟨by omega, by omega, ?_⟩, (by dsimp only; omega)⟩
        rw [tn1 k0, coI, if_pos hx3]
      · refine ⟨by omega, ⟨by omega, by omega, ?_⟩, (by dsimp only; omega)⟩
        rw [tn1 k0, coI]
        by_cases hq : cs l v.toNat k.toNat = true
        · rw [if_pos hq]
          by_cases hz0 : 0 < (coI l v.toNat (coS l v.toNat) k.toNat)[v.toNat]!
          · exact absurd ⟨hz0, (key hz0).2 hq⟩ hx
          · rw [set_self _ (by omega)]
        · rw [if_neg hq]
    · rw [tn1 v0, coS, show k.toNat = l.length by omega]
  · have hco := coS_co hok h10 v.toNat (by omega)
    have hlen := hco.len
    have e : v.toNat = 2 ^ l.length := by omega
    show ok64 _ ∧ ix _ _ ∧ Q _
    rw [hlen]
    refine ⟨by omega, ⟨by omega, by omega⟩, ?_⟩
    rw [e, show (((2 ^ l.length : Nat) : Int) - 1).toNat = 2 ^ l.length - 1 by omega]
    exact h
end Go.Proofs.Ythmemoealgieaaa
