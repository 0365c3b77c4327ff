/- The plain law of cues: an order respects all waiting, and no cue waits for itself. No program. -/
import Derived.Test.YthmemoealgieaaaPCT
import Derived.Test.YthmemoealgieaaaPC8
namespace Go.Proofs.Ythmemoealgieaaa

theorem ones_bt (k j : Nat) : bt ((2 ^ k - 1 : Nat) : Int) j = decide (j < k) := by
  unfold bt; rw [Int.toNat_natCast, Nat.testBit_two_pow_sub_one]
theorem tg_ones (k : Nat) : tg (2 ^ k - 1) k = 2 ^ (k + 1) - 1 := by
  apply Nat.eq_of_testBit_eq
  intro j
  unfold tg
  rw [Nat.testBit_or, Nat.testBit_two_pow, Nat.testBit_two_pow_sub_one, Nat.testBit_two_pow_sub_one, ← Bool.decide_or, decide_eq_decide]
  omega
theorem coI_up {l : List CueC} {s : Nat} {x : List Int} (hok : cuesOk l = true) (h10 : l.length ≤ 10) (h : Co l s 0 x) (hs : s < 2 ^ l.length) {t : Nat} (ht : t < 2 ^ l.length) {k : Nat} : ∀ d, k + d ≤ l.length → (coI l s x k)[t]! ≤ (coI l s x (k + d))[t]!
  | 0, _ => Int.le_refl _
  | d + 1, hd => by
    have ih := coI_up hok h10 h hs ht (k := k) d (by omega)
    have hc := coI_co hok h10 h hs (k + d) (by omega)
    have e : k + (d + 1) = k + d + 1 := by omega
    rw [e, coI]
    split
    · rename_i hcs
      have hn := hc.nn s hs
      have ht2 := (tg_facts hs (show k + d < l.length by omega) (cs_iff.1 hcs).1).1
      rw [gset _ _ _ (by rw [hc.len]; exact ht2)]
      split
      · rename_i e2; rw [e2]; omega
      · exact ih
    · exact ih
theorem coS_up {l : List CueC} (hok : cuesOk l = true) (h10 : l.length ≤ 10) {t : Nat} (ht : t < 2 ^ l.length) {s : Nat} : ∀ d, s + d ≤ 2 ^ l.length → (coS l s)[t]! ≤ (coS l (s + d))[t]!
  | 0, _ => Int.le_refl _
  | d + 1, hd => by
    have ih := coS_up hok h10 ht (s := s) d (by omega)
    have hc := coS_co hok h10 (s + d) (by omega)
    have := coI_up hok h10 hc (by omega) ht (k := 0) l.length (by omega)
    rw [Nat.zero_add] at this
    have e : s + (d + 1) = s + d + 1 := by omega
    rw [e, coS]
    have e0 : coI l (s + d) (coS l (s + d)) 0 = coS l (s + d) := rfl
    rw [e0] at this
    omega
theorem coS_one {l : List CueC} (hd : drawP l) : ∀ k, k ≤ l.length → ∀ s, 2 ^ k - 1 ≤ s → s ≤ 2 ^ l.length → 1 ≤ (coS l s)[2 ^ k - 1]!
  | 0, _, s, _, h2 => by
    have hok := draw_ok hd
    have := (coS_co hok (by have := hd.2.1; omega) s h2).one
    show 1 ≤ (coS l s)[0]!
    omega
  | k + 1, hk, s, h1, h2 => by
    have hok := draw_ok hd
    have h10 : l.length ≤ 10 := by have := hd.2.1; omega
    have hp1 := Nat.two_pow_pos k
    have hp2 : 2 ^ (k + 1) = 2 ^ k * 2 := Nat.pow_succ 2 k
    have hp3 : 2 ^ (k + 1) ≤ 2 ^ l.length := Nat.pow_le_pow_right (by omega) hk
    have ih := coS_one hd k (by omega) (2 ^ k - 1) (Nat.le_refl _) (by omega)
    have hc := coS_co hok h10 (2 ^ k - 1) (by omega)
    have hs0 : 2 ^ k - 1 < 2 ^ l.length := by omega
    have hcs : cs l (2 ^ k - 1) k = true := cs_iff.2 ⟨by rw [ones_bt]; simp, fun j hj => by
      have := draw_W hd hj
      rw [ones_bt]; exact decide_eq_true this⟩
    have hk1 := coI_co hok h10 hc hs0 k (by omega)
    have h3 := coI_up hok h10 hc hs0 hs0 (k := 0) k (by omega)
    rw [Nat.zero_add] at h3
    have e0 : coI l (2 ^ k - 1) (coS l (2 ^ k - 1)) 0 = coS l (2 ^ k - 1) := rfl
    rw [e0] at h3
    have ht : 2 ^ (k + 1) - 1 < 2 ^ l.length := by omega
    have h4 : 1 ≤ (coI l (2 ^ k - 1) (coS l (2 ^ k - 1)) (k + 1))[2 ^ (k + 1) - 1]! := by
      rw [coI, if_pos hcs, tg_ones, gset _ _ _ (by rw [hk1.len]; exact ht), if_pos rfl]
      have := hk1.nn _ ht
      omega
    have h5 := coI_up hok h10 hc hs0 ht (k := k + 1) (l.length - (k + 1)) (by omega)
    rw [show k + 1 + (l.length - (k + 1)) = l.length by omega] at h5
    have e1 : coS l (2 ^ k - 1 + 1) = coI l (2 ^ k - 1) (coS l (2 ^ k - 1)) l.length := rfl
    rw [← e1] at h5
    have h6 := coS_up hok h10 ht (s := 2 ^ k - 1 + 1) (s - (2 ^ k - 1 + 1)) (by omega)
    rw [show 2 ^ k - 1 + 1 + (s - (2 ^ k - 1 + 1)) = s by omega] at h6
    omega
theorem count_one {l : List CueC} (hd : drawP l) : 1 ≤ countO l := by
  have hok := draw_ok hd
  unfold countO
  rw [if_pos ⟨hok, by have := hd.2.1; omega⟩]
  exact coS_one hd l.length (Nat.le_refl _) _ (Nat.sub_le _ _) (Nat.le_refl _)
theorem sameInts_refl {x : List Int} {Q : Bool → Prop} (hl : x.length ≤ 1099511627776) (h : Q true) : m_laws_sameInts x x Q := by
  refine ⟨fun h => absurd rfl h, fun _ => ⟨fun i => 0 ≤ i ∧ i ≤ x.length, fun i => (x.length - i).toNat, ⟨by omega, by omega⟩, ?_⟩⟩
  rintro i ⟨i0, i1⟩
  exact ⟨fun hi => ⟨⟨i0, hi⟩, ⟨i0, hi⟩, fun h => absurd rfl h, fun _ => ⟨by omega, ⟨by omega, by omega⟩, (by dsimp only; omega)⟩⟩, fun _ => h⟩
theorem has_ok {x : List Int} {v : Int} {Q : Bool → Prop} (hl : x.length ≤ 1099511627776) (h : Q (decide (v ∈ x))) : m_laws_has x v Q := by
  refine ⟨fun i => 0 ≤ i ∧ i ≤ x.length ∧ ∀ j, j < i.toNat → x[j]! ≠ v, fun i => (x.length - i).toNat, ⟨by omega, by omega, fun j hj => absurd hj (by omega)⟩, ?_⟩
  rintro i ⟨i0, i1, i2⟩
  refine ⟨fun hi => ⟨⟨i0, hi⟩, fun he => ?_, fun he => ⟨by omega, ⟨by omega, by omega, lt_succ' i0 i2 he⟩, (by dsimp only; omega)⟩⟩, fun hi => ?_⟩
  · rw [decide_eq_true (mem_get.2 ⟨i.toNat, by omega, he⟩)] at h; exact h
  · rw [decide_eq_false (fun hm => by obtain ⟨j, hj, e⟩ := mem_get.1 hm; exact i2 j (by omega) e)] at h; exact h
theorem waits_in {l : List CueC} (hok : cuesOk l = true) {i k : Int} (h0 : 0 ≤ i) (h1 : i < (l.length : Int)) (h2 : 0 ≤ k) (h3 : k < (l.length : Int)) : waitsB l i k = W l i.toNat k.toNat := by
  unfold waitsB
  rw [hok, decide_eq_true (by omega), decide_eq_true (by omega)]
  simp
theorem circ_nil {l : List CueC} (hok : cuesOk l = true) : circ l = [] := List.eq_nil_of_length_eq_zero (cuesOk_iff.1 hok).2.2.2
theorem law_PCues {p : List Byte} (hp : p.length ≤ 9223372036854775807) : m_laws_FnCues p (fun r => r = true) := by
  refine ⟨fun _ => rfl, fun hb => drawCues_ok (by
    have : ¬ ((p.length : Int) > 1048576) := fun hx => hb (decide_eq_true hx)
    omega) fun l hd => ?_⟩
  have hok := draw_ok hd
  have hs := draw_sz hd
  have hl7 := hd.2.1
  have hl : l.length ≤ 1048576 := by omega
  have hz := co_size hok
  have hol := ordL_len hok
  refine implOL_ok hl hs (implCuesOk_ok hl hs ?_)
  rw [hok]
  refine ⟨fun _ => implCI_ok hs ?_, fun hn => absurd (fun hx => ?_) hn⟩
  rw [circ_nil hok]
  · have hpw : ((2 ^ l.length : Nat) : Int) ≤ 4096 := pow_le (by omega)
    refine ⟨fun h => absurd rfl h, fun _ => ⟨⟨by omega, by omega⟩, fun x s k => 0 ≤ k ∧ k ≤ l.length ∧ x.length = l.length ∧ (∀ j, j < k.toNat → x[od l j]! = (j : Int)) ∧ (0 ≤ s ∧ s < ((2 ^ l.length : Nat) : Int)) ∧ ∀ r, bt s r = true ↔ ∃ j, j < k.toNat ∧ od l j = r, fun x s k => (l.length - k).toNat, ⟨by omega, by omega, by simp, fun j hj => absurd hj (by omega), ⟨by omega, by have := Nat.two_pow_pos l.length; omega⟩, fun r => ⟨fun h => (by rw [bt_zero] at h; cases h), fun ⟨j, hj, _⟩ => absurd hj (by omega)⟩⟩, ?_⟩⟩
    rintro x s k ⟨k0, k1, hx, hpl, ⟨s0, s1⟩, hbt⟩
    refine ⟨fun hk => ?_, fun hk => ?_⟩
    · have ho := od_lt hok (m := k.toNat) (by omega)
      have hsr := sal_rng (k := (ordL l)[k.toNat]!) (n := l.length) (by omega)
      have hbr := bor_rng (x := s) (y := sal 1 (ordL l)[k.toNat]!) (n := l.length) s1 hsr.2
      refine ⟨⟨k0, by omega⟩, fun _ => ⟨k0, by omega⟩, fun h => ?_, fun _ => ⟨⟨k0, by omega⟩, ⟨by omega, by omega⟩, ⟨k0, by omega⟩, ⟨by omega, by omega⟩, by omega, by omega, by omega, ⟨by omega, by omega, by rw [List.length_set]; exact hx, fun j hj => ?_, hbr, fun r => ?_⟩, (by dsimp only; omega)⟩⟩
      · rcases h with h | h <;> omega
      · rw [tn1 k0] at hj
        rw [gset _ _ _ (by omega)]
        rcases Nat.lt_or_ge j k.toNat with h | h
        · have hne := od_inj hok h (by omega)
          rw [if_neg (by omega)]; exact hpl j h
        · rw [show j = k.toNat by omega, if_pos (by omega)]; omega
      · rw [bt_bor, Bool.or_eq_true, hbt, bt_sal, decide_eq_true_eq, tn1 k0]
        constructor
        · rintro (⟨j, h1, h2⟩ | h)
          · exact ⟨j, by omega, h2⟩
          · exact ⟨k.toNat, by omega, by omega⟩
        · rintro ⟨j, h1, h2⟩
          rcases Nat.lt_or_ge j k.toNat with h | h
          · exact .inl ⟨j, h, h2⟩
          · rw [show j = k.toNat by omega] at h2; exact .inr (by omega)
    · have hkn : k.toNat = l.length := by omega
      rw [hkn] at hpl hbt
      have hseen : s = ((2 ^ l.length - 1 : Nat) : Int) := bt_ext s0 (by omega) fun r => by
        rw [ones_bt]
        rcases Nat.lt_or_ge r l.length with h | h
        · rw [decide_eq_true h]; exact (hbt r).2 (od_sur hok h)
        · rw [decide_eq_false (by omega)]; exact bt_hi s1 h
      have hplace : ∀ i b, i < l.length → W l i b = true → x[b]! < x[i]! := fun i b hi hw => by
        obtain ⟨m, hm, rfl⟩ := od_sur hok hi
        have hmm := hpl m hm
        have hstep : ∀ j, j ≤ m → ∀ b, wt0 l (od l j) b = true → ∃ q, q < m ∧ b = od l q := fun j hj b hb => by
          have hb := (of_decide_eq_true hb).2
          obtain ⟨q, hq, e⟩ := od_pre hok (m := j) (by omega) hb
          exact ⟨q, by omega, by omega⟩
        obtain ⟨q, hq, e⟩ := wt_cl (D := fun b => ∃ q, q < m ∧ b = od l q) (fun a ⟨q, hq, e⟩ b hb => by
          subst e
          exact hstep q (by omega) b hb) l.length (od l m) (fun b hb => hstep m (Nat.le_refl _) b hb) b hw
        rw [e, hpl q (by omega), hmm]; omega
      have hfree : ∀ i, i < l.length → ((i : Int) ∈ freeL l ↔ (l[i]!).2.1.length = 0) := fun i hi => by
        unfold freeL
        rw [if_pos hok, sel_mem]
        simp only [Int.toNat_natCast, decide_eq_true_eq]
        exact ⟨fun h => h.2.2, fun h => ⟨by omega, hi, h⟩⟩
      have hfl := freeL_len l
      refine implFC_ok hl hs ⟨fun i => 0 ≤ i ∧ i ≤ l.length, fun i => (l.length - i).toNat, ⟨by omega, by omega⟩, ?_⟩
      rintro i ⟨i0, i1⟩
      refine ⟨fun hi => ⟨fun q => 0 ≤ q ∧ q ≤ l.length, fun q => (l.length - q).toNat, ⟨by omega, by omega⟩, ?_⟩, fun hi => ?_⟩
      · have hin : i.toNat < l.length := by omega
        rintro q ⟨q0, q1⟩
        refine ⟨fun hq => implWF_ok hl hs ?_, fun hq => ⟨fun j => 0 ≤ j ∧ j ≤ (l[i.toNat]!).2.1.length, fun j => ((l[i.toNat]!).2.1.length - j).toNat, ⟨by omega, by omega⟩, ?_⟩⟩
        · rw [waits_in hok i0 (by omega) q0 (by omega)]
          refine ⟨fun _ => ⟨q0, by omega⟩, fun _ => ⟨i0, by omega⟩, false, fun h => implWF_ok hl hs ?_, fun h => ?_, fun _ => ⟨by omega, ⟨by omega, by omega⟩, (by dsimp only; omega)⟩⟩
          · rw [waits_in hok q0 (by omega) i0 (by omega)]
            cases hw : W l q.toNat i.toNat
            · rfl
            · have h1 := draw_W hd hw
              have h2 := draw_W hd h.1
              omega
          · have := hplace i.toNat q.toNat hin h.1
            rcases h.2 with h2 | h2
            · omega
            · exact absurd h2 (by simp)
        · rintro j ⟨j0, j1⟩
          have hal := after_len hok hin
          refine ⟨⟨i0, by omega⟩, fun hj => ?_, fun hj => ?_⟩
          · have hr := after_rng hok hin j.toNat (by omega)
            refine ⟨⟨i0, by omega⟩, ⟨j0, hj⟩, implWF_ok hl hs ?_⟩
            rw [waits_in hok i0 (by omega) hr.1 hr.2]
            have hw : W l i.toNat ((l[i.toNat]!).2.1[j.toNat]!).toNat = true := wt_ge ((wt0_iff hok hin).2 ⟨j.toNat, by omega, rfl⟩) _
            exact ⟨fun h => absurd hw h, fun _ => ⟨by omega, ⟨by omega, by omega⟩, (by dsimp only; omega)⟩⟩
          · refine ⟨_, has_ok (by omega) rfl, ⟨i0, by omega⟩, fun h => ?_, fun _ => ⟨by omega, ⟨by omega, by omega⟩, (by dsimp only; omega)⟩⟩
            refine absurd ?_ h
            rw [decide_eq_decide]
            have := hfree i.toNat hin
            rw [show ((i.toNat : Nat) : Int) = i by omega] at this
            rw [this]; omega
      · have h0 : (l[0]!).2.1.length = 0 := by
          have := ri_len (hd.2.2 0 (by omega)).2.1
          omega
        have hm := (hfree 0 (by omega)).2 h0
        have hpos := List.length_pos_of_mem hm
        have hco := count_one hd
        have esal : sal 1 (l.length : Int) = ((2 ^ l.length : Nat) : Int) := by rw [sal_nat, Int.toNat_natCast]
        refine implOr_ok hl hs ?_
        rw [esal]
        have hp2 := Nat.two_pow_pos l.length
        refine ⟨⟨by omega, by omega⟩, by omega, by omega, fun _ => ?_, fun hn => absurd ⟨⟨by omega, by omega⟩, by omega⟩ hn⟩
        refine implCI_ok (by decide) ?_
        rw [show circ [(1, [1], []), (1, [0], [])] = [0, 1] by decide]
        refine sameInts_refl (by simp) ⟨false, fun _ => implCuesOk_ok (by simp) (by decide) (by decide), rfl⟩
  · rcases hx with hx | hx
    · exact hx rfl
    · omega
end Go.Proofs.Ythmemoealgieaaa
