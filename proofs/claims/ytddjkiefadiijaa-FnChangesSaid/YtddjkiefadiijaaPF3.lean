/- Plain laws over the models: the best night and the fewest changes. No program, no statement of the claim. -/
import Derived.Test.YtddjkiefadiijaaPF2
namespace Go.Proofs.Ytddjkiefadiijaa

theorem lfN_zero (l : List PlayerC) (t : List (List Int)) : lfN l t 0 = minS (cst l (t.drop 0)) (castL l t[0]!).length := minS_congr fun k _ => by unfold fvS; rw [if_pos rfl]; omega
theorem lfN_none {l : List PlayerC} {t : List (List Int)} (h1 : 1 ≤ t.length) (hne : ¬ allNe l t) : lfN l t 0 = -1 := by
  obtain ⟨p, hp, he⟩ : ∃ p, p ∈ t ∧ castL l p = [] := Classical.byContradiction fun hx => hne fun p hp he => hx ⟨p, hp, he⟩
  have e := drop_at (t := t) (m := 0) (by omega)
  rw [lfN_zero]
  by_cases h0 : p = t[0]!
  · rw [← h0, he]; rfl
  · refine minS_none fun k _ => ?_
    have hm : p ∈ (t.drop 0).tail := by
      rw [e]
      have hp' : p ∈ t.drop 0 := hp
      rw [e] at hp'
      rcases List.mem_cons.1 hp' with h | h
      · exact absurd h h0
      · exact h
    rw [cst_neg k ⟨p, hm, he⟩]; omega
def fewV (l : List PlayerC) (t : List (List Int)) : Int := if nightB l t = true then lfN l t 0 else -1
def bestB (l : List PlayerC) (t : List (List Int)) : Bool := nightB l t && decide (allNe l t)
def bestL (l : List PlayerC) (t : List (List Int)) : List (List Int) := if bestB l t = true then bsN l t t.length else []
theorem bestB_iff {l : List PlayerC} {t : List (List Int)} : bestB l t = true ↔ nightB l t = true ∧ allNe l t := by unfold bestB; rw [Bool.and_eq_true, decide_eq_true_eq]
theorem best_no {l : List PlayerC} {t : List (List Int)} {Q : List (List Int) → Bool → Prop} (hc : ¬ (nightB l t = true ∧ allNe l t)) (h : Q (bestL l t) (bestB l t)) : Q [] false := by
  have e : bestB l t = false := Bool.eq_false_iff.2 fun hx => hc (bestB_iff.1 hx)
  unfold bestL at h
  rw [e] at h
  exact h
theorem best_yes {l : List PlayerC} {t : List (List Int)} {Q : List (List Int) → Bool → Prop} (hn : nightB l t = true) (ha : allNe l t) (h : Q (bestL l t) (bestB l t)) : Q (bsN l t t.length) true := by
  have e : bestB l t = true := bestB_iff.2 ⟨hn, ha⟩
  unfold bestL at h
  rw [e, if_pos rfl] at h
  exact h
theorem few_iff {l : List PlayerC} {t : List (List Int)} : 0 ≤ fewV l t ↔ nightB l t = true ∧ allNe l t := by
  unfold fewV
  constructor
  · intro h
    by_cases hn : nightB l t = true
    · rw [if_pos hn] at h
      have h1 := (nightB_iff.1 hn).2.1
      refine ⟨hn, Classical.byContradiction fun hne => ?_⟩
      rw [lfN_none h1 hne] at h; omega
    · rw [if_neg hn] at h; omega
  · rintro ⟨hn, ha⟩
    rw [if_pos hn]
    have h1 := (nightB_iff.1 hn).2.1
    exact lfN_nn ha (by omega)
theorem few_low (l : List PlayerC) (t : List (List Int)) : -1 ≤ fewV l t := by
  unfold fewV
  split
  · exact minS_low _ _
  · omega
theorem specFW_ok {l : List PlayerC} {t : List (List Int)} {Q : Int → Prop} (hl : l.length ≤ 1048576) (hs : szPl l ≤ 1048576) (ht : t.length ≤ 1048576) (h : Q (fewV l t)) : m_spec_FewestChanges l t Q := by
  unfold fewV at h
  refine specNO_ok hl hs ht ⟨fun hc => by rw [if_neg hc] at h; exact h, fun hc => ?_⟩
  have hn := Classical.not_not.1 hc
  rw [if_pos hn, lfN_zero] at h
  obtain ⟨hpo, h1, h6, h4⟩ := nightB_iff.1 hn
  refine costs_ok hl hs hn ⟨by rw [tabT_len]; omega, ?_⟩
  rw [tabT_get (by omega)]
  have hcl := castL_len l t[0]!
  have hrl := rowT_len l t 0
  refine ⟨fun b k => 0 ≤ k ∧ k ≤ (castL l t[0]!).length ∧ b = minS (cst l (t.drop 0)) k.toNat, fun b k => ((castL l t[0]!).length - k).toNat, ⟨by omega, by omega, rfl⟩, ?_⟩
  rintro b k ⟨k0, k1, rfl⟩
  refine ⟨fun hk => ?_, fun hk => ?_⟩
  · rw [rowT_get (by omega)]
    refine ⟨⟨k0, hk⟩, fun _ => ⟨k0, hk⟩, fun hc => ⟨⟨k0, hk⟩, by omega, ⟨by omega, by omega, ?_⟩, (by dsimp only; omega)⟩, fun hc => ⟨by omega, ⟨by omega, by omega, ?_⟩, (by dsimp only; omega)⟩⟩
    · rw [tn1 k0, minS_yes (by omega) hc.2]
    · rw [tn1 k0, minS_no (by
        by_cases h0 : cst l (t.drop 0) k.toNat < 0
        · exact .inl h0
        · exact .inr fun hx => hc ⟨by omega, hx⟩)]
  · show Q _
    rwa [show k.toNat = (castL l t[0]!).length by omega]
theorem bsN_at_len {l : List PlayerC} {t : List (List Int)} (h : allNe l t) {k m : Nat} (hk : k < m) (hm : m ≤ t.length) : ((bsN l t m)[k]!).length = (t[k]!).length := by
  rw [bsN_get l t hk, bsN_last, castL_get_len (atS_spec h (by omega)).1]
theorem bsN_at_mem {l : List PlayerC} {t : List (List Int)} (h : allNe l t) {k m : Nat} (hk : k < m) (hm : m ≤ t.length) : (bsN l t m)[k]! ∈ castL l t[k]! := by
  rw [bsN_get l t hk, bsN_last]; exact castL_at (atS_spec h (by omega)).1
theorem ch16 {p c q d : List Int} (hp : p.length ≤ 4) (hq : q.length ≤ 4) : chO p c q d p.length ≤ 16 := Nat.le_trans (chO_le p c q d _) (Nat.mul_le_mul hp hq)
theorem implBN_ok {l : List PlayerC} {t : List (List Int)} {Q : List (List Int) → Bool → Prop} (hl : l.length ≤ 1048576) (hs : szPl l ≤ 1048576) (ht : t.length ≤ 1048576) (h : Q (bestL l t) (bestB l t)) : m_impl_BestNight l t Q := by
  refine implNO_ok hl hs ht ⟨fun hc => best_no (fun hx => hc hx.1) h, fun hc => ?_⟩
  have hn := Classical.not_not.1 hc
  obtain ⟨hpo, h1, h6, h4⟩ := nightB_iff.1 hn
  refine table_ok hl hs hn (fun hne => ⟨fun _ => best_no (fun hx => hne hx.2) h, fun hx => absurd (by decide) hx⟩) fun ha => ⟨fun hx => absurd rfl hx, fun _ => ?_⟩
  replace h := best_yes hn ha h
  have hml : (t.map (castL l)).length = t.length := List.length_map ..
  have htl := tabT_len l t
  refine ⟨fun x v => 0 ≤ v ∧ v ≤ t.length ∧ x = bsN l t v.toNat, fun x v => (t.length - v).toNat, ⟨by omega, by omega, rfl⟩, ?_⟩
  rintro x v ⟨v0, v1, rfl⟩
  refine ⟨fun hd => ?_, fun hd => ?_⟩
  · have hv : v.toNat < t.length := by omega
    have hmp := map_at (l := l) hv
    have hbl := bsN_len l t v.toNat
    have hcl := castL_len l t[v.toNat]!
    have hrl := rowT_len l t v.toNat
    have hat := (atS_spec ha hv).1
    rw [hmp, tabT_get hv]
    refine ⟨⟨v0, by omega⟩, fun b a i => 0 ≤ i ∧ i ≤ (castL l t[v.toNat]!).length ∧ b = minS (fvS l t (bsN l t v.toNat) v.toNat) i.toNat ∧ a = ((argS (fvS l t (bsN l t v.toNat) v.toNat) i.toNat : Nat) : Int), fun b a i => ((castL l t[v.toNat]!).length - i).toNat, ⟨by omega, by omega, rfl, rfl⟩, ?_⟩
    rintro b a i ⟨i0, i1, rfl, rfl⟩
    refine ⟨fun hi => ?_, fun hi => ?_⟩
    · have hf := fvS_nn (o := bsN l t v.toNat) ha v.toNat i.toNat
      have hrg := cst_rng hn v.toNat i.toNat
      rw [rowT_get (by omega)]
      refine ⟨⟨v0, by omega⟩, ⟨i0, by omega⟩, fun hv0 => ?_, fun hv0 => ?_⟩
      · have e2 : (v - 1).toNat = v.toNat - 1 := by omega
        have hcg := castL_get_len (l := l) (ps := t[v.toNat]!) (i := i.toNat) (by omega)
        have h16 := ch16 (c := (bsN l t v.toNat)[v.toNat - 1]!) (d := (castL l t[v.toNat]!)[i.toNat]!) (h4 (v.toNat - 1) (by omega)).1 (h4 v.toNat hv).1
        have e : fvS l t (bsN l t v.toNat) v.toNat i.toNat = cst l (t.drop v.toNat) i.toNat + (chO t[v.toNat - 1]! (bsN l t v.toNat)[v.toNat - 1]! t[v.toNat]! (castL l t[v.toNat]!)[i.toNat]! (t[v.toNat - 1]!).length : Int) := by unfold fvS; rw [if_neg (by omega)]; omega
        rw [e2]
        refine ⟨by omega, ⟨by omega, by omega⟩, by omega, ⟨by omega, by omega⟩, ⟨v0, hd⟩, ⟨v0, by omega⟩, ⟨i0, hi⟩, _, implCH_ok (by have := (h4 (v.toNat - 1) (by omega)).1; omega) (by have := (h4 v.toNat hv).1; omega) (bsN_at_len ha (by omega) (by omega)).symm hcg.symm rfl, by omega, ?_⟩
        rw [← e]
        exact ⟨fun hc => ⟨by omega, ⟨by omega, by omega, by rw [tn1 i0, minS_yes hf hc], by rw [tn1 i0, argS_yes hf hc]; omega⟩, (by dsimp only; omega)⟩, fun hc => ⟨by omega, ⟨by omega, by omega, by rw [tn1 i0, minS_no (.inr hc)], by rw [tn1 i0, argS_no hc]⟩, (by dsimp only; omega)⟩⟩
      · have e : fvS l t (bsN l t v.toNat) v.toNat i.toNat = cst l (t.drop v.toNat) i.toNat := by unfold fvS; rw [if_pos (by omega)]; omega
        rw [← e]
        exact ⟨fun hc => ⟨by omega, ⟨by omega, by omega, by rw [tn1 i0, minS_yes hf hc], by rw [tn1 i0, argS_yes hf hc]; omega⟩, (by dsimp only; omega)⟩, fun hc => ⟨by omega, ⟨by omega, by omega, by rw [tn1 i0, minS_no (.inr hc)], by rw [tn1 i0, argS_no hc]⟩, (by dsimp only; omega)⟩⟩
    · have ei : i.toNat = (castL l t[v.toNat]!).length := by omega
      rw [ei]
      have ea : argS (fvS l t (bsN l t v.toNat) v.toNat) (castL l t[v.toNat]!).length = atS l t (bsN l t v.toNat) v.toNat := rfl
      rw [ea]
      have hcg := castL_get_len hat
      have h4v := (h4 v.toNat hv).1
      refine ⟨⟨v0, by omega⟩, by rw [hmp]; omega, ?_⟩
      rw [hmp]
      refine copy_ok (show ((castL l t[v.toNat]!)[atS l t (bsN l t v.toNat) v.toNat]!).length ≤ 1048576 by omega) ⟨by omega, by omega, ⟨by omega, by omega, ?_⟩, (by dsimp only; omega)⟩
      rw [tn1 v0]; rfl
  · show Q _ true
    rwa [show v.toNat = t.length by omega]
theorem implFW_ok {l : List PlayerC} {t : List (List Int)} {Q : Int → Prop} (hl : l.length ≤ 1048576) (hs : szPl l ≤ 1048576) (ht : t.length ≤ 1048576) (h : Q (fewV l t)) : m_impl_FewestChanges l t Q := by
  refine implBN_ok hl hs ht ⟨fun hc => ?_, fun hc => ?_⟩
  · have h1 := few_low l t
    have h2 : ¬ 0 ≤ fewV l t := fun hx => hc (bestB_iff.2 (few_iff.1 hx))
    rwa [show fewV l t = -1 by omega] at h
  · have hb := Classical.not_not.1 hc
    obtain ⟨hn, ha⟩ := bestB_iff.1 hb
    obtain ⟨hpo, h1, h6, h4⟩ := nightB_iff.1 hn
    refine implCC_ok ⟨ht, fun i hi => by have := (h4 i hi).1; omega⟩ ?_
    unfold bestL
    rw [if_pos hb, bs_count ha h1]
    unfold fewV at h
    rw [if_pos hn] at h
    exact h
theorem bn_k0 {l : List PlayerC} {t : List (List Int)} {v i s : Int} {K : List (List Int) → Int → Prop} {N : Int → Prop} (hn : nightB l t = true) (ha : allNe l t) (v0 : 0 ≤ v) (hv : v < t.length) (i0 : 0 ≤ i) (hi : i < (castL l t[v.toNat]!).length) (hs : s + cst l (t.drop v.toNat) i.toNat = fvS l t (bsN l t v.toNat) v.toNat i.toNat) (h0 : 0 ≤ s) (h1 : s ≤ 16)
    (hK : fvS l t (bsN l t v.toNat) v.toNat i.toNat = lfN l t v.toNat → K (bsN l t v.toNat ++ [(castL l t[v.toNat]!)[i.toNat]!]) (cst l (t.drop v.toNat) i.toNat)) (hN : fvS l t (bsN l t v.toNat) v.toNat i.toNat ≠ lfN l t v.toNat → N (i + 1)) :
    m_spec_BestNight_K0 (tabT l t) (bsN l t v.toNat) (lfN l t v.toNat) v (castL l t[v.toNat]!) i K N s := by
  have htl := tabT_len l t
  have hrl := rowT_len l t v.toNat
  have hcl := castL_len l t[v.toNat]!
  have hrg := cst_rng hn v.toNat i.toNat
  have hge := cst_ne ha v.toNat i.toNat
  have h6 := (nightB_iff.1 hn).2.2.1
  have hbl := bsN_len l t v.toNat
  have e : (tabT l t)[v.toNat]! = rowT l t v.toNat := tabT_get (by omega)
  have e2 : (rowT l t v.toNat)[i.toNat]! = cst l (t.drop v.toNat) i.toNat := rowT_get (by omega)
  unfold m_spec_BestNight_K0
  rw [e, e2]
  exact ⟨⟨v0, by omega⟩, ⟨i0, by omega⟩, fun _ => ⟨v0, by omega⟩, fun _ => ⟨i0, by omega⟩, fun _ => by omega, fun hc => ⟨⟨i0, hi⟩, by omega, ⟨v0, by omega⟩, ⟨i0, by omega⟩, hK (by omega)⟩, fun hc => ⟨by omega, hN fun hx => hc ⟨hge, by omega⟩⟩⟩
theorem specBN_ok {l : List PlayerC} {t : List (List Int)} {Q : List (List Int) → Bool → Prop} (hl : l.length ≤ 1048576) (hs : szPl l ≤ 1048576) (ht : t.length ≤ 1048576) (h : Q (bestL l t) (bestB l t)) : m_spec_BestNight l t Q := by
  refine specFW_ok hl hs ht ⟨fun hc => best_no (fun hx => by have := few_iff.2 hx; omega) h, fun hc => ?_⟩
  obtain ⟨hn, ha⟩ := few_iff.1 (show 0 ≤ fewV l t by omega)
  obtain ⟨hpo, h1, h6, h4⟩ := nightB_iff.1 hn
  replace h := best_yes hn ha h
  have hfv : fewV l t = lfN l t 0 := if_pos hn
  refine costs_ok hl hs hn ⟨fun x b v => 0 ≤ v ∧ v ≤ t.length ∧ x = bsN l t v.toNat ∧ (v < t.length → b = lfN l t v.toNat), fun x b v => (t.length - v).toNat, ⟨by omega, by omega, rfl, fun _ => hfv⟩, ?_⟩
  rintro x b v ⟨v0, v1, rfl, v3⟩
  refine ⟨fun hd => ⟨⟨v0, hd⟩, specCO_ok hl hs (by have := (h4 v.toNat (by omega)).1; omega) ?_⟩, fun hd => ?_⟩
  · have hv : v.toNat < t.length := by omega
    have hbl := bsN_len l t v.toNat
    have hcl := castL_len l t[v.toNat]!
    obtain ⟨a1, a2, a3⟩ := atS_spec ha hv
    have hb := v3 hd
    subst hb
    refine ⟨fun i => 0 ≤ i ∧ i ≤ (castL l t[v.toNat]!).length ∧ ∀ j, j < i.toNat → fvS l t (bsN l t v.toNat) v.toNat j ≠ lfN l t v.toNat, fun i => ((castL l t[v.toNat]!).length - i).toNat, ⟨by omega, by omega, fun j hj => absurd hj (by omega)⟩, ?_⟩
    rintro i ⟨i0, i1, i2⟩
    refine ⟨fun hi => ?_, fun hi => absurd a2 (i2 _ (by omega))⟩
    have hnext : fvS l t (bsN l t v.toNat) v.toNat i.toNat = lfN l t v.toNat → i.toNat = atS l t (bsN l t v.toNat) v.toNat := fun he => by
      rcases Nat.lt_trichotomy i.toNat (atS l t (bsN l t v.toNat) v.toNat) with hx | hx | hx
      · exact absurd he (a3 _ hx)
      · exact hx
      · exact absurd a2 (i2 _ hx)
    refine ⟨fun hv0 => ?_, fun hv0 => ?_⟩
    · have e2 : (v - 1).toNat = v.toNat - 1 := by omega
      have hcg := castL_get_len (l := l) (ps := t[v.toNat]!) (i := i.toNat) (by omega)
      have h16 := ch16 (c := (bsN l t v.toNat)[v.toNat - 1]!) (d := (castL l t[v.toNat]!)[i.toNat]!) (h4 (v.toNat - 1) (by omega)).1 (h4 v.toNat hv).1
      have hal := bsN_at_len ha (k := v.toNat - 1) (m := v.toNat) (by omega) (by omega)
      rw [e2]
      refine ⟨by omega, ⟨by omega, by omega⟩, by omega, ⟨by omega, by omega⟩, ⟨v0, hd⟩, ⟨i0, hi⟩, (chO t[v.toNat - 1]! (bsN l t v.toNat)[v.toNat - 1]! t[v.toNat]! (castL l t[v.toNat]!)[i.toNat]! (t[v.toNat - 1]!).length : Int), specCB_ok (by have := (h4 (v.toNat - 1) (by omega)).1; omega) (by have := (h4 v.toNat hv).1; omega) (by unfold chB; rw [if_pos ⟨hal.symm, hcg.symm⟩]), bn_k0 hn ha v0 hd i0 hi (by unfold fvS; rw [if_neg (by omega)]) (by omega) (by omega) (fun he => ⟨by omega, ⟨by omega, by omega, by rw [tn1 v0, bsN, hnext he], fun hl2 => ?_⟩, (by dsimp only; omega)⟩) fun he => ⟨⟨by omega, by omega, lt_succ' i0 i2 he⟩, (by dsimp only; omega)⟩⟩
      rw [tn1 v0, lfN_next ha (by omega), hnext he]
    · refine bn_k0 hn ha v0 hd i0 hi (by unfold fvS; rw [if_pos (by omega)]) (by omega) (by omega) (fun he => ⟨by omega, ⟨by omega, by omega, by rw [tn1 v0, bsN, hnext he], fun hl2 => ?_⟩, (by dsimp only; omega)⟩) fun he => ⟨⟨by omega, by omega, lt_succ' i0 i2 he⟩, (by dsimp only; omega)⟩
      rw [tn1 v0, lfN_next ha (by omega), hnext he]
  · show Q _ true
    rwa [show v.toNat = t.length by omega]
end Go.Proofs.Ytddjkiefadiijaa
