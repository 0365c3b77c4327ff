/- The plain law: no night has fewer changes of hands than the best one. No program. -/
import Derived.Test.YtddjkiefadiijaaPF3
import Derived.Test.YtddjkiefadiijaaPDR
namespace Go.Proofs.Ytddjkiefadiijaa

theorem pl15_ok {Q : List PlayerC → Prop} (h : ∀ l, playersOk l = true → Q l) : m_spec_l15Players Q := by
  refine below_ok (by decide) (by decide) fun r r0 r1 => ⟨by omega, fun x v => 0 ≤ v ∧ v ≤ 1 + r ∧ x.length = v.toNat ∧ ∀ i, i < x.length → plB x[i]! = true, fun x v => (1 + r - v).toNat, ⟨by omega, by omega, rfl, fun i hi => absurd hi (Nat.not_lt_zero _)⟩, ?_⟩
  rintro x v ⟨v0, v1, v2, v3⟩
  refine ⟨fun hd => below_ok (by decide) (by decide) fun q q0 q1 => ⟨by omega, fun j a => 0 ≤ j ∧ j ≤ 5 ∧ a.length ≤ j.toNat ∧ riB (j - 1) a = true, fun j a => (5 - j).toNat, ⟨by omega, by omega, by simp, ri_nil _⟩, ?_⟩, fun hd => ?_⟩
  · rintro j a ⟨j0, j1, j2, j3⟩
    refine ⟨fun hj => below_ok (by decide) (by decide) fun s s0 s1 => ⟨fun _ => ⟨by omega, by omega, ⟨by omega, by omega, by rw [List.length_append, List.length_singleton]; omega, by rw [show j + 1 - 1 = j by omega]; exact ri_app j3 j0⟩, (by dsimp only; omega)⟩, fun _ => ⟨by omega, ⟨by omega, by omega, by omega, ri_mono j3 (by omega)⟩, (by dsimp only; omega)⟩⟩, fun hj => ?_⟩
    refine ⟨by omega, by omega, ⟨by omega, by omega, by rw [List.length_append, List.length_singleton]; omega, fun k hk => ?_⟩, (by dsimp only; omega)⟩
    rw [List.length_append, List.length_singleton] at hk
    rcases Nat.lt_or_ge k x.length with hx | hx
    · rw [get_app hx]; exact v3 k hx
    · have hkx : k = x.length := by omega
      subst hkx
      rw [get_last]
      exact plB_iff.2 ⟨ri_mono j3 (by omega), by dsimp only; omega, by dsimp only; omega⟩
  · exact h x (plO_iff.2 ⟨v3, by omega, by omega⟩)
theorem ni15_ok {Q : List (List Int) → Prop} (h : ∀ t, 1 ≤ t.length → t.length ≤ 4 → (∀ i, i < t.length → (t[i]!).length ≤ 4 ∧ riB 6 t[i]! = true) → Q t) : m_spec_l15Night Q := by
  refine below_ok (by decide) (by decide) fun r r0 r1 => ⟨by omega, fun x v => 0 ≤ v ∧ v ≤ 1 + r ∧ x.length = v.toNat ∧ ∀ i, i < x.length → (x[i]!).length ≤ 4 ∧ riB 6 x[i]! = true, fun x v => (1 + r - v).toNat, ⟨by omega, by omega, rfl, fun i hi => absurd hi (Nat.not_lt_zero _)⟩, ?_⟩
  rintro x v ⟨v0, v1, v2, v3⟩
  refine ⟨fun hd => ⟨fun a j => 0 ≤ j ∧ j ≤ 5 ∧ a.length ≤ 3 ∧ riB (j - 1) a = true, fun a j => (5 - j).toNat, ⟨by omega, by omega, by simp, ri_nil _⟩, ?_⟩, fun hd => ?_⟩
  · rintro a j ⟨j0, j1, j2, j3⟩
    refine ⟨fun hj => once_ok (by decide) (by decide) fun b => ⟨fun _ => ⟨by omega, by omega, ⟨by omega, by omega, by rw [List.length_append, List.length_singleton]; omega, by rw [show j + 1 - 1 = j by omega]; exact ri_app j3 j0⟩, (by dsimp only; omega)⟩, fun _ => ⟨by omega, ⟨by omega, by omega, by omega, ri_mono j3 (by omega)⟩, (by dsimp only; omega)⟩⟩, fun hj => ?_⟩
    refine ⟨by omega, by omega, ⟨by omega, by omega, by rw [List.length_append, List.length_singleton]; omega, fun k hk => ?_⟩, (by dsimp only; omega)⟩
    rw [List.length_append, List.length_singleton] at hk
    rcases Nat.lt_or_ge k x.length with hx | hx
    · rw [get_app hx]; exact v3 k hx
    · have hkx : k = x.length := by omega
      subst hkx
      rw [get_last]
      exact ⟨by omega, ri_mono j3 (by omega)⟩
  · exact h x (by omega) (by omega) v3
theorem same_refl {x : List Int} {Q : Bool → Prop} (hl : x.length ≤ 1099511627776) (h : Q true) : m_laws_sameInts x x Q := by
  refine ⟨fun h => absurd rfl h, fun _ => ⟨fun i => 0 ≤ i ∧ i ≤ x.length, fun i => (x.length - i).toNat, ⟨by omega, by omega⟩, ?_⟩⟩
  rintro i ⟨i0, i1⟩
  exact ⟨fun hi => ⟨⟨i0, hi⟩, ⟨i0, hi⟩, fun h => absurd rfl h, fun _ => ⟨by omega, ⟨by omega, by omega⟩, (by dsimp only; omega)⟩⟩, fun _ => h⟩
theorem cast_is {l : List PlayerC} {ps c : List Int} (hm : c ∈ castL l ps) : castP l ps c := by
  revert hm
  unfold castL
  split
  · rename_i hc
    have hz := plO_size (okB_iff.1 hc.1).1
    rw [allC_filt (by omega)]
    intro hm
    obtain ⟨h1, h2⟩ := List.mem_filter.1 hm
    obtain ⟨v, _, rfl⟩ := List.mem_map.1 h1
    exact (pre_cast hc.1 (tl_len _ _ _) (fun i hi => tl_get (by omega) (by rw [tl_len] at hi; exact hi))).1 h2
  · intro hm; cases hm
/-- the first casting is the first of all castings -/
theorem fc_first {l : List PlayerC} {ps : List Int} (hok : okB l ps = true) (h4 : ps.length ≤ 4) : fcB l ps = decide (((castL l ps).length : Int) > 0) ∧ (fcB l ps = true → (castL l ps)[0]! = fcL l ps) := by
  unfold fcB fcL castL
  rw [hok, if_pos ⟨rfl, h4⟩, if_pos rfl]
  cases hq : allC l ps with
  | nil => simp [ne0]
  | cons a b => exact ⟨(decide_eq_true (by simp only [List.length_cons]; omega)).symm, fun _ => rfl⟩
theorem law_PChanges {b : List Byte} (hb : b.length ≤ 9223372036854775807) : m_laws_FnChanges b (fun r => r = true) := by
  refine ⟨fun _ => rfl, fun hbig => ⟨by
    have : ¬ ((b.length : Int) > 1048576) := fun hx => hbig (decide_eq_true hx)
    omega, pl15_ok fun l hpo => ni15_ok fun t h1 h4 hr => ?_⟩⟩
  have hn : nightB l t = true := nightB_iff.2 ⟨hpo, h1, by omega, hr⟩
  have hs := pl_sz hpo
  have hz := plO_size hpo
  have hl : l.length ≤ 1048576 := by omega
  have ht : t.length ≤ 1048576 := by omega
  have hok : ∀ i, i < t.length → okB l t[i]! = true := fun i hi => okB_iff.2 ⟨hpo, (hr i hi).2⟩
  have hbf : bestB l t = decide (fewV l t ≥ 0) := by
    apply Bool.eq_iff_iff.2
    rw [bestB_iff, decide_eq_true_eq]
    exact few_iff.symm
  have hba : bestB l t = decide (allNe l t) := by unfold bestB; rw [hn]; rfl
  have hsm : smallT t := ⟨ht, fun i hi => by have := (hr i hi).1; omega⟩
  have hyes : bestB l t = true → (bestL l t).length = t.length ∧ countC t (bestL l t) = fewV l t ∧ ∀ i, i < t.length → (bestL l t)[i]! ∈ castL l t[i]! := fun hx => by
    have ha := (bestB_iff.1 hx).2
    unfold bestL fewV
    rw [if_pos hx, if_pos hn, bs_count ha h1, bsN_len]
    exact ⟨rfl, rfl, fun i hi => bsN_at_mem ha hi (Nat.le_refl _)⟩
  refine implFW_ok hl hs ht (implBN_ok hl hs ht ⟨countC t (bestL l t), fun _ => implCC_ok hsm rfl, fun hx => ?_, fun _ => ?_⟩)
  · exfalso
    rcases hx with hx | ⟨hx, hy⟩
    · exact hx hbf
    · have := hyes hx
      rcases hy with hy | hy
      · omega
      · exact hy this.2.1
  refine ⟨fun x c v => 0 ≤ v ∧ v ≤ t.length ∧ x = (t.take v.toNat).map (fcL l) ∧ c = decide (allNe l (t.take v.toNat)), fun x c v => (t.length - v).toNat, ⟨by omega, by omega, by simp, (decide_eq_true (fun p hp => by simp at hp)).symm⟩, ?_⟩
  rintro x c v ⟨v0, v1, rfl, rfl⟩
  refine ⟨fun hd => ?_, fun hd => ?_⟩
  · have hv : v.toNat < t.length := by omega
    have hp4 := (hr v.toNat hv).1
    obtain ⟨f1, f2⟩ := fc_first (hok _ hv) hp4
    have hcl := castL_len l t[v.toNat]!
    have hfl := fcL_len l t[v.toNat]!
    refine ⟨⟨v0, hd⟩, implCO_ok hl hs (by omega) ⟨⟨v0, hd⟩, specFC_ok hl hs (by omega) ⟨fun hx => ?_, true, fun hx => ?_, fun _ => ⟨v0, hd⟩, fun hx => ?_, true, fun hx => ?_, fun hx => ?_, fun _ => ?_⟩⟩⟩
    · have := hx.2
      rw [f1, decide_eq_true_eq] at this
      exact ⟨by omega, by omega⟩
    · rw [f2 hx.2]; exact same_refl (by omega) rfl
    · have := (hyes hx.2).1
      exact ⟨v0, by omega⟩
    · have hm := (hyes hx.2).2.2 v.toNat hv
      exact specIC_ok hl hs (by omega) (by have := castL_mem_len hm; omega) true (iff_of_true rfl (cast_is hm)) rfl
    · rcases hx with (hx | hx) | hx
      · exact absurd f1 hx
      · exact absurd rfl hx.2
      · exact absurd rfl hx.2
    · refine ⟨by rw [List.length_map, List.length_take]; omega, by omega, ⟨by omega, by omega, ?_, ?_⟩, (by dsimp only; omega)⟩
      · rw [tn1 v0, take_snoc! _ _ hv, List.map_append]; rfl
      · rw [tn1 v0, take_snoc! _ _ hv, f1]
        apply Bool.eq_iff_iff.2
        rw [Bool.and_eq_true, decide_eq_true_eq, decide_eq_true_eq, decide_eq_true_eq]
        constructor
        · rintro ⟨ha, hc⟩ p hp
          rcases List.mem_append.1 hp with hp | hp
          · exact ha p hp
          · rw [List.mem_singleton.1 hp]; exact List.length_pos_iff.1 (by omega)
        · intro ha
          exact ⟨fun p hp => ha p (List.mem_append_left _ hp), by have := List.length_pos_iff.2 (ha _ (List.mem_append_right _ (List.mem_singleton.2 rfl))); omega⟩
  · have et : t.take v.toNat = t := List.take_of_length_le (by omega)
    rw [et, ← hba]
    have hcc : bestB l t = true → fewV l t ≤ countC t (t.map (fcL l)) := fun hx => by
      have ha := (bestB_iff.1 hx).2
      have hfm : ∀ m, m < t.length → (t.map (fcL l))[m]! = (castL l t[m]!)[0]! := fun m hm => by
        obtain ⟨f1, f2⟩ := fc_first (hok _ hm) (hr m hm).1
        have := allNe_pos ha hm
        rw [f2 (by rw [f1]; exact decide_eq_true (by omega))]
        simp [hm]
      have hmem : ∀ m, m < t.length → (t.map (fcL l))[m]! ∈ castL l t[m]! := fun m hm => by rw [hfm m hm]; exact castL_at (allNe_pos ha hm)
      have hl2 := cc_least ha hmem (t.length - 1) 0 (by omega) 0 (allNe_pos ha (by omega)) (hfm 0 (by omega))
      have hml := (minS_le (cst l (t.drop 0)) (allNe_pos ha (show 0 < t.length by omega)) (cst_ne ha 0 0)).2
      have hnb : ∀ m, m < t.length - 1 → 0 ≤ nbC t (t.map (fcL l)) m := fun m hm => by
        unfold nbC
        rw [hfm m (by omega), hfm (m + 1) (by omega), chB_cast (allNe_pos ha (by omega)) (allNe_pos ha (by omega))]
        exact chN_nn ..
      unfold fewV countC
      rw [if_pos hn, if_pos ⟨by simp, hnb⟩, lfN_zero]
      rw [ccS] at hl2
      omega
    refine ⟨countC t (t.map (fcL l)), fun _ => implCC_ok hsm rfl, fun hx => ?_, fun _ => implNO_ok hl hs ht ⟨fun _ => implCB_ok (by simp) (by simp) ⟨fun _ => implCB_ok (by simp) (by simp) (by decide), fun hx => absurd (by decide) hx⟩, fun hx => absurd hn hx⟩⟩
    exfalso
    rcases hx with hx | ⟨hx, hy⟩
    · exact hx rfl
    · have := hcc hx; omega
end Go.Proofs.Ytddjkiefadiijaa
