/- The plain law of proofs: its model answers true. No program. -/
import Derived.Test.YtddjkiefadiijaaPGP
namespace Go.Proofs.Ytddjkiefadiijaa
theorem lst_spec {p : Nat → Bool} : ∀ f k, (lst p f k < k + f → p (lst p f k) = true) ∧ ((∃ i, k ≤ i ∧ i < k + f ∧ p i = true) → lst p f k < k + f)
  | 0, k => ⟨fun h => absurd h (Nat.lt_irrefl _), fun ⟨i, h1, h2, _⟩ => absurd h2 (by omega)⟩
  | f + 1, k => by
    rw [lst]
    by_cases hk : p k = true
    · rw [if_pos hk]; exact ⟨fun _ => hk, fun _ => by omega⟩
    · rw [if_neg hk]
      obtain ⟨h1, h2⟩ := lst_spec (p := p) f (k + 1)
      refine ⟨fun h => h1 (by omega), fun ⟨i, a, b, c⟩ => ?_⟩
      have : k ≠ i := fun e => hk (e ▸ c)
      have := h2 ⟨i, by omega, by omega, c⟩
      omega
theorem lack_zero {l : List PlayerC} {ps : List Int} (hok : okB l ps = true) : lackOf l ps = 0 ↔ fcB l ps = true := by
  obtain ⟨hpo, hri⟩ := okB_iff.1 hok
  have el : lackOf l ps = lkS l ps (2 ^ ps.length) := by unfold lackOf; rw [if_pos hok]
  have em : mostC l ps = mcS l ps (2 ^ ps.length) := by unfold mostC; rw [if_pos hok]
  obtain ⟨k0, k1, _⟩ := lk_facts l ps (2 ^ ps.length)
  obtain ⟨_, m1, _⟩ := mc_facts l ps (2 ^ ps.length)
  have hh := hall_ps hok
  constructor
  · intro h
    refine (fc_iff hok).2 (hall (knF l) l.length ps.length ps (capF l) (Nat.le_refl _) (ri_nd hri) fun q => ?_)
    obtain ⟨v, hv, e⟩ := prt_part ps q
    have h1 := k1 v hv
    have h2 := hands_of (prt_ok hok (v : Int))
    rw [e] at h1 h2
    omega
  · intro h
    obtain ⟨v, hv, e⟩ := prt_part ps fun _ => true
    have e2 : (ps.filter fun _ => true) = ps := List.filter_eq_self.2 fun _ _ => rfl
    rw [e2] at e
    have h1 := m1 v hv (by rw [e]; exact h)
    rw [e] at h1
    omega
theorem sh_iff {l : List PlayerC} {ps : List Int} (hok : okB l ps = true) {v : Nat} : shP l ps v = true ↔ 0 < ((prt ps (v : Int) ps.length).length : Int) - handsFor l (prt ps (v : Int) ps.length) := by
  have h := (handsFor_rng l (prt ps (v : Int) ps.length)).2.2.1 (prt_ok hok _)
  unfold shP shortB
  rw [decide_eq_true_eq]
  omega
theorem short_iff {l : List PlayerC} {ps : List Int} (hok : okB l ps = true) : (shortF l ps = true ↔ 0 < lackOf l ps) ∧ (shortF l ps = true → shortB l (shortL l ps) = true) := by
  have el : lackOf l ps = lkS l ps (2 ^ ps.length) := by unfold lackOf; rw [if_pos hok]
  obtain ⟨k0, k1, k2⟩ := lk_facts l ps (2 ^ ps.length)
  obtain ⟨s1, s2⟩ := lst_spec (p := shP l ps) (2 ^ ps.length) 0
  rw [Nat.zero_add] at s1 s2
  have hF : shortF l ps = true ↔ shF l ps < 2 ^ ps.length := by
    unfold shortF
    rw [decide_eq_true_eq]
    exact ⟨fun h => h.2, fun h => ⟨hok, h⟩⟩
  refine ⟨?_, fun h => ?_⟩
  · rw [hF, el]
    constructor
    · intro h
      have h1 := (sh_iff hok).1 (s1 h)
      have h2 := k1 _ h
      unfold shF at h2
      omega
    · intro h
      rcases k2 with k2 | ⟨v, hv, e⟩
      · omega
      · exact s2 ⟨v, Nat.zero_le _, hv, (sh_iff hok).2 (by omega)⟩
  · have h1 := hF.1 h
    have h2 := s1 h1
    unfold shortL
    rw [if_pos ⟨hok, h1⟩]
    exact h2
theorem prt_mem {ps : List Int} {s x : Int} : ∀ {k : Nat}, k ≤ ps.length → x ∈ prt ps s k → x ∈ ps
  | 0, _, h => by cases h
  | k + 1, hk, h => by
    rw [prt, List.mem_append] at h
    rcases h with h | h
    · exact prt_mem (by omega) h
    · split at h
      · rw [List.mem_singleton.1 h]; exact mem_get.2 ⟨k, by omega, rfl⟩
      · cases h
theorem short_mem {l : List PlayerC} {ps : List Int} {x : Int} (h : x ∈ shortL l ps) : x ∈ ps := by
  unfold shortL at h
  split at h
  · exact prt_mem (Nat.le_refl _) h
  · cases h
theorem ho_hf {l : List PlayerC} (hpo : playersOk l = true) (S : List Int) : ∀ m, m ≤ l.length → hoS l S m ≤ hfS l m
  | 0, _ => Int.le_refl _
  | m + 1, hm => by
    have h1 := ho_hf hpo S m (by omega)
    have h2 := plO_free hpo (i := m) (by omega)
    rw [hoS, hfS]
    split <;> omega
theorem hands_free {l : List PlayerC} {S : List Int} (hok : okB l S = true) : 0 ≤ handsFor l S ∧ handsFor l S ≤ handsFree l := by
  have hpo := (okB_iff.1 hok).1
  have h1 := ho_hf hpo S l.length (Nat.le_refl _)
  have h2 := hoS_rng (ps := S) hpo l.length (Nat.le_refl _)
  unfold handsFor handsFree
  rw [if_pos hok, if_pos hpo]
  omega
theorem most_free {l : List PlayerC} {ps : List Int} (hok : okB l ps = true) : 0 ≤ mostC l ps ∧ mostC l ps ≤ (ps.length : Int) ∧ mostC l ps ≤ handsFree l := by
  have em : mostC l ps = mcS l ps (2 ^ ps.length) := by unfold mostC; rw [if_pos hok]
  obtain ⟨m0, _, m2⟩ := mc_facts l ps (2 ^ ps.length)
  have hf0 := hands_free hok
  rcases m2 with h | ⟨v, _, hf, h⟩
  · omega
  · have h1 := prt_len ps (v : Int) ps.length
    have h2 := hands_free (prt_ok hok (v : Int))
    have h3 := hands_of (prt_ok hok (v : Int))
    obtain ⟨a, ha⟩ := (fc_iff (prt_ok hok (v : Int))).1 hf
    have h4 := cast_le ha fun _ => true
    rw [List.filter_eq_self.2 (fun _ _ => rfl)] at h4
    omega
theorem hands_nil {l : List PlayerC} (hpo : playersOk l = true) : handsFor l [] = 0 := by
  unfold handsFor
  rw [if_pos (okB_iff.2 ⟨hpo, ri_nil _⟩)]
  have : ∀ m, hoS l [] m = 0 := by
    intro m
    induction m with
    | zero => rfl
    | succ m ih => rw [hoS, ih, if_neg (by simp [anyK])]; rfl
  exact this _
theorem law_PProofs {b : List Byte} (hb : b.length ≤ 9223372036854775807) : m_laws_FnProofs b (fun r => r = true) := by
  refine ⟨fun _ => rfl, fun hn => drawPl_ok (by
    have : ¬ ((b.length : Int) > 1048576) := fun hx => hn (decide_eq_true hx)
    omega) fun l p hpo hp5 => ?_⟩
  have hp6 := ri_mono hp5 (show (5 : Int) ≤ 6 by omega)
  have hok : okB l p = true := okB_iff.2 ⟨hpo, hp6⟩
  have hs := pl_sz hpo
  have hz := plO_size hpo
  have h7 := pup_len hp6
  have hl : l.length ≤ 1048576 := by omega
  have hp : p.length ≤ 1048576 := by omega
  have hall := hall_ps hok
  have hlz := lack_zero hok
  have hsh := short_iff hok
  have hmf := most_free hok
  have hhf := hands_free hok
  have hsl := shortL_len l p
  have hk0 := (lk_facts l p (2 ^ p.length)).1
  have el : lackOf l p = lkS l p (2 ^ p.length) := by unfold lackOf; rw [if_pos hok]
  have hne : ¬ shortF l p = fcB l p := fun e => by
    cases hq : fcB l p
    · have h1 : ¬ lackOf l p = 0 := fun h => by rw [hlz.1 h] at hq; cases hq
      have h2 := hsh.1.2 (by omega)
      rw [e, hq] at h2; cases h2
    · have h1 := hlz.2 hq
      have h2 := hsh.1.1 (by rw [e]; exact hq)
      omega
  have hdz : decide (lackOf l p = 0) = fcB l p := by
    cases hq : fcB l p
    · exact decide_eq_false fun h => by rw [hlz.1 h] at hq; cases hq
    · exact decide_eq_true (hlz.2 hq)
  have tail : m_laws_FnProofs_K0 l p (mostC l p) (fun r => r = true) := by
    refine implHO_ok hl hs hp ⟨handsFree l, fun _ => specHF_ok hl hs rfl, handsFree l, fun _ => specHF_ok hl hs rfl, shortB l p, fun _ => implIS_ok hl hs hp rfl, 0, fun _ => implHO_ok hl hs (by simp) (hands_nil hpo), ?_⟩
    have e1 : decide (handsFor l p ≥ 0) = true := decide_eq_true hhf.1
    have e2 : decide (handsFor l p ≤ handsFree l) = true := decide_eq_true hhf.2
    have e3 : decide (mostC l p ≤ handsFree l) = true := decide_eq_true hmf.2.2
    have e4 : shortB l p = decide (handsFor l p < (p.length : Int)) := by
      unfold shortB
      rw [decide_eq_decide]; omega
    rw [e1, e2, e3, e4]
    simp
  refine implFC_ok hl hs hp (implSS_ok hl hs hp (implMC_ok hl hs hp (implLK_ok hl hs hp ⟨fun _ => by omega, true, fun h => implIS_ok hl hs (by omega) (hsh.2 h.2), fun h => ?_, fun _ => ⟨fun i => 0 ≤ i ∧ i ≤ (shortL l p).length, fun i => ((shortL l p).length - i).toNat, ⟨by omega, by omega⟩, ?_⟩⟩)))
  · rcases h with ((((h | h) | h) | h) | h) | h
    · exact absurd h hne
    · omega
    · omega
    · omega
    · exact absurd hdz h
    · exact absurd rfl h.2
  · rintro i ⟨i0, i1⟩
    refine ⟨fun hi => ⟨⟨i0, hi⟩, has_ok (by omega) ⟨fun h => absurd (decide_eq_true (short_mem (mem_get.2 ⟨i.toNat, by omega, rfl⟩))) h, fun _ => ⟨by omega, ⟨by omega, by omega⟩, (by dsimp only; omega)⟩⟩⟩, fun _ => tail⟩
end Go.Proofs.Ytddjkiefadiijaa
