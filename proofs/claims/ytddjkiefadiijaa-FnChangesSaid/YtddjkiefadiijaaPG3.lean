/- Plain laws over the models: all castings. No program, no statement of the claim. -/
import Derived.Test.YtddjkiefadiijaaPG2
import Derived.Test.YtddjkiefadiijaaPIM
namespace Go.Proofs.Ytddjkiefadiijaa

/-- the digits of a number, the last one changes first -/
def tl (n : Nat) : Nat → Nat → List Int
  | 0, _ => []
  | k + 1, v => tl n k (v / n) ++ [((v % n : Nat) : Int)]
theorem tl_len (n : Nat) : ∀ k v, (tl n k v).length = k
  | 0, _ => rfl
  | k + 1, v => by rw [tl, List.length_append, tl_len n k]; rfl
def tups (n k : Nat) : List (List Int) := (List.range (n ^ k)).map (tl n k)
theorem range_mul (n : Nat) : ∀ a, List.range (a * n) = (List.range a).flatMap fun q => (List.range n).map fun p => q * n + p
  | 0 => by simp
  | a + 1 => by
    rw [Nat.succ_mul, List.range_add, range_mul n a, List.range_succ, List.flatMap_append]
    simp
theorem tups_succ {n k : Nat} (hn : 1 ≤ n) : tups n (k + 1) = (tups n k).flatMap fun c => (List.range n).map fun p : Nat => c ++ [(p : Int)] := by
  unfold tups
  rw [Nat.pow_succ, range_mul, List.map_flatMap, List.flatMap_map]
  congr 1
  funext q
  rw [List.map_map]
  apply List.map_congr_left
  intro p hp
  have hp := List.mem_range.1 hp
  show tl n k ((q * n + p) / n) ++ [(((q * n + p) % n : Nat) : Int)] = _
  have e1 : (q * n + p) / n = q := by rw [Nat.mul_comm, Nat.mul_add_div (by omega), Nat.div_eq_of_lt hp]; omega
  have e2 : (q * n + p) % n = p := by rw [Nat.mul_comm, Nat.mul_add_mod, Nat.mod_eq_of_lt hp]
  rw [e1, e2]
/-- every prefix may go on as it does -/
def preB (l : List PlayerC) (ps c : List Int) : Bool := decide (∀ i, i < c.length → okP l ps (c.take i) (c[i]!).toNat = true)
theorem preB_iff {l : List PlayerC} {ps c : List Int} : preB l ps c = true ↔ ∀ i, i < c.length → okP l ps (c.take i) (c[i]!).toNat = true := by unfold preB; rw [decide_eq_true_eq]
theorem preB_app (l : List PlayerC) (ps c : List Int) (p : Nat) : preB l ps (c ++ [(p : Int)]) = (preB l ps c && okP l ps c p) := by
  rw [Bool.eq_iff_iff, Bool.and_eq_true, preB_iff, preB_iff]
  constructor
  · intro h
    refine ⟨fun i hi => ?_, ?_⟩
    · have := h i (by rw [List.length_append]; omega)
      rwa [get_app hi, List.take_append_of_le_length (by omega)] at this
    · have := h c.length (by rw [List.length_append, List.length_singleton]; omega)
      rw [get_last, List.take_append_of_le_length (Nat.le_refl _), List.take_length] at this
      simpa using this
  · rintro ⟨h1, h2⟩ i hi
    rw [List.length_append, List.length_singleton] at hi
    rcases Nat.lt_or_ge i c.length with hc | hc
    · rw [get_app hc, List.take_append_of_le_length (by omega)]; exact h1 i hc
    · have : i = c.length := by omega
      subst this
      rw [get_last, List.take_append_of_le_length (Nat.le_refl _), List.take_length]
      simpa using h2
def cast1 (l : List PlayerC) (ps c : List Int) : List (List Int) := (List.range l.length).flatMap fun p : Nat => if okP l ps c p = true then [c ++ [(p : Int)]] else []
theorem flat_if {α β : Type} (q : α → Bool) (g : α → List β) : ∀ l : List α, (l.flatMap fun a => if q a = true then g a else []) = (l.filter q).flatMap g
  | [] => rfl
  | a :: l => by
    rw [List.flatMap_cons, flat_if q g l, List.filter_cons]
    cases h : q a <;> simp
theorem filt_snoc (l : List PlayerC) (ps c : List Int) : ∀ r : List Nat, (r.map fun p : Nat => c ++ [(p : Int)]).filter (preB l ps) = if preB l ps c = true then (r.flatMap fun p : Nat => if okP l ps c p = true then [c ++ [(p : Int)]] else []) else []
  | [] => by simp
  | p :: r => by
    rw [List.map_cons, List.filter_cons, preB_app, filt_snoc l ps c r]
    cases h1 : preB l ps c <;> cases h2 : okP l ps c p <;> simp [h2]
theorem filt_succ {l : List PlayerC} {ps : List Int} (hn : 1 ≤ l.length) (k : Nat) : (tups l.length (k + 1)).filter (preB l ps) = ((tups l.length k).filter (preB l ps)).flatMap (cast1 l ps) := by
  rw [tups_succ hn, List.filter_flatMap, ← flat_if]
  congr 1
  funext c
  exact filt_snoc l ps c _
theorem ext_flat (l : List PlayerC) (ps : List Int) (f : Nat) (x : List (List Int)) : x.flatMap (ext l ps (f + 1)) = (x.flatMap (cast1 l ps)).flatMap (ext l ps f) := by
  rw [List.flatMap_assoc]
  congr 1
  funext c
  show (List.range l.length).flatMap _ = ((List.range l.length).flatMap _).flatMap _
  rw [List.flatMap_assoc]
  congr 1
  funext p
  by_cases h : okP l ps c p = true
  · rw [if_pos h, if_pos h]; simp
  · rw [if_neg h, if_neg h]; simp
theorem ext_filt {l : List PlayerC} {ps : List Int} (hn : 1 ≤ l.length) (K : Nat) : ∀ j, j ≤ K → ext l ps K [] = ((tups l.length j).filter (preB l ps)).flatMap (ext l ps (K - j))
  | 0, _ => by
    have : (tups l.length 0).filter (preB l ps) = [[]] := by simp [tups, tl, preB]
    rw [this]; simp
  | j + 1, h => by
    rw [ext_filt hn K j (by omega), filt_succ hn, show K - j = K - (j + 1) + 1 by omega, ext_flat]
theorem allC_filt {l : List PlayerC} {ps : List Int} (hn : 1 ≤ l.length) : allC l ps = (tups l.length ps.length).filter (preB l ps) := by
  unfold allC
  rw [ext_filt hn ps.length ps.length (Nat.le_refl _), Nat.sub_self]
  generalize (tups l.length ps.length).filter (preB l ps) = x
  induction x with
  | nil => rfl
  | cons a x ih => rw [List.flatMap_cons, ih]; rfl
theorem cntE_mono (c : List Int) (k : Int) (m : Nat) : ∀ d, cntE c k m ≤ cntE c k (m + d)
  | 0 => Nat.le_refl _
  | d + 1 => by
    have := cntE_mono c k m d
    rw [show m + (d + 1) = m + d + 1 by omega, cntE]; omega
theorem cntE_take {c : List Int} {k : Int} {i m : Nat} (h : m ≤ i) : cntE (c.take i) k m = cntE c k m := cntE_congr fun j hj => by
  simp [List.getElem!_eq_getElem?_getD, List.getElem?_take, show j < i by omega]
theorem tl_get {n : Nat} (hn : 1 ≤ n) : ∀ {k v i : Nat}, i < k → ∃ d : Nat, d < n ∧ (tl n k v)[i]! = (d : Int)
  | k + 1, v, i, h => by
    rw [tl]
    rcases Nat.lt_or_ge i k with hc | hc
    · obtain ⟨d, h1, h2⟩ := tl_get hn (v := v / n) hc
      exact ⟨d, h1, by rw [get_app (by rw [tl_len]; exact hc)]; exact h2⟩
    · have e : i = (tl n k (v / n)).length := by rw [tl_len]; omega
      exact ⟨v % n, Nat.mod_lt _ (by omega), by rw [e, get_last]⟩
theorem pre_cast {l : List PlayerC} {ps c : List Int} (hok : okB l ps = true) (hlen : c.length = ps.length) (hr : ∀ i, i < c.length → ∃ d : Nat, d < l.length ∧ c[i]! = (d : Int)) : preB l ps c = true ↔ castP l ps c := by
  obtain ⟨hpo, hpu⟩ := okB_iff.1 hok
  rw [preB_iff]
  constructor
  · intro h
    refine ⟨hpo, hpu, hlen, fun i hi => ?_, fun k hk => ?_⟩
    · obtain ⟨d, h1, h2⟩ := hr i hi
      have := (okP_iff.1 (h i hi)).2
      rw [List.length_take, show min i c.length = i by omega] at this
      exact ⟨⟨by omega, by omega⟩, this⟩
    · have hf := plO_free hpo hk
      have : ∀ m, m ≤ c.length → (cntE c k m : Int) ≤ (l[k]!).2 := by
        intro m
        induction m with
        | zero => intro _; show ((0 : Nat) : Int) ≤ _; omega
        | succ m ih =>
          intro hm
          have h1 := ih (by omega)
          rw [cntE]
          by_cases he : c[m]! = (k : Int)
          · rw [if_pos he]
            have := (okP_iff.1 (h m (by omega))).1
            rw [he, show Int.toNat (k : Int) = k by omega, List.length_take, show min m c.length = m by omega, cntE_take (Nat.le_refl _)] at this
            omega
          · rw [if_neg he]; omega
      exact this c.length (Nat.le_refl _)
  · rintro ⟨_, _, _, h4, h5⟩ i hi
    obtain ⟨d, h1, h2⟩ := hr i hi
    rw [h2, show Int.toNat (d : Int) = d by omega]
    have hk := (h4 i hi).2
    rw [h2, show Int.toNat (d : Int) = d by omega] at hk
    refine okP_iff.2 ⟨?_, by rw [List.length_take, show min i c.length = i by omega]; exact hk⟩
    rw [List.length_take, show min i c.length = i by omega, cntE_take (Nat.le_refl _)]
    have hm := cntE_mono c d (i + 1) (c.length - (i + 1))
    rw [show i + 1 + (c.length - (i + 1)) = c.length by omega, cntE, if_pos h2] at hm
    have := h5 d h1
    omega
def castL (l : List PlayerC) (ps : List Int) : List (List Int) := if okB l ps = true ∧ ps.length ≤ 4 then allC l ps else []
theorem pow_int (n : Nat) : ∀ k, ((n ^ k : Nat) : Int) * (n : Int) = ((n ^ (k + 1) : Nat) : Int)
  | k => by rw [Nat.pow_succ]; exact (Int.natCast_mul _ _).symm
theorem pow_le {n k : Nat} (hn : n ≤ 6) (hk : k ≤ 4) : n ^ k ≤ 1296 := Nat.le_trans (Nat.pow_le_pow_left hn k) (Nat.le_trans (Nat.pow_le_pow_right (by omega) hk) (by decide))
theorem allC_len {l : List PlayerC} {ps : List Int} (hn : l.length ≤ 6) (hk : ps.length ≤ 4) : (allC l ps).length ≤ 1296 := Nat.le_trans (ext_len hn _ _) (pow_le (Nat.le_refl 6) hk)
theorem filt_take {α : Type} [Inhabited α] (q : α → Bool) (x : List α) {v : Nat} (h : v < x.length) : (x.take (v + 1)).filter q = (x.take v).filter q ++ if q x[v]! = true then [x[v]!] else [] := by
  rw [take_snoc! _ _ h, List.filter_append]
  generalize x[v]! = a
  cases hq : q a <;> simp [hq]
theorem specCO_ok {l : List PlayerC} {ps : List Int} {Q : List (List Int) → Prop} (hl : l.length ≤ 1048576) (hs : szPl l ≤ 1048576) (hp : ps.length ≤ 1048576) (h : Q (castL l ps)) : m_spec_CastingsOf l ps Q := by
  unfold castL at h
  refine spec14_ok hl hs hp ⟨fun hc => ?_, fun hc => ?_⟩
  · rw [if_neg (fun hx => by rcases hc with hc | hc; exact hc hx.1; omega)] at h; exact h
  have hok : okB l ps = true := Classical.byContradiction fun hn => hc (.inl hn)
  have h4 : ps.length ≤ 4 := Classical.byContradiction fun hn => hc (.inr (by omega))
  rw [if_pos ⟨hok, h4⟩] at h
  have hz := plO_size (okB_iff.1 hok).1
  rw [allC_filt (by omega)] at h
  have hpl := @pow_le l.length
  refine ⟨fun v i => 0 ≤ i ∧ i ≤ ps.length ∧ v = ((l.length ^ i.toNat : Nat) : Int), fun v i => (ps.length - i).toNat, ⟨by omega, by omega, rfl⟩, ?_⟩
  rintro v i ⟨i0, i1, rfl⟩
  refine ⟨fun hd => ?_, fun hd => ?_⟩
  · have e := pow_int l.length i.toNat
    have := hpl (k := i.toNat + 1) hz.2 (by omega)
    rw [e]
    exact ⟨by omega, by omega, ⟨by omega, by omega, by rw [tn1 i0]⟩, (by dsimp only; omega)⟩
  have hi : i.toNat = ps.length := by omega
  have hN := hpl (k := ps.length) hz.2 h4
  have htl : (tups l.length ps.length).length = l.length ^ ps.length := by simp [tups]
  have hget : ∀ v, v < l.length ^ ps.length → (tups l.length ps.length)[v]! = tl l.length ps.length v := fun v hv => by simp [tups, hv]
  refine ⟨fun o v => 0 ≤ v ∧ v ≤ ((l.length ^ ps.length : Nat) : Int) ∧ o = ((tups l.length ps.length).take v.toNat).filter (preB l ps), fun o v => (((l.length ^ ps.length : Nat) : Int) - v).toNat, ⟨by omega, by omega, by simp⟩, ?_⟩
  rw [hi]
  rintro o v ⟨v0, v1, rfl⟩
  refine ⟨fun hd => ⟨⟨by omega, by omega⟩, by omega, ?_⟩, fun hd => ?_⟩
  · refine ⟨fun x w i => -1 ≤ i ∧ i < ps.length ∧ x.length = ps.length ∧ 0 ≤ w ∧ w ≤ 1296 ∧ tl l.length (i + 1).toNat w.toNat ++ x.drop (i + 1).toNat = tl l.length ps.length v.toNat, fun x w i => (i + 1).toNat, ⟨by omega, by omega, by simp, by omega, by omega, ?_⟩, ?_⟩
    · rw [List.drop_of_length_le (by rw [List.length_replicate]; omega), show Int.toNat ((ps.length : Int) - 1 + 1) = ps.length by omega, List.append_nil]
    rintro x w i ⟨i0, i1, i2, i3, i4, i5⟩
    refine ⟨fun hi => ?_, fun hi => ?_⟩
    · obtain ⟨D, hD⟩ : ∃ D, D = w.toNat / l.length := ⟨_, rfl⟩
      obtain ⟨M, hM⟩ : ∃ M, M = w.toNat % l.length := ⟨_, rfl⟩
      have hww : ((w.toNat : Nat) : Int) = w := by omega
      have hdv : Int.tdiv w (l.length : Int) = (D : Int) := by
        rw [Int.tdiv_eq_ediv_of_nonneg i3, hD, Int.natCast_ediv, hww]
      have hmd : Int.tmod w (l.length : Int) = (M : Int) := by
        rw [Int.tmod_eq_emod_of_nonneg i3, hM, Int.natCast_emod, hww]
      have hle : D ≤ w.toNat := by rw [hD]; exact Nat.div_le_self _ _
      rw [hdv, hmd]
      refine ⟨by omega, ⟨by omega, by omega⟩, by omega, by omega, by omega, ⟨by omega, by omega, by rw [List.length_set]; exact i2, by omega, by omega, ?_⟩, (by dsimp only; omega)⟩
      rw [← i5]
      have e1 : (i - 1 + 1).toNat = i.toNat := by omega
      have e2 : (i + 1).toNat = i.toNat + 1 := by omega
      rw [e1, e2, tl, List.append_assoc, ← hD, ← hM, show Int.toNat (D : Int) = D by omega]
      congr 1
      have hx : i.toNat < x.length := by omega
      rw [List.drop_eq_getElem_cons (by rw [List.length_set]; exact hx), List.getElem_set_self]
      simp [List.drop_set]
    · have e0 : (i + 1).toNat = 0 := by omega
      rw [e0, List.drop_zero, tl, List.nil_append] at i5
      subst i5
      have hlen := tl_len l.length ps.length v.toNat
      have hpc := pre_cast (c := tl l.length ps.length v.toNat) hok hlen (fun i hi => tl_get (by omega) (by omega))
      have hfl := List.length_filter_le (preB l ps) ((tups l.length ps.length).take v.toNat)
      rw [List.length_take] at hfl
      have hst := filt_take (preB l ps) (tups l.length ps.length) (v := v.toNat) (by omega)
      rw [hget _ (by omega)] at hst
      refine specIC_ok hl hs hp (by omega) (preB l ps (tl l.length ps.length v.toNat)) hpc ⟨fun hb => ⟨by omega, by omega, ⟨by omega, by omega, ?_⟩, (by dsimp only; omega)⟩, fun hb => ⟨by omega, ⟨by omega, by omega, ?_⟩, (by dsimp only; omega)⟩⟩
      · rw [tn1 v0, hst, if_pos hb]
      · rw [tn1 v0, hst, if_neg hb, List.append_nil]
  · rw [List.take_of_length_le (by omega)]
    exact h
theorem implCO_ok {l : List PlayerC} {ps : List Int} {Q : List (List Int) → Prop} (hl : l.length ≤ 1048576) (hs : szPl l ≤ 1048576) (hp : ps.length ≤ 1048576) (h : Q (castL l ps)) : m_impl_CastingsOf l ps Q := by
  unfold castL at h
  refine implPO_ok hl hs ⟨_, fun _ => strict_ok (by omega) rfl, fun hc => ?_, fun hc => ?_⟩
  · have c : ¬ (okB l ps = true ∧ ps.length ≤ 4) := fun hx => by have := okB_iff.1 hx.1; rcases hc with (hc | hc) | hc; exact hc this.1; exact hc this.2; omega
    rw [if_neg c] at h; exact h
  · have hpo : playersOk l = true := Classical.byContradiction fun hn => hc (.inl (.inl hn))
    have hok : okB l ps = true := okB_iff.2 ⟨hpo, Classical.byContradiction fun hn => hc (.inl (.inr hn))⟩
    have h4 : ps.length ≤ 4 := Classical.byContradiction fun hn => hc (.inr (by omega))
    rw [if_pos ⟨hok, h4⟩] at h
    have hz := plO_size hpo
    have hbig := allC_len hz.2 h4
    refine ⟨fun v x => 0 ≤ v ∧ v ≤ l.length ∧ x = (l.map fun p => p.2).take v.toNat, fun v x => (l.length - v).toNat, ⟨by omega, by omega, rfl⟩, ?_⟩
    rintro v x ⟨v0, v1, rfl⟩
    refine ⟨fun hd => ⟨⟨v0, hd⟩, by rw [List.length_take, List.length_map]; omega, by omega, ⟨by omega, by omega, ?_⟩, (by dsimp only; omega)⟩, fun hd => ⟨ps.length + 1, ?_⟩⟩
    · rw [tn1 v0, take_snoc! _ _ (by rw [List.length_map]; omega)]
      congr 2
      simp [show v.toNat < l.length by omega]
    · rw [List.take_of_length_le (by rw [List.length_map]; omega), ← frM_nil]
      refine restC_ok hz.2 hs (pup_len (okB_iff.1 hok).2) (fun k hk => plO_free hpo hk) ps.length [] [] _ (by simp) (cntOk_nil hpo) ?_ ?_
      · unfold allC at hbig; rw [List.length_nil]; omega
      · rw [List.nil_append]; exact h
theorem castL_len (l : List PlayerC) (ps : List Int) : (castL l ps).length ≤ 1296 := by
  unfold castL
  split
  · rename_i hc
    exact allC_len (plO_size (okB_iff.1 hc.1).1).2 hc.2
  · simp
theorem castL_row {l : List PlayerC} {ps : List Int} : ∀ i, i < (castL l ps).length → ((castL l ps)[i]!).length ≤ 4 := by
  intro i hi
  have hm : (castL l ps)[i]! ∈ castL l ps := by simp [hi]
  revert hm
  generalize (castL l ps)[i]! = c
  unfold castL
  split
  · rename_i hc
    rw [allC_filt (by have := plO_size (okB_iff.1 hc.1).1; omega)]
    intro hm
    obtain ⟨v, _, rfl⟩ := List.mem_map.1 (List.mem_filter.1 hm).1
    rw [tl_len]; exact hc.2
  · intro hm; cases hm
end Go.Proofs.Ytddjkiefadiijaa
