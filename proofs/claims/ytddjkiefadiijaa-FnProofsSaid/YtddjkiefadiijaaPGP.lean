/- The plain law of proofs: there is a casting just if no subset of puppets is short of hands. No program. -/
import Derived.Test.YtddjkiefadiijaaPGH
import Derived.Test.YtddjkiefadiijaaPHall
namespace Go.Proofs.Ytddjkiefadiijaa

theorem ri_lt {m : Int} {x : List Int} (h : riB m x = true) : ∀ {j i : Nat}, i < j → j < x.length → x[i]! < x[j]!
  | 0, i, h1, _ => absurd h1 (Nat.not_lt_zero _)
  | j + 1, i, h1, h2 => by
    have h3 := (riB_iff.1 h (j + 1) h2).2.2 (Nat.zero_lt_succ _)
    rw [Nat.add_sub_cancel] at h3
    rcases Nat.lt_or_ge i j with h4 | h4
    · have := ri_lt h h4 (by omega); omega
    · rw [show i = j by omega]; exact h3
theorem ri_nd {m : Int} {x : List Int} (h : riB m x = true) : x.Nodup := by
  unfold List.Nodup
  rw [List.pairwise_iff_getElem]
  intro i j hi hj hij e
  have := ri_lt h hij hj
  rw [getElem!_pos x i hi, getElem!_pos x j hj, e] at this
  omega
theorem ri_notake {m : Int} {x : List Int} (h : riB m x = true) {i : Nat} (hi : i < x.length) : x[i]! ∉ x.take i := fun hm => by
  obtain ⟨j, hj, e⟩ := mem_get.1 hm
  rw [List.length_take] at hj
  have e2 : (x.take i)[j]! = x[j]! := by simp [List.getElem!_eq_getElem?_getD, List.getElem?_take, show j < i by omega]
  have := ri_lt h (show j < i by omega) hi
  omega
/- parts -/
theorem prt_congr {ps : List Int} {s s' : Int} : ∀ {k : Nat}, (∀ j, j < k → bt s j = bt s' j) → prt ps s k = prt ps s' k
  | 0, _ => rfl
  | k + 1, h => by rw [prt, prt, prt_congr (k := k) (fun j hj => h j (by omega)), h k (by omega)]
theorem prt_of (ps : List Int) (q : Int → Bool) : ∀ k, k ≤ ps.length → ∃ v : Nat, v < 2 ^ k ∧ prt ps (v : Int) k = (ps.take k).filter q
  | 0, _ => ⟨0, by decide, rfl⟩
  | k + 1, hk => by
    obtain ⟨v, h1, h2⟩ := prt_of ps q k (by omega)
    have hp : 2 ^ (k + 1) = 2 ^ k * 2 := Nat.pow_succ 2 k
    rw [take_snoc! _ _ (by omega), List.filter_append]
    cases hq : q ps[k]!
    · refine ⟨v, by omega, ?_⟩
      have hb : bt (v : Int) k = false := bt_hi (n := k) (by omega) (Nat.le_refl _)
      rw [prt, hb, h2, List.filter_cons_of_neg (by rw [hq]; simp)]; simp
    · have hbit : ∀ j, bt ((v ||| 2 ^ k : Nat) : Int) j = (bt (v : Int) j || decide (k = j)) := fun j => by
        unfold bt; rw [Int.toNat_natCast, Int.toNat_natCast, Nat.testBit_or, Nat.testBit_two_pow]
      refine ⟨v ||| 2 ^ k, Nat.or_lt_two_pow (by omega) (by omega), ?_⟩
      rw [prt, hbit, decide_eq_true rfl, Bool.or_true, if_pos rfl, prt_congr (s' := (v : Int)) (fun j hj => by rw [hbit, decide_eq_false (by omega), Bool.or_false]), h2, List.filter_cons_of_pos hq]; rfl
theorem prt_part (ps : List Int) (q : Int → Bool) : ∃ v : Nat, v < 2 ^ ps.length ∧ prt ps (v : Int) ps.length = ps.filter q := by
  have := prt_of ps q ps.length (Nat.le_refl _)
  rwa [List.take_length] at this
theorem prt_filter {m : Int} {ps : List Int} (h : riB m ps = true) (s : Int) : ∀ k, k ≤ ps.length → prt ps s k = (ps.take k).filter fun x => decide (∃ j, j < ps.length ∧ ps[j]! = x ∧ bt s j = true)
  | 0, _ => rfl
  | k + 1, hk => by
    rw [take_snoc! _ _ (by omega), List.filter_append, prt, prt_filter h s k (by omega)]
    congr 1
    by_cases hb : bt s k = true
    · rw [if_pos hb, List.filter_cons_of_pos (by exact decide_eq_true ⟨k, by omega, rfl, hb⟩)]; rfl
    · rw [if_neg hb, List.filter_cons_of_neg (by
        intro hx
        obtain ⟨j, h1, h2, h3⟩ := of_decide_eq_true hx
        rcases Nat.lt_trichotomy j k with h4 | h4 | h4
        · have := ri_lt h h4 (by omega); omega
        · rw [h4] at h3; exact hb h3
        · have := ri_lt h h4 h1; omega)]; rfl
theorem prt_is {m : Int} {ps : List Int} (h : riB m ps = true) (s : Int) : ∃ q : Int → Bool, prt ps s ps.length = ps.filter q := by
  have := prt_filter h s ps.length (Nat.le_refl _)
  rw [List.take_length] at this
  exact ⟨_, this⟩
theorem prt_ri {m : Int} {ps : List Int} (h : riB m ps = true) (s : Int) : ∀ k, k ≤ ps.length → riB (if k = 0 then -1 else ps[k - 1]!) (prt ps s k) = true
  | 0, _ => ri_nil _
  | k + 1, hk => by
    have ih := prt_ri h s k (by omega)
    have hk0 := (riB_iff.1 h k (by omega))
    have hle : (if k = 0 then -1 else ps[k - 1]!) ≤ ps[k]! - 1 := by
      by_cases hz : k = 0
      · rw [if_pos hz]; omega
      · rw [if_neg hz]; have := hk0.2.2 (by omega); omega
    rw [if_neg (by omega), Nat.add_sub_cancel, prt]
    by_cases hb : bt s k = true
    · rw [if_pos hb]; exact ri_app (ri_mono ih hle) hk0.1
    · rw [if_neg hb, List.append_nil]; exact ri_mono ih (by omega)
theorem prt_ok {l : List PlayerC} {ps : List Int} (hok : okB l ps = true) (s : Int) : okB l (prt ps s ps.length) = true := by
  obtain ⟨h1, h2⟩ := okB_iff.1 hok
  refine okB_iff.2 ⟨h1, ?_⟩
  have := prt_ri h2 s ps.length (Nat.le_refl _)
  refine ri_mono this ?_
  by_cases hz : ps.length = 0
  · rw [if_pos hz]; omega
  · rw [if_neg hz]; exact (riB_iff.1 h2 (ps.length - 1) (by omega)).2.1
/- hands -/
def knF (l : List PlayerC) (k : Nat) (x : Int) : Bool := knB l[k]! x
def capF (l : List PlayerC) (k : Nat) : Nat := (l[k]!).2.toNat
theorem hnd_ho {l : List PlayerC} (hpo : playersOk l = true) (S : List Int) : ∀ m, m ≤ l.length → (hnd (knF l) (capF l) S m : Int) = hoS l S m
  | 0, _ => rfl
  | m + 1, hm => by
    have h1 := hnd_ho hpo S m (by omega)
    have h2 := plO_free hpo (i := m) (by omega)
    rw [hnd, hoS]
    have e : S.any (knF l m) = true ↔ anyK l[m]! S = true := by
      rw [List.any_eq_true, anyK_iff]
      exact ⟨fun ⟨x, a, b⟩ => ⟨x, a, kn_iff.1 b⟩, fun ⟨x, a, b⟩ => ⟨x, a, kn_iff.2 b⟩⟩
    have e2 : ((capF l m : Nat) : Int) = (l[m]!).2 := by unfold capF; omega
    by_cases ha : anyK l[m]! S = true
    · rw [if_pos ha, if_pos (e.2 ha)]; omega
    · rw [if_neg ha, if_neg (fun h => ha (e.1 h))]; omega
theorem hands_of {l : List PlayerC} {S : List Int} (hok : okB l S = true) : handsFor l S = (hnd (knF l) (capF l) S l.length : Int) := by
  unfold handsFor
  rw [if_pos hok, hnd_ho (okB_iff.1 hok).1 S l.length (Nat.le_refl _)]
def sumC (a : Int → Nat) (S : List Int) : Nat → Nat
  | 0 => 0
  | n + 1 => sumC a S n + cntA a S n
theorem sumC_cons (a : Int → Nat) (x : Int) (S : List Int) : ∀ n, sumC a (x :: S) n = sumC a S n + if a x < n then 1 else 0
  | 0 => rfl
  | n + 1 => by
    have ih := sumC_cons a x S n
    have e : cntA a (x :: S) n = cntA a S n + if a x = n then 1 else 0 := by
      unfold cntA
      by_cases h : a x = n
      · rw [if_pos h, List.filter_cons_of_pos (by simpa using h)]; rfl
      · rw [if_neg h, List.filter_cons_of_neg (by simpa using h)]; rfl
    rw [sumC, sumC, ih, e]
    by_cases h1 : a x < n
    · rw [if_pos h1, if_neg (by omega), if_pos (by omega)]; omega
    · by_cases h2 : a x = n
      · rw [if_neg h1, if_pos h2, if_pos (by omega)]; omega
      · rw [if_neg h1, if_neg h2, if_neg (by omega)]; omega
theorem sumC_all {a : Int → Nat} {n : Nat} : ∀ {S : List Int}, (∀ x, x ∈ S → a x < n) → sumC a S n = S.length
  | [], _ => by
    have : ∀ m, sumC a [] m = 0 := by
      intro m
      induction m with
      | zero => rfl
      | succ m ih => rw [sumC, ih]; rfl
    exact this n
  | x :: S, h => by rw [sumC_cons, sumC_all (S := S) (fun y hy => h y (List.mem_cons_of_mem _ hy)), if_pos (h x (by simp))]; rfl
theorem cast_le {kn : Nat → Int → Bool} {cap : Nat → Nat} {n : Nat} {T : List Int} {a : Int → Nat} (h : Cast kn cap n T a) (q : Int → Bool) : (T.filter q).length ≤ hnd kn cap (T.filter q) n := by
  have h1 := sumC_all (a := a) (n := n) (S := T.filter q) (fun x hx => (h.1 x (List.mem_filter.1 hx).1).1)
  rw [← h1]
  have : ∀ m, m ≤ n → sumC a (T.filter q) m ≤ hnd kn cap (T.filter q) m := by
    intro m
    induction m with
    | zero => intro _; exact Nat.le_refl _
    | succ m ih =>
      intro hm
      have h2 := ih (by omega)
      have h3 := Nat.le_trans (cnt_sub (a := a) (ps := T) (q := q) (k := m)) (h.2 m (by omega))
      rw [sumC, hnd]
      by_cases ha : (T.filter q).any (kn m) = true
      · rw [if_pos ha]; omega
      · rw [if_neg ha, cnt_zero' (fun x hx e => ha (List.any_eq_true.2 ⟨x, hx, by have := (h.1 x (List.mem_filter.1 hx).1).2; rw [e] at this; exact this⟩))]; omega
  exact this n (Nat.le_refl _)
theorem cnt_take {a : Int → Nat} {T c : List Int} (he : ∀ i, i < T.length → c[i]! = (a T[i]! : Int)) {k : Nat} : ∀ m, m ≤ T.length → cntE c k m = cntA a (T.take m) k
  | 0, _ => rfl
  | m + 1, hm => by
    rw [cntE, cnt_take he m (by omega), take_snoc! _ _ (by omega), he m (by omega)]
    unfold cntA
    rw [List.filter_append, List.length_append]
    congr 1
    by_cases h : a T[m]! = k
    · rw [if_pos (by omega), List.filter_cons_of_pos (by simpa using h)]; rfl
    · rw [if_neg (by omega), List.filter_cons_of_neg (by simpa using h)]; rfl
theorem mem_tups {n : Nat} (hn : 1 ≤ n) : ∀ (k : Nat) (c : List Int), c.length = k → (∀ x, x ∈ c → 0 ≤ x ∧ x < (n : Int)) → c ∈ tups n k
  | 0, c, h, _ => by
    rw [List.eq_nil_of_length_eq_zero h]
    simp [tups, tl]
  | k + 1, c, h, hr => by
    have hne : c ≠ [] := fun e => by rw [e] at h; cases h
    have e := List.dropLast_concat_getLast hne
    rw [tups_succ hn, List.mem_flatMap]
    have hl := hr _ (List.getLast_mem hne)
    refine ⟨c.dropLast, mem_tups hn k _ (by rw [List.length_dropLast, h]; rfl) (fun x hx => hr x (List.dropLast_subset _ hx)), List.mem_map.2 ⟨(c.getLast hne).toNat, List.mem_range.2 (by omega), ?_⟩⟩
    rw [show (((c.getLast hne).toNat : Nat) : Int) = c.getLast hne by omega]
    exact e
theorem fc_iff {l : List PlayerC} {T : List Int} (hok : okB l T = true) : fcB l T = true ↔ ∃ a, Cast (knF l) (capF l) l.length T a := by
  obtain ⟨hpo, hri⟩ := okB_iff.1 hok
  have hz := plO_size hpo
  constructor
  · intro h
    obtain ⟨_, _, c3, c4, c5⟩ := fc_cast h
    generalize fcL l T = c at *
    have hix : ∀ i, i < T.length → c[i]! = (((c[(ixOf T T[i]!).toNat]!).toNat : Nat) : Int) := fun i hi => by
      have h1 := (ixOf_self T i hi).2 (ri_notake hri hi)
      have := (c4 i (by omega)).1
      rw [h1, Int.toNat_natCast]; omega
    refine ⟨fun x => (c[(ixOf T x).toNat]!).toNat, fun x hx => ?_, fun k hk => ?_⟩
    · obtain ⟨i, hi, rfl⟩ := mem_get.1 hx
      have h1 := hix i hi
      have h2 := c4 i (by omega)
      have h3 : (c[(ixOf T T[i]!).toNat]!).toNat = (c[i]!).toNat := by omega
      show (c[(ixOf T T[i]!).toNat]!).toNat < l.length ∧ knB l[(c[(ixOf T T[i]!).toNat]!).toNat]! T[i]! = true
      rw [h3]
      exact ⟨by omega, h2.2⟩
    · have h1 := cnt_take (a := fun x => (c[(ixOf T x).toNat]!).toNat) hix (k := k) T.length (Nat.le_refl _)
      rw [List.take_length] at h1
      rw [← h1, ← c3]
      have := c5 k hk
      unfold capF; omega
  · rintro ⟨a, b, c⟩
    have hcl : (T.map fun x => (a x : Int)).length = T.length := by simp
    have hg : ∀ i, i < T.length → (T.map fun x => (a x : Int))[i]! = (a T[i]! : Int) := fun i hi => by simp [hi]
    have hcast : castP l T (T.map fun x => (a x : Int)) := by
      refine ⟨hpo, hri, hcl, fun i hi => ?_, fun k hk => ?_⟩
      · rw [hcl] at hi
        have := b _ (mem_get.2 ⟨i, hi, rfl⟩)
        rw [hg i hi, Int.toNat_natCast]
        exact ⟨by omega, this.2⟩
      · rw [hcl, cnt_take hg T.length (Nat.le_refl _), List.take_length]
        have h1 := c k hk
        have h2 := plO_free hpo hk
        unfold capF at h1; omega
    refine fcB_iff.2 ⟨hok, ?_⟩
    rw [allC_filt (by omega)]
    refine List.ne_nil_of_mem (List.mem_filter.2 ⟨mem_tups (by omega) _ _ hcl (fun x hx => ?_), (pre_cast hok hcl (fun i hi => ?_)).2 hcast⟩)
    · obtain ⟨y, hy, rfl⟩ := List.mem_map.1 hx
      have := (b y hy).1
      omega
    · rw [hcl] at hi
      exact ⟨a T[i]!, (b _ (mem_get.2 ⟨i, hi, rfl⟩)).1, hg i hi⟩
/- the most that can be cast, the lack -/
theorem mc_facts (l : List PlayerC) (ps : List Int) : ∀ s, 0 ≤ mcS l ps s ∧ (∀ v, v < s → fcB l (prt ps (v : Int) ps.length) = true → ((prt ps (v : Int) ps.length).length : Int) ≤ mcS l ps s) ∧ (mcS l ps s = 0 ∨ ∃ v, v < s ∧ fcB l (prt ps (v : Int) ps.length) = true ∧ mcS l ps s = ((prt ps (v : Int) ps.length).length : Int))
  | 0 => ⟨Int.le_refl _, fun v hv => absurd hv (Nat.not_lt_zero _), .inl rfl⟩
  | s + 1 => by
    obtain ⟨h1, h2, h3⟩ := mc_facts l ps s
    rw [mcS]
    by_cases ha : ((prt ps (s : Int) ps.length).length : Int) ≤ mcS l ps s
    · rw [if_pos ha]
      refine ⟨h1, fun v hv hf => ?_, h3.imp id fun ⟨v, a, b⟩ => ⟨v, by omega, b⟩⟩
      rcases Nat.lt_or_ge v s with h | h
      · exact h2 v h hf
      · rw [show v = s by omega]; exact ha
    · rw [if_neg ha]
      by_cases hf : fcB l (prt ps (s : Int) ps.length) = true
      · rw [if_pos hf]
        refine ⟨by omega, fun v hv hfv => ?_, .inr ⟨s, by omega, hf, rfl⟩⟩
        rcases Nat.lt_or_ge v s with h | h
        · have := h2 v h hfv; omega
        · rw [show v = s by omega]; exact Int.le_refl _
      · rw [if_neg hf]
        refine ⟨h1, fun v hv hfv => ?_, h3.imp id fun ⟨v, a, b⟩ => ⟨v, by omega, b⟩⟩
        rcases Nat.lt_or_ge v s with h | h
        · exact h2 v h hfv
        · rw [show v = s by omega] at hfv; exact absurd hfv hf
theorem lk_facts (l : List PlayerC) (ps : List Int) : ∀ s, 0 ≤ lkS l ps s ∧ (∀ v, v < s → ((prt ps (v : Int) ps.length).length : Int) - handsFor l (prt ps (v : Int) ps.length) ≤ lkS l ps s) ∧ (lkS l ps s = 0 ∨ ∃ v, v < s ∧ lkS l ps s = ((prt ps (v : Int) ps.length).length : Int) - handsFor l (prt ps (v : Int) ps.length))
  | 0 => ⟨Int.le_refl _, fun v hv => absurd hv (Nat.not_lt_zero _), .inl rfl⟩
  | s + 1 => by
    obtain ⟨h1, h2, h3⟩ := lk_facts l ps s
    rw [lkS]
    refine ⟨by omega, fun v hv => ?_, ?_⟩
    · rcases Nat.lt_or_ge v s with h | h
      · have := h2 v h; omega
      · rw [show v = s by omega]; omega
    · rcases Int.le_total (lkS l ps s) (((prt ps (s : Int) ps.length).length : Int) - handsFor l (prt ps (s : Int) ps.length)) with h | h
      · exact .inr ⟨s, by omega, by omega⟩
      · rcases h3 with h3 | ⟨v, a, b⟩
        · exact .inl (by omega)
        · exact .inr ⟨v, by omega, by omega⟩
theorem hall_ps {l : List PlayerC} {ps : List Int} (hok : okB l ps = true) : mostC l ps + lackOf l ps = (ps.length : Int) := by
  obtain ⟨hpo, hri⟩ := okB_iff.1 hok
  have em : mostC l ps = mcS l ps (2 ^ ps.length) := by unfold mostC; rw [if_pos hok]
  have el : lackOf l ps = lkS l ps (2 ^ ps.length) := by unfold lackOf; rw [if_pos hok]
  rw [em, el]
  obtain ⟨m0, m1, m2⟩ := mc_facts l ps (2 ^ ps.length)
  obtain ⟨k0, k1, k2⟩ := lk_facts l ps (2 ^ ps.length)
  apply Int.le_antisymm
  · rcases m2 with hm | ⟨t, ht, hf, hm⟩
    · rcases k2 with hk | ⟨s, hs, hk⟩
      · omega
      · have h1 := handsFor_rng l (prt ps (s : Int) ps.length)
        have h2 := h1.2.2.1 (prt_ok hok _)
        have h3 := prt_len ps (s : Int) ps.length
        omega
    · have h3 := prt_len ps (t : Int) ps.length
      rcases k2 with hk | ⟨s, hs, hk⟩
      · omega
      · obtain ⟨qT, eT⟩ := prt_is hri (t : Int)
        obtain ⟨qS, eS⟩ := prt_is hri (s : Int)
        have hhS := hands_of (prt_ok hok (s : Int))
        obtain ⟨a, ha⟩ := (fc_iff (prt_ok hok (t : Int))).1 hf
        have h4 := cast_le ha qS
        rw [eT, List.filter_filter] at h4
        rw [eS] at hk hhS
        rw [eT] at hm
        have h5 : hnd (knF l) (capF l) (ps.filter fun x => qS x && qT x) l.length ≤ hnd (knF l) (capF l) (ps.filter qS) l.length := by
          have : ∀ m, hnd (knF l) (capF l) (ps.filter fun x => qS x && qT x) m ≤ hnd (knF l) (capF l) (ps.filter qS) m := by
            intro m
            induction m with
            | zero => exact Nat.le_refl _
            | succ m ih =>
              rw [hnd, hnd]
              by_cases hx : (ps.filter fun x => qS x && qT x).any (knF l m) = true
              · obtain ⟨y, hy, hky⟩ := List.any_eq_true.1 hx
                obtain ⟨hy1, hy2⟩ := List.mem_filter.1 hy
                rw [Bool.and_eq_true] at hy2
                rw [if_pos hx, if_pos (List.any_eq_true.2 ⟨y, List.mem_filter.2 ⟨hy1, hy2.1⟩, hky⟩)]; omega
              · rw [if_neg hx]; omega
          exact this _
        have h6 := len_split qT (ps.filter qS)
        rw [List.filter_filter, List.filter_filter] at h6
        have h7 := len_split qT ps
        have h8 : (ps.filter fun x => (!qT x) && qS x).length ≤ (ps.filter fun x => !qT x).length := by
          rw [← List.filter_filter]
          rw [show ((ps.filter qS).filter fun x => !qT x) = ((ps.filter fun x => !qT x).filter qS) by rw [List.filter_filter, List.filter_filter]; exact List.filter_congr fun x _ => Bool.and_comm _ _]
          exact List.length_filter_le _ _
        have h9 : (ps.filter fun x => qT x && qS x) = ps.filter fun x => qS x && qT x := List.filter_congr fun x _ => Bool.and_comm _ _
        rw [h9] at h6
        omega
  · obtain ⟨q, a, ha, hlen⟩ := hall_lack (kn := knF l) (n := l.length) (d := (lkS l ps (2 ^ ps.length)).toNat) (ps := ps) (cap := capF l) (ri_nd hri) (fun q => by
      obtain ⟨v, hv, e⟩ := prt_part ps q
      have h1 := k1 v hv
      have h2 := hands_of (prt_ok hok (v : Int))
      rw [e] at h1 h2
      omega)
    obtain ⟨v, hv, e⟩ := prt_part ps q
    have h1 := m1 v hv ((fc_iff (prt_ok hok (v : Int))).2 (by rw [e]; exact ⟨a, ha⟩))
    rw [e] at h1
    omega
end Go.Proofs.Ytddjkiefadiijaa
