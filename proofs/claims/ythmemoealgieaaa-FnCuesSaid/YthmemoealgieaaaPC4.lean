/- Plain laws over the models: orders of cues. No program, no statement of the claim. -/
import Derived.Test.YthmemoealgieaaaPC3
namespace Go.Proofs.Ythmemoealgieaaa

/- how many of the numbers below m -/
def cnt (f : Nat → Bool) : Nat → Nat
  | 0 => 0
  | m + 1 => cnt f m + if f m = true then 1 else 0
theorem cnt_le (f : Nat → Bool) : ∀ m, cnt f m ≤ m
  | 0 => Nat.le_refl _
  | m + 1 => by have := cnt_le f m; rw [cnt]; split <;> omega
theorem cnt_full {f : Nat → Bool} : ∀ {m : Nat}, (∀ k, k < m → f k = true) → cnt f m = m
  | 0, _ => rfl
  | m + 1, h => by rw [cnt, cnt_full (m := m) (fun k hk => h k (by omega)), if_pos (h m (by omega))]
theorem cnt_congr {f g : Nat → Bool} : ∀ {m : Nat}, (∀ k, k < m → f k = g k) → cnt f m = cnt g m
  | 0, _ => rfl
  | m + 1, h => by rw [cnt, cnt, cnt_congr (m := m) (fun k hk => h k (by omega)), h m (by omega)]
theorem cnt_add {f g : Nat → Bool} {j : Nat} (hf : f j = false) (hg : g j = true) (he : ∀ k, k ≠ j → g k = f k) : ∀ {m : Nat}, j < m → cnt g m = cnt f m + 1
  | 0, h => absurd h (by omega)
  | m + 1, h => by
    by_cases hc : j = m
    · subst hc
      rw [cnt, cnt, cnt_congr (m := j) (fun k hk => he k (by omega)), if_pos hg, if_neg (by rw [hf]; simp)]
    · rw [cnt, cnt, cnt_add hf hg he (m := m) (by omega), he m (fun e => hc e.symm)]; omega
theorem cnt_mono {f g : Nat → Bool} : ∀ {m : Nat}, (∀ k, k < m → f k = true → g k = true) → cnt f m ≤ cnt g m
  | 0, _ => Nat.le_refl _
  | m + 1, h => by
    have := cnt_mono (m := m) (fun k hk => h k (by omega))
    rw [cnt, cnt]
    by_cases hc : f m = true
    · rw [if_pos hc, if_pos (h m (by omega) hc)]; omega
    · rw [if_neg hc]; omega
theorem cnt_lt {f g : Nat → Bool} {j : Nat} (hf : f j = false) (hg : g j = true) : ∀ {m : Nat}, (∀ k, k < m → f k = true → g k = true) → j < m → cnt f m < cnt g m
  | 0, _, h => absurd h (by omega)
  | m + 1, h, hj => by
    rw [cnt, cnt]
    by_cases hc : j = m
    · subst hc
      have := cnt_mono (m := j) (fun k hk => h k (by omega))
      rw [if_pos hg, if_neg (by rw [hf]; simp)]; omega
    · have := cnt_lt hf hg (m := m) (fun k hk => h k (by omega)) (by omega)
      by_cases hc : f m = true
      · rw [if_pos hc, if_pos (h m (by omega) hc)]; omega
      · rw [if_neg hc]; omega
/- the first number from k on with a property -/
def lst (p : Nat → Bool) : Nat → Nat → Nat
  | 0, k => k
  | f + 1, k => if p k = true then k else lst p f (k + 1)
theorem lst_eq {p : Nat → Bool} : ∀ {f k j : Nat}, k ≤ j → j < k + f → p j = true → (∀ i, k ≤ i → i < j → p i = false) → lst p f k = j
  | 0, k, j, h1, h2, _, _ => absurd h2 (by omega)
  | f + 1, k, j, h1, h2, h3, h4 => by
    rw [lst]
    by_cases hk : k = j
    · subst hk; rw [if_pos h3]
    · rw [if_neg (by rw [h4 k (Nat.le_refl _) (by omega)]; simp)]
      exact lst_eq (by omega) (by omega) h3 (fun i hi => h4 i (by omega))
theorem exists_first {p : Nat → Bool} : ∀ {j : Nat}, p j = true → ∃ i, i ≤ j ∧ p i = true ∧ ∀ k, k < i → p k = false := by
  intro j
  induction j using Nat.strongRecOn with
  | _ j ih =>
    intro hp
    by_cases h : ∃ k, k < j ∧ p k = true
    · obtain ⟨k, hk, hpk⟩ := h
      obtain ⟨i, h1, h2, h3⟩ := ih k hk hpk
      exact ⟨i, by omega, h2, h3⟩
    · refine ⟨j, Nat.le_refl _, hp, fun k hk => ?_⟩
      cases hq : p k
      · rfl
      · exact absurd ⟨k, hk, hq⟩ h

/- waiting goes through -/
theorem wt_tr {l : List CueC} : ∀ m j i k, j < m → wt l m i j = true → wt l m j k = true → wt l m i k = true
  | 0, j, i, k, h => absurd h (by omega)
  | m + 1, j, i, k, h => by
    rw [wt, wt, wt]
    simp only [Bool.or_eq_true, Bool.and_eq_true]
    intro h1 h2
    by_cases hj : j < m
    · have tr := fun a b => wt_tr (l := l) m j a b hj
      rcases h1 with h1 | ⟨h1, h1'⟩ <;> rcases h2 with h2 | ⟨h2, h2'⟩
      · exact .inl (tr i k h1 h2)
      · exact .inr ⟨tr i m h1 h2, h2'⟩
      · exact .inr ⟨h1, tr m k h1' h2⟩
      · exact .inr ⟨h1, h2'⟩
    · have e : j = m := by omega
      subst e
      have h1 : wt l j i j = true := by rcases h1 with h1 | h1; exact h1; exact h1.1
      have h2 : wt l j j k = true := by rcases h2 with h2 | h2; exact h2; exact h2.2
      exact .inr ⟨h1, h2⟩
theorem wt_ge {l : List CueC} {i k : Nat} (h : wt0 l i k = true) : ∀ m, wt l m i k = true
  | 0 => h
  | m + 1 => by rw [wt, wt_ge h m]; rfl
theorem wt_cl {l : List CueC} {D : Nat → Prop} (hD : ∀ a, D a → ∀ b, wt0 l a b = true → D b) : ∀ m a, (∀ b, wt0 l a b = true → D b) → ∀ b, wt l m a b = true → D b
  | 0, a, h, b, hb => h b hb
  | m + 1, a, h, b, hb => by
    rw [wt] at hb
    simp only [Bool.or_eq_true, Bool.and_eq_true] at hb
    rcases hb with hb | ⟨h1, h2⟩
    · exact wt_cl hD m a h b hb
    · have hm := wt_cl hD m a h m h1
      exact wt_cl hD m m (hD m hm) b h2
theorem W_tr {l : List CueC} {i j k : Nat} (h1 : W l i j = true) (h2 : W l j k = true) : W l i k = true := by
  by_cases hj : j < l.length
  · exact wt_tr _ j i k hj h1 h2
  · unfold W at h1; rw [wt_hi _ _ _ (by omega)] at h1; cases h1
theorem W_lt {l : List CueC} {i j : Nat} (h : W l i j = true) : j < l.length := by
  by_cases hj : j < l.length
  · exact hj
  · unfold W at h; rw [wt_hi _ _ _ (by omega)] at h; cases h
theorem W_irr {l : List CueC} (h : cuesOk l = true) (k : Nat) : W l k k = false := by
  cases hq : W l k k
  · rfl
  · have hz := co_size h
    have h4 := (cuesOk_iff.1 h).2.2.2
    unfold circ at h4
    rw [if_neg (by omega)] at h4
    have hm : ((k : Nat) : Int) ∈ sel (fun k => W l k k) l.length := sel_mem.2 ⟨by omega, by have := W_lt hq; omega, by simpa using hq⟩
    have := List.length_pos_of_mem hm
    omega
/-- some cue that is not done has all it waits for done -/
theorem next_ex {l : List CueC} (hok : cuesOk l = true) {D : Nat → Bool} : ∀ (c k : Nat), k < l.length → D k = false → cnt (W l k) l.length ≤ c → ∃ k, k < l.length ∧ D k = false ∧ ∀ j, W l k j = true → D j = true := by
  intro c
  induction c with
  | zero =>
    intro k hk hd hc
    refine ⟨k, hk, hd, fun j hj => ?_⟩
    have := cnt_lt (f := fun _ => false) (g := W l k) (j := j) rfl hj (m := l.length) (fun _ _ h => by cases h) (W_lt hj)
    omega
  | succ c ih =>
    intro k hk hd hc
    by_cases h : ∃ j, W l k j = true ∧ D j = false
    · obtain ⟨j, h1, h2⟩ := h
      refine ih j (W_lt h1) h2 ?_
      have := cnt_lt (f := W l j) (g := W l k) (j := j) (W_irr hok j) h1 (m := l.length) (fun i _ hi => W_tr h1 hi) (W_lt h1)
      omega
    · refine ⟨k, hk, hd, fun j hj => ?_⟩
      cases hq : D j
      · exact absurd ⟨j, hj, hq⟩ h
      · rfl

/- orders -/
def nxB (c : CueC) (i : Nat) (d : Int) : Bool := decide ((∀ j, j < c.2.1.length → bt d (c.2.1[j]!).toNat = true) ∧ bt d i = false)
theorem nxB_iff {c : CueC} {i : Nat} {d : Int} : nxB c i d = true ↔ (∀ j, j < c.2.1.length → bt d (c.2.1[j]!).toNat = true) ∧ bt d i = false := decide_eq_true_iff
theorem isNext_ok {c : CueC} {i d : Int} {Q : Bool → Prop} (hl : c.2.1.length ≤ 1048576) (hr : ∀ j, j < c.2.1.length → 0 ≤ c.2.1[j]! ∧ c.2.1[j]! < 64) (hi : 0 ≤ i ∧ i < 64) (hd : 0 ≤ d ∧ d < 4096) (h : Q (nxB c i.toNat d)) : m_impl_isNext c i d Q := by
  refine ⟨fun v => 0 ≤ v ∧ v ≤ c.2.1.length ∧ ∀ j, j < v.toNat → bt d (c.2.1[j]!).toNat = true, fun v => (c.2.1.length - v).toNat, ⟨by omega, by omega, fun j hj => absurd hj (by omega)⟩, ?_⟩
  rintro v ⟨g0, g1, g2⟩
  refine ⟨fun hc => ?_, fun hc => ?_⟩
  · have hv := hr v.toNat (by omega)
    have hs := sar_rng (k := c.2.1[v.toNat]!) hd.1
    have hb := band0 (k := c.2.1[v.toNat]!) hd.1
    refine ⟨⟨g0, hc⟩, hv, ⟨hs.1, by omega, by omega, by omega⟩, fun he => ?_, fun he => ⟨by omega, ⟨by omega, by omega, lt_succ' g0 g2 ?_⟩, (by dsimp only; omega)⟩⟩
    · have : nxB c i.toNat d = false := decide_eq_false fun hx => by
        have := hx.1 v.toNat (by omega)
        rw [hb.1 he] at this; cases this
      rw [this] at h; exact h
    · cases hq : bt d (c.2.1[v.toNat]!).toNat
      · exact absurd (hb.2 hq) he
      · rfl
  · have hs := sar_rng (k := i) hd.1
    have hb := band0 (k := i) hd.1
    refine ⟨hi, ⟨hs.1, by omega, by omega, by omega⟩, ?_⟩
    have : decide (band (sar d i) 1 = 0) = nxB c i.toNat d := by
      apply Bool.eq_iff_iff.2
      rw [nxB_iff, decide_eq_true_eq, hb]
      exact ⟨fun hx => ⟨fun j hj => g2 j (by omega), hx⟩, fun hx => hx.2⟩
    rw [this]; exact h
/-- the next cue -/
def nx (l : List CueC) (d : Int) : Nat := lst (fun k => nxB l[k]! k d) l.length 0
def ordS (l : List CueC) : Nat → List Int × Int
  | 0 => ([], 0)
  | m + 1 => ((ordS l m).1 ++ [(nx l (ordS l m).2 : Int)], bor (ordS l m).2 (sal 1 (nx l (ordS l m).2 : Int)))
/-- what is known of an order that has been begun -/
structure Ord (l : List CueC) (o : List Int) (d : Int) : Prop where
  set : 0 ≤ d ∧ d < ((2 ^ l.length : Nat) : Int)
  rng : ∀ x, x ∈ o → 0 ≤ x ∧ x < (l.length : Int)
  mem : ∀ k, bt d k = true ↔ ((k : Nat) : Int) ∈ o
  num : cnt (bt d) l.length = o.length
  cl : ∀ a, bt d a = true → ∀ b, wt0 l a b = true → bt d b = true
  nodup : ∀ i j, i < j → j < o.length → o[i]! ≠ o[j]!
  pre : ∀ i, i < o.length → ∀ b, wt0 l (o[i]!).toNat b = true → ∃ j, j < i ∧ o[j]! = (b : Int)
theorem pow_le {n : Nat} (h : n ≤ 12) : ((2 ^ n : Nat) : Int) ≤ 4096 := by
  have := Nat.pow_le_pow_right (show 2 > 0 by omega) h
  have e : (2 : Nat) ^ 12 = 4096 := by decide
  omega
theorem after_rng {l : List CueC} (hok : cuesOk l = true) {i : Nat} (hi : i < l.length) : ∀ j, j < (l[i]!).2.1.length → 0 ≤ (l[i]!).2.1[j]! ∧ (l[i]!).2.1[j]! < (l.length : Int) := by
  have := (cuC_iff.1 ((cuesOk_iff.1 hok).2.2.1 i hi)).2.1
  intro j hj
  have := riB_iff.1 this j hj
  omega
theorem mem_get {l : List Int} {x : Int} : x ∈ l ↔ ∃ j, j < l.length ∧ l[j]! = x := by
  rw [List.mem_iff_getElem]
  constructor
  · rintro ⟨j, hj, h⟩; exact ⟨j, hj, by simpa [hj] using h⟩
  · rintro ⟨j, hj, h⟩; exact ⟨j, hj, by simpa [hj] using h⟩
theorem wt0_iff {l : List CueC} (hok : cuesOk l = true) {i b : Nat} (hi : i < l.length) : wt0 l i b = true ↔ ∃ j, j < (l[i]!).2.1.length ∧ ((l[i]!).2.1[j]!).toNat = b := by
  have hr := after_rng hok hi
  unfold wt0
  rw [decide_eq_true_eq, mem_get]
  constructor
  · rintro ⟨_, j, hj, h⟩; exact ⟨j, hj, by omega⟩
  · rintro ⟨j, hj, h⟩
    have := hr j hj
    exact ⟨by omega, j, hj, by omega⟩
theorem Ord.zero (l : List CueC) : Ord l [] 0 := by
  have := Nat.two_pow_pos l.length
  refine ⟨⟨by omega, by omega⟩, fun x hx => (by cases hx), fun k => (by simp [bt_zero]), ?_, fun a h => (by rw [bt_zero] at h; cases h), fun i j _ h => absurd h (Nat.not_lt_zero _), fun i h => absurd h (Nat.not_lt_zero _)⟩
  have : ∀ m, cnt (bt 0) m = 0 := by
    intro m
    induction m with
    | zero => rfl
    | succ m ih => rw [cnt, ih, if_neg (by rw [bt_zero]; simp)]
  exact this _
/-- a cue may come next: the impl's way of asking, the reference's way, and that there is one -/
theorem Ord.same {l : List CueC} {o : List Int} {d : Int} (h : Ord l o d) (hok : cuesOk l = true) {k : Nat} (hk : k < l.length) : nxB l[k]! k d = true ↔ bt d k = false ∧ ∀ j, W l k j = true → bt d j = true := by
  rw [nxB_iff]
  constructor
  · rintro ⟨h1, h2⟩
    refine ⟨h2, fun j hj => wt_cl (D := fun a => bt d a = true) h.cl l.length k (fun b hb => ?_) j hj⟩
    obtain ⟨i, hi, hb⟩ := (wt0_iff hok hk).1 hb
    rw [← hb]; exact h1 i hi
  · rintro ⟨h1, h2⟩
    exact ⟨fun j hj => h2 _ (wt_ge ((wt0_iff hok hk).2 ⟨j, hj, rfl⟩) _), h1⟩
theorem Ord.ex {l : List CueC} {o : List Int} {d : Int} (h : Ord l o d) (hok : cuesOk l = true) (hlt : o.length < l.length) : ∃ k, k < l.length ∧ nxB l[k]! k d = true ∧ ∀ j, j < k → nxB l[j]! j d = false := by
  have : ∃ k, k < l.length ∧ bt d k = false := Classical.byContradiction fun hn => by
    have := cnt_full (f := bt d) (m := l.length) (fun k hk => by
      cases hq : bt d k
      · exact absurd ⟨k, hk, hq⟩ hn
      · rfl)
    have := h.num
    omega
  obtain ⟨k, hk, hd⟩ := this
  obtain ⟨k, hk, hd, hw⟩ := next_ex hok (D := bt d) _ k hk hd (Nat.le_refl _)
  obtain ⟨i, h1, h2, h3⟩ := exists_first (p := fun k => nxB l[k]! k d) ((h.same hok hk).2 ⟨hd, hw⟩)
  exact ⟨i, by omega, h2, h3⟩
theorem nx_eq {l : List CueC} {d : Int} {k : Nat} (hk : k < l.length) (h : nxB l[k]! k d = true) (hf : ∀ j, j < k → nxB l[j]! j d = false) : nx l d = k :=
  lst_eq (p := fun k => nxB l[k]! k d) (Nat.zero_le _) (by omega) h (fun i _ hi => hf i hi)
theorem Ord.step {l : List CueC} {o : List Int} {d : Int} (h : Ord l o d) (hok : cuesOk l = true) {k : Int} (h0 : 0 ≤ k) (hk : k < l.length) (hn : nxB l[k.toNat]! k.toNat d = true) : Ord l (o ++ [k]) (bor d (sal 1 k)) := by
  have hz := co_size hok
  obtain ⟨hn1, hn2⟩ := nxB_iff.1 hn
  have hb : ∀ j, bt (bor d (sal 1 k)) j = (bt d j || decide (k.toNat = j)) := fun j => by rw [bt_bor, bt_sal]
  have hs := sal_rng (k := k) (n := l.length) (by omega)
  have hb2 := bor_rng (x := d) (y := sal 1 k) (n := l.length) h.set.2 hs.2
  have gl : ∀ i, i < o.length → (o ++ [k])[i]! = o[i]! := fun i hi => by simp [List.getElem!_eq_getElem?_getD, List.getElem?_append, hi]
  have gk : (o ++ [k])[o.length]! = k := by simp [List.getElem!_eq_getElem?_getD]
  refine ⟨hb2, fun x hx => ?_, fun j => ?_, ?_, fun a ha b hab => ?_, fun i j hij hj => ?_, fun i hi b hwb => ?_⟩
  · rcases List.mem_append.1 hx with hx | hx
    · exact h.rng x hx
    · rw [List.mem_singleton.1 hx]; exact ⟨h0, hk⟩
  · rw [hb, Bool.or_eq_true, h.mem, decide_eq_true_eq, List.mem_append, List.mem_singleton]
    exact ⟨fun hx => hx.imp id (fun e => by omega), fun hx => hx.imp id (fun e => by omega)⟩
  · rw [cnt_add (f := bt d) (g := bt (bor d (sal 1 k))) (j := k.toNat) hn2 (by rw [hb]; simp) (fun j hj => by rw [hb, decide_eq_false (fun e => hj e.symm), Bool.or_false]) (by omega), h.num, List.length_append]; rfl
  · rw [hb, Bool.or_eq_true, decide_eq_true_eq] at ha
    rw [hb, Bool.or_eq_true]
    left
    rcases ha with ha | ha
    · exact h.cl a ha b hab
    · subst ha
      obtain ⟨j, hj, hjb⟩ := (wt0_iff hok (by omega)).1 hab
      rw [← hjb]; exact hn1 j hj
  · rw [List.length_append, List.length_singleton] at hj
    by_cases hjl : j < o.length
    · rw [gl i (by omega), gl j hjl]; exact h.nodup i j hij hjl
    · have : j = o.length := by omega
      subst this
      rw [gl i hij, gk]
      intro he
      have : ((k.toNat : Nat) : Int) ∈ o := mem_get.2 ⟨i, hij, by omega⟩
      rw [(h.mem k.toNat).2 this] at hn2; cases hn2
  · rw [List.length_append, List.length_singleton] at hi
    by_cases hil : i < o.length
    · rw [gl i hil] at hwb
      obtain ⟨j, hj, e⟩ := h.pre i hil b hwb
      exact ⟨j, hj, by rw [gl j (by omega)]; exact e⟩
    · have : i = o.length := by omega
      subst this
      rw [gk] at hwb
      obtain ⟨j, hj, hjb⟩ := (wt0_iff hok (by omega)).1 hwb
      have := hn1 j hj
      rw [hjb, h.mem] at this
      obtain ⟨j', hj', e⟩ := mem_get.1 this
      exact ⟨j', hj', by rw [gl j' hj']; exact e⟩
theorem ordS_ord {l : List CueC} (hok : cuesOk l = true) : ∀ m, m ≤ l.length → Ord l (ordS l m).1 (ordS l m).2 ∧ (ordS l m).1.length = m
  | 0, _ => ⟨Ord.zero l, rfl⟩
  | m + 1, h => by
    obtain ⟨h1, h2⟩ := ordS_ord hok m (by omega)
    obtain ⟨k, hk, hn, hf⟩ := h1.ex hok (by omega)
    have e := nx_eq hk hn hf
    rw [ordS, e]
    exact ⟨h1.step hok (by omega) (by omega) (by simpa using hn), by simp [h2]⟩
def ordL (l : List CueC) : List Int := if cuesOk l = true then (ordS l l.length).1 else []
theorem ordL_len {l : List CueC} (hok : cuesOk l = true) : (ordL l).length = l.length := by
  unfold ordL; rw [if_pos hok]; exact (ordS_ord hok l.length (Nat.le_refl _)).2
theorem ordL_ord {l : List CueC} (hok : cuesOk l = true) : ∃ d, Ord l (ordL l) d := by
  unfold ordL; rw [if_pos hok]; exact ⟨_, (ordS_ord hok l.length (Nat.le_refl _)).1⟩
theorem ordL_le (l : List CueC) : (ordL l).length ≤ 12 := by
  by_cases hok : cuesOk l = true
  · have := ordL_len hok; have := co_size hok; omega
  · unfold ordL; rw [if_neg hok]; simp
theorem implOL_ok {l : List CueC} {Q : List Int → Prop} (hl : l.length ≤ 1048576) (hs : szCu l ≤ 1048576) (h : Q (ordL l)) : m_impl_CueOrder l Q := by
  unfold ordL at h
  refine implCuesOk_ok hl hs ⟨fun hc => by rw [if_neg hc] at h; exact h, fun hc => ?_⟩
  have hok := Classical.not_not.1 hc
  rw [if_pos hok] at h
  have hz := co_size hok
  refine ⟨fun x d => x.length ≤ l.length ∧ x = (ordS l x.length).1 ∧ d = (ordS l x.length).2, fun x d => l.length - x.length, ⟨by simp, rfl, rfl⟩, ?_⟩
  rintro x d ⟨g1, g2, g3⟩
  have ho := (ordS_ord hok x.length g1).1
  rw [← g2, ← g3] at ho
  have hp := pow_le (n := l.length) (by omega)
  refine ⟨fun hd => ?_, fun hd => ?_⟩
  · obtain ⟨k, hk, hn, hf⟩ := ho.ex hok (by omega)
    have e := nx_eq hk hn hf
    refine ⟨fun i => 0 ≤ i ∧ i.toNat ≤ k, fun i => (k - i).toNat, ⟨by omega, by omega⟩, ?_⟩
    rintro i ⟨i0, i1⟩
    refine ⟨fun hc => ⟨⟨i0, hc⟩, isNext_ok (cuN_le hs i.toNat (by omega)).1 (fun j hj => by have := after_rng hok (i := i.toNat) (by omega) j hj; dsimp only; omega) (by omega) (by have := ho.set; omega) ⟨fun he => ?_, fun he => ?_⟩⟩, fun hc => absurd (show i < (l.length : Int) by omega) hc⟩
    · have hik : i.toNat = k := by
        by_cases hlt : i.toNat < k
        · have := hf _ hlt
          rw [show nxB (l[i.toNat]!.1, l[i.toNat]!.2.1, l[i.toNat]!.2.2) i.toNat d = nxB l[i.toNat]! i.toNat d from rfl, this] at he
          cases he
        · omega
      have hs := sal_rng (k := i) (n := l.length) (by omega)
      have hset := ho.set
      refine ⟨by omega, by omega, by omega, ⟨by omega, by omega, by omega, by omega⟩, ⟨by simp; omega, ?_, ?_⟩, by simp; omega⟩
      · rw [List.length_append, List.length_singleton, ordS, ← g2, ← g3, e, ← hik]
        rw [show ((i.toNat : Nat) : Int) = i by omega]
      · rw [List.length_append, List.length_singleton, ordS, ← g3, e, ← hik]
        rw [show ((i.toNat : Nat) : Int) = i by omega]
    · have hik : i.toNat < k := by
        by_cases hlt : i.toNat < k
        · exact hlt
        · have : i.toNat = k := by omega
          rw [this] at he
          exact absurd hn he
      exact ⟨by omega, ⟨by omega, by omega⟩, (by dsimp only; omega)⟩
  · show Q x
    rw [g2, show x.length = l.length by omega]; exact h
end Go.Proofs.Ythmemoealgieaaa
