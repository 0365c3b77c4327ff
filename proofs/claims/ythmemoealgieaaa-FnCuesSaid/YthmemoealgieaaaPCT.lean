/- Plain laws over the models: drawn cues; starts, latest starts and plans of a set of cues; the law of times. No program, no statement of the claim. -/
import Derived.Test.YthmemoealgieaaaPC7
namespace Go.Proofs.Ythmemoealgieaaa

/- draws -/
theorem below_ok {k : Int} {Q : Int → Prop} (h0 : 0 < k) (h1 : k ≤ 256) (h : ∀ r, 0 ≤ r → r < k → Q r) : m_spec_l01Below k Q :=
  ⟨fun hx => absurd hx (by omega), fun _ => ⟨fun _ r h2 h3 => ⟨by omega, h _ (Int.tmod_nonneg k h2) (Int.tmod_lt_of_pos r h0)⟩, fun hx => absurd h1 hx⟩⟩
theorem once_ok {k : Int} {Q : Bool → Prop} (h0 : 0 < k) (h1 : k ≤ 256) (h : ∀ b, Q b) : m_spec_l01Once k Q := below_ok h0 h1 fun _ _ _ => h _
theorem ri_mono {m m' : Int} {x : List Int} (h : riB m x = true) (hm : m ≤ m') : riB m' x = true := riB_iff.2 fun j hj => by
  have := riB_iff.1 h j hj
  exact ⟨this.1, by have := this.2.1; omega, this.2.2⟩
theorem ri_nil (m : Int) : riB m [] = true := riB_iff.2 fun j hj => absurd hj (Nat.not_lt_zero _)
theorem ri_app {j : Int} {x : List Int} (h : riB (j - 1) x = true) (h0 : 0 ≤ j) : riB j (x ++ [j]) = true := riB_iff.2 fun i hi => by
  rw [List.length_append, List.length_singleton] at hi
  have gl : ∀ i, i < x.length → (x ++ [j])[i]! = x[i]! := fun i hi => by simp [List.getElem!_eq_getElem?_getD, List.getElem?_append, hi]
  have gk : (x ++ [j])[x.length]! = j := by simp [List.getElem!_eq_getElem?_getD]
  have h' := riB_iff.1 h
  rcases Nat.lt_or_ge i x.length with hx | hx
  · have := h' i hx
    refine ⟨by rw [gl i hx]; exact this.1, by rw [gl i hx]; have := this.2.1; omega, fun h1 => ?_⟩
    rw [gl i hx, gl (i - 1) (by omega)]; exact this.2.2 h1
  · have : i = x.length := by omega
    subst this
    refine ⟨by rw [gk]; exact h0, by rw [gk]; exact Int.le_refl _, fun h1 => ?_⟩
    rw [gk, gl _ (by omega)]
    have := (h' (x.length - 1) (by omega)).2.1
    omega
/-- cues as they are drawn: a cue waits for cues that stand before it -/
def drawP (l : List CueC) : Prop := 1 ≤ l.length ∧ l.length ≤ 7 ∧ ∀ i, i < l.length → (1 ≤ (l[i]!).1 ∧ (l[i]!).1 ≤ 9) ∧ riB ((i : Int) - 1) (l[i]!).2.1 = true ∧ riB 4 (l[i]!).2.2 = true
theorem list_ok {Q : List CueC → Prop} (h : ∀ l, drawP l → Q l) : m_spec_l11List Q := by
  refine below_ok (by decide) (by decide) fun r r0 r1 => ⟨by omega, fun x v => 0 ≤ v ∧ v ≤ 1 + r ∧ x.length = v.toNat ∧ ∀ i, i < x.length → (1 ≤ (x[i]!).1 ∧ (x[i]!).1 ≤ 9) ∧ riB ((i : Int) - 1) (x[i]!).2.1 = true ∧ riB 4 (x[i]!).2.2 = true, fun x v => (1 + r - v).toNat, ⟨by omega, by omega, rfl, fun i hi => absurd hi (Nat.not_lt_zero _)⟩, ?_⟩
  rintro x v ⟨v0, v1, v2, v3⟩
  refine ⟨fun hd => ?_, fun hd => ?_⟩
  · refine below_ok (by decide) (by decide) fun q q0 q1 => ⟨by omega, fun j a => 0 ≤ j ∧ j ≤ v ∧ a.length ≤ j.toNat ∧ riB (j - 1) a = true, fun j a => (v - j).toNat, ⟨by omega, by omega, by simp, ri_nil _⟩, ?_⟩
    rintro j a ⟨j0, j1, j2, j3⟩
    refine ⟨fun hj => once_ok (by decide) (by decide) fun b => ⟨fun _ => ⟨by omega, by omega, ⟨by omega, by omega, by rw [List.length_append, List.length_singleton]; omega, by rw [show j + 1 - 1 = j by omega]; exact ri_app j3 j0⟩, (by dsimp only; omega)⟩, fun _ => ⟨by omega, ⟨by omega, by omega, by omega, ri_mono j3 (by omega)⟩, (by dsimp only; omega)⟩⟩, fun hj => ?_⟩
    have hjv : j = v := by omega
    subst hjv
    refine ⟨fun i p => 0 ≤ i ∧ i ≤ 5 ∧ p.length ≤ i.toNat ∧ riB (i - 1) p = true, fun i p => (5 - i).toNat, ⟨by omega, by omega, by simp, ri_nil _⟩, ?_⟩
    rintro i p ⟨i0, i1, i2, i3⟩
    refine ⟨fun hi => once_ok (by decide) (by decide) fun b => ⟨fun _ => ⟨by omega, by omega, ⟨by omega, by omega, by rw [List.length_append, List.length_singleton]; omega, by rw [show i + 1 - 1 = i by omega]; exact ri_app i3 i0⟩, (by dsimp only; omega)⟩, fun _ => ⟨by omega, ⟨by omega, by omega, by omega, ri_mono i3 (by omega)⟩, (by dsimp only; omega)⟩⟩, fun hi => ?_⟩
    refine ⟨by omega, by omega, ⟨by omega, by omega, by rw [List.length_append, List.length_singleton]; omega, fun k hk => ?_⟩, (by dsimp only; omega)⟩
    rw [List.length_append, List.length_singleton] at hk
    rcases Nat.lt_or_ge k x.length with hx | hx
    · have e : (x ++ [((1 + q, a, p) : CueC)])[k]! = x[k]! := by simp [List.getElem!_eq_getElem?_getD, List.getElem?_append, hx]
      rw [e]; exact v3 k hx
    · have hkx : k = x.length := by omega
      subst hkx
      have e : (x ++ [((1 + q, a, p) : CueC)])[x.length]! = (1 + q, a, p) := by simp [List.getElem!_eq_getElem?_getD]
      rw [e]
      exact ⟨⟨by dsimp only; omega, by dsimp only; omega⟩, ri_mono j3 (by omega), ri_mono i3 (by omega)⟩
  · exact h x ⟨by omega, by omega, v3⟩
theorem drawCues_ok {p : List Byte} {Q : List CueC → Prop} (hp : p.length ≤ 1099511627776) (h : ∀ l, drawP l → Q l) : m_spec_DrawCues p Q := ⟨hp, list_ok h⟩
theorem sumN_le {α : Type} [Inhabited α] {f : α → Nat} {c : Nat} : ∀ {l : List α}, (∀ i, i < l.length → f l[i]! ≤ c) → sumN f l ≤ c * l.length
  | [], _ => by simp [sumN]
  | a :: l, h => by
    have h1 := sumN_le (l := l) (fun i hi => by have := h (i + 1) (by simpa using hi); simpa using this)
    have h2 := h 0 (by simp)
    simp only [List.getElem!_cons_zero] at h2
    simp only [sumN, List.length_cons, Nat.mul_succ]; omega
theorem draw_sz {l : List CueC} (h : drawP l) : szCu l ≤ 1048576 := by
  have : szCu l ≤ 12 * l.length := sumN_le fun i hi => by
    have hd := h.2.2 i hi
    have h1 := ri_len hd.2.1
    have h2 := ri_len hd.2.2
    have := h.2.1
    unfold cuN; omega
  have := h.2.1
  omega
theorem draw_wt {l : List CueC} (h : drawP l) {i k : Nat} (hw : wt0 l i k = true) : k < i := by
  unfold wt0 at hw
  have hw := of_decide_eq_true hw
  rcases Nat.lt_or_ge i l.length with hi | hi
  · obtain ⟨j, hj, e⟩ := mem_get.1 hw.2
    have := (riB_iff.1 (h.2.2 i hi).2.1 j hj).2.1
    omega
  · have : l[i]! = default := by simp [hi]
    rw [this] at hw
    exact absurd hw.2 (by simp [default, instInhabitedProd, Inhabited.default])
theorem draw_W {l : List CueC} (h : drawP l) {i k : Nat} (hw : W l i k = true) : k < i :=
  wt_cl (D := fun b => b < i) (fun a ha b hb => by have := draw_wt h hb; omega) l.length i (fun b hb => draw_wt h hb) k hw
theorem draw_ok {l : List CueC} (h : drawP l) : cuesOk l = true := by
  refine cuesOk_iff.2 ⟨h.1, by have := h.2.1; omega, fun i hi => ?_, ?_⟩
  · have hd := h.2.2 i hi
    exact cuC_iff.2 ⟨by omega, ri_mono hd.2.1 (by omega), ri_mono hd.2.2 (by omega)⟩
  · unfold circ
    rw [if_neg (by have := h.2.1; omega)]
    have : sel (fun k => W l k k) l.length = [] := by
      unfold sel
      rw [List.filter_eq_nil_iff.2 (fun k _ hk => by have := draw_W h hk; omega)]; rfl
    rw [this]; rfl

/- the order -/
def od (l : List CueC) (m : Nat) : Nat := ((ordL l)[m]!).toNat
theorem od_lt {l : List CueC} (hok : cuesOk l = true) {m : Nat} (hm : m < l.length) : od l m < l.length ∧ (ordL l)[m]! = (od l m : Int) := by
  have := ord_get hok hm
  unfold od; omega
theorem od_inj {l : List CueC} (hok : cuesOk l = true) {i j : Nat} (hij : i < j) (hj : j < l.length) : od l i ≠ od l j := fun e => by
  obtain ⟨d, ho⟩ := ordL_ord hok
  have := ho.nodup i j hij (by rw [ordL_len hok]; exact hj)
  have h1 := (od_lt hok (m := i) (by omega)).2
  have h2 := (od_lt hok hj).2
  rw [h1, h2, e] at this
  exact this rfl
theorem od_sur {l : List CueC} (hok : cuesOk l = true) {k : Nat} (hk : k < l.length) : ∃ m, m < l.length ∧ od l m = k := by
  obtain ⟨d, ho⟩ := ordL_ord hok
  have hb : bt d k = true := Classical.byContradiction fun hn => by
    have hf : bt d k = false := by
      cases hq : bt d k
      · rfl
      · exact absurd hq hn
    have := cnt_lt (f := bt d) (g := fun _ => true) hf rfl (m := l.length) (fun _ _ _ => rfl) hk
    rw [ho.num, ordL_len hok, cnt_full (fun _ _ => rfl)] at this
    omega
  obtain ⟨j, hj, e⟩ := mem_get.1 ((ho.mem k).1 hb)
  rw [ordL_len hok] at hj
  exact ⟨j, hj, by unfold od; omega⟩
theorem od_pre {l : List CueC} (hok : cuesOk l = true) {m : Nat} (hm : m < l.length) {a : Int} (ha : a ∈ (l[od l m]!).2.1) : ∃ j, j < m ∧ a = (od l j : Int) := by
  obtain ⟨d, ho⟩ := ordL_ord hok
  obtain ⟨j, hj, e⟩ := mem_get.1 ha
  have h1 := od_lt hok hm
  have hr := after_rng hok h1.1 j hj
  obtain ⟨i, hi, e2⟩ := ho.pre m (by rw [ordL_len hok]; exact hm) a.toNat ((wt0_iff hok h1.1).2 ⟨j, hj, by omega⟩)
  exact ⟨i, hi, by have := (od_lt hok (m := i) (by omega)).2; omega⟩

/- what is reached cue by cue, in the order -/
theorem sched {l : List CueC} (hok : cuesOk l = true) {F : Nat → List Int} {ks : Nat → List Int} (h0 : F 0 = List.replicate l.length 0) (hs : ∀ m, m < l.length → F (m + 1) = raises l (od l m) (F m) (ks m))
    (hk : ∀ m, m < l.length → ∀ a, a ∈ ks m → ∃ j, j < m ∧ a = (od l j : Int)) : ∀ m, m ≤ l.length → (F m).length = l.length ∧ (∀ j, m ≤ j → j < l.length → (F m)[od l j]! = 0) ∧ ∀ j, j < m → (F m)[od l j]! = mx l (F m) 0 (ks j)
  | 0, _ => ⟨by rw [h0]; simp, fun j _ hj => by have := (od_lt hok hj).1; rw [h0]; simp [this], fun j hj => absurd hj (Nat.not_lt_zero _)⟩
  | m + 1, hm => by
    obtain ⟨a1, a2, a3⟩ := sched hok h0 hs hk m (by omega)
    have hi := (od_lt hok (m := m) (by omega)).1
    have hne : ∀ j, j ≤ m → ∀ a, a ∈ ks j → a.toNat ≠ od l m := fun j hj a ha he => by
      obtain ⟨i, hi, e⟩ := hk j (by omega) a ha
      exact od_inj hok (i := i) (j := m) (by omega) (by omega) (by omega)
    have e := raises_eq (l := l) (i := od l m) (ks := ks m) (x := F m) (by omega) (hne m (Nat.le_refl _))
    rw [a2 m (Nat.le_refl _) (by omega)] at e
    have eF : F (m + 1) = (F m).set (od l m) (mx l (F m) 0 (ks m)) := (hs m (by omega)).trans e
    have hmx : ∀ j, j ≤ m → mx l (F (m + 1)) 0 (ks j) = mx l (F m) 0 (ks j) := fun j hj => mx_x (v := 0) fun a ha => by
      rw [eF, gset _ _ _ (by omega), if_neg (fun h => hne j hj a ha h.symm)]
    refine ⟨by rw [eF, List.length_set]; exact a1, fun j h1 h2 => ?_, fun j hj => ?_⟩
    · rw [eF, gset _ _ _ (by omega), if_neg (od_inj hok (by omega) h2)]; exact a2 j (by omega) h2
    · rw [hmx j (by omega)]
      rcases Nat.lt_or_ge j m with h | h
      · rw [eF, gset _ _ _ (by omega), if_neg (fun e => od_inj hok h (by omega) e.symm)]; exact a3 j h
      · rw [show j = m by omega, eF, gset _ _ _ (by omega), if_pos rfl]
theorem starts_at {l : List CueC} (hok : cuesOk l = true) : (startsL l).length = l.length ∧ ∀ j, j < l.length → (startsL l)[od l j]! = mx l (startsL l) 0 (l[od l j]!).2.1 := by
  have := sched hok (F := stS l) (ks := fun m => (l[od l m]!).2.1) rfl (fun _ _ => rfl) (fun m hm a ha => od_pre hok hm ha) l.length (Nat.le_refl _)
  unfold startsL
  rw [if_pos hok]
  exact ⟨this.1, this.2.2⟩
theorem plan_at {l : List CueC} (hok : cuesOk l = true) : (planL l).length = l.length ∧ ∀ j, j < l.length → (planL l)[od l j]! = mx l (planL l) 0 (((ordL l).take j).filter (spC l (od l j))) := by
  have := sched hok (F := spS l) (ks := fun m => ((ordL l).take m).filter (spC l (od l m))) rfl (fun _ _ => rfl) (fun m hm a ha => by
    obtain ⟨j, hj, e⟩ := mem_get.1 (List.mem_filter.1 ha).1
    rw [List.length_take] at hj
    have e2 : ((ordL l).take m)[j]! = (ordL l)[j]! := by simp [List.getElem!_eq_getElem?_getD, List.getElem?_take, show j < m by omega]
    exact ⟨j, by omega, by rw [← e, e2]; exact (od_lt hok (m := j) (by omega)).2⟩) l.length (Nat.le_refl _)
  unfold planL
  rw [if_pos hok]
  exact ⟨this.1, this.2.2⟩
theorem starts_wait {l : List CueC} (hok : cuesOk l = true) {i : Nat} (hi : i < l.length) {a : Int} (ha : a ∈ (l[i]!).2.1) : (startsL l)[a.toNat]! + (l[a.toNat]!).1 ≤ (startsL l)[i]! := by
  obtain ⟨m, hm, rfl⟩ := od_sur hok hi
  exact (mx_le.1 (Int.le_of_eq ((starts_at hok).2 m hm).symm)).2 a ha
theorem plan_early {l : List CueC} (hok : cuesOk l = true) {j m : Nat} (hj : j < m) (hm : m < l.length) (h : spC l (od l m) (od l j : Int) = true) : (planL l)[od l j]! + (l[od l j]!).1 ≤ (planL l)[od l m]! := by
  have := (mx_le.1 (Int.le_of_eq ((plan_at hok).2 m hm).symm)).2 (od l j : Int) (List.mem_filter.2 ⟨mem_get.2 ⟨j, by rw [List.length_take, ordL_len hok]; omega, by
    rw [← (od_lt hok (m := j) (by omega)).2]
    simp [List.getElem!_eq_getElem?_getD, List.getElem?_take, hj]⟩, h⟩)
  simpa using this
theorem plan_wait {l : List CueC} (hok : cuesOk l = true) {i : Nat} (hi : i < l.length) {a : Int} (ha : a ∈ (l[i]!).2.1) : (planL l)[a.toNat]! + (l[a.toNat]!).1 ≤ (planL l)[i]! := by
  obtain ⟨m, hm, rfl⟩ := od_sur hok hi
  obtain ⟨j, hj, rfl⟩ := od_pre hok hm ha
  have := plan_early hok hj hm (by unfold spC; rw [Bool.or_eq_true]; exact .inl (decide_eq_true ha))
  simpa using this
theorem starts_plan {l : List CueC} (hok : cuesOk l = true) : ∀ m j, j < m → j < l.length → (startsL l)[od l j]! ≤ (planL l)[od l j]!
  | 0, j, h, _ => absurd h (Nat.not_lt_zero _)
  | m + 1, j, h, hj => by
    rcases Nat.lt_or_ge j m with h1 | h1
    · exact starts_plan hok m j h1 hj
    have hjm : j = m := by omega
    subst hjm
    rw [(starts_at hok).2 j hj, mx_le]
    have h0 := (mx_le.1 (Int.le_of_eq ((plan_at hok).2 j hj).symm)).1
    refine ⟨h0, fun a ha => ?_⟩
    have h2 := plan_wait hok (od_lt hok hj).1 ha
    obtain ⟨i, hi, rfl⟩ := od_pre hok hj ha
    have h3 := starts_plan hok j i hi (by omega)
    simp only [Int.toNat_natCast] at h2 ⊢
    omega
theorem st_le_pl {l : List CueC} (hok : cuesOk l = true) {k : Nat} (hk : k < l.length) : (startsL l)[k]! ≤ (planL l)[k]! ∧ 0 ≤ (startsL l)[k]! := by
  obtain ⟨m, hm, rfl⟩ := od_sur hok hk
  exact ⟨starts_plan hok (m + 1) m (by omega) hm, (mx_le.1 (Int.le_of_eq ((starts_at hok).2 m hm).symm)).1⟩
theorem clI_nil {l : List CueC} {s : List Int} {i : Nat} : ∀ k, (∀ j, i < j → j < k → clash l s i j = false) → clI l s i k = []
  | 0, _ => rfl
  | k + 1, h => by
    rw [clI, clI_nil k (fun j h1 h2 => h j h1 (by omega)), if_neg (fun hx => by rw [h k hx.1 (by omega)] at hx; cases hx.2)]; rfl
theorem clO_nil {l : List CueC} {s : List Int} : ∀ m, (∀ i j, i < m → i < j → j < l.length → clash l s i j = false) → clO l s m = []
  | 0, _ => rfl
  | m + 1, h => by
    rw [clO, clO_nil m (fun i j h1 h2 h3 => h i j (by omega) h2 h3), clI_nil l.length (fun j h1 h2 => h m j (by omega) h1 h2)]; rfl
theorem plan_bd {l : List CueC} (hok : cuesOk l = true) : Bd l.length 0 7200 (planL l) := by
  unfold planL
  rw [if_pos hok]
  have := co_size hok
  exact (spS_bd hok l.length (Nat.le_refl _)).wide (by omega) (by omega)
theorem bd_ok {l : List CueC} (hok : cuesOk l = true) {s : List Int} (h : Bd l.length 0 7200 s) : okStarts l s = true := okStarts_iff.2 ⟨hok, h.len, fun j hj => by have := h.rng j (by rw [← h.len]; exact hj); omega⟩
theorem com_symm {a b : CueC} (h : comB a b = true) : comB b a = true := by
  obtain ⟨p, h1, h2⟩ := comB_iff.1 h
  exact comB_iff.2 ⟨p, h2, h1⟩
theorem plan_apart {l : List CueC} (hok : cuesOk l = true) {i k : Nat} (hik : i ≠ k) (hi : i < l.length) (hk : k < l.length) : clash l (planL l) i k = false := by
  cases hq : clash l (planL l) i k
  · rfl
  exfalso
  obtain ⟨⟨h1, h2⟩, h3⟩ := clash_iff.1 hq
  obtain ⟨m, hm, rfl⟩ := od_sur hok hi
  obtain ⟨j, hj, rfl⟩ := od_sur hok hk
  rcases Nat.lt_trichotomy m j with h | h | h
  · have := plan_early hok h hj (by unfold spC; rw [Bool.or_eq_true, Int.toNat_natCast]; exact .inr (com_symm h1))
    omega
  · exact hik (by rw [h])
  · have := plan_early hok h hm (by unfold spC; rw [Bool.or_eq_true, Int.toNat_natCast]; exact .inr h1)
    omega
theorem plan_clash {l : List CueC} (hok : cuesOk l = true) : (clashL l (planL l)).length = 0 := by
  unfold clashL
  split
  · rw [clO_nil l.length (fun i j h1 h2 h3 => plan_apart hok (by omega) h1 h3)]; rfl
  · rfl
theorem wait_all {l : List CueC} {s : List Int} (h : ∀ i, i < l.length → ∀ a, a ∈ (l[i]!).2.1 → s[a.toNat]! + (l[a.toNat]!).1 ≤ s[i]!) (i : Nat) (hi : i < l.length) : waitOk l s i (l[i]!).2.1.length := fun j hj => h i hi _ (mem_get.2 ⟨j, hj, rfl⟩)
theorem plan_plan {l : List CueC} (hok : cuesOk l = true) : planP l (planL l) := ⟨bd_ok hok (plan_bd hok), wait_all fun _ hi _ ha => plan_wait hok hi ha, plan_clash hok⟩
theorem starts_planP {l : List CueC} (hok : cuesOk l = true) : planP l (startsL l) ↔ (clashL l (startsL l)).length = 0 := ⟨fun h => h.2.2, fun h => ⟨bd_ok hok (starts_bd hok), wait_all fun _ hi _ ha => starts_wait hok hi ha, h⟩⟩
theorem ptF_ge {l : List CueC} {s : List Int} : ∀ m k, k < m → s[k]! + (l[k]!).1 ≤ ptF l s m
  | 0, k, h => absurd h (Nat.not_lt_zero _)
  | m + 1, k, h => by
    rw [ptF]
    rcases Nat.lt_or_ge k m with h1 | h1
    · have := ptF_ge (l := l) (s := s) m k h1; omega
    · rw [show k = m by omega]; omega
theorem ptF_at {l : List CueC} {s : List Int} : ∀ m, ptF l s m = 0 ∨ ∃ k, k < m ∧ ptF l s m = s[k]! + (l[k]!).1
  | 0 => .inl rfl
  | m + 1 => by
    rw [ptF]
    rcases ptF_at (l := l) (s := s) m with h | ⟨k, h1, h2⟩
    · rcases Int.le_total (ptF l s m) (s[m]! + (l[m]!).1) with h3 | h3
      · exact .inr ⟨m, by omega, by omega⟩
      · exact .inl (by omega)
    · rcases Int.le_total (ptF l s m) (s[m]! + (l[m]!).1) with h3 | h3
      · exact .inr ⟨m, by omega, by omega⟩
      · exact .inr ⟨k, by omega, by omega⟩
theorem play_facts {l : List CueC} (hok : cuesOk l = true) : (∀ k, k < l.length → (startsL l)[k]! + (l[k]!).1 ≤ playT l) ∧ 1 ≤ playT l ∧ ∃ k, k < l.length ∧ playT l = (startsL l)[k]! + (l[k]!).1 := by
  have hz := co_size hok
  have e : playT l = ptF l (startsL l) l.length := by unfold playT; rw [if_pos hok]
  have h1 : ∀ k, k < l.length → (startsL l)[k]! + (l[k]!).1 ≤ playT l := fun k hk => by rw [e]; exact ptF_ge l.length k hk
  have h2 := h1 0 (by omega)
  have h3 := (st_le_pl hok (k := 0) (by omega)).2
  have h4 := ticks_rng hok (i := 0) (by omega)
  refine ⟨h1, by omega, ?_⟩
  rcases ptF_at (l := l) (s := startsL l) l.length with h | ⟨k, hk, h⟩
  · omega
  · exact ⟨k, hk, by rw [e]; exact h⟩

/- latest starts -/
theorem lower_get {l : List CueC} {i : Nat} {x : List Int} {k : Int} (hk : k.toNat < x.length) (j : Nat) : (lower l i x k)[j]! = if k.toNat = j then min x[k.toNat]! (x[i]! - (l[k.toNat]!).1) else x[j]! := by
  unfold lower; exact gset _ _ _ hk j
theorem lowers_facts {l : List CueC} {i : Nat} {s : Nat → Int} : ∀ {ks : List Int} {x : List Int}, (∀ k, k ∈ ks → k.toNat < x.length ∧ k.toNat ≠ i) →
    (lowers l i x ks).length = x.length ∧ (∀ j : Nat, (lowers l i x ks)[j]! ≤ x[j]!) ∧ (∀ j : Nat, (∀ k, k ∈ ks → k.toNat ≠ j) → (lowers l i x ks)[j]! = x[j]!) ∧ (∀ k, k ∈ ks → (lowers l i x ks)[k.toNat]! ≤ x[i]! - (l[k.toNat]!).1) ∧
    ((∀ k, k ∈ ks → s k.toNat ≤ x[i]! - (l[k.toNat]!).1) → ∀ j : Nat, s j ≤ x[j]! → s j ≤ (lowers l i x ks)[j]!)
  | [], x, _ => ⟨rfl, fun _ => Int.le_refl _, fun _ _ => rfl, fun k hk => absurd hk (by simp), fun _ _ h => h⟩
  | a :: ks, x, h => by
    have ha := h a (List.mem_cons_self ..)
    have hg := fun j => lower_get (l := l) (i := i) ha.1 j
    have hlen : (lower l i x a).length = x.length := by unfold lower; rw [List.length_set]
    have hxi : (lower l i x a)[i]! = x[i]! := by rw [hg, if_neg ha.2]
    obtain ⟨b1, b2, b3, b4, b5⟩ := lowers_facts (l := l) (i := i) (s := s) (ks := ks) (x := lower l i x a) (fun k hk => by rw [hlen]; exact h k (List.mem_cons_of_mem _ hk))
    rw [hxi] at b4 b5
    refine ⟨b1.trans hlen, fun j => ?_, fun j hj => ?_, fun k hk => ?_, fun hs j hj => ?_⟩
    · have h1 := b2 j
      have h2 := hg j
      show (lowers l i (lower l i x a) ks)[j]! ≤ _
      split at h2
      · rename_i e; subst e; omega
      · omega
    · show (lowers l i (lower l i x a) ks)[j]! = _
      rw [b3 j (fun k hk => hj k (List.mem_cons_of_mem _ hk)), hg, if_neg (hj a (List.mem_cons_self ..))]
    · show (lowers l i (lower l i x a) ks)[k.toNat]! ≤ _
      rcases List.mem_cons.1 hk with rfl | hk
      · have h1 := b2 k.toNat
        rw [hg, if_pos rfl] at h1
        omega
      · exact b4 k hk
    · show s j ≤ (lowers l i (lower l i x a) ks)[j]!
      refine b5 (fun k hk => hs k (List.mem_cons_of_mem _ hk)) j ?_
      rw [hg]
      have h2 := hs a (List.mem_cons_self ..)
      split
      · rename_i e; subst e; omega
      · exact hj
theorem lts_facts {l : List CueC} (hok : cuesOk l = true) : ∀ m, m ≤ l.length → (ltS l m).length = l.length ∧ (∀ k, k < l.length → (ltS l m)[k]! + (l[k]!).1 ≤ playT l) ∧ (∀ k, k < l.length → (startsL l)[k]! ≤ (ltS l m)[k]!) ∧
    ∀ j, l.length - m ≤ j → j < l.length → ∀ a, a ∈ (l[od l j]!).2.1 → (ltS l m)[a.toNat]! + (l[a.toNat]!).1 ≤ (ltS l m)[od l j]!
  | 0, _ => by
    have e : ∀ k, k < l.length → (ltS l 0)[k]! = playT l - (l[k]!).1 := fun k hk => by simp [ltS, hk]
    refine ⟨by simp [ltS], fun k hk => by rw [e k hk]; omega, fun k hk => ?_, fun j h1 h2 => absurd h1 (by omega)⟩
    have := (play_facts hok).1 k hk
    rw [e k hk]; omega
  | m + 1, hm => by
    obtain ⟨a1, a2, a3, a4⟩ := lts_facts hok m (by omega)
    have hi : l.length - 1 - m < l.length := by omega
    have hii := (od_lt hok hi).1
    have hne : ∀ j, l.length - 1 - m ≤ j → j < l.length → ∀ k, k ∈ (l[od l (l.length - 1 - m)]!).2.1 → k.toNat ≠ od l j := fun j h1 h2 k hk he => by
      obtain ⟨q, hq, e⟩ := od_pre hok hi hk
      exact od_inj hok (i := q) (j := j) (by omega) h2 (by omega)
    obtain ⟨b1, b2, b3, b4, b5⟩ := lowers_facts (l := l) (i := od l (l.length - 1 - m)) (s := fun k => (startsL l)[k]!) (ks := (l[od l (l.length - 1 - m)]!).2.1) (x := ltS l m) (fun k hk => by
      obtain ⟨q, hq, e⟩ := od_pre hok hi hk
      have := (od_lt hok (m := q) (by omega)).1
      exact ⟨by rw [a1]; omega, hne _ (Nat.le_refl _) hi k hk⟩)
    have e : ltS l (m + 1) = lowers l (od l (l.length - 1 - m)) (ltS l m) (l[od l (l.length - 1 - m)]!).2.1 := rfl
    rw [← e] at b1 b2 b3 b4 b5
    refine ⟨b1.trans a1, fun k hk => ?_, fun k hk => ?_, fun j h1 h2 a ha => ?_⟩
    · have := a2 k hk; have := b2 k; omega
    · refine b5 (fun k hk => ?_) k (a3 k hk)
      have h1 := starts_wait hok hii hk
      have h2 := a3 _ hii
      omega
    · have hfix := b3 (od l j) (fun k hk => hne j (by omega) h2 k hk)
      rcases Nat.lt_or_ge j (l.length - m) with h | h
      · have hj : j = l.length - 1 - m := by omega
        rw [hfix]
        have := b4 a (by rw [← hj]; exact ha)
        rw [← hj] at this
        omega
      · have := a4 j h h2 a ha
        have := b2 a.toNat
        omega
theorem latest_facts {l : List CueC} (hok : cuesOk l = true) : (latestL l).length = l.length ∧ (∀ k, k < l.length → (latestL l)[k]! + (l[k]!).1 ≤ playT l) ∧ (∀ k, k < l.length → (startsL l)[k]! ≤ (latestL l)[k]!) ∧
    ∀ i, i < l.length → ∀ a, a ∈ (l[i]!).2.1 → (latestL l)[a.toNat]! + (l[a.toNat]!).1 ≤ (latestL l)[i]! := by
  obtain ⟨a1, a2, a3, a4⟩ := lts_facts hok l.length (Nat.le_refl _)
  have e : latestL l = ltS l l.length := by unfold latestL; rw [if_pos hok]
  rw [e]
  refine ⟨a1, a2, a3, fun i hi a ha => ?_⟩
  obtain ⟨m, hm, rfl⟩ := od_sur hok hi
  exact a4 m (by omega) hm a ha
theorem tight {l : List CueC} (hok : cuesOk l = true) : ∃ k, k < l.length ∧ (startsL l)[k]! = (latestL l)[k]! := by
  obtain ⟨_, _, k, hk, e⟩ := play_facts hok
  obtain ⟨_, h2, h3, _⟩ := latest_facts hok
  exact ⟨k, hk, by have := h2 k hk; have := h3 k hk; omega⟩
theorem ends {l : List CueC} (hok : cuesOk l = true) : ∃ k, k < l.length ∧ playT l ≤ (planL l)[k]! + (l[k]!).1 := by
  obtain ⟨_, _, k, hk, e⟩ := play_facts hok
  exact ⟨k, hk, by have := (st_le_pl hok hk).1; omega⟩
end Go.Proofs.Ythmemoealgieaaa
