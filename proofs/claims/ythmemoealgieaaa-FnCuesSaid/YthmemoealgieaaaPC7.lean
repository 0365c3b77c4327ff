/- Plain laws over the models: simple plans, the number of orders. No program, no statement of the claim. -/
import Derived.Test.YthmemoealgieaaaPC6
namespace Go.Proofs.Ythmemoealgieaaa

/- simple plans -/
def mx (l : List CueC) (x : List Int) (v : Int) (ks : List Int) : Int := ks.foldl (fun v k => max v (x[k.toNat]! + (l[k.toNat]!).1)) v
theorem mx_le {l : List CueC} {x : List Int} : ∀ {ks : List Int} {v M : Int}, mx l x v ks ≤ M ↔ v ≤ M ∧ ∀ k, k ∈ ks → x[k.toNat]! + (l[k.toNat]!).1 ≤ M
  | [], v, M => by simp [mx]
  | a :: ks, v, M => by
    have := mx_le (l := l) (x := x) (ks := ks) (v := max v (x[a.toNat]! + (l[a.toNat]!).1)) (M := M)
    show mx l x (max v (x[a.toNat]! + (l[a.toNat]!).1)) ks ≤ M ↔ _
    rw [this]
    constructor
    · rintro ⟨h1, h2⟩
      refine ⟨by omega, fun k hk => ?_⟩
      rcases List.mem_cons.1 hk with rfl | hk
      · omega
      · exact h2 k hk
    · rintro ⟨h1, h2⟩
      have := h2 a (List.mem_cons_self ..)
      exact ⟨by omega, fun k hk => h2 k (List.mem_cons_of_mem _ hk)⟩
theorem mx_congr {l : List CueC} {x : List Int} {ks ks' : List Int} {v v' : Int} (h : ∀ M, (v ≤ M ∧ ∀ k, k ∈ ks → x[k.toNat]! + (l[k.toNat]!).1 ≤ M) ↔ (v' ≤ M ∧ ∀ k, k ∈ ks' → x[k.toNat]! + (l[k.toNat]!).1 ≤ M)) : mx l x v ks = mx l x v' ks' := by
  apply Int.le_antisymm
  · rw [mx_le, h]; exact mx_le.1 (Int.le_refl _)
  · rw [mx_le, ← h]; exact mx_le.1 (Int.le_refl _)
theorem mx_x {l : List CueC} {x y : List Int} {v : Int} : ∀ {ks : List Int}, (∀ k, k ∈ ks → x[k.toNat]! = y[k.toNat]!) → ∀ {v : Int}, mx l x v ks = mx l y v ks
  | [], _, v => rfl
  | a :: ks, h, v => by
    show mx l x (max v (x[a.toNat]! + (l[a.toNat]!).1)) ks = mx l y (max v (y[a.toNat]! + (l[a.toNat]!).1)) ks
    rw [h a (List.mem_cons_self ..)]
    exact mx_x (v := v) (fun k hk => h k (List.mem_cons_of_mem _ hk))
theorem raises_eq {l : List CueC} {i : Nat} : ∀ {ks : List Int} {x : List Int}, i < x.length → (∀ k, k ∈ ks → k.toNat ≠ i) → raises l i x ks = x.set i (mx l x x[i]! ks)
  | [], x, hi, _ => by
    show x = x.set i x[i]!
    apply List.ext_getElem (by simp)
    intro j h1 h2
    by_cases hj : i = j
    · subst hj; simp [hi]
    · simp [List.getElem_set, hj]
  | a :: ks, x, hi, h => by
    have ha := h a (List.mem_cons_self ..)
    have hks := fun k hk => h k (List.mem_cons_of_mem _ hk)
    show raises l i (raise l i x a) ks = _
    have hi2 : i < (raise l i x a).length := by unfold raise; rwa [List.length_set]
    rw [raises_eq hi2 hks]
    have e1 : (raise l i x a)[i]! = max x[i]! (x[a.toNat]! + (l[a.toNat]!).1) := by unfold raise; exact set_get hi
    have e2 : ∀ k, k ∈ ks → (raise l i x a)[k.toNat]! = x[k.toNat]! := fun k hk => by
      unfold raise; rw [gset _ _ _ hi, if_neg (fun e => hks k hk e.symm)]
    rw [e1, mx_x (v := 0) e2]
    unfold raise
    rw [List.set_set]; rfl
theorem raises_app {l : List CueC} {i : Nat} {x ks ks' : List Int} : raises l i x (ks ++ ks') = raises l i (raises l i x ks) ks' := by
  unfold raises; rw [List.foldl_append]
theorem raises_bd' {l : List CueC} (hok : cuesOk l = true) {i : Nat} {m M : Int} {x ks : List Int} (h : Bd l.length m M x) (hi : i < l.length) (hk : ∀ k, k ∈ ks → 0 ≤ k ∧ k < (l.length : Int)) : Bd l.length m (M + 50 * (ks.length : Int)) (raises l i x ks) := by
  have := raises_bd hok h hi (fun j hj => hk _ (mem_get.2 ⟨j, hj, rfl⟩)) ks.length (Nat.le_refl _)
  rwa [List.take_length] at this
def spC (l : List CueC) (i : Nat) (k : Int) : Bool := decide (k ∈ (l[i]!).2.1) || comB l[i]! l[k.toNat]!
/-- the simple plan behind the first m cues of the order -/
def spS (l : List CueC) : Nat → List Int
  | 0 => List.replicate l.length 0
  | m + 1 => raises l ((ordL l)[m]!).toNat (spS l m) (((ordL l).take m).filter (spC l ((ordL l)[m]!).toNat))
theorem ord_mem {l : List CueC} (hok : cuesOk l = true) {m : Nat} {k : Int} (h : k ∈ (ordL l).take m) : 0 ≤ k ∧ k < (l.length : Int) := by
  obtain ⟨d, ho⟩ := ordL_ord hok
  exact ho.rng _ (List.mem_of_mem_take h)
theorem spS_bd {l : List CueC} (hok : cuesOk l = true) : ∀ m, m ≤ l.length → Bd l.length 0 (600 * (m : Int)) (spS l m)
  | 0, _ => ⟨by simp [spS], fun r hr => by simp [spS, hr]⟩
  | m + 1, h => by
    have h1 := spS_bd hok m (by omega)
    have h2 := ord_get hok (m := m) (by omega)
    have hi : ((ordL l)[m]!).toNat < l.length := by omega
    have h3 := raises_bd' hok h1 hi (ks := ((ordL l).take m).filter (spC l ((ordL l)[m]!).toNat)) (fun k hk => ord_mem hok (List.mem_filter.1 hk).1)
    have h4 := List.length_filter_le (spC l ((ordL l)[m]!).toNat) ((ordL l).take m)
    rw [List.length_take] at h4
    have := co_size hok
    exact h3.wide (by omega) (by omega)
def planL (l : List CueC) : List Int := if cuesOk l = true then spS l l.length else []
theorem planL_len {l : List CueC} : (planL l).length ≤ 12 := by
  unfold planL
  split
  · rename_i hok
    have := (spS_bd hok l.length (Nat.le_refl _)).len
    have := co_size hok
    omega
  · simp
theorem filter_step {o : List Int} {p : Int → Bool} {j : Nat} (hj : j < o.length) : (o.take (j + 1)).filter p = (o.take j).filter p ++ (if p o[j]! = true then [o[j]!] else []) := by
  rw [take_snoc! o j hj, List.filter_append]
  congr 1
  by_cases h : p o[j]! = true
  · rw [if_pos h, List.filter_cons, if_pos h, List.filter_nil]
  · rw [if_neg h, List.filter_cons, if_neg h, List.filter_nil]
theorem sp_two {l : List CueC} (hok : cuesOk l = true) {m : Nat} (hm : m < l.length) {x : List Int} (hx : x.length = l.length) :
    raises l ((ordL l)[m]!).toNat (raises l ((ordL l)[m]!).toNat x (l[((ordL l)[m]!).toNat]!).2.1) (((ordL l).take m).filter fun k => comB l[((ordL l)[m]!).toNat]! l[k.toNat]!) = raises l ((ordL l)[m]!).toNat x (((ordL l).take m).filter (spC l ((ordL l)[m]!).toNat)) := by
  obtain ⟨d, ho⟩ := ordL_ord hok
  have hol := ordL_len hok
  have h2 := ord_get hok hm
  have hi : ((ordL l)[m]!).toNat < l.length := by omega
  have har := after_rng hok hi
  have hA : ∀ k, k ∈ (l[((ordL l)[m]!).toNat]!).2.1 → k ∈ (ordL l).take m := fun k hk => by
    obtain ⟨j, hj, e⟩ := mem_get.1 hk
    have := har j hj
    obtain ⟨j', hj', e'⟩ := ho.pre m (by omega) k.toNat ((wt0_iff hok hi).2 ⟨j, hj, by omega⟩)
    refine mem_get.2 ⟨j', by rw [List.length_take]; omega, ?_⟩
    have : ((ordL l).take m)[j']! = (ordL l)[j']! := by simp [List.getElem!_eq_getElem?_getD, List.getElem?_take, hj']
    rw [this, e']; omega
  have hP : ∀ k, k ∈ (ordL l).take m → k.toNat ≠ ((ordL l)[m]!).toNat := fun k hk => by
    have hr := ord_mem hok hk
    obtain ⟨j, hj, e⟩ := mem_get.1 hk
    rw [List.length_take] at hj
    have e2 : ((ordL l).take m)[j]! = (ordL l)[j]! := by simp [List.getElem!_eq_getElem?_getD, List.getElem?_take, show j < m by omega]
    rw [e2] at e
    have := ho.nodup j m (by omega) (by omega)
    omega
  rw [← raises_app, raises_eq (by omega) (fun k hk => by
    rcases List.mem_append.1 hk with hk | hk
    · exact hP k (hA k hk)
    · exact hP k (List.mem_filter.1 hk).1), raises_eq (by omega) (fun k hk => hP k (List.mem_filter.1 hk).1)]
  congr 1
  refine mx_congr fun M => and_congr Iff.rfl ⟨fun h k hk => ?_, fun h k hk => ?_⟩
  · obtain ⟨h1, h2⟩ := List.mem_filter.1 hk
    unfold spC at h2
    rw [Bool.or_eq_true, decide_eq_true_eq] at h2
    rcases h2 with h2 | h2
    · exact h k (List.mem_append.2 (.inl h2))
    · exact h k (List.mem_append.2 (.inr (List.mem_filter.2 ⟨h1, h2⟩)))
  · rcases List.mem_append.1 hk with hk | hk
    · exact h k (List.mem_filter.2 ⟨hA k hk, by unfold spC; rw [Bool.or_eq_true]; exact .inl (decide_eq_true hk)⟩)
    · obtain ⟨h1, h2⟩ := List.mem_filter.1 hk
      exact h k (List.mem_filter.2 ⟨h1, by unfold spC; rw [Bool.or_eq_true]; exact .inr h2⟩)
end Go.Proofs.Ythmemoealgieaaa
