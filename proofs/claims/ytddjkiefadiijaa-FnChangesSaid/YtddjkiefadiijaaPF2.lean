/- Plain laws over the models: the table of costs, and the best night. No program, no statement of the claim. -/
import Derived.Test.YtddjkiefadiijaaPF1
namespace Go.Proofs.Ytddjkiefadiijaa

theorem night_in {l : List PlayerC} {t : List (List Int)} (hn : nightB l t = true) : ∀ p, p ∈ t → p.length ≤ 4 := fun p hp => by
  obtain ⟨i, hi, rfl⟩ := List.getElem_of_mem hp
  have := ((nightB_iff.1 hn).2.2.2 i hi).1
  rwa [getElem!_pos t i hi] at this
theorem cst_rng {l : List PlayerC} {t : List (List Int)} (hn : nightB l t = true) (m i : Nat) : -1 ≤ cst l (t.drop m) i ∧ cst l (t.drop m) i ≤ 96 := by
  have h6 := (nightB_iff.1 hn).2.2.1
  have h1 := cst_top (l := l) (s := t.drop m) i fun p hp => night_in hn p (List.mem_of_mem_drop hp)
  have h2 : (t.drop m).length ≤ t.length := by rw [List.length_drop]; omega
  exact ⟨cst_low l _ i, by omega⟩
theorem replicate_get {n i : Nat} (h : i < n) : (List.replicate n (0 : Int))[i]! = 0 := by simp [h]
theorem row_eq {l : List PlayerC} {t : List (List Int)} {m : Nat} {x : List Int} (hl : x.length = (castL l t[m]!).length) (h : ∀ j, j < (castL l t[m]!).length → x[j]! = cst l (t.drop m) j) : x = rowT l t m :=
  list_ext! (by rw [rowT_len]; exact hl) fun i hi => by rw [rowT_get (by omega)]; exact h i (by omega)
theorem tab_eq {l : List PlayerC} {t : List (List Int)} {x : List (List Int)} (hl : x.length = t.length) (h : ∀ r, r < t.length → x[r]! = rowT l t r) : x = tabT l t :=
  lists_ext! (by rw [tabT_len]; exact hl) fun i hi => by rw [tabT_get (by omega)]; exact h i (by omega)
theorem stS_neg {l : List PlayerC} {t : List (List Int)} {m i k : Nat} (h : cst l (t.drop (m + 1)) k < 0) : stS l t m i k = -1 := by unfold stS; rw [if_pos h]
theorem stS_nn {l : List PlayerC} {t : List (List Int)} {m i k : Nat} (h : ¬ cst l (t.drop (m + 1)) k < 0) : stS l t m i k = cst l (t.drop (m + 1)) k + chN l t[m]! t[m + 1]! i k := by unfold stS; rw [if_neg h]
theorem minS_yes {f : Nat → Int} {k : Nat} (h : 0 ≤ f k) (hc : minS f k < 0 ∨ f k < minS f k) : minS f (k + 1) = f k := by rw [minS, if_pos ⟨h, hc⟩]
theorem minS_no {f : Nat → Int} {k : Nat} (hc : f k < 0 ∨ ¬ (minS f k < 0 ∨ f k < minS f k)) : minS f (k + 1) = minS f k := by
  rw [minS, if_neg (fun hx => by
    rcases hc with hc | hc
    · omega
    · exact hc hx.2)]
theorem argS_yes {f : Nat → Int} {k : Nat} (h : 0 ≤ f k) (hc : minS f k < 0 ∨ f k < minS f k) : argS f (k + 1) = k := by rw [argS, if_pos ⟨h, hc⟩]
theorem argS_no {f : Nat → Int} {k : Nat} (hc : ¬ (minS f k < 0 ∨ f k < minS f k)) : argS f (k + 1) = argS f k := by rw [argS, if_neg (fun hx => hc hx.2)]

/-- what the table of costs holds, rows behind v done -/
abbrev TabI (l : List PlayerC) (t x : List (List Int)) (v : Int) : Prop := -1 ≤ v ∧ v < t.length ∧ x.length = t.length ∧ ∀ r : Nat, v < (r : Int) → r < t.length → x[r]! = rowT l t r
abbrev RowI (l : List PlayerC) (t y : List (List Int)) (v i : Int) : Prop := 0 ≤ i ∧ i ≤ (castL l t[v.toNat]!).length ∧ y.length = t.length ∧ (∀ r : Nat, v < (r : Int) → r < t.length → y[r]! = rowT l t r) ∧ (y[v.toNat]!).length = (castL l t[v.toNat]!).length ∧ ∀ j, j < (castL l t[v.toNat]!).length → (j < i.toNat ∨ v.toNat + 1 = t.length) → (y[v.toNat]!)[j]! = cst l (t.drop v.toNat) j
theorem TabI.row {l : List PlayerC} {t x : List (List Int)} {v : Int} (h : TabI l t x v) (h0 : 0 ≤ v) : RowI l t (x.set v.toNat (List.replicate (castL l t[v.toNat]!).length (0 : Int))) v 0 := by
  obtain ⟨v0, v1, hx, hr⟩ := h
  have e : (x.set v.toNat (List.replicate (castL l t[v.toNat]!).length (0 : Int)))[v.toNat]! = List.replicate (castL l t[v.toNat]!).length (0 : Int) := by rw [gset _ _ _ (by omega), if_pos rfl]
  refine ⟨Int.le_refl _, by omega, by rw [List.length_set]; exact hx, fun r h1 h2 => ?_, by rw [e]; simp, fun j hj hc => ?_⟩
  · rw [gset _ _ _ (by omega), if_neg (by omega)]; exact hr r h1 h2
  · rw [e, replicate_get hj, cst_last (by omega)]
theorem RowI.set {l : List PlayerC} {t y : List (List Int)} {v i b : Int} (h : RowI l t y v i) (v0 : 0 ≤ v) (hi : i < (castL l t[v.toNat]!).length) (hv : v + 1 < t.length) (hb : b = cst l (t.drop v.toNat) i.toNat) : RowI l t (y.set v.toNat ((y[v.toNat]!).set i.toNat b)) v (i + 1) := by
  obtain ⟨i0, i1, hy, hr, hl, he⟩ := h
  have e : (y.set v.toNat ((y[v.toNat]!).set i.toNat b))[v.toNat]! = (y[v.toNat]!).set i.toNat b := by rw [gset _ _ _ (by omega), if_pos rfl]
  refine ⟨by omega, by omega, by rw [List.length_set]; exact hy, fun r h1 h2 => ?_, by rw [e, List.length_set]; exact hl, fun j hj hc => ?_⟩
  · rw [gset _ _ _ (by omega), if_neg (by omega)]; exact hr r h1 h2
  · rw [e, gset _ _ _ (by omega)]
    by_cases hji : i.toNat = j
    · rw [if_pos hji, hb, hji]
    · rw [if_neg hji]; exact he j hj (.inl (by omega))
theorem RowI.skip {l : List PlayerC} {t y : List (List Int)} {v i : Int} (h : RowI l t y v i) (v0 : 0 ≤ v) (hi : i < (castL l t[v.toNat]!).length) (hv : v + 1 = t.length) : RowI l t y v (i + 1) := by
  obtain ⟨i0, i1, hy, hr, hl, he⟩ := h
  exact ⟨by omega, by omega, hy, hr, hl, fun j hj hc => he j hj (.inr (by omega))⟩
theorem RowI.done {l : List PlayerC} {t y : List (List Int)} {v i : Int} (h : RowI l t y v i) (v0 : 0 ≤ v) (hv : v < t.length) (hc : ¬ i < (castL l t[v.toNat]!).length ∨ v + 1 = t.length) : TabI l t y (v - 1) := by
  obtain ⟨i0, i1, hy, hr, hl, he⟩ := h
  refine ⟨by omega, by omega, hy, fun r h1 h2 => ?_⟩
  by_cases e : v.toNat = r
  · subst e
    exact row_eq hl fun j hj => he j hj (by omega)
  · exact hr r (by omega) h2
theorem TabI.done {l : List PlayerC} {t x : List (List Int)} {v : Int} (h : TabI l t x v) (h0 : ¬ v ≥ 0) : x = tabT l t := tab_eq h.2.2.1 fun r hr => h.2.2.2 r (by omega) hr
theorem RowI.next {l : List PlayerC} {t y : List (List Int)} {v i : Int} (h : RowI l t y v i) (v0 : 0 ≤ v) (hv : v + 1 < t.length) {k : Nat} (hk : k < (castL l t[v.toNat + 1]!).length) : (y[v.toNat + 1]!)[k]! = cst l (t.drop (v.toNat + 1)) k := by
  rw [h.2.2.2.1 (v.toNat + 1) (by omega) (by omega), rowT_get hk]
theorem RowI.nextlen {l : List PlayerC} {t y : List (List Int)} {v i : Int} (h : RowI l t y v i) (v0 : 0 ≤ v) (hv : v + 1 < t.length) : (y[v.toNat + 1]!).length = (castL l t[v.toNat + 1]!).length := by
  rw [h.2.2.2.1 (v.toNat + 1) (by omega) (by omega), rowT_len]

theorem costs_ok {l : List PlayerC} {t : List (List Int)} {Q : List (List Int) → Prop} (hl : l.length ≤ 1048576) (hs : szPl l ≤ 1048576) (hn : nightB l t = true) (h : Q (tabT l t)) : m_spec_l15Costs l t Q := by
  obtain ⟨hpo, h1, h6, h4⟩ := nightB_iff.1 hn
  refine ⟨by omega, by omega, fun x v => TabI l t x v, fun x v => (v + 1).toNat, ⟨by omega, by omega, by simp, fun r hr hr2 => absurd hr (by omega)⟩, ?_⟩
  rintro x v hT
  have ⟨v0, v1, hx, hxr⟩ := hT
  refine ⟨fun hd => ⟨⟨by omega, by omega⟩, specCO_ok hl hs (by have := (h4 v.toNat (by omega)).1; omega) ?_⟩, fun hd => ?_⟩
  · have hcl := castL_len l t[v.toNat]!
    rw [show Int.toNat ((castL l t[v.toNat]!).length : Int) = (castL l t[v.toNat]!).length from rfl]
    have e1 : (v + 1).toNat = v.toNat + 1 := tn1 hd
    rw [e1]
    refine ⟨by omega, ⟨by omega, by omega⟩, fun y i => RowI l t y v i, fun y i => ((castL l t[v.toNat]!).length - i).toNat, hT.row hd, ?_⟩
    rintro y i hR
    have ⟨i0, i1, hy, hyr, hyl, hye⟩ := hR
    refine ⟨fun _ => by omega, fun hc => ⟨by omega, ⟨by omega, by omega⟩, specCO_ok hl hs (by have := (h4 (v.toNat + 1) (by omega)).1; omega) ?_⟩, fun hc => ⟨by omega, hR.done hd v1 (by omega), (by dsimp only; omega)⟩⟩
    have hcl2 := castL_len l t[v.toNat + 1]!
    have hnl := hR.nextlen hd (by omega)
    refine ⟨fun b k => 0 ≤ k ∧ k ≤ (castL l t[v.toNat + 1]!).length ∧ b = minS (stS l t v.toNat i.toNat) k.toNat, fun b k => ((castL l t[v.toNat + 1]!).length - k).toNat, ⟨by omega, by omega, rfl⟩, ?_⟩
    rintro b k ⟨k0, k1, rfl⟩
    refine ⟨fun hk => ?_, fun hk => ⟨⟨hd, by omega⟩, ⟨i0, by omega⟩, by omega, hR.set hd (by omega) (by omega) ?_, (by dsimp only; omega)⟩⟩
    · have hg := hR.next hd (by omega) (show k.toNat < (castL l t[v.toNat + 1]!).length by omega)
      have hrg := cst_rng hn (v.toNat + 1) k.toNat
      have hch := chN_le (l := l) (h4 v.toNat (by omega)).1 (h4 (v.toNat + 1) (by omega)).1 i.toNat k.toNat
      have hch0 := chN_nn l t[v.toNat]! t[v.toNat + 1]! i.toNat k.toNat
      rw [hg]
      refine ⟨by omega, ⟨by omega, by omega⟩, ⟨k0, by omega⟩, fun hneg => ⟨by omega, ⟨by omega, by omega, ?_⟩, (by dsimp only; omega)⟩, fun hnn => ⟨by omega, ⟨by omega, by omega⟩, ⟨k0, by omega⟩, ⟨hd, by omega⟩, ⟨i0, by omega⟩, by omega, ⟨by omega, by omega⟩, ⟨k0, by omega⟩, chN l t[v.toNat]! t[v.toNat + 1]! i.toNat k.toNat, specCB_ok (by have := (h4 v.toNat (by omega)).1; omega) (by have := (h4 (v.toNat + 1) (by omega)).1; omega) (chB_cast (by omega) (by omega)), by omega, fun hc => ⟨by omega, ⟨by omega, by omega, ?_⟩, (by dsimp only; omega)⟩, fun hc => ⟨by omega, ⟨by omega, by omega, ?_⟩, (by dsimp only; omega)⟩⟩⟩
      · rw [tn1 k0, minS_no (.inl (by rw [stS_neg hneg]; omega))]
      · have e := stS_nn (i := i.toNat) hnn
        rw [tn1 k0, minS_yes (by omega) (by rw [e]; exact hc), e]
      · have e := stS_nn (i := i.toNat) hnn
        rw [tn1 k0, minS_no (.inr (by rw [e]; exact hc))]
    · rw [show k.toNat = (castL l t[v.toNat + 1]!).length by omega, cst_step (by omega)]
  · show Q x
    rw [hT.done hd]; exact h

theorem map_at {l : List PlayerC} {t : List (List Int)} {i : Nat} (h : i < t.length) : (t.map (castL l))[i]! = castL l t[i]! := by simp [h]
theorem table_ok {l : List PlayerC} {t : List (List Int)} {Q : List (List (List Int)) → List (List Int) → Bool → Prop} (hl : l.length ≤ 1048576) (hs : szPl l ≤ 1048576) (hn : nightB l t = true) (hF : ¬ allNe l t → Q [] [] false) (hQ : allNe l t → Q (t.map (castL l)) (tabT l t) true) : m_impl_nightTable l t Q := by
  obtain ⟨hpo, h1, h6, h4⟩ := nightB_iff.1 hn
  refine ⟨fun x i => 0 ≤ i ∧ i ≤ t.length ∧ x = (t.take i.toNat).map (castL l) ∧ allNe l (t.take i.toNat), fun x i => (t.length - i).toNat, ⟨by omega, by omega, by simp, fun p hp => by simp at hp⟩, ?_⟩
  rintro x i ⟨i0, i1, rfl, i3⟩
  refine ⟨fun hd => ⟨⟨i0, hd⟩, implCO_ok hl hs (by have := (h4 i.toNat (by omega)).1; omega) ⟨fun hc => hF fun ha => ?_, fun hc => ⟨by rw [List.length_map, List.length_take]; omega, by omega, ⟨by omega, by omega, ?_, ?_⟩, (by dsimp only; omega)⟩⟩⟩, fun hd => ?_⟩
  · have := allNe_pos ha (show i.toNat < t.length by omega)
    omega
  · rw [tn1 i0, take_snoc! _ _ (by omega), List.map_append]; rfl
  · rw [tn1 i0, take_snoc! _ _ (by omega)]
    intro p hp
    rcases List.mem_append.1 hp with hp | hp
    · exact i3 p hp
    · rw [List.mem_singleton.1 hp]
      intro he
      rw [he] at hc; exact hc rfl
  rw [List.take_of_length_le (by omega)] at i3 ⊢
  replace hQ := hQ i3
  refine ⟨by omega, by omega, fun x v => TabI l t x v, fun x v => (v + 1).toNat, ⟨by omega, by omega, by simp, fun r hr hr2 => absurd hr (by omega)⟩, ?_⟩
  rintro x v hT
  have ⟨v0, v1, hx, hxr⟩ := hT
  refine ⟨fun hd => ?_, fun hd => ?_⟩
  · have hml : (t.map (castL l)).length = t.length := List.length_map ..
    have e1 : (v + 1).toNat = v.toNat + 1 := tn1 hd
    rw [e1, map_at (by omega)]
    have hcl := castL_len l t[v.toNat]!
    refine ⟨⟨by omega, by omega⟩, by omega, ⟨by omega, by omega⟩, ⟨by omega, by omega⟩, fun y i => RowI l t y v i, fun y i => ((castL l t[v.toNat]!).length - i).toNat, hT.row hd, ?_⟩
    rintro y i hR
    have ⟨i0, i1, hy, hyr, hyl, hye⟩ := hR
    refine ⟨fun hc => ⟨by omega, fun hlast => ⟨by omega, hR.skip hd hc hlast, (by dsimp only; omega)⟩, fun hlast => ?_⟩, fun hc => ⟨by omega, hR.done hd v1 (by omega), (by dsimp only; omega)⟩⟩
    rw [map_at (i := v.toNat + 1) (by omega)]
    have hcl2 := castL_len l t[v.toNat + 1]!
    have hnl := hR.nextlen hd (by omega)
    refine ⟨by omega, ⟨by omega, by omega⟩, fun b k => 0 ≤ k ∧ k ≤ (castL l t[v.toNat + 1]!).length ∧ b = minS (stS l t v.toNat i.toNat) k.toNat, fun b k => ((castL l t[v.toNat + 1]!).length - k).toNat, ⟨by omega, by omega, rfl⟩, ?_⟩
    rintro b k ⟨k0, k1, rfl⟩
    refine ⟨fun hk => ?_, fun hk => ⟨⟨hd, by omega⟩, ⟨i0, by omega⟩, by omega, hR.set hd (by omega) (by omega) ?_, (by dsimp only; omega)⟩⟩
    · have hg := hR.next hd (by omega) (show k.toNat < (castL l t[v.toNat + 1]!).length by omega)
      have hrg := cst_rng hn (v.toNat + 1) k.toNat
      have hge := cst_ne i3 (v.toNat + 1) k.toNat
      have hch := chN_le (l := l) (h4 v.toNat (by omega)).1 (h4 (v.toNat + 1) (by omega)).1 i.toNat k.toNat
      have hch0 := chN_nn l t[v.toNat]! t[v.toNat + 1]! i.toNat k.toNat
      have e := stS_nn (l := l) (t := t) (m := v.toNat) (i := i.toNat) (k := k.toNat) (by omega)
      rw [hg]
      refine ⟨⟨hd, by omega⟩, ⟨hd, by omega⟩, ⟨i0, by omega⟩, by omega, ⟨by omega, by omega⟩, by omega, ⟨by omega, by omega⟩, ⟨k0, by omega⟩, chN l t[v.toNat]! t[v.toNat + 1]! i.toNat k.toNat, implCH_ok (by have := (h4 v.toNat (by omega)).1; omega) (by have := (h4 (v.toNat + 1) (by omega)).1; omega) (castL_get_len (by omega)).symm (castL_get_len (by omega)).symm rfl, by omega, ⟨by omega, by omega⟩, ⟨k0, by omega⟩, by omega, fun hc => ⟨by omega, ⟨by omega, by omega, ?_⟩, (by dsimp only; omega)⟩, fun hc => ⟨by omega, ⟨by omega, by omega, ?_⟩, (by dsimp only; omega)⟩⟩
      · rw [tn1 k0, minS_yes (by omega) (by omega)]; omega
      · rw [tn1 k0, minS_no (.inr (by omega))]
    · rw [show k.toNat = (castL l t[v.toNat + 1]!).length by omega, cst_step (by omega)]
  · show Q _ x true
    rw [hT.done hd]; exact hQ
end Go.Proofs.Ytddjkiefadiijaa
