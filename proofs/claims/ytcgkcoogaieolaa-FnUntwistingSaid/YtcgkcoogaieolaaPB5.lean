/- Plain laws over the models: the program's own test of an order, its sorting, and what is asked of twists. No program, no statement of the claim. -/
import Derived.Test.YtcgkcoogaieolaaPB4
namespace Go.Proofs.Ytcgkcoogaieolaa

/- a number put into an ascending list -/
def ins (a : Int) : List Int → List Int
  | [] => [a]
  | b :: l => if a ≤ b then a :: b :: l else b :: ins a l
theorem ins_len (a : Int) : ∀ l, (ins a l).length = l.length + 1
  | [] => rfl
  | b :: l => by
    unfold ins
    by_cases h : a ≤ b
    · rw [if_pos h]; rfl
    · rw [if_neg h]; simp [ins_len a l]
theorem ins_perm (a : Int) : ∀ l, (ins a l).Perm (a :: l)
  | [] => List.Perm.refl _
  | b :: l => by
    unfold ins
    by_cases h : a ≤ b
    · rw [if_pos h]
    · rw [if_neg h]; exact ((ins_perm a l).cons b).trans (List.Perm.swap a b l)
theorem ins_sorted (a : Int) : ∀ l : List Int, l.Pairwise (· ≤ ·) → (ins a l).Pairwise (· ≤ ·)
  | [], _ => by simp [ins]
  | b :: l, h => by
    unfold ins
    rw [List.pairwise_cons] at h
    by_cases hab : a ≤ b
    · rw [if_pos hab, List.pairwise_cons, List.pairwise_cons]
      refine ⟨fun c hc => ?_, h.1, h.2⟩
      rcases List.mem_cons.1 hc with rfl | hc
      · exact hab
      · have := h.1 c hc; omega
    · rw [if_neg hab, List.pairwise_cons]
      refine ⟨fun c hc => ?_, ins_sorted a l h.2⟩
      rcases List.mem_cons.1 ((ins_perm a l).mem_iff.1 hc) with rfl | hc
      · omega
      · exact h.1 c hc
theorem put_ok {l : List Int} {a : Int} {Q : List Int → Prop} (hl : l.length ≤ 1000000) (h : Q (ins a l)) : m_impl_put l a Q := by
  refine ⟨fun x d i => 0 ≤ i ∧ i ≤ l.length ∧ x ++ (if d = true then l.drop i.toNat else ins a (l.drop i.toNat)) = ins a l, fun x d i => (l.length - i).toNat, ⟨by omega, by omega, by simp⟩, ?_⟩
  rintro x d i ⟨g0, g1, g2⟩
  have hx : x.length ≤ l.length + 1 := by have := congrArg List.length g2; rw [List.length_append, ins_len] at this; omega
  refine ⟨fun hb => ⟨⟨g0, hb⟩, fun hc => ?_, fun hc => ?_⟩, fun hb => ?_⟩
  · have hd : d = false := by cases d <;> simp_all
    subst hd
    refine ⟨by omega, by simp; omega, by omega, ⟨by omega, by omega, ?_⟩, (by dsimp only; omega)⟩
    rw [← g2, tn1 g0, drop_cons! l i.toNat (by omega), if_pos rfl, if_neg (by simp), ins, if_pos hc.2]; simp
  · refine ⟨by omega, by omega, ⟨by omega, by omega, ?_⟩, (by dsimp only; omega)⟩
    rw [← g2, tn1 g0, drop_cons! l i.toNat (by omega)]
    cases d with
    | true => simp
    | false =>
      have : ¬ a ≤ l[i.toNat]! := fun h => hc ⟨by simp, h⟩
      rw [if_neg (by simp), if_neg (by simp), ins, if_neg this]; simp
  · have e : l.drop i.toNat = [] := List.drop_eq_nil_of_le (by omega)
    rw [e] at g2
    refine ⟨fun hd => ⟨by omega, ?_⟩, fun hd => ?_⟩
    · rw [if_neg hd] at g2; rw [show x ++ [a] = ins a l from g2]; exact h
    · rw [if_pos (Classical.not_not.1 hd), List.append_nil] at g2; rw [g2]; exact h
def srt (l : List Int) : List Int := l.foldl (fun acc a => ins a acc) []
theorem srt_step (l : List Int) (i : Nat) (h : i < l.length) : srt (l.take (i + 1)) = ins l[i]! (srt (l.take i)) := by
  unfold srt; rw [take_snoc! l i h, List.foldl_append]; rfl
theorem srt_fold : ∀ (l acc : List Int), acc.Pairwise (· ≤ ·) → (l.foldl (fun acc a => ins a acc) acc).Pairwise (· ≤ ·) ∧ (l.foldl (fun acc a => ins a acc) acc).Perm (l ++ acc)
  | [], acc, h => ⟨h, List.Perm.refl _⟩
  | a :: l, acc, h => by
    have h1 := srt_fold l (ins a acc) (ins_sorted a acc h)
    refine ⟨h1.1, h1.2.trans ?_⟩
    exact (List.Perm.append_left l (ins_perm a acc)).trans List.perm_middle
theorem srt_spec (l : List Int) : (srt l).Pairwise (· ≤ ·) ∧ (srt l).Perm l := by
  have := srt_fold l [] List.Pairwise.nil
  rw [List.append_nil] at this; exact this
theorem sorted_ok {l : List Int} {Q : List Int → Prop} (hl : l.length ≤ 1000) (h : Q (srt l)) : m_impl_sorted l Q := by
  refine ⟨fun x i => 0 ≤ i ∧ i ≤ l.length ∧ x = srt (l.take i.toNat), fun x i => (l.length - i).toNat, ⟨by omega, by omega, rfl⟩, ?_⟩
  rintro x i ⟨g0, g1, rfl⟩
  refine ⟨fun hb => ⟨⟨g0, hb⟩, put_ok ?_ ⟨by omega, ⟨by omega, by omega, ?_⟩, (by dsimp only; omega)⟩⟩, fun hb => ?_⟩
  · have := (srt_spec (l.take i.toNat)).2.length_eq
    rw [this, List.length_take]; omega
  · rw [tn1 g0, srt_step l _ (by omega)]
  · show Q (srt (l.take i.toNat))
    rw [List.take_of_length_le (by omega)]; exact h
theorem allWithin_yes {l : List Int} {a b : Int} {Q : Bool → Prop} (hl : l.length ≤ 1000) (hr : ∀ i, i < l.length → a ≤ l[i]! ∧ l[i]! ≤ b) (h : Q true) : m_impl_allWithin l a b Q := by
  refine ⟨fun i => 0 ≤ i ∧ i ≤ l.length, fun i => (l.length - i).toNat, ⟨by omega, by omega⟩, ?_⟩
  rintro i ⟨g0, g1⟩
  refine ⟨fun hb => ⟨⟨g0, hb⟩, within_ok ⟨fun hx => absurd (decide_eq_true (hr i.toNat (by omega))) hx, fun _ => ⟨by omega, ⟨by omega, by omega⟩, (by dsimp only; omega)⟩⟩⟩, fun _ => h⟩
theorem isStrict_yes {l : List Int} {a b : Int} {Q : Bool → Prop} (hl : l.length ≤ 1000) (hs : ∀ i, i + 1 < l.length → l[i]! < l[i + 1]!) (hr : ∀ i, i < l.length → a ≤ l[i]! ∧ l[i]! ≤ b) (h : Q true) : m_impl_isStrict l a b Q := by
  refine ⟨fun i => 0 ≤ i ∧ i ≤ l.length, fun i => (l.length - i).toNat, ⟨by omega, by omega⟩, ?_⟩
  rintro i ⟨g0, g1⟩
  refine ⟨fun hb => ⟨fun _ => ⟨g0, hb⟩, fun _ => by omega, fun _ => ⟨by omega, by omega⟩, fun hc => ?_, fun _ => ⟨by omega, ⟨by omega, by omega⟩, (by dsimp only; omega)⟩⟩, fun _ => allWithin_yes hl hr h⟩
  have := hs (i - 1).toNat (by omega)
  have e : (i - 1).toNat + 1 = i.toNat := by omega
  rw [e] at this
  omega
theorem Pm.nodup {n : Nat} {o : List Int} (h : Pm n o) : o.Pairwise (· ≠ ·) := by
  rw [List.pairwise_iff_getElem]
  intro i j hi hj hij e
  have hl := h.len
  have := h.inj i j (by omega) (by omega) (by simp [hi, hj, e])
  omega
theorem implOO_ok {n : Nat} {o : List Int} {Q : Bool → Prop} (hp : Pm n o) (h1 : 1 ≤ n) (h7 : n ≤ 7) (h : Q true) : m_impl_OrderOk o Q := by
  have hl := hp.len
  have hs := srt_spec o
  have hsl := hs.2.length_eq
  have hlt : (srt o).Pairwise (· < ·) := by
    have h2 : (srt o).Pairwise (· ≠ ·) := (hs.2.pairwise_iff (fun h => Ne.symm h)).2 hp.nodup
    exact (hs.1.and h2).imp fun ⟨a, b⟩ => by omega
  have hlt2 := List.pairwise_iff_getElem.1 hlt
  refine within_ok ⟨fun _ => sorted_ok (by omega) ⟨by omega, isStrict_yes (by omega) (fun i hi => ?_) (fun i hi => ?_) h⟩, fun hx => absurd (decide_eq_true (by omega)) hx⟩
  · have := hlt2 i (i + 1) (by omega) hi (by omega)
    simpa [show i < (srt o).length by omega, hi] using this
  · have hm : (srt o)[i]! ∈ o := hs.2.mem_iff.1 (by simp [hi])
    obtain ⟨j, hj, e⟩ := List.getElem_of_mem hm
    have := hp.rng j (by omega)
    have e2 : o[j]! = o[j] := by simp [hj]
    rw [e2, e] at this
    omega
theorem copyOf_ok {l : List Int} {Q : List Int → Prop} (hl : l.length ≤ 1000000) (h : Q l) : m_impl_copyOf l Q := ⟨by omega, h⟩
theorem implSS_ok {n : Nat} {o : List Int} {Q : List Int → Prop} (hp : Pm n o) (h1 : 1 ≤ n) (h7 : n ≤ 7) (h : Q (ss o)) : m_impl_SortingSwaps o Q := by
  have hl := hp.len
  have hb0 := inv_bd o o.length (by omega)
  refine implOO_ok hp h1 h7 ⟨fun hx => absurd rfl hx, fun _ => copyOf_ok (by omega) ⟨fun own out ag => Pm n own ∧ (out.length : Int) + inv own = inv o ∧ out ++ ss own = ss o ∧ (ag = false → inv own = 0), fun own out ag => 2 * (inv own).toNat + (if ag = true then 1 else 0), ⟨hp, by simp, rfl, by simp⟩, ?_⟩⟩
  rintro own out ag ⟨g1, g2, g3, g4⟩
  have gl := g1.len
  have hbn := inv_bd own own.length (by omega)
  have hbi : 0 ≤ inv own := hbn.1
  have hbo : inv o ≤ 49 := hb0.2
  refine ⟨fun ha => ?_, fun ha => ?_⟩
  · subst ha
    refine ⟨fun w ou a k => 0 ≤ k ∧ ((a = false ∧ w = own ∧ ou = out ∧ k ≤ n - 1 ∧ ∀ i, i < k.toNat → ¬ own[i]! > own[i + 1]!) ∨ (a = true ∧ Pm n w ∧ (ou.length : Int) + inv w = inv o ∧ ou ++ ss w = ss o ∧ inv w + 1 = inv own ∧ k ≤ 100)), fun w ou a k => (200 - k).toNat, ⟨by omega, .inl ⟨rfl, rfl, rfl, by omega, fun i hi => by omega⟩⟩, ?_⟩
    rintro w ou a k ⟨k0, hk⟩
    rcases hk with ⟨rfl, rfl, rfl, hk1, hk2⟩ | ⟨rfl, w1, w2, w3, w4, w5⟩
    · refine ⟨by omega, fun hc => ⟨⟨by omega, by omega⟩, by omega, ⟨by omega, by omega⟩, fun hd => ?_, fun hd => ?_⟩, fun hc => ?_⟩
      · rw [tn1 k0] at hd
        have hpos : 0 < inv w := by
          have e := inv_sw g1 k0 (by omega) hd
          have := inv_bd (sw w k) (sw w k).length (by rw [sw_len]; omega)
          have : 0 ≤ inv (sw w k) := this.1
          omega
        obtain ⟨s1, s2, s3⟩ := ss_pos g1 hpos
        have hfd : (fd w : Int) = k := by
          obtain ⟨d1, d2, d3⟩ := fd_spec g1 hpos
          by_cases h5 : fd w < k.toNat
          · exact absurd d2 (hk2 _ h5)
          · by_cases h6 : k.toNat < fd w
            · have := d3 _ h6; omega
            · omega
        rw [hfd] at s1 s2 s3
        refine ⟨by omega, by omega, ⟨by omega, by omega⟩, ⟨by omega, by omega⟩, ⟨by omega, by omega⟩, ⟨by omega, by simp; omega⟩, by omega, by omega, ⟨by omega, .inr ⟨rfl, s2, ?_, ?_, s3, by omega⟩⟩, (by dsimp only; omega)⟩
        · show ((ou ++ [k]).length : Int) + inv (sw w k) = inv o
          simp; omega
        · show (ou ++ [k]) ++ ss (sw w k) = ss o
          rw [← g3, s1]; simp
      · rw [tn1 k0] at hd
        refine ⟨by omega, ⟨by omega, .inl ⟨rfl, rfl, rfl, by omega, fun i hi => ?_⟩⟩, (by dsimp only; omega)⟩
        by_cases hi2 : i < k.toNat
        · exact hk2 i hi2
        · have : i = k.toNat := by omega
          subst this; exact hd
      · have hz : inv w = 0 := inv_asc fun i hi => hk2 i (by
          have : ¬ (k + 1 < (w.length : Int)) := fun h => hc ⟨h, by simp⟩
          omega)
        refine ⟨⟨g1, g2, g3, fun _ => hz⟩, ?_⟩
        dsimp only; simp
    · refine ⟨by omega, fun hc => absurd rfl hc.2, fun _ => ⟨⟨w1, w2, w3, by simp⟩, ?_⟩⟩
      dsimp only
      have : 0 ≤ inv w := (inv_bd w w.length (by have := w1.len; omega)).1
      simp; omega
  · have hz := g4 (by cases ag <;> simp_all)
    rw [ss_zero hz, List.append_nil] at g3
    show Q out
    rw [g3]; exact h

/- bringing home -/
def homeW (n : Int) (l : List Cross) : List Cross := if crossesOk n l = true then (ss (ord n l)).map (fun k => (k, true)) else []
theorem ss_len {n : Nat} {o : List Int} (h7 : n ≤ 7) : ∀ m (o : List Int), Pm n o → (inv o).toNat = m → (ss o).length = m
  | 0, o, hp, h => by
    have hl := hp.len
    have : 0 ≤ inv o := (inv_bd o o.length (by omega)).1
    rw [ss_zero (by omega)]; rfl
  | m + 1, o, hp, h => by
    obtain ⟨s1, s2, s3⟩ := ss_pos hp (by omega)
    rw [s1, List.length_cons, ss_len (o := o) h7 m _ s2 (by omega)]
theorem ord_pm' {n : Int} {l : List Cross} (hc : crossesOk n l = true) : Pm n.toNat (ord n l) := by
  have := ord_pm hc l.length (Nat.le_refl _)
  rwa [List.take_length] at this
theorem ssb {n : Int} {l : List Cross} (hc : crossesOk n l = true) : (ss (ord n l)).length ≤ 49 := by
  obtain ⟨h1, h2, _⟩ := co_yes hc
  have hp := ord_pm' hc
  have hl := hp.len
  rw [ss_len (o := []) (n := n.toNat) (by omega) _ _ hp rfl]
  have := inv_bd (ord n l) (ord n l).length (by omega)
  have : inv (ord n l) ≤ 49 := this.2
  omega
theorem map_step {α β : Type} [Inhabited α] (f : α → β) (s : List α) (i : Nat) (h : i < s.length) : (s.take (i + 1)).map f = (s.take i).map f ++ [f s[i]!] := by
  rw [take_snoc! s i h, List.map_append]; rfl
theorem implBH_ok {n : Int} {l : List Cross} {Q : List Cross → Bool → Prop} (h : Q (homeW n l) (crossesOk n l)) : m_impl_BringHome n l Q := by
  refine implCO_ok ⟨fun hc => ?_, fun hc => ?_⟩
  · have e : crossesOk n l = false := by cases hx : crossesOk n l <;> simp_all
    unfold homeW at h; rw [if_neg hc, e] at h; exact h
  · have hc := Classical.not_not.1 hc
    obtain ⟨h1, h2, _⟩ := co_yes hc
    unfold homeW at h; rw [if_pos hc, hc] at h
    refine implOA_ok ?_
    unfold ordA; rw [if_pos hc]
    have hb := ssb hc
    refine implSS_ok (ord_pm' hc) (by omega) (by omega) ⟨fun x i => 0 ≤ i ∧ i ≤ (ss (ord n l)).length ∧ x = ((ss (ord n l)).take i.toNat).map (fun k => (k, true)), fun x i => ((ss (ord n l)).length - i).toNat, ⟨by omega, by omega, rfl⟩, ?_⟩
    rintro x i ⟨g0, g1, rfl⟩
    refine ⟨fun hb2 => ⟨⟨g0, hb2⟩, by simp; omega, by omega, ⟨by omega, by omega, ?_⟩, (by dsimp only; omega)⟩, fun hb2 => ?_⟩
    · rw [tn1 g0, map_step _ _ _ (by omega)]
    · show Q (((ss (ord n l)).take i.toNat).map (fun k => (k, true))) true
      rw [List.take_of_length_le (by omega)]; exact h
theorem specBH_ok {n : Int} {l : List Cross} {Q : List Cross → Bool → Prop} (h : Q (homeW n l) (crossesOk n l)) : m_spec_BringHome n l Q := by
  refine specCO_ok ⟨fun hc => ?_, fun hc => ?_⟩
  · have e : crossesOk n l = false := by cases hx : crossesOk n l <;> simp_all
    unfold homeW at h; rw [if_neg hc, e] at h; exact h
  · have hc := Classical.not_not.1 hc
    obtain ⟨h1, h2, _⟩ := co_yes hc
    unfold homeW at h; rw [if_pos hc, hc] at h
    refine specOA_ok ?_
    unfold ordA; rw [if_pos hc]
    have hb := ssb hc
    refine specSS_ok (ord_pm' hc) (by omega) (by omega) ⟨fun x i => 0 ≤ i ∧ i ≤ (ss (ord n l)).length ∧ x = ((ss (ord n l)).take i.toNat).map (fun k => (k, true)), fun x i => ((ss (ord n l)).length - i).toNat, ⟨by omega, by omega, rfl⟩, ?_⟩
    rintro x i ⟨g0, g1, rfl⟩
    refine ⟨fun hb2 => ⟨⟨g0, hb2⟩, by simp; omega, by omega, ⟨by omega, by omega, ?_⟩, (by dsimp only; omega)⟩, fun hb2 => ?_⟩
    · rw [tn1 g0, map_step _ _ _ (by omega)]
    · show Q (((ss (ord n l)).take i.toNat).map (fun k => (k, true))) true
      rw [List.take_of_length_le (by omega)]; exact h
theorem homeW_len (n : Int) (l : List Cross) : (homeW n l).length ≤ 49 := by
  unfold homeW
  by_cases hc : crossesOk n l = true
  · rw [if_pos hc, List.length_map]; exact ssb hc
  · rw [if_neg hc]; simp
end Go.Proofs.Ytcgkcoogaieolaa
