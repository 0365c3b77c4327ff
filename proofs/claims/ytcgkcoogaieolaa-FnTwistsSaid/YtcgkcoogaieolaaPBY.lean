/- The plain law of twists. No program. -/
import Derived.Test.YtcgkcoogaieolaaPBX
namespace Go.Proofs.Ytcgkcoogaieolaa
def Su (n : Nat) (o : List Int) : Prop := ∀ x : Nat, x < n → ∃ i, i < n ∧ o[i]! = (x : Int)
theorem upL_su (n : Nat) : Su n (upL (n : Int)) := fun x hx => ⟨x, hx, by rw [upL_get _ _ (by omega)]⟩
theorem fo_su {n : Nat} : ∀ {l : List Cross} {o : List Int}, Pm n o → Su n o → inC n l → Su n (fo o l)
  | [], o, _, h, _ => h
  | c :: l, o, hp, h, hin => by
    have hc := hin c (by simp)
    refine fo_su (l := l) (o := sw o c.1) (hp.sw hc.1 hc.2) (fun x hx => ?_) (fun d hd => hin d (List.mem_cons_of_mem _ hd))
    obtain ⟨i, hi, e⟩ := h x hx
    refine ⟨tau c.1.toNat i, tau_lt (by omega) hi, ?_⟩
    rw [sw_get hc.1 (by rw [hp.len]; exact hc.2), tau_tau]; exact e
theorem place_ok {n : Nat} {o : List Int} {x : Nat} {Q : Int → Prop} (hp : Pm n o) (hs : Su n o) (h1 : 1 ≤ n) (h7 : n ≤ 7) (hx : x < n) (h : ∀ i : Nat, i < n → o[i]! = (x : Int) → Q (i : Int)) : m_spec_PlaceOf o (x : Int) Q := by
  have hl := hp.len
  refine ⟨fun v => 0 ≤ v ∧ v ≤ n ∧ ∀ j, j < v.toNat → o[j]! ≠ (x : Int), fun v => (n - v).toNat, ⟨by omega, by omega, fun j hj => absurd hj (by omega)⟩, ?_⟩
  rintro v ⟨v0, v1, v2⟩
  refine ⟨true, fun _ => specOO_ok hp h1 h7 rfl, fun hc => ⟨⟨v0, hc.1⟩, fun he => ?_, fun he => ⟨by omega, ⟨by omega, by omega, fun j hj => ?_⟩, (by dsimp only; omega)⟩⟩, fun hc => ?_⟩
  · have := h v.toNat (by omega) he
    rwa [show ((v.toNat : Nat) : Int) = v by omega] at this
  · rcases Nat.lt_or_ge j v.toNat with hj2 | hj2
    · exact v2 j hj2
    · rw [show j = v.toNat by omega]; exact he
  · obtain ⟨i, hi, e⟩ := hs x hx
    exact absurd e (v2 i (by
      have : ¬ v < (o.length : Int) := fun hv => hc ⟨hv, rfl⟩
      omega))
theorem bef_place {n : Nat} {o : List Int} {a b i j : Nat} (hp : Pm n o) (hi : i < n) (hj : j < n) (ea : o[i]! = (a : Int)) (eb : o[j]! = (b : Int)) : bef n o a b ↔ i < j := by
  constructor
  · rintro ⟨p, q, hpq, hq, e1, e2⟩
    have h1 := hp.inj i p hi (by omega) (by rw [ea, e1])
    have h2 := hp.inj j q hj hq (by rw [eb, e2])
    omega
  · intro h; exact ⟨i, j, h, hj, ea, eb⟩
theorem undo_ok {l : List Cross} {Q : List Cross → Prop} (hl : l.length ≤ 1000) (h : Q (undo l)) : m_spec_UndoCrosses l Q := by
  refine ⟨by omega, fun x v => -1 ≤ v ∧ v < l.length ∧ x = ((l.drop (v + 1).toNat).map fun c => ((c.1, !c.2) : Cross)).reverse, fun x v => (v + 1).toNat, ⟨by omega, by omega, by rw [List.drop_of_length_le (by omega)]; rfl⟩, ?_⟩
  rintro x v ⟨v0, v1, rfl⟩
  refine ⟨fun hv => ⟨⟨hv, by omega⟩, ⟨hv, by omega⟩, by simp; omega, by omega, ⟨by omega, by omega, ?_⟩, (by dsimp only; omega)⟩, fun hv => ?_⟩
  · rw [show (v - 1 + 1).toNat = v.toNat by omega, drop_cons! l v.toNat (by omega), show (v + 1).toNat = v.toNat + 1 by omega]
    simp
  · rw [show (v + 1).toNat = 0 by omega, List.drop_zero]; exact h
theorem red_ok {n : Nat} {l : List Cross} {Q : List Cross → Prop} (hc : crossesOk (n : Int) l = true) (h : Q (redS l l.length)) : m_spec_Reduced (n : Int) l Q := by
  have hl := (co_yes hc).2.2.1
  have hrl : ∀ k, (redS l k).length ≤ k := by
    intro k
    induction k with
    | zero => exact Nat.le_refl _
    | succ k ih =>
      rw [redS]
      split
      · rw [List.length_take]; omega
      · rw [List.length_append, List.length_singleton]; omega
  refine ⟨fun x v => 0 ≤ v ∧ v ≤ l.length ∧ x = redS l v.toNat, fun x v => (l.length - v).toNat, ⟨by omega, by omega, rfl⟩, ?_⟩
  rintro x v ⟨v0, v1, rfl⟩
  have hr := hrl v.toNat
  have e1 : (((redS l v.toNat).length : Int) - 1).toNat = (redS l v.toNat).length - 1 := by omega
  rw [e1]
  refine ⟨true, fun _ => specCO_ok hc, fun hv => ⟨fun _ => by omega, fun _ => ⟨by omega, by omega⟩, fun _ => ⟨v0, hv.1⟩, fun _ => by omega, fun _ => ⟨by omega, by omega⟩, fun _ => ⟨v0, hv.1⟩, fun hx => ⟨by omega, ⟨by omega, by omega⟩, by omega, ⟨by omega, by omega, ?_⟩, (by dsimp only; omega)⟩, fun hx => ⟨⟨v0, hv.1⟩, by omega, by omega, ⟨by omega, by omega, ?_⟩, (by dsimp only; omega)⟩⟩, fun hv => ?_⟩
  · rw [tn1 v0, redS, if_pos ⟨⟨by omega, hx.1.2⟩, hx.2⟩]
  · rw [tn1 v0, redS, if_neg (fun hy => hx ⟨⟨by omega, hy.1.2⟩, hy.2⟩)]
  · show Q _
    have : ¬ v < (l.length : Int) := fun hx => hv ⟨hx, rfl⟩
    rw [show v.toNat = l.length by omega]; exact h
theorem sgs_app : ∀ (l : List Cross) (c : Cross), sgs (l ++ [c]) = sgs l + sg c.2
  | [], c => by simp [sgs]
  | d :: l, c => by rw [List.cons_append, sgs, sgs, sgs_app l c]; omega
theorem sgs_bd : ∀ l : List Cross, -(l.length : Int) ≤ sgs l ∧ sgs l ≤ (l.length : Int)
  | [] => by simp [sgs]
  | c :: l => by
    have h1 := sgs_bd l
    have h2 := sg_or c.2
    rw [sgs, List.length_cons]; omega
theorem total_ok {n : Nat} {l : List Cross} {Q : Int → Prop} (hc : crossesOk (n : Int) l = true) (h : Q (sgs l)) : m_impl_TotalTwist (n : Int) l Q := by
  have hl := (co_yes hc).2.2.1
  refine implCO_ok ?_
  rw [hc]
  refine ⟨fun hx => absurd rfl hx, fun _ => ⟨fun s v => 0 ≤ v ∧ v ≤ l.length ∧ s = sgs (l.take v.toNat), fun s v => (l.length - v).toNat, ⟨by omega, by omega, rfl⟩, ?_⟩⟩
  rintro s v ⟨v0, v1, rfl⟩
  have hb := sgs_bd (l.take v.toNat)
  rw [List.length_take] at hb
  refine ⟨fun hv => ⟨⟨v0, hv⟩, fun hx => ⟨by omega, by omega, ⟨by omega, by omega, ?_⟩, (by dsimp only; omega)⟩, fun hx => ⟨by omega, by omega, ⟨by omega, by omega, ?_⟩, (by dsimp only; omega)⟩⟩, fun hv => ?_⟩
  · rw [tn1 v0, take_snoc! l v.toNat (by omega), sgs_app, hx]; rfl
  · have : (l[v.toNat]!).2 = false := by simpa using hx
    rw [tn1 v0, take_snoc! l v.toNat (by omega), sgs_app, this]; rfl
  · show Q _
    rw [List.take_of_length_le (by omega)]; exact h
/- how many pairs are wound -/
theorem wpr_cnt (t : List (List Int)) (i : Nat) : ∀ m, ((wpr t i m).length : Int) = sumTo (fun k => if i < k then (if (t[i]!)[k]! ≠ 0 then 1 else 0) else 0) m
  | 0 => by rw [wpr_start _ _ _ (Nat.zero_le _)]; rfl
  | m + 1 => by
    have ih := wpr_cnt t i m
    rw [sumTo]
    by_cases hi : i < m
    · by_cases h0 : (t[i]!)[m]! ≠ 0
      · rw [wpr_yes _ _ _ hi h0, List.length_append, if_pos hi, if_pos h0, ← ih]; simp
      · rw [wpr_no _ _ _ h0, if_pos hi, if_neg h0, ← ih]; omega
    · rw [wpr_start _ _ _ (by omega)]
      rw [wpr_start _ _ _ (by omega)] at ih
      rw [if_neg hi, ← ih]; rfl
theorem W_cnt (t : List (List Int)) (n : Nat) : ∀ m, ((W t n m).length : Int) = sumTo (fun i => sumTo (fun k => if i < k then (if (t[i]!)[k]! ≠ 0 then 1 else 0) else 0) n) m
  | 0 => rfl
  | m + 1 => by rw [W_step, List.length_append, sumTo, ← W_cnt t n m, ← wpr_cnt]; simp
theorem wound_cnt (t : List (List Int)) (n : Nat) : ((W t n n).length : Int) = psum (fun j i => if (t[j]!)[i]! ≠ 0 then 1 else 0) n := by
  rw [W_cnt, tri (fun i k => if (t[i]!)[k]! ≠ 0 then 1 else 0)]; rfl
end Go.Proofs.Ytcgkcoogaieolaa
