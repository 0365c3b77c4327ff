/- Plain laws over the models: who waits for whom; cues that are ones. No program, no statement of the claim. -/
import Derived.Test.YthmemoealgieaaaPC1
import Derived.Test.YthmemoealgieaaaPJ
import Derived.Test.YthmemoealgieaaaPBit
namespace Go.Proofs.Ythmemoealgieaaa

theorem ite_cg {α : Sort _} {p q : Prop} [Decidable p] [Decidable q] {a b : α} (h : p ↔ q) : (if p then a else b) = if q then a else b := by
  by_cases hp : p
  · rw [if_pos hp, if_pos (h.1 hp)]
  · rw [if_neg hp, if_neg (fun hq => hp (h.2 hq))]
/- rows, each with what it should be -/
structure Rows {α : Type} [Inhabited α] (n : Nat) (x : List α) (P : Nat → α → Prop) : Prop where
  len : x.length = n
  row : ∀ r, r < n → P r x[r]!
theorem Rows.mono {α : Type} [Inhabited α] {n : Nat} {x : List α} {P P' : Nat → α → Prop} (h : Rows n x P) (hp : ∀ r v, r < n → P r v → P' r v) : Rows n x P' := ⟨h.len, fun r hr => hp r _ hr (h.row r hr)⟩
theorem Rows.set {α : Type} [Inhabited α] {n i : Nat} {x : List α} {v : α} {P P' : Nat → α → Prop} (h : Rows n x P) (hi : i < n) (hv : P' i v) (hp : ∀ r v, r < n → r ≠ i → P r v → P' r v) : Rows n (x.set i v) P' := by
  refine ⟨by rw [List.length_set]; exact h.len, fun r hr => ?_⟩
  rw [gset _ _ _ (by rw [h.len]; exact hi)]
  by_cases hc : i = r
  · subst hc; rw [if_pos rfl]; exact hv
  · rw [if_neg hc]; exact hp r _ hr (fun h => hc h.symm) (h.row r hr)

/- who waits for whom, over m others at most -/
def wt0 (l : List CueC) (i k : Nat) : Bool := decide (k < l.length ∧ (k : Int) ∈ (l[i]!).2.1)
def wt (l : List CueC) : Nat → Nat → Nat → Bool
  | 0, i, k => wt0 l i k
  | m + 1, i, k => wt l m i k || (wt l m i m && wt l m m k)
theorem wt_hi {l : List CueC} : ∀ m i k, l.length ≤ k → wt l m i k = false
  | 0, i, k, h => decide_eq_false (fun hx => by have := hx.1; omega)
  | m + 1, i, k, h => by rw [wt, wt_hi m i k h, wt_hi m m k h]; simp
theorem wt_col (l : List CueC) (m i : Nat) : wt l (m + 1) i m = wt l m i m := by
  rw [wt]; cases wt l m i m <;> simp
theorem wt_self (l : List CueC) (m k : Nat) : wt l (m + 1) m k = wt l m m k := by
  rw [wt]; cases wt l m m k <;> simp
/-- a set of bits, below 2^12 -/
def Rb (v : Int) (f : Nat → Bool) : Prop := 0 ≤ v ∧ v < 4096 ∧ ∀ k, bt v k = f k
theorem Rb.zero {f : Nat → Bool} (h : ∀ k, f k = false) : Rb 0 f := ⟨by omega, by omega, fun k => by rw [bt_zero, h k]⟩
theorem Rb.bor {v u : Int} {f g : Nat → Bool} (h : Rb v f) (k : Rb u g) : Rb (bor v u) fun j => f j || g j := by
  have := bor_rng (n := 12) (x := v) (y := u) (by have := h.2.1; omega) (by have := k.2.1; omega)
  exact ⟨this.1, by omega, fun j => by rw [bt_bor, h.2.2, k.2.2]⟩
theorem Rb.one {k : Int} (hk : k.toNat < 12) : Rb (sal 1 k) fun j => decide (k.toNat = j) := by
  have := sal_rng hk
  exact ⟨by omega, by omega, fun j => bt_sal⟩
theorem Rb.cg {v : Int} {f g : Nat → Bool} (h : Rb v f) (e : ∀ k, f k = g k) : Rb v g := ⟨h.1, h.2.1, fun k => by rw [h.2.2, e]⟩
def w0P (l : List CueC) (i j : Nat) (r : Nat) (v : Int) : Prop := (r < i → Rb v (wt0 l r)) ∧ (i < r → v = 0) ∧ (r = i → Rb v fun k => decide (k < l.length ∧ (k : Int) ∈ ((l[r]!).2.1).take j))
def w1P (l : List CueC) (m i : Nat) (r : Nat) (v : Int) : Prop := Rb v (if r < i then wt l (m + 1) r else wt l m r)
theorem mem_take {l : List Int} {j : Nat} (hj : j < l.length) (k : Int) : k ∈ l.take (j + 1) ↔ k ∈ l.take j ∨ k = l[j]! := by
  rw [take_snoc! l j hj, List.mem_append, List.mem_singleton]
/- the other way: rows of yes and no -/
def RB (n : Nat) (v : List Bool) (f : Nat → Bool) : Prop := v.length = n ∧ ∀ k, k < n → v[k]! = f k
theorem implW_ok {l : List CueC} {Q : List (List Bool) → Prop} (h12 : l.length ≤ 12) (hs : szCu l ≤ 1048576) (h : ∀ o, Rows l.length o (fun r v => RB l.length v (wt l l.length r)) → Q o) : m_impl_waits l Q := by
  have hlen : ∀ r, r < l.length → (l[r]!).2.1.length ≤ 1048576 := fun r hr => by
    have := sumN_get cuN l r hr
    have e : cuN l[r]! = (l[r]!).2.1.length + (l[r]!).2.2.length := rfl
    unfold szCu at hs; omega
  refine ⟨⟨by omega, by omega⟩, fun x i => 0 ≤ i ∧ i ≤ l.length ∧ Rows l.length x (fun r v => r < i.toNat → RB l.length v (wt0 l r)), fun x i => (l.length - i).toNat, ⟨by omega, by omega, by simp, fun r hr h => absurd h (by omega)⟩, ?_⟩
  rintro x i ⟨g0, g1, g2⟩
  refine ⟨fun hc => ?_, fun hc => ?_⟩
  · have hi : i.toNat < l.length := by omega
    have hli := hlen _ hi
    have hxl := g2.len
    refine ⟨⟨g0, hc⟩, ⟨by omega, by omega⟩, ⟨g0, by omega⟩, fun x j => 0 ≤ j ∧ j ≤ (l[i.toNat]!).2.1.length ∧ Rows l.length x (fun r v => (r < i.toNat → RB l.length v (wt0 l r)) ∧ (r = i.toNat → RB l.length v fun k => decide (k < l.length ∧ (k : Int) ∈ ((l[r]!).2.1).take j.toNat))), fun x j => ((l[i.toNat]!).2.1.length - j).toNat, ⟨by omega, by omega, ?_⟩, ?_⟩
    · refine g2.set hi ⟨fun h => absurd h (by omega), fun _ => ⟨by simp, fun k hk => by simp [hk]⟩⟩ fun r v _ hne hp => ⟨hp, fun e => absurd e hne⟩
    rintro x j ⟨j0, j1, j2⟩
    have hxl := j2.len
    have hix : ix i x.length := ⟨g0, by omega⟩
    refine ⟨fun hd => ⟨⟨j0, hd⟩, by omega, within_ok ⟨fun hb => ?_, fun hb => ⟨by omega, ⟨by omega, by omega, ?_⟩, (by dsimp only; omega)⟩⟩⟩, fun hd => ⟨by omega, ⟨by omega, by omega, ?_⟩, (by dsimp only; omega)⟩⟩
    · rw [decide_eq_true_eq] at hb
      have hr := (j2.row _ hi).2 rfl
      have hrl := hr.1
      refine ⟨hix, ⟨hb.1, by omega⟩, by omega, ⟨by omega, by omega, ?_⟩, (by dsimp only; omega)⟩
      refine j2.set hi ⟨fun h => absurd h (by omega), fun _ => ⟨by rw [List.length_set]; exact hrl, fun k hk => ?_⟩⟩ (fun r v _ hne hp => ⟨hp.1, fun e => absurd e hne⟩)
      rw [gset _ _ _ (by omega), hr.2 k hk]
      rw [tn1 j0]
      by_cases hq : ((l[i.toNat]!).2.1[j.toNat]!).toNat = k
      · rw [if_pos hq]
        exact (decide_eq_true ⟨hk, (mem_take (by omega) _).2 (.inr (by omega))⟩).symm
      · rw [if_neg hq]
        apply Bool.eq_iff_iff.2
        simp only [decide_eq_true_eq]
        rw [mem_take (by omega)]
        exact ⟨fun ⟨h1, h2⟩ => ⟨h1, .inl h2⟩, fun ⟨h1, h2⟩ => ⟨h1, h2.resolve_right (fun e => hq (by omega))⟩⟩
    · rw [decide_eq_true_eq] at hb
      refine j2.mono fun r v hr hp => ⟨hp.1, fun e => ⟨(hp.2 e).1, fun k hk => ?_⟩⟩
      rw [(hp.2 e).2 k hk]
      subst e
      rw [tn1 j0]
      apply Bool.eq_iff_iff.2
      simp only [decide_eq_true_eq]
      rw [mem_take (by omega)]
      exact ⟨fun ⟨h1, h2⟩ => ⟨h1, .inl h2⟩, fun ⟨h1, h2⟩ => ⟨h1, h2.resolve_right (fun e => hb (by omega))⟩⟩
    · refine j2.mono fun r v hr hp h => ?_
      by_cases he : r = i.toNat
      · have := hp.2 he
        subst he
        rw [List.take_of_length_le (by omega)] at this
        exact this
      · exact hp.1 (by omega)
  · refine ⟨fun x m => 0 ≤ m ∧ m ≤ l.length ∧ Rows l.length x (fun r v => RB l.length v (wt l m.toNat r)), fun x m => (l.length - m).toNat, ⟨by omega, by omega, g2.mono fun r v hr hp => hp (by omega)⟩, ?_⟩
    rintro x m ⟨m0, m1, m2⟩
    refine ⟨fun hm => ?_, fun hm => ?_⟩
    · refine ⟨fun x i => 0 ≤ i ∧ i ≤ l.length ∧ Rows l.length x (fun r v => RB l.length v (if r < i.toNat then wt l (m.toNat + 1) r else wt l m.toNat r)), fun x i => (l.length - i).toNat, ⟨by omega, by omega, m2.mono fun r v hr hp => by rw [if_neg (by omega)]; exact hp⟩, ?_⟩
      rintro x i ⟨i0, i1, i2⟩
      refine ⟨fun hd => ?_, fun hd => ⟨by omega, ⟨by omega, by omega, i2.mono fun r v hr hp => ?_⟩, (by dsimp only; omega)⟩⟩
      · have hi : i.toNat < l.length := by omega
        have hmn : m.toNat < l.length := by omega
        refine ⟨fun x k => 0 ≤ k ∧ k ≤ l.length ∧ Rows l.length x (fun r v => RB l.length v (fun c => if r < i.toNat ∨ (r = i.toNat ∧ c < k.toNat) then wt l (m.toNat + 1) r c else wt l m.toNat r c)), fun x k => (l.length - k).toNat, ⟨by omega, by omega, i2.mono fun r v hr hp => ⟨hp.1, fun c hc => ?_⟩⟩, ?_⟩
        · rw [hp.2 c hc]
          dsimp only
          by_cases h1 : r < i.toNat
          · rw [if_pos h1, if_pos (.inl h1)]
          · rw [if_neg h1, if_neg (by omega)]
        rintro x k ⟨k0, k1, k2⟩
        have hxl := k2.len
        have hix : ix i x.length := ⟨i0, by omega⟩
        have hmx : ix m x.length := ⟨m0, by omega⟩
        have hri := k2.row _ hi
        have hrm := k2.row _ hmn
        have li := hri.1
        have lm := hrm.1
        refine ⟨fun he => ?_, fun he => ⟨by omega, ⟨by omega, by omega, k2.mono fun r v hr hp => ⟨hp.1, fun c hc => ?_⟩⟩, (by dsimp only; omega)⟩⟩
        · have hk : k.toNat < l.length := by omega
          have e1 := hri.2 _ hk
          dsimp only at e1
          rw [if_neg (by omega)] at e1
          have e2 : (x[i.toNat]!)[m.toNat]! = wt l m.toNat i.toNat m.toNat := by
            have := hri.2 _ hmn
            dsimp only at this
            split at this
            · rw [this, wt_col]
            · exact this
          have e3 : (x[m.toNat]!)[k.toNat]! = wt l m.toNat m.toNat k.toNat := by
            have := hrm.2 _ hk
            dsimp only at this
            split at this
            · rw [this, wt_self]
            · exact this
          have hik : ix k (x[i.toNat]!).length := ⟨k0, by omega⟩
          have him : ix m (x[i.toNat]!).length := ⟨m0, by omega⟩
          have hmk : ix k (x[m.toNat]!).length := ⟨k0, by omega⟩
          refine ⟨hix, hix, hik, fun _ => hix, fun _ => him, fun _ => hmx, fun _ => hmk, hik, by omega, ⟨by omega, by omega, ?_⟩, (by dsimp only; omega)⟩
          rw [e1, e2, e3]
          refine k2.set hi ⟨by rw [List.length_set]; exact li, fun c hc => ?_⟩ fun r v _ hne hp => ⟨hp.1, fun c hc => ?_⟩
          · rw [gset _ _ _ (by omega), hri.2 c hc]
            dsimp only
            by_cases hq : k.toNat = c
            · subst hq; rw [if_pos rfl, if_pos (by omega)]; rfl
            · rw [if_neg hq]
              by_cases hq2 : c < k.toNat
              · rw [if_pos (by omega), if_pos (by omega)]
              · rw [if_neg (by omega), if_neg (by omega)]
          · rw [hp.2 c hc]
            dsimp only
            by_cases hq2 : r < i.toNat
            · rw [if_pos (.inl hq2), if_pos (.inl hq2)]
            · rw [if_neg (by omega), if_neg (by omega)]
        · rw [hp.2 c hc]
          dsimp only
          by_cases h1 : r < (i + 1).toNat
          · rw [if_pos (by omega), if_pos h1]
          · rw [if_neg (by omega), if_neg h1]
      · rw [if_pos (by omega)] at hp
        rw [tn1 m0]; exact hp
    · refine h _ (m2.mono fun r v hr hp => ?_)
      rw [show m.toNat = l.length by omega] at hp
      exact hp
end Go.Proofs.Ythmemoealgieaaa
