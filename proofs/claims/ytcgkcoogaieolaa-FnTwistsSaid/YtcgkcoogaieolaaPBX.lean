/- Plain facts on twists: sums over all pairs. No program, no statement of the claim. -/
import Derived.Test.YtcgkcoogaieolaaPBW
namespace Go.Proofs.Ytcgkcoogaieolaa
def psum (f : Nat → Nat → Int) (n : Nat) : Int := sumTo (fun i => sumTo (fun j => f j i) i) n
theorem sumTo_le {f g : Nat → Int} : ∀ {m : Nat}, (∀ k, k < m → f k ≤ g k) → sumTo f m ≤ sumTo g m
  | 0, _ => Int.le_refl _
  | m + 1, h => by
    have h1 := sumTo_le (m := m) (fun k hk => h k (by omega))
    have h2 := h m (by omega)
    rw [sumTo, sumTo]; omega
theorem psum_le {f g : Nat → Nat → Int} {n : Nat} (h : ∀ i j, j < i → i < n → f j i ≤ g j i) : psum f n ≤ psum g n := sumTo_le fun i hi => sumTo_le fun j hj => h i j hj hi
theorem psum_congr {f g : Nat → Nat → Int} {n : Nat} (h : ∀ i j, j < i → i < n → f j i = g j i) : psum f n = psum g n := sumTo_congr fun i hi => sumTo_congr fun j hj => h i j hj hi
theorem psum_add (f g : Nat → Nat → Int) (n : Nat) : psum (fun j i => f j i + g j i) n = psum f n + psum g n := by
  unfold psum
  rw [← sumTo_add]
  exact sumTo_congr fun i _ => sumTo_add _ _ i
theorem psum_zero (n : Nat) : psum (fun _ _ => 0) n = 0 := sumTo_zero fun _ _ => sumTo_zero fun _ _ => rfl
theorem one_in {lo hi i : Nat} {v : Int} : ∀ m, sumTo (fun j => if j = lo ∧ i = hi then v else 0) m = if i = hi ∧ lo < m then v else 0
  | 0 => by rw [if_neg (by omega)]; rfl
  | m + 1 => by
    rw [sumTo, one_in m]
    by_cases h : i = hi
    · by_cases h1 : lo < m
      · rw [if_pos ⟨h, h1⟩, if_neg (by omega), if_pos (by omega)]; omega
      · by_cases h2 : m = lo
        · rw [if_neg (by omega), if_pos ⟨h2, h⟩, if_pos (by omega)]; omega
        · rw [if_neg (by omega), if_neg (by omega), if_neg (by omega)]; omega
    · rw [if_neg (by omega), if_neg (by omega), if_neg (by omega)]; omega
theorem one_out {lo hi : Nat} {v : Int} (h : lo < hi) : ∀ n, sumTo (fun i => if i = hi ∧ lo < i then v else 0) n = if hi < n then v else 0
  | 0 => by rw [if_neg (by omega)]; rfl
  | n + 1 => by
    rw [sumTo, one_out h n]
    by_cases h1 : hi < n
    · rw [if_pos h1, if_neg (by omega), if_pos (by omega)]; omega
    · by_cases h2 : n = hi
      · rw [if_neg h1, if_pos (by omega), if_pos (by omega)]; omega
      · rw [if_neg h1, if_neg (by omega), if_neg (by omega)]; omega
theorem psum_one {lo hi n : Nat} {v : Int} (h : lo < hi) (hn : hi < n) : psum (fun j i => if j = lo ∧ i = hi then v else 0) n = v := by
  unfold psum
  rw [sumTo_congr (g := fun i => if i = hi ∧ lo < i then v else 0) (fun i _ => one_in i), one_out h, if_pos hn]
theorem hit_one {n : Nat} {o : List Int} {k : Int} {v : Int} (hp : Pm n o) (h0 : 0 ≤ k) (h1 : k + 1 < (n : Int)) : psum (fun j i => if hit o k j i = true then v else 0) n = v := by
  have hk1 : (k + 1).toNat = k.toNat + 1 := by omega
  have r1 := hp.rng k.toNat (by omega)
  have r2 := hp.rng (k.toNat + 1) (by omega)
  have hne : o[k.toNat]! ≠ o[k.toNat + 1]! := fun e => by have := hp.inj _ _ (by omega) (by omega) e; omega
  have key : ∀ lo hi : Nat, lo < hi → hi < n → (∀ j i : Nat, j < i → (hit o k j i = true ↔ j = lo ∧ i = hi)) → psum (fun j i => if hit o k j i = true then v else 0) n = v := fun lo hi hlh hh hx => by
    rw [psum_congr (g := fun j i => if j = lo ∧ i = hi then v else 0) (fun i j hji _ => by
      by_cases h : j = lo ∧ i = hi
      · rw [if_pos h, if_pos ((hx j i hji).2 h)]
      · rw [if_neg h, if_neg (fun hy => h ((hx j i hji).1 hy))])]
    exact psum_one hlh hh
  rcases Int.lt_or_le o[k.toNat]! o[k.toNat + 1]! with h | h
  · refine key (o[k.toNat]!).toNat (o[k.toNat + 1]!).toNat (by omega) (by omega) fun j i hji => ?_
    unfold hit
    rw [decide_eq_true_eq, hk1]; omega
  · refine key (o[k.toNat + 1]!).toNat (o[k.toNat]!).toNat (by omega) (by omega) fun j i hji => ?_
    unfold hit
    rw [decide_eq_true_eq, hk1]; omega
def sgs : List Cross → Int
  | [] => 0
  | c :: l => sg c.2 + sgs l
theorem ptw_sum {n : Nat} : ∀ {l : List Cross} {o : List Int}, Pm n o → inC n l → psum (fun j i => twf i j o l) n = sgs l
  | [], o, _, _ => psum_zero n
  | c :: l, o, hp, hin => by
    have hc := hin c (by simp)
    have ih := ptw_sum (l := l) (o := sw o c.1) (hp.sw hc.1 hc.2) (fun d hd => hin d (List.mem_cons_of_mem _ hd))
    have h1 := hit_one (v := sg c.2) hp hc.1 hc.2
    have e : psum (fun j i => twf i j o (c :: l)) n = psum (fun j i => (if hit o c.1 j i = true then sg c.2 else 0) + twf i j (sw o c.1) l) n := psum_congr fun i j _ _ => by
      have : hit o c.1 i j = hit o c.1 j i := by unfold hit; rw [decide_eq_decide]; omega
      rw [twf, this]
    rw [e, psum_add, h1, ih]; rfl
theorem ptw_abs {n : Nat} : ∀ {l : List Cross} {o : List Int}, Pm n o → inC n l → psum (fun j i => max (twf i j o l) (-(twf i j o l))) n ≤ (l.length : Int)
  | [], o, _, _ => by
    have : psum (fun j i => max (twf i j o []) (-(twf i j o []))) n = 0 := psum_zero n
    rw [this]; exact Int.le_refl _
  | c :: l, o, hp, hin => by
    have hc := hin c (by simp)
    have ih := ptw_abs (l := l) (o := sw o c.1) (hp.sw hc.1 hc.2) (fun d hd => hin d (List.mem_cons_of_mem _ hd))
    have h1 := hit_one (v := 1) hp hc.1 hc.2
    have e : psum (fun j i => max (twf i j o (c :: l)) (-(twf i j o (c :: l)))) n ≤ psum (fun j i => (if hit o c.1 j i = true then 1 else 0) + max (twf i j (sw o c.1) l) (-(twf i j (sw o c.1) l))) n := psum_le fun i j _ _ => by
      have : hit o c.1 i j = hit o c.1 j i := by unfold hit; rw [decide_eq_decide]; omega
      have hs := sg_or c.2
      rw [twf, this]
      split <;> omega
    rw [psum_add, h1] at e
    simp only [List.length_cons]; omega
end Go.Proofs.Ytcgkcoogaieolaa
