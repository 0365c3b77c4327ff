/- Plain laws over the models: subsets of puppets, copies of players, lessons, changes of hands. No program, no statement of the claim. -/
import Derived.Test.YtddjkiefadiijaaPD2
import Derived.Test.YtddjkiefadiijaaPBit
namespace Go.Proofs.Ytddjkiefadiijaa

/- the first number from k on with a property -/
def lst (p : Nat → Bool) : Nat → Nat → Nat
  | 0, k => k
  | f + 1, k => if p k = true then k else lst p f (k + 1)
theorem lst_eq {p : Nat → Bool} : ∀ {f k j : Nat}, k ≤ j → j < k + f → p j = true → (∀ i, k ≤ i → i < j → p i = false) → lst p f k = j
  | 0, k, j, h1, h2, _, _ => absurd h2 (by omega)
  | f + 1, k, j, h1, h2, h3, h4 => by
    rw [lst]
    by_cases hk : k = j
    · subst hk; rw [if_pos h3]
    · rw [if_neg (by rw [h4 k (Nat.le_refl _) (by omega)]; simp)]
      exact lst_eq (by omega) (by omega) h3 (fun i hi => h4 i (by omega))
theorem lst_none {p : Nat → Bool} : ∀ {f k : Nat}, (∀ i, k ≤ i → i < k + f → p i = false) → lst p f k = k + f
  | 0, k, _ => rfl
  | f + 1, k, h => by
    rw [lst, if_neg (by rw [h k (Nat.le_refl _) (by omega)]; simp), lst_none (fun i h1 h2 => h i (by omega) (by omega))]; omega

/- the puppets of a subset -/
def prt (ps : List Int) (s : Int) : Nat → List Int
  | 0 => []
  | k + 1 => prt ps s k ++ if bt s k = true then [ps[k]!] else []
theorem prt_len (ps : List Int) (s : Int) : ∀ k, (prt ps s k).length ≤ k
  | 0 => Nat.le_refl _
  | k + 1 => by
    have := prt_len ps s k
    rw [prt, List.length_append]
    split <;> simp <;> omega
theorem implPT_ok {ps : List Int} {s : Int} {Q : List Int → Prop} (hp : ps.length ≤ 63) (h0 : 0 ≤ s) (h1 : s < 9223372036854775808) (h : Q (prt ps s ps.length)) : m_impl_subset ps s Q := by
  refine ⟨fun x i => 0 ≤ i ∧ i ≤ ps.length ∧ x = prt ps s i.toNat, fun x i => (ps.length - i).toNat, ⟨by omega, by omega, rfl⟩, ?_⟩
  rintro x i ⟨g0, g1, rfl⟩
  have hl := prt_len ps s i.toNat
  have hs := sar_rng (k := i) h0
  have hb := band1 (k := i) h0
  refine ⟨fun hd => ⟨⟨g0, hd⟩, ⟨g0, by omega⟩, ⟨hs.1, by omega, by omega, by omega⟩, fun hx => ⟨by omega, by omega, ⟨by omega, by omega, ?_⟩, (by dsimp only; omega)⟩, fun hx => ⟨by omega, ⟨by omega, by omega, ?_⟩, (by dsimp only; omega)⟩⟩, fun hd => ?_⟩
  · rw [tn1 g0, prt, if_pos (hb.1 hx)]
  · rw [tn1 g0, prt, if_neg (fun hy => hx (hb.2 hy)), List.append_nil]
  · show Q _
    rwa [show i.toNat = ps.length by omega]
theorem two_n {ps : List Int} (h : ps.length ≤ 7) : sal 1 (ps.length : Int) = ((2 ^ ps.length : Nat) : Int) ∧ 1 ≤ 2 ^ ps.length ∧ 2 ^ ps.length ≤ 128 := by
  refine ⟨by rw [sal_nat, Int.toNat_natCast], Nat.two_pow_pos _, ?_⟩
  exact Nat.pow_le_pow_right (by omega) h
def shP (l : List PlayerC) (ps : List Int) (s : Nat) : Bool := shortB l (prt ps s ps.length)
def shF (l : List PlayerC) (ps : List Int) : Nat := lst (shP l ps) (2 ^ ps.length) 0
def shortL (l : List PlayerC) (ps : List Int) : List Int := if okB l ps = true ∧ shF l ps < 2 ^ ps.length then prt ps (shF l ps : Int) ps.length else []
def shortF (l : List PlayerC) (ps : List Int) : Bool := decide (okB l ps = true ∧ shF l ps < 2 ^ ps.length)
theorem shortL_len (l : List PlayerC) (ps : List Int) : (shortL l ps).length ≤ 7 := by
  unfold shortL
  split
  · rename_i h
    have := prt_len ps (shF l ps : Int) ps.length
    have := pup_len (okB_iff.1 h.1).2
    omega
  · simp
theorem short_hit {l : List PlayerC} {ps : List Int} {Q : List Int → Bool → Prop} {v : Int} (hok : okB l ps = true) (h0 : 0 ≤ v) (h1 : v < ((2 ^ ps.length : Nat) : Int)) (hn : ∀ j, j < v.toNat → shP l ps j = false) (hx : shP l ps v.toNat = true) (h : Q (shortL l ps) (shortF l ps)) : Q (prt ps v ps.length) true := by
  have e : shF l ps = v.toNat := lst_eq (Nat.zero_le _) (by omega) hx (fun i _ hi => hn i hi)
  have c : okB l ps = true ∧ shF l ps < 2 ^ ps.length := ⟨hok, by omega⟩
  unfold shortL shortF at h
  rw [if_pos c, decide_eq_true c, e, show ((v.toNat : Nat) : Int) = v by omega] at h
  exact h
theorem short_miss {l : List PlayerC} {ps : List Int} {Q : List Int → Bool → Prop} {v : Int} (h1 : ((2 ^ ps.length : Nat) : Int) ≤ v) (hn : ∀ j, j < v.toNat → shP l ps j = false) (h : Q (shortL l ps) (shortF l ps)) : Q [] false := by
  have e : shF l ps = 0 + 2 ^ ps.length := lst_none fun i _ hi => hn i (by omega)
  have c : ¬ (okB l ps = true ∧ shF l ps < 2 ^ ps.length) := fun hx => by have := hx.2; omega
  unfold shortL shortF at h
  rw [if_neg c, decide_eq_false c] at h
  exact h
theorem short_bad {l : List PlayerC} {ps : List Int} {Q : List Int → Bool → Prop} (hc : ¬ okB l ps = true) (h : Q (shortL l ps) (shortF l ps)) : Q [] false := by
  have c : ¬ (okB l ps = true ∧ shF l ps < 2 ^ ps.length) := fun hx => hc hx.1
  unfold shortL shortF at h
  rw [if_neg c, decide_eq_false c] at h
  exact h
theorem implSS_ok {l : List PlayerC} {ps : List Int} {Q : List Int → Bool → Prop} (hl : l.length ≤ 1048576) (hs : szPl l ≤ 1048576) (hp : ps.length ≤ 1048576) (h : Q (shortL l ps) (shortF l ps)) : m_impl_ShortSet l ps Q := by
  refine implPO_ok hl hs ⟨_, fun _ => strict_ok (by omega) rfl, fun hc => short_bad (fun hx => by have := okB_iff.1 hx; rcases hc with hc | hc; exact hc this.1; exact hc this.2) h, fun hc => ?_⟩
  have hok : okB l ps = true := okB_iff.2 ⟨Classical.byContradiction fun hn => hc (.inl hn), Classical.byContradiction fun hn => hc (.inr hn)⟩
  have h7 := pup_len (okB_iff.1 hok).2
  obtain ⟨e2, hpos, h128⟩ := two_n h7
  rw [e2]
  refine ⟨by omega, by omega, fun v => 0 ≤ v ∧ v ≤ ((2 ^ ps.length : Nat) : Int) ∧ ∀ j, j < v.toNat → shP l ps j = false, fun v => (((2 ^ ps.length : Nat) : Int) - v).toNat, ⟨by omega, by omega, fun j hj => absurd hj (by omega)⟩, ?_⟩
  rintro v ⟨v0, v1, v2⟩
  have hpl := prt_len ps v ps.length
  have hshv : shP l ps v.toNat = shortB l (prt ps v ps.length) := by unfold shP; rw [show ((v.toNat : Nat) : Int) = v by omega]
  refine ⟨fun hd => implPT_ok (by omega) v0 (by omega) (implIS_ok hl hs (by omega) ⟨fun hx => short_hit hok v0 hd v2 (hshv.trans hx) h, fun hx => ⟨by omega, ⟨by omega, by omega, lt_succ' v0 v2 (hshv.trans (Bool.eq_false_iff.2 hx))⟩, (by dsimp only; omega)⟩⟩), fun hd => short_miss (by omega) v2 h⟩
def lkS (l : List PlayerC) (ps : List Int) : Nat → Int
  | 0 => 0
  | s + 1 => max (lkS l ps s) (((prt ps (s : Int) ps.length).length : Int) - handsFor l (prt ps (s : Int) ps.length))
theorem lkS_rng {l : List PlayerC} {ps : List Int} (h7 : ps.length ≤ 7) : ∀ s, 0 ≤ lkS l ps s ∧ lkS l ps s ≤ 8
  | 0 => by simp [lkS]
  | s + 1 => by
    have h1 := lkS_rng (l := l) h7 s
    have h2 := handsFor_rng l (prt ps (s : Int) ps.length)
    have h3 := prt_len ps (s : Int) ps.length
    rw [lkS]; omega
def lackOf (l : List PlayerC) (ps : List Int) : Int := if okB l ps = true then lkS l ps (2 ^ ps.length) else -1
theorem implLK_ok {l : List PlayerC} {ps : List Int} {Q : Int → Prop} (hl : l.length ≤ 1048576) (hs : szPl l ≤ 1048576) (hp : ps.length ≤ 1048576) (h : Q (lackOf l ps)) : m_impl_LackOf l ps Q := by
  unfold lackOf at h
  refine implPO_ok hl hs ⟨_, fun _ => strict_ok (by omega) rfl, fun hc => ?_, fun hc => ?_⟩
  · rw [if_neg (fun hx => by have := okB_iff.1 hx; rcases hc with hc | hc; exact hc this.1; exact hc this.2)] at h; exact h
  have hok : okB l ps = true := okB_iff.2 ⟨Classical.byContradiction fun hn => hc (.inl hn), Classical.byContradiction fun hn => hc (.inr hn)⟩
  rw [if_pos hok] at h
  have h7 := pup_len (okB_iff.1 hok).2
  obtain ⟨e2, hpos, h128⟩ := two_n h7
  rw [e2]
  refine ⟨by omega, by omega, fun b v => 0 ≤ v ∧ v ≤ ((2 ^ ps.length : Nat) : Int) ∧ b = lkS l ps v.toNat, fun b v => (((2 ^ ps.length : Nat) : Int) - v).toNat, ⟨by omega, by omega, rfl⟩, ?_⟩
  rintro b v ⟨v0, v1, rfl⟩
  have hpl := prt_len ps v ps.length
  have hr := lkS_rng (l := l) h7 v.toNat
  have hh := handsFor_rng l (prt ps v ps.length)
  refine ⟨fun hd => implPT_ok (by omega) v0 (by omega) (implHO_ok hl hs (by omega) ⟨by omega, by omega, ⟨by omega, by omega, ?_⟩, (by dsimp only; omega)⟩), fun hd => ?_⟩
  · rw [tn1 v0, lkS, show ((v.toNat : Nat) : Int) = v by omega]
  · show Q _
    rwa [show v.toNat = 2 ^ ps.length by omega]

/- copies of players -/
abbrev inN (k : Int) (l : List PlayerC) : Prop := 0 ≤ k ∧ k ≤ (l.length : Int) - 1
def wpC (l : List PlayerC) (k : Int) : Bool := decide (playersOk l = true ∧ inN k l)
def wpL (l : List PlayerC) (k : Int) : List PlayerC := if playersOk l = true ∧ inN k l then l.set k.toNat ((l[k.toNat]!).1, 0) else l
/- lessons -/
def fg (x : Int) : List Int → Nat
  | [] => 0
  | a :: l => if a < x then fg x l + 1 else 0
theorem fg_le (x : Int) : ∀ l : List Int, fg x l ≤ l.length
  | [] => Nat.le_refl _
  | a :: l => by have := fg_le x l; rw [fg]; split <;> simp <;> omega
theorem fg_lt {x : Int} : ∀ {l : List Int} {j : Nat}, j < fg x l → l[j]! < x
  | [], j, h => by simp [fg] at h
  | a :: l, 0, h => by
    rw [fg] at h
    split at h
    · simpa
    · omega
  | a :: l, j + 1, h => by
    rw [fg] at h
    split at h
    · have := fg_lt (x := x) (l := l) (j := j) (by omega)
      rwa [List.getElem!_cons_succ]
    · omega
theorem fg_ge {x : Int} : ∀ {l : List Int}, fg x l < l.length → x ≤ l[fg x l]!
  | [], h => by simp at h
  | a :: l, h => by
    rw [fg] at h ⊢
    split
    · rename_i hc
      rw [if_pos hc] at h
      rw [List.getElem!_cons_succ]
      exact fg_ge (x := x) (l := l) (by simpa using h)
    · simp; omega
theorem fg_eq {x : Int} {l : List Int} {v : Nat} (h1 : v ≤ l.length) (h2 : ∀ j, j < v → l[j]! < x) (h3 : v < l.length → x ≤ l[v]!) : v = fg x l := by
  have a1 := fg_le x l
  by_cases hlt : v < fg x l
  · have := fg_lt hlt
    have := h3 (by omega)
    omega
  · by_cases hgt : fg x l < v
    · have := h2 _ hgt
      have := fg_ge (x := x) (l := l) (by omega)
      omega
    · omega
def ins (x : Int) (l : List Int) : List Int := l.take (fg x l) ++ [x] ++ l.drop (fg x l)
theorem take_drop_step {l : List Int} {k i : Nat} (hk : k ≤ i) (hi : i < l.length) : (l.take i).drop k ++ [l[i]!] = (l.take (i + 1)).drop k := by
  rw [take_snoc! l i hi, List.drop_append_of_le_length (by rw [List.length_take]; omega)]
def tcP (l : List PlayerC) (k x : Int) : Prop := playersOk l = true ∧ inN k l ∧ (0 ≤ x ∧ x ≤ 6) ∧ knB l[k.toNat]! x = false
def tcC (l : List PlayerC) (k x : Int) : Bool := playersOk l && decide (inN k l) && decide (0 ≤ x ∧ x ≤ 6) && !knB l[k.toNat]! x
theorem tcC_iff {l : List PlayerC} {k x : Int} : tcC l k x = true ↔ tcP l k x := by
  unfold tcC tcP
  rw [Bool.and_eq_true, Bool.and_eq_true, Bool.and_eq_true, decide_eq_true_eq, decide_eq_true_eq, Bool.not_eq_true', and_assoc, and_assoc]
def tcL (l : List PlayerC) (k x : Int) : List PlayerC := if tcC l k x = true then l.set k.toNat (ins x (l[k.toNat]!).1, (l[k.toNat]!).2) else l
theorem tc_bad {l : List PlayerC} {k x : Int} {Q : List PlayerC → Bool → Prop} (hc : ¬ tcP l k x) (h : Q (tcL l k x) (tcC l k x)) : Q l false := by
  have c : ¬ tcC l k x = true := fun hx => hc (tcC_iff.1 hx)
  unfold tcL at h
  rw [if_neg c, Bool.eq_false_iff.2 c] at h; exact h
theorem tc_good {l : List PlayerC} {k x : Int} {Q : List PlayerC → Bool → Prop} (hc : tcP l k x) (h : Q (tcL l k x) (tcC l k x)) : Q (l.set k.toNat (ins x (l[k.toNat]!).1, (l[k.toNat]!).2)) true := by
  have c := tcC_iff.2 hc
  unfold tcL at h
  rw [if_pos c, c] at h; exact h
/- changes of hands -/
def chI (p c q d : List Int) (i : Nat) : Nat → Nat
  | 0 => 0
  | k + 1 => chI p c q d i k + if p[i]! = q[k]! ∧ c[i]! ≠ d[k]! then 1 else 0
def chO (p c q d : List Int) : Nat → Nat
  | 0 => 0
  | i + 1 => chO p c q d i + chI p c q d i q.length
theorem chI_le (p c q d : List Int) (i : Nat) : ∀ k, chI p c q d i k ≤ k
  | 0 => Nat.le_refl _
  | k + 1 => by have := chI_le p c q d i k; rw [chI]; split <;> omega
theorem chO_le (p c q d : List Int) : ∀ i, chO p c q d i ≤ i * q.length
  | 0 => by simp [chO]
  | i + 1 => by have := chO_le p c q d i; have := chI_le p c q d i q.length; rw [chO, Nat.succ_mul]; omega
def chB (p c q d : List Int) : Int := if p.length = c.length ∧ q.length = d.length then (chO p c q d p.length : Int) else -1
theorem chO_big {p c q d : List Int} (hp : p.length ≤ 1048576) (hq : q.length ≤ 1048576) {i : Nat} (hi : i ≤ p.length) : chO p c q d i ≤ 1099511627776 := by
  have h1 := chO_le p c q d i
  have h2 := Nat.mul_le_mul (Nat.le_trans hi hp) hq
  omega
theorem chB_rng {p c q d : List Int} (hp : p.length ≤ 1048576) (hq : q.length ≤ 1048576) : -1 ≤ chB p c q d ∧ chB p c q d ≤ 1099511627776 := by
  unfold chB
  split
  · have := chO_big (c := c) (d := d) hp hq (Nat.le_refl p.length); omega
  · omega
def nbC (t c : List (List Int)) (m : Nat) : Int := chB t[m]! c[m]! t[m + 1]! c[m + 1]!
def ccS (t c : List (List Int)) : Nat → Int
  | 0 => 0
  | m + 1 => ccS t c m + nbC t c m
def countC (t c : List (List Int)) : Int := if t.length = c.length ∧ (∀ m, m < t.length - 1 → 0 ≤ nbC t c m) then ccS t c (t.length - 1) else -1
abbrev smallT (t : List (List Int)) : Prop := t.length ≤ 1048576 ∧ ∀ i, i < t.length → (t[i]!).length ≤ 1048576
theorem nbC_rng {t c : List (List Int)} (ht : smallT t) {m : Nat} (hm : m + 1 < t.length) : -1 ≤ nbC t c m ∧ nbC t c m ≤ 1099511627776 := chB_rng (ht.2 _ (by omega)) (ht.2 _ hm)
theorem ccS_rng {t c : List (List Int)} (ht : smallT t) : ∀ k, k + 1 ≤ t.length → (∀ m, m < k → 0 ≤ nbC t c m) → 0 ≤ ccS t c k ∧ ccS t c k ≤ 1099511627776 * (k : Int)
  | 0, _, _ => by simp [ccS]
  | k + 1, hk, h => by
    have h1 := ccS_rng ht k (by omega) (fun m hm => h m (by omega))
    have h2 := nbC_rng (c := c) ht (m := k) (by omega)
    have h3 := h k (by omega)
    rw [ccS]; omega
end Go.Proofs.Ytddjkiefadiijaa
