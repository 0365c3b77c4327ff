/- Plain laws over the models: subsets of puppets, copies of players, lessons, changes of hands. No program, no statement of the claim. -/
import Derived.Test.YtddjkiefadiijaaPD2
import Derived.Test.YtddjkiefadiijaaPBit
namespace Go.Proofs.Ytddjkiefadiijaa

/- the first number from k on with a property -/
def lst (p : Nat → Bool) : Nat → Nat → Nat
  | 0, k => k
  | f + 1, k => if p k = true then k else lst p f (k + 1)
theorem lst_eq {p : Nat → Bool} : ∀ {f k j : Nat}, k ≤ j → j < k + f → p j = true → (∀ i, k ≤ i → i < j → p i = false) → lst p f k = j
  | 0, k, j, h1, h2, _, _ => absurd h2 (by omega)
  | f + 1, k, j, h1, h2, h3, h4 => by
    rw [lst]
    by_cases hk : k = j
    · subst hk; rw [if_pos h3]
    · rw [if_neg (by rw [h4 k (Nat.le_refl _) (by omega)]; simp)]
      exact lst_eq (by omega) (by omega) h3 (fun i hi => h4 i (by omega))
theorem lst_none {p : Nat → Bool} : ∀ {f k : Nat}, (∀ i, k ≤ i → i < k + f → p i = false) → lst p f k = k + f
  | 0, k, _ => rfl
  | f + 1, k, h => by
    rw [lst, if_neg (by rw [h k (Nat.le_refl _) (by omega)]; simp), lst_none (fun i h1 h2 => h i (by omega) (by omega))]; omega

/- the puppets of a subset -/
def prt (ps : List Int) (s : Int) : Nat → List Int
  | 0 => []
  | k + 1 => prt ps s k ++ if bt s k = true then [ps[k]!] else []
theorem prt_len (ps : List Int) (s : Int) : ∀ k, (prt ps s k).length ≤ k
  | 0 => Nat.le_refl _
  | k + 1 => by
    have := prt_len ps s k
    rw [prt, List.length_append]
    split <;> simp <;> omega
theorem two_n {ps : List Int} (h : ps.length ≤ 7) : sal 1 (ps.length : Int) = ((2 ^ ps.length : Nat) : Int) ∧ 1 ≤ 2 ^ ps.length ∧ 2 ^ ps.length ≤ 128 := by
  refine ⟨by rw [sal_nat, Int.toNat_natCast], Nat.two_pow_pos _, ?_⟩
  exact Nat.pow_le_pow_right (by omega) h
def shP (l : List PlayerC) (ps : List Int) (s : Nat) : Bool := shortB l (prt ps s ps.length)
def shF (l : List PlayerC) (ps : List Int) : Nat := lst (shP l ps) (2 ^ ps.length) 0
def shortL (l : List PlayerC) (ps : List Int) : List Int := if okB l ps = true ∧ shF l ps < 2 ^ ps.length then prt ps (shF l ps : Int) ps.length else []
def shortF (l : List PlayerC) (ps : List Int) : Bool := decide (okB l ps = true ∧ shF l ps < 2 ^ ps.length)
theorem shortL_len (l : List PlayerC) (ps : List Int) : (shortL l ps).length ≤ 7 := by
  unfold shortL
  split
  · rename_i h
    have := prt_len ps (shF l ps : Int) ps.length
    have := pup_len (okB_iff.1 h.1).2
    omega
  · simp
theorem short_hit {l : List PlayerC} {ps : List Int} {Q : List Int → Bool → Prop} {v : Int} (hok : okB l ps = true) (h0 : 0 ≤ v) (h1 : v < ((2 ^ ps.length : Nat) : Int)) (hn : ∀ j, j < v.toNat → shP l ps j = false) (hx : shP l ps v.toNat = true) (h : Q (shortL l ps) (shortF l ps)) : Q (prt ps v ps.length) true := by
  have e : shF l ps = v.toNat := lst_eq (Nat.zero_le _) (by omega) hx (fun i _ hi => hn i hi)
  have c : okB l ps = true ∧ shF l ps < 2 ^ ps.length := ⟨hok, by omega⟩
  unfold shortL shortF at h
  rw [if_pos c, decide_eq_true c, e, show ((v.toNat : Nat) : Int) = v by omega] at h
  exact h
theorem short_miss {l : List PlayerC} {ps : List Int} {Q : List Int → Bool → Prop} {v : Int} (h1 : ((2 ^ ps.length : Nat) : Int) ≤ v) (hn : ∀ j, j < v.toNat → shP l ps j = false) (h : Q (shortL l ps) (shortF l ps)) : Q [] false := by
  have e : shF l ps = 0 + 2 ^ ps.length := lst_none fun i _ hi => hn i (by omega)
  have c : ¬ (okB l ps = true ∧ shF l ps < 2 ^ ps.length) := fun hx => by have := hx.2; omega
  unfold shortL shortF at h
  rw [if_neg c, decide_eq_false c] at h
  exact h
theorem short_bad {l : List PlayerC} {ps : List Int} {Q : List Int → Bool → Prop} (hc : ¬ okB l ps = true) (h : Q (shortL l ps) (shortF l ps)) : Q [] false := by
  have c : ¬ (okB l ps = true ∧ shF l ps < 2 ^ ps.length) := fun hx => hc hx.1
  unfold shortL shortF at h
  rw [if_neg c, decide_eq_false c] at h
  exact h
def lkS (l : List PlayerC) (ps : List Int) : Nat → Int
  | 0 => 0
  | s + 1 => max (lkS l ps s) (((prt ps (s : Int) ps.length).length : Int) - handsFor l (prt ps (s : Int) ps.length))
theorem lkS_rng {l : List PlayerC} {ps : List Int} (h7 : ps.length ≤ 7) : ∀ s, 0 ≤ lkS l ps s ∧ lkS l ps s ≤ 8
  | 0 => by simp [lkS]
  | s + 1 => by
    have h1 := lkS_rng (l := l) h7 s
    have h2 := handsFor_rng l (prt ps (s : Int) ps.length)
    have h3 := prt_len ps (s : Int) ps.length
    rw [lkS]; omega
def lackOf (l : List PlayerC) (ps : List Int) : Int := if okB l ps = true then lkS l ps (2 ^ ps.length) else -1
/- copies of players -/
abbrev inN (k : Int) (l : List PlayerC) : Prop := 0 ≤ k ∧ k ≤ (l.length : Int) - 1
def wpC (l : List PlayerC) (k : Int) : Bool := decide (playersOk l = true ∧ inN k l)
def wpL (l : List PlayerC) (k : Int) : List PlayerC := if playersOk l = true ∧ inN k l then l.set k.toNat ((l[k.toNat]!).1, 0) else l
/- lessons -/
def fg (x : Int) : List Int → Nat
  | [] => 0
  | a :: l => if a < x then fg x l + 1 else 0
theorem fg_le (x : Int) : ∀ l : List Int, fg x l ≤ l.length
  | [] => Nat.le_refl _
  | a :: l => by have := fg_le x l; rw [fg]; split <;> simp <;> omega
theorem fg_lt {x : Int} : ∀ {l : List Int} {j : Nat}, j < fg x l → l[j]! < x
  | [], j, h => by simp [fg] at h
  | a :: l, 0, h => by
    rw [fg] at h
    split at h
    · simpa
    · omega
  | a :: l, j + 1, h => by
    rw [fg] at h
    split at h
    · have := fg_lt (x := x) (l := l) (j := j) (by omega)
      rwa [List.getElem!_cons_succ]
    · omega
theorem fg_ge {x : Int} : ∀ {l : List Int}, fg x l < l.length → x ≤ l[fg x l]!
  | [], h => by simp at h
  | a :: l, h => by
    rw [fg] at h ⊢
    split
    · rename_i hc
      rw [if_pos hc] at h
      rw [List.getElem!_cons_succ]
      exact fg_ge (x := x) (l := l) (by simpa using h)
    · simp; omega
theorem fg_eq {x : Int} {l : List Int} {v : Nat} (h1 : v ≤ l.length) (h2 : ∀ j, j < v → l[j]! < x) (h3 : v < l.length → x ≤ l[v]!) : v = fg x l := by
  have a1 := fg_le x l
  by_cases hlt : v < fg x l
  · have := fg_lt hlt
    have := h3 (by omega)
    omega
  · by_cases hgt : fg x l < v
    · have := h2 _ hgt
      have := fg_ge (x := x) (l := l) (by omega)
      omega
    · omega
def ins (x : Int) (l : List Int) : List Int := l.take (fg x l) ++ [x] ++ l.drop (fg x l)
theorem take_drop_step {l : List Int} {k i : Nat} (hk : k ≤ i) (hi : i < l.length) : (l.take i).drop k ++ [l[i]!] = (l.take (i + 1)).drop k := by
  rw [take_snoc! l i hi, List.drop_append_of_le_length (by rw [List.length_take]; omega)]
def tcP (l : List PlayerC) (k x : Int) : Prop := playersOk l = true ∧ inN k l ∧ (0 ≤ x ∧ x ≤ 6) ∧ knB l[k.toNat]! x = false
def tcC (l : List PlayerC) (k x : Int) : Bool := playersOk l && decide (inN k l) && decide (0 ≤ x ∧ x ≤ 6) && !knB l[k.toNat]! x
theorem tcC_iff {l : List PlayerC} {k x : Int} : tcC l k x = true ↔ tcP l k x := by
  unfold tcC tcP
  rw [Bool.and_eq_true, Bool.and_eq_true, Bool.and_eq_true, decide_eq_true_eq, decide_eq_true_eq, Bool.not_eq_true', and_assoc, and_assoc]
def tcL (l : List PlayerC) (k x : Int) : List PlayerC := if tcC l k x = true then l.set k.toNat (ins x (l[k.toNat]!).1, (l[k.toNat]!).2) else l
theorem tc_bad {l : List PlayerC} {k x : Int} {Q : List PlayerC → Bool → Prop} (hc : ¬ tcP l k x) (h : Q (tcL l k x) (tcC l k x)) : Q l false := by
  have c : ¬ tcC l k x = true := fun hx => hc (tcC_iff.1 hx)
  unfold tcL at h
  rw [if_neg c, Bool.eq_false_iff.2 c] at h; exact h
theorem tc_good {l : List PlayerC} {k x : Int} {Q : List PlayerC → Bool → Prop} (hc : tcP l k x) (h : Q (tcL l k x) (tcC l k x)) : Q (l.set k.toNat (ins x (l[k.toNat]!).1, (l[k.toNat]!).2)) true := by
  have c := tcC_iff.2 hc
  unfold tcL at h
  rw [if_pos c, c] at h; exact h
/- changes of hands -/
def chI (p c q d : List Int) (i : Nat) : Nat → Nat
  | 0 => 0
  | k + 1 => chI p c q d i k + if p[i]! = q[k]! ∧ c[i]! ≠ d[k]! then 1 else 0
def chO (p c q d : List Int) : Nat → Nat
  | 0 => 0
  | i + 1 => chO p c q d i + chI p c q d i q.length
theorem chI_le (p c q d : List Int) (i : Nat) : ∀ k, chI p c q d i k ≤ k
  | 0 => Nat.le_refl _
  | k + 1 => by have := chI_le p c q d i k; rw [chI]; split <;> omega
theorem chO_le (p c q d : List Int) : ∀ i, chO p c q d i ≤ i * q.length
  | 0 => by simp [chO]
  | i + 1 => by have := chO_le p c q d i; have := chI_le p c q d i q.length; rw [chO, Nat.succ_mul]; omega
def chB (p c q d : List Int) : Int := if p.length = c.length ∧ q.length = d.length then (chO p c q d p.length : Int) else -1
theorem chO_big {p c q d : List Int} (hp : p.length ≤ 1048576) (hq : q.length ≤ 1048576) {i : Nat} (hi : i ≤ p.length) : chO p c q d i ≤ 1099511627776 := by
  have h1 := chO_le p c q d i
  have h2 := Nat.mul_le_mul (Nat.le_trans hi hp) hq
  omega
theorem chB_rng {p c q d : List Int} (hp : p.length ≤ 1048576) (hq : q.length ≤ 1048576) : -1 ≤ chB p c q d ∧ chB p c q d ≤ 1099511627776 := by
  unfold chB
  split
  · have := chO_big (c := c) (d := d) hp hq (Nat.le_refl p.length); omega
  · omega
theorem specCB_ok {p c q d : List Int} {Q : Int → Prop} (hp : p.length ≤ 1048576) (hq : q.length ≤ 1048576) (h : Q (chB p c q d)) : m_spec_ChangesBetween p c q d Q := by
  unfold chB at h
  refine ⟨fun hc => by rw [if_neg (fun hx => by omega)] at h; exact h, fun hc => ?_⟩
  have e1 : p.length = c.length := Classical.byContradiction fun hn => hc (.inl (by omega))
  have e2 : q.length = d.length := Classical.byContradiction fun hn => hc (.inr (by omega))
  rw [if_pos ⟨e1, e2⟩] at h
  refine ⟨fun v i => 0 ≤ i ∧ i ≤ p.length ∧ v = (chO p c q d i.toNat : Int), fun v i => (p.length - i).toNat, ⟨by omega, by omega, rfl⟩, ?_⟩
  rintro v i ⟨g0, g1, rfl⟩
  refine ⟨fun hd => ⟨fun v k => 0 ≤ k ∧ k ≤ q.length ∧ v = (chO p c q d i.toNat : Int) + (chI p c q d i.toNat k.toNat : Int), fun v k => (q.length - k).toNat, ⟨by omega, by omega, by simp [chI]⟩, ?_⟩, fun hd => ?_⟩
  · rintro v k ⟨k0, k1, rfl⟩
    have b1 := chO_big (c := c) (d := d) hp hq (show i.toNat ≤ p.length by omega)
    have b2 := chI_le p c q d i.toNat k.toNat
    refine ⟨fun he => ⟨⟨g0, hd⟩, ⟨k0, he⟩, fun _ => ⟨g0, by omega⟩, fun _ => ⟨k0, by omega⟩, fun hx => ⟨by omega, by omega, ⟨by omega, by omega, ?_⟩, (by dsimp only; omega)⟩, fun hx => ⟨by omega, ⟨by omega, by omega, ?_⟩, (by dsimp only; omega)⟩⟩, fun he => ⟨by omega, ⟨by omega, by omega, ?_⟩, (by dsimp only; omega)⟩⟩
    · rw [tn1 k0, chI, if_pos hx]; omega
    · rw [tn1 k0, chI, if_neg hx]; omega
    · rw [tn1 g0, chO, show k.toNat = q.length by omega]; omega
  · show Q _
    rwa [show i.toNat = p.length by omega]
theorem implCH_ok {p c q d : List Int} {Q : Int → Prop} (hp : p.length ≤ 1048576) (hq : q.length ≤ 1048576) (e1 : p.length = c.length) (e2 : q.length = d.length) (h : Q (chO p c q d p.length : Int)) : m_impl_changes p c q d Q := by
  refine ⟨fun v i => 0 ≤ i ∧ i ≤ p.length ∧ v = (chO p c q d i.toNat : Int), fun v i => (p.length - i).toNat, ⟨by omega, by omega, rfl⟩, ?_⟩
  rintro v i ⟨g0, g1, rfl⟩
  refine ⟨fun hd => ⟨⟨g0, hd⟩, fun v k => 0 ≤ k ∧ k ≤ q.length ∧ v = (chO p c q d i.toNat : Int) + (chI p c q d i.toNat k.toNat : Int), fun v k => (q.length - k).toNat, ⟨by omega, by omega, by simp [chI]⟩, ?_⟩, fun hd => ?_⟩
  · rintro v k ⟨k0, k1, rfl⟩
    have b1 := chO_big (c := c) (d := d) hp hq (show i.toNat ≤ p.length by omega)
    have b2 := chI_le p c q d i.toNat k.toNat
    refine ⟨fun he => ⟨⟨k0, he⟩, fun _ => ⟨g0, by omega⟩, fun _ => ⟨k0, by omega⟩, fun hx => ⟨by omega, by omega, ⟨by omega, by omega, ?_⟩, (by dsimp only; omega)⟩, fun hx => ⟨by omega, ⟨by omega, by omega, ?_⟩, (by dsimp only; omega)⟩⟩, fun he => ⟨by omega, ⟨by omega, by omega, ?_⟩, (by dsimp only; omega)⟩⟩
    · rw [tn1 k0, chI, if_pos hx]; omega
    · rw [tn1 k0, chI, if_neg hx]; omega
    · rw [tn1 g0, chO, show k.toNat = q.length by omega]; omega
  · show Q _
    rwa [show i.toNat = p.length by omega]
theorem implCB_ok {p c q d : List Int} {Q : Int → Prop} (hp : p.length ≤ 1048576) (hq : q.length ≤ 1048576) (h : Q (chB p c q d)) : m_impl_ChangesBetween p c q d Q := by
  unfold chB at h
  refine ⟨fun hc => by rw [if_neg (fun hx => by omega)] at h; exact h, fun hc => ?_⟩
  have e1 : p.length = c.length := Classical.byContradiction fun hn => hc (.inl (by omega))
  have e2 : q.length = d.length := Classical.byContradiction fun hn => hc (.inr (by omega))
  rw [if_pos ⟨e1, e2⟩] at h
  exact implCH_ok hp hq e1 e2 h
def nbC (t c : List (List Int)) (m : Nat) : Int := chB t[m]! c[m]! t[m + 1]! c[m + 1]!
def ccS (t c : List (List Int)) : Nat → Int
  | 0 => 0
  | m + 1 => ccS t c m + nbC t c m
def countC (t c : List (List Int)) : Int := if t.length = c.length ∧ (∀ m, m < t.length - 1 → 0 ≤ nbC t c m) then ccS t c (t.length - 1) else -1
abbrev smallT (t : List (List Int)) : Prop := t.length ≤ 1048576 ∧ ∀ i, i < t.length → (t[i]!).length ≤ 1048576
theorem nbC_rng {t c : List (List Int)} (ht : smallT t) {m : Nat} (hm : m + 1 < t.length) : -1 ≤ nbC t c m ∧ nbC t c m ≤ 1099511627776 := chB_rng (ht.2 _ (by omega)) (ht.2 _ hm)
theorem ccS_rng {t c : List (List Int)} (ht : smallT t) : ∀ k, k + 1 ≤ t.length → (∀ m, m < k → 0 ≤ nbC t c m) → 0 ≤ ccS t c k ∧ ccS t c k ≤ 1099511627776 * (k : Int)
  | 0, _, _ => by simp [ccS]
  | k + 1, hk, h => by
    have h1 := ccS_rng ht k (by omega) (fun m hm => h m (by omega))
    have h2 := nbC_rng (c := c) ht (m := k) (by omega)
    have h3 := h k (by omega)
    rw [ccS]; omega
theorem implCC_ok {t c : List (List Int)} {Q : Int → Prop} (ht : smallT t) (h : Q (countC t c)) : m_impl_CountChanges t c Q := by
  have ht1 := ht.1
  unfold countC at h
  refine ⟨fun hc => by rw [if_neg (fun hx => by have := hx.1; omega)] at h; exact h, fun hc => ?_⟩
  have e1 : t.length = c.length := by omega
  refine ⟨fun v i => 0 ≤ i ∧ (i.toNat ≤ t.length - 1) ∧ v = ccS t c i.toNat ∧ ∀ m, m < i.toNat → 0 ≤ nbC t c m, fun v i => (t.length - i).toNat, ⟨by omega, by omega, rfl, fun m hm => absurd hm (by omega)⟩, ?_⟩
  rintro v i ⟨g0, g1, rfl, g3⟩
  refine ⟨by omega, fun hd => ?_, fun hd => ?_⟩
  · have b := ccS_rng ht i.toNat (by omega) g3
    have hr := nbC_rng (c := c) ht (m := i.toNat) (by omega)
    have hnb : chB t[i.toNat]! c[i.toNat]! t[(i + 1).toNat]! c[(i + 1).toNat]! = nbC t c i.toNat := by unfold nbC; rw [tn1 g0]
    refine ⟨⟨g0, by omega⟩, ⟨g0, by omega⟩, by omega, ⟨by omega, hd⟩, by omega, ⟨by omega, by omega⟩, nbC t c i.toNat, implCB_ok (ht.2 _ (by omega)) (ht.2 _ (by omega)) hnb, fun hx => ?_, fun hx => ⟨by omega, by omega, ⟨by omega, by omega, ?_, ?_⟩, (by dsimp only; omega)⟩⟩
    · rw [if_neg (fun hy => by have := hy.2 i.toNat (by omega); omega)] at h; exact h
    · rw [tn1 g0]; rfl
    · exact lt_succ' (p := fun m => 0 ≤ nbC t c m) g0 g3 (by omega)
  · show Q _
    have e : i.toNat = t.length - 1 := by omega
    rw [e] at g3 ⊢
    rw [if_pos ⟨e1, g3⟩] at h
    exact h
end Go.Proofs.Ytddjkiefadiijaa
