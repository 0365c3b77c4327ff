/- Plain facts on twists: crossings one behind another, full turns, the way home. No program, no statement of the claim. -/
import Derived.Test.YtcgkcoogaieolaaPB7
namespace Go.Proofs.Ytcgkcoogaieolaa

/-- the order behind crossings, from any order -/
def fo (o : List Int) (l : List Cross) : List Int := l.foldl (fun o c => sw o c.1) o
theorem ord_fo (n : Int) (l : List Cross) : ord n l = fo (upL n) l := rfl
theorem fo_app (o : List Int) (l1 l2 : List Cross) : fo o (l1 ++ l2) = fo (fo o l1) l2 := by unfold fo; rw [List.foldl_append]
def hit (o : List Int) (k : Int) (a b : Nat) : Bool := decide ((o[k.toNat]! = (a : Int) ∧ o[(k + 1).toNat]! = (b : Int)) ∨ (o[k.toNat]! = (b : Int) ∧ o[(k + 1).toNat]! = (a : Int)))
/-- the twist of one pair -/
def twf (a b : Nat) : List Int → List Cross → Int
  | _, [] => 0
  | o, c :: l => (if hit o c.1 a b = true then sg c.2 else 0) + twf a b (sw o c.1) l
theorem twf_app (a b : Nat) : ∀ (l1 : List Cross) (o : List Int) (l2 : List Cross), twf a b o (l1 ++ l2) = twf a b o l1 + twf a b (fo o l1) l2
  | [], o, l2 => by simp [twf, fo]
  | c :: l1, o, l2 => by
    rw [List.cons_append, twf, twf, twf_app a b l1]
    show _ = _ + twf a b (fo (sw o c.1) l1) l2
    omega
theorem twT_twf {n : Int} {l : List Cross} (hc : crossesOk n l = true) {a b : Nat} (ha : a < n.toNat) (hb : b < n.toNat) : ∀ i, i ≤ l.length → ((tw n l i)[a]!)[b]! = twf a b (upL n) (l.take i)
  | 0, _ => by simp [tw, twf, ha, hb]
  | i + 1, hi => by
    have ih := twT_twf hc ha hb i (by omega)
    obtain ⟨p1, p2, p3⟩ := pAB hc (i := i) (by omega)
    have h1 := tw_get hc (i := i) (by omega) a b
    rw [h1, ih, take_snoc! l i (by omega), twf_app, ← ord_fo]
    have e : twf a b (ord n (l.take i)) [l[i]!] = if hit (ord n (l.take i)) (l[i]!).1 a b = true then sg (l[i]!).2 else 0 := by
      rw [twf, twf]; omega
    rw [e]
    have hA : (ord n (l.take i))[(l[i]!).1.toNat]! = pA n l i := rfl
    have hB : (ord n (l.take i))[((l[i]!).1 + 1).toNat]! = pB n l i := rfl
    have hh : hit (ord n (l.take i)) (l[i]!).1 a b = true ↔ (a = (pA n l i).toNat ∧ b = (pB n l i).toNat) ∨ (a = (pB n l i).toNat ∧ b = (pA n l i).toNat) := by
      unfold hit
      rw [decide_eq_true_eq, hA, hB]
      have q1 := p1.1
      have q2 := p2.1
      omega
    by_cases h : (a = (pA n l i).toNat ∧ b = (pB n l i).toNat)
    · rw [if_pos h, if_neg (by omega), if_pos (hh.2 (.inl h))]; omega
    · rw [if_neg h]
      by_cases h2 : (a = (pB n l i).toNat ∧ b = (pA n l i).toNat)
      · rw [if_pos h2, if_pos (hh.2 (.inr h2))]; omega
      · rw [if_neg h2, if_neg (fun hx => (hh.1 hx).elim h h2)]; omega
theorem twT_at {n : Int} {l : List Cross} (hc : crossesOk n l = true) {a b : Nat} (ha : a < n.toNat) (hb : b < n.toNat) : ((twT n l)[a]!)[b]! = twf a b (upL n) l := by
  have := twT_twf hc ha hb l.length (Nat.le_refl _)
  rwa [List.take_length] at this
/-- who stands before whom -/
def bef (n : Nat) (o : List Int) (a b : Nat) : Prop := ∃ i j, i < j ∧ j < n ∧ o[i]! = (a : Int) ∧ o[j]! = (b : Int)
theorem tau_tau (k i : Nat) : tau k (tau k i) = i := by unfold tau; split <;> (try split) <;> (try split) <;> omega
theorem bef_sw {n : Nat} {o : List Int} {k : Int} {a b : Nat} (hp : Pm n o) (h0 : 0 ≤ k) (h1 : k + 1 < n) (hh : hit o k a b = false) : bef n (sw o k) a b ↔ bef n o a b := by
  have hl : k + 1 < o.length := by rw [hp.len]; exact h1
  have hk1 : (k + 1).toNat = k.toNat + 1 := by omega
  unfold hit at hh
  have hh := of_decide_eq_false hh
  rw [hk1] at hh
  have key : ∀ i j, i < j → j < n → o[i]! = (a : Int) → o[j]! = (b : Int) → tau k.toNat i < tau k.toNat j := fun i j hij hj ea eb => by
    have : ¬ (i = k.toNat ∧ j = k.toNat + 1) := fun ⟨e1, e2⟩ => hh (.inl ⟨by rw [← e1]; exact ea, by rw [← e2]; exact eb⟩)
    unfold tau
    split <;> split <;> (try split) <;> (try split) <;> omega
  constructor
  · rintro ⟨i, j, hij, hj, ea, eb⟩
    rw [sw_get h0 hl] at ea eb
    have hti := tau_lt (k := k.toNat) (i := i) (n := n) (by omega) (by omega)
    have htj := tau_lt (k := k.toNat) (i := j) (n := n) (by omega) hj
    refine ⟨tau k.toNat i, tau k.toNat j, ?_, htj, ea, eb⟩
    have : ¬ (i = k.toNat ∧ j = k.toNat + 1) := fun ⟨e1, e2⟩ => by
      subst e1
      subst e2
      have t1 : tau k.toNat k.toNat = k.toNat + 1 := by unfold tau; rw [if_neg (by omega), if_pos rfl]
      have t2 : tau k.toNat (k.toNat + 1) = k.toNat := by unfold tau; rw [if_pos rfl]
      rw [t1] at ea
      rw [t2] at eb
      exact hh (.inr ⟨eb, ea⟩)
    unfold tau
    split <;> split <;> (try split) <;> (try split) <;> omega
  · rintro ⟨i, j, hij, hj, ea, eb⟩
    refine ⟨tau k.toNat i, tau k.toNat j, key i j hij hj ea eb, tau_lt (by omega) hj, ?_, ?_⟩
    · rw [sw_get h0 hl, tau_tau]; exact ea
    · rw [sw_get h0 hl, tau_tau]; exact eb
theorem bef_hit {n : Nat} {o : List Int} {k : Int} {a b : Nat} (hp : Pm n o) (h0 : 0 ≤ k) (h1 : k + 1 < n) (hh : hit o k a b = true) : bef n (sw o k) a b ↔ ¬ bef n o a b := by
  have hl : k + 1 < o.length := by rw [hp.len]; exact h1
  have hk1 : (k + 1).toNat = k.toNat + 1 := by omega
  unfold hit at hh
  have hh := of_decide_eq_true hh
  rw [hk1] at hh
  have t1 : tau k.toNat k.toNat = k.toNat + 1 := by unfold tau; rw [if_neg (by omega), if_pos rfl]
  have t2 : tau k.toNat (k.toNat + 1) = k.toNat := by unfold tau; rw [if_pos rfl]
  have g1 : (sw o k)[k.toNat]! = o[k.toNat + 1]! := by rw [sw_get h0 hl, t1]
  have g2 : (sw o k)[k.toNat + 1]! = o[k.toNat]! := by rw [sw_get h0 hl, t2]
  have hps := hp.sw h0 h1
  rcases hh with ⟨ea, eb⟩ | ⟨eb, ea⟩
  · refine ⟨fun ⟨i, j, hij, hj, e1, e2⟩ => ?_, fun hn => absurd ⟨k.toNat, k.toNat + 1, by omega, by omega, ea, eb⟩ hn⟩
    have i1 := hps.inj i (k.toNat + 1) (by omega) (by omega) (by rw [e1, g2, ea])
    have i2 := hps.inj j k.toNat hj (by omega) (by rw [e2, g1, eb])
    omega
  · refine ⟨fun _ ⟨i, j, hij, hj, e1, e2⟩ => ?_, fun _ => ⟨k.toNat, k.toNat + 1, by omega, by omega, by rw [g1]; exact ea, by rw [g2]; exact eb⟩⟩
    have i1 := hp.inj i (k.toNat + 1) (by omega) (by omega) (by rw [e1, ea])
    have i2 := hp.inj j k.toNat hj (by omega) (by rw [e2, eb])
    omega
def inC (n : Nat) (l : List Cross) : Prop := ∀ c, c ∈ l → 0 ≤ c.1 ∧ c.1 + 1 < (n : Int)
theorem fo_pm {n : Nat} : ∀ {l : List Cross} {o : List Int}, Pm n o → inC n l → Pm n (fo o l)
  | [], o, h, _ => h
  | c :: l, o, h, hc => by
    have h1 := hc c (by simp)
    exact fo_pm (l := l) (h.sw h1.1 (by omega)) (fun d hd => hc d (List.mem_cons_of_mem _ hd))
/-- a twist is even just if the two stand as before -/
theorem twf_even {n : Nat} {a b : Nat} : ∀ {l : List Cross} {o : List Int}, Pm n o → inC n l → (twf a b o l % 2 = 0 ↔ (bef n o a b ↔ bef n (fo o l) a b))
  | [], o, _, _ => by simp [twf, fo]
  | c :: l, o, h, hc => by
    have h1 := hc c (by simp)
    have ih := twf_even (a := a) (b := b) (l := l) (o := sw o c.1) (h.sw h1.1 (by omega)) (fun d hd => hc d (List.mem_cons_of_mem _ hd))
    have hs := sg_or c.2
    show twf a b o (c :: l) % 2 = 0 ↔ (bef n o a b ↔ bef n (fo (sw o c.1) l) a b)
    rw [twf]
    cases hh : hit o c.1 a b
    · have hb := bef_sw h h1.1 (by omega) hh
      rw [if_neg (by simp), Int.zero_add, ih, hb]
    · have hb := bef_hit h h1.1 (by omega) hh
      rw [if_pos rfl]
      have e : (sg c.2 + twf a b (sw o c.1) l) % 2 = 0 ↔ ¬ (twf a b (sw o c.1) l % 2 = 0) := by omega
      rw [e, ih, hb]
      by_cases x : bef n o a b <;> by_cases y : bef n (fo (sw o c.1) l) a b <;> simp [x, y]
theorem twf_rep {a b : Nat} {o : List Int} {x : List Cross} (h : fo o x = o) : ∀ m : Nat, fo o (rep m x) = o ∧ twf a b o (rep m x) = (m : Int) * twf a b o x
  | 0 => by simp [rep, fo, twf]
  | m + 1 => by
    obtain ⟨h1, h2⟩ := twf_rep (a := a) (b := b) h m
    rw [rep_step, fo_app, twf_app, h1, h, h2]
    refine ⟨rfl, ?_⟩
    rw [show ((m + 1 : Nat) : Int) = (m : Int) + 1 by omega, Int.add_mul, Int.one_mul]
theorem inv_nn (o : List Int) : ∀ m, 0 ≤ sumTo (cI o) m
  | 0 => Int.le_refl _
  | m + 1 => by
    have h1 := inv_nn o m
    have h2 := (cI_bd o m).1
    rw [sumTo]; omega
/-- the way home leads home -/
theorem ss_home {n : Nat} : ∀ (m : Nat) {o : List Int}, Pm n o → (inv o).toNat = m → fo o ((ss o).map fun k => (k, true)) = upL n ∧ inC n ((ss o).map fun k => (k, true))
  | 0, o, hp, hm => by
    have h0 : inv o = 0 := by
      have h3 : 0 ≤ inv o := inv_nn o _
      omega
    rw [ss_zero h0]
    exact ⟨inv0 hp h0, fun c hc => by cases hc⟩
  | m + 1, o, hp, hm => by
    obtain ⟨e, hp2, hi⟩ := ss_pos hp (by omega)
    have hf := fd_spec hp (by omega)
    obtain ⟨h1, h2⟩ := ss_home m hp2 (by omega)
    rw [e]
    refine ⟨h1, fun c hc => ?_⟩
    rcases List.mem_cons.1 hc with rfl | hc
    · exact ⟨by dsimp only; omega, by dsimp only; omega⟩
    · exact h2 c hc
end Go.Proofs.Ytcgkcoogaieolaa
