/- Plain laws over the models: castings. No program, no statement of the claim. -/
import Derived.Test.YtddjkiefadiijaaPD2
namespace Go.Proofs.Ytddjkiefadiijaa

theorem get_app {α : Type} [Inhabited α] {c : List α} {p : α} {i : Nat} (h : i < c.length) : (c ++ [p])[i]! = c[i]! := by simp [List.getElem!_eq_getElem?_getD, List.getElem?_append, h]
theorem get_last {α : Type} [Inhabited α] {c : List α} {p : α} : (c ++ [p])[c.length]! = p := by simp [List.getElem!_eq_getElem?_getD]
theorem cntE_congr {c d : List Int} {k : Int} : ∀ {m : Nat}, (∀ i, i < m → c[i]! = d[i]!) → cntE c k m = cntE d k m
  | 0, _ => rfl
  | m + 1, h => by rw [cntE, cntE, cntE_congr (m := m) (fun i hi => h i (by omega)), h m (by omega)]
theorem cntE_app (c : List Int) (p k : Int) : cntE (c ++ [p]) k (c ++ [p]).length = cntE c k c.length + if p = k then 1 else 0 := by
  rw [List.length_append, List.length_singleton, cntE, cntE_congr (d := c) (fun i hi => get_app hi), get_last]
/-- player p may take the next puppet -/
def okP (l : List PlayerC) (ps c : List Int) (p : Nat) : Bool := decide ((cntE c p c.length : Int) < (l[p]!).2) && knB l[p]! ps[c.length]!
theorem okP_iff {l : List PlayerC} {ps c : List Int} {p : Nat} : okP l ps c p = true ↔ (cntE c p c.length : Int) < (l[p]!).2 ∧ knB l[p]! ps[c.length]! = true := by unfold okP; rw [Bool.and_eq_true, decide_eq_true_eq]
/-- all castings that begin with c, in order -/
def ext (l : List PlayerC) (ps : List Int) : Nat → List Int → List (List Int)
  | 0, c => [c]
  | f + 1, c => (List.range l.length).flatMap fun p => if okP l ps c p = true then ext l ps f (c ++ [(p : Int)]) else []
def exS (l : List PlayerC) (ps : List Int) (f : Nat) (c : List Int) (m : Nat) : List (List Int) := (List.range m).flatMap fun p => if okP l ps c p = true then ext l ps f (c ++ [(p : Int)]) else []
theorem exS_step (l : List PlayerC) (ps : List Int) (f : Nat) (c : List Int) (m : Nat) : exS l ps f c (m + 1) = exS l ps f c m ++ if okP l ps c m = true then ext l ps f (c ++ [(m : Int)]) else [] := by
  unfold exS; rw [List.range_succ, List.flatMap_append]; simp
theorem ext_len {l : List PlayerC} {ps : List Int} (hl : l.length ≤ 6) : ∀ f c, (ext l ps f c).length ≤ 6 ^ f
  | 0, c => by simp [ext]
  | f + 1, c => by
    have : ∀ m, (exS l ps f c m).length ≤ m * 6 ^ f := by
      intro m
      induction m with
      | zero => simp [exS]
      | succ m ih =>
        have := ext_len (ps := ps) hl f (c ++ [(m : Int)])
        rw [exS_step, List.length_append, Nat.succ_mul]
        split <;> simp <;> omega
    have h1 := this l.length
    have h2 := Nat.mul_le_mul_right (6 ^ f) hl
    show (exS l ps f c l.length).length ≤ _
    rw [Nat.pow_succ]; omega
/-- hands that are taken, hands that are left -/
def ldM (l : List PlayerC) (c : List Int) : List Int := (List.range l.length).map fun k : Nat => (cntE c k c.length : Int)
def frM (l : List PlayerC) (c : List Int) : List Int := (List.range l.length).map fun k : Nat => (l[k]!).2 - (cntE c k c.length : Int)
theorem ldM_len (l : List PlayerC) (c : List Int) : (ldM l c).length = l.length := by simp [ldM]
theorem frM_len (l : List PlayerC) (c : List Int) : (frM l c).length = l.length := by simp [frM]
theorem ldM_get {l : List PlayerC} {c : List Int} {k : Nat} (h : k < l.length) : (ldM l c)[k]! = (cntE c k c.length : Int) := by simp [ldM, h]
theorem frM_get {l : List PlayerC} {c : List Int} {k : Nat} (h : k < l.length) : (frM l c)[k]! = (l[k]!).2 - (cntE c k c.length : Int) := by simp [frM, h]
theorem list_ext! {x y : List Int} (hl : x.length = y.length) (h : ∀ i, i < x.length → x[i]! = y[i]!) : x = y := by
  apply List.ext_getElem hl
  intro i h1 h2
  have := h i h1
  simpa [h1, h2] using this
theorem ldM_up {l : List PlayerC} {c : List Int} {p : Nat} (hp : p < l.length) : (ldM l c).set p ((ldM l c)[p]! + 1) = ldM l (c ++ [(p : Int)]) := by
  apply list_ext! (by simp [ldM])
  intro i hi
  have hi' : i < l.length := by simpa [ldM] using hi
  rw [gset _ _ _ (by rw [ldM_len]; exact hp), ldM_get hi', ldM_get hi', ldM_get hp, cntE_app]
  by_cases h : p = i
  · subst h; rw [if_pos rfl, if_pos rfl]; omega
  · rw [if_neg h, if_neg (by omega)]; omega
theorem ldM_down {l : List PlayerC} {c : List Int} {p : Nat} (hp : p < l.length) : (ldM l (c ++ [(p : Int)])).set p ((ldM l (c ++ [(p : Int)]))[p]! - 1) = ldM l c := by
  apply list_ext! (by simp [ldM])
  intro i hi
  have hi' : i < l.length := by simpa [ldM] using hi
  rw [gset _ _ _ (by rw [ldM_len]; exact hp), ldM_get hi', ldM_get hi', ldM_get hp, cntE_app, cntE_app]
  by_cases h : p = i
  · subst h; rw [if_pos rfl, if_pos rfl]; omega
  · rw [if_neg h, if_neg (by omega)]; omega
theorem frM_down {l : List PlayerC} {c : List Int} {p : Nat} (hp : p < l.length) : (frM l c).set p ((frM l c)[p]! - 1) = frM l (c ++ [(p : Int)]) := by
  apply list_ext! (by simp [frM])
  intro i hi
  have hi' : i < l.length := by simpa [frM] using hi
  rw [gset _ _ _ (by rw [frM_len]; exact hp), frM_get hi', frM_get hi', frM_get hp, cntE_app]
  by_cases h : p = i
  · subst h; rw [if_pos rfl, if_pos rfl]; omega
  · rw [if_neg h, if_neg (by omega)]; omega
theorem frM_up {l : List PlayerC} {c : List Int} {p : Nat} (hp : p < l.length) : (frM l (c ++ [(p : Int)])).set p ((frM l (c ++ [(p : Int)]))[p]! + 1) = frM l c := by
  apply list_ext! (by simp [frM])
  intro i hi
  have hi' : i < l.length := by simpa [frM] using hi
  rw [gset _ _ _ (by rw [frM_len]; exact hp), frM_get hi', frM_get hi', frM_get hp, cntE_app, cntE_app]
  by_cases h : p = i
  · subst h; rw [if_pos rfl, if_pos rfl]; omega
  · rw [if_neg h, if_neg (by omega)]; omega
/-- no player has more than his free hands -/
def cntOk (l : List PlayerC) (c : List Int) : Prop := ∀ k, k < l.length → (cntE c k c.length : Int) ≤ (l[k]!).2
theorem cntOk_next {l : List PlayerC} {ps c : List Int} {p : Nat} (h : cntOk l c) (ho : okP l ps c p = true) : cntOk l (c ++ [(p : Int)]) := by
  intro k hk
  have h1 := (okP_iff.1 ho).1
  have h2 := h k hk
  rw [cntE_app]
  by_cases hpk : (p : Int) = (k : Int)
  · have : p = k := by omega
    subst this; rw [if_pos rfl]; omega
  · rw [if_neg hpk]; omega
def hd0 (x : List (List Int)) : List Int := x.headD []
def ne0 (x : List (List Int)) : Bool := !x.isEmpty
theorem ne0_iff {x : List (List Int)} : ne0 x = true ↔ x ≠ [] := by unfold ne0; cases x <;> simp
theorem hd0_app {x y : List (List Int)} (h : x ≠ []) : hd0 (x ++ y) = hd0 x := by cases x with
  | nil => exact absurd rfl h
  | cons a x => rfl
theorem exS_rest {l : List PlayerC} {ps : List Int} {f : Nat} {c : List Int} {m : Nat} : ∀ d, exS l ps f c m ≠ [] → hd0 (exS l ps f c (m + d)) = hd0 (exS l ps f c m) ∧ exS l ps f c (m + d) ≠ []
  | 0, h => ⟨rfl, h⟩
  | d + 1, h => by
    obtain ⟨h1, h2⟩ := exS_rest d h
    have e : m + (d + 1) = m + d + 1 := by omega
    rw [e, exS_step, hd0_app h2]
    exact ⟨h1, fun hx => h2 (List.append_eq_nil_iff.1 hx).1⟩

/- the reference's search -/
theorem l13_ok {l : List PlayerC} {ps : List Int} (hl6 : l.length ≤ 6) (hs : szPl l ≤ 1048576) (hp7 : ps.length ≤ 7) :
    ∀ (f : Nat) (c : List Int) (Q : List Int → Bool → List Int → List Int → Prop), c.length + f = ps.length → cntOk l c → (∀ k, k < l.length → (l[k]!).2 ≤ 2) → Q (hd0 (ext l ps f c)) (ne0 (ext l ps f c)) c (ldM l c) → m_spec_l13Search (f + 1) l ps c (ldM l c) Q := by
  intro f
  induction f with
  | zero =>
    intro c Q hlen hok hfr h
    refine ⟨fun _ => ⟨by omega, h⟩, fun hn => absurd (by omega) hn⟩
  | succ f ih =>
    intro c Q hlen hok hfr h
    refine ⟨fun hc => absurd hc (by omega), fun _ => ⟨fun x v => 0 ≤ v ∧ v ≤ l.length ∧ x = ldM l c ∧ exS l ps f c v.toNat = [], fun x v => (l.length - v).toNat, ⟨by omega, by omega, rfl, rfl⟩, ?_⟩⟩
    rintro x v ⟨v0, v1, rfl, v2⟩
    have hll := ldM_len l c
    refine ⟨fun hd => ?_, fun hd => ?_⟩
    · have hv : v.toNat < l.length := by omega
      have hvv : ((v.toNat : Nat) : Int) = v := by omega
      have hg := ldM_get (c := c) hv
      have hxi : ix v (ldM l c).length := ⟨v0, by omega⟩
      have hcl := cntE_le c ((v.toNat : Nat) : Int) c.length
      have hps : ix (c.length : Int) ps.length := ⟨by omega, by omega⟩
      refine ⟨hxi, ⟨v0, hd⟩, fun _ => ⟨v0, hd⟩, fun _ => hps, _, fun _ => specKn_ok (plN_le hs v.toNat hv) rfl, fun hb => ?_, fun hb => ?_⟩
      · refine ⟨by omega, ⟨by omega, by omega, rfl, ?_⟩, (by dsimp only; omega)⟩
        rw [tn1 v0, exS_step, v2, if_neg (fun ho => by
          have := okP_iff.1 ho
          rcases hb with hb | hb
          · omega
          · exact hb this.2)]; rfl
      · have ho : okP l ps c v.toNat = true := okP_iff.2 ⟨by
          have : ¬ (ldM l c)[v.toNat]! ≥ (l[v.toNat]!).2 := fun hx => hb (.inl hx)
          omega, Classical.byContradiction fun hn => hb (.inr hn)⟩
        have hup := ldM_up (c := c) hv
        have hdn := ldM_down (c := c) hv
        have hll2 := ldM_len l (c ++ [((v.toNat : Nat) : Int)])
        have hg2 := ldM_get (c := c ++ [((v.toNat : Nat) : Int)]) hv
        have hcl2 := cntE_le (c ++ [((v.toNat : Nat) : Int)]) ((v.toNat : Nat) : Int) (c ++ [((v.toNat : Nat) : Int)]).length
        rw [List.length_append, List.length_singleton] at hcl2
        have hg2' := hg2
        rw [List.length_append, List.length_singleton] at hg2'
        have hix2 : ix v (ldM l (c ++ [((v.toNat : Nat) : Int)])).length := ⟨v0, by omega⟩
        refine ⟨hxi, by omega, hxi, by omega, by omega, ?_⟩
        rw [hup]
        have e2 : c ++ [v] = c ++ [((v.toNat : Nat) : Int)] := by rw [hvv]
        rw [e2]
        refine ih (c ++ [((v.toNat : Nat) : Int)]) _ (by rw [List.length_append, List.length_singleton]; omega) (cntOk_next hok ho) hfr ⟨hix2, by omega, hix2, fun hr => ?_, fun hr => ⟨by omega, ⟨by omega, by omega, by rw [hdn], ?_⟩, (by dsimp only; omega)⟩⟩
        · rw [hdn]
          have hne := ne0_iff.1 hr
          have e3 : exS l ps f c (v.toNat + 1) = ext l ps f (c ++ [((v.toNat : Nat) : Int)]) := by rw [exS_step, v2, if_pos ho]; rfl
          have h4 := exS_rest (l := l) (ps := ps) (f := f) (c := c) (m := v.toNat + 1) (l.length - (v.toNat + 1)) (by rw [e3]; exact hne)
          rw [show v.toNat + 1 + (l.length - (v.toNat + 1)) = l.length by omega, e3] at h4
          have e5 : ext l ps (f + 1) c = exS l ps f c l.length := rfl
          rw [e5, h4.1, ne0_iff.2 h4.2] at h
          exact h
        · rw [tn1 v0, exS_step, v2, if_pos ho]
          cases hq : ext l ps f (c ++ [((v.toNat : Nat) : Int)]) with
          | nil => rfl
          | cons a b => exact absurd (by rw [hq]; rfl) hr
    · show Q [] false c (ldM l c)
      have e5 : ext l ps (f + 1) c = exS l ps f c l.length := rfl
      rw [e5, show l.length = v.toNat by omega, v2] at h
      exact h

/- the program's way: a function for each casting, until it says no -/
theorem copy_ok {c : List Int} {Q : List Int → Prop} (hc : c.length ≤ 1048576) (h : Q c) : m_impl_copyOf c Q := ⟨by omega, h⟩
theorem take_app {c : List Int} {p : Int} : (c ++ [p]).take (Int.toNat (((c ++ [p]).length : Int) - 1)) = c := by
  have : Int.toNat (((c ++ [p]).length : Int) - 1) = c.length := by rw [List.length_append, List.length_singleton]; omega
  rw [this, List.take_append_of_le_length (Nat.le_refl _), List.take_length]
theorem restC_ok {l : List PlayerC} {ps : List Int} (hl6 : l.length ≤ 6) (hs : szPl l ≤ 1048576) (hp7 : ps.length ≤ 7) (hfr : ∀ k, k < l.length → 0 ≤ (l[k]!).2 ∧ (l[k]!).2 ≤ 2) :
    ∀ (f : Nat) (c : List Int) (o : List (List Int)) (Q : Bool → List Int → List Int → List (List Int) → Prop), c.length + f = ps.length → cntOk l c → o.length + (ext l ps f c).length ≤ 1000000 →
      Q true c (frM l c) (o ++ ext l ps f c) → m_impl_castings_1_CastingsOf_1 (f + 1) c ps l (frM l c) o Q := by
  intro f
  induction f with
  | zero =>
    intro c o Q hlen hok hbig h
    have hb1 : (ext l ps 0 c).length = 1 := rfl
    exact ⟨fun _ => copy_ok (by omega) ⟨by omega, h⟩, fun hn => absurd (by omega) hn⟩
  | succ f ih =>
    intro c o Q hlen hok hbig h
    have e5 : ext l ps (f + 1) c = exS l ps f c l.length := rfl
    have hmono : ∀ m d, (exS l ps f c m).length ≤ (exS l ps f c (m + d)).length := by
      intro m d
      induction d with
      | zero => exact Nat.le_refl _
      | succ d ihd =>
        have e : m + (d + 1) = m + d + 1 := by omega
        rw [e, exS_step, List.length_append]; omega
    refine ⟨fun hc => absurd hc (by omega), fun _ => ⟨fun v o' x y => 0 ≤ v ∧ v ≤ l.length ∧ o' = o ++ exS l ps f c v.toNat ∧ x = frM l c ∧ y = c, fun v _ _ _ => (l.length - v).toNat, ⟨by omega, by omega, by simp [exS], rfl, rfl⟩, ?_⟩⟩
    rintro v o' x y ⟨v0, v1, rfl, rfl, rfl⟩
    have hll := frM_len l y
    refine ⟨fun hd => ?_, fun hd => ?_⟩
    · have hv : v.toNat < l.length := by omega
      have hvv : ((v.toNat : Nat) : Int) = v := by omega
      have hg := frM_get (c := y) hv
      have hxi : ix v (frM l y).length := ⟨v0, by omega⟩
      have hcl := cntE_le y ((v.toNat : Nat) : Int) y.length
      have hps : ix (y.length : Int) ps.length := ⟨by omega, by omega⟩
      have hf := hfr _ hv
      have hco := hok _ hv
      refine ⟨⟨v0, hd⟩, hxi, fun _ => hps, _, fun _ => indexOf_ok (by have := plN_le hs v.toNat hv; omega) rfl, fun hb => ?_, fun hb => ?_⟩
      · refine ⟨by omega, ⟨by omega, by omega, ?_, rfl, rfl⟩, (by dsimp only; omega)⟩
        rw [tn1 v0, exS_step, if_neg (fun ho => by
          have := okP_iff.1 ho
          rcases hb with hb | hb
          · omega
          · have := ix_kn.2 this.2; rw [show Int.toNat (y.length : Int) = y.length by omega] at hb; omega), List.append_nil]
      · have ho : okP l ps y v.toNat = true := okP_iff.2 ⟨by
          have : ¬ (frM l y)[v.toNat]! = 0 := fun hx => hb (.inl hx)
          omega, ix_kn.1 (by
          have : ¬ ixOf (l[v.toNat]!).1 ps[Int.toNat (y.length : Int)]! < 0 := fun hx => hb (.inr hx)
          rw [show Int.toNat (y.length : Int) = y.length by omega] at this; omega)⟩
        have hdn := frM_down (c := y) hv
        have hup := frM_up (c := y) hv
        have hll2 := frM_len l (y ++ [((v.toNat : Nat) : Int)])
        have hg2 := frM_get (c := y ++ [((v.toNat : Nat) : Int)]) hv
        have hcl2 := cntE_le (y ++ [((v.toNat : Nat) : Int)]) ((v.toNat : Nat) : Int) (y ++ [((v.toNat : Nat) : Int)]).length
        have hix2 : ix v (frM l (y ++ [((v.toNat : Nat) : Int)])).length := ⟨v0, by omega⟩
        have hlx : (y ++ [((v.toNat : Nat) : Int)]).length = y.length + 1 := by rw [List.length_append, List.length_singleton]
        have hta : (y ++ [((v.toNat : Nat) : Int)]).take (Int.toNat (((y ++ [((v.toNat : Nat) : Int)]).length : Int) - 1)) = y := take_app
        refine ⟨hxi, by omega, hxi, by omega, ?_⟩
        rw [hdn]
        have e2 : y ++ [v] = y ++ [((v.toNat : Nat) : Int)] := by rw [hvv]
        rw [e2]
        have e3 : exS l ps f y (v.toNat + 1) = exS l ps f y v.toNat ++ ext l ps f (y ++ [((v.toNat : Nat) : Int)]) := by rw [exS_step, if_pos ho]
        have hm := hmono (v.toNat + 1) (l.length - (v.toNat + 1))
        rw [show v.toNat + 1 + (l.length - (v.toNat + 1)) = l.length by omega, e3, List.length_append] at hm
        rw [e5] at hbig
        refine ih (y ++ [((v.toNat : Nat) : Int)]) _ _ (by omega) (cntOk_next hok ho) (by rw [List.length_append]; omega) ⟨by omega, by omega, hix2, by omega, hix2, fun hr => absurd rfl hr, fun hr => ?_⟩
        rw [hta, hup]
        refine ⟨by omega, ⟨by omega, by omega, ?_, rfl, rfl⟩, (by dsimp only; omega)⟩
        rw [tn1 v0, e3, List.append_assoc]
    · rw [e5, show l.length = v.toNat by omega] at h
      exact h
end Go.Proofs.Ytddjkiefadiijaa
