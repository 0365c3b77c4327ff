/- Plain laws over the models: the first casting, all castings, most cast, safe casts. No program, no statement of the claim. -/
import Derived.Test.YtddjkiefadiijaaPG1
import Derived.Test.YtddjkiefadiijaaPD3
namespace Go.Proofs.Ytddjkiefadiijaa

def allC (l : List PlayerC) (ps : List Int) : List (List Int) := ext l ps ps.length []
def fcL (l : List PlayerC) (ps : List Int) : List Int := if okB l ps = true then hd0 (allC l ps) else []
def fcB (l : List PlayerC) (ps : List Int) : Bool := okB l ps && ne0 (allC l ps)
theorem fcB_iff {l : List PlayerC} {ps : List Int} : fcB l ps = true ↔ okB l ps = true ∧ allC l ps ≠ [] := by unfold fcB; rw [Bool.and_eq_true, ne0_iff]
theorem ldM_nil (l : List PlayerC) : ldM l [] = List.replicate l.length 0 := by
  apply list_ext! (by simp [ldM])
  intro i hi
  have hi' : i < l.length := by simpa [ldM] using hi
  rw [ldM_get hi']; simp [cntE, hi']
theorem frM_nil (l : List PlayerC) : frM l [] = l.map fun p => p.2 := by
  apply list_ext! (by simp [frM])
  intro i hi
  have hi' : i < l.length := by simpa [frM] using hi
  rw [frM_get hi']; simp [cntE, hi']
theorem cntOk_nil {l : List PlayerC} (h : playersOk l = true) : cntOk l [] := fun k hk => by
  have := plO_free h hk
  show ((0 : Nat) : Int) ≤ _
  omega
theorem specFC_ok {l : List PlayerC} {ps : List Int} {Q : List Int → Bool → Prop} (hl : l.length ≤ 1048576) (hs : szPl l ≤ 1048576) (hp : ps.length ≤ 1048576) (h : Q (fcL l ps) (fcB l ps)) : m_spec_FirstCasting l ps Q := by
  unfold fcL fcB at h
  refine specPO_ok hl hs ⟨_, fun _ => rising_ok (by omega) rfl, fun hc => ?_, fun hc => ?_⟩
  · have c : ¬ okB l ps = true := fun hx => by have := okB_iff.1 hx; rcases hc with hc | hc; exact hc this.1; exact hc this.2
    rw [if_neg c, Bool.eq_false_iff.2 c] at h; exact h
  · have hpo : playersOk l = true := Classical.byContradiction fun hn => hc (.inl hn)
    have c : okB l ps = true := okB_iff.2 ⟨hpo, Classical.byContradiction fun hn => hc (.inr hn)⟩
    rw [if_pos c, c] at h
    refine ⟨by omega, ps.length + 1, ?_⟩
    rw [show Int.toNat (l.length : Int) = l.length by omega, ← ldM_nil]
    exact l13_ok (plO_size hpo).2 hs (pup_len (okB_iff.1 c).2) ps.length [] _ (by simp) (cntOk_nil hpo) (fun k hk => (plO_free hpo hk).2) h
theorem fcL_len (l : List PlayerC) (ps : List Int) : (fcL l ps).length ≤ 7 := by
  unfold fcL
  split
  · rename_i c
    have h7 := pup_len (okB_iff.1 c).2
    have key : ∀ f d c', c' ∈ ext l ps f d → c'.length = d.length + f := by
      intro f
      induction f with
      | zero => intro d c' h; rw [List.mem_singleton.1 h]; rfl
      | succ f ih =>
        intro d c' h
        obtain ⟨p, _, hp⟩ := List.mem_flatMap.1 h
        split at hp
        · have := ih _ _ hp; rw [List.length_append, List.length_singleton] at this; omega
        · cases hp
    unfold allC
    cases hq : ext l ps ps.length [] with
    | nil => simp [hd0]
    | cons a b =>
      have := key ps.length [] a (by rw [hq]; simp)
      simp [hd0] at this ⊢
      omega
  · simp

/- most cast -/
def mcS (l : List PlayerC) (ps : List Int) : Nat → Int
  | 0 => 0
  | s + 1 => if ((prt ps (s : Int) ps.length).length : Int) ≤ mcS l ps s then mcS l ps s else if fcB l (prt ps (s : Int) ps.length) = true then ((prt ps (s : Int) ps.length).length : Int) else mcS l ps s
def mostC (l : List PlayerC) (ps : List Int) : Int := if okB l ps = true then mcS l ps (2 ^ ps.length) else -1
/- safe casts -/
theorem wpL_len (l : List PlayerC) (k : Int) : (wpL l k).length = l.length := by unfold wpL; split <;> simp
theorem wpL_get {l : List PlayerC} {k : Int} (hok : playersOk l = true) (hk : inN k l) {i : Nat} (hi : i < l.length) : (wpL l k)[i]! = if k.toNat = i then ((l[i]!).1, 0) else l[i]! := by
  unfold wpL
  rw [if_pos ⟨hok, hk⟩, gset _ _ _ (by omega)]
  by_cases h : k.toNat = i
  · subst h; simp
  · rw [if_neg h, if_neg h]
theorem sumN_set {f : PlayerC → Nat} {l : List PlayerC} {i : Nat} {x : PlayerC} (hi : i < l.length) : sumN f (l.set i x) + f l[i]! = sumN f l + f x := by
  induction l generalizing i with
  | nil => simp at hi
  | cons a l ih =>
    cases i with
    | zero => simp [sumN]; omega
    | succ i =>
      have := ih (i := i) (by simpa using hi)
      simp only [List.set_cons_succ, sumN, List.getElem!_cons_succ]; omega
theorem wpL_sz (l : List PlayerC) (k : Int) : szPl (wpL l k) = szPl l := by
  unfold wpL
  split
  · rename_i hc
    have h1 := hc.2
    have := sumN_set (f := plN) (l := l) (i := k.toNat) (x := ((l[k.toNat]!).1, 0)) (by omega)
    have e : plN ((l[k.toNat]!).1, (0 : Int)) = plN l[k.toNat]! := rfl
    unfold szPl
    omega
  · rfl
theorem ext_mono {l1 l2 : List PlayerC} {ps : List Int} (hl : l1.length = l2.length) (ho : ∀ c p, p < l1.length → okP l1 ps c p = true → okP l2 ps c p = true) : ∀ f c, ext l1 ps f c ≠ [] → ext l2 ps f c ≠ []
  | 0, c, _ => by simp [ext]
  | f + 1, c, h => by
    intro h2
    apply h
    apply List.eq_nil_iff_forall_not_mem.2
    intro x hx
    obtain ⟨p, hp, hx⟩ := List.mem_flatMap.1 hx
    split at hx
    · rename_i hok
      have hp' := List.mem_range.1 hp
      have hne := ext_mono hl ho f _ (List.ne_nil_of_mem hx)
      obtain ⟨y, hy⟩ := List.exists_mem_of_ne_nil _ hne
      have : y ∈ ext l2 ps (f + 1) c := List.mem_flatMap.2 ⟨p, List.mem_range.2 (by omega), by rw [if_pos (ho c p hp' hok)]; exact hy⟩
      rw [h2] at this; cases this
    · cases hx
theorem wp_fc {l : List PlayerC} {ps : List Int} {k : Int} (hok : okB l ps = true) (hk : inN k l) (h : fcB (wpL l k) ps = true) : fcB l ps = true := by
  have hpo := (okB_iff.1 hok).1
  refine fcB_iff.2 ⟨hok, ext_mono (wpL_len l k) (fun c p hp ho => ?_) _ _ (fcB_iff.1 h).2⟩
  rw [wpL_len] at hp
  obtain ⟨h1, h2⟩ := okP_iff.1 ho
  have hf := plO_free hpo hp
  rw [wpL_get hpo hk hp] at h1 h2
  by_cases hkp : k.toNat = p
  · rw [if_pos hkp] at h1 h2
    exact okP_iff.2 ⟨by dsimp only at h1; omega, h2⟩
  · rw [if_neg hkp] at h1 h2
    exact okP_iff.2 ⟨h1, h2⟩
def safeB (l : List PlayerC) (ps : List Int) : Bool := okB l ps && decide (∀ k, k < l.length → fcB (wpL l (k : Int)) ps = true)
theorem safeB_iff {l : List PlayerC} {ps : List Int} : safeB l ps = true ↔ okB l ps = true ∧ ∀ k, k < l.length → fcB (wpL l (k : Int)) ps = true := by unfold safeB; rw [Bool.and_eq_true, decide_eq_true_eq]
end Go.Proofs.Ytddjkiefadiijaa
