/- Plain facts on twists: undoing, reducing, sums over all pairs. No program, no statement of the claim. -/
import Derived.Test.YtcgkcoogaieolaaPBV
namespace Go.Proofs.Ytcgkcoogaieolaa

theorem sw_sw {n : Nat} {o : List Int} {k : Int} (hp : Pm n o) (h0 : 0 ≤ k) (h1 : k + 1 < (n : Int)) : sw (sw o k) k = o := by
  have hl : k + 1 < (o.length : Int) := by rw [hp.len]; exact h1
  have hl2 : k + 1 < ((sw o k).length : Int) := by rw [sw_len]; exact hl
  apply List.ext_getElem (by rw [sw_len, sw_len])
  intro i hi1 hi2
  have h := sw_get (o := sw o k) (i := i) h0 hl2
  rw [sw_get h0 hl, tau_tau] at h
  rw [getElem!_pos _ i hi1, getElem!_pos _ i hi2] at h
  exact h
theorem hit_sw {n : Nat} {o : List Int} {k : Int} {a b : Nat} (hp : Pm n o) (h0 : 0 ≤ k) (h1 : k + 1 < (n : Int)) : hit (sw o k) k a b = hit o k a b := by
  have hl : k + 1 < (o.length : Int) := by rw [hp.len]; exact h1
  have hk1 : (k + 1).toNat = k.toNat + 1 := by omega
  have t1 : tau k.toNat k.toNat = k.toNat + 1 := by unfold tau; rw [if_neg (by omega), if_pos rfl]
  have t2 : tau k.toNat (k.toNat + 1) = k.toNat := by unfold tau; rw [if_pos rfl]
  have g1 : (sw o k)[k.toNat]! = o[k.toNat + 1]! := by rw [sw_get h0 hl, t1]
  have g2 : (sw o k)[k.toNat + 1]! = o[k.toNat]! := by rw [sw_get h0 hl, t2]
  unfold hit
  rw [hk1, g1, g2, decide_eq_decide]
  constructor
  · rintro (⟨x, y⟩ | ⟨x, y⟩)
    · exact .inr ⟨y, x⟩
    · exact .inl ⟨y, x⟩
  · rintro (⟨x, y⟩ | ⟨x, y⟩)
    · exact .inr ⟨y, x⟩
    · exact .inl ⟨y, x⟩
theorem sg_not (b : Bool) : sg (!b) = - sg b := by cases b <;> rfl
/-- two lists of crossings that come to the same -/
structure Same (n : Nat) (o : List Int) (x y : List Cross) : Prop where
  fo : fo o x = fo o y
  tw : ∀ a b, twf a b o x = twf a b o y
theorem Same.snoc {n : Nat} {o : List Int} {x y : List Cross} (h : Same n o x y) (c : Cross) : Same n o (x ++ [c]) (y ++ [c]) :=
  ⟨by rw [fo_app, fo_app, h.fo], fun a b => by rw [twf_app, twf_app, h.tw, h.fo]⟩
theorem back_same {n : Nat} {o : List Int} {x : List Cross} {c d : Cross} (hp : Pm n o) (hx : inC n x) (hc : 0 ≤ c.1 ∧ c.1 + 1 < (n : Int)) (e : c.1 = d.1) (hne : c.2 ≠ d.2) : Same n o ((x ++ [c]) ++ [d]) x := by
  have hq := fo_pm hp hx
  have hd : d.2 = !c.2 := by
    cases h1 : c.2 <;> cases h2 : d.2
    · rw [h1, h2] at hne; exact absurd rfl hne
    · rfl
    · rfl
    · rw [h1, h2] at hne; exact absurd rfl hne
  refine ⟨?_, fun a b => ?_⟩
  · rw [fo_app, fo_app]
    show sw (sw (Go.Proofs.Ytcgkcoogaieolaa.fo o x) c.1) d.1 = _
    rw [← e, sw_sw hq hc.1 hc.2]
  · rw [twf_app, twf_app, fo_app]
    show twf a b o x + ((if hit (Go.Proofs.Ytcgkcoogaieolaa.fo o x) c.1 a b = true then sg c.2 else 0) + 0) + ((if hit (sw (Go.Proofs.Ytcgkcoogaieolaa.fo o x) c.1) d.1 a b = true then sg d.2 else 0) + 0) = _
    rw [← e, hit_sw hq hc.1 hc.2, hd, sg_not]
    split <;> omega
def redS (l : List Cross) : Nat → List Cross
  | 0 => []
  | k + 1 => if (0 < (redS l k).length ∧ (redS l k)[(redS l k).length - 1]!.1 = l[k]!.1) ∧ (redS l k)[(redS l k).length - 1]!.2 ≠ l[k]!.2 then (redS l k).take ((redS l k).length - 1) else redS l k ++ [l[k]!]
theorem red_same {n : Nat} {l : List Cross} (hin : inC n l) {o : List Int} (hp : Pm n o) : ∀ k, k ≤ l.length → inC n (redS l k) ∧ (redS l k).length ≤ k ∧ Same n o (redS l k) (l.take k)
  | 0, _ => ⟨fun c hc => (by cases hc), Nat.le_refl _, ⟨rfl, fun _ _ => rfl⟩⟩
  | k + 1, hk => by
    obtain ⟨h1, h2, h3⟩ := red_same hin hp k (by omega)
    have hm : l[k]! ∈ l := by rw [getElem!_pos l k (by omega)]; exact List.getElem_mem _
    have hc := hin _ hm
    have h4 := h3.snoc (l[k]!)
    rw [take_snoc! l k (by omega), redS]
    by_cases hx : (0 < (redS l k).length ∧ (redS l k)[(redS l k).length - 1]!.1 = l[k]!.1) ∧ (redS l k)[(redS l k).length - 1]!.2 ≠ l[k]!.2
    · rw [if_pos hx]
      have e : redS l k = (redS l k).take ((redS l k).length - 1) ++ [(redS l k)[(redS l k).length - 1]!] := by
        have := take_snoc! (redS l k) ((redS l k).length - 1) (by omega)
        rw [show (redS l k).length - 1 + 1 = (redS l k).length by omega, List.take_length] at this
        exact this
      have hin2 : inC n ((redS l k).take ((redS l k).length - 1)) := fun c hc => h1 c (List.mem_of_mem_take hc)
      have hb := back_same (n := n) (x := (redS l k).take ((redS l k).length - 1)) (c := (redS l k)[(redS l k).length - 1]!) (d := l[k]!) hp hin2 (by rw [hx.1.2]; exact hc) hx.1.2 hx.2
      rw [← e] at hb
      refine ⟨hin2, by rw [List.length_take]; omega, ?_⟩
      exact ⟨by rw [← hb.fo, h4.fo], fun a b => by rw [← hb.tw, h4.tw]⟩
    · rw [if_neg hx]
      refine ⟨inC_app h1 fun c hcc => by rw [List.mem_singleton.1 hcc]; exact hc, by rw [List.length_append, List.length_singleton]; omega, h4⟩
def undo (l : List Cross) : List Cross := (l.map fun c => ((c.1, !c.2) : Cross)).reverse
theorem undo_same {n : Nat} : ∀ {l : List Cross} {o : List Int}, Pm n o → inC n l → Same n o (l ++ undo l) [] ∧ inC n (undo l)
  | [], o, _, _ => ⟨⟨rfl, fun _ _ => rfl⟩, fun c hc => (by cases hc)⟩
  | c :: l, o, hp, hin => by
    have hc := hin c (by simp)
    obtain ⟨h1, h2⟩ := undo_same (l := l) (o := sw o c.1) (hp.sw hc.1 hc.2) (fun d hd => hin d (List.mem_cons_of_mem _ hd))
    have eu : undo (c :: l) = undo l ++ [(c.1, !c.2)] := by unfold undo; simp
    rw [eu]
    have e : c :: l ++ (undo l ++ [(c.1, !c.2)]) = c :: ((l ++ undo l) ++ [(c.1, !c.2)]) := by simp
    rw [e]
    refine ⟨⟨?_, fun a b => ?_⟩, inC_app h2 fun d hd => by rw [List.mem_singleton.1 hd]; exact hc⟩
    · show Go.Proofs.Ytcgkcoogaieolaa.fo (sw o c.1) ((l ++ undo l) ++ [(c.1, !c.2)]) = o
      rw [fo_app, h1.fo]
      show sw (sw o c.1) c.1 = o
      exact sw_sw hp hc.1 hc.2
    · show (if hit o c.1 a b = true then sg c.2 else 0) + twf a b (sw o c.1) ((l ++ undo l) ++ [(c.1, !c.2)]) = 0
      rw [twf_app, h1.tw, h1.fo]
      show (if hit o c.1 a b = true then sg c.2 else 0) + (0 + ((if hit (sw o c.1) c.1 a b = true then sg (!c.2) else 0) + 0)) = 0
      rw [hit_sw hp hc.1 hc.2, sg_not]
      split <;> omega
end Go.Proofs.Ytcgkcoogaieolaa
