/- Plain laws over the models: the program's own test of an order, its sorting, and what is asked of twists. No program, no statement of the claim. -/
import Derived.Test.YtcgkcoogaieolaaPB4
namespace Go.Proofs.Ytcgkcoogaieolaa

/- a number put into an ascending list -/
def ins (a : Int) : List Int → List Int
  | [] => [a]
  | b :: l => if a ≤ b then a :: b :: l else b :: ins a l
theorem ins_len (a : Int) : ∀ l, (ins a l).length = l.length + 1
  | [] => rfl
  | b :: l => by
    unfold ins
    by_cases h : a ≤ b
    · rw [if_pos h]; rfl
    · rw [if_neg h]; simp [ins_len a l]
theorem ins_perm (a : Int) : ∀ l, (ins a l).Perm (a :: l)
  | [] => List.Perm.refl _
  | b :: l => by
    unfold ins
    by_cases h : a ≤ b
    · rw [if_pos h]
    · rw [if_neg h]; exact ((ins_perm a l).cons b).trans (List.Perm.swap a b l)
theorem ins_sorted (a : Int) : ∀ l : List Int, l.Pairwise (· ≤ ·) → (ins a l).Pairwise (· ≤ ·)
  | [], _ => by simp [ins]
  | b :: l, h => by
    unfold ins
    rw [List.pairwise_cons] at h
    by_cases hab : a ≤ b
    · rw [if_pos hab, List.pairwise_cons, List.pairwise_cons]
      refine ⟨fun c hc => ?_, h.1, h.2⟩
      rcases List.mem_cons.1 hc with rfl | hc
      · exact hab
      · have := h.1 c hc; omega
    · rw [if_neg hab, List.pairwise_cons]
      refine ⟨fun c hc => ?_, ins_sorted a l h.2⟩
      rcases List.mem_cons.1 ((ins_perm a l).mem_iff.1 hc) with rfl | hc
      · omega
      · exact h.1 c hc
def srt (l : List Int) : List Int := l.foldl (fun acc a => ins a acc) []
theorem srt_step (l : List Int) (i : Nat) (h : i < l.length) : srt (l.take (i + 1)) = ins l[i]! (srt (l.take i)) := by
  unfold srt; rw [take_snoc! l i h, List.foldl_append]; rfl
theorem srt_fold : ∀ (l acc : List Int), acc.Pairwise (· ≤ ·) → (l.foldl (fun acc a => ins a acc) acc).Pairwise (· ≤ ·) ∧ (l.foldl (fun acc a => ins a acc) acc).Perm (l ++ acc)
  | [], acc, h => ⟨h, List.Perm.refl _⟩
  | a :: l, acc, h => by
    have h1 := srt_fold l (ins a acc) (ins_sorted a acc h)
    refine ⟨h1.1, h1.2.trans ?_⟩
    exact (List.Perm.append_left l (ins_perm a acc)).trans List.perm_middle
theorem srt_spec (l : List Int) : (srt l).Pairwise (· ≤ ·) ∧ (srt l).Perm l := by
  have := srt_fold l [] List.Pairwise.nil
  rw [List.append_nil] at this; exact this
theorem Pm.nodup {n : Nat} {o : List Int} (h : Pm n o) : o.Pairwise (· ≠ ·) := by
  rw [List.pairwise_iff_getElem]
  intro i j hi hj hij e
  have hl := h.len
  have := h.inj i j (by omega) (by omega) (by simp [hi, hj, e])
  omega
/- bringing home -/
def homeW (n : Int) (l : List Cross) : List Cross := if crossesOk n l = true then (ss (ord n l)).map (fun k => (k, true)) else []
theorem ss_len {n : Nat} {o : List Int} (h7 : n ≤ 7) : ∀ m (o : List Int), Pm n o → (inv o).toNat = m → (ss o).length = m
  | 0, o, hp, h => by
    have hl := hp.len
    have : 0 ≤ inv o := (inv_bd o o.length (by omega)).1
    rw [ss_zero (by omega)]; rfl
  | m + 1, o, hp, h => by
    obtain ⟨s1, s2, s3⟩ := ss_pos hp (by omega)
    rw [s1, List.length_cons, ss_len (o := o) h7 m _ s2 (by omega)]
theorem ord_pm' {n : Int} {l : List Cross} (hc : crossesOk n l = true) : Pm n.toNat (ord n l) := by
  have := ord_pm hc l.length (Nat.le_refl _)
  rwa [List.take_length] at this
theorem ssb {n : Int} {l : List Cross} (hc : crossesOk n l = true) : (ss (ord n l)).length ≤ 49 := by
  obtain ⟨h1, h2, _⟩ := co_yes hc
  have hp := ord_pm' hc
  have hl := hp.len
  rw [ss_len (o := []) (n := n.toNat) (by omega) _ _ hp rfl]
  have := inv_bd (ord n l) (ord n l).length (by omega)
  have : inv (ord n l) ≤ 49 := this.2
  omega
theorem map_step {α β : Type} [Inhabited α] (f : α → β) (s : List α) (i : Nat) (h : i < s.length) : (s.take (i + 1)).map f = (s.take i).map f ++ [f s[i]!] := by
  rw [take_snoc! s i h, List.map_append]; rfl
theorem homeW_len (n : Int) (l : List Cross) : (homeW n l).length ≤ 49 := by
  unfold homeW
  by_cases hc : crossesOk n l = true
  · rw [if_pos hc, List.length_map]; exact ssb hc
  · rw [if_neg hc]; simp
end Go.Proofs.Ytcgkcoogaieolaa
