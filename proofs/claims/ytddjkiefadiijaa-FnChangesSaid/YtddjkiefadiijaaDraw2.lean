/- Regions that are carried out in any order, some of whose barriers hang on none of each other: walked once for each order of these. No statement of the claim stands here. -/
import Derived.Test.YtddjkiefadiijaaDraw
namespace Go.Proofs.Ytddjkiefadiijaa
open Go Go.RowKit

/-- what is left of a region: nothing, or one of two barriers comes first -/
inductive DT where
  | fin : DT
  | two : Nat → List Nat → DT → Nat → List Nat → DT → DT
def DT.all : DT → List Nat
  | .fin => []
  | .two b1 r1 t1 _ _ _ => b1 :: r1 ++ t1.all
section
variable {P : Program} {n : Nat} {Q : QE} {ops : List Oper} {X Y : World → World → Prop}
def pOk (ops : List Oper) (ms bars : List Nat) (i j : Nat) : Bool := match ops[i]?, ops[j]? with
  | some oi, some oj => chkPair ops ms bars i j oi oj
  | _, _ => false
def segOk (ops : List Oper) (ms bars : List Nat) : List Nat → Bool
  | [] => true
  | x :: r => r.all (pOk ops ms bars x) && segOk ops ms bars r
def chkT (ops : List Oper) (ms bars : List Nat) : List Nat → DT → Bool
  | r, .fin => segOk ops ms bars r
  | r, .two b1 s1 t1 b2 s2 t2 => segOk ops ms bars r && r.all (fun x => (b1 :: s1 ++ t1.all).all (pOk ops ms bars x)) && (b1 :: s1 ++ t1.all).isPerm (b2 :: s2 ++ t2.all) &&
      (b1 :: s1 ++ t1.all).all (fun i => i == b1 || i == b2 || (ms.getD i 0).testBit b1 || (ms.getD i 0).testBit b2) && chkT ops ms bars s1 t1 && chkT ops ms bars s2 t2
def chkE (ops : List Oper) : Bool := (List.range ops.length).all fun j => match ops[j]? with
  | none => true
  | some oj => (edgesOn oj).all (fun k => decide (k < j))
theorem chkE_edges (hc : chkE ops = true) {j : Nat} {oj : Oper} (hj : ops[j]? = some oj) : ∀ k ∈ edgesOn oj, k < j := by
  have hlt := (List.getElem?_eq_some_iff.1 hj).1
  unfold chkE at hc
  have := List.all_eq_true.1 hc j (List.mem_range.2 hlt)
  simp only [hj] at this
  intro k hk
  exact of_decide_eq_true (List.all_eq_true.1 this k hk)
theorem segOk_sub {ms bars : List Nat} {l1 l2 : List Nat} (hs : List.Sublist l1 l2) (h : segOk ops ms bars l2 = true) : segOk ops ms bars l1 = true := by
  induction hs with
  | slnil => rfl
  | cons a hs ih => simp only [segOk, Bool.and_eq_true] at h; exact ih h.2
  | cons_cons a hs ih =>
    simp only [segOk, Bool.and_eq_true] at h ⊢
    exact ⟨List.all_eq_true.2 fun x hx => List.all_eq_true.1 h.1 x (hs.subset hx), ih h.2⟩
theorem segOk_app {ms bars : List Nat} {l1 l2 : List Nat} (h1 : segOk ops ms bars l1 = true) (h2 : segOk ops ms bars l2 = true) (h : ∀ x ∈ l1, ∀ y ∈ l2, pOk ops ms bars x y = true) : segOk ops ms bars (l1 ++ l2) = true := by
  induction l1 with
  | nil => exact h2
  | cons x l1 ih =>
    simp only [segOk, Bool.and_eq_true, List.cons_append] at h1 ⊢
    refine ⟨List.all_eq_true.2 fun y hy => ?_, ih h1.2 fun z hz => h z (by simp [hz])⟩
    rcases List.mem_append.1 hy with hy | hy
    · exact List.all_eq_true.1 h1.1 y hy
    · exact h x (by simp) y hy
theorem segOk_mid {ms bars : List Nat} {l1 l2 : List Nat} {i : Nat} (h : segOk ops ms bars (l1 ++ i :: l2) = true) : ∀ x ∈ l1, pOk ops ms bars x i = true := by
  induction l1 with
  | nil => intro x hx; cases hx
  | cons y l1 ih =>
    simp only [segOk, Bool.and_eq_true, List.cons_append] at h
    intro x hx
    rcases List.mem_cons.1 hx with rfl | hx
    · exact List.all_eq_true.1 h.1 i (by simp)
    · exact ih h.2 x hx
def QK (K : Env → World → Prop) : QE := fun _ e w => K e w
def Kt (P : Program) (ops : List Oper) (Q : QE) (X Y : World → World → Prop) (bars : List Nat) : DT → Env → World → Prop
  | .fin => fun e w => Q .normal e w
  | .two b1 s1 t1 b2 s2 t2 => fun e w => Wd P ops (QK (Kt P ops Q X Y bars t1)) X Y (zl ops bars (b1 :: s1)) e w ∧ Wd P ops (QK (Kt P ops Q X Y bars t2)) X Y (zl ops bars (b2 :: s2)) e w
theorem Wd.app {K : Env → World → Prop} {Q2 : QE} (hX0 : ∀ w, X w w) : ∀ (l l2 : List (Oper × Nat)) (e : Env) (w0 : World), Wd P ops (QK K) X Y l e w0 → (∀ e w, K e w → Wd P ops Q2 X Y l2 e w) → Wd P ops Q2 X Y (l ++ l2) e w0
  | [], l2, e, w0, h, hk => hk e w0 (h w0 (hX0 w0))
  | (o, 0) :: l, l2, e, w0, h, hk => by
    obtain ⟨v, h1, h2⟩ := h
    exact ⟨v, h1, Wd.app hX0 l l2 _ w0 h2 hk⟩
  | (o, 1) :: l, l2, e, w0, h, hk => fun w hw => by
    obtain ⟨R, h1, h2⟩ := h w hw
    exact ⟨R, h1, fun v w' hv => Wd.app hX0 l l2 _ w' (h2 v w' hv) hk⟩
  | (o, 2) :: l, l2, e, w0, h, hk => fun w hw => by
    obtain ⟨R, h1, h2⟩ := h w hw
    exact ⟨R, h1, fun v w' hv => ⟨(h2 v w' hv).1, Wd.app hX0 l l2 _ w' (h2 v w' hv).2 hk⟩⟩
  | (o, 3) :: l, l2, e, w0, h, hk => by
    obtain ⟨v, h1, h2⟩ := h
    exact ⟨v, h1, Wd.app hX0 l l2 _ w0 h2 hk⟩
  | (o, m + 4) :: l, l2, e, w0, h, hk => fun w hw => by
    obtain ⟨R, h1, h2⟩ := h w hw
    exact ⟨R, h1, fun v w' hv => ⟨(h2 v w' hv).1, Wd.app hX0 l l2 _ w' (h2 v w' hv).2 hk⟩⟩
theorem exists_min : ∀ {l : List Nat}, l ≠ [] → ∃ h, h ∈ l ∧ ∀ x ∈ l, h ≤ x
  | [], h => absurd rfl h
  | [a], _ => ⟨a, by simp, fun x hx => by rw [List.mem_singleton.1 hx]; exact Nat.le_refl _⟩
  | a :: b :: l, _ => by
    obtain ⟨h, h1, h2⟩ := exists_min (l := b :: l) (by simp)
    by_cases hc : a ≤ h
    · refine ⟨a, by simp, fun x hx => ?_⟩
      rcases List.mem_cons.1 hx with rfl | hx
      · exact Nat.le_refl _
      · exact Nat.le_trans hc (h2 x hx)
    · refine ⟨h, List.mem_cons_of_mem _ h1, fun x hx => ?_⟩
      rcases List.mem_cons.1 hx with rfl | hx
      · omega
      · exact h2 x hx
theorem wd_tree (bars : List Nat) (hk4 : ∀ i, bars.getD i 0 ≤ 4) (hX0 : ∀ w, X w w) (hX : ∀ a b c, X a b → X b c → X a c) (hYt : ∀ a b c, Y a b → Y b c → Y a c) (hXY : ∀ a b, X a b → Y a b) (hE : chkE ops = true) (hok : ∀ o ∈ ops, okO n o = true) :
    ∀ (fuel : Nat) (r : List Nat) (T : DT) (listed : Array Bool) (e : Env) (w w0 : World), (r ++ T.all).length = fuel → (r ++ T.all).Nodup → (∀ i, i ∈ r ++ T.all ↔ i < ops.length ∧ listed.getD i true = false) → chkT ops (masks ops []) bars r T = true →
      (∀ (i : Nat) (o : Oper), ops[i]? = some o → listed.getD i false = true → ∀ k ∈ edgesOn o, listed.getD k false = true) → listed.size = ops.length → X w0 w → Wd P ops (QK (Kt P ops Q X Y bars T)) X Y (zl ops bars r) e w0 →
      wpAny P .any ops.toArray (lift n Q) fuel listed (act n e) w := by
  have hget : ∀ (i : Nat) (o : Oper), ops[i]? = some o → ops[i]! = o := by
    intro i o h
    have hlt := (List.getElem?_eq_some_iff.1 h).1
    have h2 := (List.getElem?_eq_some_iff.1 h).2
    simp [hlt, h2]
  intro fuel
  induction fuel with
  | zero =>
    intro r T listed e w w0 hl hnd hr hch hcl hsz hXw hW
    have hr0 : r ++ T.all = [] := List.eq_nil_of_length_eq_zero hl
    obtain ⟨rfl, hT⟩ := List.append_eq_nil_iff.1 hr0
    cases T with
    | two b1 s1 t1 b2 s2 t2 => simp [DT.all] at hT
    | fin =>
      refine ⟨?_, e, rfl, hW w hXw⟩
      apply List.eq_nil_iff_forall_not_mem.2
      intro i hi
      obtain ⟨h1, o, ho, _⟩ := mem_ready.1 hi
      have hlt : i < ops.length := by simpa using (Array.getElem?_eq_some_iff.1 ho).1
      have := (hr i).2 ⟨hlt, h1⟩
      simp [DT.all] at this
  | succ fuel ih =>
    intro r T listed e w w0 hl hnd hr hch hcl hsz hXw hW
    have hlst : ∀ k, k < ops.length → k ∉ r ++ T.all → listed.getD k false = true := by
      intro k hk hn
      have h1 : ¬ listed.getD k true = false := fun h => hn ((hr k).2 ⟨hk, h⟩)
      have : k < listed.size := by omega
      simp [this] at h1 ⊢
      exact h1
    have hnl : ∀ j, j ∈ r ++ T.all → listed.getD j false = false := by
      intro j hj
      have := ((hr j).1 hj).2
      have hj2 : j < listed.size := by rw [hsz]; exact ((hr j).1 hj).1
      simp [hj2] at this ⊢
      exact this
    refine ⟨fun hre => ?_, fun i hi => ?_⟩
    · exfalso
      obtain ⟨h, hm, hmin⟩ := exists_min (l := r ++ T.all) (fun h0 => by rw [h0] at hl; simp at hl)
      have hh := (hr h).1 hm
      have hoh : ops[h]? = some ops[h] := List.getElem?_eq_getElem hh.1
      have : h ∈ Region.ready .any ops.toArray listed := by
        refine mem_ready.2 ⟨hh.2, ops[h], by simp, fun ed hed hb => ?_⟩
        have hke : ed.on ∈ edgesOn ops[h] := List.mem_map.2 ⟨ed, List.mem_filter.2 ⟨by simpa using hed, hb⟩, rfl⟩
        have hlt := chkE_edges hE hoh ed.on hke
        have hh1 := hh.1
        exact hlst _ (by omega) fun hm2 => by have := hmin _ hm2; omega
      rw [hre] at this
      simp at this
    · obtain ⟨h1, o, ho, hed⟩ := mem_ready.1 hi
      have hoi : ops[i]? = some o := by simpa using ho
      have hlt : i < ops.length := (List.getElem?_eq_some_iff.1 hoi).1
      have hko : okO n o = true := hok o (List.mem_of_getElem? hoi)
      have hed' : ∀ k ∈ edgesOn o, listed.getD k false = true := by
        intro k hk
        obtain ⟨ed, hm, rfl⟩ := List.mem_map.1 hk
        obtain ⟨hm1, hm2⟩ := List.mem_filter.1 hm
        exact hed ed (by simpa using hm1) hm2
      have hF : ∀ j, ((masks ops []).getD i 0).testBit j = true → listed.getD j false = true :=
        masks_spec (fun j => listed.getD j false = true) ops [] [] rfl hcl (by simp) i o hoi hed'
      have hir : i ∈ r ++ T.all := (hr i).2 ⟨hlt, h1⟩
      -- the step, once the operation stands in the list
      have main : ∀ (r1 r2 : List Nat) (T' : DT), (∀ j, j ∈ r1 ++ i :: r2 ++ T'.all ↔ j ∈ r ++ T.all) → (r1 ++ i :: r2 ++ T'.all).Nodup → (r1 ++ i :: r2 ++ T'.all).length = fuel + 1 → (∀ x ∈ r1, pOk ops (masks ops []) bars x i = true) →
          chkT ops (masks ops []) bars (r1 ++ r2) T' = true → Wd P ops (QK (Kt P ops Q X Y bars T')) X Y (zl ops bars (r1 ++ i :: r2)) e w0 →
          wpOp P ops.toArray (lift n Q) i (wpAny P .any ops.toArray (lift n Q) fuel (listed.setIfInBounds i true)) (act n e) w := by
        intro r1 r2 T' hmem hnd' hlen hp hch' hW'
        have hpair : ∀ j ∈ r1, (∀ d, (ops[j]!).dst = some d → o.dst ≠ some d ∧ d ∉ looks ops o) ∧ (∀ d, o.dst = some d → d ∉ looks ops ops[j]!) ∧ (bars.getD j 0 = 3 ∨ (bars.getD j 0 = 0 ∧ bars.getD i 0 ≠ 4)) ∧ bars.getD i 0 ≠ 1 ∧ okO n ops[j]! = true := by
          intro j hj
          have hjr : j ∈ r ++ T.all := (hmem j).1 (by simp [hj])
          have hjl := ((hr j).1 hjr).1
          have hoj : ops[j]? = some ops[j] := List.getElem?_eq_getElem hjl
          have hbit : ((masks ops []).getD i 0).testBit j = false := by
            cases hb : ((masks ops []).getD i 0).testBit j with
            | false => rfl
            | true => have := hF j hb; rw [hnl j hjr] at this; cases this
          have hpk := hp j hj
          unfold pOk at hpk
          simp only [hoj, hoi] at hpk
          have hf := pair_facts hpk hbit
          rw [hget j _ hoj]
          exact ⟨hf.1, hf.2.1, hf.2.2.1, hf.2.2.2, hok _ (List.getElem_mem hjl)⟩
        have hnext : ∀ (e' : Env) (w' w0' : World), X w0' w' → Wd P ops (QK (Kt P ops Q X Y bars T')) X Y (zl ops bars (r1 ++ r2)) e' w0' → wpAny P .any ops.toArray (lift n Q) fuel (listed.setIfInBounds i true) (act n e') w' := by
          intro e' w' w0' hx hw'
          have hperm : (r1 ++ i :: r2 ++ T'.all).Perm (i :: (r1 ++ r2 ++ T'.all)) := by
            rw [List.append_assoc, List.append_assoc, List.cons_append]; exact List.perm_middle
          have hnd2 := (hperm.nodup_iff).1 hnd'
          have hni : i ∉ r1 ++ r2 ++ T'.all := (List.nodup_cons.1 hnd2).1
          refine ih (r1 ++ r2) T' _ e' w' w0' ?_ (List.nodup_cons.1 hnd2).2 ?_ hch' ?_ (by simp [hsz]) hx hw'
          · have := hperm.length_eq
            rw [hlen] at this
            simp only [List.length_cons] at this
            omega
          · intro j
            have hj1 : j ∈ r ++ T.all ↔ j = i ∨ j ∈ r1 ++ r2 ++ T'.all := by rw [← hmem j, hperm.mem_iff, List.mem_cons]
            by_cases hji : j = i
            · subst hji
              have : j < listed.size := by omega
              simp only [hni, false_iff]
              rintro ⟨_, h⟩
              simp [this] at h
            · have e1 : (listed.setIfInBounds i true).getD j true = listed.getD j true := getD_set_ne true (fun h => hji h.symm)
              rw [e1, ← hr j, hj1]
              simp [hji]
          · intro j oj hoj hlj k hk
            by_cases hji : j = i
            · subst hji
              rw [hoi] at hoj
              cases hoj
              exact getD_set_true (hed' k hk)
            · have e1 : (listed.setIfInBounds i true).getD j false = listed.getD j false := getD_set_ne false (fun h => hji h.symm)
              rw [e1] at hlj
              exact getD_set_true (hcl j oj hoj hlj k hk)
        have hgo : ∀ R : Value → World → Prop, OpD P ops o e w R → (∀ v w', R v w' → wpAny P .any ops.toArray (lift n Q) fuel (listed.setIfInBounds i true) (act n (put e o.dst v)) w') →
            wpOp P ops.toArray (lift n Q) i (wpAny P .any ops.toArray (lift n Q) fuel (listed.setIfInBounds i true)) (act n e) w := by
          intro R hd hk
          unfold wpOp
          have ho' : ops.toArray[i]? = some o := by simpa using hoi
          simp only [ho', gv_wanted hok o]
          cases hg : gv ops e o with
          | true =>
            rw [if_pos rfl]
            refine .inl ((hd.1 hg).wp hko _ _ fun v w' hR => ?_)
            rw [act_put e o.dst v (okO_dst hko)]
            exact hk v w' hR
          | false =>
            rw [if_neg (by simp)]
            rw [act_put e o.dst undef (okO_dst hko)]
            exact hk undef w (hd.2 hg)
        have ez : zl ops bars (r1 ++ i :: r2) = zl ops bars r1 ++ (o, bars.getD i 0) :: zl ops bars r2 := by
          show List.map _ (r1 ++ i :: r2) = _
          rw [List.map_append, List.map_cons, hget i o hoi]; rfl
        have ez2 : zl ops bars (r1 ++ r2) = zl ops bars r1 ++ zl ops bars r2 := List.map_append ..
        rw [ez] at hW'
        have hst : ∀ x ∈ zl ops bars r1, x.2 = 0 ∨ x.2 = 3 := by
          intro x hx; obtain ⟨j, hj, rfl⟩ := List.mem_map.1 hx
          rcases (hpair j hj).2.2.1 with h | h
          · exact .inr h
          · exact .inl h.1
        have hok1 : ∀ x ∈ zl ops bars r1, okO n x.1 = true := by intro x hx; obtain ⟨j, hj, rfl⟩ := List.mem_map.1 hx; exact (hpair j hj).2.2.2.2
        have hl1 : ∀ x ∈ zl ops bars r1, ∀ d, x.1.dst = some d → o.dst ≠ some d ∧ d ∉ looks ops o := by intro x hx; obtain ⟨j, hj, rfl⟩ := List.mem_map.1 hx; exact (hpair j hj).1
        have hl2 : ∀ x ∈ zl ops bars r1, ∀ d, o.dst = some d → d ∉ looks ops x.1 := by intro x hx; obtain ⟨j, hj, rfl⟩ := List.mem_map.1 hx; exact (hpair j hj).2.1
        have hcase : bars.getD i 0 = 1 ∨ (bars.getD i 0 = 0 ∨ bars.getD i 0 = 3) ∨ (bars.getD i 0 = 2 ∨ 4 ≤ bars.getD i 0) := by omega
        rcases hcase with hbi | hbi | hbi
        · have hr1 : r1 = [] := by
            cases r1 with
            | nil => rfl
            | cons j r1 => exact absurd hbi (hpair j (by simp)).2.2.2.1
          subst hr1
          rw [hbi] at hW'
          obtain ⟨R, hd, hk⟩ := hW' w hXw
          exact hgo R hd fun v w' hR => hnext _ w' w' (hX0 w') (hk v w' hR)
        · obtain ⟨v, hv, hw'⟩ := Wd.front hXY _ o _ _ e w0 hbi hW' hst hok1 hko hl1 hl2
          refine hgo _ (hv w hXw) ?_
          rintro v' w' ⟨rfl, hxw⟩
          exact hnext _ w' w0 (hX _ _ _ hXw hxw) (by rw [ez2]; exact hw')
        · obtain ⟨R, hd, hk⟩ := Wd.front2 hX hYt hXY _ o _ _ e w0 hbi hW' (by
            intro x hx; obtain ⟨j, hj, rfl⟩ := List.mem_map.1 hx
            rcases (hpair j hj).2.2.1 with h | h
            · exact .inl h
            · exact .inr ⟨h.1, by have := h.2; have := hk4 i; omega⟩) hok1 hko hl1 hl2 w hXw
          exact hgo R hd fun v w' hR => hnext _ w' w' (hX0 w') (by rw [ez2]; exact (hk v w' hR).2)
      rcases List.mem_append.1 hir with hin | hin
      · obtain ⟨r1, r2, rfl⟩ := List.append_of_mem hin
        have hseg : segOk ops (masks ops []) bars (r1 ++ i :: r2) = true := by
          cases T with
          | fin => exact hch
          | two b1 s1 t1 b2 s2 t2 => simp only [chkT, Bool.and_eq_true] at hch; exact hch.1.1.1.1.1
        have hsub : List.Sublist (r1 ++ r2) (r1 ++ i :: r2) := List.Sublist.append_left (List.sublist_cons_self i r2) r1
        refine main r1 r2 T (fun j => Iff.rfl) hnd hl (segOk_mid hseg) ?_ hW
        cases T with
        | fin => exact segOk_sub hsub hch
        | two b1 s1 t1 b2 s2 t2 =>
          simp only [chkT, Bool.and_eq_true] at hch ⊢
          exact ⟨⟨⟨⟨⟨segOk_sub hsub hch.1.1.1.1.1, List.all_eq_true.2 fun x hx => List.all_eq_true.1 hch.1.1.1.1.2 x (hsub.subset hx)⟩, hch.1.1.1.2⟩, hch.1.1.2⟩, hch.1.2⟩, hch.2⟩
      · cases T with
        | fin => simp [DT.all] at hin
        | two b1 s1 t1 b2 s2 t2 =>
          simp only [chkT, Bool.and_eq_true] at hch
          obtain ⟨⟨⟨⟨⟨hc1, hc2⟩, hc3⟩, hc4⟩, hc5⟩, hc6⟩ := hch
          have hperm : (b1 :: s1 ++ t1.all).Perm (b2 :: s2 ++ t2.all) := List.isPerm_iff.1 hc3
          have hc2' : ∀ x ∈ r, ∀ y ∈ b1 :: s1 ++ t1.all, pOk ops (masks ops []) bars x y = true := fun x hx y hy => List.all_eq_true.1 (List.all_eq_true.1 hc2 x hx) y hy
          have hb12 : i = b1 ∨ i = b2 := by
            have h4 := List.all_eq_true.1 hc4 i hin
            simp only [Bool.or_eq_true, beq_iff_eq] at h4
            rcases h4 with ((h4 | h4) | h4) | h4
            · exact .inl h4
            · exact .inr h4
            · have := hF b1 h4
              rw [hnl b1 (by simp [DT.all])] at this; cases this
            · have := hF b2 h4
              rw [hnl b2 (List.mem_append.2 (.inr (hperm.mem_iff.2 (by simp))))] at this; cases this
          have fin1 : ∀ (b : Nat) (s : List Nat) (t : DT), i = b → (b1 :: s1 ++ t1.all).Perm (b :: s ++ t.all) → chkT ops (masks ops []) bars s t = true → Wd P ops (QK (Kt P ops Q X Y bars t)) X Y (zl ops bars (r ++ b :: s)) e w0 → wpOp P ops.toArray (lift n Q) i (wpAny P .any ops.toArray (lift n Q) fuel (listed.setIfInBounds i true)) (act n e) w := by
            intro b s t hib hp hct hW'
            subst hib
            have hpp : (r ++ (b1 :: s1 ++ t1.all)).Perm (r ++ i :: s ++ t.all) := by
              rw [List.append_assoc]; exact hp.append_left r
            refine main r s t (fun j => hpp.mem_iff.symm) ((hpp.nodup_iff).1 hnd) (by rw [← hpp.length_eq]; exact hl) (fun x hx => hc2' x hx i hin) ?_ hW'
            have hsm : ∀ y, y ∈ s ∨ y ∈ t.all → y ∈ b1 :: s1 ++ t1.all := fun y hy => hp.mem_iff.2 (by
              rcases hy with hy | hy
              · simp [hy]
              · simp [hy])
            cases t with
            | fin => exact segOk_app hc1 hct fun x hx y hy => hc2' x hx y (hsm y (.inl hy))
            | two c1 u1 v1 c2 u2 v2 =>
              simp only [chkT, Bool.and_eq_true] at hct ⊢
              refine ⟨⟨⟨⟨⟨segOk_app hc1 hct.1.1.1.1.1 fun x hx y hy => hc2' x hx y (hsm y (.inl hy)), List.all_eq_true.2 fun x hx => List.all_eq_true.2 fun y hy => ?_⟩, hct.1.1.1.2⟩, hct.1.1.2⟩, hct.1.2⟩, hct.2⟩
              rcases List.mem_append.1 hx with hx | hx
              · exact hc2' x hx y (hsm y (.inr hy))
              · exact List.all_eq_true.1 (List.all_eq_true.1 hct.1.1.1.1.2 x hx) y hy
          have eapp : ∀ (b : Nat) (s : List Nat), zl ops bars (r ++ b :: s) = zl ops bars r ++ zl ops bars (b :: s) := fun b s => List.map_append ..
          rcases hb12 with hb | hb
          · exact fin1 b1 s1 t1 hb (List.Perm.refl _) hc5 (by rw [eapp]; exact Wd.app hX0 _ _ e w0 hW fun e w h => h.1)
          · exact fin1 b2 s2 t2 hb hperm hc6 (by rw [eapp]; exact Wd.app hX0 _ _ e w0 hW fun e w h => h.2)
theorem w_tree {id : Nat} {e : Env} {w : World} (bars : List Nat) (r : List Nat) (T : DT) (hm : P.follows .mixedOrders = true) (hE : chkE ops = true) (hc : chkT ops (masks ops []) bars r T = true) (hp : (r ++ T.all).isPerm (List.range ops.length) = true) (hk4 : bars.all (· ≤ 4) = true) (hX0 : ∀ w, X w w) (hX : ∀ a b c, X a b → X b c → X a c) (hYt : ∀ a b c, Y a b → Y b c → Y a c) (hXY : ∀ a b, X a b → Y a b)
    (h : ∀ w1, Ext w w1 → Wd P ops (QK (Kt P ops Q X Y bars T)) X Y (zl ops bars r) e w1) : Wp P n (.region id ops.toArray true) Q e w := by
  refine ⟨fun hok => ?_⟩
  have ho : ∀ o ∈ ops, okO n o = true := fun o ho => (Array.all_eq_true_iff_forall_mem.1 hok) o (by simpa using ho)
  refine wp_region_any hm ?_
  have hk4' : ∀ i, bars.getD i 0 ≤ 4 := by
    intro i
    by_cases hi : i < bars.length
    · have := List.all_eq_true.1 hk4 bars[i] (List.getElem_mem hi)
      simpa [List.getD, hi] using this
    · simp [List.getD, hi]
  have hperm : (r ++ T.all).Perm (List.range ops.length) := List.isPerm_iff.1 hp
  have := wd_tree bars hk4' hX0 hX hYt hXY hE ho ops.length r T (Array.replicate ops.length false) e w.drew w.drew (by rw [hperm.length_eq]; simp) ((hperm.nodup_iff).2 List.nodup_range) (by
      intro i
      rw [hperm.mem_iff, List.mem_range]
      constructor
      · intro h; exact ⟨h, by simp [h]⟩
      · exact fun h => h.1) hc (by
      intro i o hi hl
      by_cases hlt : i < ops.length <;> simp [hlt] at hl) (by simp) (hX0 _) (h _ (Ext.drew w))
  simpa using this
end
end Go.Proofs.Ytddjkiefadiijaa
