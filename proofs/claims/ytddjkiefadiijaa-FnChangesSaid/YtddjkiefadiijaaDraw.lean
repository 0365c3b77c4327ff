/- A region whose order is drawn: one walk in the order of the text serves every order. No statement of the claim stands here. -/
import Derived.Test.YtddjkiefadiijaaMop
import Derived.Orders
namespace Go.Proofs.Ytddjkiefadiijaa
open Go Go.RowKit

def edgesOn (o : Oper) : List Nat := (o.after.toList.filter (Region.binds .any)).map (·.on)
def maskOf (acc : List Nat) (o : Oper) : Nat := (edgesOn o).foldl (fun s k => s ||| 2 ^ k ||| acc.getD k 0) 0
def masks : List Oper → List Nat → List Nat
  | [], acc => acc
  | o :: os, acc => masks os (acc ++ [maskOf acc o])
def tmpOf : Operand → List Nat
  | .tmp t => [t]
  | _ => []
def looks (ops : List Oper) (o : Oper) : List Nat :=
  o.op.operands.toList.flatMap tmpOf ++ (match o.guard with | some (j, _) => ((ops[j]?).bind (·.dst)).toList | none => [])
/-- 'bars': 0: a place that leaves a known value and changes nothing that was; 1: at these places all that stands before is done, and nothing that stands behind; 2: nothing that stands behind is done, and of what was nothing changes; 4: the same, but what Y names may change; 3: as 0, but it bears what Y names. -/
def chkPair (ops : List Oper) (ms : List Nat) (bars : List Nat) (i j : Nat) (oi oj : Oper) : Bool :=
  -- i is before j in the text
  (match oi.dst, oj.dst with | some a, some b => a != b | _, _ => true) &&
  (match oi.dst with | some a => !(looks ops oj).contains a || (ms.getD j 0).testBit i | none => true) &&
  (match oj.dst with | some a => !(looks ops oi).contains a || (ms.getD j 0).testBit i | none => true) &&
  (((bars.getD i 0 == 0 && !(bars.getD j 0 == 1) && !(bars.getD j 0 == 4)) || (bars.getD i 0 == 3 && !(bars.getD j 0 == 1))) || (ms.getD j 0).testBit i)
def chk (ops : List Oper) (bars : List Nat) : Bool :=
  let ms := masks ops []
  (List.range ops.length).all fun j =>
    match ops[j]? with
    | none => true
    | some oj => (edgesOn oj).all (fun k => decide (k < j)) && (List.range j).all fun i => match ops[i]? with | none => true | some oi => chkPair ops ms bars i j oi oj

theorem foldl_mask (acc : List Nat) : ∀ (l : List Nat) (s j : Nat), (l.foldl (fun s k => s ||| 2 ^ k ||| acc.getD k 0) s).testBit j = true →
    s.testBit j = true ∨ ∃ k ∈ l, j = k ∨ (acc.getD k 0).testBit j = true
  | [], s, j, h => .inl h
  | k :: l, s, j, h => by
    rcases foldl_mask acc l _ j h with h1 | ⟨k', hk, h2⟩
    · simp only [Nat.testBit_or, Bool.or_eq_true, Nat.testBit_two_pow, decide_eq_true_eq] at h1
      rcases h1 with (h1 | h1) | h1
      · exact .inl h1
      · exact .inr ⟨k, by simp, .inl h1.symm⟩
      · exact .inr ⟨k, by simp, .inr h1⟩
    · exact .inr ⟨k', by simp [hk], h2⟩
theorem masks_length : ∀ (os : List Oper) (acc : List Nat), (masks os acc).length = acc.length + os.length
  | [], acc => rfl
  | o :: os, acc => by rw [masks, masks_length os]; simp; omega
/-- what the masks say: in a set that is closed under the edges, whatever a mask names is there -/
theorem masks_spec (D : Nat → Prop) : ∀ (os : List Oper) (acc : List Nat) (pre : List Oper), pre.length = acc.length →
    (∀ i o, (pre ++ os)[i]? = some o → D i → ∀ k ∈ edgesOn o, D k) →
    (∀ i o, pre[i]? = some o → (∀ k ∈ edgesOn o, D k) → ∀ j, (acc.getD i 0).testBit j = true → D j) →
    ∀ i o, (pre ++ os)[i]? = some o → (∀ k ∈ edgesOn o, D k) → ∀ j, ((masks os acc).getD i 0).testBit j = true → D j
  | [], acc, pre, _, _, hacc => by
    intro i o hi hk j hj
    exact hacc i o (by simpa using hi) hk j hj
  | o :: os, acc, pre, hlen, hcl, hacc => by
    intro i oi hi hk j hj
    have e1 : pre ++ o :: os = (pre ++ [o]) ++ os := by simp
    refine masks_spec D os (acc ++ [maskOf acc o]) (pre ++ [o]) (by simp [hlen]) (by rw [← e1]; exact hcl) ?_ i oi (by rw [← e1]; exact hi) hk j hj
    intro i' o' hi' hk' j' hj'
    by_cases hlt : i' < pre.length
    · rw [List.getElem?_append_left hlt] at hi'
      refine hacc i' o' hi' hk' j' ?_
      rwa [List.getD_eq_getElem?_getD, List.getElem?_append_left (by omega), ← List.getD_eq_getElem?_getD] at hj'
    · have hi2 : i' = pre.length := by
        have := (List.getElem?_eq_some_iff.1 hi').1
        simp at this; omega
      subst hi2
      simp at hi'
      subst hi'
      rw [List.getD_eq_getElem?_getD, hlen] at hj'
      simp only [List.getElem?_concat_length, Option.getD_some] at hj'
      rcases foldl_mask acc _ _ _ hj' with h0 | ⟨k, hkm, h2⟩
      · simp at h0
      · rcases h2 with rfl | h2
        · exact hk' _ hkm
        · have hDk := hk' k hkm
          have hka : k < acc.length := by
            rcases Nat.lt_or_ge k acc.length with h | h
            · exact h
            · rw [List.getD_eq_getElem?_getD, List.getElem?_eq_none h] at h2; simp at h2
          have hpk : pre[k]? = some (pre[k]'(by omega)) := List.getElem?_eq_getElem (by omega)
          refine hacc k _ hpk (hcl k _ ?_ hDk) j' h2
          rw [List.getElem?_append_left (by omega)]; exact hpk

/- one operation with its guard -/
def OpD (P : Program) (ops : List Oper) (o : Oper) (e : Env) (w : World) (R : Value → World → Prop) : Prop :=
  (gv ops e o = true → OpG P o e w R) ∧ (gv ops e o = false → R undef w)

def Wd (P : Program) (ops : List Oper) (Q : QE) (X Y : World → World → Prop) : List (Oper × Nat) → Env → World → Prop
  | [], e, w0 => ∀ w, X w0 w → Q .normal e w
  | (o, 0) :: r, e, w0 => ∃ v, (∀ w, X w0 w → OpD P ops o e w (fun v' w' => v' = v ∧ X w w')) ∧ Wd P ops Q X Y r (put e o.dst v) w0
  | (o, 1) :: r, e, w0 => ∀ w, X w0 w → ∃ R, OpD P ops o e w R ∧ ∀ v w', R v w' → Wd P ops Q X Y r (put e o.dst v) w'
  | (o, 2) :: r, e, w0 => ∀ w, X w0 w → ∃ R, OpD P ops o e w R ∧ ∀ v w', R v w' → X w w' ∧ Wd P ops Q X Y r (put e o.dst v) w'
  | (o, 3) :: r, e, w0 => ∃ v, (∀ w, Y w0 w → OpD P ops o e w (fun v' w' => v' = v ∧ X w w')) ∧ Wd P ops Q X Y r (put e o.dst v) w0
  | (o, _ + 4) :: r, e, w0 => ∀ w, X w0 w → ∃ R, OpD P ops o e w R ∧ ∀ v w', R v w' → Y w w' ∧ Wd P ops Q X Y r (put e o.dst v) w'

section
variable {P : Program} {n : Nat} {Q : QE} {ops : List Oper} {X Y : World → World → Prop}

theorem put_comm (e : Env) {a b : Option Nat} (v u : Value) (h : ∀ x, a = some x → b ≠ some x) : put (put e a v) b u = put (put e b u) a v := by
  cases a with
  | none => rfl
  | some a =>
    cases b with
    | none => rfl
    | some b =>
      have hab : a ≠ b := fun hx => h a rfl (by rw [hx])
      funext t
      simp only [put, upd]
      by_cases h1 : t = a <;> by_cases h2 : t = b <;> simp_all
theorem put_other (e : Env) (a : Option Nat) (v : Value) (t : Nat) (h : a ≠ some t) : put e a v t = e t := by
  cases a with
  | none => rfl
  | some a => simp only [put, upd]; rw [if_neg (fun hx => h (by rw [hx]))]

theorem gv_congr {o : Oper} {e e' : Env} (h : ∀ t ∈ looks ops o, e t = e' t) : gv ops e o = gv ops e' o := by
  unfold gv
  cases hg : o.guard with
  | none => rfl
  | some jb =>
    obtain ⟨j, b⟩ := jb
    simp only
    cases hj : (ops[j]?).bind (·.dst) with
    | none => rfl
    | some d =>
      have : e d = e' d := h d (by simp [looks, hg, hj])
      simp [this]
theorem ev_congr {o : Oper} {e e' : Env} (hns : ∀ cs b, o.op ≠ .select cs b) (h : ∀ t ∈ looks ops o, e t = e' t) : execOp (ev e) o = execOp (ev e') o := by
  refine execOp_congr o hns fun x hx => ?_
  cases x with
  | tmp t =>
    refine h t ?_
    simp only [looks, List.mem_append, List.mem_flatMap]
    exact .inl ⟨.tmp t, by simpa using hx, by simp [tmpOf]⟩
  | _ => rfl
theorem OpD.congr {o : Oper} {e e' : Env} {w : World} {R : Value → World → Prop} (hns : ∀ cs b, o.op ≠ .select cs b) (h : ∀ t ∈ looks ops o, e t = e' t) (hd : OpD P ops o e w R) : OpD P ops o e' w R := by
  unfold OpD OpG at *
  rw [← gv_congr h, ← ev_congr hns h]
  exact hd
theorem okO_ns {o : Oper} (h : okO n o = true) : ∀ cs b, o.op ≠ .select cs b := by
  intro cs b hs
  simp only [okO, hs, Bool.and_eq_true] at h
  exact absurd h.2 (by simp)

/-- one step of the text's order, seen as 'a value that is known' -/
theorem Wd.st (hXY : ∀ a b, X a b → Y a b) {o : Oper} {c : Nat} {r : List (Oper × Nat)} {e : Env} {w0 : World} (hc : c = 0 ∨ c = 3) (h : Wd P ops Q X Y ((o, c) :: r) e w0) :
    ∃ v, (∀ w, (if c = 0 then X else Y) w0 w → OpD P ops o e w (fun v' w' => v' = v ∧ X w w')) ∧ Wd P ops Q X Y r (put e o.dst v) w0 := by
  rcases hc with rfl | rfl
  · exact h
  · exact h
theorem Wd.ts {o : Oper} {c : Nat} {r : List (Oper × Nat)} {e : Env} {w0 : World} (hc : c = 0 ∨ c = 3)
    (h : ∃ v, (∀ w, (if c = 0 then X else Y) w0 w → OpD P ops o e w (fun v' w' => v' = v ∧ X w w')) ∧ Wd P ops Q X Y r (put e o.dst v) w0) : Wd P ops Q X Y ((o, c) :: r) e w0 := by
  rcases hc with rfl | rfl
  · exact h
  · exact h
/-- an operation that hangs on none of those before it may be done first -/
theorem Wd.front (hXY : ∀ a b, X a b → Y a b) : ∀ (l1 : List (Oper × Nat)) (o : Oper) (c : Nat) (l2 : List (Oper × Nat)) (e : Env) (w0 : World), (c = 0 ∨ c = 3) → Wd P ops Q X Y (l1 ++ (o, c) :: l2) e w0 → (∀ x ∈ l1, x.2 = 0 ∨ x.2 = 3) →
    (∀ x ∈ l1, okO n x.1 = true) → okO n o = true → (∀ x ∈ l1, ∀ d, x.1.dst = some d → o.dst ≠ some d ∧ d ∉ looks ops o) → (∀ x ∈ l1, ∀ d, o.dst = some d → d ∉ looks ops x.1) →
    ∃ v, (∀ w, X w0 w → OpD P ops o e w (fun v' w' => v' = v ∧ X w w')) ∧ Wd P ops Q X Y (l1 ++ l2) (put e o.dst v) w0
  | [], o, c, l2, e, w0, hc, h, _, _, _, _, _ => by
    obtain ⟨v, h1, h2⟩ := Wd.st hXY hc h
    refine ⟨v, fun w hX => h1 w ?_, h2⟩
    rcases hc with rfl | rfl
    · exact hX
    · exact hXY _ _ hX
  | (o1, b1) :: l1, o, c, l2, e, w0, hc, h, hb, hk, hko, h1, h2 => by
    obtain ⟨v1, hv1, hr⟩ := Wd.st hXY (hb (o1, b1) (by simp)) h
    obtain ⟨v, hv, hw⟩ := Wd.front hXY l1 o c l2 _ w0 hc hr (fun x hx => hb x (by simp [hx])) (fun x hx => hk x (by simp [hx])) hko (fun x hx => h1 x (by simp [hx])) (fun x hx => h2 x (by simp [hx]))
    refine ⟨v, fun w hX => OpD.congr (okO_ns hko) (fun t ht => ?_) (hv w hX), Wd.ts (hb (o1, b1) (by simp)) ⟨v1, fun w hX => OpD.congr (okO_ns (hk (o1, b1) (by simp))) (fun t ht => ?_) (hv1 w hX), ?_⟩⟩
    · exact put_other _ _ _ _ (fun hx => (h1 (o1, b1) (by simp) t hx).2 ht)
    · exact (put_other _ _ _ _ (fun hx => h2 (o1, b1) (by simp) t hx ht)).symm
    · rw [put_comm e v v1 (fun x hx hy => (h1 (o1, b1) (by simp) x hy).1 hx)]
      exact hw
/-- so may one that makes new memory, or changes what Y names: those before it do not see it -/
theorem Wd.front2 (hXt : ∀ a b c, X a b → X b c → X a c) (hYt : ∀ a b c, Y a b → Y b c → Y a c) (hXY : ∀ a b, X a b → Y a b) : ∀ (l1 : List (Oper × Nat)) (o : Oper) (c : Nat) (l2 : List (Oper × Nat)) (e : Env) (w0 : World), (c = 2 ∨ 4 ≤ c) → Wd P ops Q X Y (l1 ++ (o, c) :: l2) e w0 → (∀ x ∈ l1, x.2 = 3 ∨ (x.2 = 0 ∧ c = 2)) →
    (∀ x ∈ l1, okO n x.1 = true) → okO n o = true → (∀ x ∈ l1, ∀ d, x.1.dst = some d → o.dst ≠ some d ∧ d ∉ looks ops o) → (∀ x ∈ l1, ∀ d, o.dst = some d → d ∉ looks ops x.1) →
    ∀ w, X w0 w → ∃ R, OpD P ops o e w R ∧ ∀ v w', R v w' → (if c = 2 then X else Y) w w' ∧ Wd P ops Q X Y (l1 ++ l2) (put e o.dst v) w'
  | [], o, c, l2, e, w0, hc, h, _, _, _, _, _ => by
    rcases hc with rfl | hc
    · exact h
    · obtain ⟨m, rfl⟩ : ∃ m, c = m + 4 := ⟨c - 4, by omega⟩
      have e1 : ¬ m + 4 = 2 := by omega
      rw [if_neg e1]; exact h
  | (o1, b1) :: l1, o, c, l2, e, w0, hc, h, hb, hk, hko, h1, h2 => by
    have hb1 := hb (o1, b1) (by simp)
    have hb1' : b1 = 0 ∨ b1 = 3 := by rcases hb1 with h | h; exact .inr h; exact .inl h.1
    obtain ⟨v1, hv1, hr⟩ := Wd.st hXY hb1' h
    intro w hXw
    obtain ⟨R, hR, hw⟩ := Wd.front2 hXt hYt hXY l1 o c l2 _ w0 hc hr (fun x hx => hb x (by simp [hx])) (fun x hx => hk x (by simp [hx])) hko (fun x hx => h1 x (by simp [hx])) (fun x hx => h2 x (by simp [hx])) w hXw
    refine ⟨R, OpD.congr (okO_ns hko) (fun t ht => ?_) hR, fun v w' hv => ⟨(hw v w' hv).1, Wd.ts hb1' ⟨v1, fun w2 hX2 => OpD.congr (okO_ns (hk (o1, b1) (by simp))) (fun t ht => ?_) (hv1 w2 ?_), ?_⟩⟩⟩
    · exact put_other _ _ _ _ (fun hx => (h1 (o1, b1) (by simp) t hx).2 ht)
    · exact (put_other _ _ _ _ (fun hx => h2 (o1, b1) (by simp) t hx ht)).symm
    · have hs := (hw v w' hv).1
      rcases hb1 with h3 | ⟨h3, h4⟩
      · simp only at h3
        subst h3
        have e3 : ¬ (3 : Nat) = 0 := by omega
        rw [if_neg e3] at hX2 ⊢
        have hy : Y w w' := by
          by_cases hc2 : c = 2
          · rw [if_pos hc2] at hs; exact hXY _ _ hs
          · rw [if_neg hc2] at hs; exact hs
        exact hYt _ _ _ (hXY _ _ hXw) (hYt _ _ _ hy hX2)
      · simp only at h3
        subst h3
        rw [if_pos h4] at hs
        rw [if_pos rfl] at hX2 ⊢
        exact hXt _ _ _ hXw (hXt _ _ _ hs hX2)
    · rw [put_comm e v v1 (fun x hx hy => (h1 (o1, b1) (by simp) x hy).1 hx)]
      exact (hw v w' hv).2
theorem chk_edges {bars : List Nat} (hc : chk ops bars = true) {j : Nat} {oj : Oper} (hj : ops[j]? = some oj) : ∀ k ∈ edgesOn oj, k < j := by
  have hlt := (List.getElem?_eq_some_iff.1 hj).1
  unfold chk at hc
  have := List.all_eq_true.1 hc j (List.mem_range.2 hlt)
  simp only [hj, Bool.and_eq_true] at this
  intro k hk
  exact of_decide_eq_true (List.all_eq_true.1 this.1 k hk)
theorem chk_pair {bars : List Nat} (hc : chk ops bars = true) {i j : Nat} {oi oj : Oper} (hi : ops[i]? = some oi) (hj : ops[j]? = some oj) (hij : i < j) : chkPair ops (masks ops []) bars i j oi oj = true := by
  have hlt := (List.getElem?_eq_some_iff.1 hj).1
  unfold chk at hc
  have := List.all_eq_true.1 hc j (List.mem_range.2 hlt)
  simp only [hj, Bool.and_eq_true] at this
  have h2 := List.all_eq_true.1 this.2 i (List.mem_range.2 hij)
  simpa only [hi] using h2
theorem pair_facts {bars : List Nat} {ms : List Nat} {i j : Nat} {oi oj : Oper} (h : chkPair ops ms bars i j oi oj = true) (hb : (ms.getD j 0).testBit i = false) :
    (∀ d, oi.dst = some d → oj.dst ≠ some d ∧ d ∉ looks ops oj) ∧ (∀ d, oj.dst = some d → d ∉ looks ops oi) ∧ (bars.getD i 0 = 3 ∨ (bars.getD i 0 = 0 ∧ bars.getD j 0 ≠ 4)) ∧ bars.getD j 0 ≠ 1 := by
  unfold chkPair at h
  simp only [hb, Bool.or_false, Bool.and_eq_true] at h
  obtain ⟨⟨⟨h1, h2⟩, h3⟩, h4⟩ := h
  refine ⟨fun d hd => ⟨fun hx => ?_, fun hx => ?_⟩, fun d hd hx => ?_, ?_⟩
  · simp [hd, hx] at h1
  · simp [hd, hx] at h2
  · simp [hd, hx] at h3
  · simp only [Bool.or_eq_true, Bool.and_eq_true, beq_iff_eq, Bool.not_eq_true', beq_eq_false_iff_ne, ne_eq] at h4
    rcases h4 with ⟨⟨h5, h6⟩, h7⟩ | ⟨h5, h6⟩
    · exact ⟨.inr ⟨h5, h7⟩, h6⟩
    · exact ⟨.inl h5, h6⟩

def zl (ops : List Oper) (bars : List Nat) (r : List Nat) : List (Oper × Nat) := r.map fun i => (ops[i]!, bars.getD i 0)

theorem wd_any (bars : List Nat) (hk4 : ∀ i, bars.getD i 0 ≤ 4) (hX0 : ∀ w, X w w) (hX : ∀ a b c, X a b → X b c → X a c) (hYt : ∀ a b c, Y a b → Y b c → Y a c) (hXY : ∀ a b, X a b → Y a b) (hc : chk ops bars = true) (hok : ∀ o ∈ ops, okO n o = true) :
    ∀ (fuel : Nat) (r : List Nat) (listed : Array Bool) (e : Env) (w w0 : World), r.length = fuel → r.Pairwise (· < ·) → (∀ i, i ∈ r ↔ i < ops.length ∧ listed.getD i true = false) →
      (∀ (i : Nat) (o : Oper), ops[i]? = some o → listed.getD i false = true → ∀ k ∈ edgesOn o, listed.getD k false = true) → listed.size = ops.length → X w0 w → Wd P ops Q X Y (zl ops bars r) e w0 →
      wpAny P .any ops.toArray (lift n Q) fuel listed (act n e) w := by
  have hget : ∀ (i : Nat) (o : Oper), ops[i]? = some o → ops[i]! = o := by
    intro i o h
    have hlt := (List.getElem?_eq_some_iff.1 h).1
    have h2 := (List.getElem?_eq_some_iff.1 h).2
    simp [hlt, h2]
  intro fuel
  induction fuel with
  | zero =>
    intro r listed e w w0 hl hs hr hcl hsz hXw hW
    have hr0 : r = [] := List.eq_nil_of_length_eq_zero hl
    subst hr0
    refine ⟨?_, e, rfl, hW w hXw⟩
    apply List.eq_nil_iff_forall_not_mem.2
    intro i hi
    obtain ⟨h1, o, ho, _⟩ := mem_ready.1 hi
    have hlt : i < ops.length := by simpa using (Array.getElem?_eq_some_iff.1 ho).1
    have := (hr i).2 ⟨hlt, h1⟩
    simp at this
  | succ fuel ih =>
    intro r listed e w w0 hl hs hr hcl hsz hXw hW
    have hlst : ∀ k, k < ops.length → k ∉ r → listed.getD k false = true := by
      intro k hk hn
      have h1 : ¬ listed.getD k true = false := fun h => hn ((hr k).2 ⟨hk, h⟩)
      have : k < listed.size := by omega
      simp [this] at h1 ⊢
      exact h1
    refine ⟨fun hre => ?_, fun i hi => ?_⟩
    · exfalso
      match r, hl with
      | h :: r', _ =>
        have hh := (hr h).1 (by simp)
        have hoh : ops[h]? = some ops[h] := List.getElem?_eq_getElem hh.1
        have : h ∈ Region.ready .any ops.toArray listed := by
          refine mem_ready.2 ⟨hh.2, ops[h], by simp, fun ed hed hb => ?_⟩
          have hke : ed.on ∈ edgesOn ops[h] := List.mem_map.2 ⟨ed, List.mem_filter.2 ⟨by simpa using hed, hb⟩, rfl⟩
          have hlt := chk_edges hc hoh ed.on hke
          refine hlst _ (by omega) fun hm => ?_
          rcases List.mem_cons.1 hm with h1 | h1
          · omega
          · have := List.rel_of_pairwise_cons hs h1; omega
        rw [hre] at this
        simp at this
    · obtain ⟨h1, o, ho, hed⟩ := mem_ready.1 hi
      have hoi : ops[i]? = some o := by simpa using ho
      have hlt : i < ops.length := (List.getElem?_eq_some_iff.1 hoi).1
      have hko : okO n o = true := hok o (List.mem_of_getElem? hoi)
      have hed' : ∀ k ∈ edgesOn o, listed.getD k false = true := by
        intro k hk
        obtain ⟨ed, hm, rfl⟩ := List.mem_map.1 hk
        obtain ⟨hm1, hm2⟩ := List.mem_filter.1 hm
        exact hed ed (by simpa using hm1) hm2
      have hF : ∀ j, ((masks ops []).getD i 0).testBit j = true → listed.getD j false = true :=
        masks_spec (fun j => listed.getD j false = true) ops [] [] rfl hcl (by simp) i o hoi hed'
      have hir := (hr i).2 ⟨hlt, h1⟩
      obtain ⟨r1, r2, rfl⟩ := List.append_of_mem hir
      have hnl : ∀ j, j ∈ r1 ++ i :: r2 → listed.getD j false = false := by
        intro j hj
        have := ((hr j).1 hj).2
        have hj2 : j < listed.size := by rw [hsz]; exact ((hr j).1 hj).1
        simp [hj2] at this ⊢
        exact this
      have hs2 := List.pairwise_append.1 hs
      have hpair : ∀ j ∈ r1, (∀ d, (ops[j]!).dst = some d → o.dst ≠ some d ∧ d ∉ looks ops o) ∧ (∀ d, o.dst = some d → d ∉ looks ops ops[j]!) ∧ (bars.getD j 0 = 3 ∨ (bars.getD j 0 = 0 ∧ bars.getD i 0 ≠ 4)) ∧ bars.getD i 0 ≠ 1 ∧ okO n ops[j]! = true := by
        intro j hj
        have hjr : j ∈ r1 ++ i :: r2 := by simp [hj]
        have hji : j < i := hs2.2.2 j hj i (by simp)
        have hjl := ((hr j).1 hjr).1
        have hoj : ops[j]? = some ops[j] := List.getElem?_eq_getElem hjl
        have hbit : ((masks ops []).getD i 0).testBit j = false := by
          cases hb : ((masks ops []).getD i 0).testBit j with
          | false => rfl
          | true => have := hF j hb; rw [hnl j hjr] at this; cases this
        have hf := pair_facts (chk_pair hc hoj hoi hji) hbit
        rw [hget j _ hoj]
        exact ⟨hf.1, hf.2.1, hf.2.2.1, hf.2.2.2, hok _ (List.getElem_mem hjl)⟩
      have hnext : ∀ (e' : Env) (w' w0' : World), X w0' w' → Wd P ops Q X Y (zl ops bars (r1 ++ r2)) e' w0' → wpAny P .any ops.toArray (lift n Q) fuel (listed.setIfInBounds i true) (act n e') w' := by
        intro e' w' w0' hx hw'
        refine ih (r1 ++ r2) _ e' w' w0' (by simp at hl ⊢; omega) ?_ ?_ ?_ (by simp [hsz]) hx hw'
        · exact hs.sublist (List.Sublist.append_left (List.sublist_cons_self i r2) r1)
        · intro j
          by_cases hji : j = i
          · subst hji
            have hn1 : j ∉ r1 := fun hm => by have := hs2.2.2 j hm j (by simp); omega
            have hn2 : j ∉ r2 := fun hm => by have := List.rel_of_pairwise_cons hs2.2.1 hm; omega
            have : j < listed.size := by omega
            simp [hn1, hn2, this]
          · have e1 : (listed.setIfInBounds i true).getD j true = listed.getD j true := getD_set_ne true (fun h => hji h.symm)
            rw [e1, ← hr j]
            simp [hji]
        · intro j oj hoj hlj k hk
          by_cases hji : j = i
          · subst hji
            rw [hoi] at hoj
            cases hoj
            exact getD_set_true (hed' k hk)
          · have e1 : (listed.setIfInBounds i true).getD j false = listed.getD j false := getD_set_ne false (fun h => hji h.symm)
            rw [e1] at hlj
            exact getD_set_true (hcl j oj hoj hlj k hk)
      have hgo : ∀ R : Value → World → Prop, OpD P ops o e w R → (∀ v w', R v w' → wpAny P .any ops.toArray (lift n Q) fuel (listed.setIfInBounds i true) (act n (put e o.dst v)) w') →
          wpOp P ops.toArray (lift n Q) i (wpAny P .any ops.toArray (lift n Q) fuel (listed.setIfInBounds i true)) (act n e) w := by
        intro R hd hk
        unfold wpOp
        have ho' : ops.toArray[i]? = some o := by simpa using hoi
        simp only [ho', gv_wanted hok o]
        cases hg : gv ops e o with
        | true =>
          rw [if_pos rfl]
          refine .inl ((hd.1 hg).wp hko _ _ fun v w' hR => ?_)
          rw [act_put e o.dst v (okO_dst hko)]
          exact hk v w' hR
        | false =>
          rw [if_neg (by simp)]
          rw [act_put e o.dst undef (okO_dst hko)]
          exact hk undef w (hd.2 hg)
      have ez : zl ops bars (r1 ++ i :: r2) = zl ops bars r1 ++ (o, bars.getD i 0) :: zl ops bars r2 := by
        show List.map _ (r1 ++ i :: r2) = _
        rw [List.map_append, List.map_cons, hget i o hoi]; rfl
      have ez2 : zl ops bars (r1 ++ r2) = zl ops bars r1 ++ zl ops bars r2 := List.map_append ..
      rw [ez] at hW
      have hst : ∀ x ∈ zl ops bars r1, x.2 = 0 ∨ x.2 = 3 := by
        intro x hx; obtain ⟨j, hj, rfl⟩ := List.mem_map.1 hx
        rcases (hpair j hj).2.2.1 with h | h
        · exact .inr h
        · exact .inl h.1
      have hok1 : ∀ x ∈ zl ops bars r1, okO n x.1 = true := by intro x hx; obtain ⟨j, hj, rfl⟩ := List.mem_map.1 hx; exact (hpair j hj).2.2.2.2
      have hl1 : ∀ x ∈ zl ops bars r1, ∀ d, x.1.dst = some d → o.dst ≠ some d ∧ d ∉ looks ops o := by intro x hx; obtain ⟨j, hj, rfl⟩ := List.mem_map.1 hx; exact (hpair j hj).1
      have hl2 : ∀ x ∈ zl ops bars r1, ∀ d, o.dst = some d → d ∉ looks ops x.1 := by intro x hx; obtain ⟨j, hj, rfl⟩ := List.mem_map.1 hx; exact (hpair j hj).2.1
      have hcase : bars.getD i 0 = 1 ∨ (bars.getD i 0 = 0 ∨ bars.getD i 0 = 3) ∨ (bars.getD i 0 = 2 ∨ 4 ≤ bars.getD i 0) := by omega
      rcases hcase with hbi | hbi | hbi
      · have hr1 : r1 = [] := by
          cases r1 with
          | nil => rfl
          | cons j r1 => exact absurd hbi (hpair j (by simp)).2.2.2.1
        subst hr1
        rw [hbi] at hW
        obtain ⟨R, hd, hk⟩ := hW w hXw
        exact hgo R hd fun v w' hR => hnext _ w' w' (hX0 w') (hk v w' hR)
      · obtain ⟨v, hv, hw'⟩ := Wd.front hXY _ o _ _ e w0 hbi hW hst hok1 hko hl1 hl2
        refine hgo _ (hv w hXw) ?_
        rintro v' w' ⟨rfl, hxw⟩
        exact hnext _ w' w0 (hX _ _ _ hXw hxw) (by rw [ez2]; exact hw')
      · obtain ⟨R, hd, hk⟩ := Wd.front2 hX hYt hXY _ o _ _ e w0 hbi hW (by
          intro x hx; obtain ⟨j, hj, rfl⟩ := List.mem_map.1 hx
          rcases (hpair j hj).2.2.1 with h | h
          · exact .inl h
          · exact .inr ⟨h.1, by have := h.2; have := hk4 i; omega⟩) hok1 hko hl1 hl2 w hXw
        exact hgo R hd fun v w' hR => hnext _ w' w' (hX0 w') (by rw [ez2]; exact (hk v w' hR).2)

theorem w_draw {id : Nat} {e : Env} {w : World} (bars : List Nat) (hm : P.follows .mixedOrders = true) (hc : chk ops bars = true) (hk4 : bars.all (· ≤ 4) = true) (hX0 : ∀ w, X w w) (hX : ∀ a b c, X a b → X b c → X a c) (hYt : ∀ a b c, Y a b → Y b c → Y a c) (hXY : ∀ a b, X a b → Y a b)
    (h : ∀ w1, Ext w w1 → Wd P ops Q X Y (zl ops bars (List.range ops.length)) e w1) : Wp P n (.region id ops.toArray true) Q e w := by
  refine ⟨fun hok => ?_⟩
  have ho : ∀ o ∈ ops, okO n o = true := fun o ho => (Array.all_eq_true_iff_forall_mem.1 hok) o (by simpa using ho)
  refine wp_region_any hm ?_
  have hk4' : ∀ i, bars.getD i 0 ≤ 4 := by
    intro i
    by_cases hi : i < bars.length
    · have := List.all_eq_true.1 hk4 bars[i] (List.getElem_mem hi)
      simpa [List.getD, hi] using this
    · simp [List.getD, hi]
  have := wd_any bars hk4' hX0 hX hYt hXY hc ho ops.length (List.range ops.length) (Array.replicate ops.length false) e w.drew w.drew (by simp) List.pairwise_lt_range (by
      intro i
      simp only [List.mem_range]
      constructor
      · intro h; exact ⟨h, by simp [h]⟩
      · exact fun h => h.1) (by
      intro i o hi hl
      by_cases hlt : i < ops.length <;> simp [hlt] at hl) (by simp) (hX0 _) (h _ (Ext.drew w))
  simpa using this

theorem is_ext {o : Oper} {e : Env} {w : World} {v : Value} (h : OpG P o e w (Is v w)) : OpG P o e w (fun v' w' => v' = v ∧ Ext w w') :=
  h.mono fun _ _ ⟨h1, h2⟩ => ⟨h1, by subst h2; exact Ext.refl _⟩
theorem od_plain {o : Oper} {e : Env} {w : World} {R : Value → World → Prop} (hg : o.guard = none) (h : OpG P o e w R) : OpD P ops o e w R :=
  ⟨fun _ => h, fun hx => by simp [gv, hg] at hx⟩
theorem od_guard {o : Oper} {e : Env} {w : World} {val : Value} {c : Prop} [Decidable c] {b : Bool} (hg : gv ops e o = b) (hc : b = true ↔ c) (h : c → OpG P o e w (fun v' w' => v' = val ∧ Ext w w')) : OpD P ops o e w (fun v' w' => v' = (if c then val else undef) ∧ Ext w w') := by
  refine ⟨fun hx => ?_, fun hx => ?_⟩
  · rw [if_pos (hc.1 (hg ▸ hx))]; exact h (hc.1 (hg ▸ hx))
  · have : ¬ c := fun h => by have := hc.2 h; rw [← hg, hx] at this; cases this
    rw [if_neg this]; exact ⟨rfl, Ext.refl _⟩
theorem Blk.at0 {w : World} {g t i : Nat} {bs : Array Value} {v : Value} (h : Blk w g t bs) (hv : bs[i]? = some v) : w.cell? ((⟨g, 0, none⟩ : Addr).add i) = some v := (h.at i).trans hv
theorem Blk.all {w : World} {g t : Nat} {bs : Array Value} {cs : List Value} (h : Blk w g t bs) (hv : bs.toList = cs) : ∀ j, j < cs.length → w.cell? ((⟨g, 0, none⟩ : Addr).add j) = some cs[j]! := by
  intro j hj
  subst hv
  have hj' : j < bs.size := by simpa using hj
  rw [h.at j]; simp [hj']

/- what a contract says of its result -/
def RetV (w : World) (c : Value) : Value → World → Prop := fun v w' => v = c ∧ Ext w w'
def RetS (w : World) (E sz len : Nat) (cs : List Value) : Value → World → Prop := fun v w' => ∃ a cap, v = .slice a len cap ∧ (a = none → cap = 0) ∧ Own w' w.heap.size E sz a len cap cs ∧ Ext w w'
def RetSB (w : World) (E sz len : Nat) (cs : List Value) (ok : Bool) : Value → World → Prop := fun v w' => ∃ a cap, v = .tuple #[.slice a len cap, .bool ok] ∧ (a = none → cap = 0) ∧ Own w' w.heap.size E sz a len cap cs ∧ Ext w w'
theorem Own.nilrow (w : World) (B E sz : Nat) : Own w B E sz none 0 0 [] := World.ownsRow_nil w B E sz
theorem Own.nil0 {w : World} {B E sz len cap : Nat} {a : Option Addr} {cs : List Value} (h : Own w B E sz a len cap cs) : a = none → cap = 0 := by
  rintro rfl
  rcases h.2 with ⟨e, _⟩ | ⟨g, c, cur, e, _⟩
  · injection e
  · injection e with e1; cases e1
theorem toExt {w w' : World} (h : Below w.heap.size w w') : Ext w w' := ⟨h.os, h.tape, h.output, h.size, fun i hi _ => h.block i hi⟩
end
end Go.Proofs.Ytddjkiefadiijaa
