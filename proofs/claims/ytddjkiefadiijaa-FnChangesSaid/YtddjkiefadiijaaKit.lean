/- The walk's own words: a frame as a function from slots to values, and one rule for each form of code. No statement of the claim stands here. -/
import Derived.WalkKit
import Derived.Below
import Derived.OwnWalk
import Derived.Laws.CopyOwn
namespace Go.Proofs.Ytddjkiefadiijaa
open Go Go.RowKit

/- frames -/
abbrev Env := Nat → Value
def upd (e : Env) (d : Nat) (v : Value) : Env := fun t => if t = d then v else e t
def put (e : Env) (d : Option Nat) (v : Value) : Env := match d with | some d => upd e d v | none => e
def ev (e : Env) : Operand → Value
  | .tmp t => e t
  | .const v => v
  | .global g => .pointer (some ⟨g, 0, none⟩)
  | .func f => .func (.func f) #[] #[]
def act (n : Nat) (e : Env) : Act := ⟨Array.ofFn fun i : Fin n => e i, []⟩

theorem upd_same (e : Env) (d : Nat) (v : Value) : upd e d v d = v := by simp [upd]
theorem upd_ne (e : Env) (d t : Nat) (v : Value) (h : t ≠ d) : upd e d v t = e t := by simp [upd, h]

theorem act_eval {n : Nat} (e : Env) (x : Operand) (h : ∀ t, x = .tmp t → t < n) : (act n e).eval x = ev e x := by
  cases x with
  | tmp t => simp [act, Act.eval, ev, Array.getD, h t rfl]
  | _ => rfl
theorem act_put {n : Nat} (e : Env) (d : Option Nat) (v : Value) (h : ∀ t, d = some t → t < n) : (act n e).put d v = act n (put e d v) := by
  cases d with
  | none => rfl
  | some d =>
    have hd := h d rfl
    simp only [act, Act.put, put, Act.mk.injEq, and_true]
    apply Array.ext
    · simp
    · intro i h1 h2
      have h3 : i < n := by simpa using h2
      rw [← Option.some_inj, ← Array.getElem?_eq_getElem h1, Array.getElem?_setIfInBounds]
      by_cases hi : d = i
      · subst hi; simp [upd, hd]
      · have hi' : ¬ i = d := fun x => hi x.symm
        simp [upd, hi, hi', h3]

/- tests, in plain words -/
theorem bt_not {b : Bool} (h : (!b) = true) : b = false := by simpa using h
theorem bf_not {b : Bool} (h : (!b) = false) : b = true := by simpa using h
theorem bt_and {a b : Bool} (h : (a && b) = true) : a = true ∧ b = true := by simpa using h
theorem bf_and {a b : Bool} (h : (a && b) = false) : a = false ∨ b = false := by cases a <;> simp_all
theorem bt_or {a b : Bool} (h : (a || b) = true) : a = true ∨ b = true := by simpa using h
theorem bf_or {a b : Bool} (h : (a || b) = false) : a = false ∧ b = false := by simpa using h

/- the slots that code names lie within the frame -/
def okX (n : Nat) : Operand → Bool
  | .tmp t => decide (t < n)
  | _ => true
def okO (n : Nat) (o : Oper) : Bool :=
  (match o.dst with | some d => decide (d < n) | none => true) && o.op.operands.all (okX n) && (match o.op with | .select .. => false | _ => true)
def okC (n : Nat) : Code → Bool
  | .skip => true
  | .region _ ops _ => ops.all (okO n)
  | .seq a b => okC n a && okC n b
  | .cond c a b => okX n c && okC n a && okC n b
  | .block _ b => okC n b
  | .loop b => okC n b
  | .exit _ => true
  | .ret => true
  | _ => false
theorem okX_lt {n : Nat} {x : Operand} (h : okX n x = true) : ∀ t, x = .tmp t → t < n := by
  rintro t rfl; simpa [okX] using h
theorem okO_dst {n : Nat} {o : Oper} (h : okO n o = true) : ∀ t, o.dst = some t → t < n := by
  intro t ht
  simp only [okO, ht, Bool.and_eq_true, decide_eq_true_eq] at h
  exact h.1.1
theorem okO_exec {n : Nat} {o : Oper} (h : okO n o = true) (e : Env) : execOp (act n e).eval o = execOp (ev e) o := by
  simp only [okO, Bool.and_eq_true] at h
  obtain ⟨⟨_, h2⟩, h3⟩ := h
  refine execOp_congr o (fun cs b hs => ?_) (fun x hx => act_eval e x (okX_lt ?_))
  · rw [hs] at h3; cases h3
  · exact Array.all_eq_true_iff_forall_mem.1 h2 x hx

/- posts -/
abbrev QE := Exit → Env → World → Prop
def lift (n : Nat) (Q : QE) : Exit → Act → World → Prop := fun x a w => ∃ e, a = act n e ∧ Q x e w
def thenQ (K : Env → World → Prop) (Q : QE) : QE
  | .normal, e, w => K e w
  | x, e, w => Q x e w
def blockQ (id : Nat) (Q : QE) : QE
  | .exit i, e, w => if i = id then Q .normal e w else Q (.exit i) e w
  | x, e, w => Q x e w

structure Wp (P : Program) (n : Nat) (c : Code) (Q : QE) (e : Env) (w : World) : Prop where
  run : okC n c = true → c.wp P (lift n Q) (act n e) w
structure Wl (P : Program) (n : Nat) (ops : List Oper) (Q : QE) (l : List Oper) (e : Env) (w : World) : Prop where
  run : (∀ o ∈ ops, okO n o = true) → (∀ o ∈ l, okO n o = true) → wpList P ops.toArray (lift n Q) l (act n e) w

section
variable {P : Program} {n : Nat} {Q : QE} {e : Env} {w : World}

theorem Wp.mono {c : Code} {Q' : QE} (h : Wp P n c Q e w) (hq : ∀ (x : Exit) (e : Env) (w : World), Q x e w → Q' x e w) : Wp P n c Q' e w :=
  ⟨fun hok => wp_mono (h.run hok) fun _ _ _ ⟨e, ha, hQ⟩ => ⟨e, ha, hq _ _ _ hQ⟩⟩

theorem w_skip (h : Q .normal e w) : Wp P n .skip Q e w := ⟨fun _ => wp_skip ⟨e, rfl, h⟩⟩
theorem w_exit {id : Nat} (h : Q (.exit id) e w) : Wp P n (.exit id) Q e w := ⟨fun _ => wp_exit ⟨e, rfl, h⟩⟩
theorem w_ret (h : Q .ret e w) : Wp P n .ret Q e w := ⟨fun _ => wp_ret ⟨e, rfl, h⟩⟩
theorem w_seq {x y : Code} (h : ∀ K : Env → World → Prop, (∀ e w, Wp P n y Q e w → K e w) → Wp P n x (thenQ K Q) e w) : Wp P n (.seq x y) Q e w := by
  refine ⟨fun hok => ?_⟩
  simp only [okC, Bool.and_eq_true] at hok
  refine wp_seq (wp_mono ((h (fun e w => Wp P n y Q e w) (fun _ _ h => h)).run hok.1) ?_)
  rintro x a w ⟨e, rfl, hQ⟩
  cases x with
  | normal => exact hQ.run hok.2
  | _ => exact ⟨e, rfl, hQ⟩
theorem w_cond {c : Operand} {x y : Code} {b : Bool} (hc : ev e c = .bool b) (ht : b = true → Wp P n x Q e w) (hf : b = false → Wp P n y Q e w) : Wp P n (.cond c x y) Q e w := by
  refine ⟨fun hok => ?_⟩
  simp only [okC, Bool.and_eq_true] at hok
  refine wp_cond (t := b) (by rw [act_eval e c (okX_lt hok.1.1), hc]) ?_
  cases b with
  | true => exact (ht rfl).run hok.1.2
  | false => exact (hf rfl).run hok.2
theorem w_cond_d {c : Operand} {x y : Code} {p : Prop} [Decidable p] (hc : ev e c = .bool (decide p)) (ht : p → Wp P n x Q e w) (hf : ¬ p → Wp P n y Q e w) : Wp P n (.cond c x y) Q e w :=
  w_cond hc (fun h => ht (of_decide_eq_true h)) (fun h => hf (of_decide_eq_false h))
theorem w_block {id : Nat} {c : Code} (h : Wp P n c (blockQ id Q) e w) : Wp P n (.block id c) Q e w := by
  refine ⟨fun hok => ?_⟩
  refine wp_block (wp_mono (h.run hok) ?_)
  rintro x a w ⟨e, rfl, hQ⟩
  cases x with
  | exit i =>
    simp only [Exit.inBlock, blockQ] at hQ ⊢
    split
    · rename_i hi; rw [if_pos hi] at hQ; exact ⟨e, rfl, hQ⟩
    · rename_i hi; rw [if_neg hi] at hQ; exact ⟨e, rfl, hQ⟩
  | _ => exact ⟨e, rfl, hQ⟩
theorem w_loop {c : Code} (I : Nat → Env → World → Prop) (k : Nat) (h0 : I k e w)
    (round : ∀ k e w, I k e w → Wp P n c (thenQ (fun e' w' => ∃ k', k' < k ∧ I k' e' w') Q) e w) : Wp P n (.loop c) Q e w := by
  refine ⟨fun hok b kk cs => ?_⟩
  have hokc : okC n c = true := hok
  have key : ∀ m e w, I m e w → ∃ x a' w', lift n Q x a' w' ∧ Arrives P (lone (b.at (act n e) (.code c :: .inLoop c :: kk)) cs w) b kk cs x a' w' := by
    intro m
    induction m using Nat.strongRecOn with
    | _ m ih =>
      intro e w hI
      obtain ⟨x, a₁, w₁, ⟨e₁, rfl, hq⟩, harr⟩ := (round m e w hI).run hokc b (.inLoop c :: kk) cs
      cases x with
      | normal =>
        obtain ⟨m', hlt, hI₁⟩ := hq
        obtain ⟨x₂, a₂, w₂, hq₂, harr₂⟩ := ih m' hlt e₁ w₁ hI₁
        exact ⟨x₂, a₂, w₂, hq₂, .of_steps (Steps.trans harr (.one step_inLoop)) harr₂⟩
      | exit id => exact ⟨_, _, w₁, ⟨e₁, rfl, hq⟩, .pass (x := .inLoop c) rfl (fun _ _ => .inl (by simp)) harr⟩
      | goto l => exact ⟨_, _, w₁, ⟨e₁, rfl, hq⟩, .pass (x := .inLoop c) rfl (fun _ _ => .inl (by simp)) harr⟩
      | ret => exact ⟨_, _, w₁, ⟨e₁, rfl, hq⟩, .pass (x := .inLoop c) rfl (fun _ _ => .inl (by simp)) harr⟩
      | panic ch => exact ⟨_, _, w₁, ⟨e₁, rfl, hq⟩, .pass (x := .inLoop c) rfl (fun _ _ => .inl (by simp)) harr⟩
      | outgrown => exact ⟨_, _, w₁, ⟨e₁, rfl, hq⟩, .pass (x := .inLoop c) rfl (fun _ _ => .inl (by simp)) harr⟩
  obtain ⟨x, a', w', hq, harr⟩ := key k e w h0
  exact ⟨x, a', w', hq, .of_steps (.one step_loop) harr⟩

/- one region, its operations in the order of the text -/
theorem w_region {id : Nat} {ops : List Oper} (h : Wl P n ops Q ops e w) : Wp P n (.region id ops.toArray false) Q e w := by
  refine ⟨fun hok => ?_⟩
  have ho : ∀ o ∈ ops, okO n o = true := fun o ho => (Array.all_eq_true_iff_forall_mem.1 hok) o (by simpa using ho)
  exact wp_region_lit (h.run ho ho)
theorem wl_nil {ops : List Oper} (h : Q .normal e w) : Wl P n ops Q [] e w := ⟨fun _ _ => wpList_nil ⟨e, rfl, h⟩⟩

/- a call's contract: it returns, and R holds of what it returns and of the world behind it -/
def Fn (P : Program) (f : FuncId) (args : Array Value) (w : World) (R : Value → World → Prop) : Prop :=
  Calls P f args w fun x w' => ∃ v, x = .returned v ∧ R v w'
theorem Fn.mono {f : FuncId} {args : Array Value} {R R' : Value → World → Prop} (h : Fn P f args w R) (hr : ∀ v w', R v w' → R' v w') : Fn P f args w R' :=
  Calls.mono h fun _ _ ⟨v, hv, hR⟩ => ⟨v, hv, hr _ _ hR⟩

/-- What one operation does: R says of its value and of the world behind it what the rest may use. -/
def OpG (P : Program) (o : Oper) (e : Env) (w : World) (R : Value → World → Prop) : Prop :=
  match (execOp (ev e) o).run P w with
  | .ok (.value v) w' => R v w'
  | .ok .skip w' => R undef w'
  | .ok (.enter f args) w' => Fn P f args w' R
  | _ => False
theorem OpG.mono {o : Oper} {R R' : Value → World → Prop} (h : OpG P o e w R) (hr : ∀ v w', R v w' → R' v w') : OpG P o e w R' := by
  unfold OpG at h ⊢
  split at h
  · exact hr _ _ h
  · exact hr _ _ h
  · exact Fn.mono h hr
  · exact h.elim
theorem OpG.wp {o : Oper} {R : Value → World → Prop} (hok : okO n o = true) (h : OpG P o e w R) (K : Act → World → Prop) (QQ : Exit → Act → World → Prop) (hK : ∀ v w', R v w' → K ((act n e).put o.dst v) w') : o.wp P (act n e) w K QQ := by
  unfold Oper.wp
  rw [okO_exec hok]
  unfold OpG at h
  split at h
  · rename_i v w' hr; rw [hr]; exact hK _ _ h
  · rename_i w' hr; rw [hr]; exact hK _ _ h
  · rename_i f args w' hr
    rw [hr]
    refine Calls.mono h ?_
    rintro x w' ⟨v, rfl, hR⟩
    exact hK v w' hR
  · exact h.elim

theorem wl_step {ops rest : List Oper} {o : Oper} {R : Value → World → Prop} (hg : o.guard = none) (h : OpG P o e w R)
    (hk : ∀ v w', R v w' → Wl P n ops Q rest (put e o.dst v) w') : Wl P n ops Q (o :: rest) e w := by
  refine ⟨fun hops hok => ?_⟩
  have hoo := hok o (by simp)
  refine wpList_plain hg fun K hK => h.wp hoo K _ fun v w' hR => hK _ _ ?_
  rw [act_put e o.dst v (okO_dst hoo)]
  exact (hk v w' hR).run hops fun o' ho' => hok o' (by simp [ho'])

def retQ (P : Program) (fn : Func) (n : Nat) (R : Value → World → Prop) : QE
  | .normal, e, w | .ret, e, w => ∃ v, (results fn (act n e).tmps).run P w = .ok v w ∧ R v w
  | _, _, _ => False
theorem fn_of_wp {f : FuncId} {fn : Func} {c : Code} {args : Array Value} {R : Value → World → Prop} (hf : P.funcs[f]? = some fn) (hb : fn.body = some c)
    (hok : okC fn.ntmps c = true) (ha : args.size ≤ fn.ntmps) (h : Wp P fn.ntmps c (retQ P fn fn.ntmps R) (fun t => args.getD t undef) w) : Fn P f args w R := by
  refine calls_of_wp hf hb ?_
  have he : ({ tmps := args ++ Array.replicate (fn.ntmps - args.size) undef, defers := [] } : Act) = act fn.ntmps (fun t => args.getD t undef) := by
    simp only [act, Act.mk.injEq, and_true]
    apply Array.ext
    · simp; omega
    · intro i h1 h2
      simp only [Array.getElem_ofFn, Array.getElem_append, Array.getD]
      split
      · rfl
      · simp
  rw [he]
  refine wp_mono (h.run hok) ?_
  rintro x a w ⟨e, rfl, hQ⟩
  cases x with
  | normal => obtain ⟨v, hv, hR⟩ := hQ; exact ⟨rfl, v, hv, v, rfl, hR⟩
  | ret => obtain ⟨v, hv, hR⟩ := hQ; exact ⟨rfl, v, hv, v, rfl, hR⟩
  | _ => exact hQ.elim
theorem ret1 {fn : Func} {R : Value → World → Prop} {t : Nat} (hr : fn.results = #[.tmp t]) (ht : t < n) (h : R (e t) w) : retQ P fn n R .ret e w :=
  ⟨e t, by rw [results_tmp hr]; simp [act, Array.getD, ht], h⟩
theorem ret2 {fn : Func} {R : Value → World → Prop} {t u : Nat} (hr : fn.results = #[.tmp t, .tmp u]) (ht : t < n) (hu : u < n) (h : R (.tuple #[e t, e u]) w) : retQ P fn n R .ret e w :=
  ⟨.tuple #[e t, e u], by rw [results_tmp2 hr]; simp [act, Array.getD, ht, hu], h⟩

/- frames written out -/
def upds (b : Env) : List (Nat × Value) → Env
  | [] => b
  | (t, v) :: l => upd (upds b l) t v
def Holds (e : Env) : List (Nat × Value) → Prop
  | [] => True
  | (t, v) :: l => e t = v ∧ Holds e l
theorem upd_self (e : Env) (t : Nat) : upd e t (e t) = e := by
  funext u; unfold upd; split <;> simp_all
theorem Holds.eq {l : List (Nat × Value)} (h : Holds e l) : e = upds e l := by
  induction l with
  | nil => rfl
  | cons x l ih =>
    obtain ⟨t, v⟩ := x
    obtain ⟨h1, h2⟩ := h
    have := ih h2
    show e = upd (upds e l) t v
    rw [← this, ← h1, upd_self]
theorem w_for {c : Code} {σ : Type} (L : σ → List (Nat × Value)) (I : σ → World → Prop) (μ : σ → Nat) (s0 : σ) (h0 : Holds e (L s0)) (hi : I s0 w)
    (round : ∀ s b w, I s w → Wp P n c (thenQ (fun e' w' => ∃ s', μ s' < μ s ∧ Holds e' (L s') ∧ I s' w') Q) (upds b (L s)) w) : Wp P n (.loop c) Q e w := by
  refine w_loop (fun k e w => ∃ s, μ s = k ∧ Holds e (L s) ∧ I s w) (μ s0) ⟨s0, rfl, h0, hi⟩ ?_
  rintro k e w ⟨s, rfl, hH, hI⟩
  rw [hH.eq]
  refine (round s e w hI).mono ?_
  intro x e' w' hq
  cases x with
  | normal =>
    obtain ⟨s', hlt, hH', hI'⟩ := hq
    exact ⟨μ s', hlt, s', rfl, hH', hI'⟩
  | _ => exact hq
theorem w_cut {x y : Code} {σ : Type} (L : σ → List (Nat × Value)) (I : σ → World → Prop)
    (hx : Wp P n x (thenQ (fun e w => ∃ s, Holds e (L s) ∧ I s w) Q) e w) (hy : ∀ s b w, I s w → Wp P n y Q (upds b (L s)) w) : Wp P n (.seq x y) Q e w := by
  refine w_seq fun K hK => hx.mono ?_
  intro z e' w' hq
  cases z with
  | normal =>
    obtain ⟨s, hH, hI⟩ := hq
    refine hK _ _ ?_
    rw [hH.eq]
    exact hy s e' w' hI
  | _ => exact hq

/- guards -/
def gv (ops : List Oper) (e : Env) (o : Oper) : Bool :=
  match o.guard with
  | none => true
  | some (j, b) => match ((ops[j]?).bind (·.dst)).map e with
    | some (.bool x) => x == b
    | _ => false
theorem gv_some {ops : List Oper} {o : Oper} {j d : Nat} {want x : Bool} (hg : o.guard = some (j, want)) (hj : (ops[j]?).bind (·.dst) = some d) (he : e d = .bool x) : gv ops e o = (x == want) := by
  simp only [gv, hg, hj, Option.map_some, he]
theorem gv_wanted {ops : List Oper} (hok : ∀ o ∈ ops, okO n o = true) (o : Oper) : Region.wanted o (yielded ops.toArray (act n e).tmps) = gv ops e o := by
  unfold Region.wanted gv yielded
  cases hg : o.guard with
  | none => rfl
  | some jb =>
    obtain ⟨j, b⟩ := jb
    simp only [List.getElem?_toArray]
    cases hj : ops[j]? with
    | none => rfl
    | some oj =>
      cases hd : oj.dst with
      | none => simp [hd]
      | some dd =>
        have hlt := okO_dst (hok oj (List.mem_of_getElem? hj)) dd hd
        simp only [Option.bind_some, hd, Option.map_some]
        have : (act n e).tmps[dd]? = some (e dd) := by simp [act, hlt]
        rw [this]
        cases e dd <;> simp
theorem wl_guard {ops rest : List Oper} {o : Oper} {val : Value} {c : Prop} [Decidable c] {b : Bool} (hg : gv ops e o = b) (hc : b = true ↔ c) (h : c → OpG P o e w (fun v' w' => v' = val ∧ w' = w))
    (hk : Wl P n ops Q rest (put e o.dst (if c then val else undef)) w) : Wl P n ops Q (o :: rest) e w := by
  refine ⟨fun hops hok => ?_⟩
  have hoo := hok o (by simp)
  have hr : ∀ o' ∈ rest, okO n o' = true := fun o' ho' => hok o' (by simp [ho'])
  refine wpList_step fun K hK => ?_
  rw [gv_wanted hops, hg]
  cases b with
  | true =>
    have hcc := hc.1 rfl
    rw [if_pos hcc] at hk
    rw [if_pos rfl]
    refine (h hcc).wp hoo K _ ?_
    rintro v' w' ⟨rfl, rfl⟩
    refine hK _ _ ?_
    rw [act_put e o.dst v' (okO_dst hoo)]
    exact hk.run hops hr
  | false =>
    have hcc : ¬ c := fun h => by have := hc.2 h; cases this
    rw [if_neg hcc] at hk
    rw [if_neg (by simp)]
    refine hK _ _ ?_
    rw [act_put e o.dst undef (okO_dst hoo)]
    exact hk.run hops hr
theorem wl_guardE {X : World → World → Prop} {ops rest : List Oper} {o : Oper} {val : Value} {c : Prop} [Decidable c] {b : Bool} (hX : X w w) (hg : gv ops e o = b) (hc : b = true ↔ c) (h : c → OpG P o e w (fun v' w' => v' = val ∧ X w w'))
    (hk : ∀ w', X w w' → Wl P n ops Q rest (put e o.dst (if c then val else undef)) w') : Wl P n ops Q (o :: rest) e w := by
  refine ⟨fun hops hok => ?_⟩
  have hoo := hok o (by simp)
  have hr : ∀ o' ∈ rest, okO n o' = true := fun o' ho' => hok o' (by simp [ho'])
  refine wpList_step fun K hK => ?_
  rw [gv_wanted hops, hg]
  cases b with
  | true =>
    have hcc := hc.1 rfl
    rw [if_pos rfl]
    refine (h hcc).wp hoo K _ ?_
    rintro v' w' ⟨rfl, hx⟩
    refine hK _ _ ?_
    have hk' := hk w' hx
    rw [if_pos hcc] at hk'
    rw [act_put e o.dst v' (okO_dst hoo)]
    exact hk'.run hops hr
  | false =>
    have hcc : ¬ c := fun h => by have := hc.2 h; cases this
    have hk' := hk w hX
    rw [if_neg hcc] at hk'
    rw [if_neg (by simp)]
    refine hK _ _ ?_
    rw [act_put e o.dst undef (okO_dst hoo)]
    exact hk'.run hops hr
theorem ret_run {fn : Func} {R : Value → World → Prop} {v : Value} (hr : (results fn (act n e).tmps).run P w = .ok v w) (h : R v w) : retQ P fn n R .ret e w := ⟨v, hr, h⟩
end
end Go.Proofs.Ytddjkiefadiijaa
