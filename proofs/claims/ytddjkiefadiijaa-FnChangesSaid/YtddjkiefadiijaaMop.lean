/- What the operations on memory do. No statement of the claim stands here. -/
import Derived.Test.YtddjkiefadiijaaMem
import Derived.Laws.CopyRow
namespace Go.Proofs.Ytddjkiefadiijaa
open Go Go.RowKit

/- closed facts on the program's types -/
structure ElT (P : Program) (t E : TypeId) (sz by' : Nat) (z : Value) : Prop where
  hu : P.underlying t = some (.slice E)
  hi : ∃ i, P.info? E = some i ∧ i.zero = some z ∧ i.size = sz ∧ i.bytes = by'
  hz : z.cells.size = sz
  hp : 0 < sz
structure One (P : Program) (t : TypeId) : Prop where
  ag : ∀ w, (isAgg t).run P w = .ok false w
  sz : ∀ w, (sizeOf t).run P w = .ok 1 w
structure Agg (P : Program) (t : TypeId) (m : Nat) : Prop where
  ag : ∀ w, (isAgg t).run P w = .ok true w
  sz : ∀ w, (sizeOf t).run P w = .ok m w
def fldOf (P : Program) (s : TypeId) (f : Nat) : Option (Nat × TypeId) :=
  match P.underlying s with
  | some (.struct fs) => (fs[f]?).map fun fl => (fl.offset, fl.type)
  | _ => none
theorem fldOf_spec {P : Program} {s : TypeId} {f off : Nat} {ft : TypeId} (h : fldOf P s f = some (off, ft)) :
    ∃ fs fl, P.underlying s = some (.struct fs) ∧ fs[f]? = some fl ∧ fl.offset = off ∧ fl.type = ft := by
  unfold fldOf at h
  split at h
  · rename_i fs hu
    obtain ⟨fl, hf, he⟩ := Option.map_eq_some_iff.1 h
    simp only [Prod.mk.injEq] at he
    exact ⟨fs, fl, hu, hf, he.1, he.2⟩
  · cases h
def Zer (P : Program) (t : TypeId) (z : Value) : Prop := ∀ w, (zeroValue t).run P w = .ok z w
def CallF (P : Program) (f : FuncId) : Prop := ∀ args w, (callFunc f args).run P w = .ok (.enter f args) w

section
variable {P : Program} {n : Nat} {e : Env} {w : World} {d : Option Nat} {t ty ty' E : TypeId} {p : String} {af : Array Edge} {gd : Option (Nat × Bool)} {sz by' : Nat} {z : Value}

theorem g_len' {x : Operand} {a : Option Addr} {l c : Nat} (hT : ElT P ty E sz by' z) (hx : ev e x = .slice a l c) : OpG P ⟨d, .call ⟨.builtin .len, #[x], #[ty]⟩, t, p, af, gd⟩ e w (Is (.int .i64 l) w) := g_len hT.hu hx
theorem g_index {x y : Operand} {a : Option Addr} {l c : Nat} {i : Int} (hT : ElT P ty E sz by' z)
    (hx : ev e x = .slice a l c) (hy : ev e y = .int .i64 i) (ha : a.isSome = true) (h0 : 0 ≤ i) (h1 : i < l) : OpG P ⟨d, .indexAddr ty x y, t, p, af, gd⟩ e w (Is (.pointer (some ((adr a).add (i.toNat * sz)))) w) := by
  obtain ⟨i', hi, _, hs, _⟩ := hT.hi
  exact g_indexAddr hT.hu hi hs hx hy ha h0 h1
theorem g_load1 {x : Operand} {q : Addr} {v : Value} (ho : One P ty) (hx : ev e x = .pointer (some q)) (hc : w.cell? q = some v) : OpG P ⟨d, .load ty x, t, p, af, gd⟩ e w (Is v w) := by
  refine g_run ?_
  simp [execOp, Instr.loadAt, Instr.sureAddr, hx, loadVar, ho.ag, run_load, hc]
theorem g_loadS {x : Operand} {q : Addr} {cs : List Value} (ho : Agg P ty cs.length) (hx : ev e x = .pointer (some q)) (hc : ∀ j, j < cs.length → w.cell? (q.add j) = some cs[j]!) : OpG P ⟨d, .load ty x, t, p, af, gd⟩ e w (Is (.agg cs.toArray) w) := by
  refine g_run ?_
  have h := run_loadCells_list (P := P) (w := w) q cs (fun j v hv => by
    have hj : j < cs.length := (List.getElem?_eq_some_iff.1 hv).1
    rw [hc j hj, ← hv]; simp [hj])
  simp [execOp, Instr.loadAt, Instr.sureAddr, hx, loadVar, ho.ag, ho.sz, h]
theorem g_nilCheck {x : Operand} {q : Addr} (hx : ev e x = .pointer (some q)) : OpG P ⟨d, .nilCheck x, t, p, af, gd⟩ e w (Is (.pointer (some q)) w) := by
  refine g_run ?_
  simp [execOp, hx]
theorem g_fieldAddr {x : Operand} {q : Addr} {f off : Nat} {ft : TypeId} (hf : fldOf P ty f = some (off, ft)) (ho : One P ft) (hx : ev e x = .pointer (some q)) : OpG P ⟨d, .fieldAddr ty x f, t, p, af, gd⟩ e w (Is (.pointer (some (q.add off))) w) := by
  refine g_run ?_
  obtain ⟨fs, fl, hu, h1, h2, h3⟩ := fldOf_spec hf
  subst h3
  simp [execOp, Instr.fieldAt, Instr.sureAddr, hx, run_underlying hu, h1, fieldPlace, ho.sz, h2]
theorem g_field {x : Operand} {cs : Array Value} {f off : Nat} {ft : TypeId} {v : Value} (hf : fldOf P ty f = some (off, ft)) (ho : One P ft) (hx : ev e x = .agg cs) (hv : cs[off]? = some v) : OpG P ⟨d, .field ty x f, t, p, af, gd⟩ e w (Is v w) := by
  refine g_run ?_
  obtain ⟨fs, fl, hu, h1, h2, h3⟩ := fldOf_spec hf
  subst h3
  simp [execOp, Instr.field, hx, run_underlying hu, h1, asAgg, part, ho.ag, h2, hv]
theorem g_build {parts : Array (Nat × Operand)} {ps : Array (Nat × Value)} {v : Value} (hp : parts.map (fun (i, x) => (i, ev e x)) = ps) (hr : ∀ w, (Instr.build ty ps).run P w = .ok v w) : OpG P ⟨d, .build ty parts, t, p, af, gd⟩ e w (Is v w) := by
  refine g_run ?_
  have h : (execOp (ev e) ⟨d, .build ty parts, t, p, af, gd⟩) = (do pure (.value (← Instr.build ty ps))) := by rw [← hp]; rfl
  rw [h]; simp [hr w, Result.andThen]
theorem parts1 {i0 : Nat} {x0 : Operand} {v0 : Value} (h0 : ev e x0 = v0) : (#[(i0, x0)] : Array (Nat × Operand)).map (fun (i, x) => (i, ev e x)) = #[(i0, v0)] := by subst h0; simp
theorem parts2 {i0 i1 : Nat} {x0 x1 : Operand} {v0 v1 : Value} (h0 : ev e x0 = v0) (h1 : ev e x1 = v1) : (#[(i0, x0), (i1, x1)] : Array (Nat × Operand)).map (fun (i, x) => (i, ev e x)) = #[(i0, v0), (i1, v1)] := by subst h0; subst h1; simp
theorem parts3 {i0 i1 i2 : Nat} {x0 x1 x2 : Operand} {v0 v1 v2 : Value} (h0 : ev e x0 = v0) (h1 : ev e x1 = v1) (h2 : ev e x2 = v2) : (#[(i0, x0), (i1, x1), (i2, x2)] : Array (Nat × Operand)).map (fun (i, x) => (i, ev e x)) = #[(i0, v0), (i1, v1), (i2, v2)] := by subst h0; subst h1; subst h2; simp
theorem g_extract {x : Operand} {vs : Array Value} {i : Nat} {v : Value} (hx : ev e x = .tuple vs) (hv : vs[i]? = some v) : OpG P ⟨d, .extract x i, t, p, af, gd⟩ e w (Is v w) := by
  refine g_run ?_
  simp [execOp, Instr.extract, hx, hv]
theorem g_call {f : FuncId} {args : Array Operand} {tys : Array TypeId} {vs : Array Value} {R : Value → World → Prop} (hc : CallF P f) (ha : args.map (ev e) = vs) (hF : Fn P f vs w R) : OpG P ⟨d, .call ⟨.value (.func f), args, tys⟩, t, p, af, gd⟩ e w R := by
  refine g_enter (f := f) (args := vs) ?_ hF
  simp [execOp, resolve, ev, Deferred.ofValue, invoke, ha, hc vs w]
theorem g_callc {f : FuncId} {x : Operand} {args : Array Operand} {tys : Array TypeId} {va cap : Array Value} {R : Value → World → Prop} (hc : CallF P f) (hx : ev e x = .func (.func f) #[] cap) (ha : args.map (ev e) = va) (hF : Fn P f (va ++ cap) w R) : OpG P ⟨d, .call ⟨.value x, args, tys⟩, t, p, af, gd⟩ e w R := by
  refine g_enter (f := f) (args := va ++ cap) ?_ hF
  simp [execOp, resolve, hx, Deferred.ofValue, invoke, ha, hc (va ++ cap) w]
theorem g_makeFunc {fn : Go.Fn} {c : Array Operand} {vs : Array Value} (hc : c.map (ev e) = vs) : OpG P ⟨d, .makeFunc fn #[] c, t, p, af, gd⟩ e w (Is (.func fn #[] vs) w) := by
  refine g_run ?_
  simp [execOp, Instr.makeFunc, hc]

theorem args1 {x0 : Operand} {v0 : Value} (h0 : ev e x0 = v0) : #[x0].map (ev e) = #[v0] := by subst h0; simp
theorem args2 {x0 x1 : Operand} {v0 v1 : Value} (h0 : ev e x0 = v0) (h1 : ev e x1 = v1) : #[x0, x1].map (ev e) = #[v0, v1] := by subst h0; subst h1; simp
theorem args3 {x0 x1 x2 : Operand} {v0 v1 v2 : Value} (h0 : ev e x0 = v0) (h1 : ev e x1 = v1) (h2 : ev e x2 = v2) : #[x0, x1, x2].map (ev e) = #[v0, v1, v2] := by subst h0; subst h1; subst h2; simp
theorem args4 {x0 x1 x2 x3 : Operand} {v0 v1 v2 v3 : Value} (h0 : ev e x0 = v0) (h1 : ev e x1 = v1) (h2 : ev e x2 = v2) (h3 : ev e x3 = v3) : #[x0, x1, x2, x3].map (ev e) = #[v0, v1, v2, v3] := by subst h0; subst h1; subst h2; subst h3; simp

theorem argsc1 {x0 : Operand} {v0 : Value} {cap : Array Value} (h0 : ev e x0 = v0) : #[x0].map (ev e) ++ cap = #[v0] ++ cap := by rw [args1 h0]
theorem argsc2 {x0 x1 : Operand} {v0 v1 : Value} {cap : Array Value} (h0 : ev e x0 = v0) (h1 : ev e x1 = v1) : #[x0, x1].map (ev e) ++ cap = #[v0, v1] ++ cap := by rw [args2 h0 h1]
theorem argsc3 {x0 x1 x2 : Operand} {v0 v1 v2 : Value} {cap : Array Value} (h0 : ev e x0 = v0) (h1 : ev e x1 = v1) (h2 : ev e x2 = v2) : #[x0, x1, x2].map (ev e) ++ cap = #[v0, v1, v2] ++ cap := by rw [args3 h0 h1 h2]
theorem args0 : (#[] : Array Operand).map (ev e) = #[] := by simp

/- new blocks -/
def NewBox (w : World) (t : TypeId) (cs : Array Value) : Value → World → Prop := fun v w' => ∃ g, v = .pointer (some ⟨g, 0, none⟩) ∧ w.heap.size ≤ g ∧ Blk w' g t cs ∧ Ext w w'
theorem blk_new (w : World) (t : TypeId) (cs : Array Value) : Blk (w.alloc (.cells cs t)) w.heap.size t cs := heap_alloc_new w _
theorem ext_alloc (w : World) (o : Obj) : Ext w (w.alloc o) := World.grownBy_alloc w o none
theorem g_box {x : Operand} {v : Value} {cs : Array Value} (hx : ev e x = v) (hv : v.cells = cs) : OpG P ⟨d, .box ty x, t, p, af, gd⟩ e w (NewBox w ty cs) := by
  have h : (execOp (ev e) ⟨d, .box ty x, t, p, af, gd⟩).run P w = .ok (.value (.pointer (some ⟨w.heap.size, 0, none⟩))) (w.alloc (.cells cs ty)) := by
    simp [execOp, Instr.box, hx, hv, newVar, newRow]
  exact (g_run h).mono fun v' w' ⟨h1, h2⟩ => by
    subst h1; subst h2
    exact ⟨_, rfl, Nat.le_refl _, blk_new w ty cs, ext_alloc w _⟩
theorem g_alloc {cs : Array Value} (hz : Zer P ty z) (hv : z.cells = cs) : OpG P ⟨d, .alloc ty, t, p, af, gd⟩ e w (NewBox w ty cs) := by
  have h : (execOp (ev e) ⟨d, .alloc ty, t, p, af, gd⟩).run P w = .ok (.value (.pointer (some ⟨w.heap.size, 0, none⟩))) (w.alloc (.cells cs ty)) := by
    simp [execOp, Instr.alloc, hz w, hv, newVar, newRow]
  exact (g_run h).mono fun v' w' ⟨h1, h2⟩ => by
    subst h1; subst h2
    exact ⟨_, rfl, Nat.le_refl _, blk_new w ty cs, ext_alloc w _⟩

/- stores -/
theorem Blk.at {g : Nat} {bs : Array Value} (h : Blk w g t bs) (i : Nat) : w.cell? ((⟨g, 0, none⟩ : Addr).add i) = bs[i]? := by
  have : (⟨g, 0, none⟩ : Addr).add i = ⟨g, i, none⟩ := by unfold Addr.add; by_cases h0 : i = 0 <;> simp [h0]
  rw [this]; exact h.cell i
theorem blk_setRow {g : Nat} {bs cs : Array Value} (h : Blk w g t bs) : Blk (w.setRow g cs) g t cs := setRow_heap w g bs cs t (0, 0) h
theorem chg_setRow {g : Nat} {cs : Array Value} : Chg w (w.setRow g cs) (some g) := ⟨rfl, rfl, rfl, by simp, fun k _ hk => setRow_other w g k _ (fun e => hk (by simp [e]))⟩
def splL (l : List Value) (k : Nat) (vs : List Value) : List Value := l.take k ++ vs ++ l.drop (k + vs.length)
theorem g_storeB {x y : Operand} {g k : Nat} {bs bs' : Array Value} {v : Value} {vs : List Value} (hB : Blk w g t bs) (hs : ∀ w, (sizeOf ty).run P w = .ok vs.length w)
    (hx : ev e x = .pointer (some ((⟨g, 0, none⟩ : Addr).add k))) (hy : ev e y = v) (hv : v.cells = vs.toArray) (h1 : ∀ u ∈ vs, u.oneCell' = true) (hk : k + vs.length ≤ bs.size) (hb : (splL bs.toList k vs).toArray = bs') :
    OpG P ⟨d, .store ty x y, ty', p, af, gd⟩ e w (fun v' w' => v' = undef ∧ Blk w' g t bs' ∧ Chg w w' (some g)) := by
  have ha : (⟨g, 0, none⟩ : Addr).add k = ⟨g, k, none⟩ := by unfold Addr.add; by_cases h0 : k = 0 <;> simp [h0]
  have hst := run_storeCells_at P g k t vs 0 bs w hB (by omega) h1
  have h : (execOp (ev e) ⟨d, .store ty x y, ty', p, af, gd⟩).run P w = .ok .skip (w.setRow g bs') := by
    simp only [Nat.add_zero] at hst
    simp [execOp, Instr.storeAt, Instr.sureAddr, hx, hy, storeVar, hv, hs, ha, hst, ← hb, splL]
  exact (g_skip h).mono fun v' w' ⟨h1, h2⟩ => by
    subst h1; subst h2
    exact ⟨rfl, blk_setRow hB, chg_setRow⟩
theorem Own.blk_pos {B : Nat} {a : Option Addr} {len cap : Nat} {cs : List Value} (h : Own w B E sz a len cap cs) (hp : 0 < cs.length) :
    ∃ g cur, a = some ⟨g, 0, none⟩ ∧ B ≤ g ∧ Blk w g E cur ∧ len ≤ cap ∧ cap ≤ maxLen ∧ cur.size = cap * sz ∧ cur.toList.take (len * sz) = cs := by
  obtain ⟨h1, h2⟩ := h
  rcases h2 with ⟨e, hn⟩ | ⟨g, c, cur, e, hb, hh, hc, hm, hs, ht⟩
  · subst hn; omega
  · injection e with e1 e2 e3
    subst e1; subst e3
    exact ⟨g, cur, rfl, hb, hh, hc, hm, hs, ht⟩
theorem g_storeO {x y : Operand} {B k : Nat} {a : Option Addr} {len cap : Nat} {cs vs : List Value} {v : Value} (hO : Own w B E sz a len cap cs) (hs : ∀ w, (sizeOf ty).run P w = .ok vs.length w)
    (hx : ev e x = .pointer (some ((adr a).add k))) (hy : ev e y = v) (hv : v.cells = vs.toArray) (h1 : ∀ u ∈ vs, u.oneCell' = true) (hp : 0 < vs.length) (hk : k + vs.length ≤ cs.length) :
    OpG P ⟨d, .store ty x y, ty', p, af, gd⟩ e w (fun v' w' => v' = undef ∧ Own w' B E sz a len cap (splL cs k vs) ∧ Chg w w' (blk a)) := by
  have hlen := hO.length
  obtain ⟨g, cur, rfl, hb, hB, hc, hm, hsz, ht⟩ := hO.blk_pos (by omega)
  have hcur : len * sz ≤ cur.size := by rw [hsz]; exact Nat.mul_le_mul_right _ hc
  refine (g_storeB (bs' := (splL cur.toList k vs).toArray) hB hs (by simpa [adr] using hx) hy hv h1 (by omega) rfl).mono ?_
  rintro v' w' ⟨h2, h3, h4⟩
  refine ⟨h2, ⟨?_, .inr ⟨g, cap, _, rfl, hb, h3, hc, hm, ?_, ?_⟩⟩, h4⟩
  · simp only [splL, List.length_append, List.length_take, List.length_drop]; omega
  · have : cur.toList.length = cur.size := by simp
    simp only [splL, List.size_toArray, List.length_append, List.length_take, List.length_drop]; omega
  · subst ht
    simp only [splL]
    apply List.ext_getElem?
    intro j
    have hj1 : cur.toList.length = cur.size := by simp
    by_cases hj : j < len * sz
    · simp only [List.getElem?_take, hj, if_true, List.getElem?_append, List.length_take, List.length_append, List.getElem?_drop]
      repeat' split
      all_goals first | (exfalso; omega) | rfl | (congr 1; omega)
    · rw [List.getElem?_eq_none (by simp; omega), List.getElem?_eq_none (by simp only [List.length_append, List.length_take, List.length_drop]; omega)]

/- make and append -/
def NewRow (w : World) (E : TypeId) (sz len : Nat) (cs : List Value) : Value → World → Prop := fun v w' => ∃ a, v = .slice a len len ∧ Own w' w.heap.size E sz a len len cs ∧ Ext w w'
theorem g_make {x : Operand} {k : Nat} (hT : ElT P ty E sz by' z) (hx : ev e x = .int .i64 k) (hb : by' * k ≤ 281474976710656) (hm : k ≤ maxLen) : OpG P ⟨d, .makeSlice ty x x, t, p, af, gd⟩ e w (NewRow w E sz k (madeCells z.cells (k * sz)).toList) := by
  obtain ⟨i, hi, hz, hs, hby⟩ := hT.hi
  obtain ⟨w', hr, h1, h2⟩ := run_make_full (P := P) w w.heap.size ty E i z sz hT.hu hi hz hs .i64 .i64 k (by rw [hby]; exact hb) hm (Nat.le_refl _)
  have h : (execOp (ev e) ⟨d, .makeSlice ty x x, t, p, af, gd⟩).run P w = .ok (.value (.slice (some ⟨w.heap.size, 0, none⟩) k k)) w' := by
    simp [execOp, hx, hr, Result.andThen]
  exact (g_run h).mono fun v' w1 ⟨e1, e2⟩ => by subst e1; subst e2; exact ⟨_, rfl, h1, h2⟩
def Grown (w : World) (B : Nat) (E : TypeId) (sz : Nat) (a : Option Addr) (len : Nat) (cs : List Value) : Value → World → Prop :=
  fun v w' => ∃ a' cap', v = .slice a' len cap' ∧ Own w' B E sz a' len cap' cs ∧ Chg w w' (blk a) ∧ ∀ k, blk a' = some k → blk a = some k ∨ w.heap.size ≤ k
theorem g_append {x y : Operand} {B lo hi : Nat} {a a2 : Option Addr} {k cap m c : Nat} {cs news : List Value} (hT : ElT P ty E sz by' z) (hx : ev e x = .slice a k cap) (hy : ev e y = .slice a2 m c)
    (hO : Own w B E sz a k cap cs) (hc : Cells lo hi w a2 news) (hl : news.length = m * sz) (hn : a2 = none → c = 0) (h1 : ∀ u ∈ news, u.oneCell' = true) (hm : k + m ≤ maxLen) (hb : (k + m) * by' ≤ 140737488355328) (hB : B ≤ w.heap.size) :
    OpG P ⟨d, .call ⟨.builtin .append, #[x, y], #[ty, ty]⟩, t, p, af, gd⟩ e w (Grown w B E sz a (k + m) (cs ++ news)) := by
  obtain ⟨i, hi, hz, hs, hby⟩ := hT.hi
  subst hs; subst hby
  have hp := hT.hp
  have hnews : ∀ j u, news[j]? = some u → w.cell? ((adr a2).add j) = some u := fun j u hu => by
    have hj : j < news.length := (List.getElem?_eq_some_iff.1 hu).1
    rw [hc.2 j hj, ← hu]; simp [hj]
  have hlen : (cs ++ news).length = (k + m) * i.size := by rw [List.length_append, hO.1, hl, Nat.add_mul]
  have hm63 : ((k + m : Nat) : Int) ≤ 9223372036854775807 := by simp only [maxLen] at hm; omega
  have run : ∀ v' w', (Builtin.append_ #[ty, ty] t #[.slice a k cap, .slice a2 m c]).run P w = .ok v' w' → (execOp (ev e) ⟨d, .call ⟨.builtin .append, #[x, y], #[ty, ty]⟩, t, p, af, gd⟩).run P w = .ok (.value v') w' := by
    intro v' w' h
    simp [execOp, resolve, invoke, builtin, hx, hy, h, Result.andThen]
  by_cases hm0 : m = 0
  · subst hm0
    have hne : news = [] := List.eq_nil_of_length_eq_zero (by simpa using hl)
    subst hne
    rcases hO.2 with ⟨h0, hk0⟩ | ⟨g, cp, cur, h0, hbg, hg, hnc, hcm, hcs, htake⟩
    · injection h0 with e1 e2 e3
      subst e1; subst e2; subst e3
      refine (g_run (run (.slice none 0 0) w ?_)).mono ?_
      · cases a2 with
        | none => simp [Builtin.append_, run_underlying hT.hu, sizeOf, typeInfo, hi, Builtin.lenOf, Builtin.firstCells]
        | some q => simp [Builtin.append_, run_underlying hT.hu, sizeOf, typeInfo, hi, Builtin.lenOf, Builtin.firstCells, loadCells, loadCellsFrom]
      · rintro v' w' ⟨rfl, rfl⟩
        exact ⟨none, 0, rfl, by simpa using hO, (Ext.refl w').chg _, fun k hk => by cases hk⟩
    · injection h0 with e1 e2 e3
      subst e1; subst e3
      refine (g_run (run (.slice (some ⟨g, 0, none⟩) (k + 0) cap) w ?_)).mono ?_
      · cases a2 with
        | none => simp [Builtin.append_, run_underlying hT.hu, sizeOf, typeInfo, hi, Builtin.lenOf, Builtin.firstCells, hnc, storeCells]
        | some q => simp [Builtin.append_, run_underlying hT.hu, sizeOf, typeInfo, hi, Builtin.lenOf, Builtin.firstCells, loadCells, loadCellsFrom, hnc, storeCells]
      · rintro v' w' ⟨rfl, rfl⟩
        exact ⟨_, cap, rfl, by simpa using hO, (Ext.refl w').chg _, fun k hk => .inl hk⟩
  · have hpos : 0 < news.length := by rw [hl]; exact Nat.mul_pos (by omega) hp
    obtain ⟨q, rfl, _, _⟩ := hc.1 hpos
    rcases hO.2 with ⟨h0, hk0⟩ | ⟨g, cp, cur, h0, hbg, hg, hnc, hcm, hcs, htake⟩
    · injection h0 with e1 e2 e3
      subst e1; subst e2; subst e3
      have hcs0 : cs = [] := List.eq_nil_of_length_eq_zero (by simpa using hO.1)
      subst hcs0
      have hr := run_append_nil (P := P) w ty t E i z hT.hu hi hz q m c news hl hnews (by omega) (by omega) (by have := hb; simp only [Nat.zero_add] at this; omega)
      refine (g_run (run _ _ hr)).mono ?_
      rintro v' w' ⟨rfl, rfl⟩
      have hge := grownCap_ge w m 0 E
      refine ⟨some ⟨w.heap.size, 0, none⟩, grownCap w m 0 E, by simp, ⟨by simpa using hl, .inr ⟨w.heap.size, _, _, rfl, hB, heap_alloc_new w.drew _, by simpa using hge, grownCap_le_maxLen w m 0 E (by omega), ?_, ?_⟩⟩, ⟨rfl, rfl, rfl, by simp, fun j hj _ => Below.heap_alloc w.drew _ j hj⟩, fun j hj => .inr (by simp [blk] at hj; omega)⟩
      · simp only [Array.size_append, List.size_toArray, size_zeroCells, hT.hz, hl, ← Nat.add_mul]
        congr 1; omega
      · simp [← hl]
    · injection h0 with e1 e2 e3
      subst e1; subst e3
      by_cases hroom : k + m ≤ cap
      · have hfit : k * i.size + news.length ≤ cur.size := by rw [hl, hcs, ← Nat.add_mul]; exact Nat.mul_le_mul_right _ hroom
        have hr := run_append_room (P := P) w ty t E i hT.hu hi g k cap cur hg q m c news hl hnews h1 hroom hfit
        refine (g_run (run _ _ hr)).mono ?_
        rintro v' w' ⟨rfl, rfl⟩
        refine ⟨some ⟨g, 0, none⟩, cap, rfl, ⟨hlen, .inr ⟨g, cap, _, rfl, hbg, setRow_heap w g cur _ E _ hg, hroom, hcm, ?_, ?_⟩⟩, chg_setRow, fun j hj => .inl hj⟩
        · simp only [List.size_toArray, List.length_append, List.length_take, List.length_drop, Array.length_toList]
          omega
        · rw [htake, ← hlen]
          exact List.take_left
      · have holds : ∀ j u, cs[j]? = some u → w.cell? ((⟨g, 0, none⟩ : Addr).add j) = some u := World.ownsRow.cells (g := g) hO rfl
        have hr := run_append_grow (P := P) w ty t E i z hT.hu hi hz ⟨g, 0, none⟩ k cap cs hO.1 holds q m c news hl hnews (by omega) hm63 (growslice_fits (by omega) hb)
        refine (g_run (run _ _ hr)).mono ?_
        rintro v' w' ⟨rfl, rfl⟩
        have hge := grownCap_ge w (k + m) cap E
        refine ⟨some ⟨w.heap.size, 0, none⟩, grownCap w (k + m) cap E, rfl, ⟨hlen, .inr ⟨w.heap.size, _, _, rfl, hB, heap_alloc_new w.drew _, hge, grownCap_le_maxLen w (k + m) cap E hm, ?_, ?_⟩⟩, ⟨rfl, rfl, rfl, by simp, fun j hj _ => Below.heap_alloc w.drew _ j hj⟩, fun j hj => .inr (by simp [blk] at hj; omega)⟩
        · simp only [Array.size_append, List.size_toArray, size_zeroCells, hT.hz, hO.1, hl, ← Nat.add_mul]
          congr 1; omega
        · simp only [Array.toList_append, List.append_assoc]
          rw [← List.append_assoc, ← hlen]
          exact List.take_left
theorem ret_cell {n : Nat} {fn : Func} {R : Value → World → Prop} {r : Nat} {q : Addr} {cs : List Value} (hr : fn.results = #[.cell r ty]) (hn : r < n) (hx : e r = .pointer (some q)) (ho : Agg P ty cs.length) (hc : ∀ j, j < cs.length → w.cell? (q.add j) = some cs[j]!)
    (h : R (.agg cs.toArray) w) : retQ P fn n R .ret e w := by
  refine ret_run (v := .agg cs.toArray) ?_ h
  have h1 := run_loadCells_list (P := P) (w := w) q cs (fun j v hv => by
    have hj : j < cs.length := (List.getElem?_eq_some_iff.1 hv).1
    rw [hc j hj, ← hv]; simp [hj])
  have h2 : (act n e).tmps[r]?.getD undef = .pointer (some q) := by simp [act, hn, hx]
  simp [results, hr, asAddr, h2, loadVar, ho.ag, ho.sz, h1]
end
end Go.Proofs.Ytddjkiefadiijaa
