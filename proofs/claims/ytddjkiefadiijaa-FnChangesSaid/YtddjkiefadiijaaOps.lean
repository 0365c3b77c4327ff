/- What each operation does, as a lemma on the operation alone. No statement of the claim stands here. -/
import Derived.Test.YtddjkiefadiijaaKit
import Derived.IntWalk
namespace Go.Proofs.Ytddjkiefadiijaa
open Go Go.RowKit

def Is (v : Value) (w : World) : Value → World → Prop := fun v' w' => v' = v ∧ w' = w
abbrev inI (z : Int) : Prop := -9223372036854775808 ≤ z ∧ z ≤ 9223372036854775807
theorem wrap_in {z : Int} (h : inI z) : IntKind.i64.wrap z = z := IntWalk.i64_in z h
def adr (a : Option Addr) : Addr := a.getD ⟨0, 0, none⟩

section
variable {P : Program} {n : Nat} {e : Env} {w : World} {d : Option Nat} {t ty ty' : TypeId} {p : String} {af : Array Edge} {gd : Option (Nat × Bool)}

theorem g_run {o : Oper} {v : Value} {w' : World} (h : (execOp (ev e) o).run P w = .ok (.value v) w') : OpG P o e w (Is v w') := by
  unfold OpG; rw [h]; exact ⟨rfl, rfl⟩
theorem g_skip {o : Oper} {w' : World} (h : (execOp (ev e) o).run P w = .ok .skip w') : OpG P o e w (Is undef w') := by
  unfold OpG; rw [h]; exact ⟨rfl, rfl⟩
theorem g_enter {o : Oper} {f : FuncId} {args : Array Value} {R : Value → World → Prop} (h : (execOp (ev e) o).run P w = .ok (.enter f args) w) (hF : Fn P f args w R) : OpG P o e w R := by
  unfold OpG; rw [h]; exact hF

/- steps that leave a known value -/
theorem wl_val {Q : QE} {ops rest : List Oper} {o : Oper} {v : Value} {w' : World} (h : OpG P o e w (Is v w')) (hg : o.guard = none)
    (hk : Wl P n ops Q rest (put e o.dst v) w') : Wl P n ops Q (o :: rest) e w :=
  wl_step hg h fun v1 w1 ⟨h1, h2⟩ => by subst h1; subst h2; exact hk

theorem g_move {x : Operand} {v : Value} (hx : ev e x = v) : OpG P ⟨d, .move x, t, p, af, gd⟩ e w (Is v w) := g_run (by simp [execOp, hx])
theorem g_assign {x : Operand} {v : Value} (hx : ev e x = v) : OpG P ⟨d, .assign x, t, p, af, gd⟩ e w (Is v w) := g_run (by simp [execOp, hx])
theorem g_pick {c x y : Operand} {b : Bool} {v : Value} (hc : ev e c = .bool b) (hx : b = true → ev e x = v) (hy : b = false → ev e y = v) : OpG P ⟨d, .pick c x y, t, p, af, gd⟩ e w (Is v w) := by
  refine g_run ?_
  cases b with
  | true => simp [execOp, hc, hx rfl, asBool]
  | false => simp [execOp, hc, hy rfl, asBool]

theorem g_pick_and {c x : Operand} {b q : Bool} (hc : ev e c = .bool b) (hx : ev e x = if b = true then .bool q else undef) : OpG P ⟨d, .pick c x (.const (.bool false)), t, p, af, gd⟩ e w (Is (.bool (b && q)) w) := by
  refine g_pick hc (fun h => ?_) (fun h => ?_)
  · rw [hx, if_pos h, h]; rfl
  · rw [h]; rfl
theorem g_pick_or {c x : Operand} {b q : Bool} (hc : ev e c = .bool b) (hx : ev e x = if b = false then .bool q else undef) : OpG P ⟨d, .pick c (.const (.bool true)) x, t, p, af, gd⟩ e w (Is (.bool (b || q)) w) := by
  refine g_pick hc (fun h => ?_) (fun h => ?_)
  · rw [h]; rfl
  · rw [hx, if_pos h, h]; rfl

/- integers -/
theorem g_add {x y : Operand} {a b : Int} (hx : ev e x = .int .i64 a) (hy : ev e y = .int .i64 b) (hb : inI (a + b)) : OpG P ⟨d, .binOp .add ty x y ty', t, p, af, gd⟩ e w (Is (.int .i64 (a + b)) w) := by
  refine g_run ?_
  simp [execOp, eqGuard, binOp, hx, hy, Op.intArith, wrap_in hb]
theorem g_sub {x y : Operand} {a b : Int} (hx : ev e x = .int .i64 a) (hy : ev e y = .int .i64 b) (hb : inI (a - b)) : OpG P ⟨d, .binOp .sub ty x y ty', t, p, af, gd⟩ e w (Is (.int .i64 (a - b)) w) := by
  refine g_run ?_
  simp [execOp, eqGuard, binOp, hx, hy, Op.intArith, wrap_in hb]
theorem g_mul {x y : Operand} {a b : Int} (hx : ev e x = .int .i64 a) (hy : ev e y = .int .i64 b) (hb : inI (a * b)) : OpG P ⟨d, .binOp .mul ty x y ty', t, p, af, gd⟩ e w (Is (.int .i64 (a * b)) w) := by
  refine g_run ?_
  simp [execOp, eqGuard, binOp, hx, hy, Op.intArith, wrap_in hb]
theorem g_rem {x y : Operand} {a b : Int} (hx : ev e x = .int .i64 a) (hy : ev e y = .int .i64 b) (hb : b ≠ 0) : OpG P ⟨d, .binOp .rem ty x y ty', t, p, af, gd⟩ e w (Is (.int .i64 (Int.tmod a b)) w) := by
  refine g_run ?_
  simp [execOp, eqGuard, binOp, hx, hy, Op.intDiv, hb]
theorem g_neg {x : Operand} {a : Int} (hx : ev e x = .int .i64 a) (hb : inI (-a)) : OpG P ⟨d, .unOp .neg ty x, t, p, af, gd⟩ e w (Is (.int .i64 (-a)) w) := by
  refine g_run ?_
  simp [execOp, Op.unary, hx, Op.intArith, wrap_in hb]
theorem g_not {x : Operand} {a : Bool} (hx : ev e x = .bool a) : OpG P ⟨d, .unOp .not ty x, t, p, af, gd⟩ e w (Is (.bool !a) w) := by
  refine g_run ?_
  simp [execOp, Op.unary, hx]
theorem g_lss {x y : Operand} {k : IntKind} {a b : Int} (hx : ev e x = .int k a) (hy : ev e y = .int k b) : OpG P ⟨d, .binOp .lss ty x y ty', t, p, af, gd⟩ e w (Is (.bool (decide (a < b))) w) := by
  refine g_run ?_
  simp [execOp, eqGuard, binOp, hx, hy, Op.intCmp]
theorem g_leq {x y : Operand} {k : IntKind} {a b : Int} (hx : ev e x = .int k a) (hy : ev e y = .int k b) : OpG P ⟨d, .binOp .leq ty x y ty', t, p, af, gd⟩ e w (Is (.bool (decide (a ≤ b))) w) := by
  refine g_run ?_
  simp [execOp, eqGuard, binOp, hx, hy, Op.intCmp]
theorem g_gtr {x y : Operand} {k : IntKind} {a b : Int} (hx : ev e x = .int k a) (hy : ev e y = .int k b) : OpG P ⟨d, .binOp .gtr ty x y ty', t, p, af, gd⟩ e w (Is (.bool (decide (a > b))) w) := by
  refine g_run ?_
  simp [execOp, eqGuard, binOp, hx, hy, Op.intCmp]
theorem g_geq {x y : Operand} {k : IntKind} {a b : Int} (hx : ev e x = .int k a) (hy : ev e y = .int k b) : OpG P ⟨d, .binOp .geq ty x y ty', t, p, af, gd⟩ e w (Is (.bool (decide (a ≥ b))) w) := by
  refine g_run ?_
  simp [execOp, eqGuard, binOp, hx, hy, Op.intCmp]
theorem beq_dec (a b : Int) : (a == b) = decide (a = b) := by
  by_cases h : a = b <;> simp [h]
theorem bne_dec (a b : Int) : (a != b) = decide (a ≠ b) := by
  by_cases h : a = b <;> simp [h]
theorem g_eql {x y : Operand} {k : IntKind} {a b : Int} (hx : ev e x = .int k a) (hy : ev e y = .int k b) : OpG P ⟨d, .binOp .eql ty x y ty', t, p, af, gd⟩ e w (Is (.bool (decide (a = b))) w) := by
  refine g_run ?_
  simp [execOp, eqGuard, binOp, hx, hy, Op.intCmp, beq_dec]
theorem g_neq {x y : Operand} {k : IntKind} {a b : Int} (hx : ev e x = .int k a) (hy : ev e y = .int k b) : OpG P ⟨d, .binOp .neq ty x y ty', t, p, af, gd⟩ e w (Is (.bool (decide (a ≠ b))) w) := by
  refine g_run ?_
  simp [execOp, eqGuard, binOp, hx, hy, Op.intCmp, bne_dec]
theorem run_eqb (hu : P.underlying ty = some .bool) (a b : Bool) : (Op.equal ty (.bool a) (.bool b)).run P w = .ok (a == b) w :=
  run_equalIn_bool' w 9999 ty a b hu
theorem g_eql_b {x y : Operand} {a b : Bool} (hu : P.underlying ty = some .bool) (hx : ev e x = .bool a) (hy : ev e y = .bool b) : OpG P ⟨d, .binOp .eql ty x y ty', t, p, af, gd⟩ e w (Is (.bool (decide (a = b))) w) := by
  refine g_run ?_
  have h1 : binOp .eql ty (.bool a) (.bool b) = (do pure (.bool (← Op.equal ty (.bool a) (.bool b)))) := rfl
  have h2 : (a == b) = decide (a = b) := by cases a <;> cases b <;> rfl
  simp only [execOp, eqGuard, hx, hy, h1]
  simp [run_eqb hu, h2, Result.andThen]
theorem g_neq_b {x y : Operand} {a b : Bool} (hu : P.underlying ty = some .bool) (hx : ev e x = .bool a) (hy : ev e y = .bool b) : OpG P ⟨d, .binOp .neq ty x y ty', t, p, af, gd⟩ e w (Is (.bool (decide (a ≠ b))) w) := by
  refine g_run ?_
  have h1 : binOp .neq ty (.bool a) (.bool b) = (do pure (.bool (!(← Op.equal ty (.bool a) (.bool b))))) := rfl
  have h2 : (!(a == b)) = decide (a ≠ b) := by cases a <;> cases b <;> rfl
  simp only [execOp, eqGuard, hx, hy, h1]
  simp [run_eqb hu, h2, Result.andThen]

/- slices: length, an element's place -/
theorem g_len {x : Operand} {a : Option Addr} {l c : Nat} {el : TypeId} (hu : P.underlying ty = some (.slice el)) (hx : ev e x = .slice a l c) : OpG P ⟨d, .call ⟨.builtin .len, #[x], #[ty]⟩, t, p, af, gd⟩ e w (Is (.int .i64 l) w) := by
  refine g_run ?_
  simp [execOp, resolve, invoke, builtin, Builtin.len_, hx, run_underlying hu, goInt]
theorem g_max {x y : Operand} {a b : Int} {tys : Array TypeId} (hx : ev e x = .int .i64 a) (hy : ev e y = .int .i64 b) : OpG P ⟨d, .call ⟨.builtin .max, #[x, y], tys⟩, t, p, af, gd⟩ e w (Is (.int .i64 (max a b)) w) := by
  refine g_run ?_
  simp [execOp, resolve, invoke, builtin, Builtin.max_, Builtin.max2, hx, hy]
  omega
theorem g_min {x y : Operand} {a b : Int} {tys : Array TypeId} (hx : ev e x = .int .i64 a) (hy : ev e y = .int .i64 b) : OpG P ⟨d, .call ⟨.builtin .min, #[x, y], tys⟩, t, p, af, gd⟩ e w (Is (.int .i64 (min a b)) w) := by
  refine g_run ?_
  simp [execOp, resolve, invoke, builtin, Builtin.min_, Builtin.min2, hx, hy]
  omega
theorem g_indexAddr {x y : Operand} {a : Option Addr} {l c : Nat} {i : Int} {el : TypeId} {inf : TypeInfo} {sz : Nat} (hu : P.underlying ty = some (.slice el)) (hi : P.info? el = some inf) (hs : inf.size = sz)
    (hx : ev e x = .slice a l c) (hy : ev e y = .int .i64 i) (ha : a.isSome = true) (h0 : 0 ≤ i) (h1 : i < l) : OpG P ⟨d, .indexAddr ty x y, t, p, af, gd⟩ e w (Is (.pointer (some ((adr a).add (i.toNat * sz)))) w) := by
  refine g_run ?_
  obtain ⟨ad, rfl⟩ := Option.isSome_iff_exists.1 ha
  simp [execOp, Instr.indexAt, asIntOf, hx, hy, run_underlying hu, sizeOf, h0, h1, typeInfo, hi, hs, adr]
end
end Go.Proofs.Ytddjkiefadiijaa
