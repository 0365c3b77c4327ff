/- Bytes and the cursor of the draws: what it holds is hidden. No statement of the claim stands here. -/
import Derived.Test.YtddjkiefadiijaaSop
namespace Go.Proofs.Ytddjkiefadiijaa
open Go Go.RowKit

instance instElByte : El Byte := ⟨1, fun b => [.int .u8 (b.val : Int)], fun _ => rfl, by intro x u hu; rw [List.mem_singleton.1 hu]; rfl, by decide⟩
/-- the cursor: a place, a number, and the bytes that it reads -/
def oCur (T : TypeId) (g : Nat) (a : Option Addr) (n c : Nat) : Ob where
  fp := fun k => k = g
  ok := fun w => ∃ i h : Int, 0 ≤ i ∧ n ≤ 1099511627776 ∧ Blk w g T #[.slice a n c, .int .i64 i, .int .i64 h]
  lt := by rintro w ⟨i, h, _, _, hb⟩ k rfl; exact hb.lt
  loc := by rintro w w' ⟨i, h, hi, hn, hb⟩ hk; exact ⟨i, h, hi, hn, (hk g rfl).trans hb⟩
theorem Sep.cur {w : World} {B : Nat} {L : List Ob} {T : TypeId} {g : Nat} {a : Option Addr} {n c : Nat} {i h : Int} (hS : Sep w B (oB g T #[.slice a n c, .int .i64 i, .int .i64 h] :: L)) (hi : 0 ≤ i) (hn : n ≤ 1099511627776) : Sep w B (oCur T g a n c :: L) :=
  hS.repl (show ∃ i h : Int, 0 ≤ i ∧ n ≤ 1099511627776 ∧ Blk w g T #[.slice a n c, .int .i64 i, .int .i64 h] from ⟨i, h, hi, hn, hS.g0⟩) fun _ hk => hk
theorem Sep.uncur {w : World} {B : Nat} {L : List Ob} {T : TypeId} {g : Nat} {a : Option Addr} {n c : Nat} (hS : Sep w B (oCur T g a n c :: L)) : ∃ i h : Int, 0 ≤ i ∧ n ≤ 1099511627776 ∧ Sep w B (oB g T #[.slice a n c, .int .i64 i, .int .i64 h] :: L) := by
  obtain ⟨i, h, hi, hn, hb⟩ := hS.g0
  exact ⟨i, h, hi, hn, hS.repl hb fun _ hk => hk⟩

section
variable {P : Program} {n : Nat} {e : Env} {w : World} {d : Option Nat} {t ty ty' : TypeId} {p : String} {af : Array Edge} {gd : Option (Nat × Bool)}
structure Cv8 (P : Program) (s t : TypeId) : Prop where
  hs : P.underlying s = some (.int .u8)
  ht : P.underlying t = some (.int .i64)
theorem g_conv8 {s t' : TypeId} {x : Operand} {v : Byte} (hc : Cv8 P s t') (hx : ev e x = .int .u8 (v.val : Int)) : OpG P ⟨d, .convert s t' x, t, p, af, gd⟩ e w (Is (.int .i64 (v.val : Int)) w) := by
  refine g_run ?_
  have hw : IntKind.i64.wrap (v.val : Int) = (v.val : Int) := wrap_in (by have := v.isLt; unfold inI; omega)
  simp [execOp, convert, hx, run_underlying hc.hs, run_underlying hc.ht, Conv.intToInt, hw]
theorem wrap_w64 (z : Int) : IntKind.i64.wrap z = w64 z := by
  have h : IntKind.i64.wrap z = if (true && decide (z % (2 ^ 64 : Int) ≥ (2 ^ 63 : Int))) = true then z % (2 ^ 64 : Int) - (2 ^ 64 : Int) else z % (2 ^ 64 : Int) := rfl
  rw [h]; unfold w64
  simp only [Int.reducePow, Bool.true_and, decide_eq_true_eq]
  split <;> split <;> omega
theorem q_wmul {x y : Operand} {a b : Int} (hx : ev e x = .int .i64 a) (hy : ev e y = .int .i64 b) : OpG P ⟨d, .binOp .mul ty x y ty', t, p, af, gd⟩ e w (Is (.int .i64 (wmul a b)) w) := by
  refine g_run ?_
  simp [execOp, eqGuard, binOp, hx, hy, Op.intArith, wrap_w64, wmul]
theorem q_wadd {x y : Operand} {a b : Int} (hx : ev e x = .int .i64 a) (hy : ev e y = .int .i64 b) : OpG P ⟨d, .binOp .add ty x y ty', t, p, af, gd⟩ e w (Is (.int .i64 (wadd a b)) w) := by
  refine g_run ?_
  simp [execOp, eqGuard, binOp, hx, hy, Op.intArith, wrap_w64, wadd]
theorem q_wxor {x y : Operand} {a b : Int} (hx : ev e x = .int .i64 a) (hy : ev e y = .int .i64 b) : OpG P ⟨d, .binOp .xor ty x y ty', t, p, af, gd⟩ e w (Is (.int .i64 (wxor a b)) w) := by
  refine g_run ?_
  have h5 : Op.intBits .xor .i64 a b = pure (.int .i64 (wxor a b)) := by
    show (pure (Value.int .i64 (IntKind.i64.wrap (((BitVec.ofInt 64 a ^^^ BitVec.ofInt 64 b).toNat : Nat) : Int))) : Sem Value) = _
    rw [wrap_w64]; rfl
  simp [execOp, eqGuard, binOp, hx, hy, h5]
theorem q_wand {x y : Operand} {a b : Int} (hx : ev e x = .int .i64 a) (hy : ev e y = .int .i64 b) : OpG P ⟨d, .binOp .and ty x y ty', t, p, af, gd⟩ e w (Is (.int .i64 (wand a b)) w) := by
  refine g_run ?_
  have h5 : Op.intBits .and .i64 a b = pure (.int .i64 (wand a b)) := by
    show (pure (Value.int .i64 (IntKind.i64.wrap (((BitVec.ofInt 64 a &&& BitVec.ofInt 64 b).toNat : Nat) : Int))) : Sem Value) = _
    rw [wrap_w64]; rfl
  simp [execOp, eqGuard, binOp, hx, hy, h5]
end
end Go.Proofs.Ytddjkiefadiijaa
