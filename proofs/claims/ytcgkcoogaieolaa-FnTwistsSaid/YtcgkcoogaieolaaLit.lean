/- Literal slices of three, four and five numbers. No statement of the claim stands here. -/
import Derived.Test.YtcgkcoogaieolaaSop
namespace Go.Proofs.Ytcgkcoogaieolaa
open Go Go.RowKit
section
variable {P : Program} {n : Nat} {e : Env} {w : World} {d : Option Nat} {t ty E : TypeId} {p : String} {af : Array Edge} {gd : Option (Nat × Bool)} {by' : Nat} {z : Value} {B : Nat} {L : List Ob}
theorem i_cells {ys : List Int} : ∀ v ∈ ys.map (Value.int .i64), v.cells.size = 1 := by
  intro v hv
  obtain ⟨y, _, rfl⟩ := List.mem_map.1 hv
  rfl
theorem q_lit3 {x0 x1 x2 : Operand} {y0 y1 y2 : Int} (hT : ElT P ty E (El.m Int) by' z) (h0 : ev e x0 = .int .i64 y0) (h1 : ev e x1 = .int .i64 y1) (h2 : ev e x2 = .int .i64 y2) (hS : Sep w B L) :
    OpG P ⟨d, .buildSlice ty 3 #[(0, x0), (1, x1), (2, x2)], t, p, af, gd⟩ e w (fun v w' => ∃ a, v = .slice a 3 3 ∧ Sep w' B (oS E a 3 3 [y0, y1, y2] :: L) ∧ Ext w w') :=
  (g_bslice (sz := El.m Int) (vs := #[.int .i64 y0, .int .i64 y1, .int .i64 y2]) (fun w => by
    have := run_bslice (vss := [y0, y1, y2].map (Value.int .i64)) (n := 3) hT rfl i_cells (by decide) w
    simpa [numbered, h0, h1, h2, Value.cells] using this) rfl (by simp [maxLen])).mono fun _ _ h => new_row rfl hS h rfl
theorem q_lit4 {x0 x1 x2 x3 : Operand} {y0 y1 y2 y3 : Int} (hT : ElT P ty E (El.m Int) by' z) (h0 : ev e x0 = .int .i64 y0) (h1 : ev e x1 = .int .i64 y1) (h2 : ev e x2 = .int .i64 y2) (h3 : ev e x3 = .int .i64 y3) (hS : Sep w B L) :
    OpG P ⟨d, .buildSlice ty 4 #[(0, x0), (1, x1), (2, x2), (3, x3)], t, p, af, gd⟩ e w (fun v w' => ∃ a, v = .slice a 4 4 ∧ Sep w' B (oS E a 4 4 [y0, y1, y2, y3] :: L) ∧ Ext w w') :=
  (g_bslice (sz := El.m Int) (vs := #[.int .i64 y0, .int .i64 y1, .int .i64 y2, .int .i64 y3]) (fun w => by
    have := run_bslice (vss := [y0, y1, y2, y3].map (Value.int .i64)) (n := 4) hT rfl i_cells (by decide) w
    simpa [numbered, h0, h1, h2, h3, Value.cells] using this) rfl (by simp [maxLen])).mono fun _ _ h => new_row rfl hS h rfl
theorem q_lit5 {x0 x1 x2 x3 x4 : Operand} {y0 y1 y2 y3 y4 : Int} (hT : ElT P ty E (El.m Int) by' z) (h0 : ev e x0 = .int .i64 y0) (h1 : ev e x1 = .int .i64 y1) (h2 : ev e x2 = .int .i64 y2) (h3 : ev e x3 = .int .i64 y3) (h4 : ev e x4 = .int .i64 y4) (hS : Sep w B L) :
    OpG P ⟨d, .buildSlice ty 5 #[(0, x0), (1, x1), (2, x2), (3, x3), (4, x4)], t, p, af, gd⟩ e w (fun v w' => ∃ a, v = .slice a 5 5 ∧ Sep w' B (oS E a 5 5 [y0, y1, y2, y3, y4] :: L) ∧ Ext w w') :=
  (g_bslice (sz := El.m Int) (vs := #[.int .i64 y0, .int .i64 y1, .int .i64 y2, .int .i64 y3, .int .i64 y4]) (fun w => by
    have := run_bslice (vss := [y0, y1, y2, y3, y4].map (Value.int .i64)) (n := 5) hT rfl i_cells (by decide) w
    simpa [numbered, h0, h1, h2, h3, h4, Value.cells] using this) rfl (by simp [maxLen])).mono fun _ _ h => new_row rfl hS h rfl
end
theorem gv_U {ops : List Oper} {e : Env} {o : Oper} {j d : Nat} {want : Bool} (hg : o.guard = some (j, want)) (hj : (ops[j]?).bind (·.dst) = some d) (he : e d = undef) : gv ops e o = false := by
  simp only [gv, hg, hj, Option.map_some, he]
  rfl
end Go.Proofs.Ytcgkcoogaieolaa
