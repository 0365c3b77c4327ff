/- Arguments that came in, opened to lists. No statement of the claim stands here. -/
import Derived.Test.YtenoommpckddlaaRecs
namespace Go.Proofs.Ytenoommpckddlaa
open Go Go.RowKit

def LawR (w : World) : Value → World → Prop := fun v w' => v = .bool true ∧ Below w.heap.size w w'
theorem cells_mk {W : World} {x : Addr} {cs : List Value} (h : ∀ j, j < cs.length → W.cell? (x.add j) = some cs[j]!) : Cells 0 W.heap.size W (some x) cs :=
  ⟨fun hp => ⟨x, rfl, Nat.zero_le _, by
    have := Go.block_lt_of_cell (h 0 hp)
    rwa [block_add] at this⟩, h⟩
theorem cells_of_ints {W : World} {x : Addr} {k : IntKind} {zs : List Int} {l : Nat} (hcell : ∀ i, i < zs.length → W.cell? (x.add i) = some (.int k (zs.getD i 0))) (hl : l ≤ zs.length) :
    Cells 0 W.heap.size W (some x) ((zs.take l).map (Value.int k)) := by
  refine cells_mk fun j hj => ?_
  have hj' : j < l := by simp at hj; omega
  have hj2 : j < zs.length := by omega
  rw [hcell j hj2]
  simp [hj', hj2, List.getD]
end Go.Proofs.Ytenoommpckddlaa
