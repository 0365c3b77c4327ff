/- An argument of bytes, opened to a list. No statement of the claim stands here. -/
import Derived.Test.YtddjkiefadiijaaCur
import Derived.Test.YtddjkiefadiijaaOpen
import Derived.ChangeSlices
namespace Go.Proofs.Ytddjkiefadiijaa
open Go Go.RowKit
theorem encs_byte (xs : List Byte) : encs xs = xs.map fun b : Byte => Value.int .u8 (b.val : Int) := by
  induction xs with
  | nil => rfl
  | cons x xs ih => simp only [encs, List.flatMap_cons, List.map_cons] at ih ⊢; rw [ih]; rfl
theorem openBytes {H : Type} {enc : TypeId × Value → H} {P : Program} {W : World} {base : Nat} {spare : Nat → Bool} {held : Bool} {t e : TypeId} (hk : P.underlying t = some (.slice e) ∧ P.underlying e = some (.int .u8) ∧ P.cellsOf e = 1)
    {fuel len cap : Nat} {a : Option Addr} {x : DataW H × List MemPlace} (h : DataW.trod enc P W base spare held fuel t [.slice a len cap] = some x) : ∃ xs : List Byte, Vw W.heap.size W a len cap xs ∧ xs.length ≤ 9223372036854775807 := by
  rcases Go.ChangeShapes.open_ints hk.1 hk.2.1 hk.2.2 h with ⟨hcs, _⟩ | ⟨ad, l, c, zs, hcs, _, hl, hm, hz, _, hcell, hwz⟩
  · simp at hcs
    obtain ⟨rfl, rfl, rfl⟩ := hcs
    exact ⟨[], Vw.emp, by simp⟩
  · simp at hcs
    obtain ⟨rfl, rfl, rfl⟩ := hcs
    have hle : len ≤ zs.length := by rw [hz]; split <;> omega
    let f : Nat → Byte := fun i => ⟨(zs.getD i 0).toNat % 256, Nat.mod_lt _ (by omega)⟩
    refine ⟨(List.range len).map f, ⟨cells_mk fun j hj => ?_, by simp, (fun h => by cases h), hl⟩, by simp; unfold maxLen at hm; omega⟩
    rw [encs_byte, List.length_map, List.length_map, List.length_range] at hj
    have hj2 : j < zs.length := by omega
    have hmem : zs.getD j 0 ∈ zs := by
      have e : zs.getD j 0 = zs[j] := by simp [List.getD, hj2]
      rw [e]; exact List.getElem_mem hj2
    have hw := hwz _ hmem
    simp only [Lit.wf, Bool.and_eq_true, decide_eq_true_eq, IntKind.min, IntKind.max, IntKind.signed, IntKind.bits] at hw
    have hval : (((f j).val : Nat) : Int) = zs.getD j 0 := by
      show (((zs.getD j 0).toNat % 256 : Nat) : Int) = _
      have h1 : (0 : Int) ≤ zs.getD j 0 := by simpa using hw.1
      have h2 : zs.getD j 0 ≤ (255 : Int) := by simpa using hw.2
      omega
    rw [hcell j hj2, encs_byte, ← hval]
    simp [hj]
end Go.Proofs.Ytddjkiefadiijaa
