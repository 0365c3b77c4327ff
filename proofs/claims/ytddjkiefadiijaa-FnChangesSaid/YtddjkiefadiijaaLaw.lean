/- From a walk of a law to what its row asks. No statement of the claim stands here. -/
import Derived.Test.YtddjkiefadiijaaSop
import Derived.Test.YtddjkiefadiijaaOpenT
namespace Go.Proofs.Ytddjkiefadiijaa
open Go Go.RowKit

theorem law_of {P : Program} {f : FuncId} {args : Array Value} {w : World} (h : Fn P f args w (fun v w' => ∃ r0 : Bool, r0 = true ∧ v = .bool r0 ∧ Ext w w')) : Fn P f args w (LawR w) :=
  h.mono fun v w' ⟨r, h1, h2, hE⟩ => ⟨by rw [h2, h1], hE.stp (Nat.le_refl _)⟩
theorem encs_int (xs : List Int) : encs xs = xs.map (Value.int .i64) := by
  induction xs with
  | nil => rfl
  | cons x xs ih => simp only [encs, List.flatMap_cons, List.map_cons] at ih ⊢; rw [ih]; rfl
theorem vw_ints {w : World} {a : Option Addr} {c : Nat} {xs : List Int} (h : Cells 0 w.heap.size w a (xs.map (Value.int .i64))) (hn : a = none → c = 0) (hc : xs.length ≤ c) : Vw w.heap.size w a xs.length c xs := ⟨by rw [encs_int]; exact h, rfl, hn, hc⟩
theorem vw_recs {α : Type} [El α] {w : World} {a : Option Addr} {c : Nat} {xs : List α} (h : Cells 0 w.heap.size w a (encs xs)) (hn : a = none → c = 0) (hc : xs.length ≤ c) : Vw w.heap.size w a xs.length c xs := ⟨h, rfl, hn, hc⟩
end Go.Proofs.Ytddjkiefadiijaa
