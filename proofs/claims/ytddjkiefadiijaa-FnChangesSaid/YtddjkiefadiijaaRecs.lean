/- The program's structs as tuples, and how their slices read. No statement of the claim stands here. -/
import Derived.Test.YtddjkiefadiijaaTyped
import Derived.Test.YtddjkiefadiijaaPure
namespace Go.Proofs.Ytddjkiefadiijaa
open Go Go.RowKit

def stC (s : Stay) : List Value := [.int .i64 s.1, .int .i64 s.2.1, .int .i64 s.2.2]
def crC (s : Cross) : List Value := [.int .i64 s.1, .bool s.2]
theorem stC_len : ∀ x, (stC x).length = 3 := fun _ => rfl
theorem crC_len : ∀ x, (crC x).length = 2 := fun _ => rfl
theorem ones_map {α : Type} {f : α → Value} {xs : List α} (h : ∀ x, (f x).oneCell' = true) : ∀ u ∈ xs.map f, u.oneCell' = true := by
  intro u hu
  obtain ⟨x, _, rfl⟩ := List.mem_map.1 hu
  exact h x
theorem ones_rec {α : Type} {en : α → List Value} {xs : List α} (h : ∀ x, ∀ u ∈ en x, u.oneCell' = true) : ∀ u ∈ xs.flatMap en, u.oneCell' = true := by
  intro u hu
  obtain ⟨x, _, hx⟩ := List.mem_flatMap.1 hu
  exact h x u hx
theorem stC_one : ∀ x, ∀ u ∈ stC x, u.oneCell' = true := by
  intro x u hu
  simp only [stC, List.mem_cons, List.not_mem_nil, or_false] at hu
  rcases hu with rfl | rfl | rfl <;> rfl
theorem crC_one : ∀ x, ∀ u ∈ crC x, u.oneCell' = true := by
  intro x u hu
  simp only [crC, List.mem_cons, List.not_mem_nil, or_false] at hu
  rcases hu with rfl | rfl <;> rfl
section
variable {lo hi : Nat} {w : World} {a : Option Addr}
theorem Stay_some {xs : List Stay} (h : Cells lo hi w a (xs.flatMap stC)) {i : Int} (h0 : 0 ≤ i) (h1 : i < xs.length) : a.isSome = true := Recs.some h stC_len (by decide) h0 h1
theorem Stay_all {xs : List Stay} (h : Cells lo hi w a (xs.flatMap stC)) {i : Int} (h0 : 0 ≤ i) (h1 : i < xs.length) : ∀ j, j < (stC xs[i.toNat]!).length → w.cell? (((adr a).add (i.toNat * 3)).add j) = some (stC xs[i.toNat]!)[j]! := Recs.all h stC_len h0 h1
theorem Stay_c0 {xs : List Stay} (h : Cells lo hi w a (xs.flatMap stC)) {i : Int} (h0 : 0 ≤ i) (h1 : i < xs.length) : w.cell? (((adr a).add (i.toNat * 3)).add 0) = some (.int .i64 xs[i.toNat]!.1) := Recs.fld h stC_len h0 h1 0 (by decide)
theorem Stay_c1 {xs : List Stay} (h : Cells lo hi w a (xs.flatMap stC)) {i : Int} (h0 : 0 ≤ i) (h1 : i < xs.length) : w.cell? (((adr a).add (i.toNat * 3)).add 1) = some (.int .i64 xs[i.toNat]!.2.1) := Recs.fld h stC_len h0 h1 1 (by decide)
theorem Stay_c2 {xs : List Stay} (h : Cells lo hi w a (xs.flatMap stC)) {i : Int} (h0 : 0 ≤ i) (h1 : i < xs.length) : w.cell? (((adr a).add (i.toNat * 3)).add 2) = some (.int .i64 xs[i.toNat]!.2.2) := Recs.fld h stC_len h0 h1 2 (by decide)
theorem Cross_some {xs : List Cross} (h : Cells lo hi w a (xs.flatMap crC)) {i : Int} (h0 : 0 ≤ i) (h1 : i < xs.length) : a.isSome = true := Recs.some h crC_len (by decide) h0 h1
theorem Cross_all {xs : List Cross} (h : Cells lo hi w a (xs.flatMap crC)) {i : Int} (h0 : 0 ≤ i) (h1 : i < xs.length) : ∀ j, j < (crC xs[i.toNat]!).length → w.cell? (((adr a).add (i.toNat * 2)).add j) = some (crC xs[i.toNat]!)[j]! := Recs.all h crC_len h0 h1
theorem Cross_c0 {xs : List Cross} (h : Cells lo hi w a (xs.flatMap crC)) {i : Int} (h0 : 0 ≤ i) (h1 : i < xs.length) : w.cell? (((adr a).add (i.toNat * 2)).add 0) = some (.int .i64 xs[i.toNat]!.1) := Recs.fld h crC_len h0 h1 0 (by decide)
theorem Cross_c1 {xs : List Cross} (h : Cells lo hi w a (xs.flatMap crC)) {i : Int} (h0 : 0 ≤ i) (h1 : i < xs.length) : w.cell? (((adr a).add (i.toNat * 2)).add 1) = some (.bool xs[i.toNat]!.2) := Recs.fld h crC_len h0 h1 1 (by decide)
end
theorem made_stay (n : Nat) : (madeCells (Value.agg #[.int .i64 0, .int .i64 0, .int .i64 0]).cells (n * 3)).toList = (List.replicate n ((0, 0, 0) : Stay)).flatMap stC := by
  rw [made_rec (l := stC (0, 0, 0)) (m := 3) rfl rfl]; simp [List.flatMap, List.map_replicate]
theorem made_cross (n : Nat) : (madeCells (Value.agg #[.int .i64 0, .bool false]).cells (n * 2)).toList = (List.replicate n ((0, false) : Cross)).flatMap crC := by
  rw [made_rec (l := crC (0, false)) (m := 2) rfl rfl]; simp [List.flatMap, List.map_replicate]
theorem Holds_set {α : Type} [Inhabited α] (l xs : List α) (k : Nat) (hl : l.length = xs.length) (hk : k < xs.length) (h : l.take k = xs.take k) : (l.set k xs[k]!).take (k + 1) = xs.take (k + 1) := by
  apply List.ext_getElem?
  intro j
  have hh : ∀ j, j < k → l[j]? = xs[j]? := fun j hj => by
    have := congrArg (fun m => m[j]?) h
    simpa [List.getElem?_take, hj] using this
  simp only [List.getElem?_take, List.getElem?_set]
  by_cases h1 : j < k + 1
  · rw [if_pos h1, if_pos h1]
    by_cases h2 : k = j
    · subst h2; rw [if_pos rfl, if_pos (by omega)]; simp [hk]
    · rw [if_neg h2]; exact hh j (by omega)
  · rw [if_neg h1, if_neg h1]
end Go.Proofs.Ytddjkiefadiijaa
