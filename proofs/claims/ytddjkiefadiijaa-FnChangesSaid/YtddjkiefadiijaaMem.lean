/- Memory: slices that read as lists, rows and boxes of the call's own, and what changes them. No statement of the claim stands here. -/
import Derived.Test.YtddjkiefadiijaaOps
import Derived.Laws.Cells
import Derived.Laws.MakeOwn
import Derived.Laws.AppendOwn
import Derived.Laws.OwnMore
namespace Go.Proofs.Ytddjkiefadiijaa
open Go Go.RowKit

/- what may have changed: nothing that was there ('none'), or one block -/
abbrev Chg (w w' : World) (row : Option Nat) : Prop := w.grownBy w' row
abbrev Ext (w w' : World) : Prop := w.grownBy w' none
theorem Ext.refl (w : World) : Ext w w := ⟨rfl, rfl, rfl, Nat.le_refl _, fun _ _ _ => rfl⟩
theorem Ext.trans {a b c : World} (h : Ext a b) (k : Ext b c) : Ext a c :=
  ⟨k.os.trans h.os, k.tape.trans h.tape, k.output.trans h.output, Nat.le_trans h.size k.size, fun i hi hr => (k.block i (by have := h.size; omega) hr).trans (h.block i hi hr)⟩
theorem Ext.chg {w w' : World} (h : Ext w w') (row : Option Nat) : Chg w w' row :=
  ⟨h.os, h.tape, h.output, h.size, fun i hi _ => h.block i hi (by simp)⟩
theorem Chg.trans {a b c : World} {row : Option Nat} (h : Chg a b row) (k : Chg b c row) : Chg a c row :=
  ⟨k.os.trans h.os, k.tape.trans h.tape, k.output.trans h.output, Nat.le_trans h.size k.size, fun i hi hr => (k.block i (by have := h.size; omega) hr).trans (h.block i hi hr)⟩
theorem Ext.drew (w : World) : Ext w w.drew := ⟨rfl, rfl, rfl, Nat.le_refl _, fun _ _ _ => rfl⟩
theorem Chg.below {B : Nat} {a w w' : World} {row : Option Nat} (h : Below B a w) (hg : Chg w w' row) (hB : B ≤ w.heap.size) (hr : ∀ k, row = some k → B ≤ k) : Below B a w' := h.grown hg hB hr
theorem Ext.below {B : Nat} {a w w' : World} (h : Below B a w) (hg : Ext w w') (hB : B ≤ w.heap.size) : Below B a w' := h.grown hg hB (by simp)
theorem Below.ext {w w' : World} (h : Below w.heap.size w w') : Ext w w' := ⟨h.os, h.tape, h.output, h.size, fun i hi _ => h.block i hi⟩

/- cells of a slice -/
def Cells (lo hi : Nat) (w : World) (a : Option Addr) (cs : List Value) : Prop :=
  (0 < cs.length → ∃ ad, a = some ad ∧ lo ≤ ad.block ∧ ad.block < hi) ∧ ∀ j, j < cs.length → w.cell? ((adr a).add j) = some cs[j]!
section
variable {lo hi : Nat} {w w' : World} {a : Option Addr} {cs : List Value}
theorem block_add (p : Addr) (j : Nat) : (p.add j).block = p.block := by unfold Addr.add; split <;> rfl
theorem add_add (p : Addr) (i j : Nat) : (p.add i).add j = p.add (i + j) := by
  unfold Addr.add
  by_cases hi : i = 0 <;> by_cases hj : j = 0 <;> simp [hi, hj, Nat.add_assoc]
theorem Cells.isSome (h : Cells lo hi w a cs) {j : Nat} (hj : j < cs.length) : a.isSome = true := by
  obtain ⟨ad, rfl, _⟩ := h.1 (by omega); rfl
theorem Cells.block (h : Cells lo hi w a cs) {j : Nat} (hj : j < cs.length) : lo ≤ (adr a).block ∧ (adr a).block < hi := by
  obtain ⟨ad, rfl, h1, h2⟩ := h.1 (by omega); exact ⟨h1, h2⟩
theorem Cells.keep (h : Cells lo hi w a cs) (hk : ∀ k, lo ≤ k → k < hi → w'.heap[k]? = w.heap[k]?) : Cells lo hi w' a cs :=
  ⟨h.1, fun j hj => by
    obtain ⟨h1, h2⟩ := h.block hj
    rw [← h.2 j hj]
    exact World.cell?_of_block (by rw [block_add]; exact hk _ h1 h2)⟩
theorem Cells.below {B : Nat} (h : Cells lo hi w a cs) (hb : Below B w w') (hB : hi ≤ B) : Cells lo hi w' a cs := h.keep fun k _ hk => hb.block k (by omega)
theorem Cells.chg {row : Option Nat} (h : Cells lo hi w a cs) (hg : Chg w w' row) (hs : hi ≤ w.heap.size) (hr : ∀ k, row = some k → k < lo ∨ hi ≤ k) : Cells lo hi w' a cs :=
  h.keep fun k h1 h2 => hg.block k (by omega) (fun e => by have := hr k e.symm; omega)
theorem Cells.ext (h : Cells lo hi w a cs) (hg : Ext w w') (hs : hi ≤ w.heap.size) : Cells lo hi w' a cs := h.chg hg hs (by simp)
theorem Cells.wide {lo' hi' : Nat} (h : Cells lo hi w a cs) (h1 : lo' ≤ lo) (h2 : hi ≤ hi') : Cells lo' hi' w a cs :=
  ⟨fun hp => by obtain ⟨ad, ha, hb, hc⟩ := h.1 hp; exact ⟨ad, ha, by omega, by omega⟩, h.2⟩
theorem Cells.nil : Cells lo hi w a [] := ⟨fun h => absurd h (by simp), fun j hj => absurd hj (by simp)⟩
end

/- slices of integers -/
abbrev intsC (xs : List Int) : List Value := xs.map (Value.int .i64)
abbrev Ints (lo hi : Nat) (w : World) (a : Option Addr) (xs : List Int) : Prop := Cells lo hi w a (intsC xs)
section
variable {lo hi : Nat} {w w' : World} {a : Option Addr} {xs : List Int}
theorem Cells.one {α : Type} [Inhabited α] {f : α → Value} {xs : List α} (h : Cells lo hi w a (xs.map f)) {i : Int} (h0 : 0 ≤ i) (h1 : i < xs.length) : w.cell? ((adr a).add (i.toNat * 1)) = some (f xs[i.toNat]!) := by
  have hi : i.toNat < xs.length := by omega
  rw [Nat.mul_one, h.2 _ (by simpa using hi)]
  simp [hi]
theorem Cells.oneSome {α : Type} {f : α → Value} {xs : List α} (h : Cells lo hi w a (xs.map f)) {i : Int} (h0 : 0 ≤ i) (h1 : i < xs.length) : a.isSome = true := Cells.isSome h (j := i.toNat) (by simp; omega)
theorem Cells.int (h : Ints lo hi w a xs) {i : Int} (h0 : 0 ≤ i) (h1 : i < xs.length) : w.cell? ((adr a).add (i.toNat * 1)) = some (.int .i64 xs[i.toNat]!) := Cells.one h h0 h1
theorem Cells.intSome (h : Ints lo hi w a xs) {i : Int} (h0 : 0 ≤ i) (h1 : i < xs.length) : a.isSome = true := Cells.oneSome h h0 h1

/- slices of structs: m cells an element -/
section
variable {α : Type} {enc : α → List Value} {m : Nat}
theorem rec_length (henc : ∀ x, (enc x).length = m) : ∀ ys : List α, (ys.flatMap enc).length = ys.length * m
  | [] => by simp
  | y :: ys => by
    have := rec_length henc ys
    simp only [List.flatMap_cons, List.length_append, henc, this, List.length_cons, Nat.succ_mul]; omega
theorem rec_get [Inhabited α] (henc : ∀ x, (enc x).length = m) : ∀ (ys : List α) (i j : Nat), i < ys.length → j < m → (ys.flatMap enc)[i * m + j]? = (enc ys[i]!)[j]?
  | [], i, j, h, _ => by simp at h
  | y :: ys, 0, j, _, hj => by
    simp only [List.flatMap_cons, Nat.zero_mul, Nat.zero_add]
    rw [List.getElem?_append_left (by rw [henc]; exact hj)]; simp
  | y :: ys, i + 1, j, h, hj => by
    have ih := rec_get henc ys i j (by simpa using h) hj
    simp only [List.flatMap_cons]
    rw [List.getElem?_append_right (by rw [henc, Nat.succ_mul]; omega), henc]
    have e : (i + 1) * m + j - m = i * m + j := by rw [Nat.succ_mul]; omega
    rw [e, ih]; simp
theorem idx_lt {n i j : Nat} (h : i < n) (hj : j < m) : i * m + j < n * m := by
  have : (i + 1) * m ≤ n * m := Nat.mul_le_mul_right _ h
  rw [Nat.succ_mul] at this; omega
theorem Recs.fld [Inhabited α] {ys : List α} (h : Cells lo hi w a (ys.flatMap enc)) (henc : ∀ x, (enc x).length = m) {i : Int} (h0 : 0 ≤ i) (h1 : i < ys.length) (j : Nat) (hj : j < m) :
    w.cell? (((adr a).add (i.toNat * m)).add j) = some (enc ys[i.toNat]!)[j]! := by
  have hi : i.toNat < ys.length := by omega
  have hlt := idx_lt (m := m) hi hj
  rw [add_add, h.2 _ (by rw [rec_length henc]; exact hlt)]
  have := rec_get henc ys i.toNat j hi hj
  have hj' : j < (enc ys[i.toNat]!).length := by rw [henc]; exact hj
  rw [List.getElem?_eq_getElem (by rw [rec_length henc]; exact hlt), List.getElem?_eq_getElem hj', Option.some_inj] at this
  rw [getElem!_pos (ys.flatMap enc) (i.toNat * m + j) (by rw [rec_length henc]; exact hlt), getElem!_pos (enc ys[i.toNat]!) j hj', this]
theorem Recs.all [Inhabited α] {ys : List α} (h : Cells lo hi w a (ys.flatMap enc)) (henc : ∀ x, (enc x).length = m) {i : Int} (h0 : 0 ≤ i) (h1 : i < ys.length) :
    ∀ j, j < (enc ys[i.toNat]!).length → w.cell? (((adr a).add (i.toNat * m)).add j) = some (enc ys[i.toNat]!)[j]! :=
  fun j hj => Recs.fld h henc h0 h1 j (by rw [← henc]; exact hj)
theorem Recs.some {ys : List α} (h : Cells lo hi w a (ys.flatMap enc)) (henc : ∀ x, (enc x).length = m) (hm : 0 < m) {i : Int} (h0 : 0 ≤ i) (h1 : i < ys.length) : a.isSome = true := by
  refine Cells.isSome h (j := i.toNat * m + 0) ?_
  rw [rec_length henc]; exact idx_lt (by omega) hm
end
end

/- rows and boxes of the call's own -/
def Own (w : World) (B : Nat) (E : TypeId) (sz : Nat) (a : Option Addr) (len cap : Nat) (cs : List Value) : Prop := w.ownsRow B E sz (.slice a len cap) len cs
def Blk (w : World) (g : Nat) (t : TypeId) (cs : Array Value) : Prop := w.heap[g]? = some (.cells cs t (0, 0))
def blk (a : Option Addr) : Option Nat := a.map (·.block)
section
variable {w w' : World} {B : Nat} {E : TypeId} {sz : Nat} {a : Option Addr} {len cap : Nat} {cs : List Value} {row : Option Nat} {g : Nat} {t : TypeId} {bs : Array Value}
theorem ownBlock_slice : (Value.slice a len cap).ownBlock = blk a := by cases a <;> rfl
theorem Own.length (h : Own w B E sz a len cap cs) : cs.length = len * sz := h.1
theorem Own.lt (h : Own w B E sz a len cap cs) : ∀ k, blk a = some k → B ≤ k ∧ k < w.heap.size := fun k hk => World.ownsRow.lt h k (by rw [ownBlock_slice]; exact hk)
theorem Own.chg (h : Own w B E sz a len cap cs) (hg : Chg w w' row) (hne : ∀ k, row = some k → blk a ≠ some k) : Own w' B E sz a len cap cs := by
  refine World.ownsRow.kept h hg ?_
  rw [ownBlock_slice]
  cases hb : blk a with
  | none => exact .inl rfl
  | some k => exact .inr fun e => hne k e.symm hb
theorem Own.ext (h : Own w B E sz a len cap cs) (hg : Ext w w') : Own w' B E sz a len cap cs := h.chg hg (by simp)
theorem Own.mono {B' : Nat} (h : Own w B E sz a len cap cs) (hB : B' ≤ B) : Own w B' E sz a len cap cs := by
  obtain ⟨h1, h2⟩ := h
  refine ⟨h1, h2.imp id ?_⟩
  rintro ⟨g, c, cur, e, hb, r⟩
  exact ⟨g, c, cur, e, by omega, r⟩
theorem Own.cells (h : Own w B E sz a len cap cs) : Cells B w.heap.size w a cs := by
  obtain ⟨h1, h2⟩ := h
  rcases h2 with ⟨e, hn⟩ | ⟨g, c, cur, e, hb, hh, hc, _, hs, ht⟩
  · subst hn
    have : cs = [] := List.eq_nil_of_length_eq_zero (by omega)
    subst this
    exact Cells.nil
  · injection e with e1 e2 e3
    subst e1
    have hg : g < w.heap.size := by
      rcases Nat.lt_or_ge g w.heap.size with hlt | hge
      · exact hlt
      · rw [Array.getElem?_eq_none hge] at hh; cases hh
    refine ⟨fun _ => ⟨_, rfl, hb, hg⟩, fun j hj => ?_⟩
    have hsz : len * sz ≤ cur.size := by rw [hs]; exact Nat.mul_le_mul_right _ hc
    have hj' : j < cur.size := by omega
    have : (adr (some (⟨g, 0, none⟩ : Addr))).add j = ⟨g, j, none⟩ := by
      unfold adr Addr.add
      by_cases h0 : j = 0 <;> simp [h0]
    rw [this]
    have hj2 : j < len * sz := by omega
    subst ht
    simp [World.cell?, hh, hj', hj2]
theorem Blk.lt (h : Blk w g t bs) : g < w.heap.size := by
  rcases Nat.lt_or_ge g w.heap.size with hlt | hge
  · exact hlt
  · unfold Blk at h; rw [Array.getElem?_eq_none hge] at h; cases h
theorem Blk.chg (h : Blk w g t bs) (hg : Chg w w' row) (hne : ∀ k, row = some k → k ≠ g) : Blk w' g t bs :=
  (hg.block g h.lt (fun e => hne g e.symm rfl)).trans h
theorem Blk.ext (h : Blk w g t bs) (hg : Ext w w') : Blk w' g t bs := h.chg hg (by simp)
theorem Blk.cell (h : Blk w g t bs) (i : Nat) : w.cell? ⟨g, i, none⟩ = bs[i]? := by
  unfold Blk at h; simp [World.cell?, h]
theorem Blk.frozen (h : Blk w g t bs) (i : Nat) : w.frozen? ⟨g, i, none⟩ = false := by
  unfold Blk at h; simp [World.frozen?, h]
end
end Go.Proofs.Ytddjkiefadiijaa
