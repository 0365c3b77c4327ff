/- Arguments that came in, opened to lists. No statement of the claim stands here. -/
import Derived.Test.YtddjkiefadiijaaFacts
import Derived.Deep.Slices
namespace Go.Proofs.Ytddjkiefadiijaa
open Go Go.RowKit

def LawR (w : World) : Value → World → Prop := fun v w' => v = .bool true ∧ Below w.heap.size w w'
theorem cells_mk {W : World} {x : Addr} {cs : List Value} (h : ∀ j, j < cs.length → W.cell? (x.add j) = some cs[j]!) : Cells 0 W.heap.size W (some x) cs :=
  ⟨fun hp => ⟨x, rfl, Nat.zero_le _, by
    have := Go.block_lt_of_cell (h 0 hp)
    rwa [block_add] at this⟩, h⟩
theorem cells_of_ints {W : World} {x : Addr} {k : IntKind} {zs : List Int} {l : Nat} (hcell : ∀ i, i < zs.length → W.cell? (x.add i) = some (.int k (zs.getD i 0))) (hl : l ≤ zs.length) :
    Cells 0 W.heap.size W (some x) ((zs.take l).map (Value.int k)) := by
  refine cells_mk fun j hj => ?_
  have hj' : j < l := by simp at hj; omega
  have hj2 : j < zs.length := by omega
  rw [hcell j hj2]
  simp [hj', hj2, List.getD]
section
variable {H : Type} {enc : TypeId × Value → H} {P : Program} {W : World} {base : Nat} {spare : Nat → Bool} {held : Bool}
theorem open_recs {α : Type} [Inhabited α] {en : α → List Value} {G : α → Prop} {m : Nat} {t e : TypeId} (ht : P.underlying t = some (.slice e)) (hC : P.cellsOf e = m) (henc : ∀ x, (en x).length = m)
    (dec : ∀ cs n x, DataW.trod enc P W base spare held n e cs = some x → ∃ y, cs = en y ∧ G y) {fuel len cap : Nat} {a : Option Addr} {x : DataW H × List MemPlace} (h : DataW.trod enc P W base spare held fuel t [.slice a len cap] = some x) :
    ∃ ys : List α, ys.length = len ∧ Cells 0 W.heap.size W a (ys.flatMap en) ∧ (a = none → cap = 0) ∧ len ≤ cap ∧ len ≤ 9223372036854775807 ∧ ∀ i, i < len → G ys[i]! := by
  rcases Go.Deep.open_slice ht h with ⟨h0, _⟩ | ⟨ad, l, c, mm, n, D, Pl, hcs, hb, hl, hm, hmm, hx, hi⟩
  · simp at h0
    obtain ⟨rfl, rfl, rfl⟩ := h0
    exact ⟨[], rfl, Cells.nil, fun _ => rfl, Nat.le_refl _, by omega, fun i hi => absurd hi (by omega)⟩
  · simp at hcs
    obtain ⟨rfl, rfl, rfl⟩ := hcs
    have hle : len ≤ mm := by rw [hmm]; split <;> omega
    have hch : ∀ i, i < len → ∃ y : α, (∀ j, j < m → W.cell? ((ad.add (i * m)).add j) = (en y)[j]?) ∧ G y := by
      intro i hil
      obtain ⟨cs', h1, h2⟩ := hi i (by omega)
      rw [hC] at h1
      obtain ⟨y, rfl, hg⟩ := dec _ _ _ h2
      exact ⟨y, (World.cells?_some h1).2.2, hg⟩
    let f : Nat → α := fun i => if h : i < len then (hch i h).choose else default
    have hf : ∀ i, i < len → (∀ j, j < m → W.cell? ((ad.add (i * m)).add j) = (en (f i))[j]?) ∧ G (f i) := by
      intro i h
      have : f i = (hch i h).choose := dif_pos h
      rw [this]; exact (hch i h).choose_spec
    have hg : ∀ i, i < len → ((List.range len).map f)[i]! = f i := by intro i h; simp [h]
    refine ⟨(List.range len).map f, by simp, cells_mk fun k hk => ?_, (fun h => by cases h), hl, (by unfold maxLen at hm; omega), fun i hi => by rw [hg i hi]; exact (hf i hi).2⟩
    rw [rec_length henc] at hk
    simp at hk
    have hm0 : 0 < m := by
      rcases Nat.eq_zero_or_pos m with h0 | h0
      · subst h0; omega
      · exact h0
    have ek : k = (k / m) * m + k % m := by rw [Nat.mul_comm]; exact (Nat.div_add_mod k m).symm
    have hq : k / m < len := by rw [Nat.div_lt_iff_lt_mul hm0]; exact hk
    have hr : k % m < m := Nat.mod_lt _ hm0
    have h2 := rec_get henc ((List.range len).map f) (k / m) (k % m) (by simpa using hq) hr
    rw [hg _ hq, ← ek] at h2
    have h3 := (hf _ hq).1 _ hr
    rw [add_add, ← ek] at h3
    rw [h3, ← h2]
    have hlt : k < (((List.range len).map f).flatMap en).length := by rw [rec_length henc]; simpa using hk
    rw [List.getElem?_eq_getElem hlt, getElem!_pos (((List.range len).map f).flatMap en) k hlt]
theorem dec_int {t : TypeId} {k : IntKind} (ht : P.underlying t = some (.int k)) {n : Nat} {cs : List Value} {x : DataW H × List MemPlace} (h : DataW.trod enc P W base spare held n t cs = some x) : ∃ i, cs = [.int k i] :=
  let ⟨i, h1, _⟩ := DataW.trod_int ht h; ⟨i, h1⟩
theorem dec_fields {t : TypeId} {fs : Array Field} {m n : Nat} {cs : List Value} {x : DataW H × List MemPlace} (ht : P.underlying t = some (.struct fs)) (hC : P.cellsOf t = m) (h : DataW.trod enc P W base spare held n t cs = some x) :
    cs.length = m ∧ ∃ n', ∀ (i : Nat) (f : Field), fs[i]? = some f → ∃ y, DataW.trod enc P W base spare held n' f.type ((cs.drop f.offset).take (P.cellsOf f.type)) = some y := by
  obtain ⟨xs, n', _, _, hlen, hl, hf⟩ := DataW.trod_struct ht h
  refine ⟨hlen.trans hC, n', fun i f hif => ?_⟩
  have hi : i < fs.size := (Array.getElem?_eq_some_iff.1 hif).1
  exact ⟨xs[i]'(by omega), by rw [hf i f hif]; exact List.getElem?_eq_getElem (by omega)⟩
def fldsOk (P : Program) (t : TypeId) (l : List (Nat × TypeId × Nat)) : Bool :=
  match P.underlying t with
  | some (.struct fs) => fs.toList.map (fun f => (f.offset, f.type, P.cellsOf f.type)) == l
  | _ => false
theorem fldsOk_spec {t : TypeId} {l : List (Nat × TypeId × Nat)} (h : fldsOk P t l = true) : ∃ fs, P.underlying t = some (.struct fs) ∧ fs.toList.map (fun f => (f.offset, f.type, P.cellsOf f.type)) = l := by
  unfold fldsOk at h
  split at h
  · rename_i fs hu; exact ⟨fs, hu, by simpa using h⟩
  · cases h
/-- a struct's cells, field by field -/
theorem dec_rec {t : TypeId} {l : List (Nat × TypeId × Nat)} {m n : Nat} {cs : List Value} {x : DataW H × List MemPlace} (hf : fldsOk P t l = true) (hC : P.cellsOf t = m) (h : DataW.trod enc P W base spare held n t cs = some x) :
    cs.length = m ∧ ∃ n', ∀ (i : Nat) (o T c : Nat), l[i]? = some (o, T, c) → ∃ y, DataW.trod enc P W base spare held n' T ((cs.drop o).take c) = some y := by
  obtain ⟨fs, hu, hl⟩ := fldsOk_spec hf
  obtain ⟨h1, n', h2⟩ := dec_fields hu hC h
  refine ⟨h1, n', fun i o T c hi => ?_⟩
  subst hl
  simp only [List.getElem?_map, Option.map_eq_some_iff] at hi
  obtain ⟨f, hf1, hf2⟩ := hi
  simp only [Prod.mk.injEq] at hf2
  obtain ⟨rfl, rfl, rfl⟩ := hf2
  exact h2 i f (by simpa using hf1)
theorem openStay {t e : TypeId} {fuel len cap : Nat} {a : Option Addr} {x : DataW H × List MemPlace} {I : TypeId} (hk : P.underlying t = some (.slice e) ∧ P.cellsOf e = 3 ∧ P.underlying I = some (.int .i64) ∧ fldsOk P e [(0, I, 1), (1, I, 1), (2, I, 1)] = true)
    (h : DataW.trod enc P W base spare held fuel t [.slice a len cap] = some x) : ∃ xs : List Stay, xs.length = len ∧ Cells 0 W.heap.size W a (xs.flatMap stC) ∧ (a = none → cap = 0) ∧ len ≤ cap ∧ len ≤ 9223372036854775807 := by
  obtain ⟨h1, h2, h3, h4⟩ := hk
  obtain ⟨ys, g1, g2, g3, g4, g5, _⟩ := open_recs (G := fun _ : Stay => True) h1 h2 stC_len (fun cs n x hx => by
    obtain ⟨hl, n', hf⟩ := dec_rec h4 h2 hx
    obtain ⟨_, y0⟩ := hf 0 _ _ _ rfl
    obtain ⟨_, y1⟩ := hf 1 _ _ _ rfl
    obtain ⟨_, y2⟩ := hf 2 _ _ _ rfl
    obtain ⟨p, e0⟩ := dec_int h3 y0
    obtain ⟨f, e1⟩ := dec_int h3 y1
    obtain ⟨t, e2⟩ := dec_int h3 y2
    match cs, hl with
    | [c0, c1, c2], _ =>
      simp at e0 e1 e2
      subst e0 e1 e2
      exact ⟨(p, f, t), rfl, trivial⟩) h
  exact ⟨ys, g1, g2, g3, g4, g5⟩
theorem dec_bool {t : TypeId} (ht : P.underlying t = some .bool) {n : Nat} {cs : List Value} {x : DataW H × List MemPlace} (h : DataW.trod enc P W base spare held n t cs = some x) : ∃ b, cs = [.bool b] :=
  let ⟨b, h1, _⟩ := DataW.trod_bool ht h; ⟨b, h1⟩
theorem openCross {t e : TypeId} {fuel len cap : Nat} {a : Option Addr} {x : DataW H × List MemPlace} {I B : TypeId} (hk : P.underlying t = some (.slice e) ∧ P.cellsOf e = 2 ∧ P.underlying I = some (.int .i64) ∧ P.underlying B = some .bool ∧ fldsOk P e [(0, I, 1), (1, B, 1)] = true)
    (h : DataW.trod enc P W base spare held fuel t [.slice a len cap] = some x) : ∃ xs : List Cross, xs.length = len ∧ Cells 0 W.heap.size W a (xs.flatMap crC) ∧ (a = none → cap = 0) ∧ len ≤ cap ∧ len ≤ 9223372036854775807 := by
  obtain ⟨h1, h2, h3, h5, h4⟩ := hk
  obtain ⟨ys, g1, g2, g3, g4, g5, _⟩ := open_recs (G := fun _ : Cross => True) h1 h2 crC_len (fun cs n x hx => by
    obtain ⟨hl, n', hf⟩ := dec_rec h4 h2 hx
    obtain ⟨_, y0⟩ := hf 0 _ _ _ rfl
    obtain ⟨_, y1⟩ := hf 1 _ _ _ rfl
    obtain ⟨p, e0⟩ := dec_int h3 y0
    obtain ⟨f, e1⟩ := dec_bool h5 y1
    match cs, hl with
    | [c0, c1], _ =>
      simp at e0 e1
      subst e0 e1
      exact ⟨(p, f), rfl, trivial⟩) h
  exact ⟨ys, g1, g2, g3, g4, g5⟩
end
end Go.Proofs.Ytddjkiefadiijaa
