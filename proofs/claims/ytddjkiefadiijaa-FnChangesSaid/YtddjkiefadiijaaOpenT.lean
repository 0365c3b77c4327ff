/- Arguments that came in, opened to tables: rows of numbers, players, cues. No statement of the claim stands here. -/
import Derived.Test.YtddjkiefadiijaaSop
import Derived.Test.YtddjkiefadiijaaOpen
namespace Go.Proofs.Ytddjkiefadiijaa
open Go Go.RowKit

section
variable {H : Type} {enc : TypeId × Value → H} {P : Program} {W : World} {base : Nat} {spare : Nat → Bool} {held : Bool}
theorem dec_row {t e : TypeId} {n : Nat} {cs : List Value} {x : DataW H × List MemPlace} (ht : P.underlying t = some (.slice e)) (he : P.underlying e = some (.int .i64)) (hC : P.cellsOf e = 1) (h : DataW.trod enc P W base spare held n t cs = some x) :
    ∃ y : Hd Int, cs = [hdC y] ∧ Vw W.heap.size W y.1 y.2.2.length y.2.1 y.2.2 ∧ y.2.2.length ≤ 9223372036854775807 := by
  obtain ⟨a, len, cap, rfl⟩ : ∃ a len cap, cs = [.slice a len cap] := by
    rcases Go.Deep.open_slice ht h with ⟨h0, _⟩ | ⟨ad, l, c, mm, n, D, Pl, hcs, _⟩
    · exact ⟨none, 0, 0, h0⟩
    · exact ⟨some ad, l, c, hcs⟩
  obtain ⟨ys, g1, g2, g3, gc, g4, _⟩ := open_recs (α := Int) (en := El.enc) (G := fun _ => True) ht hC El.len (fun cs n x hx => by
    obtain ⟨i, hi⟩ := dec_int he hx
    exact ⟨i, hi, trivial⟩) h
  subst g1
  exact ⟨(a, cap, ys), rfl, ⟨g2, rfl, g3, gc⟩, g4⟩
theorem open_tab {δ γ α : Type} [El δ] [Inhabited δ] [Rw δ α] [El α] [Er δ γ] {t e : TypeId} {m fuel len cap : Nat} {a : Option Addr} {x : DataW H × List MemPlace} (ht : P.underlying t = some (.slice e)) (hC : P.cellsOf e = m) (hm : El.m δ = m)
    (dec : ∀ cs n x, DataW.trod enc P W base spare held n e cs = some x → ∃ y : δ, cs = El.enc y ∧ ∀ j, j < Rw.k δ → Vw W.heap.size W (Rw.row y j).1 (Rw.row y j).2.2.length (Rw.row y j).2.1 (Rw.row y j).2.2 ∧ (Rw.row y j).2.2.length ≤ 9223372036854775807)
    (h : DataW.trod enc P W base spare held fuel t [.slice a len cap] = some x) :
    ∃ ys : List δ, Tv W.heap.size W a len cap ys (ers ys) ∧ ys.length ≤ 9223372036854775807 ∧ ∀ i j, i < ys.length → j < Rw.k δ → (Rw.row ys[i]! j).2.2.length ≤ 9223372036854775807 := by
  obtain ⟨ys, g1, g2, g3, gc, g4, g5⟩ := open_recs (en := (El.enc : δ → List Value)) (G := fun y : δ => ∀ j, j < Rw.k δ → Vw W.heap.size W (Rw.row y j).1 (Rw.row y j).2.2.length (Rw.row y j).2.1 (Rw.row y j).2.2 ∧ (Rw.row y j).2.2.length ≤ 9223372036854775807) ht hC (fun y => (El.len y).trans hm) dec h
  subst g1
  exact ⟨ys, ⟨⟨g2, rfl, g3, gc⟩, fun i j hi hj => (g5 i hi j hj).1, rfl⟩, g4, fun i j hi hj => (g5 i hi j hj).2⟩
theorem openIS {t e q : TypeId} {fuel len cap : Nat} {a : Option Addr} {x : DataW H × List MemPlace} (hk : P.underlying t = some (.slice e) ∧ P.cellsOf e = 1 ∧ P.underlying e = some (.slice q) ∧ P.underlying q = some (.int .i64) ∧ P.cellsOf q = 1)
    (h : DataW.trod enc P W base spare held fuel t [.slice a len cap] = some x) : ∃ (ys : List (Hd Int)) (xs : List (List Int)), Tv W.heap.size W a len cap ys xs ∧ xs.length ≤ 9223372036854775807 ∧ ∀ i, i < xs.length → (xs[i]!).length ≤ 9223372036854775807 := by
  obtain ⟨h1, h2, h3, h4, h5⟩ := hk
  obtain ⟨ys, g1, g2, g3⟩ := open_tab (δ := Hd Int) h1 h2 rfl (fun cs n x hx => by
    obtain ⟨y, e1, e2, e3⟩ := dec_row h3 h4 h5 hx
    exact ⟨y, e1, fun j _ => ⟨e2, e3⟩⟩) h
  refine ⟨ys, ers ys, g1, by simpa using g2, fun i hi => ?_⟩
  have hi' : i < ys.length := by simpa using hi
  rw [er_get hi']; exact g3 i 0 hi' Nat.zero_lt_one
theorem openPlayer {t e q I : TypeId} {fuel len cap : Nat} {a : Option Addr} {x : DataW H × List MemPlace} (hk : P.underlying t = some (.slice e) ∧ P.cellsOf e = 2 ∧ P.underlying I = some (.int .i64) ∧ P.cellsOf I = 1 ∧ P.underlying q = some (.slice I) ∧ fldsOk P e [(0, q, 1), (1, I, 1)] = true)
    (h : DataW.trod enc P W base spare held fuel t [.slice a len cap] = some x) : ∃ (ys : List PlayerD) (xs : List PlayerC), Tv W.heap.size W a len cap ys xs ∧ xs.length ≤ 9223372036854775807 ∧ ∀ i, i < xs.length → (xs[i]!).1.length ≤ 9223372036854775807 := by
  obtain ⟨h1, h2, h3, h4, h5, h6⟩ := hk
  obtain ⟨ys, g1, g2, g3⟩ := open_tab (δ := PlayerD) h1 h2 rfl (fun cs n x hx => by
    obtain ⟨hl, n', hf⟩ := dec_rec h6 h2 hx
    obtain ⟨_, y0⟩ := hf 0 _ _ _ rfl
    obtain ⟨_, y1⟩ := hf 1 _ _ _ rfl
    obtain ⟨y, e1, e2, e3⟩ := dec_row h5 h3 h4 y0
    obtain ⟨p, e4⟩ := dec_int h3 y1
    match cs, hl with
    | [c0, c1], _ =>
      simp at e1 e4
      subst e1 e4
      exact ⟨(y, p), rfl, fun j _ => ⟨e2, e3⟩⟩) h
  refine ⟨ys, ers ys, g1, by simpa using g2, fun i hi => ?_⟩
  have hi' : i < ys.length := by simpa using hi
  rw [er_get hi']; exact g3 i 0 hi' Nat.zero_lt_one
theorem openCue {t e q I : TypeId} {fuel len cap : Nat} {a : Option Addr} {x : DataW H × List MemPlace} (hk : P.underlying t = some (.slice e) ∧ P.cellsOf e = 3 ∧ P.underlying I = some (.int .i64) ∧ P.cellsOf I = 1 ∧ P.underlying q = some (.slice I) ∧ fldsOk P e [(0, I, 1), (1, q, 1), (2, q, 1)] = true)
    (h : DataW.trod enc P W base spare held fuel t [.slice a len cap] = some x) : ∃ (ys : List CueD) (xs : List CueC), Tv W.heap.size W a len cap ys xs ∧ xs.length ≤ 9223372036854775807 ∧ ∀ i, i < xs.length → (xs[i]!).2.1.length ≤ 9223372036854775807 ∧ (xs[i]!).2.2.length ≤ 9223372036854775807 := by
  obtain ⟨h1, h2, h3, h4, h5, h6⟩ := hk
  obtain ⟨ys, g1, g2, g3⟩ := open_tab (δ := CueD) h1 h2 rfl (fun cs n x hx => by
    obtain ⟨hl, n', hf⟩ := dec_rec h6 h2 hx
    obtain ⟨_, y0⟩ := hf 0 _ _ _ rfl
    obtain ⟨_, y1⟩ := hf 1 _ _ _ rfl
    obtain ⟨_, y2⟩ := hf 2 _ _ _ rfl
    obtain ⟨p, e4⟩ := dec_int h3 y0
    obtain ⟨y, e1, e2, e3⟩ := dec_row h5 h3 h4 y1
    obtain ⟨z, f1, f2, f3⟩ := dec_row h5 h3 h4 y2
    match cs, hl with
    | [c0, c1, c2], _ =>
      simp at e1 e4 f1
      subst e1 e4 f1
      refine ⟨(p, y, z), rfl, fun j hj => ?_⟩
      match j, hj with
      | 0, _ => exact ⟨e2, e3⟩
      | 1, _ => exact ⟨f2, f3⟩) h
  refine ⟨ys, ers ys, g1, by simpa using g2, fun i hi => ?_⟩
  have hi' : i < ys.length := by simpa using hi
  rw [er_get hi']; exact ⟨g3 i 0 hi' (by decide), g3 i 1 hi' (by decide)⟩
end
end Go.Proofs.Ytddjkiefadiijaa
