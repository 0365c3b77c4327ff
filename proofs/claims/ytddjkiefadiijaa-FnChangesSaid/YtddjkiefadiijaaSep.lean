/- Memory as a list of objects, each with blocks of its own; and what the operations do to it. No statement of the claim stands here. -/
import Derived.Test.YtddjkiefadiijaaRecs
import Derived.Test.YtddjkiefadiijaaPure
namespace Go.Proofs.Ytddjkiefadiijaa
open Go Go.RowKit

structure Ob where
  fp : Nat → Prop
  ok : World → Prop
  lt : ∀ {w : World}, ok w → ∀ k, fp k → k < w.heap.size
  loc : ∀ {w w' : World}, ok w → (∀ k, fp k → w'.heap[k]? = w.heap[k]?) → ok w'
def fps : List Ob → Nat → Prop
  | [], _ => False
  | o :: L, k => o.fp k ∨ fps L k
def SepL (w : World) (B : Nat) : List Ob → Prop
  | [] => B ≤ w.heap.size
  | o :: L => o.ok w ∧ (∀ k, o.fp k → B ≤ k ∧ ¬ fps L k) ∧ SepL w B L
structure Sep (w : World) (B : Nat) (L : List Ob) : Prop where
  h : SepL w B L
section
variable {w w' : World} {B : Nat} {L : List Ob} {o o' a b c d e f g i : Ob}
theorem SepL.base : ∀ {L : List Ob}, SepL w B L → B ≤ w.heap.size
  | [], h => h
  | _ :: _, h => SepL.base h.2.2
theorem SepL.lt : ∀ {L : List Ob}, SepL w B L → ∀ k, fps L k → B ≤ k ∧ k < w.heap.size
  | [], _, _, hk => hk.elim
  | o :: L, h, k, hk => by
    rcases hk with hk | hk
    · exact ⟨(h.2.1 k hk).1, o.lt h.1 k hk⟩
    · exact SepL.lt h.2.2 k hk
theorem SepL.keep : ∀ {L : List Ob}, SepL w B L → (∀ k, fps L k → w'.heap[k]? = w.heap[k]?) → w.heap.size ≤ w'.heap.size → SepL w' B L
  | [], h, _, hs => Nat.le_trans h hs
  | o :: L, h, hk, hs => ⟨o.loc h.1 fun k hf => hk k (.inl hf), h.2.1, SepL.keep h.2.2 (fun k hf => hk k (.inr hf)) hs⟩
theorem Sep.base (h : Sep w B L) : B ≤ w.heap.size := h.h.base
theorem Sep.ext (h : Sep w B L) (hE : Ext w w') : Sep w' B L := ⟨h.h.keep (fun k hk => hE.block k (h.h.lt k hk).2 (by simp)) hE.size⟩
theorem Sep.nil (h : B ≤ w.heap.size) : Sep w B [] := ⟨h⟩
theorem Sep.tail (h : Sep w B (o :: L)) : Sep w B L := ⟨h.h.2.2⟩
theorem Sep.g0 (h : Sep w B (a :: L)) : a.ok w := h.h.1
theorem Sep.g1 (h : Sep w B (a :: b :: L)) : b.ok w := h.h.2.2.1
theorem Sep.g2 (h : Sep w B (a :: b :: c :: L)) : c.ok w := h.h.2.2.2.2.1
theorem Sep.g3 (h : Sep w B (a :: b :: c :: d :: L)) : d.ok w := h.h.2.2.2.2.2.2.1
theorem Sep.g4 (h : Sep w B (a :: b :: c :: d :: e :: L)) : e.ok w := h.h.2.2.2.2.2.2.2.2.1
theorem Sep.g5 (h : Sep w B (a :: b :: c :: d :: e :: f :: L)) : f.ok w := h.tail.g4
theorem Sep.g6 (h : Sep w B (a :: b :: c :: d :: e :: f :: g :: L)) : g.ok w := h.tail.g5
theorem Sep.g7 (h : Sep w B (a :: b :: c :: d :: e :: f :: g :: i :: L)) : i.ok w := h.tail.g6
theorem Sep.g8 {z : Ob} (h : Sep w B (z :: a :: b :: c :: d :: e :: f :: g :: i :: L)) : i.ok w := h.tail.g7
theorem Sep.g9 {z z2 : Ob} (h : Sep w B (z2 :: z :: a :: b :: c :: d :: e :: f :: g :: i :: L)) : i.ok w := h.tail.g8
theorem Sep.g10 {z z2 z3 : Ob} (h : Sep w B (z3 :: z2 :: z :: a :: b :: c :: d :: e :: f :: g :: i :: L)) : i.ok w := h.tail.g9
theorem Sep.g11 {z z2 z3 z4 : Ob} (h : Sep w B (z4 :: z3 :: z2 :: z :: a :: b :: c :: d :: e :: f :: g :: i :: L)) : i.ok w := h.tail.g10
theorem Sep.g12 {z z2 z3 z4 z5 : Ob} (h : Sep w B (z5 :: z4 :: z3 :: z2 :: z :: a :: b :: c :: d :: e :: f :: g :: i :: L)) : i.ok w := h.tail.g11
theorem Sep.g13 {y0 y1 y2 y3 y4 y5 y6 y7 y8 y9 y10 y11 y12 y13 : Ob} (h : Sep w B (y0 :: y1 :: y2 :: y3 :: y4 :: y5 :: y6 :: y7 :: y8 :: y9 :: y10 :: y11 :: y12 :: y13 :: L)) : y13.ok w := h.tail.g12
theorem Sep.g14 {y0 y1 y2 y3 y4 y5 y6 y7 y8 y9 y10 y11 y12 y13 y14 : Ob} (h : Sep w B (y0 :: y1 :: y2 :: y3 :: y4 :: y5 :: y6 :: y7 :: y8 :: y9 :: y10 :: y11 :: y12 :: y13 :: y14 :: L)) : y14.ok w := h.tail.g13
theorem Sep.g15 {y0 y1 y2 y3 y4 y5 y6 y7 y8 y9 y10 y11 y12 y13 y14 y15 : Ob} (h : Sep w B (y0 :: y1 :: y2 :: y3 :: y4 :: y5 :: y6 :: y7 :: y8 :: y9 :: y10 :: y11 :: y12 :: y13 :: y14 :: y15 :: L)) : y15.ok w := h.tail.g14
theorem Sep.g16 {y0 y1 y2 y3 y4 y5 y6 y7 y8 y9 y10 y11 y12 y13 y14 y15 y16 : Ob} (h : Sep w B (y0 :: y1 :: y2 :: y3 :: y4 :: y5 :: y6 :: y7 :: y8 :: y9 :: y10 :: y11 :: y12 :: y13 :: y14 :: y15 :: y16 :: L)) : y16.ok w := h.tail.g15
theorem Sep.g17 {y0 y1 y2 y3 y4 y5 y6 y7 y8 y9 y10 y11 y12 y13 y14 y15 y16 y17 : Ob} (h : Sep w B (y0 :: y1 :: y2 :: y3 :: y4 :: y5 :: y6 :: y7 :: y8 :: y9 :: y10 :: y11 :: y12 :: y13 :: y14 :: y15 :: y16 :: y17 :: L)) : y17.ok w := h.tail.g16
theorem Sep.g18 {y0 y1 y2 y3 y4 y5 y6 y7 y8 y9 y10 y11 y12 y13 y14 y15 y16 y17 y18 : Ob} (h : Sep w B (y0 :: y1 :: y2 :: y3 :: y4 :: y5 :: y6 :: y7 :: y8 :: y9 :: y10 :: y11 :: y12 :: y13 :: y14 :: y15 :: y16 :: y17 :: y18 :: L)) : y18.ok w := h.tail.g17
theorem Sep.g19 {y0 y1 y2 y3 y4 y5 y6 y7 y8 y9 y10 y11 y12 y13 y14 y15 y16 y17 y18 y19 : Ob} (h : Sep w B (y0 :: y1 :: y2 :: y3 :: y4 :: y5 :: y6 :: y7 :: y8 :: y9 :: y10 :: y11 :: y12 :: y13 :: y14 :: y15 :: y16 :: y17 :: y18 :: y19 :: L)) : y19.ok w := h.tail.g18
theorem Sep.g20 {y0 y1 y2 y3 y4 y5 y6 y7 y8 y9 y10 y11 y12 y13 y14 y15 y16 y17 y18 y19 y20 : Ob} (h : Sep w B (y0 :: y1 :: y2 :: y3 :: y4 :: y5 :: y6 :: y7 :: y8 :: y9 :: y10 :: y11 :: y12 :: y13 :: y14 :: y15 :: y16 :: y17 :: y18 :: y19 :: y20 :: L)) : y20.ok w := h.tail.g19
theorem Sep.g21 {y0 y1 y2 y3 y4 y5 y6 y7 y8 y9 y10 y11 y12 y13 y14 y15 y16 y17 y18 y19 y20 y21 : Ob} (h : Sep w B (y0 :: y1 :: y2 :: y3 :: y4 :: y5 :: y6 :: y7 :: y8 :: y9 :: y10 :: y11 :: y12 :: y13 :: y14 :: y15 :: y16 :: y17 :: y18 :: y19 :: y20 :: y21 :: L)) : y21.ok w := h.tail.g20
theorem Sep.g22 {y0 y1 y2 y3 y4 y5 y6 y7 y8 y9 y10 y11 y12 y13 y14 y15 y16 y17 y18 y19 y20 y21 y22 : Ob} (h : Sep w B (y0 :: y1 :: y2 :: y3 :: y4 :: y5 :: y6 :: y7 :: y8 :: y9 :: y10 :: y11 :: y12 :: y13 :: y14 :: y15 :: y16 :: y17 :: y18 :: y19 :: y20 :: y21 :: y22 :: L)) : y22.ok w := h.tail.g21
theorem Sep.g23 {y0 y1 y2 y3 y4 y5 y6 y7 y8 y9 y10 y11 y12 y13 y14 y15 y16 y17 y18 y19 y20 y21 y22 y23 : Ob} (h : Sep w B (y0 :: y1 :: y2 :: y3 :: y4 :: y5 :: y6 :: y7 :: y8 :: y9 :: y10 :: y11 :: y12 :: y13 :: y14 :: y15 :: y16 :: y17 :: y18 :: y19 :: y20 :: y21 :: y22 :: y23 :: L)) : y23.ok w := h.tail.g22
theorem Sep.cons_iff : Sep w B (o :: L) ↔ o.ok w ∧ (∀ k, o.fp k → B ≤ k ∧ ¬ fps L k) ∧ Sep w B L := ⟨fun h => ⟨h.h.1, h.h.2.1, ⟨h.h.2.2⟩⟩, fun ⟨h1, h2, h3⟩ => ⟨h1, h2, h3.h⟩⟩
theorem Sep.f1 (h : Sep w B (a :: b :: L)) : Sep w B (b :: a :: L) := by
  obtain ⟨h1, h2, h3, h4, h5⟩ := h.h
  refine ⟨h3, fun k hk => ⟨(h4 k hk).1, ?_⟩, h1, fun k hk => ⟨(h2 k hk).1, fun hf => (h2 k hk).2 (.inr hf)⟩, h5⟩
  rintro (hf | hf)
  · exact (h2 k hf).2 (.inl hk)
  · exact (h4 k hk).2 hf
theorem Sep.under {L' : List Ob} (h : Sep w B (a :: L)) (hL : Sep w B L → Sep w B L') (hf : ∀ k, fps L' k → fps L k) : Sep w B (a :: L') :=
  ⟨h.h.1, fun k hk => ⟨(h.h.2.1 k hk).1, fun hx => (h.h.2.1 k hk).2 (hf k hx)⟩, (hL h.tail).h⟩
theorem fps_f1 {k : Nat} : fps (b :: a :: L) k → fps (a :: b :: L) k := by
  rintro (h | h | h)
  · exact .inr (.inl h)
  · exact .inl h
  · exact .inr (.inr h)
theorem Sep.f2 (h : Sep w B (a :: b :: c :: L)) : Sep w B (c :: a :: b :: L) := Sep.f1 (h.under Sep.f1 fun _ => fps_f1)
theorem fps_f2 {k : Nat} (h : fps (c :: a :: b :: L) k) : fps (a :: b :: c :: L) k := by simp only [fps] at h ⊢; grind
theorem Sep.f3 (h : Sep w B (a :: b :: c :: d :: L)) : Sep w B (d :: a :: b :: c :: L) := Sep.f1 (h.under Sep.f2 fun _ => fps_f2)
theorem fps_f3 {k : Nat} (h : fps (d :: a :: b :: c :: L) k) : fps (a :: b :: c :: d :: L) k := by simp only [fps] at h ⊢; grind
theorem Sep.f4 (h : Sep w B (a :: b :: c :: d :: e :: L)) : Sep w B (e :: a :: b :: c :: d :: L) := Sep.f1 (h.under Sep.f3 fun _ => fps_f3)
theorem fps_f4 {k : Nat} (h : fps (e :: a :: b :: c :: d :: L) k) : fps (a :: b :: c :: d :: e :: L) k := by simp only [fps] at h ⊢; grind
theorem Sep.f5 (h : Sep w B (a :: b :: c :: d :: e :: f :: L)) : Sep w B (f :: a :: b :: c :: d :: e :: L) := Sep.f1 (h.under Sep.f4 fun _ => fps_f4)
theorem fps_f5 {k : Nat} (h : fps (f :: a :: b :: c :: d :: e :: L) k) : fps (a :: b :: c :: d :: e :: f :: L) k := by simp only [fps] at h ⊢; grind
theorem Sep.f6 (h : Sep w B (a :: b :: c :: d :: e :: f :: g :: L)) : Sep w B (g :: a :: b :: c :: d :: e :: f :: L) := Sep.f1 (h.under Sep.f5 fun _ => fps_f5)
theorem fps_f6 {k : Nat} (h : fps (g :: a :: b :: c :: d :: e :: f :: L) k) : fps (a :: b :: c :: d :: e :: f :: g :: L) k := by simp only [fps] at h ⊢; grind
theorem Sep.f7 (h : Sep w B (a :: b :: c :: d :: e :: f :: g :: i :: L)) : Sep w B (i :: a :: b :: c :: d :: e :: f :: g :: L) := Sep.f1 (h.under Sep.f6 fun _ => fps_f6)
theorem fps_f7 {k : Nat} {y0 y1 y2 y3 y4 y5 y6 y7 : Ob} (h : fps (y7 :: y0 :: y1 :: y2 :: y3 :: y4 :: y5 :: y6 :: L) k) : fps (y0 :: y1 :: y2 :: y3 :: y4 :: y5 :: y6 :: y7 :: L) k := by simp only [fps] at h ⊢; grind
theorem Sep.f8 {y0 y1 y2 y3 y4 y5 y6 y7 y8 : Ob} (h : Sep w B (y0 :: y1 :: y2 :: y3 :: y4 :: y5 :: y6 :: y7 :: y8 :: L)) : Sep w B (y8 :: y0 :: y1 :: y2 :: y3 :: y4 :: y5 :: y6 :: y7 :: L) := Sep.f1 (h.under Sep.f7 fun _ => fps_f7)
theorem fps_f8 {k : Nat} {y0 y1 y2 y3 y4 y5 y6 y7 y8 : Ob} (h : fps (y8 :: y0 :: y1 :: y2 :: y3 :: y4 :: y5 :: y6 :: y7 :: L) k) : fps (y0 :: y1 :: y2 :: y3 :: y4 :: y5 :: y6 :: y7 :: y8 :: L) k := by simp only [fps] at h ⊢; grind
theorem Sep.f9 {y0 y1 y2 y3 y4 y5 y6 y7 y8 y9 : Ob} (h : Sep w B (y0 :: y1 :: y2 :: y3 :: y4 :: y5 :: y6 :: y7 :: y8 :: y9 :: L)) : Sep w B (y9 :: y0 :: y1 :: y2 :: y3 :: y4 :: y5 :: y6 :: y7 :: y8 :: L) := Sep.f1 (h.under Sep.f8 fun _ => fps_f8)
theorem fps_f9 {k : Nat} {y0 y1 y2 y3 y4 y5 y6 y7 y8 y9 : Ob} (h : fps (y9 :: y0 :: y1 :: y2 :: y3 :: y4 :: y5 :: y6 :: y7 :: y8 :: L) k) : fps (y0 :: y1 :: y2 :: y3 :: y4 :: y5 :: y6 :: y7 :: y8 :: y9 :: L) k := by simp only [fps] at h ⊢; grind
theorem Sep.f10 {y0 y1 y2 y3 y4 y5 y6 y7 y8 y9 y10 : Ob} (h : Sep w B (y0 :: y1 :: y2 :: y3 :: y4 :: y5 :: y6 :: y7 :: y8 :: y9 :: y10 :: L)) : Sep w B (y10 :: y0 :: y1 :: y2 :: y3 :: y4 :: y5 :: y6 :: y7 :: y8 :: y9 :: L) := Sep.f1 (h.under Sep.f9 fun _ => fps_f9)
theorem fps_f10 {k : Nat} {y0 y1 y2 y3 y4 y5 y6 y7 y8 y9 y10 : Ob} (h : fps (y10 :: y0 :: y1 :: y2 :: y3 :: y4 :: y5 :: y6 :: y7 :: y8 :: y9 :: L) k) : fps (y0 :: y1 :: y2 :: y3 :: y4 :: y5 :: y6 :: y7 :: y8 :: y9 :: y10 :: L) k := by simp only [fps] at h ⊢; grind
theorem Sep.f11 {y0 y1 y2 y3 y4 y5 y6 y7 y8 y9 y10 y11 : Ob} (h : Sep w B (y0 :: y1 :: y2 :: y3 :: y4 :: y5 :: y6 :: y7 :: y8 :: y9 :: y10 :: y11 :: L)) : Sep w B (y11 :: y0 :: y1 :: y2 :: y3 :: y4 :: y5 :: y6 :: y7 :: y8 :: y9 :: y10 :: L) := Sep.f1 (h.under Sep.f10 fun _ => fps_f10)
theorem fps_f11 {k : Nat} {y0 y1 y2 y3 y4 y5 y6 y7 y8 y9 y10 y11 : Ob} (h : fps (y11 :: y0 :: y1 :: y2 :: y3 :: y4 :: y5 :: y6 :: y7 :: y8 :: y9 :: y10 :: L) k) : fps (y0 :: y1 :: y2 :: y3 :: y4 :: y5 :: y6 :: y7 :: y8 :: y9 :: y10 :: y11 :: L) k := by simp only [fps] at h ⊢; grind
theorem Sep.f12 {y0 y1 y2 y3 y4 y5 y6 y7 y8 y9 y10 y11 y12 : Ob} (h : Sep w B (y0 :: y1 :: y2 :: y3 :: y4 :: y5 :: y6 :: y7 :: y8 :: y9 :: y10 :: y11 :: y12 :: L)) : Sep w B (y12 :: y0 :: y1 :: y2 :: y3 :: y4 :: y5 :: y6 :: y7 :: y8 :: y9 :: y10 :: y11 :: L) := Sep.f1 (h.under Sep.f11 fun _ => fps_f11)
theorem fps_f12 {k : Nat} {y0 y1 y2 y3 y4 y5 y6 y7 y8 y9 y10 y11 y12 : Ob} (h : fps (y12 :: y0 :: y1 :: y2 :: y3 :: y4 :: y5 :: y6 :: y7 :: y8 :: y9 :: y10 :: y11 :: L) k) : fps (y0 :: y1 :: y2 :: y3 :: y4 :: y5 :: y6 :: y7 :: y8 :: y9 :: y10 :: y11 :: y12 :: L) k := by simp only [fps] at h ⊢; grind
theorem Sep.f13 {y0 y1 y2 y3 y4 y5 y6 y7 y8 y9 y10 y11 y12 y13 : Ob} (h : Sep w B (y0 :: y1 :: y2 :: y3 :: y4 :: y5 :: y6 :: y7 :: y8 :: y9 :: y10 :: y11 :: y12 :: y13 :: L)) : Sep w B (y13 :: y0 :: y1 :: y2 :: y3 :: y4 :: y5 :: y6 :: y7 :: y8 :: y9 :: y10 :: y11 :: y12 :: L) := Sep.f1 (h.under Sep.f12 fun _ => fps_f12)
theorem fps_f13 {k : Nat} {y0 y1 y2 y3 y4 y5 y6 y7 y8 y9 y10 y11 y12 y13 : Ob} (h : fps (y13 :: y0 :: y1 :: y2 :: y3 :: y4 :: y5 :: y6 :: y7 :: y8 :: y9 :: y10 :: y11 :: y12 :: L) k) : fps (y0 :: y1 :: y2 :: y3 :: y4 :: y5 :: y6 :: y7 :: y8 :: y9 :: y10 :: y11 :: y12 :: y13 :: L) k := by simp only [fps] at h ⊢; grind
theorem Sep.f14 {y0 y1 y2 y3 y4 y5 y6 y7 y8 y9 y10 y11 y12 y13 y14 : Ob} (h : Sep w B (y0 :: y1 :: y2 :: y3 :: y4 :: y5 :: y6 :: y7 :: y8 :: y9 :: y10 :: y11 :: y12 :: y13 :: y14 :: L)) : Sep w B (y14 :: y0 :: y1 :: y2 :: y3 :: y4 :: y5 :: y6 :: y7 :: y8 :: y9 :: y10 :: y11 :: y12 :: y13 :: L) := Sep.f1 (h.under Sep.f13 fun _ => fps_f13)
theorem fps_f14 {k : Nat} {y0 y1 y2 y3 y4 y5 y6 y7 y8 y9 y10 y11 y12 y13 y14 : Ob} (h : fps (y14 :: y0 :: y1 :: y2 :: y3 :: y4 :: y5 :: y6 :: y7 :: y8 :: y9 :: y10 :: y11 :: y12 :: y13 :: L) k) : fps (y0 :: y1 :: y2 :: y3 :: y4 :: y5 :: y6 :: y7 :: y8 :: y9 :: y10 :: y11 :: y12 :: y13 :: y14 :: L) k := by simp only [fps] at h ⊢; grind
theorem Sep.f15 {y0 y1 y2 y3 y4 y5 y6 y7 y8 y9 y10 y11 y12 y13 y14 y15 : Ob} (h : Sep w B (y0 :: y1 :: y2 :: y3 :: y4 :: y5 :: y6 :: y7 :: y8 :: y9 :: y10 :: y11 :: y12 :: y13 :: y14 :: y15 :: L)) : Sep w B (y15 :: y0 :: y1 :: y2 :: y3 :: y4 :: y5 :: y6 :: y7 :: y8 :: y9 :: y10 :: y11 :: y12 :: y13 :: y14 :: L) := Sep.f1 (h.under Sep.f14 fun _ => fps_f14)
theorem fps_f15 {k : Nat} {y0 y1 y2 y3 y4 y5 y6 y7 y8 y9 y10 y11 y12 y13 y14 y15 : Ob} (h : fps (y15 :: y0 :: y1 :: y2 :: y3 :: y4 :: y5 :: y6 :: y7 :: y8 :: y9 :: y10 :: y11 :: y12 :: y13 :: y14 :: L) k) : fps (y0 :: y1 :: y2 :: y3 :: y4 :: y5 :: y6 :: y7 :: y8 :: y9 :: y10 :: y11 :: y12 :: y13 :: y14 :: y15 :: L) k := by simp only [fps] at h ⊢; grind
theorem Sep.f16 {y0 y1 y2 y3 y4 y5 y6 y7 y8 y9 y10 y11 y12 y13 y14 y15 y16 : Ob} (h : Sep w B (y0 :: y1 :: y2 :: y3 :: y4 :: y5 :: y6 :: y7 :: y8 :: y9 :: y10 :: y11 :: y12 :: y13 :: y14 :: y15 :: y16 :: L)) : Sep w B (y16 :: y0 :: y1 :: y2 :: y3 :: y4 :: y5 :: y6 :: y7 :: y8 :: y9 :: y10 :: y11 :: y12 :: y13 :: y14 :: y15 :: L) := Sep.f1 (h.under Sep.f15 fun _ => fps_f15)
theorem fps_f16 {k : Nat} {y0 y1 y2 y3 y4 y5 y6 y7 y8 y9 y10 y11 y12 y13 y14 y15 y16 : Ob} (h : fps (y16 :: y0 :: y1 :: y2 :: y3 :: y4 :: y5 :: y6 :: y7 :: y8 :: y9 :: y10 :: y11 :: y12 :: y13 :: y14 :: y15 :: L) k) : fps (y0 :: y1 :: y2 :: y3 :: y4 :: y5 :: y6 :: y7 :: y8 :: y9 :: y10 :: y11 :: y12 :: y13 :: y14 :: y15 :: y16 :: L) k := by simp only [fps] at h ⊢; grind
theorem Sep.f17 {y0 y1 y2 y3 y4 y5 y6 y7 y8 y9 y10 y11 y12 y13 y14 y15 y16 y17 : Ob} (h : Sep w B (y0 :: y1 :: y2 :: y3 :: y4 :: y5 :: y6 :: y7 :: y8 :: y9 :: y10 :: y11 :: y12 :: y13 :: y14 :: y15 :: y16 :: y17 :: L)) : Sep w B (y17 :: y0 :: y1 :: y2 :: y3 :: y4 :: y5 :: y6 :: y7 :: y8 :: y9 :: y10 :: y11 :: y12 :: y13 :: y14 :: y15 :: y16 :: L) := Sep.f1 (h.under Sep.f16 fun _ => fps_f16)
theorem fps_f17 {k : Nat} {y0 y1 y2 y3 y4 y5 y6 y7 y8 y9 y10 y11 y12 y13 y14 y15 y16 y17 : Ob} (h : fps (y17 :: y0 :: y1 :: y2 :: y3 :: y4 :: y5 :: y6 :: y7 :: y8 :: y9 :: y10 :: y11 :: y12 :: y13 :: y14 :: y15 :: y16 :: L) k) : fps (y0 :: y1 :: y2 :: y3 :: y4 :: y5 :: y6 :: y7 :: y8 :: y9 :: y10 :: y11 :: y12 :: y13 :: y14 :: y15 :: y16 :: y17 :: L) k := by simp only [fps] at h ⊢; grind
theorem Sep.f18 {y0 y1 y2 y3 y4 y5 y6 y7 y8 y9 y10 y11 y12 y13 y14 y15 y16 y17 y18 : Ob} (h : Sep w B (y0 :: y1 :: y2 :: y3 :: y4 :: y5 :: y6 :: y7 :: y8 :: y9 :: y10 :: y11 :: y12 :: y13 :: y14 :: y15 :: y16 :: y17 :: y18 :: L)) : Sep w B (y18 :: y0 :: y1 :: y2 :: y3 :: y4 :: y5 :: y6 :: y7 :: y8 :: y9 :: y10 :: y11 :: y12 :: y13 :: y14 :: y15 :: y16 :: y17 :: L) := Sep.f1 (h.under Sep.f17 fun _ => fps_f17)
theorem fps_f18 {k : Nat} {y0 y1 y2 y3 y4 y5 y6 y7 y8 y9 y10 y11 y12 y13 y14 y15 y16 y17 y18 : Ob} (h : fps (y18 :: y0 :: y1 :: y2 :: y3 :: y4 :: y5 :: y6 :: y7 :: y8 :: y9 :: y10 :: y11 :: y12 :: y13 :: y14 :: y15 :: y16 :: y17 :: L) k) : fps (y0 :: y1 :: y2 :: y3 :: y4 :: y5 :: y6 :: y7 :: y8 :: y9 :: y10 :: y11 :: y12 :: y13 :: y14 :: y15 :: y16 :: y17 :: y18 :: L) k := by simp only [fps] at h ⊢; grind
theorem Sep.f19 {y0 y1 y2 y3 y4 y5 y6 y7 y8 y9 y10 y11 y12 y13 y14 y15 y16 y17 y18 y19 : Ob} (h : Sep w B (y0 :: y1 :: y2 :: y3 :: y4 :: y5 :: y6 :: y7 :: y8 :: y9 :: y10 :: y11 :: y12 :: y13 :: y14 :: y15 :: y16 :: y17 :: y18 :: y19 :: L)) : Sep w B (y19 :: y0 :: y1 :: y2 :: y3 :: y4 :: y5 :: y6 :: y7 :: y8 :: y9 :: y10 :: y11 :: y12 :: y13 :: y14 :: y15 :: y16 :: y17 :: y18 :: L) := Sep.f1 (h.under Sep.f18 fun _ => fps_f18)
theorem fps_f19 {k : Nat} {y0 y1 y2 y3 y4 y5 y6 y7 y8 y9 y10 y11 y12 y13 y14 y15 y16 y17 y18 y19 : Ob} (h : fps (y19 :: y0 :: y1 :: y2 :: y3 :: y4 :: y5 :: y6 :: y7 :: y8 :: y9 :: y10 :: y11 :: y12 :: y13 :: y14 :: y15 :: y16 :: y17 :: y18 :: L) k) : fps (y0 :: y1 :: y2 :: y3 :: y4 :: y5 :: y6 :: y7 :: y8 :: y9 :: y10 :: y11 :: y12 :: y13 :: y14 :: y15 :: y16 :: y17 :: y18 :: y19 :: L) k := by simp only [fps] at h ⊢; grind
theorem Sep.f20 {y0 y1 y2 y3 y4 y5 y6 y7 y8 y9 y10 y11 y12 y13 y14 y15 y16 y17 y18 y19 y20 : Ob} (h : Sep w B (y0 :: y1 :: y2 :: y3 :: y4 :: y5 :: y6 :: y7 :: y8 :: y9 :: y10 :: y11 :: y12 :: y13 :: y14 :: y15 :: y16 :: y17 :: y18 :: y19 :: y20 :: L)) : Sep w B (y20 :: y0 :: y1 :: y2 :: y3 :: y4 :: y5 :: y6 :: y7 :: y8 :: y9 :: y10 :: y11 :: y12 :: y13 :: y14 :: y15 :: y16 :: y17 :: y18 :: y19 :: L) := Sep.f1 (h.under Sep.f19 fun _ => fps_f19)
theorem fps_f20 {k : Nat} {y0 y1 y2 y3 y4 y5 y6 y7 y8 y9 y10 y11 y12 y13 y14 y15 y16 y17 y18 y19 y20 : Ob} (h : fps (y20 :: y0 :: y1 :: y2 :: y3 :: y4 :: y5 :: y6 :: y7 :: y8 :: y9 :: y10 :: y11 :: y12 :: y13 :: y14 :: y15 :: y16 :: y17 :: y18 :: y19 :: L) k) : fps (y0 :: y1 :: y2 :: y3 :: y4 :: y5 :: y6 :: y7 :: y8 :: y9 :: y10 :: y11 :: y12 :: y13 :: y14 :: y15 :: y16 :: y17 :: y18 :: y19 :: y20 :: L) k := by simp only [fps] at h ⊢; grind
theorem Sep.f21 {y0 y1 y2 y3 y4 y5 y6 y7 y8 y9 y10 y11 y12 y13 y14 y15 y16 y17 y18 y19 y20 y21 : Ob} (h : Sep w B (y0 :: y1 :: y2 :: y3 :: y4 :: y5 :: y6 :: y7 :: y8 :: y9 :: y10 :: y11 :: y12 :: y13 :: y14 :: y15 :: y16 :: y17 :: y18 :: y19 :: y20 :: y21 :: L)) : Sep w B (y21 :: y0 :: y1 :: y2 :: y3 :: y4 :: y5 :: y6 :: y7 :: y8 :: y9 :: y10 :: y11 :: y12 :: y13 :: y14 :: y15 :: y16 :: y17 :: y18 :: y19 :: y20 :: L) := Sep.f1 (h.under Sep.f20 fun _ => fps_f20)
theorem fps_f21 {k : Nat} {y0 y1 y2 y3 y4 y5 y6 y7 y8 y9 y10 y11 y12 y13 y14 y15 y16 y17 y18 y19 y20 y21 : Ob} (h : fps (y21 :: y0 :: y1 :: y2 :: y3 :: y4 :: y5 :: y6 :: y7 :: y8 :: y9 :: y10 :: y11 :: y12 :: y13 :: y14 :: y15 :: y16 :: y17 :: y18 :: y19 :: y20 :: L) k) : fps (y0 :: y1 :: y2 :: y3 :: y4 :: y5 :: y6 :: y7 :: y8 :: y9 :: y10 :: y11 :: y12 :: y13 :: y14 :: y15 :: y16 :: y17 :: y18 :: y19 :: y20 :: y21 :: L) k := by simp only [fps] at h ⊢; grind
theorem Sep.f22 {y0 y1 y2 y3 y4 y5 y6 y7 y8 y9 y10 y11 y12 y13 y14 y15 y16 y17 y18 y19 y20 y21 y22 : Ob} (h : Sep w B (y0 :: y1 :: y2 :: y3 :: y4 :: y5 :: y6 :: y7 :: y8 :: y9 :: y10 :: y11 :: y12 :: y13 :: y14 :: y15 :: y16 :: y17 :: y18 :: y19 :: y20 :: y21 :: y22 :: L)) : Sep w B (y22 :: y0 :: y1 :: y2 :: y3 :: y4 :: y5 :: y6 :: y7 :: y8 :: y9 :: y10 :: y11 :: y12 :: y13 :: y14 :: y15 :: y16 :: y17 :: y18 :: y19 :: y20 :: y21 :: L) := Sep.f1 (h.under Sep.f21 fun _ => fps_f21)
theorem fps_f22 {k : Nat} {y0 y1 y2 y3 y4 y5 y6 y7 y8 y9 y10 y11 y12 y13 y14 y15 y16 y17 y18 y19 y20 y21 y22 : Ob} (h : fps (y22 :: y0 :: y1 :: y2 :: y3 :: y4 :: y5 :: y6 :: y7 :: y8 :: y9 :: y10 :: y11 :: y12 :: y13 :: y14 :: y15 :: y16 :: y17 :: y18 :: y19 :: y20 :: y21 :: L) k) : fps (y0 :: y1 :: y2 :: y3 :: y4 :: y5 :: y6 :: y7 :: y8 :: y9 :: y10 :: y11 :: y12 :: y13 :: y14 :: y15 :: y16 :: y17 :: y18 :: y19 :: y20 :: y21 :: y22 :: L) k := by simp only [fps] at h ⊢; grind
theorem Sep.f23 {y0 y1 y2 y3 y4 y5 y6 y7 y8 y9 y10 y11 y12 y13 y14 y15 y16 y17 y18 y19 y20 y21 y22 y23 : Ob} (h : Sep w B (y0 :: y1 :: y2 :: y3 :: y4 :: y5 :: y6 :: y7 :: y8 :: y9 :: y10 :: y11 :: y12 :: y13 :: y14 :: y15 :: y16 :: y17 :: y18 :: y19 :: y20 :: y21 :: y22 :: y23 :: L)) : Sep w B (y23 :: y0 :: y1 :: y2 :: y3 :: y4 :: y5 :: y6 :: y7 :: y8 :: y9 :: y10 :: y11 :: y12 :: y13 :: y14 :: y15 :: y16 :: y17 :: y18 :: y19 :: y20 :: y21 :: y22 :: L) := Sep.f1 (h.under Sep.f22 fun _ => fps_f22)
theorem Sep.push (h : Sep w B L) (hE : Ext w w') (ho : o.ok w') (hn : ∀ k, o.fp k → w.heap.size ≤ k) : Sep w' B (o :: L) :=
  ⟨ho, fun k hk => ⟨Nat.le_trans h.base (hn k hk), fun hf => by have := (h.h.lt k hf).2; have := hn k hk; omega⟩, (h.ext hE).h⟩
/-- the head changes: in its own blocks, or into new ones -/
theorem Sep.upd {row : Option Nat} (h : Sep w B (o :: L)) (hg : Chg w w' row) (hr : ∀ k, row = some k → o.fp k) (ho : o'.ok w') (hf : ∀ k, o'.fp k → o.fp k ∨ w.heap.size ≤ k) : Sep w' B (o' :: L) := by
  refine ⟨ho, fun k hk => ?_, h.tail.h.keep (fun k hk => hg.block k (h.tail.h.lt k hk).2 fun e => ?_) hg.size⟩
  · rcases hf k hk with h1 | h1
    · exact h.h.2.1 k h1
    · exact ⟨Nat.le_trans h.base h1, fun hx => by have := (h.tail.h.lt k hx).2; omega⟩
  · exact (h.h.2.1 k (hr k e.symm)).2 hk
theorem Sep.stp {row : Option Nat} (h : Sep w B (o :: L)) (hg : Chg w w' row) (hr : ∀ k, row = some k → o.fp k) : Below B w w' :=
  (Below.refl B w).grown hg h.base fun k hk => (h.h.2.1 k (hr k hk)).1
theorem Ext.stp (h : Ext w w') (hB : B ≤ w.heap.size) : Below B w w' := (Below.refl B w).grown h hB (by simp)
/-- two objects seen as one, and back: no block changes -/
theorem Sep.join (h : Sep w B (a :: b :: L)) (ho : o.ok w) (hf : ∀ k, o.fp k → a.fp k ∨ b.fp k) : Sep w B (o :: L) := by
  obtain ⟨h1, h2, h3, h4, h5⟩ := h.h
  refine ⟨ho, fun k hk => ?_, h5⟩
  rcases hf k hk with hk | hk
  · exact ⟨(h2 k hk).1, fun hf => (h2 k hk).2 (.inr hf)⟩
  · exact h4 k hk
theorem Sep.split (h : Sep w B (o :: L)) (ha : a.ok w) (hb : b.ok w) (hf : ∀ k, a.fp k ∨ b.fp k → o.fp k) (hd : ∀ k, a.fp k → ¬ b.fp k) : Sep w B (a :: b :: L) := by
  obtain ⟨h1, h2, h3⟩ := h.h
  refine ⟨ha, fun k hk => ⟨(h2 k (hf k (.inl hk))).1, ?_⟩, hb, fun k hk => h2 k (hf k (.inr hk)), h3⟩
  rintro (hx | hx)
  · exact hd k hk hx
  · exact (h2 k (hf k (.inl hk))).2 hx
theorem Sep.repl (h : Sep w B (a :: L)) (ho : o.ok w) (hf : ∀ k, o.fp k → a.fp k) : Sep w B (o :: L) := ⟨ho, fun k hk => h.h.2.1 k (hf k hk), h.h.2.2⟩
/-- behind a call that made new objects only -/
theorem fps_append : ∀ {N : List Ob} {k : Nat}, fps (N ++ L) k ↔ fps N k ∨ fps L k
  | [], k => by simp [fps]
  | o :: N, k => by simp [fps, fps_append (N := N), or_assoc]
theorem Sep.app : ∀ {N : List Ob}, Sep w' w.heap.size N → Sep w' B L → (∀ k, fps L k → k < w.heap.size) → B ≤ w.heap.size → Sep w' B (N ++ L)
  | [], _, h, _, _ => h
  | o :: N, hN, h, hl, hB => by
    refine ⟨hN.h.1, fun k hk => ⟨Nat.le_trans hB (hN.h.2.1 k hk).1, fun hf => ?_⟩, (Sep.app hN.tail h hl hB).h⟩
    rcases fps_append.1 hf with hf | hf
    · exact (hN.h.2.1 k hk).2 hf
    · have := hl k hf; have := (hN.h.2.1 k hk).1; omega
theorem Sep.call {N : List Ob} (h : Sep w B L) (hE : Ext w w') (hN : Sep w' w.heap.size N) : Sep w' B (N ++ L) := Sep.app hN (h.ext hE) (fun k hk => (h.h.lt k hk).2) h.base
end

/- elements -/
class El (α : Type) where
  m : Nat
  enc : α → List Value
  len : ∀ x, (enc x).length = m
  one : ∀ x, ∀ u ∈ enc x, u.oneCell' = true
  pos : 0 < m
abbrev Hd (α : Type) := Option Addr × Nat × List α
instance : El Int := ⟨1, fun x => [.int .i64 x], fun _ => rfl, by intro x u hu; rw [List.mem_singleton.1 hu]; rfl, by decide⟩
instance : El Bool := ⟨1, fun x => [.bool x], fun _ => rfl, by intro x u hu; rw [List.mem_singleton.1 hu]; rfl, by decide⟩
instance instElStay : El Stay := ⟨3, stC, stC_len, stC_one, by decide⟩
instance instElCross : El Cross := ⟨2, crC, crC_len, crC_one, by decide⟩
def hdC {α : Type} (h : Hd α) : Value := .slice h.1 h.2.2.length h.2.1
instance {α : Type} : El (Hd α) := ⟨1, fun h => [hdC h], fun _ => rfl, by intro x u hu; rw [List.mem_singleton.1 hu]; rfl, by decide⟩
abbrev PlayerD := Hd Int × Int
abbrev CueD := Int × Hd Int × Hd Int
instance : El PlayerD := ⟨2, fun p => [hdC p.1, .int .i64 p.2], fun _ => rfl, by intro x u hu; simp only [List.mem_cons, List.not_mem_nil, or_false] at hu; rcases hu with rfl | rfl <;> rfl, by decide⟩
instance : El CueD := ⟨3, fun p => [.int .i64 p.1, hdC p.2.1, hdC p.2.2], fun _ => rfl, by intro x u hu; simp only [List.mem_cons, List.not_mem_nil, or_false] at hu; rcases hu with rfl | rfl | rfl <;> rfl, by decide⟩
abbrev encs {α : Type} [El α] (xs : List α) : List Value := xs.flatMap El.enc
theorem encs_len {α : Type} [El α] (xs : List α) : (encs xs).length = xs.length * El.m α := rec_length El.len xs
theorem encs_one {α : Type} [El α] (xs : List α) : ∀ u ∈ encs xs, u.oneCell' = true := by
  intro u hu
  obtain ⟨x, _, hx⟩ := List.mem_flatMap.1 hu
  exact El.one x u hx

/- objects: a slice's own row; a variable in memory -/
theorem Own.lt0 {w : World} {B E sz len cap : Nat} {a : Option Addr} {cs : List Value} (h : Own w B E sz a len cap cs) : ∀ k, blk a = some k → k < w.heap.size := fun k hk => (h.lt k hk).2
theorem Own.keep {w w' : World} {B E sz len cap : Nat} {a : Option Addr} {cs : List Value} (h : Own w B E sz a len cap cs) (hk : ∀ k, blk a = some k → w'.heap[k]? = w.heap[k]?) : Own w' B E sz a len cap cs := by
  obtain ⟨h1, h2⟩ := h
  refine ⟨h1, h2.imp id ?_⟩
  rintro ⟨g, c, cur, e, hb, hh, r⟩
  have hk' := hk g (by injection e with e1 e2 e3; subst e1; rfl)
  exact ⟨g, c, cur, e, hb, hk'.trans hh, r⟩
def oS {α : Type} [El α] (E : TypeId) (a : Option Addr) (n cap : Nat) (xs : List α) : Ob :=
  ⟨fun k => blk a = some k, fun w => Own w 0 E (El.m α) a n cap (encs xs), fun h => h.lt0, fun h hk => h.keep hk⟩
def oB (g : Nat) (t : TypeId) (cs : Array Value) : Ob := ⟨fun k => k = g, fun w => Blk w g t cs, fun h k hk => by subst hk; exact h.lt, fun h hk => (hk _ rfl).trans h⟩
/-- rows that stand in a table: of each element y the rows 'row y j', j < k -/
class Rw (δ : Type) (α : outParam Type) where
  k : Nat
  row : δ → Nat → Hd α
instance {α : Type} [El α] : Rw (Hd α) α := ⟨1, fun y _ => y⟩
instance : Rw PlayerD Int := ⟨1, fun y _ => y.1⟩
instance : Rw CueD Int := ⟨2, fun y j => if j = 0 then y.2.1 else y.2.2⟩
instance instInhHd {α : Type} : Inhabited (Hd α) := ⟨(none, 0, [])⟩
section
variable {δ α : Type} [El α] [Rw δ α] [Inhabited δ]
/-- the rows of a table, all but the places that X names -/
def oR (E : TypeId) (ys : List δ) (X : Nat → Nat → Prop) : Ob where
  fp k := ∃ i j, i < ys.length ∧ j < Rw.k δ ∧ ¬ X i j ∧ blk (Rw.row ys[i]! j).1 = some k
  ok w := (∀ i j, i < ys.length → j < Rw.k δ → ¬ X i j → Own w 0 E (El.m α) (Rw.row ys[i]! j).1 (Rw.row ys[i]! j).2.2.length (Rw.row ys[i]! j).2.1 (encs (Rw.row ys[i]! j).2.2)) ∧
    ∀ i j i' j' k, i < ys.length → j < Rw.k δ → ¬ X i j → i' < ys.length → j' < Rw.k δ → ¬ X i' j' → blk (Rw.row ys[i]! j).1 = some k → blk (Rw.row ys[i']! j').1 = some k → i = i' ∧ j = j'
  lt := fun h k ⟨i, j, hi, hj, hX, hk⟩ => (h.1 i j hi hj hX).lt0 k hk
  loc := fun h hk => ⟨fun i j hi hj hX => (h.1 i j hi hj hX).keep fun k hb => hk k ⟨i, j, hi, hj, hX, hb⟩, h.2⟩
abbrev noX : Nat → Nat → Prop := fun _ _ => False
abbrev oT (E : TypeId) (ys : List δ) : Ob := oR E ys noX
end
end Go.Proofs.Ytddjkiefadiijaa
