/- Tables of tables: a slice whose elements are tables. No statement of the claim stands here. -/
import Derived.Test.YtddjkiefadiijaaSop
namespace Go.Proofs.Ytddjkiefadiijaa
open Go Go.RowKit
abbrev fl (zs : List (Hd (Hd Int))) : List (Hd Int) := zs.flatMap (fun z => z.2.2)
abbrev erss (zs : List (Hd (Hd Int))) : List (List (List Int)) := zs.map (fun z => ers z.2.2)
/-- a slice of tables that reads as a list of tables -/
structure Tt (hi : Nat) (w : World) (a : Option Addr) (n c : Nat) (zs : List (Hd (Hd Int))) (u3 : List (List (List Int))) : Prop where
  o : Vw hi w a n c zs
  r : ∀ i, i < zs.length → Tv hi w zs[i]!.1 zs[i]!.2.2.length zs[i]!.2.1 zs[i]!.2.2 (ers zs[i]!.2.2)
  e : erss zs = u3
section
variable {hi B n c : Nat} {w w' : World} {a : Option Addr} {zs : List (Hd (Hd Int))} {u3 : List (List (List Int))} {E E1 E2 E3 : TypeId} {L : List Ob}
theorem Tt.len (h : Tt hi w a n c zs u3) : n = u3.length := by rw [h.o.len, ← h.e]; simp
theorem Tt.g (h : Tt hi w a n c zs u3) {i : Int} (hg : ix i u3.length) : ix i zs.length := by rw [← h.o.len, h.len]; exact hg
theorem Tt.row (h : Tt hi w a n c zs u3) {i : Int} (hg : ix i u3.length) :
    Tv hi w (zs[i.toNat]!).1 (zs[i.toNat]!).2.2.length (zs[i.toNat]!).2.1 (zs[i.toNat]!).2.2 u3[i.toNat]! := by
  have hlt : i.toNat < zs.length := by have := (h.g hg).1; have := (h.g hg).2; omega
  have : u3[i.toNat]! = ers zs[i.toNat]!.2.2 := by rw [← h.e]; simp [hlt]
  rw [this]; exact h.r _ hlt
theorem oT.t3 (h : (oS E3 a n c zs).ok w) (h2 : (oT E2 zs).ok w) (h1 : (oT E1 (fl zs)).ok w) (he : erss zs = u3) : Tt w.heap.size w a n c zs u3 := by
  refine ⟨oS.vw h, fun i hi => ⟨oS.vw (E := E2) (h2.1 i 0 hi Nat.zero_lt_one id), fun k j hk hj => ?_, rfl⟩, he⟩
  have hm : zs[i]!.2.2[k]! ∈ fl zs := by
    refine List.mem_flatMap.2 ⟨zs[i]!, ?_, ?_⟩
    · rw [getElem!_pos zs i hi]; exact List.getElem_mem hi
    · rw [getElem!_pos _ k hk]; exact List.getElem_mem hk
  obtain ⟨q, hq, he'⟩ := List.getElem_of_mem hm
  have : (fl zs)[q]! = zs[i]!.2.2[k]! := by rw [getElem!_pos _ q hq]; exact he'
  rw [← this]
  exact oS.vw (E := E1) (h1.1 q j hq hj id)
theorem Sep.noFl (h : Sep w B L) : Sep w B (oT E (fl []) :: L) := h.noRows (δ := Hd Int)
theorem Sep.oneFl {ys : List (Hd Int)} (a : Option Addr) (c : Nat) (h : Sep w B (oT E ys :: L)) : Sep w B (oT E (fl [((a, c, ys) : Hd (Hd Int))]) :: L) := by
  rw [show fl [((a, c, ys) : Hd (Hd Int))] = ys by simp]; exact h
theorem Sep.catFl {z2 : List (Hd (Hd Int))} (h : Sep w B (oT E (fl z2) :: oT E (fl zs) :: L)) : Sep w B (oT E (fl (zs ++ z2)) :: L) := by
  rw [show fl (zs ++ z2) = fl zs ++ fl z2 from List.flatMap_append]; exact h.catRows
theorem ersCat {z2 : List (Hd (Hd Int))} {t2 : List (List (List Int))} (h : erss zs = u3) (h2 : erss z2 = t2) : erss (zs ++ z2) = u3 ++ t2 := by rw [← h, ← h2]; exact List.map_append
theorem ersOne {ys : List (Hd Int)} {t : List (List Int)} (a : Option Addr) (c : Nat) (h : ers ys = t) : erss [((a, c, ys) : Hd (Hd Int))] = [t] := by rw [← h]; rfl
theorem Sep.call4 {o o' o2 o3 : Ob} (h : Sep w B L) (hE : Ext w w') (hN : Sep w' w.heap.size [o, o', o2, o3]) : Sep w' B (o :: o' :: o2 :: o3 :: L) := Sep.call (N := [o, o', o2, o3]) h hE hN
theorem Sep.call5 {o o' o2 o3 o4 : Ob} (h : Sep w B L) (hE : Ext w w') (hN : Sep w' w.heap.size [o, o', o2, o3, o4]) : Sep w' B (o :: o' :: o2 :: o3 :: o4 :: L) := Sep.call (N := [o, o', o2, o3, o4]) h hE hN
end
theorem ret3 {P : Program} {n : Nat} {e : Env} {w : World} {fn : Func} {R : Value → World → Prop} {t u v : Nat} (hr : fn.results = #[.tmp t, .tmp u, .tmp v]) (ht : t < n) (hu : u < n) (hv : v < n) (h : R (.tuple #[e t, e u, e v]) w) : retQ P fn n R .ret e w :=
  ret_run (v := .tuple #[e t, e u, e v]) (by simp [results, hr, act, Array.getD, ht, hu, hv]) h
end Go.Proofs.Ytddjkiefadiijaa
