/- What the builtin copy does inside a row of numbers of the call's own. No statement of the claim stands here. -/
import Derived.Test.YtebfcpninegcgaaSop
import Derived.Test.YtebfcpninegcgaaPure
import Derived.Laws.CopyRow
import Derived.Laws.IdiomCopy
namespace Go.Proofs.Ytebfcpninegcgaa
open Go Go.RowKit

section
variable {P : Program} {n : Nat} {e : Env} {w : World} {d : Option Nat} {t ty ty2 E : TypeId} {p : String} {af : Array Edge} {gd : Option (Nat × Bool)} {by' : Nat} {z : Value} {a b : Option Addr} {B hi c m cy : Nat} {L : List Ob}
theorem own_spl {B g : Nat} {sz len cap k : Nat} {cs vs : List Value} {cur : Array Value} {w' : World} (hlen : cs.length = len * sz) (hb : B ≤ g) (hB : Blk w' g E (splL cur.toList k vs).toArray) (hc : len ≤ cap) (hm : cap ≤ maxLen) (hsz : cur.size = cap * sz) (ht : cur.toList.take (len * sz) = cs) (hk : k + vs.length ≤ cs.length) : Own w' B E sz (some ⟨g, 0, none⟩) len cap (splL cs k vs) := by
  have hcur : len * sz ≤ cur.size := by rw [hsz]; exact Nat.mul_le_mul_right _ hc
  refine ⟨?_, .inr ⟨g, cap, _, rfl, hb, hB, hc, hm, ?_, ?_⟩⟩
  · simp only [splL, List.length_append, List.length_take, List.length_drop]; omega
  · have : cur.toList.length = cur.size := by simp
    simp only [splL, List.size_toArray, List.length_append, List.length_take, List.length_drop]; omega
  · subst ht
    simp only [splL]
    apply List.ext_getElem?
    intro j
    have hj1 : cur.toList.length = cur.size := by simp
    by_cases hj : j < len * sz
    · simp only [List.getElem?_take, hj, if_true, List.getElem?_append, List.length_take, List.length_append, List.getElem?_drop]
      repeat' split
      all_goals first | (exfalso; omega) | rfl | (congr 1; omega)
    · rw [List.getElem?_eq_none (by simp; omega), List.getElem?_eq_none (by simp only [List.length_append, List.length_take, List.length_drop]; omega)]
theorem encs_int (xs : List Int) : encs xs = xs.map (Value.int .i64) := by
  induction xs with
  | nil => rfl
  | cons x xs ih => show Value.int .i64 x :: encs xs = _; rw [ih]; rfl
theorem q_copy {xs ys : List Int} {x y : Operand} {l : Nat} (hT : ElT P ty E (El.m Int) by' z) (hS : Sep w B (oS E a n c xs :: L)) (hl : l ≤ xs.length)
    (hx : ev e x = .slice (if c = l then a else a.map (·.add (l * El.m Int))) (n - l) (c - l)) (hy : ev e y = .slice b m cy) (hv : Vw hi w b m cy ys) :
    OpG P ⟨d, .call ⟨.builtin .copy, #[x, y], #[ty, ty2]⟩, t, p, af, gd⟩ e w (fun v' w' => v' = .int .i64 ((min ys.length (xs.length - l) : Nat) : Int) ∧ Sep w' B (oS E a n c (cpL xs l ys) :: L) ∧ Below B w w') := by
  have hn : n = xs.length := oS.len hS.g0
  have hm : m = ys.length := hv.len
  have hO : Own w 0 E (El.m Int) a n c (encs xs) := hS.g0
  have hsz : (P.info? E).map (·.size) = some 1 := by
    obtain ⟨i, hi, _, hs, _⟩ := hT.hi
    rw [hi]; exact congrArg some hs
  have run : ∀ v' w', (Builtin.copy_ #[ty, ty2] t #[.slice (if c = l then a else a.map (·.add (l * El.m Int))) (n - l) (c - l), .slice b m cy]).run P w = .ok v' w' → (execOp (ev e) ⟨d, .call ⟨.builtin .copy, #[x, y], #[ty, ty2]⟩, t, p, af, gd⟩).run P w = .ok (.value v') w' := by
    intro v' w' h
    simp [execOp, resolve, invoke, builtin, hx, hy, h, Result.andThen]
  by_cases h0 : Nat.min m (n - l) = 0
  · refine (g_run (run _ _ (run_copy_none (P := P) w ty ty2 t E _ b _ _ m cy hT.hu hsz h0))).mono ?_
    rintro v' w' ⟨rfl, rfl⟩
    have h0' : min ys.length (xs.length - l) = 0 := by rw [← hm, ← hn]; exact h0
    refine ⟨by rw [h0']; rfl, ?_, Below.refl _ _⟩
    have : cpL xs l ys = xs := by
      unfold cpL
      by_cases h1 : xs.length - l = 0
      · rw [h1, List.take_zero, List.append_nil, List.take_of_length_le (by omega), List.drop_of_length_le (by omega), List.append_nil]
      · have : ys = [] := List.eq_nil_of_length_eq_zero (by omega)
        subst this
        simp
    rw [this]; exact hS
  · have h1 : 0 < min ys.length (xs.length - l) := by rw [← hm, ← hn]; exact Nat.pos_of_ne_zero h0
    have hpos : 0 < (encs xs).length := by rw [encs_int, List.length_map]; omega
    obtain ⟨g, cur, rfl, hb, hB, hc, hmx, hcs, ht⟩ := hO.blk_pos hpos
    have hcl : ¬ c = l := by omega
    obtain ⟨q, rfl, _, _⟩ := hv.cells.1 (by rw [encs_int, List.length_map]; omega)
    have hadd : (⟨g, 0, none⟩ : Addr).add (l * El.m Int) = ⟨g, l, none⟩ := by
      show (⟨g, 0, none⟩ : Addr).add (l * 1) = _
      unfold Addr.add; by_cases h0 : l = 0 <;> simp [h0]
    have hlen2 : ((ys.take (xs.length - l)).map (Value.int .i64)).length = min ys.length (xs.length - l) := by rw [List.length_map, List.length_take, Nat.min_comm]
    have hcur : cur.size = c * 1 := hcs
    have hr := run_copy_row (P := P) w ty ty2 t E g l (n - l) (c - l) q m cy cur E ((ys.take (xs.length - l)).map (Value.int .i64)) hT.hu hsz hB (by rw [hlen2, hm, hn]) (by
      intro j v hj
      have hj2 : (encs ys)[j]? = some v := by
        rw [encs_int]
        rw [List.getElem?_map, List.getElem?_take] at hj
        rw [List.getElem?_map]
        split at hj
        · exact hj
        · cases hj
      have hj3 := (List.getElem?_eq_some_iff.1 hj2).1
      have := hv.cells.2 j hj3
      rw [getElem!_pos _ j hj3, (List.getElem?_eq_some_iff.1 hj2).2] at this
      exact this) (by rw [hlen2]; omega) (by
      intro v hv
      obtain ⟨i, _, rfl⟩ := List.mem_map.1 hv
      rfl)
    have hrun := run _ _ (by rw [if_neg hcl]; simp only [Option.map_some]; rw [hadd]; exact hr)
    refine (g_run hrun).mono ?_
    rintro v' w' ⟨rfl, rfl⟩
    have hown : Own (w.setRow g (splL cur.toList l ((ys.take (xs.length - l)).map (Value.int .i64))).toArray) 0 E (El.m Int) (some ⟨g, 0, none⟩) n c (splL (encs xs) l ((ys.take (xs.length - l)).map (Value.int .i64))) :=
      own_spl hO.length (Nat.zero_le _) (blk_setRow hB) hc hmx hcs ht (by rw [hlen2, encs_int, List.length_map]; omega)
    have hspl : splL (encs xs) l ((ys.take (xs.length - l)).map (Value.int .i64)) = encs (cpL xs l ys) := by
      rw [encs_int, encs_int]
      unfold splL cpL
      rw [hlen2]
      simp only [List.map_append, List.map_take, List.map_drop]
      congr 1
      by_cases hh : ys.length ≤ xs.length - l
      · rw [Nat.min_eq_left hh]
      · rw [Nat.min_eq_right (by omega), List.drop_of_length_le (by rw [List.length_map]; omega), List.drop_of_length_le (by rw [List.length_map]; omega)]
    rw [hspl] at hown
    have hchg : Chg w (w.setRow g (splL cur.toList l ((ys.take (xs.length - l)).map (Value.int .i64))).toArray) (some g) := chg_setRow
    exact ⟨by rw [hlen2]; rfl, hS.upd hchg (fun k hk => by cases hk; rfl) hown fun k hk => .inl hk, hS.stp hchg fun k hk => by cases hk; rfl⟩
end
end Go.Proofs.Ytebfcpninegcgaa
