/- Stores and makes at typed rows. No statement of the claim stands here. -/
import Derived.Test.YtddjkiefadiijaaDraw
namespace Go.Proofs.Ytddjkiefadiijaa
open Go Go.RowKit

theorem splL_getElem? (l vs : List Value) (k j : Nat) (h : k + vs.length ≤ l.length) : (splL l k vs)[j]? = if k ≤ j ∧ j < k + vs.length then vs[j - k]? else l[j]? := by
  unfold splL
  simp only [List.getElem?_append, List.length_append, List.length_take, List.getElem?_take, List.getElem?_drop]
  by_cases h1 : j < k
  · have : ¬ (k ≤ j ∧ j < k + vs.length) := by omega
    rw [if_neg this]
    rw [if_pos (by omega), if_pos (by omega), if_pos h1]
  · by_cases h2 : j < k + vs.length
    · rw [if_pos (show k ≤ j ∧ j < k + vs.length by omega), if_pos (by omega), if_neg (by omega)]
      congr 1; omega
    · rw [if_neg (show ¬ (k ≤ j ∧ j < k + vs.length) by omega), if_neg (by omega)]
      congr 1; omega
section
variable {P : Program} {e : Env} {w : World} {d : Option Nat} {ty ty' E : TypeId} {p : String} {af : Array Edge} {gd : Option (Nat × Bool)} {B len cap : Nat} {a : Option Addr}
theorem splL_one {α : Type} (f : α → Value) (xs : List α) (i : Nat) (v : α) (h : i < xs.length) : splL (xs.map f) (i * 1) [f v] = (xs.set i v).map f := by
  rw [Nat.mul_one]
  apply List.ext_getElem?
  intro j
  rw [splL_getElem? _ _ _ _ (by simp; omega)]
  simp only [List.length_singleton, List.getElem?_map, List.getElem?_set]
  by_cases hj : i = j
  · subst hj
    rw [if_pos (by omega)]; simp [h]
  · rw [if_neg (by omega), if_neg hj]
theorem g_store_one {α : Type} {f : α → Value} {xs : List α} {x y : Operand} {i : Nat} {v : α} (hO : Own w B E 1 a len cap (xs.map f)) (ho : One P ty)
    (hx : ev e x = .pointer (some ((adr a).add (i * 1)))) (hy : ev e y = f v) (hc : (f v).cells = #[f v]) (h1 : (f v).oneCell' = true) (hi : i < xs.length) :
    OpG P ⟨d, .store ty x y, ty', p, af, gd⟩ e w (fun v' w' => v' = undef ∧ Own w' B E 1 a len cap ((xs.set i v).map f) ∧ Chg w w' (blk a)) := by
  refine (g_storeO (vs := [f v]) hO ho.sz hx hy hc (by simpa using h1) (by simp) (by simp; omega)).mono ?_
  rintro v' w' ⟨h2, h3, h4⟩
  rw [splL_one f xs i v hi] at h3
  exact ⟨h2, h3, h4⟩
theorem splL_rec {α : Type} [Inhabited α] {enc : α → List Value} {m : Nat} (henc : ∀ x, (enc x).length = m) (xs : List α) (i j : Nat) (v : α) (vs : List Value) (h : i < xs.length) (hj : j + vs.length ≤ m)
    (hv : enc v = splL (enc xs[i]!) j vs) : splL (xs.flatMap enc) (i * m + j) vs = (xs.set i v).flatMap enc := by
  have hlt : i * m + m ≤ xs.length * m := by
    have : (i + 1) * m ≤ xs.length * m := Nat.mul_le_mul_right _ h
    rw [Nat.succ_mul] at this; omega
  apply List.ext_getElem?
  intro k
  by_cases hk : k < xs.length * m
  · have hm : 0 < m := by
      rcases Nat.eq_zero_or_pos m with h0 | h0
      · subst h0; omega
      · exact h0
    have ek : k = (k / m) * m + k % m := by rw [Nat.mul_comm]; exact (Nat.div_add_mod k m).symm
    have hq : k / m < xs.length := by rw [Nat.div_lt_iff_lt_mul hm]; exact hk
    have hr : k % m < m := Nat.mod_lt _ hm
    rw [splL_getElem? _ _ _ _ (by rw [rec_length henc]; omega)]
    generalize k / m = q at ek hq
    generalize k % m = r at ek hr
    subst ek
    rw [rec_get henc (xs.set i v) q r (by simpa using hq) hr, rec_get henc xs q r hq hr]
    by_cases hqi : q = i
    · subst hqi
      have e1 : (xs.set q v)[q]! = v := by simp [h]
      rw [e1, hv, splL_getElem? _ _ _ _ (by rw [henc]; exact hj)]
      by_cases hc : j ≤ r ∧ r < j + vs.length
      · rw [if_pos (by omega), if_pos hc]; congr 1; omega
      · rw [if_neg (by omega), if_neg hc]
    · have e1 : (xs.set i v)[q]! = xs[q]! := by
        have : i ≠ q := fun x => hqi x.symm
        simp [List.getElem?_set_ne this]
      rw [e1, if_neg]
      intro hc
      rcases Nat.lt_or_gt_of_ne hqi with h1 | h1
      · have : (q + 1) * m ≤ i * m := Nat.mul_le_mul_right _ h1
        rw [Nat.succ_mul] at this; omega
      · have : (i + 1) * m ≤ q * m := Nat.mul_le_mul_right _ h1
        rw [Nat.succ_mul] at this; omega
  · have h1 := rec_length henc xs
    have e1 : (splL (xs.flatMap enc) (i * m + j) vs).length ≤ k := by
      simp only [splL, List.length_append, List.length_take, List.length_drop]; omega
    have e2 : ((xs.set i v).flatMap enc).length ≤ k := by rw [rec_length henc]; simp; omega
    rw [List.getElem?_eq_none e1, List.getElem?_eq_none e2]
theorem g_store_rec {α : Type} [Inhabited α] {enc : α → List Value} {m : Nat} {xs : List α} {x y : Operand} {i : Nat} {u : Value} {v : α} (hO : Own w B E m a len cap (xs.flatMap enc)) (henc : ∀ x, (enc x).length = m) (ho : Agg P ty m) (hm : 0 < m)
    (hx : ev e x = .pointer (some ((adr a).add (i * m)))) (hy : ev e y = u) (hc : u.cells = (enc v).toArray) (h1 : ∀ z ∈ enc v, z.oneCell' = true) (hi : i < xs.length) :
    OpG P ⟨d, .store ty x y, ty', p, af, gd⟩ e w (fun v' w' => v' = undef ∧ Own w' B E m a len cap ((xs.set i v).flatMap enc) ∧ Chg w w' (blk a)) := by
  have hlt : i * m + m ≤ xs.length * m := by
    have : (i + 1) * m ≤ xs.length * m := Nat.mul_le_mul_right _ hi
    rw [Nat.succ_mul] at this; omega
  refine (g_storeO (vs := enc v) hO (by rw [henc]; exact ho.sz) hx hy hc h1 (by rw [henc]; exact hm) (by rw [rec_length henc, henc]; exact hlt)).mono ?_
  rintro v' w' ⟨h2, h3, h4⟩
  have := splL_rec henc xs i 0 v (enc v) hi (by rw [henc]; omega) (by unfold splL; simp [henc])
  rw [Nat.add_zero] at this
  rw [this] at h3
  exact ⟨h2, h3, h4⟩
theorem g_store_fld {α : Type} [Inhabited α] {enc : α → List Value} {m : Nat} {xs : List α} {x y : Operand} {i j : Nat} {u : Value} {v : α} (hO : Own w B E m a len cap (xs.flatMap enc)) (henc : ∀ x, (enc x).length = m) (ho : One P ty) (hj : j < m)
    (hx : ev e x = .pointer (some (((adr a).add (i * m)).add j))) (hy : ev e y = u) (hc : u.cells = #[u]) (h1 : u.oneCell' = true) (hi : i < xs.length) (hv : enc v = splL (enc xs[i]!) j [u]) :
    OpG P ⟨d, .store ty x y, ty', p, af, gd⟩ e w (fun v' w' => v' = undef ∧ Own w' B E m a len cap ((xs.set i v).flatMap enc) ∧ Chg w w' (blk a)) := by
  have hlt := idx_lt (m := m) hi hj
  refine (g_storeO (vs := [u]) hO ho.sz (by rw [hx, add_add]) hy hc (by simpa using h1) (by simp) (by rw [rec_length henc]; simp; omega)).mono ?_
  rintro v' w' ⟨h2, h3, h4⟩
  rw [splL_rec henc xs i j v [u] hi (by simp; omega) hv] at h3
  exact ⟨h2, h3, h4⟩
theorem made_one (z : Value) (hz : z.cells = #[z]) (n : Nat) : (madeCells z.cells (n * 1)).toList = List.replicate n z := by
  rw [hz, Nat.mul_one]; exact toList_madeCells_one z n
theorem made_rec {z : Value} {l : List Value} {m : Nat} (hz : z.cells = l.toArray) (hl : l.length = m) (n : Nat) : (madeCells z.cells (n * m)).toList = (List.replicate n l).flatMap id := by
  apply List.ext_getElem?
  intro k
  have hlen : ((List.replicate n l).flatMap id).length = n * m := by
    have := rec_length (enc := (fun _ : Nat => l)) (m := m) (fun _ => hl) (List.replicate n 0)
    have e : (List.replicate n (0 : Nat)).flatMap (fun _ => l) = (List.replicate n l).flatMap id := by simp [List.flatMap, List.map_replicate]
    rw [e] at this; simpa using this
  by_cases hk : k < n * m
  · have hm : 0 < m := by
      rcases Nat.eq_zero_or_pos m with h0 | h0
      · subst h0; omega
      · exact h0
    have ek : k = (k / m) * m + k % m := by rw [Nat.mul_comm]; exact (Nat.div_add_mod k m).symm
    have hq : k / m < n := by rw [Nat.div_lt_iff_lt_mul hm]; exact hk
    have hr : k % m < m := Nat.mod_lt _ hm
    have e : (List.replicate n l).flatMap id = (List.replicate n (0 : Nat)).flatMap (fun _ => l) := by simp [List.flatMap, List.map_replicate]
    have hg := rec_get (enc := (fun _ : Nat => l)) (m := m) (fun _ => hl) (List.replicate n 0) (k / m) (k % m) (by simpa using hq) hr
    rw [← ek] at hg
    rw [e, hg, hz]
    simp [madeCells, hk, hl, hr]
  · rw [List.getElem?_eq_none (by simp [size_madeCells]; omega), List.getElem?_eq_none (by omega)]
end
theorem made_int (n : Nat) : (madeCells (Value.int .i64 0).cells (n * 1)).toList = intsC (List.replicate n (0 : Int)) := by rw [made_one _ rfl]; simp
theorem made_bool (n : Nat) : (madeCells (Value.bool false).cells (n * 1)).toList = (List.replicate n false).map Value.bool := by rw [made_one _ rfl]; simp

theorem own_blk_ne {w : World} {B E sz len cap g t : Nat} {a : Option Addr} {cs : List Value} {bs : Array Value} (h : Own w B E sz a len cap cs) (hb : Blk w g t bs) (hne : E ≠ t) : ∀ k, blk a = some k → k ≠ g := by
  intro k hk hkg
  subst hkg
  rcases h.2 with ⟨e, _⟩ | ⟨g', c, cur, e, _, hh, _⟩
  · injection e with e1; subst e1; cases hk
  · injection e with e1; subst e1
    have : g' = k := by simpa [blk] using hk
    subst this
    unfold Blk at hb
    rw [hb] at hh
    injection hh with hh; injection hh with _ h2
    exact hne h2.symm
theorem Blk.ne {w : World} {g g' t t' : Nat} {cs cs' : Array Value} (h : Blk w g t cs) (h' : Blk w g' t' cs') (hne : t ≠ t') : g ≠ g' := by
  rintro rfl
  unfold Blk at h h'
  rw [h] at h'
  injection h' with h'
  injection h' with _ ht
  exact hne ht

/- literal slices -/
section
variable {P : Program} {e : Env} {w : World} {d : Option Nat} {t ty E sz by' : Nat} {z : Value} {p : String} {af : Array Edge} {gd : Option (Nat × Bool)}
theorem g_bslice {n : Nat} {parts : Array (Nat × Operand)} {vs : Array Value} (hr : ∀ w, (Instr.buildSlice ty n (parts.map fun (i, x) => (i, ev e x))).run P w = .ok (.slice (some ⟨w.heap.size, 0, none⟩) n n) (w.alloc (.cells vs E))) (hs : vs.size = n * sz) (hn : n ≤ maxLen) :
    OpG P ⟨d, .buildSlice ty n parts, t, p, af, gd⟩ e w (NewRow w E sz n vs.toList) := by
  have h : (execOp (ev e) ⟨d, .buildSlice ty n parts, t, p, af, gd⟩).run P w = .ok (.value (.slice (some ⟨w.heap.size, 0, none⟩) n n)) (w.alloc (.cells vs E)) := by
    simp only [execOp]
    have := hr w
    simp [this, Result.andThen]
  exact (g_run h).mono fun v' w' ⟨h1, h2⟩ => by
    subst h1; subst h2
    exact ⟨_, rfl, World.ownsRow_lit w vs n (Nat.le_refl _) hn hs, ext_alloc w _⟩
theorem foldl_set (off : Nat) : ∀ (vs : List Value) (k : Nat) (cells : Array Value), off + k + vs.length ≤ cells.size →
    (vs.zipIdx k).foldl (fun cs p => cs.setIfInBounds (off + p.2) p.1) cells = (splL cells.toList (off + k) vs).toArray
  | [], k, cells, _ => by simp [splL]
  | v :: vs, k, cells, h => by
    simp only [List.length_cons] at h
    simp only [List.zipIdx_cons, List.foldl_cons]
    rw [foldl_set off vs (k + 1) _ (by simp; omega)]
    apply Array.ext'
    apply List.ext_getElem?
    intro j
    have hl : cells.toList.length = cells.size := by simp
    simp only []
    rw [splL_getElem? _ _ _ _ (by simp; omega), splL_getElem? _ _ _ _ (by simp; omega)]
    simp only [List.length_cons, Array.toList_setIfInBounds, List.getElem?_set]
    by_cases hj : j = off + k
    · subst hj
      rw [if_neg (by omega), if_pos rfl, if_pos (by omega), if_pos (by omega)]; simp
    · by_cases h2 : off + (k + 1) ≤ j ∧ j < off + (k + 1) + vs.length
      · rw [if_pos h2, if_pos (by omega)]
        have e : j - (off + k) = (j - (off + (k + 1))) + 1 := by omega
        rw [e]; simp
      · rw [if_neg h2, if_neg (by omega), if_neg (by omega)]
theorem foldl_setA (off : Nat) (vs : Array Value) (cells : Array Value) (h : off + vs.size ≤ cells.size) :
    vs.zipIdx.foldl (fun cs (x : Value × Nat) => cs.setIfInBounds (off + x.2) x.1) cells = (splL cells.toList off vs.toList).toArray := by
  have := foldl_set off vs.toList 0 cells (by simpa using h)
  simp only [Nat.add_zero] at this
  rw [← this, ← Array.foldl_toList]
  congr 1
  simp
def numbered (i : Nat) : List Value → List (Nat × Value)
  | [] => []
  | v :: vs => (i, v) :: numbered (i + 1) vs
theorem fill_all (hp : 0 < sz) : ∀ (vss : List Value) (i : Nat) (cells : Array Value), (∀ v ∈ vss, v.cells.size = sz) → (i + vss.length) * sz ≤ cells.size →
    Instr.fill (fun i => some (i * sz, sz)) cells (numbered i vss) = some (splL cells.toList (i * sz) (vss.flatMap fun v => v.cells.toList)).toArray
  | [], i, cells, _, _ => by simp [numbered, Instr.fill, splL]
  | v :: vss, i, cells, hv, h => by
    have h1 : v.cells.size = sz := hv v (by simp)
    simp only [List.length_cons] at h
    have h2 : (i + (vss.length + 1)) * sz = i * sz + sz + vss.length * sz := by rw [Nat.add_mul, Nat.add_mul]; omega
    have h3 : (i + 1 + vss.length) * sz = i * sz + sz + vss.length * sz := by rw [Nat.add_mul, Nat.add_mul]; omega
    have h4 : (vss.flatMap fun v => v.cells.toList).length = vss.length * sz := by
      have : ∀ l : List Value, (∀ v ∈ l, v.cells.size = sz) → (l.flatMap fun v => v.cells.toList).length = l.length * sz := by
        intro l
        induction l with
        | nil => intro _; simp
        | cons x l ih =>
          intro hx
          have := ih fun y hy => hx y (by simp [hy])
          have h5 := hx x (by simp)
          simp only [List.flatMap_cons, List.length_append, this, List.length_cons, Array.length_toList, h5, Nat.succ_mul]; omega
      exact this vss fun y hy => hv y (by simp [hy])
    simp only [numbered, Instr.fill]
    have hc : ¬ (decide (v.cells.size ≠ sz) || decide (i * sz + v.cells.size > cells.size)) = true := by simp [h1]; omega
    rw [if_neg hc]
    have hf := foldl_setA (i * sz) v.cells cells (by rw [h1]; omega)
    rw [hf, fill_all hp vss (i + 1) _ (fun y hy => hv y (by simp [hy])) (by simp [splL, h1]; omega)]
    congr 1
    apply Array.ext'
    apply List.ext_getElem?
    intro j
    have hl : cells.toList.length = cells.size := by simp
    have hl1 : v.cells.toList.length = sz := by simp [h1]
    have e1 : (i + 1) * sz = i * sz + sz := Nat.succ_mul i sz
    have hs : (splL cells.toList (i * sz) v.cells.toList).length = cells.size := by simp [splL, h1]; omega
    simp only [List.flatMap_cons]
    rw [splL_getElem? _ _ _ _ (by rw [h4, hs, e1]; omega), splL_getElem? _ _ _ _ (by rw [hl1, hl]; omega), splL_getElem? _ _ _ _ (by rw [List.length_append, h4, hl1, hl]; omega)]
    simp only [List.length_append, h4, hl1, e1]
    by_cases c1 : i * sz + sz ≤ j ∧ j < i * sz + sz + vss.length * sz
    · rw [if_pos c1, if_pos (by omega), List.getElem?_append_right (by omega)]
      congr 1; omega
    · rw [if_neg c1]
      by_cases c2 : i * sz ≤ j ∧ j < i * sz + sz
      · rw [if_pos c2, if_pos (by omega), List.getElem?_append_left (by omega)]
      · rw [if_neg c2, if_neg (by omega)]
theorem run_bslice {vss : List Value} {n : Nat} (hT : ElT P ty E sz by' z) (hn : vss.length = n) (hv : ∀ v ∈ vss, v.cells.size = sz) (hb : n * sz ≤ 16777216) (w : World) :
    (Instr.buildSlice ty n (numbered 0 vss).toArray).run P w = .ok (.slice (some ⟨w.heap.size, 0, none⟩) n n) (w.alloc (.cells (vss.flatMap fun v => v.cells.toList).toArray E)) := by
  obtain ⟨i, hi, hz, hs, _⟩ := hT.hi
  have hp := hT.hp
  subst hn
  have h4 : (vss.flatMap fun v => v.cells.toList).length = vss.length * sz := by
    have : ∀ l : List Value, (∀ v ∈ l, v.cells.size = sz) → (l.flatMap fun v => v.cells.toList).length = l.length * sz := by
      intro l
      induction l with
      | nil => intro _; simp
      | cons x l ih =>
        intro hx
        have := ih fun y hy => hx y (by simp [hy])
        have h5 := hx x (by simp)
        simp only [List.flatMap_cons, List.length_append, this, List.length_cons, Array.length_toList, h5, Nat.succ_mul]; omega
    exact this vss hv
  have hbig : ¬ (vss.length * sz > 2 ^ 24) := by simp; omega
  have fin : ∀ cells : Array Value, cells.size = vss.length * sz → Instr.fill (fun i => some (i * sz, sz)) cells (numbered 0 vss) = some (vss.flatMap fun v => v.cells.toList).toArray := by
    intro cells hc
    rw [fill_all hp vss 0 cells hv (by rw [hc]; simp)]
    congr 2
    simp only [splL, Nat.zero_mul, List.take_zero, List.nil_append, Nat.zero_add, h4]
    rw [List.drop_eq_nil_of_le (by simp [hc])]; simp
  by_cases h0 : vss.length * sz = 0
  · simp [Instr.buildSlice, run_underlying hT.hu, sizeOf, typeInfo, hi, hs, h0, fin, newRow]
  · have hbig' : ¬ (16777216 < vss.length * sz) := by omega
    simp [Instr.buildSlice, run_underlying hT.hu, sizeOf, typeInfo, hi, hs, h0, hbig', zeroValue, hz, fin, newRow]
theorem g_bslice0 (hT : ElT P ty E sz by' z) : OpG P ⟨d, .buildSlice ty 0 #[], t, p, af, gd⟩ e w (NewRow w E sz 0 []) :=
  g_bslice (vs := #[]) (fun w => by have := run_bslice (vss := []) hT rfl (by simp) (by simp) w; simpa [numbered] using this) (by simp) (by simp [maxLen])
theorem g_bslice1 {x : Operand} {v : Value} {vs : List Value} (hT : ElT P ty E sz by' z) (hx : ev e x = v) (hv : v.cells = vs.toArray) (hsz : vs.length = sz) (hb : sz ≤ 1000) : OpG P ⟨d, .buildSlice ty 1 #[(0, x)], t, p, af, gd⟩ e w (NewRow w E sz 1 vs) := by
  refine g_bslice (vs := vs.toArray) (fun w => ?_) (by simp [hsz]) (by simp [maxLen])
  have := run_bslice (vss := [v]) (n := 1) hT rfl (by simp [hv, hsz]) (by omega) w
  simpa [numbered, hx, hv] using this
theorem g_bslice2 {x y : Operand} {v u : Value} {vs us : List Value} (hT : ElT P ty E sz by' z) (hx : ev e x = v) (hy : ev e y = u) (hv : v.cells = vs.toArray) (hu : u.cells = us.toArray) (hsz : vs.length = sz) (hsu : us.length = sz) (hb : sz ≤ 1000) :
    OpG P ⟨d, .buildSlice ty 2 #[(0, x), (1, y)], t, p, af, gd⟩ e w (NewRow w E sz 2 (vs ++ us)) := by
  refine g_bslice (vs := (vs ++ us).toArray) (fun w => ?_) (by simp [hsz, hsu]; omega) (by simp [maxLen])
  have := run_bslice (vss := [v, u]) (n := 2) hT rfl (by simp [hv, hsz, hu, hsu]) (by omega) w
  simpa [numbered, hx, hv, hy, hu] using this
end
end Go.Proofs.Ytddjkiefadiijaa
