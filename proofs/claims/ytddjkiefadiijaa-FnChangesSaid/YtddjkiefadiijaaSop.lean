/- What the operations do to memory seen as objects. No statement of the claim stands here. -/
import Derived.Test.YtddjkiefadiijaaSep
import Derived.Test.YtddjkiefadiijaaDraw2
namespace Go.Proofs.Ytddjkiefadiijaa
open Go Go.RowKit

/- a view: a slice that reads as a list -/
structure Vw {α : Type} [El α] (hi : Nat) (w : World) (a : Option Addr) (n c : Nat) (xs : List α) : Prop where
  cells : Cells 0 hi w a (encs xs)
  len : n = xs.length
  nil : a = none → c = 0
  le : n ≤ c
section
variable {α : Type} [El α] [Inhabited α] {hi hi' B n c N : Nat} {w w' w0 : World} {a : Option Addr} {xs : List α} {E : TypeId} {L : List Ob}
theorem Vw.below {B' : Nat} (h : Vw hi w a n c xs) (hb : Below B' w w') (hB : hi ≤ B') : Vw hi w' a n c xs := have _ := (inferInstance : Inhabited α); ⟨h.cells.below hb hB, h.len, h.nil, h.le⟩
theorem Vw.bel (h : Vw B w a n c xs) (hb : Below B w w') : Vw B w' a n c xs := h.below hb (Nat.le_refl _)
theorem Vw.ext (h : Vw w.heap.size w a n c xs) (hE : Ext w w') : Vw w'.heap.size w' a n c xs := have _ := (inferInstance : Inhabited α); ⟨(h.cells.ext hE (Nat.le_refl _)).wide (Nat.le_refl _) hE.size, h.len, h.nil, h.le⟩
theorem Vw.up (h : Vw B w a n c xs) (hS : Sep w B L) : Vw w.heap.size w a n c xs := have _ := (inferInstance : Inhabited α); ⟨h.cells.wide (Nat.le_refl _) hS.base, h.len, h.nil, h.le⟩
theorem Vw.emp : Vw hi w none 0 0 ([] : List α) := have _ := (inferInstance : Inhabited α); ⟨Cells.nil, rfl, fun _ => rfl, Nat.le_refl _⟩
theorem Vw.isS (h : Vw hi w a n c xs) {i : Int} (hg : ix i xs.length) : a.isSome = true := have _ := (inferInstance : Inhabited α); Recs.some h.cells El.len El.pos hg.1 hg.2
theorem Vw.all (h : Vw hi w a n c xs) {i : Int} (hg : ix i xs.length) : ∀ j, j < (El.enc xs[i.toNat]!).length → w.cell? (((adr a).add (i.toNat * El.m α)).add j) = some (El.enc xs[i.toNat]!)[j]! := Recs.all h.cells El.len hg.1 hg.2
theorem Vw.fld (h : Vw hi w a n c xs) {i : Int} (hg : ix i xs.length) {j : Nat} {v : Value} (hv : (El.enc xs[i.toNat]!)[j]? = .some v) : w.cell? (((adr a).add (i.toNat * El.m α)).add j) = .some v := by
  have hj : j < (El.enc xs[i.toNat]!).length := (List.getElem?_eq_some_iff.1 hv).1
  rw [h.all hg j hj]
  have := (List.getElem?_eq_some_iff.1 hv).2
  rw [getElem!_pos _ j hj, this]
theorem add_zero (p : Addr) : p.add 0 = p := by unfold Addr.add; simp
theorem Vw.one (h : Vw hi w a n c xs) {i : Int} (hg : ix i xs.length) {v : Value} (hv : (El.enc xs[i.toNat]!)[0]? = .some v) : w.cell? ((adr a).add (i.toNat * El.m α)) = .some v := by
  have := h.fld hg hv
  rwa [add_zero] at this
theorem oS.len (h : (oS E a n c xs).ok w) : n = xs.length := by
  have _ := (inferInstance : Inhabited α)
  have h1 := Own.length h
  rw [encs_len] at h1
  exact (Nat.eq_of_mul_eq_mul_right El.pos h1).symm
theorem Own.le {w : World} {B E sz len cap : Nat} {a : Option Addr} {cs : List Value} (h : Own w B E sz a len cap cs) : len ≤ cap := by
  rcases h.2 with ⟨e, h0⟩ | ⟨g, c, cur, e, _, _, hn, _⟩
  · injection e with e1 e2 e3; omega
  · injection e with e1 e2 e3; omega
theorem oS.vw (h : (oS E a n c xs).ok w) : Vw w.heap.size w a n c xs := ⟨(Own.cells h).wide (Nat.zero_le _) (Nat.le_refl _), oS.len h, Own.nil0 h, Own.le h⟩
theorem oS.nilrow (w : World) (E : TypeId) : (oS E none 0 0 ([] : List α)).ok w := have _ := (inferInstance : Inhabited α); Own.nilrow w 0 E (El.m α)
theorem Sep.nilS (h : Sep w B L) : Sep w B (oS E none 0 0 ([] : List α) :: L) := Sep.cons_iff.2 ⟨oS.nilrow w E, fun k hk => (by cases (show blk none = some k from hk)), h⟩
end

/- tables -/
class Er (δ : Type) (γ : outParam Type) where
  er : δ → γ
instance {α : Type} : Er (Hd α) (List α) := ⟨fun h => h.2.2⟩
instance : Er PlayerD PlayerC := ⟨fun p => (p.1.2.2, p.2)⟩
instance : Er CueD CueC := ⟨fun p => (p.1, p.2.1.2.2, p.2.2.2.2)⟩
abbrev ers {δ γ : Type} [Er δ γ] (ys : List δ) : List γ := ys.map Er.er
/-- a table that reads as a list: its cells, its rows, its contents -/
structure Tv {δ γ α : Type} [El δ] [Inhabited δ] [Rw δ α] [El α] [Er δ γ] (hi : Nat) (w : World) (a : Option Addr) (n c : Nat) (ys : List δ) (t : List γ) : Prop where
  o : Vw hi w a n c ys
  r : ∀ i j, i < ys.length → j < Rw.k δ → Vw hi w (Rw.row ys[i]! j).1 (Rw.row ys[i]! j).2.2.length (Rw.row ys[i]! j).2.1 (Rw.row ys[i]! j).2.2
  e : ers ys = t
section
variable {δ γ α : Type} [El δ] [Inhabited δ] [Rw δ α] [El α] [Inhabited α] [Er δ γ] [Inhabited γ] {hi hi' B n c N : Nat} {w w' w0 : World} {a : Option Addr} {ys : List δ} {t : List γ} {E E2 : TypeId} {L : List Ob}
theorem Tv.below {B' : Nat} (h : Tv hi w a n c ys t) (hb : Below B' w w') (hB : hi ≤ B') : Tv hi w' a n c ys t := have _ := (inferInstance : Inhabited γ); ⟨h.o.below hb hB, fun i j h1 h2 => (h.r i j h1 h2).below hb hB, h.e⟩
theorem Tv.bel (h : Tv B w a n c ys t) (hb : Below B w w') : Tv B w' a n c ys t := h.below hb (Nat.le_refl _)
theorem Tv.ext (h : Tv w.heap.size w a n c ys t) (hE : Ext w w') : Tv w'.heap.size w' a n c ys t := have _ := (inferInstance : Inhabited γ); ⟨h.o.ext hE, fun i j h1 h2 => (h.r i j h1 h2).ext hE, h.e⟩
theorem Tv.up (h : Tv B w a n c ys t) (hS : Sep w B L) : Tv w.heap.size w a n c ys t := have _ := (inferInstance : Inhabited γ); ⟨h.o.up hS, fun i j h1 h2 => (h.r i j h1 h2).up hS, h.e⟩
theorem Tv.emp : Tv hi w none 0 0 ([] : List δ) ([] : List γ) := have _ := (inferInstance : Inhabited α); have _ := (inferInstance : Inhabited γ); ⟨Vw.emp, fun i j h => absurd h (Nat.not_lt_zero _), rfl⟩
theorem Tv.len (h : Tv hi w a n c ys t) : n = t.length := by have _ := (inferInstance : Inhabited α); have _ := (inferInstance : Inhabited γ); rw [h.o.len, ← h.e]; simp
theorem Tv.g (h : Tv hi w a n c ys t) {i : Int} (hg : ix i t.length) : ix i ys.length := by rw [← h.o.len, h.len]; exact hg
theorem Tv.get (h : Tv hi w a n c ys t) {i : Int} (hg : ix i t.length) : t[i.toNat]! = Er.er ys[i.toNat]! := by
  have : i.toNat < ys.length := by have h2 := h.g hg; have := h2.1; have := h2.2; omega
  rw [← h.e]; simp [this]
theorem oT.vw (h : (oS E a n c ys).ok w) (hr : (oT E2 ys).ok w) (he : ers ys = t) : Tv w.heap.size w a n c ys t :=
  have _ := (inferInstance : Inhabited γ); ⟨oS.vw h, fun i j h1 h2 => oS.vw (E := E2) (hr.1 i j h1 h2 id), he⟩
end
theorem Tv.row {α : Type} [El α] [Inhabited α] {hi n c : Nat} {w : World} {a : Option Addr} {ys : List (Hd α)} {t : List (List α)} (h : Tv hi w a n c ys t) {i : Int} (hg : ix i t.length) :
    Vw hi w (ys[i.toNat]!).1 (ys[i.toNat]!).2.2.length (ys[i.toNat]!).2.1 t[i.toNat]! := by
  have hlt : i.toNat < ys.length := by have := (h.g hg).1; have := (h.g hg).2; omega
  rw [h.get hg]; exact h.r i.toNat 0 hlt Nat.zero_lt_one
theorem Tv.rowP {hi n c : Nat} {w : World} {a : Option Addr} {ys : List PlayerD} {t : List PlayerC} (h : Tv hi w a n c ys t) {i : Int} (hg : ix i t.length) :
    Vw hi w (ys[i.toNat]!).1.1 (ys[i.toNat]!).1.2.2.length (ys[i.toNat]!).1.2.1 (t[i.toNat]!).1 := by
  have hlt : i.toNat < ys.length := by have := (h.g hg).1; have := (h.g hg).2; omega
  rw [h.get hg]; exact h.r i.toNat 0 hlt (by decide)
theorem Tv.rowC0 {hi n c : Nat} {w : World} {a : Option Addr} {ys : List CueD} {t : List CueC} (h : Tv hi w a n c ys t) {i : Int} (hg : ix i t.length) :
    Vw hi w (ys[i.toNat]!).2.1.1 (ys[i.toNat]!).2.1.2.2.length (ys[i.toNat]!).2.1.2.1 (t[i.toNat]!).2.1 := by
  have hlt : i.toNat < ys.length := by have := (h.g hg).1; have := (h.g hg).2; omega
  rw [h.get hg]; exact h.r i.toNat 0 hlt (by decide)
theorem Tv.rowC1 {hi n c : Nat} {w : World} {a : Option Addr} {ys : List CueD} {t : List CueC} (h : Tv hi w a n c ys t) {i : Int} (hg : ix i t.length) :
    Vw hi w (ys[i.toNat]!).2.2.1 (ys[i.toNat]!).2.2.2.2.length (ys[i.toNat]!).2.2.2.1 (t[i.toNat]!).2.2 := by
  have hlt : i.toNat < ys.length := by have := (h.g hg).1; have := (h.g hg).2; omega
  rw [h.get hg]; exact h.r i.toNat 1 hlt (by decide)
theorem Tv.free {hi n c : Nat} {w : World} {a : Option Addr} {ys : List PlayerD} {t : List PlayerC} (h : Tv hi w a n c ys t) {i : Int} (hg : ix i t.length) : (ys[i.toNat]!).2 = (t[i.toNat]!).2 := by rw [h.get hg]; rfl
theorem Tv.ticks {hi n c : Nat} {w : World} {a : Option Addr} {ys : List CueD} {t : List CueC} (h : Tv hi w a n c ys t) {i : Int} (hg : ix i t.length) : (ys[i.toNat]!).1 = (t[i.toNat]!).1 := by rw [h.get hg]; rfl

/- operations -/
section
variable {P : Program} {n k : Nat} {e : Env} {w : World} {d : Option Nat} {t ty ty' E E2 : TypeId} {p : String} {af : Array Edge} {gd : Option (Nat × Bool)} {by' B hi c cap N : Nat} {a : Option Addr} {z : Value} {L : List Ob}
variable {α : Type} [El α] [Inhabited α] {xs ys : List α}
theorem q_len {x : Operand} {m : Nat} (hT : ElT P ty E m by' z) (hx : ev e x = .slice a n c) (hn : n = N) : OpG P ⟨d, .call ⟨.builtin .len, #[x], #[ty]⟩, t, p, af, gd⟩ e w (Is (.int .i64 (N : Int)) w) := by subst hn; exact g_len' hT hx
theorem q_index {x y : Operand} {i : Int} (hT : ElT P ty E (El.m α) by' z) (hx : ev e x = .slice a n c) (hy : ev e y = .int .i64 i) (hv : Vw hi w a n c xs) (hg : ix i xs.length) :
    OpG P ⟨d, .indexAddr ty x y, t, p, af, gd⟩ e w (Is (.pointer (some ((adr a).add (i.toNat * El.m α)))) w) := g_index hT hx hy (hv.isS hg) hg.1 (by rw [hv.len]; exact hg.2)
theorem q_load {x : Operand} {i : Int} {v : Value} (ho : One P ty) (hv : Vw hi w a n c xs) (hg : ix i xs.length) (hc : (El.enc xs[i.toNat]!)[0]? = some v) (hx : ev e x = .pointer (some ((adr a).add (i.toNat * El.m α)))) :
    OpG P ⟨d, .load ty x, t, p, af, gd⟩ e w (Is v w) := g_load1 ho hx (hv.one hg hc)
theorem q_loadF {x : Operand} {i : Int} {j : Nat} {v : Value} (ho : One P ty) (hv : Vw hi w a n c xs) (hg : ix i xs.length) (hc : (El.enc xs[i.toNat]!)[j]? = some v) (hx : ev e x = .pointer (some (((adr a).add (i.toNat * El.m α)).add j))) :
    OpG P ⟨d, .load ty x, t, p, af, gd⟩ e w (Is v w) := g_load1 ho hx (hv.fld hg hc)
theorem q_loadS {x : Operand} {i : Int} {cs : List Value} (ho : Agg P ty cs.length) (hv : Vw hi w a n c xs) (hg : ix i xs.length) (hc : El.enc xs[i.toNat]! = cs) (hx : ev e x = .pointer (some ((adr a).add (i.toNat * El.m α)))) :
    OpG P ⟨d, .load ty x, t, p, af, gd⟩ e w (Is (.agg cs.toArray) w) := by subst hc; exact g_loadS ho hx (hv.all hg)

theorem Own.zero {w : World} {B E sz len cap : Nat} {a : Option Addr} {cs : List Value} (h : Own w B E sz a len cap cs) : Own w 0 E sz a len cap cs := h.mono (Nat.zero_le _)
/-- a new row -/
theorem new_row {v : Value} {w' : World} {m : Nat} {cs : List Value} (hm : m = El.m α) (hS : Sep w B L) (h : NewRow w E m n cs v w') (hc : cs = encs xs) :
    ∃ a, v = .slice a n n ∧ Sep w' B (oS E a n n xs :: L) ∧ Ext w w' := by
  have _ := (inferInstance : Inhabited α)
  subst hm
  obtain ⟨a, rfl, hO, hE⟩ := h
  subst hc
  exact ⟨a, rfl, hS.push hE hO.zero fun k hk => (hO.lt k hk).1, hE⟩
theorem q_make {x : Operand} {i : Int} {y : α} (hT : ElT P ty E (El.m α) by' z) (hx : ev e x = .int .i64 i) (hz : z.cells = (El.enc y).toArray) (h0 : 0 ≤ i) (h1 : i ≤ (LIM : Int)) (hb : by' ≤ 200) (hS : Sep w B L) :
    OpG P ⟨d, .makeSlice ty x x, t, p, af, gd⟩ e w (fun v w' => ∃ a, v = .slice a i.toNat i.toNat ∧ Sep w' B (oS E a i.toNat i.toNat (List.replicate i.toNat y) :: L) ∧ Ext w w') := by
  have hm : i.toNat ≤ LIM := by omega
  have hm3 : i.toNat ≤ 1099511627776 := hm
  have hb2 : by' * i.toNat ≤ 200 * 1099511627776 := Nat.mul_le_mul hb hm
  refine (g_make (k := i.toNat) hT (by rw [hx]; congr 1; omega) (by omega) (show i.toNat ≤ 9223372036854775807 by omega)).mono fun v w' h => ?_
  refine new_row rfl hS h ?_
  rw [made_rec hz (El.len y)]
  simp [encs, List.flatMap, List.map_replicate]
theorem q_lit0 {m : Nat} (hm : m = El.m α) (hT : ElT P ty E m by' z) (hS : Sep w B L) : OpG P ⟨d, .buildSlice ty 0 #[], t, p, af, gd⟩ e w (fun v w' => ∃ a, v = .slice a 0 0 ∧ Sep w' B (oS E a 0 0 ([] : List α) :: L) ∧ Ext w w') :=
  (g_bslice0 hT).mono fun _ _ h => new_row hm hS h rfl
theorem q_lit1 {x : Operand} {v : Value} {y : α} (hT : ElT P ty E (El.m α) by' z) (hx : ev e x = v) (hv : v.cells = (El.enc y).toArray) (hb : El.m α ≤ 1000) (hS : Sep w B L) :
    OpG P ⟨d, .buildSlice ty 1 #[(0, x)], t, p, af, gd⟩ e w (fun v w' => ∃ a, v = .slice a 1 1 ∧ Sep w' B (oS E a 1 1 [y] :: L) ∧ Ext w w') :=
  (g_bslice1 hT hx hv (El.len y) hb).mono fun _ _ h => new_row rfl hS h (by simp [encs])
theorem q_lit2 {x x' : Operand} {v v' : Value} {y y' : α} (hT : ElT P ty E (El.m α) by' z) (hx : ev e x = v) (hx' : ev e x' = v') (hv : v.cells = (El.enc y).toArray) (hv' : v'.cells = (El.enc y').toArray) (hb : El.m α ≤ 1000) (hS : Sep w B L) :
    OpG P ⟨d, .buildSlice ty 2 #[(0, x), (1, x')], t, p, af, gd⟩ e w (fun v w' => ∃ a, v = .slice a 2 2 ∧ Sep w' B (oS E a 2 2 [y, y'] :: L) ∧ Ext w w') :=
  (g_bslice2 hT hx hx' hv hv' (El.len y) (El.len y') hb).mono fun _ _ h => new_row rfl hS h (by simp [encs])
theorem q_append {x y : Operand} {a2 : Option Addr} {m c2 : Nat} (hT : ElT P ty E (El.m α) by' z) (hx : ev e x = .slice a n cap) (hy : ev e y = .slice a2 m c2) (hS : Sep w B (oS E a n cap xs :: L)) (hv : Vw hi w a2 m c2 ys)
    (hm : xs.length + ys.length ≤ LIM) (hb : by' ≤ 100) :
    OpG P ⟨d, .call ⟨.builtin .append, #[x, y], #[ty, ty]⟩, t, p, af, gd⟩ e w (fun v w' => ∃ a' c', v = .slice a' (n + m) c' ∧ Sep w' B (oS E a' (n + m) c' (xs ++ ys) :: L) ∧ Below B w w') := by
  have hO : Own w 0 E (El.m α) a n cap (encs xs) := hS.g0
  have hn : n = xs.length := oS.len hS.g0
  have hm' := hv.len
  have hl : n + m ≤ LIM := by omega
  have hl2 : n + m ≤ 1099511627776 := hl
  have hb2 : (n + m) * by' ≤ 1099511627776 * 100 := Nat.mul_le_mul hl hb
  refine (g_append hT hx hy hO hv.cells (by rw [encs_len, hm']) hv.nil (encs_one ys) (show n + m ≤ 9223372036854775807 by omega) (by omega) (Nat.zero_le _)).mono ?_
  rintro v w' ⟨a', c', rfl, hO', hC, hF⟩
  rw [show encs xs ++ encs ys = encs (xs ++ ys) from List.flatMap_append.symm] at hO'
  exact ⟨a', c', rfl, hS.upd hC (fun k hk => hk) hO' hF, hS.stp hC fun k hk => hk⟩
theorem splE (i j : Nat) (v : α) (vs : List Value) (h : i < xs.length) (hj : j + vs.length ≤ El.m α) (hv : El.enc v = splL (El.enc xs[i]!) j vs) : splL (encs xs) (i * El.m α + j) vs = encs (xs.set i v) := splL_rec El.len xs i j v vs h hj hv
theorem splE0 (i : Nat) (v : α) (h : i < xs.length) : splL (encs xs) (i * El.m α) (El.enc v) = encs (xs.set i v) := by
  have := splE (xs := xs) i 0 v (El.enc v) h (by rw [El.len]; omega) (by unfold splL; simp [El.len])
  rwa [Nat.add_zero] at this
/-- a whole element is stored; the value's cells are the element's -/
theorem q_store {x y : Operand} {i : Int} {u : Value} {v : α} (hS : Sep w B (oS E a n cap xs :: L)) (hsz : ∀ w, (sizeOf ty).run P w = .ok (El.m α) w) (hg : ix i xs.length) (hx : ev e x = .pointer (some ((adr a).add (i.toNat * El.m α)))) (hy : ev e y = u) (hc : u.cells = (El.enc v).toArray) :
    OpG P ⟨d, .store ty x y, ty', p, af, gd⟩ e w (fun v' w' => v' = undef ∧ Sep w' B (oS E a n cap (xs.set i.toNat v) :: L) ∧ Below B w w') := by
  have hO : Own w 0 E (El.m α) a n cap (encs xs) := hS.g0
  have hn : n = xs.length := oS.len hS.g0
  have hi : i.toNat < xs.length := by have := hg.1; have := hg.2; omega
  have hlt := idx_lt (m := El.m α) (n := xs.length) (i := i.toNat) (j := 0) hi El.pos
  refine (g_storeO (vs := El.enc v) hO (by rw [El.len]; exact hsz) hx hy hc (El.one v) (by rw [El.len]; exact El.pos) (by
    rw [El.len, encs_len]
    have : (i.toNat + 1) * El.m α ≤ xs.length * El.m α := Nat.mul_le_mul_right _ hi
    rw [Nat.succ_mul] at this; exact this)).mono ?_
  rintro v' w' ⟨h1, h2, h3⟩
  rw [splE0 _ _ hi] at h2
  exact ⟨h1, hS.upd h3 (fun k hk => hk) h2 fun k hk => .inl hk, hS.stp h3 fun k hk => hk⟩
theorem q_storeC {x y : Operand} {i : Int} {u : Value} {v : α} (hS : Sep w B (oS E a n cap xs :: L)) (hsz : ∀ w, (sizeOf ty).run P w = .ok (El.m α) w) (hg : ix i xs.length) (hx : ev e x = .pointer (some ((adr a).add (i.toNat * El.m α)))) (hy : ev e y = u) (hc : u.cells = (El.enc v).toArray) :
    OpG P ⟨d, .store ty x y, ty', p, af, gd⟩ e w (fun v' w' => v' = undef ∧ Sep w' B (oS E a n cap (xs.set i.toNat v) :: L) ∧ Below B w w' ∧ Chg w w' (blk a)) := by
  have hO : Own w 0 E (El.m α) a n cap (encs xs) := hS.g0
  have hn : n = xs.length := oS.len hS.g0
  have hi : i.toNat < xs.length := by have := hg.1; have := hg.2; omega
  refine (g_storeO (vs := El.enc v) hO (by rw [El.len]; exact hsz) hx hy hc (El.one v) (by rw [El.len]; exact El.pos) (by
    rw [El.len, encs_len]
    have : (i.toNat + 1) * El.m α ≤ xs.length * El.m α := Nat.mul_le_mul_right _ hi
    rw [Nat.succ_mul] at this; exact this)).mono ?_
  rintro v' w' ⟨h1, h2, h3⟩
  rw [splE0 _ _ hi] at h2
  exact ⟨h1, hS.upd h3 (fun k hk => hk) h2 fun k hk => .inl hk, hS.stp h3 fun k hk => hk, h3⟩
/-- one cell of an element is stored -/
theorem q_storeF {x y : Operand} {i : Int} {j : Nat} {u : Value} {v : α} (hS : Sep w B (oS E a n cap xs :: L)) (ho : One P ty) (hg : ix i xs.length) (hx : ev e x = .pointer (some (((adr a).add (i.toNat * El.m α)).add j))) (hy : ev e y = u) (hc : u.cells = #[u]) (h1 : u.oneCell' = true)
    (hj : j < El.m α) (hv : El.enc v = splL (El.enc xs[i.toNat]!) j [u]) :
    OpG P ⟨d, .store ty x y, ty', p, af, gd⟩ e w (fun v' w' => v' = undef ∧ Sep w' B (oS E a n cap (xs.set i.toNat v) :: L) ∧ Below B w w') := by
  have hO : Own w 0 E (El.m α) a n cap (encs xs) := hS.g0
  have hn : n = xs.length := oS.len hS.g0
  have hi : i.toNat < xs.length := by have := hg.1; have := hg.2; omega
  have hlt := idx_lt (m := El.m α) (n := xs.length) hi hj
  refine (g_storeO (vs := [u]) hO ho.sz (by rw [hx, add_add]) hy hc (by simpa using h1) (by simp) (by rw [encs_len]; simp; omega)).mono ?_
  rintro v' w' ⟨h2, h3, h4⟩
  rw [splE _ _ v _ hi (by simp; omega) hv] at h3
  exact ⟨h2, hS.upd h4 (fun k hk => hk) h3 fun k hk => .inl hk, hS.stp h4 fun k hk => hk⟩

/- variables in memory -/
theorem q_box {x : Operand} {v : Value} {cs : Array Value} (hx : ev e x = v) (hv : v.cells = cs) (hS : Sep w B L) : OpG P ⟨d, .box ty x, t, p, af, gd⟩ e w (fun v w' => ∃ g, v = .pointer (some ⟨g, 0, none⟩) ∧ Sep w' B (oB g ty cs :: L) ∧ Ext w w') :=
  (g_box hx hv).mono fun v w' ⟨g, h1, h2, h3, h4⟩ => ⟨g, h1, hS.push h4 h3 fun k hk => by cases hk; exact h2, h4⟩
theorem q_alloc {cs : Array Value} (hz : Zer P ty z) (hv : z.cells = cs) (hS : Sep w B L) : OpG P ⟨d, .alloc ty, t, p, af, gd⟩ e w (fun v w' => ∃ g, v = .pointer (some ⟨g, 0, none⟩) ∧ Sep w' B (oB g ty cs :: L) ∧ Ext w w') :=
  (g_alloc hz hv).mono fun v w' ⟨g, h1, h2, h3, h4⟩ => ⟨g, h1, hS.push h4 h3 fun k hk => by cases hk; exact h2, h4⟩
theorem q_storeB {x y : Operand} {g i : Nat} {bs bs' : Array Value} {v : Value} {vs : List Value} (hS : Sep w B (oB g t bs :: L)) (hs : ∀ w, (sizeOf ty).run P w = .ok vs.length w)
    (hx : ev e x = .pointer (some ((⟨g, 0, none⟩ : Addr).add i))) (hy : ev e y = v) (hv : v.cells = vs.toArray) (h1 : ∀ u ∈ vs, u.oneCell' = true) (hk : i + vs.length ≤ bs.size) (hb : (splL bs.toList i vs).toArray = bs') :
    OpG P ⟨d, .store ty x y, ty', p, af, gd⟩ e w (fun v' w' => v' = undef ∧ Sep w' B (oB g t bs' :: L) ∧ Below B w w') := by
  refine (g_storeB hS.g0 hs hx hy hv h1 hk hb).mono ?_
  rintro v' w' ⟨h2, h3, h4⟩
  exact ⟨h2, hS.upd h4 (fun k hk => by cases hk; rfl) h3 fun k hk => .inl hk, hS.stp h4 fun k hk => by cases hk; rfl⟩
theorem q_loadB {x : Operand} {g i : Nat} {bs : Array Value} {v : Value} (hb : (oB g E bs).ok w) (ho : One P ty) (hx : ev e x = .pointer (some ((⟨g, 0, none⟩ : Addr).add i))) (hv : bs[i]? = some v) : OpG P ⟨d, .load ty x, t, p, af, gd⟩ e w (Is v w) := g_load1 ho hx (Blk.at0 hb hv)
theorem q_loadBS {x : Operand} {g : Nat} {bs : Array Value} (hb : (oB g E bs).ok w) (ho : Agg P ty bs.toList.length) (hx : ev e x = .pointer (some ⟨g, 0, none⟩)) : OpG P ⟨d, .load ty x, t, p, af, gd⟩ e w (Is (.agg bs) w) :=
  g_loadS (cs := bs.toList) ho hx (Blk.all hb rfl)

/- calls: a step that leaves a value and new objects -/
theorem g_callE {f : FuncId} {args : Array Operand} {tys : Array TypeId} {vs : Array Value} {R : Value → World → Prop} (hc : CallF P f) (ha : args.map (ev e) = vs) (hF : Fn P f vs w R) : OpG P ⟨d, .call ⟨.value (.func f), args, tys⟩, t, p, af, gd⟩ e w R := g_call hc ha hF
end

/- tests -/
theorem i_tt : (true = true) ↔ True := by simp
theorem i_ff : (false = true) ↔ False := by simp
theorem i_not {b : Bool} {p : Prop} (h : b = true ↔ p) : (!b) = true ↔ ¬ p := by rw [← h]; cases b <;> simp
theorem i_and {a b : Bool} {p q : Prop} (h : a = true ↔ p) (k : b = true ↔ q) : (a && b) = true ↔ (p ∧ q) := by rw [← h, ← k]; cases a <;> cases b <;> simp
theorem i_or {a b : Bool} {p q : Prop} (h : a = true ↔ p) (k : b = true ↔ q) : (a || b) = true ↔ (p ∨ q) := by rw [← h, ← k]; cases a <;> cases b <;> simp
theorem i_neg {b : Bool} {p : Prop} (h : b = true ↔ p) (hb : b = false) : ¬ p := fun hp => by rw [h.2 hp] at hb; cases hb
theorem w_condI {P : Program} {n : Nat} {Q : QE} {e : Env} {w : World} {c : Operand} {x y : Code} {p : Prop} {b : Bool} (hc : ev e c = .bool b) (hi : b = true ↔ p) (ht : p → Wp P n x Q e w) (hf : ¬ p → Wp P n y Q e w) : Wp P n (.cond c x y) Q e w :=
  w_cond hc (fun h => ht (hi.1 h)) (fun h => hf (i_neg hi h))
theorem gv_gd {ops : List Oper} {e : Env} {o : Oper} {j d : Nat} {want x : Bool} {C : Prop} [Decidable C] (hg : o.guard = some (j, want)) (hj : (ops[j]?).bind (·.dst) = some d) (he : e d = if C then .bool x else undef) : gv ops e o = decide (C ∧ x = want) := by
  by_cases h : C
  · simp only [gv, hg, hj, Option.map_some, he, if_pos h]
    by_cases hx : x = want <;> simp [h, hx]
  · simp only [gv, hg, hj, Option.map_some, he, if_neg h]
    simp [h, undef]

theorem Sep.chgT {w w' : World} {B : Nat} {L : List Ob} {o : Ob} {row : Option Nat} (h : Sep w B (o :: L)) (hg : Chg w w' row) (hr : ∀ k, row = some k → o.fp k) : Sep w' B L :=
  ⟨h.tail.h.keep (fun k hk => hg.block k (h.tail.h.lt k hk).2 fun e => (h.h.2.1 k (hr k e.symm)).2 hk) hg.size⟩
theorem q_then {K : Env → World → Prop} {Q : QE} {e : Env} {w : World} (h : Q .ret e w) : thenQ K Q .ret e w := h
theorem q_block {id : Nat} {Q : QE} {e : Env} {w : World} (h : Q .ret e w) : blockQ id Q .ret e w := h

/- integers -/
section
variable {P : Program} {n k : Nat} {e : Env} {w : World} {d : Option Nat} {t ty ty' E E2 : TypeId} {p : String} {af : Array Edge} {gd : Option (Nat × Bool)} {by' B hi c cap N : Nat} {a : Option Addr} {z : Value} {L : List Ob}
theorem g_quo {x y : Operand} {a b : Int} (hx : ev e x = .int .i64 a) (hy : ev e y = .int .i64 b) (hb : b ≠ 0) (hq : ok64 (Int.tdiv a b)) : OpG P ⟨d, .binOp .quo ty x y ty', t, p, af, gd⟩ e w (Is (.int .i64 (Int.tdiv a b)) w) := by
  refine g_run ?_
  simp [execOp, eqGuard, binOp, hx, hy, Op.intDiv, hb, wrap_in hq]
theorem g_shr {x y : Operand} {k : IntKind} {a b : Int} (hx : ev e x = .int .i64 a) (hy : ev e y = .int k b) (hb : 0 ≤ b ∧ b < 64) : OpG P ⟨d, .binOp .shr ty x y ty', t, p, af, gd⟩ e w (Is (.int .i64 (sar a b)) w) := by
  refine g_run ?_
  have h1 : ¬ b < 0 := by omega
  have h2 : min b.toNat 64 = b.toNat := by omega
  simp [execOp, eqGuard, binOp, hx, hy, Op.shift, h1, h2, IntKind.bits, sar]
theorem g_shl {x y : Operand} {k : IntKind} {a b : Int} (hx : ev e x = .int .i64 a) (hy : ev e y = .int k b) (hb : 0 ≤ b ∧ b < 64) (hq : ok64 (sal a b)) : OpG P ⟨d, .binOp .shl ty x y ty', t, p, af, gd⟩ e w (Is (.int .i64 (sal a b)) w) := by
  refine g_run ?_
  have h1 : ¬ b < 0 := by omega
  have h2 : min b.toNat 64 = b.toNat := by omega
  have h3 : IntKind.i64.wrap (a * 2 ^ b.toNat) = sal a b := wrap_in hq
  simp [execOp, eqGuard, binOp, hx, hy, Op.shift, h1, h2, IntKind.bits, h3]
theorem bv_nat {a : Int} (h0 : 0 ≤ a) (h1 : a < 9223372036854775808) : (BitVec.ofInt 64 a).toNat = a.toNat := by
  rw [BitVec.toNat_ofInt]; omega
theorem g_band {x y : Operand} {a b : Int} (hx : ev e x = .int .i64 a) (hy : ev e y = .int .i64 b) (hb : 0 ≤ a ∧ 0 ≤ b ∧ a < 9223372036854775808 ∧ b < 9223372036854775808) : OpG P ⟨d, .binOp .and ty x y ty', t, p, af, gd⟩ e w (Is (.int .i64 (band a b)) w) := by
  refine g_run ?_
  have h : IntKind.i64.wrap ((a.toNat &&& b.toNat : Nat) : Int) = band a b := wrap_in (by
    have := @Nat.and_le_left a.toNat b.toNat
    unfold inI; omega)
  have h2 := bv_nat hb.1 hb.2.2.1
  have h3 := bv_nat hb.2.1 hb.2.2.2
  have h4 : (BitVec.ofInt 64 a &&& BitVec.ofInt 64 b).toNat = a.toNat &&& b.toNat := by rw [BitVec.toNat_and, h2, h3]
  have h5 : Op.intBits .and .i64 a b = pure (.int .i64 (band a b)) := by
    show (pure (Value.int .i64 (IntKind.i64.wrap (((BitVec.ofInt 64 a &&& BitVec.ofInt 64 b).toNat : Nat) : Int))) : Sem Value) = _
    rw [h4, h]
  simp [execOp, eqGuard, binOp, hx, hy, h5]
theorem g_bor {x y : Operand} {a b : Int} (hx : ev e x = .int .i64 a) (hy : ev e y = .int .i64 b) (hb : 0 ≤ a ∧ 0 ≤ b ∧ a < 9223372036854775808 ∧ b < 9223372036854775808) : OpG P ⟨d, .binOp .or ty x y ty', t, p, af, gd⟩ e w (Is (.int .i64 (bor a b)) w) := by
  refine g_run ?_
  have hlt : a.toNat ||| b.toNat < 2 ^ 63 := Nat.or_lt_two_pow (by omega) (by omega)
  have h : IntKind.i64.wrap ((a.toNat ||| b.toNat : Nat) : Int) = bor a b := wrap_in (by unfold inI; omega)
  have h2 := bv_nat hb.1 hb.2.2.1
  have h3 := bv_nat hb.2.1 hb.2.2.2
  have h4 : (BitVec.ofInt 64 a ||| BitVec.ofInt 64 b).toNat = a.toNat ||| b.toNat := by rw [BitVec.toNat_or, h2, h3]
  have h5 : Op.intBits .or .i64 a b = pure (.int .i64 (bor a b)) := by
    show (pure (Value.int .i64 (IntKind.i64.wrap (((BitVec.ofInt 64 a ||| BitVec.ofInt 64 b).toNat : Nat) : Int))) : Sem Value) = _
    rw [h4, h]
  simp [execOp, eqGuard, binOp, hx, hy, h5]
end

/- tables: making, taking, laying back -/
section
variable {P : Program} {n : Nat} {e : Env} {w : World} {d : Option Nat} {ty ty' E E2 : TypeId} {p : String} {af : Array Edge} {gd : Option (Nat × Bool)} {B c cap : Nat} {a : Option Addr} {L : List Ob}
variable {δ γ α : Type} [El δ] [Inhabited δ] [Rw δ α] [El α] [Inhabited α] [Er δ γ] [Inhabited γ]
theorem Vw.take {α : Type} [El α] [Inhabited α] {hi n c : Nat} {w : World} {a : Option Addr} {xs : List α} (h : Vw hi w a n c xs) (k : Nat) (hk : k ≤ xs.length) : Vw hi w a k c (xs.take k) := by
  refine ⟨⟨fun hp => h.cells.1 ?_, fun j hj => ?_⟩, by simp; omega, h.nil, Nat.le_trans hk (by rw [← h.len]; exact h.le)⟩
  · rw [encs_len] at hp ⊢
    exact Nat.lt_of_lt_of_le hp (Nat.mul_le_mul_right _ (by simp; omega))
  · have e1 : encs (xs.take k) ++ encs (xs.drop k) = encs xs := by rw [← List.flatMap_append, List.take_append_drop]
    have hj2 : j < (encs xs).length := by rw [← e1, List.length_append]; omega
    have h2 := h.cells.2 j hj2
    rw [h2]
    congr 1
    rw [getElem!_pos (encs xs) j hj2, getElem!_pos _ j hj]
    have : (encs (xs.take k) ++ encs (xs.drop k))[j]? = (encs (xs.take k))[j]? := List.getElem?_append_left hj
    rw [e1, List.getElem?_eq_getElem hj2, List.getElem?_eq_getElem hj, Option.some_inj] at this
    exact this
theorem Vw.drop {α : Type} [El α] [Inhabited α] {hi n c : Nat} {w : World} {a : Option Addr} {xs : List α} (h : Vw hi w a n c xs) (k : Nat) (hk : k ≤ xs.length) : Vw hi w (if c = k then a else a.map (·.add (k * El.m α))) (n - k) (c - k) (xs.drop k) := by
  have hle := h.le
  have hlen := h.len
  have hcases : (xs.drop k).length = 0 ∨ (c ≠ k ∧ ∃ x, a = some x ∧ 0 ≤ x.block ∧ x.block < hi) := by
    by_cases h0 : xs.length = k
    · exact .inl (by simp; omega)
    · refine .inr ⟨by omega, h.cells.1 ?_⟩
      rw [encs_len]
      exact Nat.mul_pos (by omega) El.pos
  refine ⟨?_, by simp; omega, fun hn => ?_, by omega⟩
  · rcases hcases with h0 | ⟨hc, x, rfl, hb⟩
    · rw [List.length_eq_zero_iff.1 h0]
      exact ⟨fun hp => absurd hp (by simp [encs]), fun j hj => absurd hj (by simp [encs])⟩
    · rw [if_neg hc]
      have e1 : encs (xs.take k) ++ encs (xs.drop k) = encs xs := by rw [← List.flatMap_append, List.take_append_drop]
      have el : (encs (xs.take k)).length = k * El.m α := by rw [encs_len]; congr 1; simp; omega
      refine ⟨fun _ => ⟨_, rfl, by rw [block_add]; exact hb.1, by rw [block_add]; exact hb.2⟩, fun j hj => ?_⟩
      have hj2 : k * El.m α + j < (encs xs).length := by rw [← e1, List.length_append, el]; omega
      have h2 := h.cells.2 _ hj2
      show w.cell? ((x.add (k * El.m α)).add j) = _
      rw [add_add]
      refine h2.trans ?_
      congr 1
      rw [getElem!_pos (encs xs) _ hj2, getElem!_pos _ j hj]
      have : (encs (xs.take k) ++ encs (xs.drop k))[k * El.m α + j]? = (encs (xs.drop k))[j]? := by
        rw [List.getElem?_append_right (by omega), el, Nat.add_sub_cancel_left]
      rw [e1, List.getElem?_eq_getElem hj2, List.getElem?_eq_getElem hj, Option.some_inj] at this
      exact this
  · by_cases hc : c = k
    · omega
    · rw [if_neg hc] at hn
      have := h.nil (by cases a <;> simp_all)
      omega
theorem Sep.cut {α : Type} [El α] [Inhabited α] {w : World} {B : Nat} {E : TypeId} {a : Option Addr} {n c : Nat} {xs : List α} {L : List Ob} (h : Sep w B (oS E a n c xs :: L)) (k : Nat) (hk : k ≤ xs.length) : Sep w B (oS E a k c (xs.take k) :: L) := by
  have hl := oS.len h.g0
  refine h.repl ?_ (fun _ hk => hk)
  obtain ⟨h1, h2⟩ := h.g0
  refine ⟨by rw [encs_len, List.length_take, Nat.min_eq_left hk], ?_⟩
  rcases h2 with ⟨e, h0⟩ | ⟨g, c', cur, e, hb, hh, hn, hm, hs, ht⟩
  · injection e with e1 e2 e3
    subst e1 e3
    have : k = 0 := by omega
    subst this
    exact .inl ⟨rfl, rfl⟩
  · injection e with e1 e2 e3
    subst e1 e3
    refine .inr ⟨g, c, cur, rfl, hb, hh, by omega, hm, hs, ?_⟩
    have e1 : encs (xs.take k) ++ encs (xs.drop k) = encs xs := by rw [← List.flatMap_append, List.take_append_drop]
    have el : (encs (xs.take k)).length = k * El.m α := by rw [encs_len, List.length_take, Nat.min_eq_left hk]
    have h3 : (encs xs).take (k * El.m α) = encs (xs.take k) := by rw [← e1, List.take_append_of_le_length (by rw [el]; exact Nat.le_refl _), List.take_of_length_le (by rw [el]; exact Nat.le_refl _)]
    have := congrArg (List.take (k * El.m α)) ht
    rw [List.take_take, Nat.min_eq_left (Nat.mul_le_mul_right _ (by omega)), h3] at this
    exact this
section
variable {P : Program} {n c : Nat} {e : Env} {w : World} {d : Option Nat} {t ty E : TypeId} {p : String} {af : Array Edge} {gd : Option (Nat × Bool)} {by' hi m : Nat} {a : Option Addr} {z : Value} {nn : Nat}
theorem elem_of {P : Program} {t E : TypeId} (h : P.underlying t = some (.slice E)) : P.underlying t = some (.slice (P.elem t)) := by
  have : P.elem t = E := by simp [Program.elem, h]
  rw [this]; exact h
theorem q_sliceH {α : Type} [El α] [Inhabited α] {xs : List α} {x y : Operand} {k : IntKind} {h : Int} (hT : ElT P ty E (El.m α) by' z) (hx : ev e x = .slice a n c) (hy : ev e y = .int k h) (hv : Vw hi w a n c xs) (hg : 0 ≤ h ∧ h ≤ (xs.length : Int)) :
    OpG P ⟨d, .slice ty x none (some y) none, t, p, af, gd⟩ e w (Is (.slice a h.toNat c) w) := by
  have hc : h ≤ (c : Int) := by have := hv.le; have := hv.len; omega
  obtain ⟨i, hi, _, hs, _⟩ := hT.hi
  refine g_run ?_
  have h1 := run_slice_h (P := P) w ty a n c (elem_of hT.hu) k h hg.1 hc
  have h2 : P.elem ty = E := by simp [Program.elem, hT.hu]
  have h3 : (sizeOf E).run P w = .ok (El.m α) w := by simp [sizeOf, typeInfo, hi, hs]
  rw [h2, h3] at h1
  have h4 : sliced a 0 h.toNat c (El.m α) = .slice a h.toNat c := by
    unfold sliced
    congr 1
    split
    · rfl
    · cases a with
      | none => rfl
      | some x => simp [Addr.add]
  have h5 := run_sliceAt_slice (P := P) w ty (.slice a n c) none (some (.int k h)) none (elem_of hT.hu)
  simp [execOp, hx, hy, h5, h1, Result.andThen, h4]
theorem q_sliceL {α : Type} [El α] [Inhabited α] {xs : List α} {x y : Operand} {k : IntKind} {l : Int} (hT : ElT P ty E (El.m α) by' z) (hx : ev e x = .slice a n c) (hy : ev e y = .int k l) (hv : Vw hi w a n c xs) (hg : 0 ≤ l ∧ l ≤ (xs.length : Int)) :
    OpG P ⟨d, .slice ty x (some y) none none, t, p, af, gd⟩ e w (Is (.slice (if c = l.toNat then a else a.map (·.add (l.toNat * El.m α))) (n - l.toNat) (c - l.toNat)) w) := by
  have hn : l ≤ (n : Int) := by have := hv.len; omega
  obtain ⟨i, hi, _, hs, _⟩ := hT.hi
  refine g_run ?_
  have h1 := run_slice_l (P := P) w ty a n c (elem_of hT.hu) k l hg.1 hn
  have h2 : P.elem ty = E := by simp [Program.elem, hT.hu]
  have h3 : (sizeOf E).run P w = .ok (El.m α) w := by simp [sizeOf, typeInfo, hi, hs]
  rw [h2, h3] at h1
  have h5 := run_sliceAt_slice (P := P) w ty (.slice a n c) (some (.int k l)) none none (elem_of hT.hu)
  simp [execOp, hx, hy, h5, h1, Result.andThen, sliced]
end
theorem Sep.noRows (h : Sep w B L) : Sep w B (oT E ([] : List δ) :: L) :=
  have _ := (inferInstance : El δ); have _ := (inferInstance : Inhabited α); ⟨⟨fun i j hi => absurd hi (Nat.not_lt_zero _), fun i j i' j' k hi => absurd hi (Nat.not_lt_zero _)⟩, fun k ⟨i, j, hi, _⟩ => absurd hi (Nat.not_lt_zero _), h.h⟩
theorem Sep.nilRows {y : δ} (hy : ∀ j, j < Rw.k δ → Rw.row y j = (none, 0, [])) (h : Sep w B L) (n : Nat) : Sep w B (oT E (List.replicate n y) :: L) := by
  have _ := (inferInstance : El δ)
  have _ := (inferInstance : Inhabited α)
  have e : ∀ i, i < (List.replicate n y).length → (List.replicate n y)[i]! = y := by intro i hi; simp at hi; simp [hi]
  refine ⟨⟨fun i j hi hj _ => ?_, fun i j i' j' k hi hj _ hi' hj' _ hk => ?_⟩, ?_, h.h⟩
  · rw [e i hi, hy j hj]; exact Own.nilrow w 0 E (El.m α)
  · rw [e i hi, hy j hj] at hk; cases hk
  · rintro k ⟨i, j, hi, hj, _, hk⟩
    rw [e i hi, hy j hj] at hk; cases hk
theorem Sep.oneRow {α : Type} [El α] [Inhabited α] {xs : List α} (h : Sep w B (oS E a n c xs :: L)) : Sep w B (oT E [((a, c, xs) : Hd α)] :: L) := by
  have hn := oS.len h.g0
  subst hn
  have e : ∀ i j, i < [((a, c, xs) : Hd α)].length → Rw.row ([((a, c, xs) : Hd α)][i]!) j = (a, c, xs) := by
    intro i j hi
    have : i = 0 := by simp at hi; exact hi
    subst this; rfl
  have hk1 : ∀ j, j < Rw.k (Hd α) → j = 0 := fun j hj => by have h1 : j < 1 := hj; omega
  refine h.repl ⟨fun i j hi hj _ => ?_, fun i j i' j' k hi hj _ hi' hj' _ _ _ => ?_⟩ ?_
  · rw [e i j hi]; exact h.g0
  · simp at hi hi'; exact ⟨by omega, by rw [hk1 j hj, hk1 j' hj']⟩
  · rintro k ⟨i, j, hi, hj, _, hk⟩
    rw [e i j hi] at hk; exact hk
theorem Sep.takeRow {ys : List δ} {i : Nat} (h : Sep w B (oT E ys :: L)) (hi : i < ys.length) : Sep w B (oT E [ys[i]!] :: L) := by
  have _ := (inferInstance : El δ)
  have _ := (inferInstance : Inhabited α)
  have e : ∀ i' : Nat, i' < [ys[i]!].length → [ys[i]!][i']! = ys[i]! := by
    intro i' h'
    have : i' = 0 := by simp at h'; exact h'
    subst this; rfl
  refine h.repl ⟨fun i' j h' hj _ => ?_, fun i1 j1 i2 j2 k h1 hj1 _ h2 hj2 _ hk1 hk2 => ?_⟩ ?_
  · rw [e i' h']; exact h.g0.1 i j hi hj id
  · rw [e i1 h1] at hk1
    rw [e i2 h2] at hk2
    have := (h.g0.2 i j1 i j2 k hi hj1 id hi hj2 id hk1 hk2).2
    simp at h1 h2
    exact ⟨by omega, this⟩
  · rintro k ⟨i', j, h', hj, _, hk⟩
    rw [e i' h'] at hk
    exact ⟨i, j, hi, hj, id, hk⟩
theorem Sep.catRows {xs ys : List δ} (h : Sep w B (oT E xs :: oT E ys :: L)) : Sep w B (oT E (ys ++ xs) :: L) := by
  have _ := (inferInstance : El δ)
  have _ := (inferInstance : Inhabited α)
  have hd : ∀ k, (oT E xs).fp k → ¬ (oT E ys).fp k := fun k hk hk2 => (h.h.2.1 k hk).2 (.inl hk2)
  have e1 : ∀ i, i < ys.length → (ys ++ xs)[i]! = ys[i]! := by intro i hi; simp [List.getElem!_eq_getElem?_getD, List.getElem?_append, hi]
  have e2 : ∀ i, ¬ i < ys.length → (ys ++ xs)[i]! = xs[i - ys.length]! := by intro i hi; simp [List.getElem!_eq_getElem?_getD, List.getElem?_append, hi]
  have hl : ∀ i, i < (ys ++ xs).length → ¬ i < ys.length → i - ys.length < xs.length := by intro i h1 h2; simp at h1; omega
  refine h.join ⟨fun i j hi hj _ => ?_, fun i j i' j' k hi hj _ hi' hj' _ hk hk' => ?_⟩ ?_
  · by_cases hc : i < ys.length
    · rw [e1 i hc]; exact h.g1.1 i j hc hj id
    · rw [e2 i hc]; exact h.g0.1 _ j (hl i hi hc) hj id
  · by_cases hc : i < ys.length <;> by_cases hc' : i' < ys.length
    · rw [e1 i hc] at hk; rw [e1 i' hc'] at hk'; exact h.g1.2 i j i' j' k hc hj id hc' hj' id hk hk'
    · rw [e1 i hc] at hk; rw [e2 i' hc'] at hk'
      exact absurd ⟨i, j, hc, hj, id, hk⟩ (hd k ⟨_, j', hl i' hi' hc', hj', id, hk'⟩)
    · rw [e2 i hc] at hk; rw [e1 i' hc'] at hk'
      exact absurd ⟨i', j', hc', hj', id, hk'⟩ (hd k ⟨_, j, hl i hi hc, hj, id, hk⟩)
    · rw [e2 i hc] at hk; rw [e2 i' hc'] at hk'
      have := h.g0.2 _ j _ j' k (hl i hi hc) hj id (hl i' hi' hc') hj' id hk hk'
      exact ⟨by omega, this.2⟩
  · rintro k ⟨i, j, hi, hj, _, hk⟩
    by_cases hc : i < ys.length
    · rw [e1 i hc] at hk; exact .inr ⟨i, j, hc, hj, id, hk⟩
    · rw [e2 i hc] at hk; exact .inl ⟨_, j, hl i hi hc, hj, id, hk⟩
theorem er_get {ys : List δ} {i : Nat} (hi : i < ys.length) : (ers ys)[i]! = Er.er ys[i]! := by have _ := (inferInstance : El δ); simp [ers, hi]
theorem ers_one {y : δ} {z : γ} (h : ers [y] = [z]) : Er.er y = z := by have _ := (inferInstance : El δ); have _ := (inferInstance : Inhabited δ); have _ := (inferInstance : Inhabited γ); simpa [ers] using h
/-- the rows of a table whose element i is laid anew: the new element's rows come in, the old one's are given up -/
theorem Sep.setRows {ys : List δ} {y : δ} {i : Nat} (h : Sep w B (oT E [y] :: oT E ys :: L)) (hi : i < ys.length) : Sep w B (oT E (ys.set i y) :: L) := by
  have _ := (inferInstance : El δ)
  have _ := (inferInstance : Inhabited α)
  have hd : ∀ k, (oT E [y]).fp k → ¬ (oT E ys).fp k := fun k hk hk2 => (h.h.2.1 k hk).2 (.inl hk2)
  have g0 : (oT E [y]).ok w := h.g0
  have e : ∀ j, (ys.set i y)[j]! = if i = j then y else ys[j]! := fun j => by
    simp only [List.getElem!_eq_getElem?_getD, List.getElem?_set]
    by_cases hj : i = j
    · subst hj; simp [hi]
    · simp [hj]
  have hl : (ys.set i y).length = ys.length := by simp
  have one : 0 < [y].length := by simp
  have y0 : [y][0]! = y := rfl
  refine h.join ⟨fun i1 j hi1 hj _ => ?_, fun i1 j i2 j2 k hi1 hj _ hi2 hj2 _ hk hk2 => ?_⟩ ?_
  · rw [e i1]
    by_cases hc : i = i1
    · rw [if_pos hc]; exact g0.1 0 j one hj id
    · rw [if_neg hc]; exact h.g1.1 i1 j (by omega) hj id
  · rw [e i1] at hk
    rw [e i2] at hk2
    by_cases hc : i = i1 <;> by_cases hc2 : i = i2
    · rw [if_pos hc] at hk; rw [if_pos hc2] at hk2
      exact ⟨by omega, (g0.2 0 j 0 j2 k one hj id one hj2 id hk hk2).2⟩
    · rw [if_pos hc] at hk; rw [if_neg hc2] at hk2
      exact absurd ⟨i2, j2, by omega, hj2, id, hk2⟩ (hd k ⟨0, j, one, hj, id, hk⟩)
    · rw [if_neg hc] at hk; rw [if_pos hc2] at hk2
      exact absurd ⟨i1, j, by omega, hj, id, hk⟩ (hd k ⟨0, j2, one, hj2, id, hk2⟩)
    · rw [if_neg hc] at hk; rw [if_neg hc2] at hk2
      exact h.g1.2 i1 j i2 j2 k (by omega) hj id (by omega) hj2 id hk hk2
  · rintro k ⟨i1, j, hi1, hj, _, hk⟩
    rw [e i1] at hk
    by_cases hc : i = i1
    · rw [if_pos hc] at hk; exact .inl ⟨0, j, one, hj, id, hk⟩
    · rw [if_neg hc] at hk; exact .inr ⟨i1, j, by omega, hj, id, hk⟩
theorem q_setT {x x' : Operand} {i : Int} {u : Value} {y : δ} {ys : List δ} {t : List γ} (hS : Sep w B (oT E2 [y] :: oS E a n cap ys :: oT E2 ys :: L)) (he : ers ys = t) (hg : ix i t.length) (hsz : ∀ w, (sizeOf ty).run P w = .ok (El.m δ) w)
    (hx : ev e x = .pointer (some ((adr a).add (i.toNat * El.m δ)))) (hy : ev e x' = u) (hc : u.cells = (El.enc y).toArray) :
    OpG P ⟨d, .store ty x x', ty', p, af, gd⟩ e w (fun v' w' => v' = undef ∧ ∃ ys' : List δ, ers ys' = t.set i.toNat (Er.er y) ∧ Sep w' B (oS E a n cap ys' :: oT E2 ys' :: L) ∧ Below B w w') := by
  have _ := (inferInstance : Inhabited γ)
  have hl : ys.length = t.length := by rw [← he]; simp
  have hi : i.toNat < ys.length := by have := hg.1; have := hg.2; omega
  refine (q_store hS.f1 hsz (by rw [hl]; exact hg) hx hy hc).mono ?_
  rintro v' w' ⟨h1, h2, h3⟩
  refine ⟨h1, ys.set i.toNat y, by rw [← he]; simp [ers], ?_, h3⟩
  exact h2.under (fun h => h.setRows hi) (fun k hk => by
    rcases hk with hk | hk
    · have h4 := (h2.tail.join (o := oT E2 (ys.set i.toNat y)) (h2.tail.setRows hi).g0 (fun k hk => ?_))
      · rcases hk with ⟨i1, j, hi1, hj, _, hk⟩
        have e : (ys.set i.toNat y)[i1]! = if i.toNat = i1 then y else ys[i1]! := by
          simp only [List.getElem!_eq_getElem?_getD, List.getElem?_set]
          by_cases hj : i.toNat = i1
          · subst hj; simp [hi]
          · simp [hj]
        rw [e] at hk
        by_cases hc : i.toNat = i1
        · rw [if_pos hc] at hk; exact .inl ⟨0, j, by simp, hj, id, hk⟩
        · rw [if_neg hc] at hk; exact .inr (.inl ⟨i1, j, by simpa using hi1, hj, id, hk⟩)
      · rcases hk with ⟨i1, j, hi1, hj, _, hk⟩
        have e : (ys.set i.toNat y)[i1]! = if i.toNat = i1 then y else ys[i1]! := by
          simp only [List.getElem!_eq_getElem?_getD, List.getElem?_set]
          by_cases hj : i.toNat = i1
          · subst hj; simp [hi]
          · simp [hj]
        rw [e] at hk
        by_cases hc : i.toNat = i1
        · rw [if_pos hc] at hk; exact .inl ⟨0, j, by simp, hj, id, hk⟩
        · rw [if_neg hc] at hk; exact .inr ⟨i1, j, by simpa using hi1, hj, id, hk⟩
    · exact .inr (.inr hk))
end
/-- one element of one row is stored -/
theorem q_row {P : Program} {n : Nat} {e : Env} {w : World} {d : Option Nat} {ty ty' E E2 : TypeId} {p : String} {af : Array Edge} {gd : Option (Nat × Bool)} {B cap : Nat} {a : Option Addr} {L : List Ob} {α : Type} [El α] [Inhabited α]
    {x x' : Operand} {i k : Int} {u : Value} {v : α} {ys : List (Hd α)} {t : List (List α)} (hS : Sep w B (oS E a n cap ys :: oT E2 ys :: L)) (he : ers ys = t) (hi : ix i t.length) (hk : ix k t[i.toNat]!.length) (hsz : ∀ w, (sizeOf ty).run P w = .ok (El.m α) w)
    (hx : ev e x = .pointer (some ((adr (ys[i.toNat]!).1).add (k.toNat * El.m α)))) (hy : ev e x' = u) (hc : u.cells = (El.enc v).toArray) :
    OpG P ⟨d, .store ty x x', ty', p, af, gd⟩ e w (fun v' w' => v' = undef ∧ ∃ ys' : List (Hd α), ers ys' = t.set i.toNat (t[i.toNat]!.set k.toNat v) ∧ Sep w' B (oS E a n cap ys' :: oT E2 ys' :: L) ∧ Below B w w') := by
  have hl : ys.length = t.length := by rw [← he]; simp
  have hilt : i.toNat < ys.length := by have := hi.1; have := hi.2; omega
  have ht : t[i.toNat]! = (ys[i.toNat]!).2.2 := by rw [← he]; exact er_get hilt
  generalize hr : ys[i.toNat]! = r at ht hx
  obtain ⟨ra, rc, rx⟩ := r
  simp only at ht hx
  rw [ht] at hk ⊢
  have g1 : (oT E2 ys).ok w := hS.g1
  have hrow : Own w 0 E2 (El.m α) ra rx.length rc (encs rx) := by have := g1.1 i.toNat 0 hilt Nat.zero_lt_one id; rw [hr] at this; exact this
  -- the row apart, the table and the other rows beside it
  have hS1 : Sep w B (oS E2 ra rx.length rc rx :: oR E2 ys (fun i' _ => i' = i.toNat) :: oS E a n cap ys :: L) := by
    refine hS.f1.split hrow ⟨fun i1 j h1 hj hX => g1.1 i1 j h1 hj id, fun i1 j i2 j2 q h1 hj _ h2 hj2 _ => g1.2 i1 j i2 j2 q h1 hj id h2 hj2 id⟩ ?_ ?_
    · rintro q (hq | ⟨i1, j, h1, hj, _, hq⟩)
      · exact ⟨i.toNat, 0, hilt, Nat.zero_lt_one, id, by rw [hr]; exact hq⟩
      · exact ⟨i1, j, h1, hj, id, hq⟩
    · rintro q hq ⟨i1, j, h1, hj, hX, hq2⟩
      exact hX (g1.2 i1 j i.toNat 0 q h1 hj id hilt Nat.zero_lt_one id hq2 (by rw [hr]; exact hq)).1
  refine (q_store hS1 hsz hk hx hy hc).mono ?_
  rintro v' w' ⟨h1, h2, h3⟩
  have e : ∀ j, (ys.set i.toNat ((ra, rc, rx.set k.toNat v) : Hd α))[j]! = if i.toNat = j then (ra, rc, rx.set k.toNat v) else ys[j]! := fun j => by
    simp only [List.getElem!_eq_getElem?_getD, List.getElem?_set]
    by_cases hj : i.toNat = j
    · subst hj; simp [hilt]
    · simp [hj]
  have hk1 : ∀ j, j < Rw.k (Hd α) → j = 0 := fun j hj => by have h1 : j < 1 := hj; omega
  refine ⟨h1, ys.set i.toNat (ra, rc, rx.set k.toNat v), by rw [← he]; simp [ers, Er.er], ?_, h3⟩
  have hX : ∀ j, ¬ j = i.toNat → (if i.toNat = j then ((ra, rc, rx.set k.toNat v) : Hd α) else ys[j]!) = ys[j]! := fun j hj => if_neg (fun x => hj x.symm)
  have hrow2 : Own w' 0 E2 (El.m α) ra rx.length rc (encs (rx.set k.toNat v)) := h2.g0
  have hoth := h2.g1
  have hjoin : Sep w' B (oT E2 (ys.set i.toNat (ra, rc, rx.set k.toNat v)) :: oS E a n cap ys :: L) := by
    refine h2.join ⟨fun i1 j hi1 hj _ => ?_, fun i1 j i2 j2 q hi1 hj _ hi2 hj2 _ hq hq2 => ?_⟩ ?_
    · rw [e i1]
      by_cases hc : i1 = i.toNat
      · rw [if_pos hc.symm]; simpa [Rw.row] using hrow2
      · rw [hX i1 hc]; exact hoth.1 i1 j (by simpa using hi1) hj hc
    · refine ⟨?_, by rw [hk1 j hj, hk1 j2 hj2]⟩
      rw [e i1] at hq
      rw [e i2] at hq2
      have hblk : ∀ i', (blk (Rw.row (if i.toNat = i' then ((ra, rc, rx.set k.toNat v) : Hd α) else ys[i']!) 0).1) = blk (Rw.row ys[i']! 0).1 := by
        intro i'
        by_cases hc : i.toNat = i'
        · subst hc; rw [if_pos rfl, hr]; rfl
        · rw [if_neg hc]
      rw [hk1 j hj, hblk] at hq
      rw [hk1 j2 hj2, hblk] at hq2
      exact (g1.2 i1 0 i2 0 q (by simpa using hi1) Nat.zero_lt_one id (by simpa using hi2) Nat.zero_lt_one id hq hq2).1
    · rintro q ⟨i1, j, hi1, hj, _, hq⟩
      rw [e i1] at hq
      by_cases hc : i1 = i.toNat
      · rw [if_pos hc.symm] at hq; exact .inl hq
      · rw [hX i1 hc] at hq; exact .inr ⟨i1, j, by simpa using hi1, hj, hc, hq⟩
  have hf := hjoin.f1
  refine hf.repl ?_ fun q hq => hq
  have hO : Own w' 0 E (El.m (Hd α)) a n cap (encs ys) := hf.g0
  have : encs (ys.set i.toNat ((ra, rc, rx.set k.toNat v) : Hd α)) = encs ys := by
    have h5 := splE0 (xs := ys) i.toNat (ra, rc, rx.set k.toNat v) hilt
    rw [← h5]
    have h6 : El.enc ((ra, rc, rx.set k.toNat v) : Hd α) = El.enc ys[i.toNat]! := by rw [hr]; simp [El.enc, hdC]
    rw [h6, splE0 i.toNat _ hilt]
    congr 1
    apply List.ext_getElem?
    intro j
    simp only [List.getElem?_set]
    by_cases hj : i.toNat = j
    · subst hj; simp [hilt]
    · simp [hj]
  show Own w' 0 E (El.m (Hd α)) a n cap (encs (ys.set i.toNat ((ra, rc, rx.set k.toNat v) : Hd α)))
  rw [this]; exact hO
theorem Sep.call1 {w w' : World} {B : Nat} {L : List Ob} {o : Ob} (h : Sep w B L) (hE : Ext w w') (hN : Sep w' w.heap.size [o]) : Sep w' B (o :: L) := h.call hE hN
theorem Sep.call2 {w w' : World} {B : Nat} {L : List Ob} {o o' : Ob} (h : Sep w B L) (hE : Ext w w') (hN : Sep w' w.heap.size [o, o']) : Sep w' B (o :: o' :: L) := h.call hE hN
theorem Sep.call3 {w w' : World} {B : Nat} {L : List Ob} {o o' o2 : Ob} (h : Sep w B L) (hE : Ext w w') (hN : Sep w' w.heap.size [o, o', o2]) : Sep w' B (o :: o' :: o2 :: L) := h.call hE hN

/- guards whose answer is known -/
section
variable {P : Program} {n : Nat} {Q : QE} {e : Env} {w : World}
theorem wl_stepT {ops rest : List Oper} {o : Oper} {R : Value → World → Prop} (hg : gv ops e o = true) (h : OpG P o e w R)
    (hk : ∀ v w', R v w' → Wl P n ops Q rest (put e o.dst v) w') : Wl P n ops Q (o :: rest) e w := by
  refine ⟨fun hops hok => ?_⟩
  have hoo := hok o (by simp)
  refine wpList_step fun K hK => ?_
  rw [gv_wanted hops, hg, if_pos rfl]
  refine h.wp hoo K _ fun v w' hR => hK _ _ ?_
  rw [act_put e o.dst v (okO_dst hoo)]
  exact (hk v w' hR).run hops fun o' ho' => hok o' (by simp [ho'])
theorem wl_valT {ops rest : List Oper} {o : Oper} {v : Value} {w' : World} (h : OpG P o e w (Is v w')) (hg : gv ops e o = true)
    (hk : Wl P n ops Q rest (put e o.dst v) w') : Wl P n ops Q (o :: rest) e w :=
  wl_stepT hg h fun v1 w1 ⟨h1, h2⟩ => by subst h1; subst h2; exact hk
theorem wl_skipF {ops rest : List Oper} {o : Oper} (hg : gv ops e o = false) (hk : Wl P n ops Q rest (put e o.dst undef) w) : Wl P n ops Q (o :: rest) e w := by
  refine ⟨fun hops hok => ?_⟩
  have hoo := hok o (by simp)
  refine wpList_step fun K hK => ?_
  rw [gv_wanted hops, hg, if_neg (by simp)]
  refine hK _ _ ?_
  rw [act_put e o.dst undef (okO_dst hoo)]
  exact hk.run hops fun o' ho' => hok o' (by simp [ho'])
theorem gv_T {ops : List Oper} {e : Env} {o : Oper} {want x : Bool} (h : gv ops e o = (x == want)) (hx : x = want) : gv ops e o = true := by rw [h, hx]; cases want <;> rfl
theorem gv_F {ops : List Oper} {e : Env} {o : Oper} {want x : Bool} (h : gv ops e o = (x == want)) (hx : x = !want) : gv ops e o = false := by rw [h, hx]; cases want <;> rfl
theorem g_pickT {P : Program} {d : Option Nat} {t : TypeId} {p : String} {af : Array Edge} {gd : Option (Nat × Bool)} {c x y : Operand} {b : Bool} {v : Value} (hc : ev e c = .bool b) (hb : b = true) (hx : ev e x = v) : OpG P ⟨d, .pick c x y, t, p, af, gd⟩ e w (Is v w) := g_pick hc (fun _ => hx) (fun h => by rw [hb] at h; cases h)
theorem g_pickF {P : Program} {d : Option Nat} {t : TypeId} {p : String} {af : Array Edge} {gd : Option (Nat × Bool)} {c x y : Operand} {b : Bool} {v : Value} (hc : ev e c = .bool b) (hb : b = false) (hy : ev e y = v) : OpG P ⟨d, .pick c x y, t, p, af, gd⟩ e w (Is v w) := g_pick hc (fun h => by rw [hb] at h; cases h) (fun _ => hy)
end
theorem b_F {b : Bool} (h : ¬ b = true) : b = false := by cases b <;> simp_all
theorem b_T {b : Bool} (h : ¬ b = false) : b = true := by cases b <;> simp_all

/- one row taken out of a table, and laid back -/
class Rs (δ : Type) {α : outParam Type} [El δ] [El α] [Rw δ α] where
  rset : δ → Nat → List α → δ
  same : ∀ y j xs, j < Rw.k δ → Rw.row (rset y j xs) j = ((Rw.row y j).1, (Rw.row y j).2.1, xs)
  other : ∀ y j xs j', j < Rw.k δ → j' < Rw.k δ → j' ≠ j → Rw.row (rset y j xs) j' = Rw.row y j'
  enc : ∀ y j xs, j < Rw.k δ → xs.length = (Rw.row y j).2.2.length → El.enc (rset y j xs) = El.enc y
instance {α : Type} [El α] : Rs (Hd α) := ⟨fun y _ xs => (y.1, y.2.1, xs), fun _ _ _ _ => rfl, fun y j xs j' h1 h2 h3 => by
    have h1' : j < 1 := h1
    have h2' : j' < 1 := h2
    omega, fun y j xs _ h => by simp only [El.enc, hdC]; rw [h]; rfl⟩
instance : Rs PlayerD := ⟨fun y _ xs => ((y.1.1, y.1.2.1, xs), y.2), fun _ _ _ _ => rfl, fun y j xs j' h1 h2 h3 => by
    have h1' : j < 1 := h1
    have h2' : j' < 1 := h2
    omega, fun y j xs _ h => by simp only [El.enc, hdC]; rw [h]; rfl⟩
instance : Rs CueD := ⟨fun y j xs => if j = 0 then (y.1, (y.2.1.1, y.2.1.2.1, xs), y.2.2) else (y.1, y.2.1, (y.2.2.1, y.2.2.2.1, xs)), fun y j xs hj => by
    by_cases h : j = 0
    · subst h; rfl
    · simp [Rw.row, h], fun y j xs j' h1 h2 h3 => by
    have h1' : j < 2 := h1
    have h2' : j' < 2 := h2
    by_cases h : j = 0
    · subst h
      have : j' = 1 := by omega
      subst this; rfl
    · have : j' = 0 := by omega
      subst this; simp [Rw.row, h], fun y j xs hj h => by
    by_cases h0 : j = 0
    · subst h0; simp only [if_pos, El.enc, hdC]; rw [h]; rfl
    · simp only [if_neg h0, El.enc, hdC]; rw [h]; simp [Rw.row, h0]⟩
section
variable {w w' : World} {B n c i j : Nat} {a : Option Addr} {E E2 : TypeId} {L : List Ob} {δ γ α : Type} [El δ] [Inhabited δ] [El α] [Inhabited α] [Rw δ α] [Rs δ] [Er δ γ] [Inhabited γ] {ys : List δ}
theorem set_at (ys : List δ) (i : Nat) (y : δ) (hi : i < ys.length) (k : Nat) : (ys.set i y)[k]! = if i = k then y else ys[k]! := by
  have _ := (inferInstance : El δ)
  simp only [List.getElem!_eq_getElem?_getD, List.getElem?_set]
  by_cases hj : i = k
  · subst hj; simp [hi]
  · simp [hj]
theorem Sep.foc {xs : List α} (hS : Sep w B (oS E a n c ys :: oT E2 ys :: L)) (hi : i < ys.length) (hj : j < Rw.k δ) (hx : (Rw.row ys[i]! j).2.2 = xs) :
    Sep w B (oS E2 (Rw.row ys[i]! j).1 (Rw.row ys[i]! j).2.2.length (Rw.row ys[i]! j).2.1 xs :: oR E2 ys (fun i' j' => i' = i ∧ j' = j) :: oS E a n c ys :: L) := by
  have _ := (inferInstance : Inhabited α)
  have _ := (inferInstance : Rs δ)
  have g1 : (oT E2 ys).ok w := hS.g1
  subst hx
  refine hS.f1.split (g1.1 i j hi hj id) ⟨fun i1 j1 h1 hj1 _ => g1.1 i1 j1 h1 hj1 id, fun i1 j1 i2 j2 q h1 hj1 _ h2 hj2 _ => g1.2 i1 j1 i2 j2 q h1 hj1 id h2 hj2 id⟩ ?_ ?_
  · rintro q (hq | ⟨i1, j1, h1, hj1, _, hq⟩)
    · exact ⟨i, j, hi, hj, id, hq⟩
    · exact ⟨i1, j1, h1, hj1, id, hq⟩
  · rintro q hq ⟨i1, j1, h1, hj1, hX, hq2⟩
    exact hX (g1.2 i1 j1 i j q h1 hj1 id hi hj id hq2 hq)
theorem Sep.unfoc {xs : List α} {nr : Nat} (h2 : Sep w B (oS E2 (Rw.row ys[i]! j).1 nr (Rw.row ys[i]! j).2.1 xs :: oR E2 ys (fun i' j' => i' = i ∧ j' = j) :: oS E a n c ys :: L)) (hi : i < ys.length) (hj : j < Rw.k δ) (hn : nr = (Rw.row ys[i]! j).2.2.length)
    (hd : ∀ i1 j1 i2 j2 q, i1 < ys.length → j1 < Rw.k δ → i2 < ys.length → j2 < Rw.k δ → blk (Rw.row ys[i1]! j1).1 = some q → blk (Rw.row ys[i2]! j2).1 = some q → i1 = i2 ∧ j1 = j2) :
    Sep w B (oS E a n c (ys.set i (Rs.rset ys[i]! j xs)) :: oT E2 (ys.set i (Rs.rset ys[i]! j xs)) :: L) := by
  have hl : xs.length = (Rw.row ys[i]! j).2.2.length := (oS.len h2.g0).symm.trans hn
  have hrow2 : Own w 0 E2 (El.m α) (Rw.row ys[i]! j).1 xs.length (Rw.row ys[i]! j).2.1 (encs xs) := by have := h2.g0; rw [oS.len h2.g0] at this; exact this
  have hoth := h2.g1
  have hrw : ∀ i1 j1, i1 < ys.length → j1 < Rw.k δ → Rw.row (ys.set i (Rs.rset ys[i]! j xs))[i1]! j1 = if i1 = i ∧ j1 = j then ((Rw.row ys[i]! j).1, (Rw.row ys[i]! j).2.1, xs) else Rw.row ys[i1]! j1 := by
    intro i1 j1 h1 hj1
    rw [set_at ys i _ hi]
    by_cases hc : i = i1
    · subst hc
      rw [if_pos rfl]
      by_cases hd : j1 = j
      · subst hd; rw [if_pos ⟨rfl, rfl⟩, Rs.same _ _ _ hj1]
      · rw [if_neg (fun x => hd x.2), Rs.other _ _ _ _ hj hj1 hd]
    · rw [if_neg hc, if_neg (fun x => hc x.1.symm)]
  have hb : ∀ i1 j1, i1 < ys.length → j1 < Rw.k δ → (Rw.row (ys.set i (Rs.rset ys[i]! j xs))[i1]! j1).1 = (Rw.row ys[i1]! j1).1 := by
    intro i1 j1 h1 hj1
    rw [hrw i1 j1 h1 hj1]
    by_cases hc : i1 = i ∧ j1 = j
    · rw [if_pos hc, hc.1, hc.2]
    · rw [if_neg hc]
  have hjoin : Sep w B (oT E2 (ys.set i (Rs.rset ys[i]! j xs)) :: oS E a n c ys :: L) := by
    refine h2.join ⟨fun i1 j1 hi1 hj1 _ => ?_, fun i1 j1 i2 j2 q hi1 hj1 _ hi2 hj2 _ hq hq2 => ?_⟩ ?_
    · rw [List.length_set] at hi1
      rw [hrw i1 j1 hi1 hj1]
      by_cases hc : i1 = i ∧ j1 = j
      · rw [if_pos hc]; exact hrow2
      · rw [if_neg hc]; exact hoth.1 i1 j1 hi1 hj1 hc
    · rw [List.length_set] at hi1 hi2
      rw [hb i1 j1 hi1 hj1] at hq
      rw [hb i2 j2 hi2 hj2] at hq2
      exact hd i1 j1 i2 j2 q hi1 hj1 hi2 hj2 hq hq2
    · rintro q ⟨i1, j1, hi1, hj1, _, hq⟩
      rw [List.length_set] at hi1
      rw [hb i1 j1 hi1 hj1] at hq
      by_cases hc : i1 = i ∧ j1 = j
      · obtain ⟨rfl, rfl⟩ := hc; exact .inl hq
      · exact .inr ⟨i1, j1, hi1, hj1, hc, hq⟩
  refine hjoin.f1.repl ?_ fun q hq => hq
  have hO : Own w 0 E (El.m δ) a n c (encs ys) := hjoin.f1.g0
  have : encs (ys.set i (Rs.rset ys[i]! j xs)) = encs ys := by
    rw [← splE0 (xs := ys) i _ hi, Rs.enc _ _ _ hj hl, splE0 i _ hi]
    congr 1
    apply List.ext_getElem?
    intro k
    simp only [List.getElem?_set]
    by_cases hj : i = k
    · subst hj; simp [hi]
    · simp [hj]
  show Own w 0 E (El.m δ) a n c (encs (ys.set i (Rs.rset ys[i]! j xs)))
  rw [this]; exact hO
theorem Sep.dis (hS : Sep w B (oS E a n c ys :: oT E2 ys :: L)) : ∀ i1 j1 i2 j2 q, i1 < ys.length → j1 < Rw.k δ → i2 < ys.length → j2 < Rw.k δ → blk (Rw.row ys[i1]! j1).1 = some q → blk (Rw.row ys[i2]! j2).1 = some q → i1 = i2 ∧ j1 = j2 :=
  have _ := (inferInstance : Inhabited α); have _ := (inferInstance : Rs δ); fun i1 j1 i2 j2 q h1 h2 h3 h4 => hS.g1.2 i1 j1 i2 j2 q h1 h2 id h3 h4 id
theorem ers_set {t : List γ} {y : δ} {z : γ} (he : ers ys = t) (hz : Er.er y = z) (i : Nat) : ers (ys.set i y) = t.set i z := by have _ := (inferInstance : El δ); have _ := (inferInstance : Inhabited δ); have _ := (inferInstance : Inhabited γ); rw [← he, ← hz]; simp [ers, List.map_set]
/-- the rows do not see what else stands in an element -/
theorem Sep.rowsSame {ys' : List δ} (h : Sep w B (oT E2 ys :: L)) (hl : ys'.length = ys.length) (hr : ∀ i j, i < ys.length → j < Rw.k δ → Rw.row ys'[i]! j = Rw.row ys[i]! j) : Sep w B (oT E2 ys' :: L) := by
  have _ := (inferInstance : Rs δ)
  have _ := (inferInstance : Inhabited α)
  have _ := (inferInstance : El δ)
  refine h.repl ⟨fun i j hi hj _ => ?_, fun i1 j1 i2 j2 q h1 hj1 _ h2 hj2 _ hq hq2 => ?_⟩ ?_
  · rw [hl] at hi; rw [hr i j hi hj]; exact h.g0.1 i j hi hj id
  · rw [hl] at h1 h2; rw [hr _ _ h1 hj1] at hq; rw [hr _ _ h2 hj2] at hq2; exact h.g0.2 i1 j1 i2 j2 q h1 hj1 id h2 hj2 id hq hq2
  · rintro q ⟨i, j, hi, hj, _, hq⟩
    rw [hl] at hi; rw [hr i j hi hj] at hq; exact ⟨i, j, hi, hj, id, hq⟩
end
theorem Sep.rowsPlayer {w : World} {B : Nat} {L : List Ob} {E : TypeId} {a : Option Addr} {n c : Nat} {xs : List Int} (p : Int) (h : Sep w B (oS E a n c xs :: L)) : Sep w B (oT E [(((a, c, xs), p) : PlayerD)] :: L) := by
  have hn := oS.len h.g0
  subst hn
  have e : ∀ i j, i < [(((a, c, xs), p) : PlayerD)].length → Rw.row ([(((a, c, xs), p) : PlayerD)][i]!) j = (a, c, xs) := by
    intro i j hi
    have : i = 0 := by simp at hi; exact hi
    subst this; rfl
  have hk1 : ∀ j, j < Rw.k PlayerD → j = 0 := fun j hj => by have h1 : j < 1 := hj; omega
  refine h.repl ⟨fun i j hi hj _ => ?_, fun i j i' j' k hi hj _ hi' hj' _ _ _ => ?_⟩ ?_
  · rw [e i j hi]; exact h.g0
  · simp at hi hi'; exact ⟨by omega, by rw [hk1 j hj, hk1 j' hj']⟩
  · rintro k ⟨i, j, hi, hj, _, hk⟩
    rw [e i j hi] at hk; exact hk
theorem Sep.rowsCue {w : World} {B : Nat} {L : List Ob} {E : TypeId} {a a' : Option Addr} {n c n' c' : Nat} {xs xs' : List Int} (p : Int) (h : Sep w B (oS E a n c xs :: oS E a' n' c' xs' :: L)) : Sep w B (oT E [((p, (a, c, xs), (a', c', xs')) : CueD)] :: L) := by
  have hn := oS.len h.g0
  have hn' := oS.len h.g1
  subst hn hn'
  have e : ∀ i j, i < [((p, (a, c, xs), (a', c', xs')) : CueD)].length → Rw.row ([((p, (a, c, xs), (a', c', xs')) : CueD)][i]!) j = if j = 0 then (a, c, xs) else (a', c', xs') := by
    intro i j hi
    have : i = 0 := by simp at hi; exact hi
    subst this; rfl
  have hk1 : ∀ j, j < Rw.k CueD → j = 0 ∨ j = 1 := fun j hj => by have h1 : j < 2 := hj; omega
  have hd : ∀ k, blk a = some k → blk a' ≠ some k := fun k h1 h2 => (h.h.2.1 k h1).2 (.inl h2)
  refine h.join ⟨fun i j hi hj _ => ?_, fun i j i' j' k hi hj _ hi' hj' _ hk hk' => ?_⟩ ?_
  · rw [e i j hi]
    rcases hk1 j hj with rfl | rfl
    · exact h.g0
    · exact h.g1
  · rw [e i j hi] at hk
    rw [e i' j' hi'] at hk'
    simp at hi hi'
    refine ⟨by omega, ?_⟩
    rcases hk1 j hj with rfl | rfl <;> rcases hk1 j' hj' with rfl | rfl
    · rfl
    · exact absurd hk' (hd k hk)
    · exact absurd hk (hd k hk')
    · rfl
  · rintro k ⟨i, j, hi, hj, _, hk⟩
    rw [e i j hi] at hk
    rcases hk1 j hj with rfl | rfl
    · exact .inl hk
    · exact .inr hk
theorem gd_in {C p : Prop} [Decidable C] [Decidable p] {v : Value} (h : C) : (if C ∧ p then v else undef) = if p then v else undef := by simp [h]
/- regions that make new memory and work on it: all below N is as it was -/
def BelN (N : Nat) (a b : World) : Prop := N ≤ a.heap.size → Below N a b
theorem BelN.trans {N : Nat} {a b c : World} (h1 : BelN N a b) (h2 : BelN N b c) : BelN N a c := fun hn => (h1 hn).trans (h2 (Nat.le_trans hn (h1 hn).size))
theorem Ext.belN {N : Nat} {a b : World} (h : Ext a b) : BelN N a b := fun hn => Ext.stp h hn
theorem bel_le {N B : Nat} {a b : World} (h : Below N a b) (hB : B ≤ N) : Below B a b := ⟨h.os, h.tape, h.output, h.size, fun k hk => h.block k (Nat.lt_of_lt_of_le hk hB)⟩
theorem Sep.belN {w w' : World} {B N : Nat} {L : List Ob} (h : Sep w B L) (hlt : ∀ k, fps L k → k < N) (hb : Below N w w') : Sep w' B L := ⟨h.h.keep (fun k hk => hb.block k (hlt k hk)) hb.size⟩
theorem Sep.all {w : World} {B : Nat} {L : List Ob} (h : Sep w B L) : ∀ k, fps L k → k < w.heap.size := fun k hk => (h.h.lt k hk).2
section
variable {w w' : World} {B : Nat} {L : List Ob} {a b c d o : Ob}
theorem Sep.app0 (_ : Sep w' w.heap.size []) (hL : Sep w' B L) (_ : ∀ k, fps L k → k < w.heap.size) (_ : B ≤ w.heap.size) : Sep w' B L := hL
theorem Sep.app1 (h : Sep w' w.heap.size [a]) (hL : Sep w' B L) (hl : ∀ k, fps L k → k < w.heap.size) (hB : B ≤ w.heap.size) : Sep w' B (a :: L) := Sep.app h hL hl hB
theorem Sep.app2 (h : Sep w' w.heap.size [a, b]) (hL : Sep w' B L) (hl : ∀ k, fps L k → k < w.heap.size) (hB : B ≤ w.heap.size) : Sep w' B (a :: b :: L) := Sep.app h hL hl hB
theorem Sep.app3 (h : Sep w' w.heap.size [a, b, c]) (hL : Sep w' B L) (hl : ∀ k, fps L k → k < w.heap.size) (hB : B ≤ w.heap.size) : Sep w' B (a :: b :: c :: L) := Sep.app h hL hl hB
theorem Sep.app4 (h : Sep w' w.heap.size [a, b, c, d]) (hL : Sep w' B L) (hl : ∀ k, fps L k → k < w.heap.size) (hB : B ≤ w.heap.size) : Sep w' B (a :: b :: c :: d :: L) := Sep.app h hL hl hB
theorem Sep.app5 (h : Sep w' w.heap.size [a, b, c, d, o]) (hL : Sep w' B L) (hl : ∀ k, fps L k → k < w.heap.size) (hB : B ≤ w.heap.size) : Sep w' B (a :: b :: c :: d :: o :: L) := Sep.app h hL hl hB
end
theorem kt_fin {P : Program} {ops : List Oper} {Q : QE} {X Y : World → World → Prop} {bars : List Nat} {e : Env} {w : World} (h : Q .normal e w) : QK (Kt P ops Q X Y bars .fin) .normal e w := h
theorem kt_two {P : Program} {ops : List Oper} {Q : QE} {X Y : World → World → Prop} {bars : List Nat} {e : Env} {w : World} {b1 b2 : Nat} {s1 s2 : List Nat} {t1 t2 : DT}
    (h1 : Wd P ops (QK (Kt P ops Q X Y bars t1)) X Y (zl ops bars (b1 :: s1)) e w) (h2 : Wd P ops (QK (Kt P ops Q X Y bars t2)) X Y (zl ops bars (b2 :: s2)) e w) : QK (Kt P ops Q X Y bars (.two b1 s1 t1 b2 s2 t2)) .normal e w := ⟨h1, h2⟩
theorem args5 {e : Env} {x0 x1 x2 x3 x4 : Operand} {v0 v1 v2 v3 v4 : Value} (h0 : ev e x0 = v0) (h1 : ev e x1 = v1) (h2 : ev e x2 = v2) (h3 : ev e x3 = v3) (h4 : ev e x4 = v4) : #[x0, x1, x2, x3, x4].map (ev e) = #[v0, v1, v2, v3, v4] := by subst h0; subst h1; subst h2; subst h3; subst h4; simp
theorem args6 {e : Env} {x0 x1 x2 x3 x4 x5 : Operand} {v0 v1 v2 v3 v4 v5 : Value} (h0 : ev e x0 = v0) (h1 : ev e x1 = v1) (h2 : ev e x2 = v2) (h3 : ev e x3 = v3) (h4 : ev e x4 = v4) (h5 : ev e x5 = v5) : #[x0, x1, x2, x3, x4, x5].map (ev e) = #[v0, v1, v2, v3, v4, v5] := by subst h0; subst h1; subst h2; subst h3; subst h4; subst h5; simp
theorem tn_le {h : Int} {n : Nat} (hg : 0 ≤ h ∧ h ≤ (n : Int)) : h.toNat ≤ n := by omega
theorem Vw.upN {α : Type} [El α] {B n c : Nat} {w : World} {a : Option Addr} {xs : List α} (h : Vw B w a n c xs) (hB : B ≤ w.heap.size) : Vw w.heap.size w a n c xs := ⟨h.cells.wide (Nat.le_refl _) hB, h.len, h.nil, h.le⟩
theorem Tv.upN {δ γ α : Type} [El δ] [Inhabited δ] [Rw δ α] [El α] [Er δ γ] {B n c : Nat} {w : World} {a : Option Addr} {ys : List δ} {t : List γ} (h : Tv B w a n c ys t) (hB : B ≤ w.heap.size) : Tv w.heap.size w a n c ys t := ⟨h.o.upN hB, fun i j h1 h2 => (h.r i j h1 h2).upN hB, h.e⟩
theorem hd_cells {α : Type} {a : Option Addr} {n c : Nat} {xs : List α} (h : n = xs.length) : (Value.slice a n c).cells = (El.enc ((a, c, xs) : Hd α)).toArray := by subst h; rfl
theorem Own.nilB {w : World} (E sz : Nat) : Own w 0 E sz none 0 0 [] := Own.nilrow w 0 E sz
theorem ret0 {n : Nat} {e : Env} {w : World} {P : Program} {fn : Func} {R : Value → World → Prop} (hr : fn.results = #[]) (h : R (.tuple #[]) w) : retQ P fn n R .ret e w := ret_run (v := .tuple #[]) (by simp [results, hr]) h
theorem ret0n {n : Nat} {e : Env} {w : World} {P : Program} {fn : Func} {R : Value → World → Prop} (hr : fn.results = #[]) (h : R (.tuple #[]) w) : retQ P fn n R .normal e w := by
  have := ret0 (n := n) (e := e) (P := P) (fn := fn) (R := R) hr h
  obtain ⟨v, h1, h2⟩ := this
  exact ⟨v, h1, h2⟩
theorem g_callvc {P : Program} {e : Env} {w : World} {d : Option Nat} {t : TypeId} {p : String} {af : Array Edge} {gd : Option (Nat × Bool)} {f : FuncId} {x : Operand} {args : Array Operand} {tys : Array TypeId} {va cap vs : Array Value} {R : Value → World → Prop} (hc : CallF P f) (hx : ev e x = .func (.func f) #[] cap) (ha : args.map (ev e) = va) (hv : va ++ cap = vs) (hF : Fn P f vs w R) : OpG P ⟨d, .call ⟨.value x, args, tys⟩, t, p, af, gd⟩ e w R := by
  subst hv; exact g_callc hc hx ha hF
end Go.Proofs.Ytddjkiefadiijaa
